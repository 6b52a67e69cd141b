/- The machine side of a law: Lean functions with the Go functions' answers and the walks that show it. No condition. -/
import Derived.Test.YtcflalomjehiiaaQFnExactTakeNextx0
import Derived.Test.YtcflalomjehiiaaQFnExactTakeNextx2
import Derived.Test.YtcflalomjehiiaaQFnExactTakeNextx6
import Derived.Test.YtcflalomjehiiaaQFnExactTakeNextx7
import Derived.Test.YtcflalomjehiiaaQFnExactTakeNextx11
import Derived.Test.YtcflalomjehiiaaQFnExactTakeNextx12
namespace Go.Proofs.Ytcflalomjehiiaa.QFnExactTakeNext
open Go.RowKit Go.Proofs.YtcflalomjehiiaaW.PrintWords Go.Proofs.YtcflalomjehiiaaW.PrintLast Go.Proofs.YtcflalomjehiiaaW.PrintMore
attribute [local go_sem] max2_int min2_int max_two min_two max_three min_three max_four min_four   -- for this text's walks alone
set_option linter.unusedVariables false
set_option linter.unusedSimpArgs false

/-! ### laws_FnExactTakeNext: function 13 -/
mutual
def laws_FnExactTakeNext.j0 : Nat → Int → Int → Bool → List Int → Bool → List Int → Bool → Int → Int → Int → Int → List Int → Bool → List Int → Bool → Int → Int → Int → Int → Option (Bool)
 | 0, _, _, _, _, _, _, _, _, _, _, _, _, _, _, _, _, _, _, _ => none
 | k + 1, x6, x10, x51, x412000, x412001, x427000, x427001, x428000, x428001, x428002, x428003, x433000, x433001, x443000, x443001, x444000, x444001, x444002, x444003 => if x51 = true then (some false) else ((laws_toDecoder.f k x412000 x412001).bind fun bt446 => ((laws_eqDecoder.f k x433000 x433001 bt446.1 bt446.2).bind fun t450 => (if t450 = true then ((laws_markDecoder.f k x433000 x433001 1).bind fun bt451 => (if bt451.1 < 0 then (laws_FnExactTakeNext.j1 k x6 true x412000 x412001 x427000 x427001 x428000 x428001 x428002 x428003 x443000 x443001) else ((laws_eqDecoder.f k x443000 x443001 x427000 x427001).bind fun t453 => (if t453 = true then ((laws_eqFrame.f x444000 x444001 x444002 x444003 x428000 x428001 x428002 x428003).bind fun t454 => (if t454 = true then (laws_FnExactTakeNext.j1 k x6 (x10 != x6) x412000 x412001 x427000 x427001 x428000 x428001 x428002 x428003 x443000 x443001) else (laws_FnExactTakeNext.j1 k x6 true x412000 x412001 x427000 x427001 x428000 x428001 x428002 x428003 x443000 x443001))) else (laws_FnExactTakeNext.j1 k x6 true x412000 x412001 x427000 x427001 x428000 x428001 x428002 x428003 x443000 x443001))))) else (some false))))
def laws_FnExactTakeNext.j1 : Nat → Int → Bool → List Int → Bool → List Int → Bool → Int → Int → Int → Int → List Int → Bool → Option (Bool)
 | 0, _, _, _, _, _, _, _, _, _, _, _, _ => none
 | k + 1, x6, x78, x412000, x412001, x427000, x427001, x428000, x428001, x428002, x428003, x443000, x443001 => if x78 = true then (some false) else ((laws_markDecoder.f k x443000 x443001 1).bind fun bt455 => ((laws_heldDecoder.f k bt455.2 x443001 1).bind fun t457 => (if t457 < 0 then (some false) else (if t457 = bt455.1 then ((laws_toDecoder.f k x412000 x412001).bind fun bt458 => ((impl_TakeNext.f k bt458.1 bt458.2).bind fun bt462 => ((laws_eqDecoder.f k bt462.1 bt462.2.1 x427000 x427001).bind fun t473 => (if t473 = true then ((laws_eqFrame.f bt462.2.2.1 bt462.2.2.2.1 bt462.2.2.2.2.1 bt462.2.2.2.2.2.1 x428000 x428001 x428002 x428003).bind fun t474 => (if t474 = true then (laws_FnExactTakeNext.j2 k bt455.1 (bt462.2.2.2.2.2.2 != x6) bt455.2 x443001) else (laws_FnExactTakeNext.j2 k bt455.1 true bt455.2 x443001))) else (laws_FnExactTakeNext.j2 k bt455.1 true bt455.2 x443001))))) else (some false)))))
def laws_FnExactTakeNext.j2 : Nat → Int → Bool → List Int → Bool → Option (Bool)
 | 0, _, _, _, _ => none
 | k + 1, x12, x111, x443000, x443001 => if x111 = true then (some false) else ((laws_heldDecoder.f k x443000 x443001 1).bind fun t475 => (if t475 < 0 then (some false) else (if t475 = x12 then (some true) else (some false))))
end
def laws_FnExactTakeNext.f (k : Nat) (l0_0 : List Int) (a0_1 : Bool) : Option (Bool) := (laws_szDecoder.f l0_0 a0_1 1048576).bind fun t412 => (if t412 < 0 then (some true) else ((laws_toDecoder.f k l0_0 a0_1).bind fun bt413 => ((spec_TakeNext.f k bt413.1 bt413.2).bind fun bt417 => ((laws_toDecoder.f k l0_0 a0_1).bind fun bt428 => ((impl_TakeNext.f k bt428.1 bt428.2).bind fun bt433 => ((laws_eqDecoder.f k bt433.1 bt433.2.1 bt417.1 bt417.2.1).bind fun t444 => (if t444 = true then ((laws_eqFrame.f bt433.2.2.1 bt433.2.2.2.1 bt433.2.2.2.2.1 bt433.2.2.2.2.2.1 bt417.2.2.1 bt417.2.2.2.1 bt417.2.2.2.2.1 bt417.2.2.2.2.2.1).bind fun t445 => (if t445 = true then (laws_FnExactTakeNext.j0 k bt417.2.2.2.2.2.2 bt433.2.2.2.2.2.2 (bt433.2.2.2.2.2.2 != bt417.2.2.2.2.2.2) l0_0 a0_1 bt417.1 bt417.2.1 bt417.2.2.1 bt417.2.2.2.1 bt417.2.2.2.2.1 bt417.2.2.2.2.2.1 bt428.1 bt428.2 bt433.1 bt433.2.1 bt433.2.2.1 bt433.2.2.2.1 bt433.2.2.2.2.1 bt433.2.2.2.2.2.1) else (laws_FnExactTakeNext.j0 k bt417.2.2.2.2.2.2 bt433.2.2.2.2.2.2 true l0_0 a0_1 bt417.1 bt417.2.1 bt417.2.2.1 bt417.2.2.2.1 bt417.2.2.2.2.1 bt417.2.2.2.2.2.1 bt428.1 bt428.2 bt433.1 bt433.2.1 bt433.2.2.1 bt433.2.2.2.1 bt433.2.2.2.2.1 bt433.2.2.2.2.2.1))) else (laws_FnExactTakeNext.j0 k bt417.2.2.2.2.2.2 bt433.2.2.2.2.2.2 true l0_0 a0_1 bt417.1 bt417.2.1 bt417.2.2.1 bt417.2.2.2.1 bt417.2.2.2.2.1 bt417.2.2.2.2.2.1 bt428.1 bt428.2 bt433.1 bt433.2.1 bt433.2.2.1 bt433.2.2.2.1 bt433.2.2.2.2.1 bt433.2.2.2.2.2.1))))))))
theorem laws_FnExactTakeNext.mono_l : ∀ k, (∀ y0 y1 y2 y3 y4 y5 y6 y7 y8 y9 y10 y11 y12 y13 y14 y15 y16 y17 y18, LeO (laws_FnExactTakeNext.j0 k y0 y1 y2 y3 y4 y5 y6 y7 y8 y9 y10 y11 y12 y13 y14 y15 y16 y17 y18) (laws_FnExactTakeNext.j0 (k + 1) y0 y1 y2 y3 y4 y5 y6 y7 y8 y9 y10 y11 y12 y13 y14 y15 y16 y17 y18)) ∧ (∀ y0 y1 y2 y3 y4 y5 y6 y7 y8 y9 y10 y11, LeO (laws_FnExactTakeNext.j1 k y0 y1 y2 y3 y4 y5 y6 y7 y8 y9 y10 y11) (laws_FnExactTakeNext.j1 (k + 1) y0 y1 y2 y3 y4 y5 y6 y7 y8 y9 y10 y11)) ∧ (∀ y0 y1 y2 y3, LeO (laws_FnExactTakeNext.j2 k y0 y1 y2 y3) (laws_FnExactTakeNext.j2 (k + 1) y0 y1 y2 y3))
 | 0 => ⟨fun _ _ _ _ _ _ _ _ _ _ _ _ _ _ _ _ _ _ _ r h => by simp [laws_FnExactTakeNext.j0] at h, fun _ _ _ _ _ _ _ _ _ _ _ _ r h => by simp [laws_FnExactTakeNext.j1] at h, fun _ _ _ _ r h => by simp [laws_FnExactTakeNext.j2] at h⟩
 | k + 1 => by
  obtain ⟨ih0, ih1, ih2⟩ := laws_FnExactTakeNext.mono_l k
  refine ⟨?_, ?_, ?_⟩
  ·
   intro y0 y1 y2 y3 y4 y5 y6 y7 y8 y9 y10 y11 y12 y13 y14 y15 y16 y17 y18
   unfold laws_FnExactTakeNext.j0
   repeat' first
   | (with_reducible exact ih0 _ _ _ _ _ _ _ _ _ _ _ _ _ _ _ _ _ _ _)
   | (with_reducible exact ih1 _ _ _ _ _ _ _ _ _ _ _ _)
   | (with_reducible exact ih2 _ _ _ _)
   | (with_reducible exact impl_TakeNext.mono _ _ _)
   | (with_reducible exact laws_eqDecoder.mono _ _ _ _ _)
   | (with_reducible exact laws_heldDecoder.mono _ _ _ _)
   | (with_reducible exact laws_markDecoder.mono _ _ _ _)
   | (with_reducible exact laws_toDecoder.mono _ _ _)
   | (with_reducible exact spec_TakeNext.mono _ _ _)
   | (with_reducible exact LeO.refl _)
   | (with_reducible exact LeO.none _)
   | (with_reducible refine LeO.ite ?_ ?_)
   | (with_reducible refine LeO.bind ?_ (fun _ => ?_))
   | exact ih0 _ _ _ _ _ _ _ _ _ _ _ _ _ _ _ _ _ _ _
   | exact ih1 _ _ _ _ _ _ _ _ _ _ _ _
   | exact ih2 _ _ _ _
   | exact impl_TakeNext.mono _ _ _
   | exact laws_eqDecoder.mono _ _ _ _ _
   | exact laws_heldDecoder.mono _ _ _ _
   | exact laws_markDecoder.mono _ _ _ _
   | exact laws_toDecoder.mono _ _ _
   | exact spec_TakeNext.mono _ _ _
   | exact LeO.none _
   | refine LeO.ite ?_ ?_
   | refine LeO.bind ?_ (fun _ => ?_)
  ·
   intro y0 y1 y2 y3 y4 y5 y6 y7 y8 y9 y10 y11
   unfold laws_FnExactTakeNext.j1
   repeat' first
   | (with_reducible exact ih0 _ _ _ _ _ _ _ _ _ _ _ _ _ _ _ _ _ _ _)
   | (with_reducible exact ih1 _ _ _ _ _ _ _ _ _ _ _ _)
   | (with_reducible exact ih2 _ _ _ _)
   | (with_reducible exact impl_TakeNext.mono _ _ _)
   | (with_reducible exact laws_eqDecoder.mono _ _ _ _ _)
   | (with_reducible exact laws_heldDecoder.mono _ _ _ _)
   | (with_reducible exact laws_markDecoder.mono _ _ _ _)
   | (with_reducible exact laws_toDecoder.mono _ _ _)
   | (with_reducible exact spec_TakeNext.mono _ _ _)
   | (with_reducible exact LeO.refl _)
   | (with_reducible exact LeO.none _)
   | (with_reducible refine LeO.ite ?_ ?_)
   | (with_reducible refine LeO.bind ?_ (fun _ => ?_))
   | exact ih0 _ _ _ _ _ _ _ _ _ _ _ _ _ _ _ _ _ _ _
   | exact ih1 _ _ _ _ _ _ _ _ _ _ _ _
   | exact ih2 _ _ _ _
   | exact impl_TakeNext.mono _ _ _
   | exact laws_eqDecoder.mono _ _ _ _ _
   | exact laws_heldDecoder.mono _ _ _ _
   | exact laws_markDecoder.mono _ _ _ _
   | exact laws_toDecoder.mono _ _ _
   | exact spec_TakeNext.mono _ _ _
   | exact LeO.none _
   | refine LeO.ite ?_ ?_
   | refine LeO.bind ?_ (fun _ => ?_)
  ·
   intro y0 y1 y2 y3
   unfold laws_FnExactTakeNext.j2
   repeat' first
   | (with_reducible exact ih0 _ _ _ _ _ _ _ _ _ _ _ _ _ _ _ _ _ _ _)
   | (with_reducible exact ih1 _ _ _ _ _ _ _ _ _ _ _ _)
   | (with_reducible exact ih2 _ _ _ _)
   | (with_reducible exact impl_TakeNext.mono _ _ _)
   | (with_reducible exact laws_eqDecoder.mono _ _ _ _ _)
   | (with_reducible exact laws_heldDecoder.mono _ _ _ _)
   | (with_reducible exact laws_markDecoder.mono _ _ _ _)
   | (with_reducible exact laws_toDecoder.mono _ _ _)
   | (with_reducible exact spec_TakeNext.mono _ _ _)
   | (with_reducible exact LeO.refl _)
   | (with_reducible exact LeO.none _)
   | (with_reducible refine LeO.ite ?_ ?_)
   | (with_reducible refine LeO.bind ?_ (fun _ => ?_))
   | exact ih0 _ _ _ _ _ _ _ _ _ _ _ _ _ _ _ _ _ _ _
   | exact ih1 _ _ _ _ _ _ _ _ _ _ _ _
   | exact ih2 _ _ _ _
   | exact impl_TakeNext.mono _ _ _
   | exact laws_eqDecoder.mono _ _ _ _ _
   | exact laws_heldDecoder.mono _ _ _ _
   | exact laws_markDecoder.mono _ _ _ _
   | exact laws_toDecoder.mono _ _ _
   | exact spec_TakeNext.mono _ _ _
   | exact LeO.none _
   | refine LeO.ite ?_ ?_
   | refine LeO.bind ?_ (fun _ => ?_)
theorem laws_FnExactTakeNext.mono : ∀ a0 a1 k, LeO (laws_FnExactTakeNext.f k a0 a1) (laws_FnExactTakeNext.f (k + 1) a0 a1) := by
 intro a0 a1 k
 obtain ⟨ih0, ih1, ih2⟩ := laws_FnExactTakeNext.mono_l k
 unfold laws_FnExactTakeNext.f
 repeat' first
   | (with_reducible exact ih0 _ _ _ _ _ _ _ _ _ _ _ _ _ _ _ _ _ _ _)
   | (with_reducible exact ih1 _ _ _ _ _ _ _ _ _ _ _ _)
   | (with_reducible exact ih2 _ _ _ _)
   | (with_reducible exact impl_TakeNext.mono _ _ _)
   | (with_reducible exact laws_eqDecoder.mono _ _ _ _ _)
   | (with_reducible exact laws_heldDecoder.mono _ _ _ _)
   | (with_reducible exact laws_markDecoder.mono _ _ _ _)
   | (with_reducible exact laws_toDecoder.mono _ _ _)
   | (with_reducible exact spec_TakeNext.mono _ _ _)
   | (with_reducible exact LeO.refl _)
   | (with_reducible exact LeO.none _)
   | (with_reducible refine LeO.ite ?_ ?_)
   | (with_reducible refine LeO.bind ?_ (fun _ => ?_))
   | exact ih0 _ _ _ _ _ _ _ _ _ _ _ _ _ _ _ _ _ _ _
   | exact ih1 _ _ _ _ _ _ _ _ _ _ _ _
   | exact ih2 _ _ _ _
   | exact impl_TakeNext.mono _ _ _
   | exact laws_eqDecoder.mono _ _ _ _ _
   | exact laws_heldDecoder.mono _ _ _ _
   | exact laws_markDecoder.mono _ _ _ _
   | exact laws_toDecoder.mono _ _ _
   | exact spec_TakeNext.mono _ _ _
   | exact LeO.none _
   | refine LeO.ite ?_ ?_
   | refine LeO.bind ?_ (fun _ => ?_)
set_option maxHeartbeats 8000000 in
set_option maxRecDepth 100000 in
theorem laws_FnExactTakeNext.calls (k : Nat) (A0_0 : Option Addr) (c0_0 : Nat) (l0_0 : List Int) (a0_1 : Bool) (r : Bool) (w : World) (hr0_0 : Kd.C (Kd.int .u8) w A0_0 l0_0.length l0_0) (hc0_0 : l0_0.length ≤ c0_0) (hT : Aside0 (r = true)) (h : laws_FnExactTakeNext.f k l0_0 a0_1 = some r) :
  Calls Try.prog 13 #[.agg #[.slice A0_0 l0_0.length c0_0, .bool a0_1]] w fun e w' => e = .returned (.bool r) ∧ Below w.heap.size w w' := by
 have hu100 := Try.underlying100
 have hu102 := Try.underlying102
 have hu61 := Try.underlying61
 have HR0_0 := Aside0.mk hr0_0
 have HC0_0 := Aside0.mk hc0_0
 clear hr0_0 hc0_0
 have HB := am_ (Below.refl w.heap.size w)
 have H : ((laws_szDecoder.f l0_0 a0_1 1048576).bind fun t412 => (if t412 < 0 then (some true) else ((laws_toDecoder.f k l0_0 a0_1).bind fun bt413 => ((spec_TakeNext.f k bt413.1 bt413.2).bind fun bt417 => ((laws_toDecoder.f k l0_0 a0_1).bind fun bt428 => ((impl_TakeNext.f k bt428.1 bt428.2).bind fun bt433 => ((laws_eqDecoder.f k bt433.1 bt433.2.1 bt417.1 bt417.2.1).bind fun t444 => (if t444 = true then ((laws_eqFrame.f bt433.2.2.1 bt433.2.2.2.1 bt433.2.2.2.2.1 bt433.2.2.2.2.2.1 bt417.2.2.1 bt417.2.2.2.1 bt417.2.2.2.2.1 bt417.2.2.2.2.2.1).bind fun t445 => (if t445 = true then (laws_FnExactTakeNext.j0 k bt417.2.2.2.2.2.2 bt433.2.2.2.2.2.2 (bt433.2.2.2.2.2.2 != bt417.2.2.2.2.2.2) l0_0 a0_1 bt417.1 bt417.2.1 bt417.2.2.1 bt417.2.2.2.1 bt417.2.2.2.2.1 bt417.2.2.2.2.2.1 bt428.1 bt428.2 bt433.1 bt433.2.1 bt433.2.2.1 bt433.2.2.2.1 bt433.2.2.2.2.1 bt433.2.2.2.2.2.1) else (laws_FnExactTakeNext.j0 k bt417.2.2.2.2.2.2 bt433.2.2.2.2.2.2 true l0_0 a0_1 bt417.1 bt417.2.1 bt417.2.2.1 bt417.2.2.2.1 bt417.2.2.2.2.1 bt417.2.2.2.2.2.1 bt428.1 bt428.2 bt433.1 bt433.2.1 bt433.2.2.1 bt433.2.2.2.1 bt433.2.2.2.2.1 bt433.2.2.2.2.2.1))) else (laws_FnExactTakeNext.j0 k bt417.2.2.2.2.2.2 bt433.2.2.2.2.2.2 true l0_0 a0_1 bt417.1 bt417.2.1 bt417.2.2.1 bt417.2.2.2.1 bt417.2.2.2.2.1 bt417.2.2.2.2.2.1 bt428.1 bt428.2 bt433.1 bt433.2.1 bt433.2.2.1 bt433.2.2.2.1 bt433.2.2.2.2.1 bt433.2.2.2.2.2.1))))))))) = some r := h
 clear h
 replace H := Option.bind_eq_some_iff.mp H
 obtain ⟨t412, A20, H⟩ := H
 replace H : (if t412 < 0 then (some true) else ((laws_toDecoder.f k l0_0 a0_1).bind fun bt413 => ((spec_TakeNext.f k bt413.1 bt413.2).bind fun bt417 => ((laws_toDecoder.f k l0_0 a0_1).bind fun bt428 => ((impl_TakeNext.f k bt428.1 bt428.2).bind fun bt433 => ((laws_eqDecoder.f k bt433.1 bt433.2.1 bt417.1 bt417.2.1).bind fun t444 => (if t444 = true then ((laws_eqFrame.f bt433.2.2.1 bt433.2.2.2.1 bt433.2.2.2.2.1 bt433.2.2.2.2.2.1 bt417.2.2.1 bt417.2.2.2.1 bt417.2.2.2.2.1 bt417.2.2.2.2.2.1).bind fun t445 => (if t445 = true then (laws_FnExactTakeNext.j0 k bt417.2.2.2.2.2.2 bt433.2.2.2.2.2.2 (bt433.2.2.2.2.2.2 != bt417.2.2.2.2.2.2) l0_0 a0_1 bt417.1 bt417.2.1 bt417.2.2.1 bt417.2.2.2.1 bt417.2.2.2.2.1 bt417.2.2.2.2.2.1 bt428.1 bt428.2 bt433.1 bt433.2.1 bt433.2.2.1 bt433.2.2.2.1 bt433.2.2.2.2.1 bt433.2.2.2.2.2.1) else (laws_FnExactTakeNext.j0 k bt417.2.2.2.2.2.2 bt433.2.2.2.2.2.2 true l0_0 a0_1 bt417.1 bt417.2.1 bt417.2.2.1 bt417.2.2.2.1 bt417.2.2.2.2.1 bt417.2.2.2.2.2.1 bt428.1 bt428.2 bt433.1 bt433.2.1 bt433.2.2.1 bt433.2.2.2.1 bt433.2.2.2.2.1 bt433.2.2.2.2.2.1))) else (laws_FnExactTakeNext.j0 k bt417.2.2.2.2.2.2 bt433.2.2.2.2.2.2 true l0_0 a0_1 bt417.1 bt417.2.1 bt417.2.2.1 bt417.2.2.2.1 bt417.2.2.2.2.1 bt417.2.2.2.2.2.1 bt428.1 bt428.2 bt433.1 bt433.2.1 bt433.2.2.1 bt433.2.2.2.1 bt433.2.2.2.2.1 bt433.2.2.2.2.2.1)))))))) = some r := H
 have A2 := Aside0.mk A20
 clear A20
 by_cases c3 : t412 < 0
 ·
  rw [if_pos c3] at H
  have c3b0 : decide (t412 < 0) = true := decide_eq_true c3
  clear c3
  obtain rfl := Option.some.inj H
  go_enter Try.func13, Try.ntmps13
  go_wp2_with (first | ((with_reducible refine gate_dst (N := 1) rfl ?_); refine box_event ?hg (N := 1) ?hd (cs := #[.slice A0_0 l0_0.length c0_0, .bool a0_1]) (t := 100) ?hr ?_; (case hd => rfl); (case hg => rfl); (case hr => first | (go_simp; done) | (go_simp; rfl)); intro gb411 hg w4 hbox hb; have n0_ := am_ (below_step (ue_ HB.out) hb); have n1_ := am_ (hbox); have n2_ := am_ ((by rw [hg]; exact (below_size (ue_ HB.out)) : w.heap.size ≤ gb411)); have n3_ := am_ ((by rw [hg]; exact (below_size (ue_ HB.out)) : w.heap.size ≤ gb411)); clear HB; have HB := n0_; have BK411 := n1_; have GW411 := n2_; have GE411 := n3_; clear n0_ n1_ n2_ n3_; clear hb hbox hg; obtain ⟨hcz5_0, hcz5_1⟩ := cb2_ BK411.out; have hfz5_0 := blk_frozen BK411.out 0; have hfz5_1 := blk_frozen BK411.out 1) | ((with_reducible refine gate_callee (f := 75) rfl ?_); refine goesL_ (some 19) rfl rfl Try.func75 (by kernel_rfl) rfl #[.agg #[.slice A0_0 l0_0.length c0_0, .bool a0_1], .int .i64 1048576] rfl ul_ ?_; (with_reducible refine (laws_szDecoder.calls _ _ l0_0 a0_1 1048576 t412 _ ?side1 ?side2 A2.out).mono ?_); (case side1 => repeat (first | exact (Kd.C_below HR0_0.out HB.out) | (with_reducible refine Kd.C_alloc ?_ _) | (with_reducible refine Kd.C_drewN ?_ _) | (with_reducible refine Kd.C_drew ?_))); (case side2 => exact HC0_0.out); rintro e w6 ⟨rfl, hb⟩; refine ⟨_, rfl, ?_⟩; have n0_ := am_ (bb_ BK411.out hb); have n1_ := am_ (below_step (ue_ HB.out) hb); clear BK411 HB; have BK411 := n0_; have HB := n1_; clear n0_ n1_; (try clear hb); (try clear hb2); (try clear hk); (try clear hi)))
  go_ret
  exact ⟨ew_, ue_ HB.out⟩
 ·
  rw [if_neg c3] at H
  have c3b0 : decide (t412 < 0) = false := decide_eq_false c3
  clear c3
  replace H := Option.bind_eq_some_iff.mp H
  obtain ⟨⟨t413, t416⟩, A70, H⟩ := H
  replace H : ((spec_TakeNext.f k t413 t416).bind fun bt417 => ((laws_toDecoder.f k l0_0 a0_1).bind fun bt428 => ((impl_TakeNext.f k bt428.1 bt428.2).bind fun bt433 => ((laws_eqDecoder.f k bt433.1 bt433.2.1 bt417.1 bt417.2.1).bind fun t444 => (if t444 = true then ((laws_eqFrame.f bt433.2.2.1 bt433.2.2.2.1 bt433.2.2.2.2.1 bt433.2.2.2.2.2.1 bt417.2.2.1 bt417.2.2.2.1 bt417.2.2.2.2.1 bt417.2.2.2.2.2.1).bind fun t445 => (if t445 = true then (laws_FnExactTakeNext.j0 k bt417.2.2.2.2.2.2 bt433.2.2.2.2.2.2 (bt433.2.2.2.2.2.2 != bt417.2.2.2.2.2.2) l0_0 a0_1 bt417.1 bt417.2.1 bt417.2.2.1 bt417.2.2.2.1 bt417.2.2.2.2.1 bt417.2.2.2.2.2.1 bt428.1 bt428.2 bt433.1 bt433.2.1 bt433.2.2.1 bt433.2.2.2.1 bt433.2.2.2.2.1 bt433.2.2.2.2.2.1) else (laws_FnExactTakeNext.j0 k bt417.2.2.2.2.2.2 bt433.2.2.2.2.2.2 true l0_0 a0_1 bt417.1 bt417.2.1 bt417.2.2.1 bt417.2.2.2.1 bt417.2.2.2.2.1 bt417.2.2.2.2.2.1 bt428.1 bt428.2 bt433.1 bt433.2.1 bt433.2.2.1 bt433.2.2.2.1 bt433.2.2.2.2.1 bt433.2.2.2.2.2.1))) else (laws_FnExactTakeNext.j0 k bt417.2.2.2.2.2.2 bt433.2.2.2.2.2.2 true l0_0 a0_1 bt417.1 bt417.2.1 bt417.2.2.1 bt417.2.2.2.1 bt417.2.2.2.2.1 bt417.2.2.2.2.2.1 bt428.1 bt428.2 bt433.1 bt433.2.1 bt433.2.2.1 bt433.2.2.2.1 bt433.2.2.2.2.1 bt433.2.2.2.2.2.1)))))) = some r := H
  have A7 := Aside0.mk A70
  clear A70
  replace H := Option.bind_eq_some_iff.mp H
  obtain ⟨⟨t417, t420, t421, t422, t423, t424, t425⟩, A80, H⟩ := H
  replace H : ((laws_toDecoder.f k l0_0 a0_1).bind fun bt428 => ((impl_TakeNext.f k bt428.1 bt428.2).bind fun bt433 => ((laws_eqDecoder.f k bt433.1 bt433.2.1 t417 t420).bind fun t444 => (if t444 = true then ((laws_eqFrame.f bt433.2.2.1 bt433.2.2.2.1 bt433.2.2.2.2.1 bt433.2.2.2.2.2.1 t421 t422 t423 t424).bind fun t445 => (if t445 = true then (laws_FnExactTakeNext.j0 k t425 bt433.2.2.2.2.2.2 (bt433.2.2.2.2.2.2 != t425) l0_0 a0_1 t417 t420 t421 t422 t423 t424 bt428.1 bt428.2 bt433.1 bt433.2.1 bt433.2.2.1 bt433.2.2.2.1 bt433.2.2.2.2.1 bt433.2.2.2.2.2.1) else (laws_FnExactTakeNext.j0 k t425 bt433.2.2.2.2.2.2 true l0_0 a0_1 t417 t420 t421 t422 t423 t424 bt428.1 bt428.2 bt433.1 bt433.2.1 bt433.2.2.1 bt433.2.2.2.1 bt433.2.2.2.2.1 bt433.2.2.2.2.2.1))) else (laws_FnExactTakeNext.j0 k t425 bt433.2.2.2.2.2.2 true l0_0 a0_1 t417 t420 t421 t422 t423 t424 bt428.1 bt428.2 bt433.1 bt433.2.1 bt433.2.2.1 bt433.2.2.2.1 bt433.2.2.2.2.1 bt433.2.2.2.2.2.1))))) = some r := H
  have A8 := Aside0.mk A80
  clear A80
  replace H := Option.bind_eq_some_iff.mp H
  obtain ⟨⟨t428, t431⟩, A90, H⟩ := H
  replace H : ((impl_TakeNext.f k t428 t431).bind fun bt433 => ((laws_eqDecoder.f k bt433.1 bt433.2.1 t417 t420).bind fun t444 => (if t444 = true then ((laws_eqFrame.f bt433.2.2.1 bt433.2.2.2.1 bt433.2.2.2.2.1 bt433.2.2.2.2.2.1 t421 t422 t423 t424).bind fun t445 => (if t445 = true then (laws_FnExactTakeNext.j0 k t425 bt433.2.2.2.2.2.2 (bt433.2.2.2.2.2.2 != t425) l0_0 a0_1 t417 t420 t421 t422 t423 t424 t428 t431 bt433.1 bt433.2.1 bt433.2.2.1 bt433.2.2.2.1 bt433.2.2.2.2.1 bt433.2.2.2.2.2.1) else (laws_FnExactTakeNext.j0 k t425 bt433.2.2.2.2.2.2 true l0_0 a0_1 t417 t420 t421 t422 t423 t424 t428 t431 bt433.1 bt433.2.1 bt433.2.2.1 bt433.2.2.2.1 bt433.2.2.2.2.1 bt433.2.2.2.2.2.1))) else (laws_FnExactTakeNext.j0 k t425 bt433.2.2.2.2.2.2 true l0_0 a0_1 t417 t420 t421 t422 t423 t424 t428 t431 bt433.1 bt433.2.1 bt433.2.2.1 bt433.2.2.2.1 bt433.2.2.2.2.1 bt433.2.2.2.2.2.1)))) = some r := H
  have A9 := Aside0.mk A90
  clear A90
  replace H := Option.bind_eq_some_iff.mp H
  obtain ⟨⟨t433, t436, t437, t438, t439, t440, t441⟩, A100, H⟩ := H
  replace H : ((laws_eqDecoder.f k t433 t436 t417 t420).bind fun t444 => (if t444 = true then ((laws_eqFrame.f t437 t438 t439 t440 t421 t422 t423 t424).bind fun t445 => (if t445 = true then (laws_FnExactTakeNext.j0 k t425 t441 (t441 != t425) l0_0 a0_1 t417 t420 t421 t422 t423 t424 t428 t431 t433 t436 t437 t438 t439 t440) else (laws_FnExactTakeNext.j0 k t425 t441 true l0_0 a0_1 t417 t420 t421 t422 t423 t424 t428 t431 t433 t436 t437 t438 t439 t440))) else (laws_FnExactTakeNext.j0 k t425 t441 true l0_0 a0_1 t417 t420 t421 t422 t423 t424 t428 t431 t433 t436 t437 t438 t439 t440))) = some r := H
  have A10 := Aside0.mk A100
  clear A100
  have HC11 := Aside0.mk H
  clear H
  go_enter Try.func13, Try.ntmps13
  go_upto_region 8 with (first | ((with_reducible refine gate_dst (N := 1) rfl ?_); refine box_event ?hg (N := 1) ?hd (cs := #[.slice A0_0 l0_0.length c0_0, .bool a0_1]) (t := 100) ?hr ?_; (case hd => rfl); (case hg => rfl); (case hr => first | (go_simp; done) | (go_simp; rfl)); intro gb411 hg w12 hbox hb; have n0_ := am_ (below_step (ue_ HB.out) hb); have n1_ := am_ (hbox); have n2_ := am_ ((by rw [hg]; exact (below_size (ue_ HB.out)) : w.heap.size ≤ gb411)); have n3_ := am_ ((by rw [hg]; exact (below_size (ue_ HB.out)) : w.heap.size ≤ gb411)); clear HB; have HB := n0_; have BK411 := n1_; have GW411 := n2_; have GE411 := n3_; clear n0_ n1_ n2_ n3_; clear hb hbox hg; obtain ⟨hcz13_0, hcz13_1⟩ := cb2_ BK411.out; have hfz13_0 := blk_frozen BK411.out 0; have hfz13_1 := blk_frozen BK411.out 1) | ((with_reducible refine gate_callee (f := 75) rfl ?_); refine goesL_ (some 19) rfl rfl Try.func75 (by kernel_rfl) rfl #[.agg #[.slice A0_0 l0_0.length c0_0, .bool a0_1], .int .i64 1048576] rfl ul_ ?_; (with_reducible refine (laws_szDecoder.calls _ _ l0_0 a0_1 1048576 t412 _ ?side1 ?side2 A2.out).mono ?_); (case side1 => repeat (first | exact (Kd.C_below HR0_0.out HB.out) | (with_reducible refine Kd.C_alloc ?_ _) | (with_reducible refine Kd.C_drewN ?_ _) | (with_reducible refine Kd.C_drew ?_))); (case side2 => exact HC0_0.out); rintro e w14 ⟨rfl, hb⟩; refine ⟨_, rfl, ?_⟩; have n0_ := am_ (bb_ BK411.out hb); have n1_ := am_ (below_step (ue_ HB.out) hb); clear BK411 HB; have BK411 := n0_; have HB := n1_; clear n0_ n1_; (try clear hb); (try clear hb2); (try clear hk); (try clear hi); obtain ⟨hcz15_0, hcz15_1⟩ := cb2_ BK411.out; have hfz15_0 := blk_frozen BK411.out 0; have hfz15_1 := blk_frozen BK411.out 1) | ((with_reducible refine gate_callee (f := 77) rfl ?_); refine goesL_ (some 24) rfl rfl Try.func77 (by kernel_rfl) rfl #[.agg #[.slice A0_0 l0_0.length c0_0, .bool a0_1]] rfl ul_ ?_; (with_reducible refine (laws_toDecoder.calls k _ _ l0_0 a0_1 t413 t416 _ ?side1 ?side2 A7.out).mono ?_); (case side1 => repeat (first | exact (Kd.C_below HR0_0.out HB.out) | (with_reducible refine Kd.C_alloc ?_ _) | (with_reducible refine Kd.C_drewN ?_ _) | (with_reducible refine Kd.C_drew ?_))); (case side2 => exact HC0_0.out); rintro e w16 ⟨v414, rfl, ho0, hb⟩; refine ⟨_, rfl, ?_⟩; have n0_ := am_ (Kd.R_lower ho0 (below_size (ue_ HB.out))); have n1_ := am_ (bb_ BK411.out hb); have n2_ := am_ (below_step (ue_ HB.out) hb); clear BK411 HB; have HO415 := n0_; have BK411 := n1_; have HB := n2_; clear n0_ n1_ n2_; (try clear hb); (try clear hb2); (try clear hk); (try clear hi); (try clear ho0); obtain ⟨Ao17, co17, eo17⟩ := Kd.R_slice HO415.out; subst eo17) | ((with_reducible refine gate_callee (f := 76) rfl ?_); refine goesL_ (some 25) rfl rfl Try.func76 (by kernel_rfl) rfl #[.agg #[.slice Ao17 t413.length co17, .bool t416]] rfl ul_ ?_; (with_reducible refine (spec_TakeNext.calls k _ _ t413 t416 t417 t420 t421 t422 t423 t424 t425 _ ?side1 ?side2 A8.out).mono ?_); (case side1 => repeat (first | exact (Kd.R_reads' HO415.out).2.2 | (with_reducible refine Kd.C_alloc ?_ _) | (with_reducible refine Kd.C_drewN ?_ _) | (with_reducible refine Kd.C_drew ?_))); (case side2 => exact (Kd.R_reads' HO415.out).2.1); rintro e w18 ⟨v418, rfl, ho0, hb⟩; refine ⟨_, rfl, ?_⟩; have n0_ := am_ (Kd.R_elder' (ur_ HO415.out) (Kd.R_base ho0) hb); have n1_ := am_ (Kd.R_lower (Kd.R_new' ho0 (Kd.R_lt (ur_ HO415.out))) (below_size (ue_ HB.out))); have n2_ := am_ (bb_ BK411.out hb); have n3_ := am_ (below_step (ue_ HB.out) hb); clear HO415 BK411 HB; have HO415 := n0_; have HO419 := n1_; have BK411 := n2_; have HB := n3_; clear n0_ n1_ n2_ n3_; (try clear hb); (try clear hb2); (try clear hk); (try clear hi); (try clear ho0)) | ((with_reducible refine gate_dst (N := 4) rfl ?_); refine box_event ?hg (N := 4) ?hd (cs := #[.slice none 0 0, .bool false]) (t := 102) ?hr ?_; (case hd => rfl); (case hg => rfl); (case hr => first | (go_simp; done) | (go_simp; rfl)); intro gb426 hg w19 hbox hb; have n0_ := am_ (Kd.R_below (ur_ HO415.out) hb); have n1_ := am_ (Kd.R_below (ur_ HO419.out) hb); have n2_ := am_ (bb_ BK411.out hb); have n3_ := am_ (below_step (ue_ HB.out) hb); have n4_ := am_ (hbox); have n5_ := am_ ((by rw [hg]; exact (below_size (ue_ HB.out)) : w.heap.size ≤ gb426)); have n6_ := am_ ((by rw [hg]; exact (below_size (ue_ HB.out)) : w.heap.size ≤ gb426)); have n7_ := am_ ((by rw [hg]; exact Nat.ne_of_lt (bl_ BK411.out) : gb411 ≠ gb426)); have n8_ := am_ ((by rw [hg]; exact Nat.ne_of_gt (bl_ BK411.out) : gb426 ≠ gb411)); clear HO415 HO419 BK411 HB; have HO415 := n0_; have HO419 := n1_; have BK411 := n2_; have HB := n3_; have BK426 := n4_; have GW426 := n5_; have GE426 := n6_; have NB411_426 := n7_; have NB426_411 := n8_; clear n0_ n1_ n2_ n3_ n4_ n5_ n6_ n7_ n8_; clear hb hbox hg) | ((with_reducible refine gate_dst (N := 5) rfl ?_); refine box_event ?hg (N := 5) ?hd (cs := #[.int .i64 0, .int .i64 0, .int .i64 0, .int .i64 0]) (t := 61) ?hr ?_; (case hd => rfl); (case hg => rfl); (case hr => first | (go_simp; done) | (go_simp; rfl)); intro gb427 hg w20 hbox hb; have n0_ := am_ (Kd.R_below (ur_ HO415.out) hb); have n1_ := am_ (Kd.R_below (ur_ HO419.out) hb); have n2_ := am_ (bb_ BK411.out hb); have n3_ := am_ (bb_ BK426.out hb); have n4_ := am_ (below_step (ue_ HB.out) hb); have n5_ := am_ (hbox); have n6_ := am_ ((by rw [hg]; exact (below_size (ue_ HB.out)) : w.heap.size ≤ gb427)); have n7_ := am_ ((by rw [hg]; exact (below_size (ue_ HB.out)) : w.heap.size ≤ gb427)); have n8_ := am_ ((by rw [hg]; exact Nat.ne_of_lt (bl_ BK411.out) : gb411 ≠ gb427)); have n9_ := am_ ((by rw [hg]; exact Nat.ne_of_gt (bl_ BK411.out) : gb427 ≠ gb411)); have n10_ := am_ ((by rw [hg]; exact Nat.ne_of_lt (bl_ BK426.out) : gb426 ≠ gb427)); have n11_ := am_ ((by rw [hg]; exact Nat.ne_of_gt (bl_ BK426.out) : gb427 ≠ gb426)); clear HO415 HO419 BK411 BK426 HB; have HO415 := n0_; have HO419 := n1_; have BK411 := n2_; have BK426 := n3_; have HB := n4_; have BK427 := n5_; have GW427 := n6_; have GE427 := n7_; have NB411_427 := n8_; have NB427_411 := n9_; have NB426_427 := n10_; have NB427_426 := n11_; clear n0_ n1_ n2_ n3_ n4_ n5_ n6_ n7_ n8_ n9_ n10_ n11_; clear hb hbox hg; obtain ⟨Ao21, co21, eo21⟩ := Kd.R_slice HO419.out; subst eo21; have hnb22 := NB426_411.out; have hnc22 := NB411_426.out; have hnb23 := NB426_427.out; have hnc23 := NB427_426.out; obtain ⟨hcz24_0, hcz24_1⟩ := cb2_ BK426.out; have hfz24_0 := blk_frozen BK426.out 0; have hfz24_1 := blk_frozen BK426.out 1) | ((with_reducible refine gate_store (t := 102) (p := 4) rfl ?_); refine store_event (t := 102) (p := 4) (v := ?vo_w25) (w1 := ((w20.setCell ⟨gb426, 0, none⟩ (.slice Ao21 t417.length co21)).setCell ⟨gb426, 1, none⟩ (.bool t420))) ?hg ?ho ?hn ?hr ?_; (case ho => rfl); (case hg => rfl); (case hn => rfl); (case hr => first | (go_simp; done) | (go_simp; rfl)); intro w25 hw; have n0_ : Aside0 (Kd.R (Kd.int .u8) 5 w25 w.heap.size (fun k_ => some k_ ≠ (.slice Ao21 t417.length co21 : Value).ownBlock) (.slice Ao17 t413.length co17) t413) := ⟨(by rw [hw]; exact (by (with_reducible repeat (first | apply Kd.R_alloc | apply Kd.R_drewN | apply Kd.R_drew)); exact Kd.R_mono (Kd.R_far (p := ⟨gb426, 1, none⟩) (Kd.R_far (p := ⟨gb426, 0, none⟩) (Kd.R_types HO415.out BK426.out (by decide)) (fun _ hk => by first | exact hk.2 | grind) (.slice Ao21 t417.length co21)) (fun _ hk => by first | exact hk.2 | grind) (.bool t420)) (fun _ hk => by first | exact hk.1.2 | grind)))⟩; have n1_ : Aside0 (Kd.R (Kd.int .u8) 5 w25 w.heap.size (fun k_ => some k_ ≠ (.slice Ao17 t413.length co17 : Value).ownBlock) (.slice Ao21 t417.length co21) t417) := ⟨(by rw [hw]; exact (by (with_reducible repeat (first | apply Kd.R_alloc | apply Kd.R_drewN | apply Kd.R_drew)); exact Kd.R_mono (Kd.R_far (p := ⟨gb426, 1, none⟩) (Kd.R_far (p := ⟨gb426, 0, none⟩) (Kd.R_types HO419.out BK426.out (by decide)) (fun _ hk => by first | exact hk.2 | grind) (.slice Ao21 t417.length co21)) (fun _ hk => by first | exact hk.2 | grind) (.bool t420)) (fun _ hk => by first | exact hk.1.2 | grind)))⟩; have n2_ : Aside0 (w25.heap[gb411]? = some (.cells #[.slice A0_0 l0_0.length c0_0, .bool a0_1] 100 (0, 0))) := ⟨(by rw [hw]; exact (uf_ BK411.out))⟩; have n3_ : Aside0 (w25.heap[gb426]? = some (.cells #[.slice Ao21 t417.length co21, .bool t420] 102 (0, 0))) := ⟨(by rw [hw]; exact (by (with_reducible repeat first|apply bn_|apply bd_|apply ba_); refine blk_put (cs := #[.slice Ao21 t417.length co21, .bool false]) ?_ 1 _ rfl; refine blk_put (cs := #[.slice none 0 0, .bool false]) ?_ 0 _ rfl; (with_reducible repeat first|apply bn_|apply bd_|apply ba_); exact BK426.out))⟩; have n4_ : Aside0 (w25.heap[gb427]? = some (.cells #[.int .i64 0, .int .i64 0, .int .i64 0, .int .i64 0] 61 (0, 0))) := ⟨(by rw [hw]; exact (uf_ BK427.out))⟩; have n5_ : Aside0 (Below w.heap.size w w25) := ⟨(by rw [hw]; exact (ue_ HB.out))⟩; clear hw HO415 HO419 BK411 BK426 BK427 HB; have HO415 := n0_; have HO419 := n1_; have BK411 := n2_; have BK426 := n3_; have BK427 := n4_; have HB := n5_; clear n0_ n1_ n2_ n3_ n4_ n5_; have hnb26 := NB427_411.out; have hnc26 := NB411_427.out; obtain ⟨hcz27_0, hcz27_1, hcz27_2, hcz27_3⟩ := cb4_ BK427.out; obtain ⟨hfz27_0, hfz27_1, hfz27_2⟩ := bf3_ BK427.out; have hfz27_3 := blk_frozen BK427.out 3) | ((with_reducible refine gate_store (t := 61) (p := 5) rfl ?_); refine store_event (t := 61) (p := 5) (v := ?vo_w28) (w1 := ((((w25.setCell ⟨gb427, 0, none⟩ (.int .i64 t421)).setCell ⟨gb427, 1, none⟩ (.int .i64 t422)).setCell ⟨gb427, 2, none⟩ (.int .i64 t423)).setCell ⟨gb427, 3, none⟩ (.int .i64 t424))) ?hg ?ho ?hn ?hr ?_; (case ho => rfl); (case hg => rfl); (case hn => rfl); (case hr => first | (go_simp; done) | (go_simp; rfl)); intro w28 hw; have n0_ : Aside0 (Kd.R (Kd.int .u8) 5 w28 w.heap.size (fun k_ => some k_ ≠ (.slice Ao21 t417.length co21 : Value).ownBlock) (.slice Ao17 t413.length co17) t413) := ⟨(by rw [hw]; exact (by (with_reducible repeat (first | apply Kd.R_alloc | apply Kd.R_drewN | apply Kd.R_drew)); exact Kd.R_mono (Kd.R_far (p := ⟨gb427, 3, none⟩) (Kd.R_far (p := ⟨gb427, 2, none⟩) (Kd.R_far (p := ⟨gb427, 1, none⟩) (Kd.R_far (p := ⟨gb427, 0, none⟩) (Kd.R_types HO415.out BK427.out (by decide)) (fun _ hk => by first | exact hk.2 | grind) (.int .i64 t421)) (fun _ hk => by first | exact hk.2 | grind) (.int .i64 t422)) (fun _ hk => by first | exact hk.2 | grind) (.int .i64 t423)) (fun _ hk => by first | exact hk.2 | grind) (.int .i64 t424)) (fun _ hk => by first | exact hk.1 | grind)))⟩; have n1_ : Aside0 (Kd.R (Kd.int .u8) 5 w28 w.heap.size (fun k_ => some k_ ≠ (.slice Ao17 t413.length co17 : Value).ownBlock) (.slice Ao21 t417.length co21) t417) := ⟨(by rw [hw]; exact (by (with_reducible repeat (first | apply Kd.R_alloc | apply Kd.R_drewN | apply Kd.R_drew)); exact Kd.R_mono (Kd.R_far (p := ⟨gb427, 3, none⟩) (Kd.R_far (p := ⟨gb427, 2, none⟩) (Kd.R_far (p := ⟨gb427, 1, none⟩) (Kd.R_far (p := ⟨gb427, 0, none⟩) (Kd.R_types HO419.out BK427.out (by decide)) (fun _ hk => by first | exact hk.2 | grind) (.int .i64 t421)) (fun _ hk => by first | exact hk.2 | grind) (.int .i64 t422)) (fun _ hk => by first | exact hk.2 | grind) (.int .i64 t423)) (fun _ hk => by first | exact hk.2 | grind) (.int .i64 t424)) (fun _ hk => by first | exact hk.1 | grind)))⟩; have n2_ : Aside0 (w28.heap[gb411]? = some (.cells #[.slice A0_0 l0_0.length c0_0, .bool a0_1] 100 (0, 0))) := ⟨(by rw [hw]; exact (uf_ BK411.out))⟩; have n3_ : Aside0 (w28.heap[gb426]? = some (.cells #[.slice Ao21 t417.length co21, .bool t420] 102 (0, 0))) := ⟨(by rw [hw]; exact (uf_ BK426.out))⟩; have n4_ : Aside0 (w28.heap[gb427]? = some (.cells #[.int .i64 t421, .int .i64 t422, .int .i64 t423, .int .i64 t424] 61 (0, 0))) := ⟨(by rw [hw]; exact (by (with_reducible repeat first|apply bn_|apply bd_|apply ba_); refine blk_put (cs := #[.int .i64 t421, .int .i64 t422, .int .i64 t423, .int .i64 0]) ?_ 3 _ rfl; refine blk_put (cs := #[.int .i64 t421, .int .i64 t422, .int .i64 0, .int .i64 0]) ?_ 2 _ rfl; refine blk_put (cs := #[.int .i64 t421, .int .i64 0, .int .i64 0, .int .i64 0]) ?_ 1 _ rfl; refine blk_put (cs := #[.int .i64 0, .int .i64 0, .int .i64 0, .int .i64 0]) ?_ 0 _ rfl; (with_reducible repeat first|apply bn_|apply bd_|apply ba_); exact BK427.out))⟩; have n5_ : Aside0 (Below w.heap.size w w28) := ⟨(by rw [hw]; exact (ue_ HB.out))⟩; clear hw HO415 HO419 BK411 BK426 BK427 HB; have HO415 := n0_; have HO419 := n1_; have BK411 := n2_; have BK426 := n3_; have BK427 := n4_; have HB := n5_; clear n0_ n1_ n2_ n3_ n4_ n5_; obtain ⟨hcz29_0, hcz29_1⟩ := cb2_ BK411.out; have hfz29_0 := blk_frozen BK411.out 0; have hfz29_1 := blk_frozen BK411.out 1) | ((with_reducible refine gate_callee (f := 77) rfl ?_); refine goesL_ (some 30) rfl rfl Try.func77 (by kernel_rfl) rfl #[.agg #[.slice A0_0 l0_0.length c0_0, .bool a0_1]] rfl ul_ ?_; (with_reducible refine (laws_toDecoder.calls k _ _ l0_0 a0_1 t428 t431 _ ?side1 ?side2 A9.out).mono ?_); (case side1 => repeat (first | exact (Kd.C_below HR0_0.out HB.out) | (with_reducible refine Kd.C_alloc ?_ _) | (with_reducible refine Kd.C_drewN ?_ _) | (with_reducible refine Kd.C_drew ?_))); (case side2 => exact HC0_0.out); rintro e w30 ⟨v429, rfl, ho0, hb⟩; refine ⟨_, rfl, ?_⟩; have n0_ := am_ (Kd.R_elder' (ur_ HO415.out) (Kd.R_base ho0) hb); have n1_ := am_ (Kd.R_elder' (ur_ HO419.out) (Kd.R_base ho0) hb); have n2_ := am_ (Kd.R_lower (Kd.R_new' (Kd.R_new' ho0 (Kd.R_lt (ur_ HO415.out))) (Kd.R_lt (ur_ HO419.out))) (below_size (ue_ HB.out))); have n3_ := am_ (bb_ BK411.out hb); have n4_ := am_ (bb_ BK426.out hb); have n5_ := am_ (bb_ BK427.out hb); have n6_ := am_ (below_step (ue_ HB.out) hb); clear HO415 HO419 BK411 BK426 BK427 HB; have HO415 := n0_; have HO419 := n1_; have HO430 := n2_; have BK411 := n3_; have BK426 := n4_; have BK427 := n5_; have HB := n6_; clear n0_ n1_ n2_ n3_ n4_ n5_ n6_; (try clear hb); (try clear hb2); (try clear hk); (try clear hi); (try clear ho0)) | ((with_reducible refine gate_dst (N := 7) rfl ?_); refine box_event ?hg (N := 7) ?hd (cs := #[.slice none 0 0, .bool false]) (t := 102) ?hr ?_; (case hd => rfl); (case hg => rfl); (case hr => first | (go_simp; done) | (go_simp; rfl)); intro gb432 hg w31 hbox hb; have n0_ := am_ (Kd.R_below (ur_ HO415.out) hb); have n1_ := am_ (Kd.R_below (ur_ HO419.out) hb); have n2_ := am_ (Kd.R_below (ur_ HO430.out) hb); have n3_ := am_ (bb_ BK411.out hb); have n4_ := am_ (bb_ BK426.out hb); have n5_ := am_ (bb_ BK427.out hb); have n6_ := am_ (below_step (ue_ HB.out) hb); have n7_ := am_ (hbox); have n8_ := am_ ((by rw [hg]; exact (below_size (ue_ HB.out)) : w.heap.size ≤ gb432)); have n9_ := am_ ((by rw [hg]; exact (below_size (ue_ HB.out)) : w.heap.size ≤ gb432)); have n10_ := am_ ((by rw [hg]; exact Nat.ne_of_lt (bl_ BK411.out) : gb411 ≠ gb432)); have n11_ := am_ ((by rw [hg]; exact Nat.ne_of_gt (bl_ BK411.out) : gb432 ≠ gb411)); have n12_ := am_ ((by rw [hg]; exact Nat.ne_of_lt (bl_ BK426.out) : gb426 ≠ gb432)); have n13_ := am_ ((by rw [hg]; exact Nat.ne_of_gt (bl_ BK426.out) : gb432 ≠ gb426)); have n14_ := am_ ((by rw [hg]; exact Nat.ne_of_lt (bl_ BK427.out) : gb427 ≠ gb432)); have n15_ := am_ ((by rw [hg]; exact Nat.ne_of_gt (bl_ BK427.out) : gb432 ≠ gb427)); clear HO415 HO419 HO430 BK411 BK426 BK427 HB; have HO415 := n0_; have HO419 := n1_; have HO430 := n2_; have BK411 := n3_; have BK426 := n4_; have BK427 := n5_; have HB := n6_; have BK432 := n7_; have GW432 := n8_; have GE432 := n9_; have NB411_432 := n10_; have NB432_411 := n11_; have NB426_432 := n12_; have NB432_426 := n13_; have NB427_432 := n14_; have NB432_427 := n15_; clear n0_ n1_ n2_ n3_ n4_ n5_ n6_ n7_ n8_ n9_ n10_ n11_ n12_ n13_ n14_ n15_; clear hb hbox hg; obtain ⟨Ao32, co32, eo32⟩ := Kd.R_slice HO430.out; subst eo32; have hnb33 := NB432_411.out; have hnc33 := NB411_432.out; have hnb34 := NB432_426.out; have hnc34 := NB426_432.out; have hnb35 := NB432_427.out; have hnc35 := NB427_432.out; obtain ⟨hcz36_0, hcz36_1⟩ := cb2_ BK432.out; have hfz36_0 := blk_frozen BK432.out 0; have hfz36_1 := blk_frozen BK432.out 1) | ((with_reducible refine gate_store (t := 102) (p := 7) rfl ?_); refine store_event (t := 102) (p := 7) (v := ?vo_w37) (w1 := ((w31.setCell ⟨gb432, 0, none⟩ (.slice Ao32 t428.length co32)).setCell ⟨gb432, 1, none⟩ (.bool t431))) ?hg ?ho ?hn ?hr ?_; (case ho => rfl); (case hg => rfl); (case hn => rfl); (case hr => first | (go_simp; done) | (go_simp; rfl)); intro w37 hw; have n0_ : Aside0 (Kd.R (Kd.int .u8) 5 w37 w.heap.size (fun k_ => some k_ ≠ (.slice Ao21 t417.length co21 : Value).ownBlock ∧ some k_ ≠ (.slice Ao32 t428.length co32 : Value).ownBlock) (.slice Ao17 t413.length co17) t413) := ⟨(by rw [hw]; exact (by (with_reducible repeat (first | apply Kd.R_alloc | apply Kd.R_drewN | apply Kd.R_drew)); exact Kd.R_mono (Kd.R_far (p := ⟨gb432, 1, none⟩) (Kd.R_far (p := ⟨gb432, 0, none⟩) (Kd.R_types HO415.out BK432.out (by decide)) (fun _ hk => by first | exact hk.2 | grind) (.slice Ao32 t428.length co32)) (fun _ hk => by first | exact hk.2 | grind) (.bool t431)) (fun _ hk => by first | exact ⟨hk.1.1, hk.1.2⟩ | grind)))⟩; have n1_ : Aside0 (Kd.R (Kd.int .u8) 5 w37 w.heap.size (fun k_ => some k_ ≠ (.slice Ao17 t413.length co17 : Value).ownBlock ∧ some k_ ≠ (.slice Ao32 t428.length co32 : Value).ownBlock) (.slice Ao21 t417.length co21) t417) := ⟨(by rw [hw]; exact (by (with_reducible repeat (first | apply Kd.R_alloc | apply Kd.R_drewN | apply Kd.R_drew)); exact Kd.R_mono (Kd.R_far (p := ⟨gb432, 1, none⟩) (Kd.R_far (p := ⟨gb432, 0, none⟩) (Kd.R_types HO419.out BK432.out (by decide)) (fun _ hk => by first | exact hk.2 | grind) (.slice Ao32 t428.length co32)) (fun _ hk => by first | exact hk.2 | grind) (.bool t431)) (fun _ hk => by first | exact ⟨hk.1.1, hk.1.2⟩ | grind)))⟩; have n2_ : Aside0 (Kd.R (Kd.int .u8) 5 w37 w.heap.size (fun k_ => some k_ ≠ (.slice Ao17 t413.length co17 : Value).ownBlock ∧ some k_ ≠ (.slice Ao21 t417.length co21 : Value).ownBlock) (.slice Ao32 t428.length co32) t428) := ⟨(by rw [hw]; exact (by (with_reducible repeat (first | apply Kd.R_alloc | apply Kd.R_drewN | apply Kd.R_drew)); exact Kd.R_mono (Kd.R_far (p := ⟨gb432, 1, none⟩) (Kd.R_far (p := ⟨gb432, 0, none⟩) (Kd.R_types HO430.out BK432.out (by decide)) (fun _ hk => by first | exact hk.2 | grind) (.slice Ao32 t428.length co32)) (fun _ hk => by first | exact hk.2 | grind) (.bool t431)) (fun _ hk => by first | exact ⟨hk.1.1.2, hk.1.2⟩ | grind)))⟩; have n3_ : Aside0 (w37.heap[gb411]? = some (.cells #[.slice A0_0 l0_0.length c0_0, .bool a0_1] 100 (0, 0))) := ⟨(by rw [hw]; exact (uf_ BK411.out))⟩; have n4_ : Aside0 (w37.heap[gb426]? = some (.cells #[.slice Ao21 t417.length co21, .bool t420] 102 (0, 0))) := ⟨(by rw [hw]; exact (uf_ BK426.out))⟩; have n5_ : Aside0 (w37.heap[gb427]? = some (.cells #[.int .i64 t421, .int .i64 t422, .int .i64 t423, .int .i64 t424] 61 (0, 0))) := ⟨(by rw [hw]; exact (uf_ BK427.out))⟩; have n6_ : Aside0 (w37.heap[gb432]? = some (.cells #[.slice Ao32 t428.length co32, .bool t431] 102 (0, 0))) := ⟨(by rw [hw]; exact (by (with_reducible repeat first|apply bn_|apply bd_|apply ba_); refine blk_put (cs := #[.slice Ao32 t428.length co32, .bool false]) ?_ 1 _ rfl; refine blk_put (cs := #[.slice none 0 0, .bool false]) ?_ 0 _ rfl; (with_reducible repeat first|apply bn_|apply bd_|apply ba_); exact BK432.out))⟩; have n7_ : Aside0 (Below w.heap.size w w37) := ⟨(by rw [hw]; exact (ue_ HB.out))⟩; clear hw HO415 HO419 HO430 BK411 BK426 BK427 BK432 HB; have HO415 := n0_; have HO419 := n1_; have HO430 := n2_; have BK411 := n3_; have BK426 := n4_; have BK427 := n5_; have BK432 := n6_; have HB := n7_; clear n0_ n1_ n2_ n3_ n4_ n5_ n6_ n7_; obtain ⟨hcz38_0, hcz38_1⟩ := cb2_ BK432.out; have hfz38_0 := blk_frozen BK432.out 0; have hfz38_1 := blk_frozen BK432.out 1) | ((with_reducible refine gate_callee (f := 78) rfl ?_); refine goesL_ (some 33) rfl rfl Try.func78 (by kernel_rfl) rfl #[.agg #[.slice Ao32 t428.length co32, .bool t431]] rfl ul_ ?_; (with_reducible refine (impl_TakeNext.calls k _ _ t428 t431 t433 t436 t437 t438 t439 t440 t441 _ ?side1 ?side2 A10.out).mono ?_); (case side1 => repeat (first | exact (Kd.R_reads' HO430.out).2.2 | (with_reducible refine Kd.C_alloc ?_ _) | (with_reducible refine Kd.C_drewN ?_ _) | (with_reducible refine Kd.C_drew ?_))); (case side2 => exact (Kd.R_reads' HO430.out).2.1); rintro e w39 ⟨v434, rfl, ho0, hb⟩; refine ⟨_, rfl, ?_⟩; have n0_ := am_ (Kd.R_elder' (ur_ HO415.out) (Kd.R_base ho0) hb); have n1_ := am_ (Kd.R_elder' (ur_ HO419.out) (Kd.R_base ho0) hb); have n2_ := am_ (Kd.R_elder' (ur_ HO430.out) (Kd.R_base ho0) hb); have n3_ := am_ (Kd.R_lower (Kd.R_new' (Kd.R_new' (Kd.R_new' ho0 (Kd.R_lt (ur_ HO415.out))) (Kd.R_lt (ur_ HO419.out))) (Kd.R_lt (ur_ HO430.out))) (below_size (ue_ HB.out))); have n4_ := am_ (bb_ BK411.out hb); have n5_ := am_ (bb_ BK426.out hb); have n6_ := am_ (bb_ BK427.out hb); have n7_ := am_ (bb_ BK432.out hb); have n8_ := am_ (below_step (ue_ HB.out) hb); clear HO415 HO419 HO430 BK411 BK426 BK427 BK432 HB; have HO415 := n0_; have HO419 := n1_; have HO430 := n2_; have HO435 := n3_; have BK411 := n4_; have BK426 := n5_; have BK427 := n6_; have BK432 := n7_; have HB := n8_; clear n0_ n1_ n2_ n3_ n4_ n5_ n6_ n7_ n8_; (try clear hb); (try clear hb2); (try clear hk); (try clear hi); (try clear ho0)) | ((with_reducible refine gate_dst (N := 8) rfl ?_); refine box_event ?hg (N := 8) ?hd (cs := #[.slice none 0 0, .bool false]) (t := 102) ?hr ?_; (case hd => rfl); (case hg => rfl); (case hr => first | (go_simp; done) | (go_simp; rfl)); intro gb442 hg w40 hbox hb; have n0_ := am_ (Kd.R_below (ur_ HO415.out) hb); have n1_ := am_ (Kd.R_below (ur_ HO419.out) hb); have n2_ := am_ (Kd.R_below (ur_ HO430.out) hb); have n3_ := am_ (Kd.R_below (ur_ HO435.out) hb); have n4_ := am_ (bb_ BK411.out hb); have n5_ := am_ (bb_ BK426.out hb); have n6_ := am_ (bb_ BK427.out hb); have n7_ := am_ (bb_ BK432.out hb); have n8_ := am_ (below_step (ue_ HB.out) hb); have n9_ := am_ (hbox); have n10_ := am_ ((by rw [hg]; exact (below_size (ue_ HB.out)) : w.heap.size ≤ gb442)); have n11_ := am_ ((by rw [hg]; exact (below_size (ue_ HB.out)) : w.heap.size ≤ gb442)); have n12_ := am_ ((by rw [hg]; exact Nat.ne_of_lt (bl_ BK411.out) : gb411 ≠ gb442)); have n13_ := am_ ((by rw [hg]; exact Nat.ne_of_gt (bl_ BK411.out) : gb442 ≠ gb411)); have n14_ := am_ ((by rw [hg]; exact Nat.ne_of_lt (bl_ BK426.out) : gb426 ≠ gb442)); have n15_ := am_ ((by rw [hg]; exact Nat.ne_of_gt (bl_ BK426.out) : gb442 ≠ gb426)); have n16_ := am_ ((by rw [hg]; exact Nat.ne_of_lt (bl_ BK427.out) : gb427 ≠ gb442)); have n17_ := am_ ((by rw [hg]; exact Nat.ne_of_gt (bl_ BK427.out) : gb442 ≠ gb427)); have n18_ := am_ ((by rw [hg]; exact Nat.ne_of_lt (bl_ BK432.out) : gb432 ≠ gb442)); have n19_ := am_ ((by rw [hg]; exact Nat.ne_of_gt (bl_ BK432.out) : gb442 ≠ gb432)); clear HO415 HO419 HO430 HO435 BK411 BK426 BK427 BK432 HB; have HO415 := n0_; have HO419 := n1_; have HO430 := n2_; have HO435 := n3_; have BK411 := n4_; have BK426 := n5_; have BK427 := n6_; have BK432 := n7_; have HB := n8_; have BK442 := n9_; have GW442 := n10_; have GE442 := n11_; have NB411_442 := n12_; have NB442_411 := n13_; have NB426_442 := n14_; have NB442_426 := n15_; have NB427_442 := n16_; have NB442_427 := n17_; have NB432_442 := n18_; have NB442_432 := n19_; clear n0_ n1_ n2_ n3_ n4_ n5_ n6_ n7_ n8_ n9_ n10_ n11_ n12_ n13_ n14_ n15_ n16_ n17_ n18_ n19_; clear hb hbox hg) | ((with_reducible refine gate_dst (N := 9) rfl ?_); refine box_event ?hg (N := 9) ?hd (cs := #[.int .i64 0, .int .i64 0, .int .i64 0, .int .i64 0]) (t := 61) ?hr ?_; (case hd => rfl); (case hg => rfl); (case hr => first | (go_simp; done) | (go_simp; rfl)); intro gb443 hg w41 hbox hb; have n0_ := am_ (Kd.R_below (ur_ HO415.out) hb); have n1_ := am_ (Kd.R_below (ur_ HO419.out) hb); have n2_ := am_ (Kd.R_below (ur_ HO430.out) hb); have n3_ := am_ (Kd.R_below (ur_ HO435.out) hb); have n4_ := am_ (bb_ BK411.out hb); have n5_ := am_ (bb_ BK426.out hb); have n6_ := am_ (bb_ BK427.out hb); have n7_ := am_ (bb_ BK432.out hb); have n8_ := am_ (bb_ BK442.out hb); have n9_ := am_ (below_step (ue_ HB.out) hb); have n10_ := am_ (hbox); have n11_ := am_ ((by rw [hg]; exact (below_size (ue_ HB.out)) : w.heap.size ≤ gb443)); have n12_ := am_ ((by rw [hg]; exact (below_size (ue_ HB.out)) : w.heap.size ≤ gb443)); have n13_ := am_ ((by rw [hg]; exact Nat.ne_of_lt (bl_ BK411.out) : gb411 ≠ gb443)); have n14_ := am_ ((by rw [hg]; exact Nat.ne_of_gt (bl_ BK411.out) : gb443 ≠ gb411)); have n15_ := am_ ((by rw [hg]; exact Nat.ne_of_lt (bl_ BK426.out) : gb426 ≠ gb443)); have n16_ := am_ ((by rw [hg]; exact Nat.ne_of_gt (bl_ BK426.out) : gb443 ≠ gb426)); have n17_ := am_ ((by rw [hg]; exact Nat.ne_of_lt (bl_ BK427.out) : gb427 ≠ gb443)); have n18_ := am_ ((by rw [hg]; exact Nat.ne_of_gt (bl_ BK427.out) : gb443 ≠ gb427)); have n19_ := am_ ((by rw [hg]; exact Nat.ne_of_lt (bl_ BK432.out) : gb432 ≠ gb443)); have n20_ := am_ ((by rw [hg]; exact Nat.ne_of_gt (bl_ BK432.out) : gb443 ≠ gb432)); have n21_ := am_ ((by rw [hg]; exact Nat.ne_of_lt (bl_ BK442.out) : gb442 ≠ gb443)); have n22_ := am_ ((by rw [hg]; exact Nat.ne_of_gt (bl_ BK442.out) : gb443 ≠ gb442)); clear HO415 HO419 HO430 HO435 BK411 BK426 BK427 BK432 BK442 HB; have HO415 := n0_; have HO419 := n1_; have HO430 := n2_; have HO435 := n3_; have BK411 := n4_; have BK426 := n5_; have BK427 := n6_; have BK432 := n7_; have BK442 := n8_; have HB := n9_; have BK443 := n10_; have GW443 := n11_; have GE443 := n12_; have NB411_443 := n13_; have NB443_411 := n14_; have NB426_443 := n15_; have NB443_426 := n16_; have NB427_443 := n17_; have NB443_427 := n18_; have NB432_443 := n19_; have NB443_432 := n20_; have NB442_443 := n21_; have NB443_442 := n22_; clear n0_ n1_ n2_ n3_ n4_ n5_ n6_ n7_ n8_ n9_ n10_ n11_ n12_ n13_ n14_ n15_ n16_ n17_ n18_ n19_ n20_ n21_ n22_; clear hb hbox hg; obtain ⟨Ao42, co42, eo42⟩ := Kd.R_slice HO435.out; subst eo42; have hnb43 := NB442_411.out; have hnc43 := NB411_442.out; have hnb44 := NB442_426.out; have hnc44 := NB426_442.out; have hnb45 := NB442_427.out; have hnc45 := NB427_442.out; have hnb46 := NB442_432.out; have hnc46 := NB432_442.out; have hnb47 := NB442_443.out; have hnc47 := NB443_442.out; obtain ⟨hcz48_0, hcz48_1⟩ := cb2_ BK442.out; have hfz48_0 := blk_frozen BK442.out 0; have hfz48_1 := blk_frozen BK442.out 1) | ((with_reducible refine gate_store (t := 102) (p := 8) rfl ?_); refine store_event (t := 102) (p := 8) (v := ?vo_w49) (w1 := ((w41.setCell ⟨gb442, 0, none⟩ (.slice Ao42 t433.length co42)).setCell ⟨gb442, 1, none⟩ (.bool t436))) ?hg ?ho ?hn ?hr ?_; (case ho => rfl); (case hg => rfl); (case hn => rfl); (case hr => first | (go_simp; done) | (go_simp; rfl)); intro w49 hw; have n0_ : Aside0 (Kd.R (Kd.int .u8) 5 w49 w.heap.size (fun k_ => some k_ ≠ (.slice Ao21 t417.length co21 : Value).ownBlock ∧ some k_ ≠ (.slice Ao32 t428.length co32 : Value).ownBlock ∧ some k_ ≠ (.slice Ao42 t433.length co42 : Value).ownBlock) (.slice Ao17 t413.length co17) t413) := ⟨(by rw [hw]; exact (by (with_reducible repeat (first | apply Kd.R_alloc | apply Kd.R_drewN | apply Kd.R_drew)); exact Kd.R_mono (Kd.R_far (p := ⟨gb442, 1, none⟩) (Kd.R_far (p := ⟨gb442, 0, none⟩) (Kd.R_types HO415.out BK442.out (by decide)) (fun _ hk => by first | exact hk.2 | grind) (.slice Ao42 t433.length co42)) (fun _ hk => by first | exact hk.2 | grind) (.bool t436)) (fun _ hk => by first | exact ⟨hk.1.1.1, ⟨hk.1.1.2, hk.1.2⟩⟩ | grind)))⟩; have n1_ : Aside0 (Kd.R (Kd.int .u8) 5 w49 w.heap.size (fun k_ => some k_ ≠ (.slice Ao17 t413.length co17 : Value).ownBlock ∧ some k_ ≠ (.slice Ao32 t428.length co32 : Value).ownBlock ∧ some k_ ≠ (.slice Ao42 t433.length co42 : Value).ownBlock) (.slice Ao21 t417.length co21) t417) := ⟨(by rw [hw]; exact (by (with_reducible repeat (first | apply Kd.R_alloc | apply Kd.R_drewN | apply Kd.R_drew)); exact Kd.R_mono (Kd.R_far (p := ⟨gb442, 1, none⟩) (Kd.R_far (p := ⟨gb442, 0, none⟩) (Kd.R_types HO419.out BK442.out (by decide)) (fun _ hk => by first | exact hk.2 | grind) (.slice Ao42 t433.length co42)) (fun _ hk => by first | exact hk.2 | grind) (.bool t436)) (fun _ hk => by first | exact ⟨hk.1.1.1, ⟨hk.1.1.2, hk.1.2⟩⟩ | grind)))⟩; have n2_ : Aside0 (Kd.R (Kd.int .u8) 5 w49 w.heap.size (fun k_ => some k_ ≠ (.slice Ao17 t413.length co17 : Value).ownBlock ∧ some k_ ≠ (.slice Ao21 t417.length co21 : Value).ownBlock ∧ some k_ ≠ (.slice Ao42 t433.length co42 : Value).ownBlock) (.slice Ao32 t428.length co32) t428) := ⟨(by rw [hw]; exact (by (with_reducible repeat (first | apply Kd.R_alloc | apply Kd.R_drewN | apply Kd.R_drew)); exact Kd.R_mono (Kd.R_far (p := ⟨gb442, 1, none⟩) (Kd.R_far (p := ⟨gb442, 0, none⟩) (Kd.R_types HO430.out BK442.out (by decide)) (fun _ hk => by first | exact hk.2 | grind) (.slice Ao42 t433.length co42)) (fun _ hk => by first | exact hk.2 | grind) (.bool t436)) (fun _ hk => by first | exact ⟨hk.1.1.1, ⟨hk.1.1.2, hk.1.2⟩⟩ | grind)))⟩; have n3_ : Aside0 (Kd.R (Kd.int .u8) 5 w49 w.heap.size (fun k_ => some k_ ≠ (.slice Ao17 t413.length co17 : Value).ownBlock ∧ some k_ ≠ (.slice Ao21 t417.length co21 : Value).ownBlock ∧ some k_ ≠ (.slice Ao32 t428.length co32 : Value).ownBlock) (.slice Ao42 t433.length co42) t433) := ⟨(by rw [hw]; exact (by (with_reducible repeat (first | apply Kd.R_alloc | apply Kd.R_drewN | apply Kd.R_drew)); exact Kd.R_mono (Kd.R_far (p := ⟨gb442, 1, none⟩) (Kd.R_far (p := ⟨gb442, 0, none⟩) (Kd.R_types HO435.out BK442.out (by decide)) (fun _ hk => by first | exact hk.2 | grind) (.slice Ao42 t433.length co42)) (fun _ hk => by first | exact hk.2 | grind) (.bool t436)) (fun _ hk => by first | exact ⟨hk.1.1.1.2, ⟨hk.1.1.2, hk.1.2⟩⟩ | grind)))⟩; have n4_ : Aside0 (w49.heap[gb411]? = some (.cells #[.slice A0_0 l0_0.length c0_0, .bool a0_1] 100 (0, 0))) := ⟨(by rw [hw]; exact (uf_ BK411.out))⟩; have n5_ : Aside0 (w49.heap[gb426]? = some (.cells #[.slice Ao21 t417.length co21, .bool t420] 102 (0, 0))) := ⟨(by rw [hw]; exact (uf_ BK426.out))⟩; have n6_ : Aside0 (w49.heap[gb427]? = some (.cells #[.int .i64 t421, .int .i64 t422, .int .i64 t423, .int .i64 t424] 61 (0, 0))) := ⟨(by rw [hw]; exact (uf_ BK427.out))⟩; have n7_ : Aside0 (w49.heap[gb432]? = some (.cells #[.slice Ao32 t428.length co32, .bool t431] 102 (0, 0))) := ⟨(by rw [hw]; exact (uf_ BK432.out))⟩; have n8_ : Aside0 (w49.heap[gb442]? = some (.cells #[.slice Ao42 t433.length co42, .bool t436] 102 (0, 0))) := ⟨(by rw [hw]; exact (by (with_reducible repeat first|apply bn_|apply bd_|apply ba_); refine blk_put (cs := #[.slice Ao42 t433.length co42, .bool false]) ?_ 1 _ rfl; refine blk_put (cs := #[.slice none 0 0, .bool false]) ?_ 0 _ rfl; (with_reducible repeat first|apply bn_|apply bd_|apply ba_); exact BK442.out))⟩; have n9_ : Aside0 (w49.heap[gb443]? = some (.cells #[.int .i64 0, .int .i64 0, .int .i64 0, .int .i64 0] 61 (0, 0))) := ⟨(by rw [hw]; exact (uf_ BK443.out))⟩; have n10_ : Aside0 (Below w.heap.size w w49) := ⟨(by rw [hw]; exact (ue_ HB.out))⟩; clear hw HO415 HO419 HO430 HO435 BK411 BK426 BK427 BK432 BK442 BK443 HB; have HO415 := n0_; have HO419 := n1_; have HO430 := n2_; have HO435 := n3_; have BK411 := n4_; have BK426 := n5_; have BK427 := n6_; have BK432 := n7_; have BK442 := n8_; have BK443 := n9_; have HB := n10_; clear n0_ n1_ n2_ n3_ n4_ n5_ n6_ n7_ n8_ n9_ n10_; have hnb50 := NB443_411.out; have hnc50 := NB411_443.out; have hnb51 := NB443_426.out; have hnc51 := NB426_443.out; have hnb52 := NB443_427.out; have hnc52 := NB427_443.out; have hnb53 := NB443_432.out; have hnc53 := NB432_443.out; obtain ⟨hcz54_0, hcz54_1, hcz54_2, hcz54_3⟩ := cb4_ BK443.out; obtain ⟨hfz54_0, hfz54_1, hfz54_2⟩ := bf3_ BK443.out; have hfz54_3 := blk_frozen BK443.out 3) | ((with_reducible refine gate_store (t := 61) (p := 9) rfl ?_); refine store_event (t := 61) (p := 9) (v := ?vo_w55) (w1 := ((((w49.setCell ⟨gb443, 0, none⟩ (.int .i64 t437)).setCell ⟨gb443, 1, none⟩ (.int .i64 t438)).setCell ⟨gb443, 2, none⟩ (.int .i64 t439)).setCell ⟨gb443, 3, none⟩ (.int .i64 t440))) ?hg ?ho ?hn ?hr ?_; (case ho => rfl); (case hg => rfl); (case hn => rfl); (case hr => first | (go_simp; done) | (go_simp; rfl)); intro w55 hw; have n0_ : Aside0 (Kd.R (Kd.int .u8) 5 w55 w.heap.size (fun k_ => some k_ ≠ (.slice Ao21 t417.length co21 : Value).ownBlock ∧ some k_ ≠ (.slice Ao32 t428.length co32 : Value).ownBlock ∧ some k_ ≠ (.slice Ao42 t433.length co42 : Value).ownBlock) (.slice Ao17 t413.length co17) t413) := ⟨(by rw [hw]; exact (by (with_reducible repeat (first | apply Kd.R_alloc | apply Kd.R_drewN | apply Kd.R_drew)); exact Kd.R_mono (Kd.R_far (p := ⟨gb443, 3, none⟩) (Kd.R_far (p := ⟨gb443, 2, none⟩) (Kd.R_far (p := ⟨gb443, 1, none⟩) (Kd.R_far (p := ⟨gb443, 0, none⟩) (Kd.R_types HO415.out BK443.out (by decide)) (fun _ hk => by first | exact hk.2 | grind) (.int .i64 t437)) (fun _ hk => by first | exact hk.2 | grind) (.int .i64 t438)) (fun _ hk => by first | exact hk.2 | grind) (.int .i64 t439)) (fun _ hk => by first | exact hk.2 | grind) (.int .i64 t440)) (fun _ hk => by first | exact ⟨hk.1.1, ⟨hk.1.2.1, hk.1.2.2⟩⟩ | grind)))⟩; have n1_ : Aside0 (Kd.R (Kd.int .u8) 5 w55 w.heap.size (fun k_ => some k_ ≠ (.slice Ao17 t413.length co17 : Value).ownBlock ∧ some k_ ≠ (.slice Ao32 t428.length co32 : Value).ownBlock ∧ some k_ ≠ (.slice Ao42 t433.length co42 : Value).ownBlock) (.slice Ao21 t417.length co21) t417) := ⟨(by rw [hw]; exact (by (with_reducible repeat (first | apply Kd.R_alloc | apply Kd.R_drewN | apply Kd.R_drew)); exact Kd.R_mono (Kd.R_far (p := ⟨gb443, 3, none⟩) (Kd.R_far (p := ⟨gb443, 2, none⟩) (Kd.R_far (p := ⟨gb443, 1, none⟩) (Kd.R_far (p := ⟨gb443, 0, none⟩) (Kd.R_types HO419.out BK443.out (by decide)) (fun _ hk => by first | exact hk.2 | grind) (.int .i64 t437)) (fun _ hk => by first | exact hk.2 | grind) (.int .i64 t438)) (fun _ hk => by first | exact hk.2 | grind) (.int .i64 t439)) (fun _ hk => by first | exact hk.2 | grind) (.int .i64 t440)) (fun _ hk => by first | exact ⟨hk.1.1, ⟨hk.1.2.1, hk.1.2.2⟩⟩ | grind)))⟩; have n2_ : Aside0 (Kd.R (Kd.int .u8) 5 w55 w.heap.size (fun k_ => some k_ ≠ (.slice Ao17 t413.length co17 : Value).ownBlock ∧ some k_ ≠ (.slice Ao21 t417.length co21 : Value).ownBlock ∧ some k_ ≠ (.slice Ao42 t433.length co42 : Value).ownBlock) (.slice Ao32 t428.length co32) t428) := ⟨(by rw [hw]; exact (by (with_reducible repeat (first | apply Kd.R_alloc | apply Kd.R_drewN | apply Kd.R_drew)); exact Kd.R_mono (Kd.R_far (p := ⟨gb443, 3, none⟩) (Kd.R_far (p := ⟨gb443, 2, none⟩) (Kd.R_far (p := ⟨gb443, 1, none⟩) (Kd.R_far (p := ⟨gb443, 0, none⟩) (Kd.R_types HO430.out BK443.out (by decide)) (fun _ hk => by first | exact hk.2 | grind) (.int .i64 t437)) (fun _ hk => by first | exact hk.2 | grind) (.int .i64 t438)) (fun _ hk => by first | exact hk.2 | grind) (.int .i64 t439)) (fun _ hk => by first | exact hk.2 | grind) (.int .i64 t440)) (fun _ hk => by first | exact ⟨hk.1.1, ⟨hk.1.2.1, hk.1.2.2⟩⟩ | grind)))⟩; have n3_ : Aside0 (Kd.R (Kd.int .u8) 5 w55 w.heap.size (fun k_ => some k_ ≠ (.slice Ao17 t413.length co17 : Value).ownBlock ∧ some k_ ≠ (.slice Ao21 t417.length co21 : Value).ownBlock ∧ some k_ ≠ (.slice Ao32 t428.length co32 : Value).ownBlock) (.slice Ao42 t433.length co42) t433) := ⟨(by rw [hw]; exact (by (with_reducible repeat (first | apply Kd.R_alloc | apply Kd.R_drewN | apply Kd.R_drew)); exact Kd.R_mono (Kd.R_far (p := ⟨gb443, 3, none⟩) (Kd.R_far (p := ⟨gb443, 2, none⟩) (Kd.R_far (p := ⟨gb443, 1, none⟩) (Kd.R_far (p := ⟨gb443, 0, none⟩) (Kd.R_types HO435.out BK443.out (by decide)) (fun _ hk => by first | exact hk.2 | grind) (.int .i64 t437)) (fun _ hk => by first | exact hk.2 | grind) (.int .i64 t438)) (fun _ hk => by first | exact hk.2 | grind) (.int .i64 t439)) (fun _ hk => by first | exact hk.2 | grind) (.int .i64 t440)) (fun _ hk => by first | exact ⟨hk.1.1, ⟨hk.1.2.1, hk.1.2.2⟩⟩ | grind)))⟩; have n4_ : Aside0 (w55.heap[gb411]? = some (.cells #[.slice A0_0 l0_0.length c0_0, .bool a0_1] 100 (0, 0))) := ⟨(by rw [hw]; exact (uf_ BK411.out))⟩; have n5_ : Aside0 (w55.heap[gb426]? = some (.cells #[.slice Ao21 t417.length co21, .bool t420] 102 (0, 0))) := ⟨(by rw [hw]; exact (uf_ BK426.out))⟩; have n6_ : Aside0 (w55.heap[gb427]? = some (.cells #[.int .i64 t421, .int .i64 t422, .int .i64 t423, .int .i64 t424] 61 (0, 0))) := ⟨(by rw [hw]; exact (uf_ BK427.out))⟩; have n7_ : Aside0 (w55.heap[gb432]? = some (.cells #[.slice Ao32 t428.length co32, .bool t431] 102 (0, 0))) := ⟨(by rw [hw]; exact (uf_ BK432.out))⟩; have n8_ : Aside0 (w55.heap[gb442]? = some (.cells #[.slice Ao42 t433.length co42, .bool t436] 102 (0, 0))) := ⟨(by rw [hw]; exact (uf_ BK442.out))⟩; have n9_ : Aside0 (w55.heap[gb443]? = some (.cells #[.int .i64 t437, .int .i64 t438, .int .i64 t439, .int .i64 t440] 61 (0, 0))) := ⟨(by rw [hw]; exact (by (with_reducible repeat first|apply bn_|apply bd_|apply ba_); refine blk_put (cs := #[.int .i64 t437, .int .i64 t438, .int .i64 t439, .int .i64 0]) ?_ 3 _ rfl; refine blk_put (cs := #[.int .i64 t437, .int .i64 t438, .int .i64 0, .int .i64 0]) ?_ 2 _ rfl; refine blk_put (cs := #[.int .i64 t437, .int .i64 0, .int .i64 0, .int .i64 0]) ?_ 1 _ rfl; refine blk_put (cs := #[.int .i64 0, .int .i64 0, .int .i64 0, .int .i64 0]) ?_ 0 _ rfl; (with_reducible repeat first|apply bn_|apply bd_|apply ba_); exact BK443.out))⟩; have n10_ : Aside0 (Below w.heap.size w w55) := ⟨(by rw [hw]; exact (ue_ HB.out))⟩; clear hw HO415 HO419 HO430 HO435 BK411 BK426 BK427 BK432 BK442 BK443 HB; have HO415 := n0_; have HO419 := n1_; have HO430 := n2_; have HO435 := n3_; have BK411 := n4_; have BK426 := n5_; have BK427 := n6_; have BK432 := n7_; have BK442 := n8_; have BK443 := n9_; have HB := n10_; clear n0_ n1_ n2_ n3_ n4_ n5_ n6_ n7_ n8_ n9_ n10_))
  (try simp only [Act.put, List.setIfInBounds_toArray, List.set_cons_zero, List.set_cons_succ])
  go_cut [51] (fun v51 wc => ∃ (kq : Nat) (x51_10 : Bool), v51 = .bool x51_10 ∧ Aside0 (laws_FnExactTakeNext.j0 kq t425 t441 x51_10 l0_0 a0_1 t417 t420 t421 t422 t423 t424 t428 t431 t433 t436 t437 t438 t439 t440 = some r) ∧ Aside0 (kq ≤ k) ∧ Aside0 (Kd.R (Kd.int .u8) 5 wc w.heap.size (fun k_ => some k_ ≠ ((.slice Ao32 t428.length co32) : Value).ownBlock ∧ some k_ ≠ ((.slice Ao42 t433.length co42) : Value).ownBlock) (.slice Ao21 t417.length co21) t417) ∧ Aside0 (Kd.R (Kd.int .u8) 5 wc w.heap.size (fun k_ => some k_ ≠ ((.slice Ao21 t417.length co21) : Value).ownBlock ∧ some k_ ≠ ((.slice Ao42 t433.length co42) : Value).ownBlock) (.slice Ao32 t428.length co32) t428) ∧ Aside0 (Kd.R (Kd.int .u8) 5 wc w.heap.size (fun k_ => some k_ ≠ ((.slice Ao21 t417.length co21) : Value).ownBlock ∧ some k_ ≠ ((.slice Ao32 t428.length co32) : Value).ownBlock) (.slice Ao42 t433.length co42) t433) ∧ Aside0 (wc.heap[gb411]? = some (.cells #[(.slice A0_0 l0_0.length c0_0), .bool a0_1] 100 (0, 0))) ∧ Aside0 (wc.heap[gb426]? = some (.cells #[(.slice Ao21 t417.length co21), .bool t420] 102 (0, 0))) ∧ Aside0 (wc.heap[gb427]? = some (.cells #[.int .i64 t421, .int .i64 t422, .int .i64 t423, .int .i64 t424] 61 (0, 0))) ∧ Aside0 (wc.heap[gb432]? = some (.cells #[(.slice Ao32 t428.length co32), .bool t431] 102 (0, 0))) ∧ Aside0 (wc.heap[gb442]? = some (.cells #[(.slice Ao42 t433.length co42), .bool t436] 102 (0, 0))) ∧ Aside0 (wc.heap[gb443]? = some (.cells #[.int .i64 t437, .int .i64 t438, .int .i64 t439, .int .i64 t440] 61 (0, 0))) ∧ Aside0 (Below w.heap.size w wc))
  case first =>
   have H := HC11.out
   clear HC11
   replace H := Option.bind_eq_some_iff.mp H
   obtain ⟨t444, A560, H⟩ := H
   replace H : (if t444 = true then ((laws_eqFrame.f t437 t438 t439 t440 t421 t422 t423 t424).bind fun t445 => (if t445 = true then (laws_FnExactTakeNext.j0 k t425 t441 (t441 != t425) l0_0 a0_1 t417 t420 t421 t422 t423 t424 t428 t431 t433 t436 t437 t438 t439 t440) else (laws_FnExactTakeNext.j0 k t425 t441 true l0_0 a0_1 t417 t420 t421 t422 t423 t424 t428 t431 t433 t436 t437 t438 t439 t440))) else (laws_FnExactTakeNext.j0 k t425 t441 true l0_0 a0_1 t417 t420 t421 t422 t423 t424 t428 t431 t433 t436 t437 t438 t439 t440)) = some r := H
   have A56 := Aside0.mk A560
   clear A560
   by_cases c57 : t444 = true
   ·
    subst c57
    have H1 : ((laws_eqFrame.f t437 t438 t439 t440 t421 t422 t423 t424).bind fun t445 => (if t445 = true then (laws_FnExactTakeNext.j0 k t425 t441 (t441 != t425) l0_0 a0_1 t417 t420 t421 t422 t423 t424 t428 t431 t433 t436 t437 t438 t439 t440) else (laws_FnExactTakeNext.j0 k t425 t441 true l0_0 a0_1 t417 t420 t421 t422 t423 t424 t428 t431 t433 t436 t437 t438 t439 t440))) = some r := by rw [if_pos rfl] at H; exact H
    clear H
    have H := H1
    clear H1
    replace H := Option.bind_eq_some_iff.mp H
    obtain ⟨t445, A580, H⟩ := H
    replace H : (if t445 = true then (laws_FnExactTakeNext.j0 k t425 t441 (t441 != t425) l0_0 a0_1 t417 t420 t421 t422 t423 t424 t428 t431 t433 t436 t437 t438 t439 t440) else (laws_FnExactTakeNext.j0 k t425 t441 true l0_0 a0_1 t417 t420 t421 t422 t423 t424 t428 t431 t433 t436 t437 t438 t439 t440)) = some r := H
    have A58 := Aside0.mk A580
    clear A580
    by_cases c59 : t445 = true
    ·
     subst c59
     have H1 : (laws_FnExactTakeNext.j0 k t425 t441 (t441 != t425) l0_0 a0_1 t417 t420 t421 t422 t423 t424 t428 t431 t433 t436 t437 t438 t439 t440) = some r := by rw [if_pos rfl] at H; exact H
     clear H
     have H := H1
     clear H1
     have H' := Aside0.mk H
     clear H
     have hnb60 := NB442_411.out
     have hnc60 := NB411_442.out
     have hnb61 := NB442_426.out
     have hnc61 := NB426_442.out
     have hnb62 := NB442_427.out
     have hnc62 := NB427_442.out
     have hnb63 := NB442_432.out
     have hnc63 := NB432_442.out
     have hnb64 := NB442_443.out
     have hnc64 := NB443_442.out
     have hcz65_0 := cb_ BK442.out 0 rfl
     have hcz65_1 := cb_ BK442.out 1 rfl
     have hfz65_0 := blk_frozen BK442.out 0
     have hfz65_1 := blk_frozen BK442.out 1
     have hnb66 := NB426_411.out
     have hnc66 := NB411_426.out
     have hnb67 := NB426_427.out
     have hnc67 := NB427_426.out
     have hnb68 := NB426_432.out
     have hnc68 := NB432_426.out
     have hnb69 := NB426_443.out
     have hnc69 := NB443_426.out
     have hcz70_0 := cb_ BK426.out 0 rfl
     have hcz70_1 := cb_ BK426.out 1 rfl
     have hfz70_0 := blk_frozen BK426.out 0
     have hfz70_1 := blk_frozen BK426.out 1
     go_wp2_with (first | ((with_reducible refine gate_callee (f := 79) rfl ?_); refine goesL_ (some 39) rfl rfl Try.func79 (by kernel_rfl) rfl #[.agg #[.slice Ao42 t433.length co42, .bool t436], .agg #[.slice Ao21 t417.length co21, .bool t420]] rfl ul_ ?_; (with_reducible refine (laws_eqDecoder.calls k _ _ t433 t436 _ _ t417 t420 true _ ?side1 ?side2 ?side3 ?side4 A56.out).mono ?_); (case side1 => repeat (first | exact (Kd.R_reads' HO435.out).2.2 | (with_reducible refine Kd.C_alloc ?_ _) | (with_reducible refine Kd.C_drewN ?_ _) | (with_reducible refine Kd.C_drew ?_))); (case side2 => exact (Kd.R_reads' HO435.out).2.1); (case side3 => repeat (first | exact (Kd.R_reads' HO419.out).2.2 | (with_reducible refine Kd.C_alloc ?_ _) | (with_reducible refine Kd.C_drewN ?_ _) | (with_reducible refine Kd.C_drew ?_))); (case side4 => exact (Kd.R_reads' HO419.out).2.1); rintro e w71 ⟨rfl, hb⟩; refine ⟨_, rfl, ?_⟩; have n0_ := am_ (Kd.R_below (ur_ HO415.out) hb); have n1_ := am_ (Kd.R_below (ur_ HO419.out) hb); have n2_ := am_ (Kd.R_below (ur_ HO430.out) hb); have n3_ := am_ (Kd.R_below (ur_ HO435.out) hb); have n4_ := am_ (bb_ BK411.out hb); have n5_ := am_ (bb_ BK426.out hb); have n6_ := am_ (bb_ BK427.out hb); have n7_ := am_ (bb_ BK432.out hb); have n8_ := am_ (bb_ BK442.out hb); have n9_ := am_ (bb_ BK443.out hb); have n10_ := am_ (below_step (ue_ HB.out) hb); clear HO415 HO419 HO430 HO435 BK411 BK426 BK427 BK432 BK442 BK443 HB; have HO415 := n0_; have HO419 := n1_; have HO430 := n2_; have HO435 := n3_; have BK411 := n4_; have BK426 := n5_; have BK427 := n6_; have BK432 := n7_; have BK442 := n8_; have BK443 := n9_; have HB := n10_; clear n0_ n1_ n2_ n3_ n4_ n5_ n6_ n7_ n8_ n9_ n10_; (try clear hb); (try clear hb2); (try clear hk); (try clear hi); have hnb72 := NB443_411.out; have hnc72 := NB411_443.out; have hnb73 := NB443_427.out; have hnc73 := NB427_443.out; have hnb74 := NB443_432.out; have hnc74 := NB432_443.out; obtain ⟨hcz75_0, hcz75_1, hcz75_2, hcz75_3⟩ := cb4_ BK443.out; obtain ⟨hfz75_0, hfz75_1, hfz75_2, hfz75_3⟩ := bf4_ BK443.out; have hnb76 := NB427_411.out; have hnc76 := NB411_427.out; have hnb77 := NB427_432.out; have hnc77 := NB432_427.out; obtain ⟨hcz78_0, hcz78_1, hcz78_2, hcz78_3⟩ := cb4_ BK427.out; obtain ⟨hfz78_0, hfz78_1, hfz78_2⟩ := bf3_ BK427.out; have hfz78_3 := blk_frozen BK427.out 3) | (go_at_call 62; (with_reducible refine (laws_eqFrame.calls t437 t438 t439 t440 t421 t422 t423 t424 true _ A58.out).mono ?_); rintro e w79 ⟨rfl, hb⟩; have n0_ := am_ (Kd.R_below (ur_ HO415.out) hb); have n1_ := am_ (Kd.R_below (ur_ HO419.out) hb); have n2_ := am_ (Kd.R_below (ur_ HO430.out) hb); have n3_ := am_ (Kd.R_below (ur_ HO435.out) hb); have n4_ := am_ (bb_ BK411.out hb); have n5_ := am_ (bb_ BK426.out hb); have n6_ := am_ (bb_ BK427.out hb); have n7_ := am_ (bb_ BK432.out hb); have n8_ := am_ (bb_ BK442.out hb); have n9_ := am_ (bb_ BK443.out hb); have n10_ := am_ (below_step (ue_ HB.out) hb); clear HO415 HO419 HO430 HO435 BK411 BK426 BK427 BK432 BK442 BK443 HB; have HO415 := n0_; have HO419 := n1_; have HO430 := n2_; have HO435 := n3_; have BK411 := n4_; have BK426 := n5_; have BK427 := n6_; have BK432 := n7_; have BK442 := n8_; have BK443 := n9_; have HB := n10_; clear n0_ n1_ n2_ n3_ n4_ n5_ n6_ n7_ n8_ n9_ n10_; (try clear hb); (try clear hb2); (try clear hk); (try clear hi)))
     go_meet
     case rel => exact ⟨_, ((t441 != t425)), (by first | rfl | (simp; done) | (simp [*]; done)), H', ⟨by first | omega | exact Nat.le_refl _⟩, ⟨by (with_reducible repeat (first | apply Kd.R_alloc | apply Kd.R_drewN | apply Kd.R_drew)); exact Kd.R_mono HO419.out (fun _ hk => by first | exact ⟨hk.2.1, hk.2.2⟩ | grind)⟩, ⟨by (with_reducible repeat (first | apply Kd.R_alloc | apply Kd.R_drewN | apply Kd.R_drew)); exact Kd.R_mono HO430.out (fun _ hk => by first | exact ⟨hk.2.1, hk.2.2⟩ | grind)⟩, ⟨by (with_reducible repeat (first | apply Kd.R_alloc | apply Kd.R_drewN | apply Kd.R_drew)); exact Kd.R_mono HO435.out (fun _ hk => by first | exact ⟨hk.2.1, hk.2.2⟩ | grind)⟩, ⟨by (with_reducible repeat first|apply bn_|apply bd_|apply ba_); exact BK411.out⟩, ⟨by (with_reducible repeat first|apply bn_|apply bd_|apply ba_); exact BK426.out⟩, ⟨by (with_reducible repeat first|apply bn_|apply bd_|apply ba_); exact BK427.out⟩, ⟨by (with_reducible repeat first|apply bn_|apply bd_|apply ba_); exact BK432.out⟩, ⟨by (with_reducible repeat first|apply bn_|apply bd_|apply ba_); exact BK442.out⟩, ⟨by (with_reducible repeat first|apply bn_|apply bd_|apply ba_); exact BK443.out⟩, ⟨ue_ HB.out⟩⟩
    ·
     replace c59 := Bool.eq_false_iff.mpr c59
     subst c59
     have H1 : (laws_FnExactTakeNext.j0 k t425 t441 true l0_0 a0_1 t417 t420 t421 t422 t423 t424 t428 t431 t433 t436 t437 t438 t439 t440) = some r := by rw [if_neg (show ¬ (false = true) by decide)] at H; exact H
     clear H
     have H := H1
     clear H1
     have H' := Aside0.mk H
     clear H
     have hnb80 := NB442_411.out
     have hnc80 := NB411_442.out
     have hnb81 := NB442_426.out
     have hnc81 := NB426_442.out
     have hnb82 := NB442_427.out
     have hnc82 := NB427_442.out
     have hnb83 := NB442_432.out
     have hnc83 := NB432_442.out
     have hnb84 := NB442_443.out
     have hnc84 := NB443_442.out
     have hcz85_0 := cb_ BK442.out 0 rfl
     have hcz85_1 := cb_ BK442.out 1 rfl
     have hfz85_0 := blk_frozen BK442.out 0
     have hfz85_1 := blk_frozen BK442.out 1
     have hnb86 := NB426_411.out
     have hnc86 := NB411_426.out
     have hnb87 := NB426_427.out
     have hnc87 := NB427_426.out
     have hnb88 := NB426_432.out
     have hnc88 := NB432_426.out
     have hnb89 := NB426_443.out
     have hnc89 := NB443_426.out
     have hcz90_0 := cb_ BK426.out 0 rfl
     have hcz90_1 := cb_ BK426.out 1 rfl
     have hfz90_0 := blk_frozen BK426.out 0
     have hfz90_1 := blk_frozen BK426.out 1
     go_wp2_with (first | ((with_reducible refine gate_callee (f := 79) rfl ?_); refine goesL_ (some 39) rfl rfl Try.func79 (by kernel_rfl) rfl #[.agg #[.slice Ao42 t433.length co42, .bool t436], .agg #[.slice Ao21 t417.length co21, .bool t420]] rfl ul_ ?_; (with_reducible refine (laws_eqDecoder.calls k _ _ t433 t436 _ _ t417 t420 true _ ?side1 ?side2 ?side3 ?side4 A56.out).mono ?_); (case side1 => repeat (first | exact (Kd.R_reads' HO435.out).2.2 | (with_reducible refine Kd.C_alloc ?_ _) | (with_reducible refine Kd.C_drewN ?_ _) | (with_reducible refine Kd.C_drew ?_))); (case side2 => exact (Kd.R_reads' HO435.out).2.1); (case side3 => repeat (first | exact (Kd.R_reads' HO419.out).2.2 | (with_reducible refine Kd.C_alloc ?_ _) | (with_reducible refine Kd.C_drewN ?_ _) | (with_reducible refine Kd.C_drew ?_))); (case side4 => exact (Kd.R_reads' HO419.out).2.1); rintro e w91 ⟨rfl, hb⟩; refine ⟨_, rfl, ?_⟩; have n0_ := am_ (Kd.R_below (ur_ HO415.out) hb); have n1_ := am_ (Kd.R_below (ur_ HO419.out) hb); have n2_ := am_ (Kd.R_below (ur_ HO430.out) hb); have n3_ := am_ (Kd.R_below (ur_ HO435.out) hb); have n4_ := am_ (bb_ BK411.out hb); have n5_ := am_ (bb_ BK426.out hb); have n6_ := am_ (bb_ BK427.out hb); have n7_ := am_ (bb_ BK432.out hb); have n8_ := am_ (bb_ BK442.out hb); have n9_ := am_ (bb_ BK443.out hb); have n10_ := am_ (below_step (ue_ HB.out) hb); clear HO415 HO419 HO430 HO435 BK411 BK426 BK427 BK432 BK442 BK443 HB; have HO415 := n0_; have HO419 := n1_; have HO430 := n2_; have HO435 := n3_; have BK411 := n4_; have BK426 := n5_; have BK427 := n6_; have BK432 := n7_; have BK442 := n8_; have BK443 := n9_; have HB := n10_; clear n0_ n1_ n2_ n3_ n4_ n5_ n6_ n7_ n8_ n9_ n10_; (try clear hb); (try clear hb2); (try clear hk); (try clear hi); have hnb92 := NB443_411.out; have hnc92 := NB411_443.out; have hnb93 := NB443_427.out; have hnc93 := NB427_443.out; have hnb94 := NB443_432.out; have hnc94 := NB432_443.out; obtain ⟨hcz95_0, hcz95_1, hcz95_2, hcz95_3⟩ := cb4_ BK443.out; obtain ⟨hfz95_0, hfz95_1, hfz95_2, hfz95_3⟩ := bf4_ BK443.out; have hnb96 := NB427_411.out; have hnc96 := NB411_427.out; have hnb97 := NB427_432.out; have hnc97 := NB432_427.out; obtain ⟨hcz98_0, hcz98_1, hcz98_2, hcz98_3⟩ := cb4_ BK427.out; obtain ⟨hfz98_0, hfz98_1, hfz98_2⟩ := bf3_ BK427.out; have hfz98_3 := blk_frozen BK427.out 3) | (go_at_call 62; (with_reducible refine (laws_eqFrame.calls t437 t438 t439 t440 t421 t422 t423 t424 false _ A58.out).mono ?_); rintro e w99 ⟨rfl, hb⟩; have n0_ := am_ (Kd.R_below (ur_ HO415.out) hb); have n1_ := am_ (Kd.R_below (ur_ HO419.out) hb); have n2_ := am_ (Kd.R_below (ur_ HO430.out) hb); have n3_ := am_ (Kd.R_below (ur_ HO435.out) hb); have n4_ := am_ (bb_ BK411.out hb); have n5_ := am_ (bb_ BK426.out hb); have n6_ := am_ (bb_ BK427.out hb); have n7_ := am_ (bb_ BK432.out hb); have n8_ := am_ (bb_ BK442.out hb); have n9_ := am_ (bb_ BK443.out hb); have n10_ := am_ (below_step (ue_ HB.out) hb); clear HO415 HO419 HO430 HO435 BK411 BK426 BK427 BK432 BK442 BK443 HB; have HO415 := n0_; have HO419 := n1_; have HO430 := n2_; have HO435 := n3_; have BK411 := n4_; have BK426 := n5_; have BK427 := n6_; have BK432 := n7_; have BK442 := n8_; have BK443 := n9_; have HB := n10_; clear n0_ n1_ n2_ n3_ n4_ n5_ n6_ n7_ n8_ n9_ n10_; (try clear hb); (try clear hb2); (try clear hk); (try clear hi)))
     go_meet
     case rel => exact ⟨_, (true), (by first | rfl | (simp; done) | (simp [*]; done)), H', ⟨by first | omega | exact Nat.le_refl _⟩, ⟨by (with_reducible repeat (first | apply Kd.R_alloc | apply Kd.R_drewN | apply Kd.R_drew)); exact Kd.R_mono HO419.out (fun _ hk => by first | exact ⟨hk.2.1, hk.2.2⟩ | grind)⟩, ⟨by (with_reducible repeat (first | apply Kd.R_alloc | apply Kd.R_drewN | apply Kd.R_drew)); exact Kd.R_mono HO430.out (fun _ hk => by first | exact ⟨hk.2.1, hk.2.2⟩ | grind)⟩, ⟨by (with_reducible repeat (first | apply Kd.R_alloc | apply Kd.R_drewN | apply Kd.R_drew)); exact Kd.R_mono HO435.out (fun _ hk => by first | exact ⟨hk.2.1, hk.2.2⟩ | grind)⟩, ⟨by (with_reducible repeat first|apply bn_|apply bd_|apply ba_); exact BK411.out⟩, ⟨by (with_reducible repeat first|apply bn_|apply bd_|apply ba_); exact BK426.out⟩, ⟨by (with_reducible repeat first|apply bn_|apply bd_|apply ba_); exact BK427.out⟩, ⟨by (with_reducible repeat first|apply bn_|apply bd_|apply ba_); exact BK432.out⟩, ⟨by (with_reducible repeat first|apply bn_|apply bd_|apply ba_); exact BK442.out⟩, ⟨by (with_reducible repeat first|apply bn_|apply bd_|apply ba_); exact BK443.out⟩, ⟨ue_ HB.out⟩⟩
   ·
    replace c57 := Bool.eq_false_iff.mpr c57
    subst c57
    have H1 : (laws_FnExactTakeNext.j0 k t425 t441 true l0_0 a0_1 t417 t420 t421 t422 t423 t424 t428 t431 t433 t436 t437 t438 t439 t440) = some r := by rw [if_neg (show ¬ (false = true) by decide)] at H; exact H
    clear H
    have H := H1
    clear H1
    have H' := Aside0.mk H
    clear H
    have hnb100 := NB442_411.out
    have hnc100 := NB411_442.out
    have hnb101 := NB442_426.out
    have hnc101 := NB426_442.out
    have hnb102 := NB442_427.out
    have hnc102 := NB427_442.out
    have hnb103 := NB442_432.out
    have hnc103 := NB432_442.out
    have hnb104 := NB442_443.out
    have hnc104 := NB443_442.out
    have hcz105_0 := cb_ BK442.out 0 rfl
    have hcz105_1 := cb_ BK442.out 1 rfl
    have hfz105_0 := blk_frozen BK442.out 0
    have hfz105_1 := blk_frozen BK442.out 1
    have hnb106 := NB426_411.out
    have hnc106 := NB411_426.out
    have hnb107 := NB426_427.out
    have hnc107 := NB427_426.out
    have hnb108 := NB426_432.out
    have hnc108 := NB432_426.out
    have hnb109 := NB426_443.out
    have hnc109 := NB443_426.out
    have hcz110_0 := cb_ BK426.out 0 rfl
    have hcz110_1 := cb_ BK426.out 1 rfl
    have hfz110_0 := blk_frozen BK426.out 0
    have hfz110_1 := blk_frozen BK426.out 1
    go_wp2_with (first | ((with_reducible refine gate_callee (f := 79) rfl ?_); refine goesL_ (some 39) rfl rfl Try.func79 (by kernel_rfl) rfl #[.agg #[.slice Ao42 t433.length co42, .bool t436], .agg #[.slice Ao21 t417.length co21, .bool t420]] rfl ul_ ?_; (with_reducible refine (laws_eqDecoder.calls k _ _ t433 t436 _ _ t417 t420 false _ ?side1 ?side2 ?side3 ?side4 A56.out).mono ?_); (case side1 => repeat (first | exact (Kd.R_reads' HO435.out).2.2 | (with_reducible refine Kd.C_alloc ?_ _) | (with_reducible refine Kd.C_drewN ?_ _) | (with_reducible refine Kd.C_drew ?_))); (case side2 => exact (Kd.R_reads' HO435.out).2.1); (case side3 => repeat (first | exact (Kd.R_reads' HO419.out).2.2 | (with_reducible refine Kd.C_alloc ?_ _) | (with_reducible refine Kd.C_drewN ?_ _) | (with_reducible refine Kd.C_drew ?_))); (case side4 => exact (Kd.R_reads' HO419.out).2.1); rintro e w111 ⟨rfl, hb⟩; refine ⟨_, rfl, ?_⟩; have n0_ := am_ (Kd.R_below (ur_ HO415.out) hb); have n1_ := am_ (Kd.R_below (ur_ HO419.out) hb); have n2_ := am_ (Kd.R_below (ur_ HO430.out) hb); have n3_ := am_ (Kd.R_below (ur_ HO435.out) hb); have n4_ := am_ (bb_ BK411.out hb); have n5_ := am_ (bb_ BK426.out hb); have n6_ := am_ (bb_ BK427.out hb); have n7_ := am_ (bb_ BK432.out hb); have n8_ := am_ (bb_ BK442.out hb); have n9_ := am_ (bb_ BK443.out hb); have n10_ := am_ (below_step (ue_ HB.out) hb); clear HO415 HO419 HO430 HO435 BK411 BK426 BK427 BK432 BK442 BK443 HB; have HO415 := n0_; have HO419 := n1_; have HO430 := n2_; have HO435 := n3_; have BK411 := n4_; have BK426 := n5_; have BK427 := n6_; have BK432 := n7_; have BK442 := n8_; have BK443 := n9_; have HB := n10_; clear n0_ n1_ n2_ n3_ n4_ n5_ n6_ n7_ n8_ n9_ n10_; (try clear hb); (try clear hb2); (try clear hk); (try clear hi)))
    go_meet
    case rel => exact ⟨_, (true), (by first | rfl | (simp; done) | (simp [*]; done)), H', ⟨by first | omega | exact Nat.le_refl _⟩, ⟨by (with_reducible repeat (first | apply Kd.R_alloc | apply Kd.R_drewN | apply Kd.R_drew)); exact Kd.R_mono HO419.out (fun _ hk => by first | exact ⟨hk.2.1, hk.2.2⟩ | grind)⟩, ⟨by (with_reducible repeat (first | apply Kd.R_alloc | apply Kd.R_drewN | apply Kd.R_drew)); exact Kd.R_mono HO430.out (fun _ hk => by first | exact ⟨hk.2.1, hk.2.2⟩ | grind)⟩, ⟨by (with_reducible repeat (first | apply Kd.R_alloc | apply Kd.R_drewN | apply Kd.R_drew)); exact Kd.R_mono HO435.out (fun _ hk => by first | exact ⟨hk.2.1, hk.2.2⟩ | grind)⟩, ⟨by (with_reducible repeat first|apply bn_|apply bd_|apply ba_); exact BK411.out⟩, ⟨by (with_reducible repeat first|apply bn_|apply bd_|apply ba_); exact BK426.out⟩, ⟨by (with_reducible repeat first|apply bn_|apply bd_|apply ba_); exact BK427.out⟩, ⟨by (with_reducible repeat first|apply bn_|apply bd_|apply ba_); exact BK432.out⟩, ⟨by (with_reducible repeat first|apply bn_|apply bd_|apply ba_); exact BK442.out⟩, ⟨by (with_reducible repeat first|apply bn_|apply bd_|apply ba_); exact BK443.out⟩, ⟨ue_ HB.out⟩⟩
  case rest =>
   clear HC11
   try clear c1
   try clear c2
   try clear p2
   try clear c3
   try clear c3b0
   try clear c4
   try clear c5
   try clear c6
   try clear c7
   try clear c8
   try clear c9
   try clear c10
   try clear c13
   try clear c22
   try clear c23
   try clear c26
   try clear c33
   try clear c34
   try clear c35
   try clear c43
   try clear c44
   try clear c45
   try clear c46
   try clear c47
   try clear c50
   try clear c51
   try clear c52
   try clear c53
   try clear c57
   try clear c59
   try clear c60
   try clear c61
   try clear c62
   try clear c63
   try clear c64
   try clear c66
   try clear c67
   try clear c68
   try clear c69
   try clear c72
   try clear c73
   try clear c74
   try clear c75
   try clear c76
   try clear c77
   try clear c78
   try clear c79
   try clear c80
   try clear c81
   try clear c82
   try clear c83
   try clear c84
   try clear c86
   try clear c87
   try clear c88
   try clear c89
   try clear c92
   try clear c93
   try clear c94
   try clear c96
   try clear c97
   try clear c100
   try clear c101
   try clear c102
   try clear c103
   try clear c104
   try clear c106
   try clear c107
   try clear c108
   try clear c109
   try clear hcz105_0
   try clear hcz105_1
   try clear hcz110_0
   try clear hcz110_1
   try clear hcz13_0
   try clear hcz13_1
   try clear hcz15_0
   try clear hcz15_1
   try clear hcz24_0
   try clear hcz24_1
   try clear hcz27_0
   try clear hcz27_1
   try clear hcz27_2
   try clear hcz27_3
   try clear hcz29_0
   try clear hcz29_1
   try clear hcz36_0
   try clear hcz36_1
   try clear hcz38_0
   try clear hcz38_1
   try clear hcz48_0
   try clear hcz48_1
   try clear hcz54_0
   try clear hcz54_1
   try clear hcz54_2
   try clear hcz54_3
   try clear hcz5_0
   try clear hcz5_1
   try clear hcz65_0
   try clear hcz65_1
   try clear hcz70_0
   try clear hcz70_1
   try clear hcz75_0
   try clear hcz75_1
   try clear hcz75_2
   try clear hcz75_3
   try clear hcz78_0
   try clear hcz78_1
   try clear hcz78_2
   try clear hcz78_3
   try clear hcz85_0
   try clear hcz85_1
   try clear hcz90_0
   try clear hcz90_1
   try clear hcz95_0
   try clear hcz95_1
   try clear hcz95_2
   try clear hcz95_3
   try clear hcz98_0
   try clear hcz98_1
   try clear hcz98_2
   try clear hcz98_3
   try clear hfz105_0
   try clear hfz105_1
   try clear hfz110_0
   try clear hfz110_1
   try clear hfz13_0
   try clear hfz13_1
   try clear hfz15_0
   try clear hfz15_1
   try clear hfz24_0
   try clear hfz24_1
   try clear hfz27_0
   try clear hfz27_1
   try clear hfz27_2
   try clear hfz27_3
   try clear hfz29_0
   try clear hfz29_1
   try clear hfz36_0
   try clear hfz36_1
   try clear hfz38_0
   try clear hfz38_1
   try clear hfz48_0
   try clear hfz48_1
   try clear hfz54_0
   try clear hfz54_1
   try clear hfz54_2
   try clear hfz54_3
   try clear hfz5_0
   try clear hfz5_1
   try clear hfz65_0
   try clear hfz65_1
   try clear hfz70_0
   try clear hfz70_1
   try clear hfz75_0
   try clear hfz75_1
   try clear hfz75_2
   try clear hfz75_3
   try clear hfz78_0
   try clear hfz78_1
   try clear hfz78_2
   try clear hfz78_3
   try clear hfz85_0
   try clear hfz85_1
   try clear hfz90_0
   try clear hfz90_1
   try clear hfz95_0
   try clear hfz95_1
   try clear hfz95_2
   try clear hfz95_3
   try clear hfz98_0
   try clear hfz98_1
   try clear hfz98_2
   try clear hfz98_3
   obtain ⟨kq, x51_10, rfl, HA, HJ10, HO_427000, HO_433000, HO_443000, BK411, BK426, BK427, BK432, BK442, BK443, HB⟩ := hcut
   cases kq with
   | zero => exact absurd HA.out (by simp [laws_FnExactTakeNext.j0])
   | succ kj10 =>
    have H := HA.out
    clear HA
    simp only [laws_FnExactTakeNext.j0] at H
    by_cases c112 : x51_10 = true
    ·
     subst c112
     have H1 : (some false) = some r := by rw [if_pos rfl] at H; exact H
     clear H
     have H := H1
     clear H1
     exact absurd ((Option.some.inj H).trans hT.out) (by decide)
    ·
     replace c112 := Bool.eq_false_iff.mpr c112
     subst c112
     have H1 : ((laws_toDecoder.f kj10 l0_0 a0_1).bind fun bt446 => ((laws_eqDecoder.f kj10 t428 t431 bt446.1 bt446.2).bind fun t450 => (if t450 = true then ((laws_markDecoder.f kj10 t428 t431 1).bind fun bt451 => (if bt451.1 < 0 then (laws_FnExactTakeNext.j1 kj10 t425 true l0_0 a0_1 t417 t420 t421 t422 t423 t424 t433 t436) else ((laws_eqDecoder.f kj10 t433 t436 t417 t420).bind fun t453 => (if t453 = true then ((laws_eqFrame.f t437 t438 t439 t440 t421 t422 t423 t424).bind fun t454 => (if t454 = true then (laws_FnExactTakeNext.j1 kj10 t425 (t441 != t425) l0_0 a0_1 t417 t420 t421 t422 t423 t424 t433 t436) else (laws_FnExactTakeNext.j1 kj10 t425 true l0_0 a0_1 t417 t420 t421 t422 t423 t424 t433 t436))) else (laws_FnExactTakeNext.j1 kj10 t425 true l0_0 a0_1 t417 t420 t421 t422 t423 t424 t433 t436))))) else (some false)))) = some r := by rw [if_neg (show ¬ (false = true) by decide)] at H; exact H
     clear H
     have H := H1
     clear H1
     replace H := Option.bind_eq_some_iff.mp H
     obtain ⟨⟨t446, t449⟩, A1130, H⟩ := H
     replace H : ((laws_eqDecoder.f kj10 t428 t431 t446 t449).bind fun t450 => (if t450 = true then ((laws_markDecoder.f kj10 t428 t431 1).bind fun bt451 => (if bt451.1 < 0 then (laws_FnExactTakeNext.j1 kj10 t425 true l0_0 a0_1 t417 t420 t421 t422 t423 t424 t433 t436) else ((laws_eqDecoder.f kj10 t433 t436 t417 t420).bind fun t453 => (if t453 = true then ((laws_eqFrame.f t437 t438 t439 t440 t421 t422 t423 t424).bind fun t454 => (if t454 = true then (laws_FnExactTakeNext.j1 kj10 t425 (t441 != t425) l0_0 a0_1 t417 t420 t421 t422 t423 t424 t433 t436) else (laws_FnExactTakeNext.j1 kj10 t425 true l0_0 a0_1 t417 t420 t421 t422 t423 t424 t433 t436))) else (laws_FnExactTakeNext.j1 kj10 t425 true l0_0 a0_1 t417 t420 t421 t422 t423 t424 t433 t436))))) else (some false))) = some r := H
     have A113 := Aside0.mk A1130
     clear A1130
     replace H := Option.bind_eq_some_iff.mp H
     obtain ⟨t450, A1140, H⟩ := H
     replace H : (if t450 = true then ((laws_markDecoder.f kj10 t428 t431 1).bind fun bt451 => (if bt451.1 < 0 then (laws_FnExactTakeNext.j1 kj10 t425 true l0_0 a0_1 t417 t420 t421 t422 t423 t424 t433 t436) else ((laws_eqDecoder.f kj10 t433 t436 t417 t420).bind fun t453 => (if t453 = true then ((laws_eqFrame.f t437 t438 t439 t440 t421 t422 t423 t424).bind fun t454 => (if t454 = true then (laws_FnExactTakeNext.j1 kj10 t425 (t441 != t425) l0_0 a0_1 t417 t420 t421 t422 t423 t424 t433 t436) else (laws_FnExactTakeNext.j1 kj10 t425 true l0_0 a0_1 t417 t420 t421 t422 t423 t424 t433 t436))) else (laws_FnExactTakeNext.j1 kj10 t425 true l0_0 a0_1 t417 t420 t421 t422 t423 t424 t433 t436))))) else (some false)) = some r := H
     have A114 := Aside0.mk A1140
     clear A1140
     by_cases c115 : t450 = true
     ·
      subst c115
      have H1 : ((laws_markDecoder.f kj10 t428 t431 1).bind fun bt451 => (if bt451.1 < 0 then (laws_FnExactTakeNext.j1 kj10 t425 true l0_0 a0_1 t417 t420 t421 t422 t423 t424 t433 t436) else ((laws_eqDecoder.f kj10 t433 t436 t417 t420).bind fun t453 => (if t453 = true then ((laws_eqFrame.f t437 t438 t439 t440 t421 t422 t423 t424).bind fun t454 => (if t454 = true then (laws_FnExactTakeNext.j1 kj10 t425 (t441 != t425) l0_0 a0_1 t417 t420 t421 t422 t423 t424 t433 t436) else (laws_FnExactTakeNext.j1 kj10 t425 true l0_0 a0_1 t417 t420 t421 t422 t423 t424 t433 t436))) else (laws_FnExactTakeNext.j1 kj10 t425 true l0_0 a0_1 t417 t420 t421 t422 t423 t424 t433 t436))))) = some r := by rw [if_pos rfl] at H; exact H
      clear H
      have H := H1
      clear H1
      replace H := Option.bind_eq_some_iff.mp H
      obtain ⟨⟨t451, t452⟩, A1160, H⟩ := H
      replace H : (if t451 < 0 then (laws_FnExactTakeNext.j1 kj10 t425 true l0_0 a0_1 t417 t420 t421 t422 t423 t424 t433 t436) else ((laws_eqDecoder.f kj10 t433 t436 t417 t420).bind fun t453 => (if t453 = true then ((laws_eqFrame.f t437 t438 t439 t440 t421 t422 t423 t424).bind fun t454 => (if t454 = true then (laws_FnExactTakeNext.j1 kj10 t425 (t441 != t425) l0_0 a0_1 t417 t420 t421 t422 t423 t424 t433 t436) else (laws_FnExactTakeNext.j1 kj10 t425 true l0_0 a0_1 t417 t420 t421 t422 t423 t424 t433 t436))) else (laws_FnExactTakeNext.j1 kj10 t425 true l0_0 a0_1 t417 t420 t421 t422 t423 t424 t433 t436)))) = some r := H
      have A116 := Aside0.mk A1160
      clear A1160
      have HC117 := Aside0.mk H
      clear H
      try go_wp2
      have n0_ := am_ (Kd.R_drew HO_427000.out)
      have n1_ := am_ (Kd.R_drew HO_433000.out)
      have n2_ := am_ (Kd.R_drew HO_443000.out)
      have n3_ := am_ (blk_drew BK411.out)
      have n4_ := am_ (blk_drew BK426.out)
      have n5_ := am_ (blk_drew BK427.out)
      have n6_ := am_ (blk_drew BK432.out)
      have n7_ := am_ (blk_drew BK442.out)
      have n8_ := am_ (blk_drew BK443.out)
      have n9_ := am_ (below_drew1 HB.out)
      clear HO_427000
      clear HO_433000
      clear HO_443000
      clear BK411
      clear BK426
      clear BK427
      clear BK432
      clear BK442
      clear BK443
      clear HB
      have HO_427000 := n0_
      have HO_433000 := n1_
      have HO_443000 := n2_
      have BK411 := n3_
      have BK426 := n4_
      have BK427 := n5_
      have BK432 := n6_
      have BK442 := n7_
      have BK443 := n8_
      have HB := n9_
      clear n0_ n1_ n2_ n3_ n4_ n5_ n6_ n7_ n8_ n9_
      refine start_ (n := 5) (S := fun w' => w'.cell? ⟨gb432, 0, none⟩ = some (.slice Ao32 t428.length co32) ∧ w'.cell? ⟨gb432, 1, none⟩ = some (.bool t431) ∧ w'.cell? ⟨gb411, 0, none⟩ = some (.slice A0_0 l0_0.length c0_0) ∧ w'.cell? ⟨gb411, 1, none⟩ = some (.bool a0_1)) (ds := []) #[false, false, false, false, false] (by kernel_rfl) rfl rfl ⟨(blk_cell BK432.out 0).trans rfl, (blk_cell BK432.out 1).trans rfl, (blk_cell BK411.out 0).trans rfl, (blk_cell BK411.out 1).trans rfl⟩ (fun hHeld => ?_)
      generalize wc.drew = w118 at HO_427000 HO_433000 HO_443000 BK411 BK426 BK427 BK432 BK442 BK443 HB hHeld ⊢
      refine take_ (i := 0) (N := some 52) (v := ?_) (a' := ?_) #[true, false, false, false, false] rfl rfl (by kernel_rfl) (fun _ _ _ h => h) (Or.inl ⟨by rfl, ?_⟩) hHeld ?_ ?_
      rotate_left
      ·
       rintro w' ⟨s0, s1, s2, s3⟩
       go_simp
       with_reducible rfl
      rotate_left
      ·
       simp only [Act.put, List.setIfInBounds_toArray, List.set_cons_zero, List.set_cons_succ, i64_w, i32_w]
       rfl
      refine take_ (i := 1) (N := some 53) (v := ?_) (a' := ?_) #[true, true, false, false, false] rfl rfl (by kernel_rfl) (fun _ _ _ h => h) (Or.inl ⟨by rfl, ?_⟩) hHeld ?_ ?_
      rotate_left
      ·
       rintro w' ⟨s0, s1, s2, s3⟩
       go_simp
       with_reducible rfl
      rotate_left
      ·
       simp only [Act.put, List.setIfInBounds_toArray, List.set_cons_zero, List.set_cons_succ, i64_w, i32_w]
       rfl
      refine one_ (i := 2) (N := some 54) #[true, true, true, false, false] rfl rfl (by kernel_rfl) (by decide) (fun K hK => ?_)
      refine goes_ Try.func77 (by kernel_rfl) rfl #[.agg #[.slice A0_0 l0_0.length c0_0, .bool a0_1]] (by rfl) rfl rfl ul_ ?_
      with_reducible refine (laws_toDecoder.calls kj10 _ _ l0_0 a0_1 t446 t449 _ ?side1 ?side2 A113.out).mono ?_
      (case side1 => repeat (first | exact (Kd.C_below HR0_0.out HB.out) | (with_reducible refine Kd.C_alloc ?_ _) | (with_reducible refine Kd.C_drewN ?_ _) | (with_reducible refine Kd.C_drew ?_)))
      (case side2 => exact HC0_0.out)
      rintro e w119 ⟨v447, rfl, ho0, hb⟩
      refine ⟨_, rfl, ?_⟩
      have n0_ := am_ (Kd.R_elder' (ur_ HO_427000.out) (Kd.R_base ho0) hb)
      have n1_ := am_ (Kd.R_elder' (ur_ HO_433000.out) (Kd.R_base ho0) hb)
      have n2_ := am_ (Kd.R_elder' (ur_ HO_443000.out) (Kd.R_base ho0) hb)
      have n3_ := am_ (Kd.R_lower (Kd.R_new' (Kd.R_new' (Kd.R_new' ho0 (Kd.R_lt (ur_ HO_427000.out))) (Kd.R_lt (ur_ HO_433000.out))) (Kd.R_lt (ur_ HO_443000.out))) (below_size (ue_ HB.out)))
      have n4_ := am_ (bb_ BK411.out hb)
      have n5_ := am_ (bb_ BK426.out hb)
      have n6_ := am_ (bb_ BK427.out hb)
      have n7_ := am_ (bb_ BK432.out hb)
      have n8_ := am_ (bb_ BK442.out hb)
      have n9_ := am_ (bb_ BK443.out hb)
      have n10_ := am_ (below_step (ue_ HB.out) hb)
      clear HO_427000
      clear HO_433000
      clear HO_443000
      clear BK411
      clear BK426
      clear BK427
      clear BK432
      clear BK442
      clear BK443
      clear HB
      have HO_427000 := n0_
      have HO_433000 := n1_
      have HO_443000 := n2_
      have HO448 := n3_
      have BK411 := n4_
      have BK426 := n5_
      have BK427 := n6_
      have BK432 := n7_
      have BK442 := n8_
      have BK443 := n9_
      have HB := n10_
      clear n0_ n1_ n2_ n3_ n4_ n5_ n6_ n7_ n8_ n9_ n10_
      (try clear hb)
      (try clear hb2)
      (try clear hk)
      (try clear hi)
      (try clear ho0)
      obtain ⟨Ao120, co120, eo120⟩ := Kd.R_slice HO448.out
      (first | subst eo120 | (injection eo120 with f1_ f2_ f3_; have f4_ := f1_.symm; have f5_ := f3_.symm; clear f1_ f2_ f3_; subst f4_; subst f5_))
      refine hK.out _ _ ⟨(blk_cell BK432.out 0).trans rfl, (blk_cell BK432.out 1).trans rfl, (blk_cell BK411.out 0).trans rfl, (blk_cell BK411.out 1).trans rfl⟩ (fun hHeld => ?_)
      clear hK K
      refine norm_ (a' := ?_) ?_ ?_
      rotate_left
      ·
       show Act.put _ (some 54) _ = _
       simp only [Act.put, List.setIfInBounds_toArray, List.set_cons_zero, List.set_cons_succ, i64_w, i32_w]
       rfl
      refine one_ (i := 3) (N := some 55) #[true, true, true, true, false] rfl rfl (by kernel_rfl) (by decide) (fun K hK => ?_)
      refine goes_ Try.func79 (by kernel_rfl) rfl #[.agg #[.slice Ao32 t428.length co32, .bool t431], .agg #[.slice Ao120 t446.length co120, .bool t449]] (by rfl) rfl rfl ul_ ?_
      with_reducible refine (laws_eqDecoder.calls kj10 _ _ t428 t431 _ _ t446 t449 true _ ?side1 ?side2 ?side3 ?side4 A114.out).mono ?_
      (case side1 => repeat (first | exact (Kd.R_reads' HO_433000.out).2.2 | (with_reducible refine Kd.C_alloc ?_ _) | (with_reducible refine Kd.C_drewN ?_ _) | (with_reducible refine Kd.C_drew ?_)))
      (case side2 => exact (Kd.R_reads' HO_433000.out).2.1)
      (case side3 => repeat (first | exact (Kd.R_reads' HO448.out).2.2 | (with_reducible refine Kd.C_alloc ?_ _) | (with_reducible refine Kd.C_drewN ?_ _) | (with_reducible refine Kd.C_drew ?_)))
      (case side4 => exact (Kd.R_reads' HO448.out).2.1)
      rintro e w121 ⟨rfl, hb⟩
      refine ⟨_, rfl, ?_⟩
      have n0_ := am_ (Kd.R_below (ur_ HO_427000.out) hb)
      have n1_ := am_ (Kd.R_below (ur_ HO_433000.out) hb)
      have n2_ := am_ (Kd.R_below (ur_ HO_443000.out) hb)
      have n3_ := am_ (Kd.R_below (ur_ HO448.out) hb)
      have n4_ := am_ (bb_ BK411.out hb)
      have n5_ := am_ (bb_ BK426.out hb)
      have n6_ := am_ (bb_ BK427.out hb)
      have n7_ := am_ (bb_ BK432.out hb)
      have n8_ := am_ (bb_ BK442.out hb)
      have n9_ := am_ (bb_ BK443.out hb)
      have n10_ := am_ (below_step (ue_ HB.out) hb)
      clear HO_427000
      clear HO_433000
      clear HO_443000
      clear HO448
      clear BK411
      clear BK426
      clear BK427
      clear BK432
      clear BK442
      clear BK443
      clear HB
      have HO_427000 := n0_
      have HO_433000 := n1_
      have HO_443000 := n2_
      have HO448 := n3_
      have BK411 := n4_
      have BK426 := n5_
      have BK427 := n6_
      have BK432 := n7_
      have BK442 := n8_
      have BK443 := n9_
      have HB := n10_
      clear n0_ n1_ n2_ n3_ n4_ n5_ n6_ n7_ n8_ n9_ n10_
      (try clear hb)
      (try clear hb2)
      (try clear hk)
      (try clear hi)
      refine hK.out _ _ ⟨(blk_cell BK432.out 0).trans rfl, (blk_cell BK432.out 1).trans rfl, (blk_cell BK411.out 0).trans rfl, (blk_cell BK411.out 1).trans rfl⟩ (fun hHeld => ?_)
      clear hK K
      refine norm_ (a' := ?_) ?_ ?_
      rotate_left
      ·
       show Act.put _ (some 55) _ = _
       simp only [Act.put, List.setIfInBounds_toArray, List.set_cons_zero, List.set_cons_succ, i64_w, i32_w]
       rfl
      refine pure_ (i := 4) (N := some 56) (v := ?_) (a' := ?_) #[true, true, true, true, true] rfl rfl (by kernel_rfl) (fun _ _ _ h => h) (Or.inl ⟨by rfl, ?_⟩) ?_ ?_
      rotate_left
      ·
       intro w'
       go_simp
       with_reducible rfl
      rotate_left
      ·
       simp only [Act.put, List.setIfInBounds_toArray, List.set_cons_zero, List.set_cons_succ, i64_w, i32_w]
       rfl
      refine done_ (by kernel_rfl) ?_
      have hnb122 := NB432_411.out
      have hnc122 := NB411_432.out
      have hnb123 := NB432_426.out
      have hnc123 := NB426_432.out
      have hnb124 := NB432_427.out
      have hnc124 := NB427_432.out
      have hnb125 := NB432_442.out
      have hnc125 := NB442_432.out
      have hnb126 := NB432_443.out
      have hnc126 := NB443_432.out
      have hcz127_0 := cb_ BK432.out 0 rfl
      have hcz127_1 := cb_ BK432.out 1 rfl
      have hfz127_0 := blk_frozen BK432.out 0
      have hfz127_1 := blk_frozen BK432.out 1
      go_upto_region 14 with (first | ((with_reducible refine gate_callee (f := 80) rfl ?_); refine goesL_ (some 59) rfl rfl Try.func80 (by kernel_rfl) rfl #[.agg #[.slice Ao32 t428.length co32, .bool t431], .int .i64 1] rfl ul_ ?_; (with_reducible refine (laws_markDecoder.calls kj10 (fun k_ => some k_ = (.slice Ao32 t428.length co32 : Value).ownBlock) (.slice Ao32 t428.length co32) t428 t431 1 t451 t452 w _ ?side1 ?side2 A116.out).mono ?_); (case side1 => repeat (first | (with_reducible first | exact HB.out | apply below_alloc | apply pw_below_drewN | apply below_drew1 | refine below_set ?_ GE411.out | refine below_set ?_ GE426.out | refine below_set ?_ GE427.out | refine below_set ?_ GE432.out | refine below_set ?_ GE442.out | refine below_set ?_ GE443.out) | exact HB.out)); (case side2 => exact Kd.R_tight rfl HO_433000.out); rintro e w128 ⟨rfl, hy0, hb, hkp⟩; refine ⟨_, rfl, ?_⟩; have n0_ := am_ (Kd.R_mono (ok' := fun k_ => some k_ ≠ (.slice Ao32 t428.length co32 : Value).ownBlock ∧ some k_ ≠ (.slice Ao42 t433.length co42 : Value).ownBlock ∧ some k_ ≠ (.slice Ao120 t446.length co120 : Value).ownBlock) (Kd.R_keptB (HO_427000.out) hkp (fun k_ hk_ hs_ => by first | exact (hk_.1.1) hs_ | grind)) (fun k_ hk_ => by first | exact ⟨hk_.1.1.1, hk_.1.1.2, hk_.1.2⟩ | grind)); have n1_ := am_ (Kd.R_reok rfl hy0 (fun k_ e_ => HO_433000.out.1 k_ e_)); have n2_ := am_ (Kd.R_mono (ok' := fun k_ => some k_ ≠ (.slice Ao21 t417.length co21 : Value).ownBlock ∧ some k_ ≠ (.slice Ao32 t428.length co32 : Value).ownBlock ∧ some k_ ≠ (.slice Ao120 t446.length co120 : Value).ownBlock) (Kd.R_keptB (HO_443000.out) hkp (fun k_ hk_ hs_ => by first | exact (hk_.1.2) hs_ | grind)) (fun k_ hk_ => by first | exact ⟨hk_.1.1.1, hk_.1.1.2, hk_.1.2⟩ | grind)); have n3_ := am_ (blk_kept (g := gb411) (o := .cells #[.slice A0_0 l0_0.length c0_0, .bool a0_1] 100 (0, 0)) (ub_ BK411.out) hkp (fun hs_ => (fun e_ => (Kd.R_ne HO_433000.out BK411.out (by decide)) e_) hs_)); have n4_ := am_ (blk_kept (g := gb426) (o := .cells #[.slice Ao21 t417.length co21, .bool t420] 102 (0, 0)) (ub_ BK426.out) hkp (fun hs_ => (fun e_ => (Kd.R_ne HO_433000.out BK426.out (by decide)) e_) hs_)); have n5_ := am_ (blk_kept (g := gb427) (o := .cells #[.int .i64 t421, .int .i64 t422, .int .i64 t423, .int .i64 t424] 61 (0, 0)) (ub_ BK427.out) hkp (fun hs_ => (fun e_ => (Kd.R_ne HO_433000.out BK427.out (by decide)) e_) hs_)); have n6_ := am_ (blk_kept (g := gb432) (o := .cells #[.slice Ao32 t428.length co32, .bool t431] 102 (0, 0)) (ub_ BK432.out) hkp (fun hs_ => (fun e_ => (Kd.R_ne HO_433000.out BK432.out (by decide)) e_) hs_)); have n7_ := am_ (blk_kept (g := gb442) (o := .cells #[.slice Ao42 t433.length co42, .bool t436] 102 (0, 0)) (ub_ BK442.out) hkp (fun hs_ => (fun e_ => (Kd.R_ne HO_433000.out BK442.out (by decide)) e_) hs_)); have n8_ := am_ (blk_kept (g := gb443) (o := .cells #[.int .i64 t437, .int .i64 t438, .int .i64 t439, .int .i64 t440] 61 (0, 0)) (ub_ BK443.out) hkp (fun hs_ => (fun e_ => (Kd.R_ne HO_433000.out BK443.out (by decide)) e_) hs_)); have n9_ := am_ (Kd.R_mono (ok' := fun k_ => some k_ ≠ (.slice Ao21 t417.length co21 : Value).ownBlock ∧ some k_ ≠ (.slice Ao32 t428.length co32 : Value).ownBlock ∧ some k_ ≠ (.slice Ao42 t433.length co42 : Value).ownBlock) (Kd.R_keptB (HO448.out) hkp (fun k_ hk_ hs_ => by first | exact (hk_.1.2) hs_ | grind)) (fun k_ hk_ => by first | exact ⟨hk_.1.1.1.2, hk_.1.1.2, hk_.1.2⟩ | grind)); have n10_ := am_ (hb); clear HO_427000 HO_433000 HO_443000 BK411 BK426 BK427 BK432 BK442 BK443 HO448 HB; have HO_427000 := n0_; have HO_433000 := n1_; have HO_443000 := n2_; have BK411 := n3_; have BK426 := n4_; have BK427 := n5_; have BK432 := n6_; have BK442 := n7_; have BK443 := n8_; have HO448 := n9_; have HB := n10_; clear n0_ n1_ n2_ n3_ n4_ n5_ n6_ n7_ n8_ n9_ n10_; (try clear hb); (try clear hkp); (try clear hy0)))
      (try simp only [Act.put, List.setIfInBounds_toArray, List.set_cons_zero, List.set_cons_succ])
      go_cut [78] (fun v78 wc => ∃ (kq : Nat) (x78_116 : Bool), v78 = .bool x78_116 ∧ Aside0 (laws_FnExactTakeNext.j1 kq t425 x78_116 l0_0 a0_1 t417 t420 t421 t422 t423 t424 t433 t436 = some r) ∧ Aside0 (kq ≤ kj10) ∧ Aside0 (Kd.R (Kd.int .u8) 5 wc w.heap.size (fun k_ => some k_ ≠ ((.slice Ao32 t428.length co32) : Value).ownBlock ∧ some k_ ≠ ((.slice Ao42 t433.length co42) : Value).ownBlock) (.slice Ao21 t417.length co21) t417) ∧ Aside0 (Kd.R (Kd.int .u8) 5 wc w.heap.size (fun k_ => some k_ ≠ ((.slice Ao21 t417.length co21) : Value).ownBlock ∧ some k_ ≠ ((.slice Ao42 t433.length co42) : Value).ownBlock) (.slice Ao32 t428.length co32) t452) ∧ Aside0 (Kd.R (Kd.int .u8) 5 wc w.heap.size (fun k_ => some k_ ≠ ((.slice Ao21 t417.length co21) : Value).ownBlock ∧ some k_ ≠ ((.slice Ao32 t428.length co32) : Value).ownBlock) (.slice Ao42 t433.length co42) t433) ∧ Aside0 (wc.heap[gb411]? = some (.cells #[(.slice A0_0 l0_0.length c0_0), .bool a0_1] 100 (0, 0))) ∧ Aside0 (wc.heap[gb426]? = some (.cells #[(.slice Ao21 t417.length co21), .bool t420] 102 (0, 0))) ∧ Aside0 (wc.heap[gb427]? = some (.cells #[.int .i64 t421, .int .i64 t422, .int .i64 t423, .int .i64 t424] 61 (0, 0))) ∧ Aside0 (wc.heap[gb432]? = some (.cells #[(.slice Ao32 t428.length co32), .bool t431] 102 (0, 0))) ∧ Aside0 (wc.heap[gb442]? = some (.cells #[(.slice Ao42 t433.length co42), .bool t436] 102 (0, 0))) ∧ Aside0 (wc.heap[gb443]? = some (.cells #[.int .i64 t437, .int .i64 t438, .int .i64 t439, .int .i64 t440] 61 (0, 0))) ∧ Aside0 (Below w.heap.size w wc))
      case first =>
       have H := HC117.out
       clear HC117
       by_cases c129 : t451 < 0
       ·
        rw [if_pos c129] at H
        have c129b0 : decide (t451 < 0) = true := decide_eq_true c129
        clear c129
        (first | rw [c129b0] | (simp only [i64_w, i32_w]; rw [c129b0]) | skip)
        have H' := Aside0.mk H
        clear H
        go_wp2
        go_meet
        case rel => exact ⟨_, (true), (by first | rfl | (simp; done) | (simp [*]; done)), H', ⟨by have := HJ10.out; first | omega | exact Nat.le_refl _⟩, ⟨by (with_reducible repeat (first | apply Kd.R_alloc | apply Kd.R_drewN | apply Kd.R_drew)); exact Kd.R_mono HO_427000.out (fun _ hk => by first | exact ⟨hk.1, hk.2.1⟩ | grind)⟩, ⟨by (with_reducible repeat (first | apply Kd.R_alloc | apply Kd.R_drewN | apply Kd.R_drew)); exact Kd.R_mono HO_433000.out (fun _ hk => by first | exact ⟨hk.1.1, hk.1.2⟩ | grind)⟩, ⟨by (with_reducible repeat (first | apply Kd.R_alloc | apply Kd.R_drewN | apply Kd.R_drew)); exact Kd.R_mono HO_443000.out (fun _ hk => by first | exact ⟨hk.1, hk.2.1⟩ | grind)⟩, ⟨by (with_reducible repeat first|apply bn_|apply bd_|apply ba_); exact BK411.out⟩, ⟨by (with_reducible repeat first|apply bn_|apply bd_|apply ba_); exact BK426.out⟩, ⟨by (with_reducible repeat first|apply bn_|apply bd_|apply ba_); exact BK427.out⟩, ⟨by (with_reducible repeat first|apply bn_|apply bd_|apply ba_); exact BK432.out⟩, ⟨by (with_reducible repeat first|apply bn_|apply bd_|apply ba_); exact BK442.out⟩, ⟨by (with_reducible repeat first|apply bn_|apply bd_|apply ba_); exact BK443.out⟩, ⟨ue_ HB.out⟩⟩
       ·
        rw [if_neg c129] at H
        have c129b0 : decide (t451 < 0) = false := decide_eq_false c129
        clear c129
        (first | rw [c129b0] | (simp only [i64_w, i32_w]; rw [c129b0]) | skip)
        replace H := Option.bind_eq_some_iff.mp H
        obtain ⟨t453, A1300, H⟩ := H
        replace H : (if t453 = true then ((laws_eqFrame.f t437 t438 t439 t440 t421 t422 t423 t424).bind fun t454 => (if t454 = true then (laws_FnExactTakeNext.j1 kj10 t425 (t441 != t425) l0_0 a0_1 t417 t420 t421 t422 t423 t424 t433 t436) else (laws_FnExactTakeNext.j1 kj10 t425 true l0_0 a0_1 t417 t420 t421 t422 t423 t424 t433 t436))) else (laws_FnExactTakeNext.j1 kj10 t425 true l0_0 a0_1 t417 t420 t421 t422 t423 t424 t433 t436)) = some r := H
        have A130 := Aside0.mk A1300
        clear A1300
        by_cases c131 : t453 = true
        ·
         subst c131
         have H1 : ((laws_eqFrame.f t437 t438 t439 t440 t421 t422 t423 t424).bind fun t454 => (if t454 = true then (laws_FnExactTakeNext.j1 kj10 t425 (t441 != t425) l0_0 a0_1 t417 t420 t421 t422 t423 t424 t433 t436) else (laws_FnExactTakeNext.j1 kj10 t425 true l0_0 a0_1 t417 t420 t421 t422 t423 t424 t433 t436))) = some r := by rw [if_pos rfl] at H; exact H
         clear H
         have H := H1
         clear H1
         replace H := Option.bind_eq_some_iff.mp H
         obtain ⟨t454, A1320, H⟩ := H
         replace H : (if t454 = true then (laws_FnExactTakeNext.j1 kj10 t425 (t441 != t425) l0_0 a0_1 t417 t420 t421 t422 t423 t424 t433 t436) else (laws_FnExactTakeNext.j1 kj10 t425 true l0_0 a0_1 t417 t420 t421 t422 t423 t424 t433 t436)) = some r := H
         have A132 := Aside0.mk A1320
         clear A1320
         by_cases c133 : t454 = true
         ·
          subst c133
          have H1 : (laws_FnExactTakeNext.j1 kj10 t425 (t441 != t425) l0_0 a0_1 t417 t420 t421 t422 t423 t424 t433 t436) = some r := by rw [if_pos rfl] at H; exact H
          clear H
          have H := H1
          clear H1
          have H' := Aside0.mk H
          clear H
          have hnb134 := NB442_411.out
          have hnc134 := NB411_442.out
          have hnb135 := NB442_426.out
          have hnc135 := NB426_442.out
          have hnb136 := NB442_427.out
          have hnc136 := NB427_442.out
          have hnb137 := NB442_432.out
          have hnc137 := NB432_442.out
          have hnb138 := NB442_443.out
          have hnc138 := NB443_442.out
          have hcz139_0 := cb_ BK442.out 0 rfl
          have hcz139_1 := cb_ BK442.out 1 rfl
          have hfz139_0 := blk_frozen BK442.out 0
          have hfz139_1 := blk_frozen BK442.out 1
          have hnb140 := NB426_411.out
          have hnc140 := NB411_426.out
          have hnb141 := NB426_427.out
          have hnc141 := NB427_426.out
          have hnb142 := NB426_432.out
          have hnc142 := NB432_426.out
          have hnb143 := NB426_443.out
          have hnc143 := NB443_426.out
          have hcz144_0 := cb_ BK426.out 0 rfl
          have hcz144_1 := cb_ BK426.out 1 rfl
          have hfz144_0 := blk_frozen BK426.out 0
          have hfz144_1 := blk_frozen BK426.out 1
          go_wp2_with (first | (go_at_call 79; (with_reducible refine (laws_eqDecoder.calls kj10 _ _ t433 t436 _ _ t417 t420 true _ ?side1 ?side2 ?side3 ?side4 A130.out).mono ?_); (case side1 => repeat (first | exact (Kd.R_reads' HO_443000.out).2.2 | (with_reducible refine Kd.C_alloc ?_ _) | (with_reducible refine Kd.C_drewN ?_ _) | (with_reducible refine Kd.C_drew ?_))); (case side2 => exact (Kd.R_reads' HO_443000.out).2.1); (case side3 => repeat (first | exact (Kd.R_reads' HO_427000.out).2.2 | (with_reducible refine Kd.C_alloc ?_ _) | (with_reducible refine Kd.C_drewN ?_ _) | (with_reducible refine Kd.C_drew ?_))); (case side4 => exact (Kd.R_reads' HO_427000.out).2.1); rintro e w145 ⟨rfl, hb⟩; have n0_ := am_ (Kd.R_below (ur_ HO_427000.out) hb); have n1_ := am_ (Kd.R_below (ur_ HO_433000.out) hb); have n2_ := am_ (Kd.R_below (ur_ HO_443000.out) hb); have n3_ := am_ (Kd.R_below (ur_ HO448.out) hb); have n4_ := am_ (bb_ BK411.out hb); have n5_ := am_ (bb_ BK426.out hb); have n6_ := am_ (bb_ BK427.out hb); have n7_ := am_ (bb_ BK432.out hb); have n8_ := am_ (bb_ BK442.out hb); have n9_ := am_ (bb_ BK443.out hb); have n10_ := am_ (below_step (ue_ HB.out) hb); clear HO_427000 HO_433000 HO_443000 HO448 BK411 BK426 BK427 BK432 BK442 BK443 HB; have HO_427000 := n0_; have HO_433000 := n1_; have HO_443000 := n2_; have HO448 := n3_; have BK411 := n4_; have BK426 := n5_; have BK427 := n6_; have BK432 := n7_; have BK442 := n8_; have BK443 := n9_; have HB := n10_; clear n0_ n1_ n2_ n3_ n4_ n5_ n6_ n7_ n8_ n9_ n10_; (try clear hb); (try clear hb2); (try clear hk); (try clear hi); have hnb146 := NB443_411.out; have hnc146 := NB411_443.out; have hnb147 := NB443_427.out; have hnc147 := NB427_443.out; have hnb148 := NB443_432.out; have hnc148 := NB432_443.out; obtain ⟨hcz149_0, hcz149_1, hcz149_2, hcz149_3⟩ := cb4_ BK443.out; obtain ⟨hfz149_0, hfz149_1, hfz149_2, hfz149_3⟩ := bf4_ BK443.out; have hnb150 := NB427_411.out; have hnc150 := NB411_427.out; have hnb151 := NB427_432.out; have hnc151 := NB432_427.out; obtain ⟨hcz152_0, hcz152_1, hcz152_2, hcz152_3⟩ := cb4_ BK427.out; obtain ⟨hfz152_0, hfz152_1, hfz152_2⟩ := bf3_ BK427.out; have hfz152_3 := blk_frozen BK427.out 3) | (go_at_call 62; (with_reducible refine (laws_eqFrame.calls t437 t438 t439 t440 t421 t422 t423 t424 true _ A132.out).mono ?_); rintro e w153 ⟨rfl, hb⟩; have n0_ := am_ (Kd.R_below (ur_ HO_427000.out) hb); have n1_ := am_ (Kd.R_below (ur_ HO_433000.out) hb); have n2_ := am_ (Kd.R_below (ur_ HO_443000.out) hb); have n3_ := am_ (Kd.R_below (ur_ HO448.out) hb); have n4_ := am_ (bb_ BK411.out hb); have n5_ := am_ (bb_ BK426.out hb); have n6_ := am_ (bb_ BK427.out hb); have n7_ := am_ (bb_ BK432.out hb); have n8_ := am_ (bb_ BK442.out hb); have n9_ := am_ (bb_ BK443.out hb); have n10_ := am_ (below_step (ue_ HB.out) hb); clear HO_427000 HO_433000 HO_443000 HO448 BK411 BK426 BK427 BK432 BK442 BK443 HB; have HO_427000 := n0_; have HO_433000 := n1_; have HO_443000 := n2_; have HO448 := n3_; have BK411 := n4_; have BK426 := n5_; have BK427 := n6_; have BK432 := n7_; have BK442 := n8_; have BK443 := n9_; have HB := n10_; clear n0_ n1_ n2_ n3_ n4_ n5_ n6_ n7_ n8_ n9_ n10_; (try clear hb); (try clear hb2); (try clear hk); (try clear hi)))
          go_meet
          case rel => exact ⟨_, ((t441 != t425)), (by first | rfl | (simp; done) | (simp [*]; done)), H', ⟨by have := HJ10.out; first | omega | exact Nat.le_refl _⟩, ⟨by (with_reducible repeat (first | apply Kd.R_alloc | apply Kd.R_drewN | apply Kd.R_drew)); exact Kd.R_mono HO_427000.out (fun _ hk => by first | exact ⟨hk.1, hk.2.1⟩ | grind)⟩, ⟨by (with_reducible repeat (first | apply Kd.R_alloc | apply Kd.R_drewN | apply Kd.R_drew)); exact Kd.R_mono HO_433000.out (fun _ hk => by first | exact ⟨hk.1.1, hk.1.2⟩ | grind)⟩, ⟨by (with_reducible repeat (first | apply Kd.R_alloc | apply Kd.R_drewN | apply Kd.R_drew)); exact Kd.R_mono HO_443000.out (fun _ hk => by first | exact ⟨hk.1, hk.2.1⟩ | grind)⟩, ⟨by (with_reducible repeat first|apply bn_|apply bd_|apply ba_); exact BK411.out⟩, ⟨by (with_reducible repeat first|apply bn_|apply bd_|apply ba_); exact BK426.out⟩, ⟨by (with_reducible repeat first|apply bn_|apply bd_|apply ba_); exact BK427.out⟩, ⟨by (with_reducible repeat first|apply bn_|apply bd_|apply ba_); exact BK432.out⟩, ⟨by (with_reducible repeat first|apply bn_|apply bd_|apply ba_); exact BK442.out⟩, ⟨by (with_reducible repeat first|apply bn_|apply bd_|apply ba_); exact BK443.out⟩, ⟨ue_ HB.out⟩⟩
         ·
          replace c133 := Bool.eq_false_iff.mpr c133
          subst c133
          have H1 : (laws_FnExactTakeNext.j1 kj10 t425 true l0_0 a0_1 t417 t420 t421 t422 t423 t424 t433 t436) = some r := by rw [if_neg (show ¬ (false = true) by decide)] at H; exact H
          clear H
          have H := H1
          clear H1
          have H' := Aside0.mk H
          clear H
          have hnb154 := NB442_411.out
          have hnc154 := NB411_442.out
          have hnb155 := NB442_426.out
          have hnc155 := NB426_442.out
          have hnb156 := NB442_427.out
          have hnc156 := NB427_442.out
          have hnb157 := NB442_432.out
          have hnc157 := NB432_442.out
          have hnb158 := NB442_443.out
          have hnc158 := NB443_442.out
          have hcz159_0 := cb_ BK442.out 0 rfl
          have hcz159_1 := cb_ BK442.out 1 rfl
          have hfz159_0 := blk_frozen BK442.out 0
          have hfz159_1 := blk_frozen BK442.out 1
          have hnb160 := NB426_411.out
          have hnc160 := NB411_426.out
          have hnb161 := NB426_427.out
          have hnc161 := NB427_426.out
          have hnb162 := NB426_432.out
          have hnc162 := NB432_426.out
          have hnb163 := NB426_443.out
          have hnc163 := NB443_426.out
          have hcz164_0 := cb_ BK426.out 0 rfl
          have hcz164_1 := cb_ BK426.out 1 rfl
          have hfz164_0 := blk_frozen BK426.out 0
          have hfz164_1 := blk_frozen BK426.out 1
          go_wp2_with (first | (go_at_call 79; (with_reducible refine (laws_eqDecoder.calls kj10 _ _ t433 t436 _ _ t417 t420 true _ ?side1 ?side2 ?side3 ?side4 A130.out).mono ?_); (case side1 => repeat (first | exact (Kd.R_reads' HO_443000.out).2.2 | (with_reducible refine Kd.C_alloc ?_ _) | (with_reducible refine Kd.C_drewN ?_ _) | (with_reducible refine Kd.C_drew ?_))); (case side2 => exact (Kd.R_reads' HO_443000.out).2.1); (case side3 => repeat (first | exact (Kd.R_reads' HO_427000.out).2.2 | (with_reducible refine Kd.C_alloc ?_ _) | (with_reducible refine Kd.C_drewN ?_ _) | (with_reducible refine Kd.C_drew ?_))); (case side4 => exact (Kd.R_reads' HO_427000.out).2.1); rintro e w165 ⟨rfl, hb⟩; have n0_ := am_ (Kd.R_below (ur_ HO_427000.out) hb); have n1_ := am_ (Kd.R_below (ur_ HO_433000.out) hb); have n2_ := am_ (Kd.R_below (ur_ HO_443000.out) hb); have n3_ := am_ (Kd.R_below (ur_ HO448.out) hb); have n4_ := am_ (bb_ BK411.out hb); have n5_ := am_ (bb_ BK426.out hb); have n6_ := am_ (bb_ BK427.out hb); have n7_ := am_ (bb_ BK432.out hb); have n8_ := am_ (bb_ BK442.out hb); have n9_ := am_ (bb_ BK443.out hb); have n10_ := am_ (below_step (ue_ HB.out) hb); clear HO_427000 HO_433000 HO_443000 HO448 BK411 BK426 BK427 BK432 BK442 BK443 HB; have HO_427000 := n0_; have HO_433000 := n1_; have HO_443000 := n2_; have HO448 := n3_; have BK411 := n4_; have BK426 := n5_; have BK427 := n6_; have BK432 := n7_; have BK442 := n8_; have BK443 := n9_; have HB := n10_; clear n0_ n1_ n2_ n3_ n4_ n5_ n6_ n7_ n8_ n9_ n10_; (try clear hb); (try clear hb2); (try clear hk); (try clear hi); have hnb166 := NB443_411.out; have hnc166 := NB411_443.out; have hnb167 := NB443_427.out; have hnc167 := NB427_443.out; have hnb168 := NB443_432.out; have hnc168 := NB432_443.out; obtain ⟨hcz169_0, hcz169_1, hcz169_2, hcz169_3⟩ := cb4_ BK443.out; obtain ⟨hfz169_0, hfz169_1, hfz169_2, hfz169_3⟩ := bf4_ BK443.out; have hnb170 := NB427_411.out; have hnc170 := NB411_427.out; have hnb171 := NB427_432.out; have hnc171 := NB432_427.out; obtain ⟨hcz172_0, hcz172_1, hcz172_2, hcz172_3⟩ := cb4_ BK427.out; obtain ⟨hfz172_0, hfz172_1, hfz172_2⟩ := bf3_ BK427.out; have hfz172_3 := blk_frozen BK427.out 3) | (go_at_call 62; (with_reducible refine (laws_eqFrame.calls t437 t438 t439 t440 t421 t422 t423 t424 false _ A132.out).mono ?_); rintro e w173 ⟨rfl, hb⟩; have n0_ := am_ (Kd.R_below (ur_ HO_427000.out) hb); have n1_ := am_ (Kd.R_below (ur_ HO_433000.out) hb); have n2_ := am_ (Kd.R_below (ur_ HO_443000.out) hb); have n3_ := am_ (Kd.R_below (ur_ HO448.out) hb); have n4_ := am_ (bb_ BK411.out hb); have n5_ := am_ (bb_ BK426.out hb); have n6_ := am_ (bb_ BK427.out hb); have n7_ := am_ (bb_ BK432.out hb); have n8_ := am_ (bb_ BK442.out hb); have n9_ := am_ (bb_ BK443.out hb); have n10_ := am_ (below_step (ue_ HB.out) hb); clear HO_427000 HO_433000 HO_443000 HO448 BK411 BK426 BK427 BK432 BK442 BK443 HB; have HO_427000 := n0_; have HO_433000 := n1_; have HO_443000 := n2_; have HO448 := n3_; have BK411 := n4_; have BK426 := n5_; have BK427 := n6_; have BK432 := n7_; have BK442 := n8_; have BK443 := n9_; have HB := n10_; clear n0_ n1_ n2_ n3_ n4_ n5_ n6_ n7_ n8_ n9_ n10_; (try clear hb); (try clear hb2); (try clear hk); (try clear hi)))
          go_meet
          case rel => exact ⟨_, (true), (by first | rfl | (simp; done) | (simp [*]; done)), H', ⟨by have := HJ10.out; first | omega | exact Nat.le_refl _⟩, ⟨by (with_reducible repeat (first | apply Kd.R_alloc | apply Kd.R_drewN | apply Kd.R_drew)); exact Kd.R_mono HO_427000.out (fun _ hk => by first | exact ⟨hk.1, hk.2.1⟩ | grind)⟩, ⟨by (with_reducible repeat (first | apply Kd.R_alloc | apply Kd.R_drewN | apply Kd.R_drew)); exact Kd.R_mono HO_433000.out (fun _ hk => by first | exact ⟨hk.1.1, hk.1.2⟩ | grind)⟩, ⟨by (with_reducible repeat (first | apply Kd.R_alloc | apply Kd.R_drewN | apply Kd.R_drew)); exact Kd.R_mono HO_443000.out (fun _ hk => by first | exact ⟨hk.1, hk.2.1⟩ | grind)⟩, ⟨by (with_reducible repeat first|apply bn_|apply bd_|apply ba_); exact BK411.out⟩, ⟨by (with_reducible repeat first|apply bn_|apply bd_|apply ba_); exact BK426.out⟩, ⟨by (with_reducible repeat first|apply bn_|apply bd_|apply ba_); exact BK427.out⟩, ⟨by (with_reducible repeat first|apply bn_|apply bd_|apply ba_); exact BK432.out⟩, ⟨by (with_reducible repeat first|apply bn_|apply bd_|apply ba_); exact BK442.out⟩, ⟨by (with_reducible repeat first|apply bn_|apply bd_|apply ba_); exact BK443.out⟩, ⟨ue_ HB.out⟩⟩
        ·
         replace c131 := Bool.eq_false_iff.mpr c131
         subst c131
         have H1 : (laws_FnExactTakeNext.j1 kj10 t425 true l0_0 a0_1 t417 t420 t421 t422 t423 t424 t433 t436) = some r := by rw [if_neg (show ¬ (false = true) by decide)] at H; exact H
         clear H
         have H := H1
         clear H1
         have H' := Aside0.mk H
         clear H
         have hnb174 := NB442_411.out
         have hnc174 := NB411_442.out
         have hnb175 := NB442_426.out
         have hnc175 := NB426_442.out
         have hnb176 := NB442_427.out
         have hnc176 := NB427_442.out
         have hnb177 := NB442_432.out
         have hnc177 := NB432_442.out
         have hnb178 := NB442_443.out
         have hnc178 := NB443_442.out
         have hcz179_0 := cb_ BK442.out 0 rfl
         have hcz179_1 := cb_ BK442.out 1 rfl
         have hfz179_0 := blk_frozen BK442.out 0
         have hfz179_1 := blk_frozen BK442.out 1
         have hnb180 := NB426_411.out
         have hnc180 := NB411_426.out
         have hnb181 := NB426_427.out
         have hnc181 := NB427_426.out
         have hnb182 := NB426_432.out
         have hnc182 := NB432_426.out
         have hnb183 := NB426_443.out
         have hnc183 := NB443_426.out
         have hcz184_0 := cb_ BK426.out 0 rfl
         have hcz184_1 := cb_ BK426.out 1 rfl
         have hfz184_0 := blk_frozen BK426.out 0
         have hfz184_1 := blk_frozen BK426.out 1
         go_wp2_with (first | (go_at_call 79; (with_reducible refine (laws_eqDecoder.calls kj10 _ _ t433 t436 _ _ t417 t420 false _ ?side1 ?side2 ?side3 ?side4 A130.out).mono ?_); (case side1 => repeat (first | exact (Kd.R_reads' HO_443000.out).2.2 | (with_reducible refine Kd.C_alloc ?_ _) | (with_reducible refine Kd.C_drewN ?_ _) | (with_reducible refine Kd.C_drew ?_))); (case side2 => exact (Kd.R_reads' HO_443000.out).2.1); (case side3 => repeat (first | exact (Kd.R_reads' HO_427000.out).2.2 | (with_reducible refine Kd.C_alloc ?_ _) | (with_reducible refine Kd.C_drewN ?_ _) | (with_reducible refine Kd.C_drew ?_))); (case side4 => exact (Kd.R_reads' HO_427000.out).2.1); rintro e w185 ⟨rfl, hb⟩; have n0_ := am_ (Kd.R_below (ur_ HO_427000.out) hb); have n1_ := am_ (Kd.R_below (ur_ HO_433000.out) hb); have n2_ := am_ (Kd.R_below (ur_ HO_443000.out) hb); have n3_ := am_ (Kd.R_below (ur_ HO448.out) hb); have n4_ := am_ (bb_ BK411.out hb); have n5_ := am_ (bb_ BK426.out hb); have n6_ := am_ (bb_ BK427.out hb); have n7_ := am_ (bb_ BK432.out hb); have n8_ := am_ (bb_ BK442.out hb); have n9_ := am_ (bb_ BK443.out hb); have n10_ := am_ (below_step (ue_ HB.out) hb); clear HO_427000 HO_433000 HO_443000 HO448 BK411 BK426 BK427 BK432 BK442 BK443 HB; have HO_427000 := n0_; have HO_433000 := n1_; have HO_443000 := n2_; have HO448 := n3_; have BK411 := n4_; have BK426 := n5_; have BK427 := n6_; have BK432 := n7_; have BK442 := n8_; have BK443 := n9_; have HB := n10_; clear n0_ n1_ n2_ n3_ n4_ n5_ n6_ n7_ n8_ n9_ n10_; (try clear hb); (try clear hb2); (try clear hk); (try clear hi)))
         go_meet
         case rel => exact ⟨_, (true), (by first | rfl | (simp; done) | (simp [*]; done)), H', ⟨by have := HJ10.out; first | omega | exact Nat.le_refl _⟩, ⟨by (with_reducible repeat (first | apply Kd.R_alloc | apply Kd.R_drewN | apply Kd.R_drew)); exact Kd.R_mono HO_427000.out (fun _ hk => by first | exact ⟨hk.1, hk.2.1⟩ | grind)⟩, ⟨by (with_reducible repeat (first | apply Kd.R_alloc | apply Kd.R_drewN | apply Kd.R_drew)); exact Kd.R_mono HO_433000.out (fun _ hk => by first | exact ⟨hk.1.1, hk.1.2⟩ | grind)⟩, ⟨by (with_reducible repeat (first | apply Kd.R_alloc | apply Kd.R_drewN | apply Kd.R_drew)); exact Kd.R_mono HO_443000.out (fun _ hk => by first | exact ⟨hk.1, hk.2.1⟩ | grind)⟩, ⟨by (with_reducible repeat first|apply bn_|apply bd_|apply ba_); exact BK411.out⟩, ⟨by (with_reducible repeat first|apply bn_|apply bd_|apply ba_); exact BK426.out⟩, ⟨by (with_reducible repeat first|apply bn_|apply bd_|apply ba_); exact BK427.out⟩, ⟨by (with_reducible repeat first|apply bn_|apply bd_|apply ba_); exact BK432.out⟩, ⟨by (with_reducible repeat first|apply bn_|apply bd_|apply ba_); exact BK442.out⟩, ⟨by (with_reducible repeat first|apply bn_|apply bd_|apply ba_); exact BK443.out⟩, ⟨ue_ HB.out⟩⟩
      case rest =>
       clear HC117
       try clear c1
       try clear c2
       try clear p2
       try clear c3
       try clear c3b0
       try clear c4
       try clear c5
       try clear c6
       try clear c7
       try clear c8
       try clear c9
       try clear c10
       try clear c11
       try clear c12
       try clear c13
       try clear c14
       try clear c15
       try clear c16
       try clear c17
       try clear c18
       try clear c22
       try clear c23
       try clear c26
       try clear c33
       try clear c34
       try clear c35
       try clear c43
       try clear c44
       try clear c45
       try clear c46
       try clear c47
       try clear c50
       try clear c51
       try clear c52
       try clear c53
       try clear c57
       try clear c59
       try clear c60
       try clear c61
       try clear c62
       try clear c63
       try clear c64
       try clear c66
       try clear c67
       try clear c68
       try clear c69
       try clear c72
       try clear c73
       try clear c74
       try clear c75
       try clear c76
       try clear c77
       try clear c78
       try clear c79
       try clear c80
       try clear c81
       try clear c82
       try clear c83
       try clear c84
       try clear c86
       try clear c87
       try clear c88
       try clear c89
       try clear c92
       try clear c93
       try clear c94
       try clear c96
       try clear c97
       try clear c100
       try clear c101
       try clear c102
       try clear c103
       try clear c104
       try clear c106
       try clear c107
       try clear c108
       try clear c109
       try clear c112
       try clear c115
       try clear c122
       try clear c123
       try clear c124
       try clear c125
       try clear c126
       try clear c129
       try clear c129b0
       try clear c131
       try clear c133
       try clear c134
       try clear c135
       try clear c136
       try clear c137
       try clear c138
       try clear c140
       try clear c141
       try clear c142
       try clear c143
       try clear c146
       try clear c147
       try clear c148
       try clear c150
       try clear c151
       try clear c154
       try clear c155
       try clear c156
       try clear c157
       try clear c158
       try clear c160
       try clear c161
       try clear c162
       try clear c163
       try clear c166
       try clear c167
       try clear c168
       try clear c170
       try clear c171
       try clear c174
       try clear c175
       try clear c176
       try clear c177
       try clear c178
       try clear c180
       try clear c181
       try clear c182
       try clear c183
       try clear hcz105_0
       try clear hcz105_1
       try clear hcz110_0
       try clear hcz110_1
       try clear hcz127_0
       try clear hcz127_1
       try clear hcz139_0
       try clear hcz139_1
       try clear hcz13_0
       try clear hcz13_1
       try clear hcz144_0
       try clear hcz144_1
       try clear hcz149_0
       try clear hcz149_1
       try clear hcz149_2
       try clear hcz149_3
       try clear hcz152_0
       try clear hcz152_1
       try clear hcz152_2
       try clear hcz152_3
       try clear hcz159_0
       try clear hcz159_1
       try clear hcz15_0
       try clear hcz15_1
       try clear hcz164_0
       try clear hcz164_1
       try clear hcz169_0
       try clear hcz169_1
       try clear hcz169_2
       try clear hcz169_3
       try clear hcz172_0
       try clear hcz172_1
       try clear hcz172_2
       try clear hcz172_3
       try clear hcz179_0
       try clear hcz179_1
       try clear hcz184_0
       try clear hcz184_1
       try clear hcz24_0
       try clear hcz24_1
       try clear hcz27_0
       try clear hcz27_1
       try clear hcz27_2
       try clear hcz27_3
       try clear hcz29_0
       try clear hcz29_1
       try clear hcz36_0
       try clear hcz36_1
       try clear hcz38_0
       try clear hcz38_1
       try clear hcz48_0
       try clear hcz48_1
       try clear hcz54_0
       try clear hcz54_1
       try clear hcz54_2
       try clear hcz54_3
       try clear hcz5_0
       try clear hcz5_1
       try clear hcz65_0
       try clear hcz65_1
       try clear hcz70_0
       try clear hcz70_1
       try clear hcz75_0
       try clear hcz75_1
       try clear hcz75_2
       try clear hcz75_3
       try clear hcz78_0
       try clear hcz78_1
       try clear hcz78_2
       try clear hcz78_3
       try clear hcz85_0
       try clear hcz85_1
       try clear hcz90_0
       try clear hcz90_1
       try clear hcz95_0
       try clear hcz95_1
       try clear hcz95_2
       try clear hcz95_3
       try clear hcz98_0
       try clear hcz98_1
       try clear hcz98_2
       try clear hcz98_3
       try clear hfz105_0
       try clear hfz105_1
       try clear hfz110_0
       try clear hfz110_1
       try clear hfz127_0
       try clear hfz127_1
       try clear hfz139_0
       try clear hfz139_1
       try clear hfz13_0
       try clear hfz13_1
       try clear hfz144_0
       try clear hfz144_1
       try clear hfz149_0
       try clear hfz149_1
       try clear hfz149_2
       try clear hfz149_3
       try clear hfz152_0
       try clear hfz152_1
       try clear hfz152_2
       try clear hfz152_3
       try clear hfz159_0
       try clear hfz159_1
       try clear hfz15_0
       try clear hfz15_1
       try clear hfz164_0
       try clear hfz164_1
       try clear hfz169_0
       try clear hfz169_1
       try clear hfz169_2
       try clear hfz169_3
       try clear hfz172_0
       try clear hfz172_1
       try clear hfz172_2
       try clear hfz172_3
       try clear hfz179_0
       try clear hfz179_1
       try clear hfz184_0
       try clear hfz184_1
       try clear hfz24_0
       try clear hfz24_1
       try clear hfz27_0
       try clear hfz27_1
       try clear hfz27_2
       try clear hfz27_3
       try clear hfz29_0
       try clear hfz29_1
       try clear hfz36_0
       try clear hfz36_1
       try clear hfz38_0
       try clear hfz38_1
       try clear hfz48_0
       try clear hfz48_1
       try clear hfz54_0
       try clear hfz54_1
       try clear hfz54_2
       try clear hfz54_3
       try clear hfz5_0
       try clear hfz5_1
       try clear hfz65_0
       try clear hfz65_1
       try clear hfz70_0
       try clear hfz70_1
       try clear hfz75_0
       try clear hfz75_1
       try clear hfz75_2
       try clear hfz75_3
       try clear hfz78_0
       try clear hfz78_1
       try clear hfz78_2
       try clear hfz78_3
       try clear hfz85_0
       try clear hfz85_1
       try clear hfz90_0
       try clear hfz90_1
       try clear hfz95_0
       try clear hfz95_1
       try clear hfz95_2
       try clear hfz95_3
       try clear hfz98_0
       try clear hfz98_1
       try clear hfz98_2
       try clear hfz98_3
       try clear p2
       obtain ⟨kq, x78_116, rfl, HA, HJ116, HO_427000, HO_433000, HO_443000, BK411, BK426, BK427, BK432, BK442, BK443, HB⟩ := hcut
       have hl433000_116 := (Kd.R_reads' HO_433000.out).1
       rw [hl433000_116] at HO_433000
       (try simp only [hl433000_116])
       (try simp only [hl433000_116] at BK411)
       (try simp only [hl433000_116] at BK426)
       (try simp only [hl433000_116] at BK427)
       (try simp only [hl433000_116] at BK432)
       (try simp only [hl433000_116] at BK442)
       (try simp only [hl433000_116] at BK443)
       (try simp only [hl433000_116] at HO_427000)
       (try simp only [hl433000_116] at HO_443000)
       cases kq with
       | zero => exact absurd HA.out (by simp [laws_FnExactTakeNext.j1])
       | succ kj116 =>
        have H := HA.out
        clear HA
        simp only [laws_FnExactTakeNext.j1] at H
        by_cases c186 : x78_116 = true
        ·
         subst c186
         have H1 : (some false) = some r := by rw [if_pos rfl] at H; exact H
         clear H
         have H := H1
         clear H1
         exact absurd ((Option.some.inj H).trans hT.out) (by decide)
        ·
         replace c186 := Bool.eq_false_iff.mpr c186
         subst c186
         have H1 : ((laws_markDecoder.f kj116 t433 t436 1).bind fun bt455 => ((laws_heldDecoder.f kj116 bt455.2 t436 1).bind fun t457 => (if t457 < 0 then (some false) else (if t457 = bt455.1 then ((laws_toDecoder.f kj116 l0_0 a0_1).bind fun bt458 => ((impl_TakeNext.f kj116 bt458.1 bt458.2).bind fun bt462 => ((laws_eqDecoder.f kj116 bt462.1 bt462.2.1 t417 t420).bind fun t473 => (if t473 = true then ((laws_eqFrame.f bt462.2.2.1 bt462.2.2.2.1 bt462.2.2.2.2.1 bt462.2.2.2.2.2.1 t421 t422 t423 t424).bind fun t474 => (if t474 = true then (laws_FnExactTakeNext.j2 kj116 bt455.1 (bt462.2.2.2.2.2.2 != t425) bt455.2 t436) else (laws_FnExactTakeNext.j2 kj116 bt455.1 true bt455.2 t436))) else (laws_FnExactTakeNext.j2 kj116 bt455.1 true bt455.2 t436))))) else (some false))))) = some r := by rw [if_neg (show ¬ (false = true) by decide)] at H; exact H
         clear H
         have H := H1
         clear H1
         replace H := Option.bind_eq_some_iff.mp H
         obtain ⟨⟨t455, t456⟩, A1870, H⟩ := H
         replace H : ((laws_heldDecoder.f kj116 t456 t436 1).bind fun t457 => (if t457 < 0 then (some false) else (if t457 = t455 then ((laws_toDecoder.f kj116 l0_0 a0_1).bind fun bt458 => ((impl_TakeNext.f kj116 bt458.1 bt458.2).bind fun bt462 => ((laws_eqDecoder.f kj116 bt462.1 bt462.2.1 t417 t420).bind fun t473 => (if t473 = true then ((laws_eqFrame.f bt462.2.2.1 bt462.2.2.2.1 bt462.2.2.2.2.1 bt462.2.2.2.2.2.1 t421 t422 t423 t424).bind fun t474 => (if t474 = true then (laws_FnExactTakeNext.j2 kj116 t455 (bt462.2.2.2.2.2.2 != t425) t456 t436) else (laws_FnExactTakeNext.j2 kj116 t455 true t456 t436))) else (laws_FnExactTakeNext.j2 kj116 t455 true t456 t436))))) else (some false)))) = some r := H
         have A187 := Aside0.mk A1870
         clear A1870
         replace H := Option.bind_eq_some_iff.mp H
         obtain ⟨t457, A1880, H⟩ := H
         replace H : (if t457 < 0 then (some false) else (if t457 = t455 then ((laws_toDecoder.f kj116 l0_0 a0_1).bind fun bt458 => ((impl_TakeNext.f kj116 bt458.1 bt458.2).bind fun bt462 => ((laws_eqDecoder.f kj116 bt462.1 bt462.2.1 t417 t420).bind fun t473 => (if t473 = true then ((laws_eqFrame.f bt462.2.2.1 bt462.2.2.2.1 bt462.2.2.2.2.1 bt462.2.2.2.2.2.1 t421 t422 t423 t424).bind fun t474 => (if t474 = true then (laws_FnExactTakeNext.j2 kj116 t455 (bt462.2.2.2.2.2.2 != t425) t456 t436) else (laws_FnExactTakeNext.j2 kj116 t455 true t456 t436))) else (laws_FnExactTakeNext.j2 kj116 t455 true t456 t436))))) else (some false))) = some r := H
         have A188 := Aside0.mk A1880
         clear A1880
         by_cases c189 : t457 < 0
         ·
          rw [if_pos c189] at H
          have c189b0 : decide (t457 < 0) = true := decide_eq_true c189
          clear c189
          exact absurd ((Option.some.inj H).trans hT.out) (by decide)
         ·
          rw [if_neg c189] at H
          have c189b0 : decide (t457 < 0) = false := decide_eq_false c189
          clear c189
          by_cases c190 : t457 = t455
          ·
           rw [if_pos c190] at H
           have c190b0 : (t457 == t455) = true := beq_iff_eq.mpr c190
           have c190b1 : (t457 != t455) = false := bne_eq_false_iff_eq.mpr c190
           clear c190
           replace H := Option.bind_eq_some_iff.mp H
           obtain ⟨⟨t458, t461⟩, A1910, H⟩ := H
           replace H : ((impl_TakeNext.f kj116 t458 t461).bind fun bt462 => ((laws_eqDecoder.f kj116 bt462.1 bt462.2.1 t417 t420).bind fun t473 => (if t473 = true then ((laws_eqFrame.f bt462.2.2.1 bt462.2.2.2.1 bt462.2.2.2.2.1 bt462.2.2.2.2.2.1 t421 t422 t423 t424).bind fun t474 => (if t474 = true then (laws_FnExactTakeNext.j2 kj116 t455 (bt462.2.2.2.2.2.2 != t425) t456 t436) else (laws_FnExactTakeNext.j2 kj116 t455 true t456 t436))) else (laws_FnExactTakeNext.j2 kj116 t455 true t456 t436)))) = some r := H
           have A191 := Aside0.mk A1910
           clear A1910
           replace H := Option.bind_eq_some_iff.mp H
           obtain ⟨⟨t462, t465, t466, t467, t468, t469, t470⟩, A1920, H⟩ := H
           replace H : ((laws_eqDecoder.f kj116 t462 t465 t417 t420).bind fun t473 => (if t473 = true then ((laws_eqFrame.f t466 t467 t468 t469 t421 t422 t423 t424).bind fun t474 => (if t474 = true then (laws_FnExactTakeNext.j2 kj116 t455 (t470 != t425) t456 t436) else (laws_FnExactTakeNext.j2 kj116 t455 true t456 t436))) else (laws_FnExactTakeNext.j2 kj116 t455 true t456 t436))) = some r := H
           have A192 := Aside0.mk A1920
           clear A1920
           have HC193 := Aside0.mk H
           clear H
           have hnb194 := NB442_411.out
           have hnc194 := NB411_442.out
           have hnb195 := NB442_426.out
           have hnc195 := NB426_442.out
           have hnb196 := NB442_427.out
           have hnc196 := NB427_442.out
           have hnb197 := NB442_432.out
           have hnc197 := NB432_442.out
           have hnb198 := NB442_443.out
           have hnc198 := NB443_442.out
           have hcz199_0 := cb_ BK442.out 0 rfl
           have hcz199_1 := cb_ BK442.out 1 rfl
           have hfz199_0 := blk_frozen BK442.out 0
           have hfz199_1 := blk_frozen BK442.out 1
           go_upto_region 25 with (first | ((with_reducible refine gate_callee (f := 80) rfl ?_); refine goesL_ (some 81) rfl rfl Try.func80 (by kernel_rfl) rfl #[.agg #[.slice Ao42 t433.length co42, .bool t436], .int .i64 1] rfl ul_ ?_; (with_reducible refine (laws_markDecoder.calls kj116 (fun k_ => some k_ = (.slice Ao42 t433.length co42 : Value).ownBlock) (.slice Ao42 t433.length co42) t433 t436 1 t455 t456 w _ ?side1 ?side2 A187.out).mono ?_); (case side1 => repeat (first | (with_reducible first | exact HB.out | apply below_alloc | apply pw_below_drewN | apply below_drew1 | refine below_set ?_ GE411.out | refine below_set ?_ GE426.out | refine below_set ?_ GE427.out | refine below_set ?_ GE432.out | refine below_set ?_ GE442.out | refine below_set ?_ GE443.out) | exact HB.out)); (case side2 => exact Kd.R_tight rfl HO_443000.out); rintro e w200 ⟨rfl, hy0, hb, hkp⟩; refine ⟨_, rfl, ?_⟩; have n0_ := am_ (Kd.R_mono (ok' := fun k_ => some k_ ≠ (.slice Ao32 t452.length co32 : Value).ownBlock ∧ some k_ ≠ (.slice Ao42 t433.length co42 : Value).ownBlock) (Kd.R_keptB (HO_427000.out) hkp (fun k_ hk_ hs_ => by first | exact (hk_.2) hs_ | grind)) (fun k_ hk_ => by first | exact ⟨hk_.1.1, hk_.1.2⟩ | grind)); have n1_ := am_ (Kd.R_mono (ok' := fun k_ => some k_ ≠ (.slice Ao21 t417.length co21 : Value).ownBlock ∧ some k_ ≠ (.slice Ao42 t433.length co42 : Value).ownBlock) (Kd.R_keptB (HO_433000.out) hkp (fun k_ hk_ hs_ => by first | exact (hk_.2) hs_ | grind)) (fun k_ hk_ => by first | exact ⟨hk_.1.1, hk_.1.2⟩ | grind)); have n2_ := am_ (Kd.R_reok rfl hy0 (fun k_ e_ => HO_443000.out.1 k_ e_)); have n3_ := am_ (blk_kept (g := gb411) (o := .cells #[.slice A0_0 l0_0.length c0_0, .bool a0_1] 100 (0, 0)) (ub_ BK411.out) hkp (fun hs_ => (fun e_ => (Kd.R_ne HO_443000.out BK411.out (by decide)) e_) hs_)); have n4_ := am_ (blk_kept (g := gb426) (o := .cells #[.slice Ao21 t417.length co21, .bool t420] 102 (0, 0)) (ub_ BK426.out) hkp (fun hs_ => (fun e_ => (Kd.R_ne HO_443000.out BK426.out (by decide)) e_) hs_)); have n5_ := am_ (blk_kept (g := gb427) (o := .cells #[.int .i64 t421, .int .i64 t422, .int .i64 t423, .int .i64 t424] 61 (0, 0)) (ub_ BK427.out) hkp (fun hs_ => (fun e_ => (Kd.R_ne HO_443000.out BK427.out (by decide)) e_) hs_)); have n6_ := am_ (blk_kept (g := gb432) (o := .cells #[.slice Ao32 t452.length co32, .bool t431] 102 (0, 0)) (ub_ BK432.out) hkp (fun hs_ => (fun e_ => (Kd.R_ne HO_443000.out BK432.out (by decide)) e_) hs_)); have n7_ := am_ (blk_kept (g := gb442) (o := .cells #[.slice Ao42 t433.length co42, .bool t436] 102 (0, 0)) (ub_ BK442.out) hkp (fun hs_ => (fun e_ => (Kd.R_ne HO_443000.out BK442.out (by decide)) e_) hs_)); have n8_ := am_ (blk_kept (g := gb443) (o := .cells #[.int .i64 t437, .int .i64 t438, .int .i64 t439, .int .i64 t440] 61 (0, 0)) (ub_ BK443.out) hkp (fun hs_ => (fun e_ => (Kd.R_ne HO_443000.out BK443.out (by decide)) e_) hs_)); have n9_ := am_ (hb); clear HO_427000 HO_433000 HO_443000 BK411 BK426 BK427 BK432 BK442 BK443 HB; have HO_427000 := n0_; have HO_433000 := n1_; have HO_443000 := n2_; have BK411 := n3_; have BK426 := n4_; have BK427 := n5_; have BK432 := n6_; have BK442 := n7_; have BK443 := n8_; have HB := n9_; clear n0_ n1_ n2_ n3_ n4_ n5_ n6_ n7_ n8_ n9_; (try clear hb); (try clear hkp); (try clear hy0); obtain ⟨hcz201_0, hcz201_1⟩ := cb2_ BK442.out; have hfz201_0 := blk_frozen BK442.out 0; have hfz201_1 := blk_frozen BK442.out 1) | ((with_reducible refine gate_callee (f := 81) rfl ?_); refine goesL_ (some 84) rfl rfl Try.func81 (by kernel_rfl) rfl #[.agg #[.slice Ao42 t456.length co42, .bool t436], .int .i64 1] rfl (by (try simp only [List.map_toArray, List.map_cons, List.map_nil]); first | done | (rw [show t456.length = t433.length from (Kd.R_reads' HO_443000.out).1.symm] <;> rfl) | rfl | (simp only [List.length_drop, List.length_take]; rfl)) ?_; (with_reducible refine (laws_heldDecoder.calls kj116 _ _ t456 t436 1 t457 _ ?side1 ?side2 A188.out).mono ?_); (case side1 => repeat (first | exact (Kd.R_reads' HO_443000.out).2.2 | (with_reducible refine Kd.C_alloc ?_ _) | (with_reducible refine Kd.C_drewN ?_ _) | (with_reducible refine Kd.C_drew ?_))); (case side2 => rw [show t456.length = t433.length from (Kd.R_reads' HO_443000.out).1.symm]; exact (Kd.R_reads' HO_443000.out).2.1); rintro e w202 ⟨rfl, hb⟩; refine ⟨_, rfl, ?_⟩; have n0_ := am_ (Kd.R_below (ur_ HO_427000.out) hb); have n1_ := am_ (Kd.R_below (ur_ HO_433000.out) hb); have n2_ := am_ (Kd.R_below (ur_ HO_443000.out) hb); have n3_ := am_ (bb_ BK411.out hb); have n4_ := am_ (bb_ BK426.out hb); have n5_ := am_ (bb_ BK427.out hb); have n6_ := am_ (bb_ BK432.out hb); have n7_ := am_ (bb_ BK442.out hb); have n8_ := am_ (bb_ BK443.out hb); have n9_ := am_ (below_step (ue_ HB.out) hb); clear HO_427000 HO_433000 HO_443000 BK411 BK426 BK427 BK432 BK442 BK443 HB; have HO_427000 := n0_; have HO_433000 := n1_; have HO_443000 := n2_; have BK411 := n3_; have BK426 := n4_; have BK427 := n5_; have BK432 := n6_; have BK442 := n7_; have BK443 := n8_; have HB := n9_; clear n0_ n1_ n2_ n3_ n4_ n5_ n6_ n7_ n8_ n9_; (try clear hb); (try clear hb2); (try clear hk); (try clear hi); have hnb203 := NB411_426.out; have hnc203 := NB426_411.out; have hnb204 := NB411_427.out; have hnc204 := NB427_411.out; have hnb205 := NB411_432.out; have hnc205 := NB432_411.out; have hnb206 := NB411_443.out; have hnc206 := NB443_411.out; obtain ⟨hcz207_0, hcz207_1⟩ := cb2_ BK411.out; have hfz207_0 := blk_frozen BK411.out 0; have hfz207_1 := blk_frozen BK411.out 1) | ((with_reducible refine gate_callee (f := 77) rfl ?_); refine goesL_ (some 92) rfl rfl Try.func77 (by kernel_rfl) rfl #[.agg #[.slice A0_0 l0_0.length c0_0, .bool a0_1]] rfl ul_ ?_; (with_reducible refine (laws_toDecoder.calls kj116 _ _ l0_0 a0_1 t458 t461 _ ?side1 ?side2 A191.out).mono ?_); (case side1 => repeat (first | exact (Kd.C_below HR0_0.out HB.out) | (with_reducible refine Kd.C_alloc ?_ _) | (with_reducible refine Kd.C_drewN ?_ _) | (with_reducible refine Kd.C_drew ?_))); (case side2 => exact HC0_0.out); rintro e w208 ⟨v459, rfl, ho0, hb⟩; refine ⟨_, rfl, ?_⟩; have n0_ := am_ (Kd.R_elder' (ur_ HO_427000.out) (Kd.R_base ho0) hb); have n1_ := am_ (Kd.R_elder' (ur_ HO_433000.out) (Kd.R_base ho0) hb); have n2_ := am_ (Kd.R_elder' (ur_ HO_443000.out) (Kd.R_base ho0) hb); have n3_ := am_ (Kd.R_lower (Kd.R_new' (Kd.R_new' (Kd.R_new' ho0 (Kd.R_lt (ur_ HO_427000.out))) (Kd.R_lt (ur_ HO_433000.out))) (Kd.R_lt (ur_ HO_443000.out))) (below_size (ue_ HB.out))); have n4_ := am_ (bb_ BK411.out hb); have n5_ := am_ (bb_ BK426.out hb); have n6_ := am_ (bb_ BK427.out hb); have n7_ := am_ (bb_ BK432.out hb); have n8_ := am_ (bb_ BK442.out hb); have n9_ := am_ (bb_ BK443.out hb); have n10_ := am_ (below_step (ue_ HB.out) hb); clear HO_427000 HO_433000 HO_443000 BK411 BK426 BK427 BK432 BK442 BK443 HB; have HO_427000 := n0_; have HO_433000 := n1_; have HO_443000 := n2_; have HO460 := n3_; have BK411 := n4_; have BK426 := n5_; have BK427 := n6_; have BK432 := n7_; have BK442 := n8_; have BK443 := n9_; have HB := n10_; clear n0_ n1_ n2_ n3_ n4_ n5_ n6_ n7_ n8_ n9_ n10_; (try clear hb); (try clear hb2); (try clear hk); (try clear hi); (try clear ho0); obtain ⟨Ao209, co209, eo209⟩ := Kd.R_slice HO460.out; subst eo209) | ((with_reducible refine gate_callee (f := 78) rfl ?_); refine goesL_ (some 93) rfl rfl Try.func78 (by kernel_rfl) rfl #[.agg #[.slice Ao209 t458.length co209, .bool t461]] rfl ul_ ?_; (with_reducible refine (impl_TakeNext.calls kj116 _ _ t458 t461 t462 t465 t466 t467 t468 t469 t470 _ ?side1 ?side2 A192.out).mono ?_); (case side1 => repeat (first | exact (Kd.R_reads' HO460.out).2.2 | (with_reducible refine Kd.C_alloc ?_ _) | (with_reducible refine Kd.C_drewN ?_ _) | (with_reducible refine Kd.C_drew ?_))); (case side2 => exact (Kd.R_reads' HO460.out).2.1); rintro e w210 ⟨v463, rfl, ho0, hb⟩; refine ⟨_, rfl, ?_⟩; have n0_ := am_ (Kd.R_elder' (ur_ HO_427000.out) (Kd.R_base ho0) hb); have n1_ := am_ (Kd.R_elder' (ur_ HO_433000.out) (Kd.R_base ho0) hb); have n2_ := am_ (Kd.R_elder' (ur_ HO_443000.out) (Kd.R_base ho0) hb); have n3_ := am_ (Kd.R_elder' (ur_ HO460.out) (Kd.R_base ho0) hb); have n4_ := am_ (Kd.R_lower (Kd.R_new' (Kd.R_new' (Kd.R_new' (Kd.R_new' ho0 (Kd.R_lt (ur_ HO_427000.out))) (Kd.R_lt (ur_ HO_433000.out))) (Kd.R_lt (ur_ HO_443000.out))) (Kd.R_lt (ur_ HO460.out))) (below_size (ue_ HB.out))); have n5_ := am_ (bb_ BK411.out hb); have n6_ := am_ (bb_ BK426.out hb); have n7_ := am_ (bb_ BK427.out hb); have n8_ := am_ (bb_ BK432.out hb); have n9_ := am_ (bb_ BK442.out hb); have n10_ := am_ (bb_ BK443.out hb); have n11_ := am_ (below_step (ue_ HB.out) hb); clear HO_427000 HO_433000 HO_443000 HO460 BK411 BK426 BK427 BK432 BK442 BK443 HB; have HO_427000 := n0_; have HO_433000 := n1_; have HO_443000 := n2_; have HO460 := n3_; have HO464 := n4_; have BK411 := n5_; have BK426 := n6_; have BK427 := n7_; have BK432 := n8_; have BK442 := n9_; have BK443 := n10_; have HB := n11_; clear n0_ n1_ n2_ n3_ n4_ n5_ n6_ n7_ n8_ n9_ n10_ n11_; (try clear hb); (try clear hb2); (try clear hk); (try clear hi); (try clear ho0)) | ((with_reducible refine gate_dst (N := 14) rfl ?_); refine box_event ?hg (N := 14) ?hd (cs := #[.slice none 0 0, .bool false]) (t := 102) ?hr ?_; (case hd => rfl); (case hg => rfl); (case hr => first | (go_simp; done) | (go_simp; rfl)); intro gb471 hg w211 hbox hb; have n0_ := am_ (Kd.R_below (ur_ HO_427000.out) hb); have n1_ := am_ (Kd.R_below (ur_ HO_433000.out) hb); have n2_ := am_ (Kd.R_below (ur_ HO_443000.out) hb); have n3_ := am_ (Kd.R_below (ur_ HO460.out) hb); have n4_ := am_ (Kd.R_below (ur_ HO464.out) hb); have n5_ := am_ (bb_ BK411.out hb); have n6_ := am_ (bb_ BK426.out hb); have n7_ := am_ (bb_ BK427.out hb); have n8_ := am_ (bb_ BK432.out hb); have n9_ := am_ (bb_ BK442.out hb); have n10_ := am_ (bb_ BK443.out hb); have n11_ := am_ (below_step (ue_ HB.out) hb); have n12_ := am_ (hbox); have n13_ := am_ ((by rw [hg]; exact (below_size (ue_ HB.out)) : w.heap.size ≤ gb471)); have n14_ := am_ ((by rw [hg]; exact (below_size (ue_ HB.out)) : w.heap.size ≤ gb471)); have n15_ := am_ ((by rw [hg]; exact Nat.ne_of_lt (bl_ BK411.out) : gb411 ≠ gb471)); have n16_ := am_ ((by rw [hg]; exact Nat.ne_of_gt (bl_ BK411.out) : gb471 ≠ gb411)); have n17_ := am_ ((by rw [hg]; exact Nat.ne_of_lt (bl_ BK426.out) : gb426 ≠ gb471)); have n18_ := am_ ((by rw [hg]; exact Nat.ne_of_gt (bl_ BK426.out) : gb471 ≠ gb426)); have n19_ := am_ ((by rw [hg]; exact Nat.ne_of_lt (bl_ BK427.out) : gb427 ≠ gb471)); have n20_ := am_ ((by rw [hg]; exact Nat.ne_of_gt (bl_ BK427.out) : gb471 ≠ gb427)); have n21_ := am_ ((by rw [hg]; exact Nat.ne_of_lt (bl_ BK432.out) : gb432 ≠ gb471)); have n22_ := am_ ((by rw [hg]; exact Nat.ne_of_gt (bl_ BK432.out) : gb471 ≠ gb432)); have n23_ := am_ ((by rw [hg]; exact Nat.ne_of_lt (bl_ BK442.out) : gb442 ≠ gb471)); have n24_ := am_ ((by rw [hg]; exact Nat.ne_of_gt (bl_ BK442.out) : gb471 ≠ gb442)); have n25_ := am_ ((by rw [hg]; exact Nat.ne_of_lt (bl_ BK443.out) : gb443 ≠ gb471)); have n26_ := am_ ((by rw [hg]; exact Nat.ne_of_gt (bl_ BK443.out) : gb471 ≠ gb443)); clear HO_427000 HO_433000 HO_443000 HO460 HO464 BK411 BK426 BK427 BK432 BK442 BK443 HB; have HO_427000 := n0_; have HO_433000 := n1_; have HO_443000 := n2_; have HO460 := n3_; have HO464 := n4_; have BK411 := n5_; have BK426 := n6_; have BK427 := n7_; have BK432 := n8_; have BK442 := n9_; have BK443 := n10_; have HB := n11_; have BK471 := n12_; have GW471 := n13_; have GE471 := n14_; have NB411_471 := n15_; have NB471_411 := n16_; have NB426_471 := n17_; have NB471_426 := n18_; have NB427_471 := n19_; have NB471_427 := n20_; have NB432_471 := n21_; have NB471_432 := n22_; have NB442_471 := n23_; have NB471_442 := n24_; have NB443_471 := n25_; have NB471_443 := n26_; clear n0_ n1_ n2_ n3_ n4_ n5_ n6_ n7_ n8_ n9_ n10_ n11_ n12_ n13_ n14_ n15_ n16_ n17_ n18_ n19_ n20_ n21_ n22_ n23_ n24_ n25_ n26_; clear hb hbox hg) | ((with_reducible refine gate_dst (N := 15) rfl ?_); refine box_event ?hg (N := 15) ?hd (cs := #[.int .i64 0, .int .i64 0, .int .i64 0, .int .i64 0]) (t := 61) ?hr ?_; (case hd => rfl); (case hg => rfl); (case hr => first | (go_simp; done) | (go_simp; rfl)); intro gb472 hg w212 hbox hb; have n0_ := am_ (Kd.R_below (ur_ HO_427000.out) hb); have n1_ := am_ (Kd.R_below (ur_ HO_433000.out) hb); have n2_ := am_ (Kd.R_below (ur_ HO_443000.out) hb); have n3_ := am_ (Kd.R_below (ur_ HO460.out) hb); have n4_ := am_ (Kd.R_below (ur_ HO464.out) hb); have n5_ := am_ (bb_ BK411.out hb); have n6_ := am_ (bb_ BK426.out hb); have n7_ := am_ (bb_ BK427.out hb); have n8_ := am_ (bb_ BK432.out hb); have n9_ := am_ (bb_ BK442.out hb); have n10_ := am_ (bb_ BK443.out hb); have n11_ := am_ (bb_ BK471.out hb); have n12_ := am_ (below_step (ue_ HB.out) hb); have n13_ := am_ (hbox); have n14_ := am_ ((by rw [hg]; exact (below_size (ue_ HB.out)) : w.heap.size ≤ gb472)); have n15_ := am_ ((by rw [hg]; exact (below_size (ue_ HB.out)) : w.heap.size ≤ gb472)); have n16_ := am_ ((by rw [hg]; exact Nat.ne_of_lt (bl_ BK411.out) : gb411 ≠ gb472)); have n17_ := am_ ((by rw [hg]; exact Nat.ne_of_gt (bl_ BK411.out) : gb472 ≠ gb411)); have n18_ := am_ ((by rw [hg]; exact Nat.ne_of_lt (bl_ BK426.out) : gb426 ≠ gb472)); have n19_ := am_ ((by rw [hg]; exact Nat.ne_of_gt (bl_ BK426.out) : gb472 ≠ gb426)); have n20_ := am_ ((by rw [hg]; exact Nat.ne_of_lt (bl_ BK427.out) : gb427 ≠ gb472)); have n21_ := am_ ((by rw [hg]; exact Nat.ne_of_gt (bl_ BK427.out) : gb472 ≠ gb427)); have n22_ := am_ ((by rw [hg]; exact Nat.ne_of_lt (bl_ BK432.out) : gb432 ≠ gb472)); have n23_ := am_ ((by rw [hg]; exact Nat.ne_of_gt (bl_ BK432.out) : gb472 ≠ gb432)); have n24_ := am_ ((by rw [hg]; exact Nat.ne_of_lt (bl_ BK442.out) : gb442 ≠ gb472)); have n25_ := am_ ((by rw [hg]; exact Nat.ne_of_gt (bl_ BK442.out) : gb472 ≠ gb442)); have n26_ := am_ ((by rw [hg]; exact Nat.ne_of_lt (bl_ BK443.out) : gb443 ≠ gb472)); have n27_ := am_ ((by rw [hg]; exact Nat.ne_of_gt (bl_ BK443.out) : gb472 ≠ gb443)); have n28_ := am_ ((by rw [hg]; exact Nat.ne_of_lt (bl_ BK471.out) : gb471 ≠ gb472)); have n29_ := am_ ((by rw [hg]; exact Nat.ne_of_gt (bl_ BK471.out) : gb472 ≠ gb471)); clear HO_427000 HO_433000 HO_443000 HO460 HO464 BK411 BK426 BK427 BK432 BK442 BK443 BK471 HB; have HO_427000 := n0_; have HO_433000 := n1_; have HO_443000 := n2_; have HO460 := n3_; have HO464 := n4_; have BK411 := n5_; have BK426 := n6_; have BK427 := n7_; have BK432 := n8_; have BK442 := n9_; have BK443 := n10_; have BK471 := n11_; have HB := n12_; have BK472 := n13_; have GW472 := n14_; have GE472 := n15_; have NB411_472 := n16_; have NB472_411 := n17_; have NB426_472 := n18_; have NB472_426 := n19_; have NB427_472 := n20_; have NB472_427 := n21_; have NB432_472 := n22_; have NB472_432 := n23_; have NB442_472 := n24_; have NB472_442 := n25_; have NB443_472 := n26_; have NB472_443 := n27_; have NB471_472 := n28_; have NB472_471 := n29_; clear n0_ n1_ n2_ n3_ n4_ n5_ n6_ n7_ n8_ n9_ n10_ n11_ n12_ n13_ n14_ n15_ n16_ n17_ n18_ n19_ n20_ n21_ n22_ n23_ n24_ n25_ n26_ n27_ n28_ n29_; clear hb hbox hg; obtain ⟨Ao213, co213, eo213⟩ := Kd.R_slice HO464.out; subst eo213; have hnb214 := NB471_411.out; have hnc214 := NB411_471.out; have hnb215 := NB471_426.out; have hnc215 := NB426_471.out; have hnb216 := NB471_427.out; have hnc216 := NB427_471.out; have hnb217 := NB471_432.out; have hnc217 := NB432_471.out; have hnb218 := NB471_442.out; have hnc218 := NB442_471.out; have hnb219 := NB471_443.out; have hnc219 := NB443_471.out; have hnb220 := NB471_472.out; have hnc220 := NB472_471.out; obtain ⟨hcz221_0, hcz221_1⟩ := cb2_ BK471.out; have hfz221_0 := blk_frozen BK471.out 0; have hfz221_1 := blk_frozen BK471.out 1) | ((with_reducible refine gate_store (t := 102) (p := 14) rfl ?_); refine store_event (t := 102) (p := 14) (v := ?vo_w222) (w1 := ((w212.setCell ⟨gb471, 0, none⟩ (.slice Ao213 t462.length co213)).setCell ⟨gb471, 1, none⟩ (.bool t465))) ?hg ?ho ?hn ?hr ?_; (case ho => rfl); (case hg => rfl); (case hn => rfl); (case hr => first | (go_simp; done) | (go_simp; rfl)); intro w222 hw; have n0_ : Aside0 (Kd.R (Kd.int .u8) 5 w222 w.heap.size (fun k_ => some k_ ≠ (.slice Ao32 t452.length co32 : Value).ownBlock ∧ some k_ ≠ (.slice Ao42 t433.length co42 : Value).ownBlock ∧ some k_ ≠ (.slice Ao209 t458.length co209 : Value).ownBlock ∧ some k_ ≠ (.slice Ao213 t462.length co213 : Value).ownBlock) (.slice Ao21 t417.length co21) t417) := ⟨(by rw [hw]; exact (by (with_reducible repeat (first | apply Kd.R_alloc | apply Kd.R_drewN | apply Kd.R_drew)); exact Kd.R_mono (Kd.R_far (p := ⟨gb471, 1, none⟩) (Kd.R_far (p := ⟨gb471, 0, none⟩) (Kd.R_types HO_427000.out BK471.out (by decide)) (fun _ hk => by first | exact hk.2 | grind) (.slice Ao213 t462.length co213)) (fun _ hk => by first | exact hk.2 | grind) (.bool t465)) (fun _ hk => by first | exact ⟨hk.1.1.1.1, ⟨hk.1.1.1.2, ⟨hk.1.1.2, hk.1.2⟩⟩⟩ | grind)))⟩; have n1_ : Aside0 (Kd.R (Kd.int .u8) 5 w222 w.heap.size (fun k_ => some k_ ≠ (.slice Ao21 t417.length co21 : Value).ownBlock ∧ some k_ ≠ (.slice Ao42 t433.length co42 : Value).ownBlock ∧ some k_ ≠ (.slice Ao209 t458.length co209 : Value).ownBlock ∧ some k_ ≠ (.slice Ao213 t462.length co213 : Value).ownBlock) (.slice Ao32 t452.length co32) t452) := ⟨(by rw [hw]; exact (by (with_reducible repeat (first | apply Kd.R_alloc | apply Kd.R_drewN | apply Kd.R_drew)); exact Kd.R_mono (Kd.R_far (p := ⟨gb471, 1, none⟩) (Kd.R_far (p := ⟨gb471, 0, none⟩) (Kd.R_types HO_433000.out BK471.out (by decide)) (fun _ hk => by first | exact hk.2 | grind) (.slice Ao213 t462.length co213)) (fun _ hk => by first | exact hk.2 | grind) (.bool t465)) (fun _ hk => by first | exact ⟨hk.1.1.1.1, ⟨hk.1.1.1.2, ⟨hk.1.1.2, hk.1.2⟩⟩⟩ | grind)))⟩; have n2_ : Aside0 (Kd.R (Kd.int .u8) 5 w222 w.heap.size (fun k_ => some k_ ≠ (.slice Ao21 t417.length co21 : Value).ownBlock ∧ some k_ ≠ (.slice Ao32 t452.length co32 : Value).ownBlock ∧ some k_ ≠ (.slice Ao209 t458.length co209 : Value).ownBlock ∧ some k_ ≠ (.slice Ao213 t462.length co213 : Value).ownBlock) (.slice Ao42 t433.length co42) t456) := ⟨(by rw [hw]; exact (by (with_reducible repeat (first | apply Kd.R_alloc | apply Kd.R_drewN | apply Kd.R_drew)); exact Kd.R_mono (Kd.R_far (p := ⟨gb471, 1, none⟩) (Kd.R_far (p := ⟨gb471, 0, none⟩) (Kd.R_types HO_443000.out BK471.out (by decide)) (fun _ hk => by first | exact hk.2 | grind) (.slice Ao213 t462.length co213)) (fun _ hk => by first | exact hk.2 | grind) (.bool t465)) (fun _ hk => by first | exact ⟨hk.1.1.1.1, ⟨hk.1.1.1.2, ⟨hk.1.1.2, hk.1.2⟩⟩⟩ | grind)))⟩; have n3_ : Aside0 (Kd.R (Kd.int .u8) 5 w222 w.heap.size (fun k_ => some k_ ≠ (.slice Ao21 t417.length co21 : Value).ownBlock ∧ some k_ ≠ (.slice Ao32 t452.length co32 : Value).ownBlock ∧ some k_ ≠ (.slice Ao42 t433.length co42 : Value).ownBlock ∧ some k_ ≠ (.slice Ao213 t462.length co213 : Value).ownBlock) (.slice Ao209 t458.length co209) t458) := ⟨(by rw [hw]; exact (by (with_reducible repeat (first | apply Kd.R_alloc | apply Kd.R_drewN | apply Kd.R_drew)); exact Kd.R_mono (Kd.R_far (p := ⟨gb471, 1, none⟩) (Kd.R_far (p := ⟨gb471, 0, none⟩) (Kd.R_types HO460.out BK471.out (by decide)) (fun _ hk => by first | exact hk.2 | grind) (.slice Ao213 t462.length co213)) (fun _ hk => by first | exact hk.2 | grind) (.bool t465)) (fun _ hk => by first | exact ⟨hk.1.1.1.1.2, ⟨hk.1.1.1.2, ⟨hk.1.1.2, hk.1.2⟩⟩⟩ | grind)))⟩; have n4_ : Aside0 (Kd.R (Kd.int .u8) 5 w222 w.heap.size (fun k_ => some k_ ≠ (.slice Ao21 t417.length co21 : Value).ownBlock ∧ some k_ ≠ (.slice Ao32 t452.length co32 : Value).ownBlock ∧ some k_ ≠ (.slice Ao42 t433.length co42 : Value).ownBlock ∧ some k_ ≠ (.slice Ao209 t458.length co209 : Value).ownBlock) (.slice Ao213 t462.length co213) t462) := ⟨(by rw [hw]; exact (by (with_reducible repeat (first | apply Kd.R_alloc | apply Kd.R_drewN | apply Kd.R_drew)); exact Kd.R_mono (Kd.R_far (p := ⟨gb471, 1, none⟩) (Kd.R_far (p := ⟨gb471, 0, none⟩) (Kd.R_types HO464.out BK471.out (by decide)) (fun _ hk => by first | exact hk.2 | grind) (.slice Ao213 t462.length co213)) (fun _ hk => by first | exact hk.2 | grind) (.bool t465)) (fun _ hk => by first | exact ⟨hk.1.1.1.1.2, ⟨hk.1.1.1.2, ⟨hk.1.1.2, hk.1.2⟩⟩⟩ | grind)))⟩; have n5_ : Aside0 (w222.heap[gb411]? = some (.cells #[.slice A0_0 l0_0.length c0_0, .bool a0_1] 100 (0, 0))) := ⟨(by rw [hw]; exact (uf_ BK411.out))⟩; have n6_ : Aside0 (w222.heap[gb426]? = some (.cells #[.slice Ao21 t417.length co21, .bool t420] 102 (0, 0))) := ⟨(by rw [hw]; exact (uf_ BK426.out))⟩; have n7_ : Aside0 (w222.heap[gb427]? = some (.cells #[.int .i64 t421, .int .i64 t422, .int .i64 t423, .int .i64 t424] 61 (0, 0))) := ⟨(by rw [hw]; exact (uf_ BK427.out))⟩; have n8_ : Aside0 (w222.heap[gb432]? = some (.cells #[.slice Ao32 t452.length co32, .bool t431] 102 (0, 0))) := ⟨(by rw [hw]; exact (uf_ BK432.out))⟩; have n9_ : Aside0 (w222.heap[gb442]? = some (.cells #[.slice Ao42 t433.length co42, .bool t436] 102 (0, 0))) := ⟨(by rw [hw]; exact (uf_ BK442.out))⟩; have n10_ : Aside0 (w222.heap[gb443]? = some (.cells #[.int .i64 t437, .int .i64 t438, .int .i64 t439, .int .i64 t440] 61 (0, 0))) := ⟨(by rw [hw]; exact (uf_ BK443.out))⟩; have n11_ : Aside0 (w222.heap[gb471]? = some (.cells #[.slice Ao213 t462.length co213, .bool t465] 102 (0, 0))) := ⟨(by rw [hw]; exact (by (with_reducible repeat first|apply bn_|apply bd_|apply ba_); refine blk_put (cs := #[.slice Ao213 t462.length co213, .bool false]) ?_ 1 _ rfl; refine blk_put (cs := #[.slice none 0 0, .bool false]) ?_ 0 _ rfl; (with_reducible repeat first|apply bn_|apply bd_|apply ba_); exact BK471.out))⟩; have n12_ : Aside0 (w222.heap[gb472]? = some (.cells #[.int .i64 0, .int .i64 0, .int .i64 0, .int .i64 0] 61 (0, 0))) := ⟨(by rw [hw]; exact (uf_ BK472.out))⟩; have n13_ : Aside0 (Below w.heap.size w w222) := ⟨(by rw [hw]; exact (ue_ HB.out))⟩; clear hw HO_427000 HO_433000 HO_443000 HO460 HO464 BK411 BK426 BK427 BK432 BK442 BK443 BK471 BK472 HB; have HO_427000 := n0_; have HO_433000 := n1_; have HO_443000 := n2_; have HO460 := n3_; have HO464 := n4_; have BK411 := n5_; have BK426 := n6_; have BK427 := n7_; have BK432 := n8_; have BK442 := n9_; have BK443 := n10_; have BK471 := n11_; have BK472 := n12_; have HB := n13_; clear n0_ n1_ n2_ n3_ n4_ n5_ n6_ n7_ n8_ n9_ n10_ n11_ n12_ n13_; have hnb223 := NB472_411.out; have hnc223 := NB411_472.out; have hnb224 := NB472_426.out; have hnc224 := NB426_472.out; have hnb225 := NB472_427.out; have hnc225 := NB427_472.out; have hnb226 := NB472_432.out; have hnc226 := NB432_472.out; have hnb227 := NB472_442.out; have hnc227 := NB442_472.out; have hnb228 := NB472_443.out; have hnc228 := NB443_472.out; obtain ⟨hcz229_0, hcz229_1, hcz229_2, hcz229_3⟩ := cb4_ BK472.out; obtain ⟨hfz229_0, hfz229_1, hfz229_2⟩ := bf3_ BK472.out; have hfz229_3 := blk_frozen BK472.out 3) | ((with_reducible refine gate_store (t := 61) (p := 15) rfl ?_); refine store_event (t := 61) (p := 15) (v := ?vo_w230) (w1 := ((((w222.setCell ⟨gb472, 0, none⟩ (.int .i64 t466)).setCell ⟨gb472, 1, none⟩ (.int .i64 t467)).setCell ⟨gb472, 2, none⟩ (.int .i64 t468)).setCell ⟨gb472, 3, none⟩ (.int .i64 t469))) ?hg ?ho ?hn ?hr ?_; (case ho => rfl); (case hg => rfl); (case hn => rfl); (case hr => first | (go_simp; done) | (go_simp; rfl)); intro w230 hw; have n0_ : Aside0 (Kd.R (Kd.int .u8) 5 w230 w.heap.size (fun k_ => some k_ ≠ (.slice Ao32 t452.length co32 : Value).ownBlock ∧ some k_ ≠ (.slice Ao42 t433.length co42 : Value).ownBlock ∧ some k_ ≠ (.slice Ao209 t458.length co209 : Value).ownBlock ∧ some k_ ≠ (.slice Ao213 t462.length co213 : Value).ownBlock) (.slice Ao21 t417.length co21) t417) := ⟨(by rw [hw]; exact (by (with_reducible repeat (first | apply Kd.R_alloc | apply Kd.R_drewN | apply Kd.R_drew)); exact Kd.R_mono (Kd.R_far (p := ⟨gb472, 3, none⟩) (Kd.R_far (p := ⟨gb472, 2, none⟩) (Kd.R_far (p := ⟨gb472, 1, none⟩) (Kd.R_far (p := ⟨gb472, 0, none⟩) (Kd.R_types HO_427000.out BK472.out (by decide)) (fun _ hk => by first | exact hk.2 | grind) (.int .i64 t466)) (fun _ hk => by first | exact hk.2 | grind) (.int .i64 t467)) (fun _ hk => by first | exact hk.2 | grind) (.int .i64 t468)) (fun _ hk => by first | exact hk.2 | grind) (.int .i64 t469)) (fun _ hk => by first | exact ⟨hk.1.1, ⟨hk.1.2.1, ⟨hk.1.2.2.1, hk.1.2.2.2⟩⟩⟩ | grind)))⟩; have n1_ : Aside0 (Kd.R (Kd.int .u8) 5 w230 w.heap.size (fun k_ => some k_ ≠ (.slice Ao21 t417.length co21 : Value).ownBlock ∧ some k_ ≠ (.slice Ao42 t433.length co42 : Value).ownBlock ∧ some k_ ≠ (.slice Ao209 t458.length co209 : Value).ownBlock ∧ some k_ ≠ (.slice Ao213 t462.length co213 : Value).ownBlock) (.slice Ao32 t452.length co32) t452) := ⟨(by rw [hw]; exact (by (with_reducible repeat (first | apply Kd.R_alloc | apply Kd.R_drewN | apply Kd.R_drew)); exact Kd.R_mono (Kd.R_far (p := ⟨gb472, 3, none⟩) (Kd.R_far (p := ⟨gb472, 2, none⟩) (Kd.R_far (p := ⟨gb472, 1, none⟩) (Kd.R_far (p := ⟨gb472, 0, none⟩) (Kd.R_types HO_433000.out BK472.out (by decide)) (fun _ hk => by first | exact hk.2 | grind) (.int .i64 t466)) (fun _ hk => by first | exact hk.2 | grind) (.int .i64 t467)) (fun _ hk => by first | exact hk.2 | grind) (.int .i64 t468)) (fun _ hk => by first | exact hk.2 | grind) (.int .i64 t469)) (fun _ hk => by first | exact ⟨hk.1.1, ⟨hk.1.2.1, ⟨hk.1.2.2.1, hk.1.2.2.2⟩⟩⟩ | grind)))⟩; have n2_ : Aside0 (Kd.R (Kd.int .u8) 5 w230 w.heap.size (fun k_ => some k_ ≠ (.slice Ao21 t417.length co21 : Value).ownBlock ∧ some k_ ≠ (.slice Ao32 t452.length co32 : Value).ownBlock ∧ some k_ ≠ (.slice Ao209 t458.length co209 : Value).ownBlock ∧ some k_ ≠ (.slice Ao213 t462.length co213 : Value).ownBlock) (.slice Ao42 t433.length co42) t456) := ⟨(by rw [hw]; exact (by (with_reducible repeat (first | apply Kd.R_alloc | apply Kd.R_drewN | apply Kd.R_drew)); exact Kd.R_mono (Kd.R_far (p := ⟨gb472, 3, none⟩) (Kd.R_far (p := ⟨gb472, 2, none⟩) (Kd.R_far (p := ⟨gb472, 1, none⟩) (Kd.R_far (p := ⟨gb472, 0, none⟩) (Kd.R_types HO_443000.out BK472.out (by decide)) (fun _ hk => by first | exact hk.2 | grind) (.int .i64 t466)) (fun _ hk => by first | exact hk.2 | grind) (.int .i64 t467)) (fun _ hk => by first | exact hk.2 | grind) (.int .i64 t468)) (fun _ hk => by first | exact hk.2 | grind) (.int .i64 t469)) (fun _ hk => by first | exact ⟨hk.1.1, ⟨hk.1.2.1, ⟨hk.1.2.2.1, hk.1.2.2.2⟩⟩⟩ | grind)))⟩; have n3_ : Aside0 (Kd.R (Kd.int .u8) 5 w230 w.heap.size (fun k_ => some k_ ≠ (.slice Ao21 t417.length co21 : Value).ownBlock ∧ some k_ ≠ (.slice Ao32 t452.length co32 : Value).ownBlock ∧ some k_ ≠ (.slice Ao42 t433.length co42 : Value).ownBlock ∧ some k_ ≠ (.slice Ao213 t462.length co213 : Value).ownBlock) (.slice Ao209 t458.length co209) t458) := ⟨(by rw [hw]; exact (by (with_reducible repeat (first | apply Kd.R_alloc | apply Kd.R_drewN | apply Kd.R_drew)); exact Kd.R_mono (Kd.R_far (p := ⟨gb472, 3, none⟩) (Kd.R_far (p := ⟨gb472, 2, none⟩) (Kd.R_far (p := ⟨gb472, 1, none⟩) (Kd.R_far (p := ⟨gb472, 0, none⟩) (Kd.R_types HO460.out BK472.out (by decide)) (fun _ hk => by first | exact hk.2 | grind) (.int .i64 t466)) (fun _ hk => by first | exact hk.2 | grind) (.int .i64 t467)) (fun _ hk => by first | exact hk.2 | grind) (.int .i64 t468)) (fun _ hk => by first | exact hk.2 | grind) (.int .i64 t469)) (fun _ hk => by first | exact ⟨hk.1.1, ⟨hk.1.2.1, ⟨hk.1.2.2.1, hk.1.2.2.2⟩⟩⟩ | grind)))⟩; have n4_ : Aside0 (Kd.R (Kd.int .u8) 5 w230 w.heap.size (fun k_ => some k_ ≠ (.slice Ao21 t417.length co21 : Value).ownBlock ∧ some k_ ≠ (.slice Ao32 t452.length co32 : Value).ownBlock ∧ some k_ ≠ (.slice Ao42 t433.length co42 : Value).ownBlock ∧ some k_ ≠ (.slice Ao209 t458.length co209 : Value).ownBlock) (.slice Ao213 t462.length co213) t462) := ⟨(by rw [hw]; exact (by (with_reducible repeat (first | apply Kd.R_alloc | apply Kd.R_drewN | apply Kd.R_drew)); exact Kd.R_mono (Kd.R_far (p := ⟨gb472, 3, none⟩) (Kd.R_far (p := ⟨gb472, 2, none⟩) (Kd.R_far (p := ⟨gb472, 1, none⟩) (Kd.R_far (p := ⟨gb472, 0, none⟩) (Kd.R_types HO464.out BK472.out (by decide)) (fun _ hk => by first | exact hk.2 | grind) (.int .i64 t466)) (fun _ hk => by first | exact hk.2 | grind) (.int .i64 t467)) (fun _ hk => by first | exact hk.2 | grind) (.int .i64 t468)) (fun _ hk => by first | exact hk.2 | grind) (.int .i64 t469)) (fun _ hk => by first | exact ⟨hk.1.1, ⟨hk.1.2.1, ⟨hk.1.2.2.1, hk.1.2.2.2⟩⟩⟩ | grind)))⟩; have n5_ : Aside0 (w230.heap[gb411]? = some (.cells #[.slice A0_0 l0_0.length c0_0, .bool a0_1] 100 (0, 0))) := ⟨(by rw [hw]; exact (uf_ BK411.out))⟩; have n6_ : Aside0 (w230.heap[gb426]? = some (.cells #[.slice Ao21 t417.length co21, .bool t420] 102 (0, 0))) := ⟨(by rw [hw]; exact (uf_ BK426.out))⟩; have n7_ : Aside0 (w230.heap[gb427]? = some (.cells #[.int .i64 t421, .int .i64 t422, .int .i64 t423, .int .i64 t424] 61 (0, 0))) := ⟨(by rw [hw]; exact (uf_ BK427.out))⟩; have n8_ : Aside0 (w230.heap[gb432]? = some (.cells #[.slice Ao32 t452.length co32, .bool t431] 102 (0, 0))) := ⟨(by rw [hw]; exact (uf_ BK432.out))⟩; have n9_ : Aside0 (w230.heap[gb442]? = some (.cells #[.slice Ao42 t433.length co42, .bool t436] 102 (0, 0))) := ⟨(by rw [hw]; exact (uf_ BK442.out))⟩; have n10_ : Aside0 (w230.heap[gb443]? = some (.cells #[.int .i64 t437, .int .i64 t438, .int .i64 t439, .int .i64 t440] 61 (0, 0))) := ⟨(by rw [hw]; exact (uf_ BK443.out))⟩; have n11_ : Aside0 (w230.heap[gb471]? = some (.cells #[.slice Ao213 t462.length co213, .bool t465] 102 (0, 0))) := ⟨(by rw [hw]; exact (uf_ BK471.out))⟩; have n12_ : Aside0 (w230.heap[gb472]? = some (.cells #[.int .i64 t466, .int .i64 t467, .int .i64 t468, .int .i64 t469] 61 (0, 0))) := ⟨(by rw [hw]; exact (by (with_reducible repeat first|apply bn_|apply bd_|apply ba_); refine blk_put (cs := #[.int .i64 t466, .int .i64 t467, .int .i64 t468, .int .i64 0]) ?_ 3 _ rfl; refine blk_put (cs := #[.int .i64 t466, .int .i64 t467, .int .i64 0, .int .i64 0]) ?_ 2 _ rfl; refine blk_put (cs := #[.int .i64 t466, .int .i64 0, .int .i64 0, .int .i64 0]) ?_ 1 _ rfl; refine blk_put (cs := #[.int .i64 0, .int .i64 0, .int .i64 0, .int .i64 0]) ?_ 0 _ rfl; (with_reducible repeat first|apply bn_|apply bd_|apply ba_); exact BK472.out))⟩; have n13_ : Aside0 (Below w.heap.size w w230) := ⟨(by rw [hw]; exact (ue_ HB.out))⟩; clear hw HO_427000 HO_433000 HO_443000 HO460 HO464 BK411 BK426 BK427 BK432 BK442 BK443 BK471 BK472 HB; have HO_427000 := n0_; have HO_433000 := n1_; have HO_443000 := n2_; have HO460 := n3_; have HO464 := n4_; have BK411 := n5_; have BK426 := n6_; have BK427 := n7_; have BK432 := n8_; have BK442 := n9_; have BK443 := n10_; have BK471 := n11_; have BK472 := n12_; have HB := n13_; clear n0_ n1_ n2_ n3_ n4_ n5_ n6_ n7_ n8_ n9_ n10_ n11_ n12_ n13_))
           (try simp only [Act.put, List.setIfInBounds_toArray, List.set_cons_zero, List.set_cons_succ])
           go_cut [111] (fun v111 wc => ∃ (kq : Nat) (x111_192 : Bool), v111 = .bool x111_192 ∧ Aside0 (laws_FnExactTakeNext.j2 kq t455 x111_192 t456 t436 = some r) ∧ Aside0 (kq ≤ kj116) ∧ Aside0 (Kd.R (Kd.int .u8) 5 wc w.heap.size (fun k_ => some k_ ≠ ((.slice Ao32 t452.length co32) : Value).ownBlock ∧ some k_ ≠ ((.slice Ao42 t433.length co42) : Value).ownBlock ∧ some k_ ≠ ((.slice Ao213 t462.length co213) : Value).ownBlock) (.slice Ao21 t417.length co21) t417) ∧ Aside0 (Kd.R (Kd.int .u8) 5 wc w.heap.size (fun k_ => some k_ ≠ ((.slice Ao21 t417.length co21) : Value).ownBlock ∧ some k_ ≠ ((.slice Ao42 t433.length co42) : Value).ownBlock ∧ some k_ ≠ ((.slice Ao213 t462.length co213) : Value).ownBlock) (.slice Ao32 t452.length co32) t452) ∧ Aside0 (Kd.R (Kd.int .u8) 5 wc w.heap.size (fun k_ => some k_ ≠ ((.slice Ao21 t417.length co21) : Value).ownBlock ∧ some k_ ≠ ((.slice Ao32 t452.length co32) : Value).ownBlock ∧ some k_ ≠ ((.slice Ao213 t462.length co213) : Value).ownBlock) (.slice Ao42 t433.length co42) t456) ∧ Aside0 (Kd.R (Kd.int .u8) 5 wc w.heap.size (fun k_ => some k_ ≠ ((.slice Ao21 t417.length co21) : Value).ownBlock ∧ some k_ ≠ ((.slice Ao32 t452.length co32) : Value).ownBlock ∧ some k_ ≠ ((.slice Ao42 t433.length co42) : Value).ownBlock) (.slice Ao213 t462.length co213) t462) ∧ Aside0 (wc.heap[gb411]? = some (.cells #[(.slice A0_0 l0_0.length c0_0), .bool a0_1] 100 (0, 0))) ∧ Aside0 (wc.heap[gb426]? = some (.cells #[(.slice Ao21 t417.length co21), .bool t420] 102 (0, 0))) ∧ Aside0 (wc.heap[gb427]? = some (.cells #[.int .i64 t421, .int .i64 t422, .int .i64 t423, .int .i64 t424] 61 (0, 0))) ∧ Aside0 (wc.heap[gb432]? = some (.cells #[(.slice Ao32 t452.length co32), .bool t431] 102 (0, 0))) ∧ Aside0 (wc.heap[gb442]? = some (.cells #[(.slice Ao42 t433.length co42), .bool t436] 102 (0, 0))) ∧ Aside0 (wc.heap[gb443]? = some (.cells #[.int .i64 t437, .int .i64 t438, .int .i64 t439, .int .i64 t440] 61 (0, 0))) ∧ Aside0 (wc.heap[gb471]? = some (.cells #[(.slice Ao213 t462.length co213), .bool t465] 102 (0, 0))) ∧ Aside0 (wc.heap[gb472]? = some (.cells #[.int .i64 t466, .int .i64 t467, .int .i64 t468, .int .i64 t469] 61 (0, 0))) ∧ Aside0 (Below w.heap.size w wc))
           case first =>
            have H := HC193.out
            clear HC193
            replace H := Option.bind_eq_some_iff.mp H
            obtain ⟨t473, A2310, H⟩ := H
            replace H : (if t473 = true then ((laws_eqFrame.f t466 t467 t468 t469 t421 t422 t423 t424).bind fun t474 => (if t474 = true then (laws_FnExactTakeNext.j2 kj116 t455 (t470 != t425) t456 t436) else (laws_FnExactTakeNext.j2 kj116 t455 true t456 t436))) else (laws_FnExactTakeNext.j2 kj116 t455 true t456 t436)) = some r := H
            have A231 := Aside0.mk A2310
            clear A2310
            by_cases c232 : t473 = true
            ·
             subst c232
             have H1 : ((laws_eqFrame.f t466 t467 t468 t469 t421 t422 t423 t424).bind fun t474 => (if t474 = true then (laws_FnExactTakeNext.j2 kj116 t455 (t470 != t425) t456 t436) else (laws_FnExactTakeNext.j2 kj116 t455 true t456 t436))) = some r := by rw [if_pos rfl] at H; exact H
             clear H
             have H := H1
             clear H1
             replace H := Option.bind_eq_some_iff.mp H
             obtain ⟨t474, A2330, H⟩ := H
             replace H : (if t474 = true then (laws_FnExactTakeNext.j2 kj116 t455 (t470 != t425) t456 t436) else (laws_FnExactTakeNext.j2 kj116 t455 true t456 t436)) = some r := H
             have A233 := Aside0.mk A2330
             clear A2330
             by_cases c234 : t474 = true
             ·
              subst c234
              have H1 : (laws_FnExactTakeNext.j2 kj116 t455 (t470 != t425) t456 t436) = some r := by rw [if_pos rfl] at H; exact H
              clear H
              have H := H1
              clear H1
              have H' := Aside0.mk H
              clear H
              have hnb235 := NB471_411.out
              have hnc235 := NB411_471.out
              have hnb236 := NB471_426.out
              have hnc236 := NB426_471.out
              have hnb237 := NB471_427.out
              have hnc237 := NB427_471.out
              have hnb238 := NB471_432.out
              have hnc238 := NB432_471.out
              have hnb239 := NB471_442.out
              have hnc239 := NB442_471.out
              have hnb240 := NB471_443.out
              have hnc240 := NB443_471.out
              have hnb241 := NB471_472.out
              have hnc241 := NB472_471.out
              have hcz242_0 := cb_ BK471.out 0 rfl
              have hcz242_1 := cb_ BK471.out 1 rfl
              have hfz242_0 := blk_frozen BK471.out 0
              have hfz242_1 := blk_frozen BK471.out 1
              have hnb243 := NB426_411.out
              have hnc243 := NB411_426.out
              have hnb244 := NB426_427.out
              have hnc244 := NB427_426.out
              have hnb245 := NB426_432.out
              have hnc245 := NB432_426.out
              have hnb246 := NB426_442.out
              have hnc246 := NB442_426.out
              have hnb247 := NB426_443.out
              have hnc247 := NB443_426.out
              have hnb248 := NB426_472.out
              have hnc248 := NB472_426.out
              have hcz249_0 := cb_ BK426.out 0 rfl
              have hcz249_1 := cb_ BK426.out 1 rfl
              have hfz249_0 := blk_frozen BK426.out 0
              have hfz249_1 := blk_frozen BK426.out 1
              go_wp2_with (first | ((with_reducible refine gate_callee (f := 79) rfl ?_); refine goesL_ (some 99) rfl rfl Try.func79 (by kernel_rfl) rfl #[.agg #[.slice Ao213 t462.length co213, .bool t465], .agg #[.slice Ao21 t417.length co21, .bool t420]] rfl ul_ ?_; (with_reducible refine (laws_eqDecoder.calls kj116 _ _ t462 t465 _ _ t417 t420 true _ ?side1 ?side2 ?side3 ?side4 A231.out).mono ?_); (case side1 => repeat (first | exact (Kd.R_reads' HO464.out).2.2 | (with_reducible refine Kd.C_alloc ?_ _) | (with_reducible refine Kd.C_drewN ?_ _) | (with_reducible refine Kd.C_drew ?_))); (case side2 => exact (Kd.R_reads' HO464.out).2.1); (case side3 => repeat (first | exact (Kd.R_reads' HO_427000.out).2.2 | (with_reducible refine Kd.C_alloc ?_ _) | (with_reducible refine Kd.C_drewN ?_ _) | (with_reducible refine Kd.C_drew ?_))); (case side4 => exact (Kd.R_reads' HO_427000.out).2.1); rintro e w250 ⟨rfl, hb⟩; refine ⟨_, rfl, ?_⟩; have n0_ := am_ (Kd.R_below (ur_ HO_427000.out) hb); have n1_ := am_ (Kd.R_below (ur_ HO_433000.out) hb); have n2_ := am_ (Kd.R_below (ur_ HO_443000.out) hb); have n3_ := am_ (Kd.R_below (ur_ HO460.out) hb); have n4_ := am_ (Kd.R_below (ur_ HO464.out) hb); have n5_ := am_ (bb_ BK411.out hb); have n6_ := am_ (bb_ BK426.out hb); have n7_ := am_ (bb_ BK427.out hb); have n8_ := am_ (bb_ BK432.out hb); have n9_ := am_ (bb_ BK442.out hb); have n10_ := am_ (bb_ BK443.out hb); have n11_ := am_ (bb_ BK471.out hb); have n12_ := am_ (bb_ BK472.out hb); have n13_ := am_ (below_step (ue_ HB.out) hb); clear HO_427000 HO_433000 HO_443000 HO460 HO464 BK411 BK426 BK427 BK432 BK442 BK443 BK471 BK472 HB; have HO_427000 := n0_; have HO_433000 := n1_; have HO_443000 := n2_; have HO460 := n3_; have HO464 := n4_; have BK411 := n5_; have BK426 := n6_; have BK427 := n7_; have BK432 := n8_; have BK442 := n9_; have BK443 := n10_; have BK471 := n11_; have BK472 := n12_; have HB := n13_; clear n0_ n1_ n2_ n3_ n4_ n5_ n6_ n7_ n8_ n9_ n10_ n11_ n12_ n13_; (try clear hb); (try clear hb2); (try clear hk); (try clear hi); have hnb251 := NB472_411.out; have hnc251 := NB411_472.out; have hnb252 := NB472_427.out; have hnc252 := NB427_472.out; have hnb253 := NB472_432.out; have hnc253 := NB432_472.out; have hnb254 := NB472_442.out; have hnc254 := NB442_472.out; have hnb255 := NB472_443.out; have hnc255 := NB443_472.out; obtain ⟨hcz256_0, hcz256_1, hcz256_2, hcz256_3⟩ := cb4_ BK472.out; obtain ⟨hfz256_0, hfz256_1, hfz256_2, hfz256_3⟩ := bf4_ BK472.out; have hnb257 := NB427_411.out; have hnc257 := NB411_427.out; have hnb258 := NB427_432.out; have hnc258 := NB432_427.out; have hnb259 := NB427_442.out; have hnc259 := NB442_427.out; have hnb260 := NB427_443.out; have hnc260 := NB443_427.out; obtain ⟨hcz261_0, hcz261_1, hcz261_2, hcz261_3⟩ := cb4_ BK427.out; obtain ⟨hfz261_0, hfz261_1, hfz261_2⟩ := bf3_ BK427.out; have hfz261_3 := blk_frozen BK427.out 3) | (go_at_call 62; (with_reducible refine (laws_eqFrame.calls t466 t467 t468 t469 t421 t422 t423 t424 true _ A233.out).mono ?_); rintro e w262 ⟨rfl, hb⟩; have n0_ := am_ (Kd.R_below (ur_ HO_427000.out) hb); have n1_ := am_ (Kd.R_below (ur_ HO_433000.out) hb); have n2_ := am_ (Kd.R_below (ur_ HO_443000.out) hb); have n3_ := am_ (Kd.R_below (ur_ HO460.out) hb); have n4_ := am_ (Kd.R_below (ur_ HO464.out) hb); have n5_ := am_ (bb_ BK411.out hb); have n6_ := am_ (bb_ BK426.out hb); have n7_ := am_ (bb_ BK427.out hb); have n8_ := am_ (bb_ BK432.out hb); have n9_ := am_ (bb_ BK442.out hb); have n10_ := am_ (bb_ BK443.out hb); have n11_ := am_ (bb_ BK471.out hb); have n12_ := am_ (bb_ BK472.out hb); have n13_ := am_ (below_step (ue_ HB.out) hb); clear HO_427000 HO_433000 HO_443000 HO460 HO464 BK411 BK426 BK427 BK432 BK442 BK443 BK471 BK472 HB; have HO_427000 := n0_; have HO_433000 := n1_; have HO_443000 := n2_; have HO460 := n3_; have HO464 := n4_; have BK411 := n5_; have BK426 := n6_; have BK427 := n7_; have BK432 := n8_; have BK442 := n9_; have BK443 := n10_; have BK471 := n11_; have BK472 := n12_; have HB := n13_; clear n0_ n1_ n2_ n3_ n4_ n5_ n6_ n7_ n8_ n9_ n10_ n11_ n12_ n13_; (try clear hb); (try clear hb2); (try clear hk); (try clear hi)))
              go_meet
              case rel => exact ⟨_, ((t470 != t425)), (by first | rfl | (simp; done) | (simp [*]; done)), H', ⟨by have := HJ10.out; have := HJ116.out; first | omega | exact Nat.le_refl _⟩, ⟨by (try simp only [hl433000_116]); (with_reducible repeat (first | apply Kd.R_alloc | apply Kd.R_drewN | apply Kd.R_drew)); exact Kd.R_mono HO_427000.out (fun _ hk => by first | exact ⟨hk.1, ⟨hk.2.1, hk.2.2.2⟩⟩ | grind)⟩, ⟨by (try simp only [hl433000_116]); (with_reducible repeat (first | apply Kd.R_alloc | apply Kd.R_drewN | apply Kd.R_drew)); exact Kd.R_mono HO_433000.out (fun _ hk => by first | exact ⟨hk.1, ⟨hk.2.1, hk.2.2.2⟩⟩ | grind)⟩, ⟨by (try simp only [hl433000_116]); (with_reducible repeat (first | apply Kd.R_alloc | apply Kd.R_drewN | apply Kd.R_drew)); exact Kd.R_mono HO_443000.out (fun _ hk => by first | exact ⟨hk.1, ⟨hk.2.1, hk.2.2.2⟩⟩ | grind)⟩, ⟨by (try simp only [hl433000_116]); (with_reducible repeat (first | apply Kd.R_alloc | apply Kd.R_drewN | apply Kd.R_drew)); exact Kd.R_mono HO464.out (fun _ hk => by first | exact ⟨hk.1, ⟨hk.2.1, hk.2.2.1⟩⟩ | grind)⟩, ⟨by (try simp only [hl433000_116]); (with_reducible repeat first|apply bn_|apply bd_|apply ba_); exact BK411.out⟩, ⟨by (try simp only [hl433000_116]); (with_reducible repeat first|apply bn_|apply bd_|apply ba_); exact BK426.out⟩, ⟨by (try simp only [hl433000_116]); (with_reducible repeat first|apply bn_|apply bd_|apply ba_); exact BK427.out⟩, ⟨by (try simp only [hl433000_116]); (with_reducible repeat first|apply bn_|apply bd_|apply ba_); exact BK432.out⟩, ⟨by (try simp only [hl433000_116]); (with_reducible repeat first|apply bn_|apply bd_|apply ba_); exact BK442.out⟩, ⟨by (try simp only [hl433000_116]); (with_reducible repeat first|apply bn_|apply bd_|apply ba_); exact BK443.out⟩, ⟨by (try simp only [hl433000_116]); (with_reducible repeat first|apply bn_|apply bd_|apply ba_); exact BK471.out⟩, ⟨by (try simp only [hl433000_116]); (with_reducible repeat first|apply bn_|apply bd_|apply ba_); exact BK472.out⟩, ⟨ue_ HB.out⟩⟩
             ·
              replace c234 := Bool.eq_false_iff.mpr c234
              subst c234
              have H1 : (laws_FnExactTakeNext.j2 kj116 t455 true t456 t436) = some r := by rw [if_neg (show ¬ (false = true) by decide)] at H; exact H
              clear H
              have H := H1
              clear H1
              have H' := Aside0.mk H
              clear H
              have hnb263 := NB471_411.out
              have hnc263 := NB411_471.out
              have hnb264 := NB471_426.out
              have hnc264 := NB426_471.out
              have hnb265 := NB471_427.out
              have hnc265 := NB427_471.out
              have hnb266 := NB471_432.out
              have hnc266 := NB432_471.out
              have hnb267 := NB471_442.out
              have hnc267 := NB442_471.out
              have hnb268 := NB471_443.out
              have hnc268 := NB443_471.out
              have hnb269 := NB471_472.out
              have hnc269 := NB472_471.out
              have hcz270_0 := cb_ BK471.out 0 rfl
              have hcz270_1 := cb_ BK471.out 1 rfl
              have hfz270_0 := blk_frozen BK471.out 0
              have hfz270_1 := blk_frozen BK471.out 1
              have hnb271 := NB426_411.out
              have hnc271 := NB411_426.out
              have hnb272 := NB426_427.out
              have hnc272 := NB427_426.out
              have hnb273 := NB426_432.out
              have hnc273 := NB432_426.out
              have hnb274 := NB426_442.out
              have hnc274 := NB442_426.out
              have hnb275 := NB426_443.out
              have hnc275 := NB443_426.out
              have hnb276 := NB426_472.out
              have hnc276 := NB472_426.out
              have hcz277_0 := cb_ BK426.out 0 rfl
              have hcz277_1 := cb_ BK426.out 1 rfl
              have hfz277_0 := blk_frozen BK426.out 0
              have hfz277_1 := blk_frozen BK426.out 1
              go_wp2_with (first | ((with_reducible refine gate_callee (f := 79) rfl ?_); refine goesL_ (some 99) rfl rfl Try.func79 (by kernel_rfl) rfl #[.agg #[.slice Ao213 t462.length co213, .bool t465], .agg #[.slice Ao21 t417.length co21, .bool t420]] rfl ul_ ?_; (with_reducible refine (laws_eqDecoder.calls kj116 _ _ t462 t465 _ _ t417 t420 true _ ?side1 ?side2 ?side3 ?side4 A231.out).mono ?_); (case side1 => repeat (first | exact (Kd.R_reads' HO464.out).2.2 | (with_reducible refine Kd.C_alloc ?_ _) | (with_reducible refine Kd.C_drewN ?_ _) | (with_reducible refine Kd.C_drew ?_))); (case side2 => exact (Kd.R_reads' HO464.out).2.1); (case side3 => repeat (first | exact (Kd.R_reads' HO_427000.out).2.2 | (with_reducible refine Kd.C_alloc ?_ _) | (with_reducible refine Kd.C_drewN ?_ _) | (with_reducible refine Kd.C_drew ?_))); (case side4 => exact (Kd.R_reads' HO_427000.out).2.1); rintro e w278 ⟨rfl, hb⟩; refine ⟨_, rfl, ?_⟩; have n0_ := am_ (Kd.R_below (ur_ HO_427000.out) hb); have n1_ := am_ (Kd.R_below (ur_ HO_433000.out) hb); have n2_ := am_ (Kd.R_below (ur_ HO_443000.out) hb); have n3_ := am_ (Kd.R_below (ur_ HO460.out) hb); have n4_ := am_ (Kd.R_below (ur_ HO464.out) hb); have n5_ := am_ (bb_ BK411.out hb); have n6_ := am_ (bb_ BK426.out hb); have n7_ := am_ (bb_ BK427.out hb); have n8_ := am_ (bb_ BK432.out hb); have n9_ := am_ (bb_ BK442.out hb); have n10_ := am_ (bb_ BK443.out hb); have n11_ := am_ (bb_ BK471.out hb); have n12_ := am_ (bb_ BK472.out hb); have n13_ := am_ (below_step (ue_ HB.out) hb); clear HO_427000 HO_433000 HO_443000 HO460 HO464 BK411 BK426 BK427 BK432 BK442 BK443 BK471 BK472 HB; have HO_427000 := n0_; have HO_433000 := n1_; have HO_443000 := n2_; have HO460 := n3_; have HO464 := n4_; have BK411 := n5_; have BK426 := n6_; have BK427 := n7_; have BK432 := n8_; have BK442 := n9_; have BK443 := n10_; have BK471 := n11_; have BK472 := n12_; have HB := n13_; clear n0_ n1_ n2_ n3_ n4_ n5_ n6_ n7_ n8_ n9_ n10_ n11_ n12_ n13_; (try clear hb); (try clear hb2); (try clear hk); (try clear hi); have hnb279 := NB472_411.out; have hnc279 := NB411_472.out; have hnb280 := NB472_427.out; have hnc280 := NB427_472.out; have hnb281 := NB472_432.out; have hnc281 := NB432_472.out; have hnb282 := NB472_442.out; have hnc282 := NB442_472.out; have hnb283 := NB472_443.out; have hnc283 := NB443_472.out; obtain ⟨hcz284_0, hcz284_1, hcz284_2, hcz284_3⟩ := cb4_ BK472.out; obtain ⟨hfz284_0, hfz284_1, hfz284_2, hfz284_3⟩ := bf4_ BK472.out; have hnb285 := NB427_411.out; have hnc285 := NB411_427.out; have hnb286 := NB427_432.out; have hnc286 := NB432_427.out; have hnb287 := NB427_442.out; have hnc287 := NB442_427.out; have hnb288 := NB427_443.out; have hnc288 := NB443_427.out; obtain ⟨hcz289_0, hcz289_1, hcz289_2, hcz289_3⟩ := cb4_ BK427.out; obtain ⟨hfz289_0, hfz289_1, hfz289_2⟩ := bf3_ BK427.out; have hfz289_3 := blk_frozen BK427.out 3) | (go_at_call 62; (with_reducible refine (laws_eqFrame.calls t466 t467 t468 t469 t421 t422 t423 t424 false _ A233.out).mono ?_); rintro e w290 ⟨rfl, hb⟩; have n0_ := am_ (Kd.R_below (ur_ HO_427000.out) hb); have n1_ := am_ (Kd.R_below (ur_ HO_433000.out) hb); have n2_ := am_ (Kd.R_below (ur_ HO_443000.out) hb); have n3_ := am_ (Kd.R_below (ur_ HO460.out) hb); have n4_ := am_ (Kd.R_below (ur_ HO464.out) hb); have n5_ := am_ (bb_ BK411.out hb); have n6_ := am_ (bb_ BK426.out hb); have n7_ := am_ (bb_ BK427.out hb); have n8_ := am_ (bb_ BK432.out hb); have n9_ := am_ (bb_ BK442.out hb); have n10_ := am_ (bb_ BK443.out hb); have n11_ := am_ (bb_ BK471.out hb); have n12_ := am_ (bb_ BK472.out hb); have n13_ := am_ (below_step (ue_ HB.out) hb); clear HO_427000 HO_433000 HO_443000 HO460 HO464 BK411 BK426 BK427 BK432 BK442 BK443 BK471 BK472 HB; have HO_427000 := n0_; have HO_433000 := n1_; have HO_443000 := n2_; have HO460 := n3_; have HO464 := n4_; have BK411 := n5_; have BK426 := n6_; have BK427 := n7_; have BK432 := n8_; have BK442 := n9_; have BK443 := n10_; have BK471 := n11_; have BK472 := n12_; have HB := n13_; clear n0_ n1_ n2_ n3_ n4_ n5_ n6_ n7_ n8_ n9_ n10_ n11_ n12_ n13_; (try clear hb); (try clear hb2); (try clear hk); (try clear hi)))
              go_meet
              case rel => exact ⟨_, (true), (by first | rfl | (simp; done) | (simp [*]; done)), H', ⟨by have := HJ10.out; have := HJ116.out; first | omega | exact Nat.le_refl _⟩, ⟨by (try simp only [hl433000_116]); (with_reducible repeat (first | apply Kd.R_alloc | apply Kd.R_drewN | apply Kd.R_drew)); exact Kd.R_mono HO_427000.out (fun _ hk => by first | exact ⟨hk.1, ⟨hk.2.1, hk.2.2.2⟩⟩ | grind)⟩, ⟨by (try simp only [hl433000_116]); (with_reducible repeat (first | apply Kd.R_alloc | apply Kd.R_drewN | apply Kd.R_drew)); exact Kd.R_mono HO_433000.out (fun _ hk => by first | exact ⟨hk.1, ⟨hk.2.1, hk.2.2.2⟩⟩ | grind)⟩, ⟨by (try simp only [hl433000_116]); (with_reducible repeat (first | apply Kd.R_alloc | apply Kd.R_drewN | apply Kd.R_drew)); exact Kd.R_mono HO_443000.out (fun _ hk => by first | exact ⟨hk.1, ⟨hk.2.1, hk.2.2.2⟩⟩ | grind)⟩, ⟨by (try simp only [hl433000_116]); (with_reducible repeat (first | apply Kd.R_alloc | apply Kd.R_drewN | apply Kd.R_drew)); exact Kd.R_mono HO464.out (fun _ hk => by first | exact ⟨hk.1, ⟨hk.2.1, hk.2.2.1⟩⟩ | grind)⟩, ⟨by (try simp only [hl433000_116]); (with_reducible repeat first|apply bn_|apply bd_|apply ba_); exact BK411.out⟩, ⟨by (try simp only [hl433000_116]); (with_reducible repeat first|apply bn_|apply bd_|apply ba_); exact BK426.out⟩, ⟨by (try simp only [hl433000_116]); (with_reducible repeat first|apply bn_|apply bd_|apply ba_); exact BK427.out⟩, ⟨by (try simp only [hl433000_116]); (with_reducible repeat first|apply bn_|apply bd_|apply ba_); exact BK432.out⟩, ⟨by (try simp only [hl433000_116]); (with_reducible repeat first|apply bn_|apply bd_|apply ba_); exact BK442.out⟩, ⟨by (try simp only [hl433000_116]); (with_reducible repeat first|apply bn_|apply bd_|apply ba_); exact BK443.out⟩, ⟨by (try simp only [hl433000_116]); (with_reducible repeat first|apply bn_|apply bd_|apply ba_); exact BK471.out⟩, ⟨by (try simp only [hl433000_116]); (with_reducible repeat first|apply bn_|apply bd_|apply ba_); exact BK472.out⟩, ⟨ue_ HB.out⟩⟩
            ·
             replace c232 := Bool.eq_false_iff.mpr c232
             subst c232
             have H1 : (laws_FnExactTakeNext.j2 kj116 t455 true t456 t436) = some r := by rw [if_neg (show ¬ (false = true) by decide)] at H; exact H
             clear H
             have H := H1
             clear H1
             have H' := Aside0.mk H
             clear H
             have hnb291 := NB471_411.out
             have hnc291 := NB411_471.out
             have hnb292 := NB471_426.out
             have hnc292 := NB426_471.out
             have hnb293 := NB471_427.out
             have hnc293 := NB427_471.out
             have hnb294 := NB471_432.out
             have hnc294 := NB432_471.out
             have hnb295 := NB471_442.out
             have hnc295 := NB442_471.out
             have hnb296 := NB471_443.out
             have hnc296 := NB443_471.out
             have hnb297 := NB471_472.out
             have hnc297 := NB472_471.out
             have hcz298_0 := cb_ BK471.out 0 rfl
             have hcz298_1 := cb_ BK471.out 1 rfl
             have hfz298_0 := blk_frozen BK471.out 0
             have hfz298_1 := blk_frozen BK471.out 1
             have hnb299 := NB426_411.out
             have hnc299 := NB411_426.out
             have hnb300 := NB426_427.out
             have hnc300 := NB427_426.out
             have hnb301 := NB426_432.out
             have hnc301 := NB432_426.out
             have hnb302 := NB426_442.out
             have hnc302 := NB442_426.out
             have hnb303 := NB426_443.out
             have hnc303 := NB443_426.out
             have hnb304 := NB426_472.out
             have hnc304 := NB472_426.out
             have hcz305_0 := cb_ BK426.out 0 rfl
             have hcz305_1 := cb_ BK426.out 1 rfl
             have hfz305_0 := blk_frozen BK426.out 0
             have hfz305_1 := blk_frozen BK426.out 1
             go_wp2_with (first | ((with_reducible refine gate_callee (f := 79) rfl ?_); refine goesL_ (some 99) rfl rfl Try.func79 (by kernel_rfl) rfl #[.agg #[.slice Ao213 t462.length co213, .bool t465], .agg #[.slice Ao21 t417.length co21, .bool t420]] rfl ul_ ?_; (with_reducible refine (laws_eqDecoder.calls kj116 _ _ t462 t465 _ _ t417 t420 false _ ?side1 ?side2 ?side3 ?side4 A231.out).mono ?_); (case side1 => repeat (first | exact (Kd.R_reads' HO464.out).2.2 | (with_reducible refine Kd.C_alloc ?_ _) | (with_reducible refine Kd.C_drewN ?_ _) | (with_reducible refine Kd.C_drew ?_))); (case side2 => exact (Kd.R_reads' HO464.out).2.1); (case side3 => repeat (first | exact (Kd.R_reads' HO_427000.out).2.2 | (with_reducible refine Kd.C_alloc ?_ _) | (with_reducible refine Kd.C_drewN ?_ _) | (with_reducible refine Kd.C_drew ?_))); (case side4 => exact (Kd.R_reads' HO_427000.out).2.1); rintro e w306 ⟨rfl, hb⟩; refine ⟨_, rfl, ?_⟩; have n0_ := am_ (Kd.R_below (ur_ HO_427000.out) hb); have n1_ := am_ (Kd.R_below (ur_ HO_433000.out) hb); have n2_ := am_ (Kd.R_below (ur_ HO_443000.out) hb); have n3_ := am_ (Kd.R_below (ur_ HO460.out) hb); have n4_ := am_ (Kd.R_below (ur_ HO464.out) hb); have n5_ := am_ (bb_ BK411.out hb); have n6_ := am_ (bb_ BK426.out hb); have n7_ := am_ (bb_ BK427.out hb); have n8_ := am_ (bb_ BK432.out hb); have n9_ := am_ (bb_ BK442.out hb); have n10_ := am_ (bb_ BK443.out hb); have n11_ := am_ (bb_ BK471.out hb); have n12_ := am_ (bb_ BK472.out hb); have n13_ := am_ (below_step (ue_ HB.out) hb); clear HO_427000 HO_433000 HO_443000 HO460 HO464 BK411 BK426 BK427 BK432 BK442 BK443 BK471 BK472 HB; have HO_427000 := n0_; have HO_433000 := n1_; have HO_443000 := n2_; have HO460 := n3_; have HO464 := n4_; have BK411 := n5_; have BK426 := n6_; have BK427 := n7_; have BK432 := n8_; have BK442 := n9_; have BK443 := n10_; have BK471 := n11_; have BK472 := n12_; have HB := n13_; clear n0_ n1_ n2_ n3_ n4_ n5_ n6_ n7_ n8_ n9_ n10_ n11_ n12_ n13_; (try clear hb); (try clear hb2); (try clear hk); (try clear hi)))
             go_meet
             case rel => exact ⟨_, (true), (by first | rfl | (simp; done) | (simp [*]; done)), H', ⟨by have := HJ10.out; have := HJ116.out; first | omega | exact Nat.le_refl _⟩, ⟨by (try simp only [hl433000_116]); (with_reducible repeat (first | apply Kd.R_alloc | apply Kd.R_drewN | apply Kd.R_drew)); exact Kd.R_mono HO_427000.out (fun _ hk => by first | exact ⟨hk.1, ⟨hk.2.1, hk.2.2.2⟩⟩ | grind)⟩, ⟨by (try simp only [hl433000_116]); (with_reducible repeat (first | apply Kd.R_alloc | apply Kd.R_drewN | apply Kd.R_drew)); exact Kd.R_mono HO_433000.out (fun _ hk => by first | exact ⟨hk.1, ⟨hk.2.1, hk.2.2.2⟩⟩ | grind)⟩, ⟨by (try simp only [hl433000_116]); (with_reducible repeat (first | apply Kd.R_alloc | apply Kd.R_drewN | apply Kd.R_drew)); exact Kd.R_mono HO_443000.out (fun _ hk => by first | exact ⟨hk.1, ⟨hk.2.1, hk.2.2.2⟩⟩ | grind)⟩, ⟨by (try simp only [hl433000_116]); (with_reducible repeat (first | apply Kd.R_alloc | apply Kd.R_drewN | apply Kd.R_drew)); exact Kd.R_mono HO464.out (fun _ hk => by first | exact ⟨hk.1, ⟨hk.2.1, hk.2.2.1⟩⟩ | grind)⟩, ⟨by (try simp only [hl433000_116]); (with_reducible repeat first|apply bn_|apply bd_|apply ba_); exact BK411.out⟩, ⟨by (try simp only [hl433000_116]); (with_reducible repeat first|apply bn_|apply bd_|apply ba_); exact BK426.out⟩, ⟨by (try simp only [hl433000_116]); (with_reducible repeat first|apply bn_|apply bd_|apply ba_); exact BK427.out⟩, ⟨by (try simp only [hl433000_116]); (with_reducible repeat first|apply bn_|apply bd_|apply ba_); exact BK432.out⟩, ⟨by (try simp only [hl433000_116]); (with_reducible repeat first|apply bn_|apply bd_|apply ba_); exact BK442.out⟩, ⟨by (try simp only [hl433000_116]); (with_reducible repeat first|apply bn_|apply bd_|apply ba_); exact BK443.out⟩, ⟨by (try simp only [hl433000_116]); (with_reducible repeat first|apply bn_|apply bd_|apply ba_); exact BK471.out⟩, ⟨by (try simp only [hl433000_116]); (with_reducible repeat first|apply bn_|apply bd_|apply ba_); exact BK472.out⟩, ⟨ue_ HB.out⟩⟩
           case rest =>
            clear HC193
            try clear c1
            try clear c2
            try clear p2
            try clear c3
            try clear c3b0
            try clear c4
            try clear c5
            try clear c6
            try clear c7
            try clear c8
            try clear c9
            try clear c10
            try clear c11
            try clear c12
            try clear c13
            try clear c14
            try clear c15
            try clear c16
            try clear c17
            try clear c18
            try clear c19
            try clear c20
            try clear c21
            try clear c22
            try clear c23
            try clear c24
            try clear c25
            try clear c26
            try clear c27
            try clear c28
            try clear c29
            try clear c30
            try clear c33
            try clear c34
            try clear c35
            try clear c43
            try clear c44
            try clear c45
            try clear c46
            try clear c47
            try clear c50
            try clear c51
            try clear c52
            try clear c53
            try clear c57
            try clear c59
            try clear c60
            try clear c61
            try clear c62
            try clear c63
            try clear c64
            try clear c66
            try clear c67
            try clear c68
            try clear c69
            try clear c72
            try clear c73
            try clear c74
            try clear c75
            try clear c76
            try clear c77
            try clear c78
            try clear c79
            try clear c80
            try clear c81
            try clear c82
            try clear c83
            try clear c84
            try clear c86
            try clear c87
            try clear c88
            try clear c89
            try clear c92
            try clear c93
            try clear c94
            try clear c96
            try clear c97
            try clear c100
            try clear c101
            try clear c102
            try clear c103
            try clear c104
            try clear c106
            try clear c107
            try clear c108
            try clear c109
            try clear c112
            try clear c115
            try clear c122
            try clear c123
            try clear c124
            try clear c125
            try clear c126
            try clear c129
            try clear c129b0
            try clear c131
            try clear c133
            try clear c134
            try clear c135
            try clear c136
            try clear c137
            try clear c138
            try clear c140
            try clear c141
            try clear c142
            try clear c143
            try clear c146
            try clear c147
            try clear c148
            try clear c150
            try clear c151
            try clear c154
            try clear c155
            try clear c156
            try clear c157
            try clear c158
            try clear c160
            try clear c161
            try clear c162
            try clear c163
            try clear c166
            try clear c167
            try clear c168
            try clear c170
            try clear c171
            try clear c174
            try clear c175
            try clear c176
            try clear c177
            try clear c178
            try clear c180
            try clear c181
            try clear c182
            try clear c183
            try clear c186
            try clear c189
            try clear c189b0
            try clear c190
            try clear c190b0
            try clear c190b1
            try clear c194
            try clear c195
            try clear c196
            try clear c197
            try clear c198
            try clear c203
            try clear c204
            try clear c205
            try clear c206
            try clear c214
            try clear c215
            try clear c216
            try clear c217
            try clear c218
            try clear c219
            try clear c220
            try clear c223
            try clear c224
            try clear c225
            try clear c226
            try clear c227
            try clear c228
            try clear c232
            try clear c234
            try clear c235
            try clear c236
            try clear c237
            try clear c238
            try clear c239
            try clear c240
            try clear c241
            try clear c243
            try clear c244
            try clear c245
            try clear c246
            try clear c247
            try clear c248
            try clear c251
            try clear c252
            try clear c253
            try clear c254
            try clear c255
            try clear c257
            try clear c258
            try clear c259
            try clear c260
            try clear c263
            try clear c264
            try clear c265
            try clear c266
            try clear c267
            try clear c268
            try clear c269
            try clear c271
            try clear c272
            try clear c273
            try clear c274
            try clear c275
            try clear c276
            try clear c279
            try clear c280
            try clear c281
            try clear c282
            try clear c283
            try clear c285
            try clear c286
            try clear c287
            try clear c288
            try clear c291
            try clear c292
            try clear c293
            try clear c294
            try clear c295
            try clear c296
            try clear c297
            try clear c299
            try clear c300
            try clear c301
            try clear c302
            try clear c303
            try clear c304
            try clear hcz105_0
            try clear hcz105_1
            try clear hcz110_0
            try clear hcz110_1
            try clear hcz127_0
            try clear hcz127_1
            try clear hcz139_0
            try clear hcz139_1
            try clear hcz13_0
            try clear hcz13_1
            try clear hcz144_0
            try clear hcz144_1
            try clear hcz149_0
            try clear hcz149_1
            try clear hcz149_2
            try clear hcz149_3
            try clear hcz152_0
            try clear hcz152_1
            try clear hcz152_2
            try clear hcz152_3
            try clear hcz159_0
            try clear hcz159_1
            try clear hcz15_0
            try clear hcz15_1
            try clear hcz164_0
            try clear hcz164_1
            try clear hcz169_0
            try clear hcz169_1
            try clear hcz169_2
            try clear hcz169_3
            try clear hcz172_0
            try clear hcz172_1
            try clear hcz172_2
            try clear hcz172_3
            try clear hcz179_0
            try clear hcz179_1
            try clear hcz184_0
            try clear hcz184_1
            try clear hcz199_0
            try clear hcz199_1
            try clear hcz201_0
            try clear hcz201_1
            try clear hcz207_0
            try clear hcz207_1
            try clear hcz221_0
            try clear hcz221_1
            try clear hcz229_0
            try clear hcz229_1
            try clear hcz229_2
            try clear hcz229_3
            try clear hcz242_0
            try clear hcz242_1
            try clear hcz249_0
            try clear hcz249_1
            try clear hcz24_0
            try clear hcz24_1
            try clear hcz256_0
            try clear hcz256_1
            try clear hcz256_2
            try clear hcz256_3
            try clear hcz261_0
            try clear hcz261_1
            try clear hcz261_2
            try clear hcz261_3
            try clear hcz270_0
            try clear hcz270_1
            try clear hcz277_0
            try clear hcz277_1
            try clear hcz27_0
            try clear hcz27_1
            try clear hcz27_2
            try clear hcz27_3
            try clear hcz284_0
            try clear hcz284_1
            try clear hcz284_2
            try clear hcz284_3
            try clear hcz289_0
            try clear hcz289_1
            try clear hcz289_2
            try clear hcz289_3
            try clear hcz298_0
            try clear hcz298_1
            try clear hcz29_0
            try clear hcz29_1
            try clear hcz305_0
            try clear hcz305_1
            try clear hcz36_0
            try clear hcz36_1
            try clear hcz38_0
            try clear hcz38_1
            try clear hcz48_0
            try clear hcz48_1
            try clear hcz54_0
            try clear hcz54_1
            try clear hcz54_2
            try clear hcz54_3
            try clear hcz5_0
            try clear hcz5_1
            try clear hcz65_0
            try clear hcz65_1
            try clear hcz70_0
            try clear hcz70_1
            try clear hcz75_0
            try clear hcz75_1
            try clear hcz75_2
            try clear hcz75_3
            try clear hcz78_0
            try clear hcz78_1
            try clear hcz78_2
            try clear hcz78_3
            try clear hcz85_0
            try clear hcz85_1
            try clear hcz90_0
            try clear hcz90_1
            try clear hcz95_0
            try clear hcz95_1
            try clear hcz95_2
            try clear hcz95_3
            try clear hcz98_0
            try clear hcz98_1
            try clear hcz98_2
            try clear hcz98_3
            try clear hfz105_0
            try clear hfz105_1
            try clear hfz110_0
            try clear hfz110_1
            try clear hfz127_0
            try clear hfz127_1
            try clear hfz139_0
            try clear hfz139_1
            try clear hfz13_0
            try clear hfz13_1
            try clear hfz144_0
            try clear hfz144_1
            try clear hfz149_0
            try clear hfz149_1
            try clear hfz149_2
            try clear hfz149_3
            try clear hfz152_0
            try clear hfz152_1
            try clear hfz152_2
            try clear hfz152_3
            try clear hfz159_0
            try clear hfz159_1
            try clear hfz15_0
            try clear hfz15_1
            try clear hfz164_0
            try clear hfz164_1
            try clear hfz169_0
            try clear hfz169_1
            try clear hfz169_2
            try clear hfz169_3
            try clear hfz172_0
            try clear hfz172_1
            try clear hfz172_2
            try clear hfz172_3
            try clear hfz179_0
            try clear hfz179_1
            try clear hfz184_0
            try clear hfz184_1
            try clear hfz199_0
            try clear hfz199_1
            try clear hfz201_0
            try clear hfz201_1
            try clear hfz207_0
            try clear hfz207_1
            try clear hfz221_0
            try clear hfz221_1
            try clear hfz229_0
            try clear hfz229_1
            try clear hfz229_2
            try clear hfz229_3
            try clear hfz242_0
            try clear hfz242_1
            try clear hfz249_0
            try clear hfz249_1
            try clear hfz24_0
            try clear hfz24_1
            try clear hfz256_0
            try clear hfz256_1
            try clear hfz256_2
            try clear hfz256_3
            try clear hfz261_0
            try clear hfz261_1
            try clear hfz261_2
            try clear hfz261_3
            try clear hfz270_0
            try clear hfz270_1
            try clear hfz277_0
            try clear hfz277_1
            try clear hfz27_0
            try clear hfz27_1
            try clear hfz27_2
            try clear hfz27_3
            try clear hfz284_0
            try clear hfz284_1
            try clear hfz284_2
            try clear hfz284_3
            try clear hfz289_0
            try clear hfz289_1
            try clear hfz289_2
            try clear hfz289_3
            try clear hfz298_0
            try clear hfz298_1
            try clear hfz29_0
            try clear hfz29_1
            try clear hfz305_0
            try clear hfz305_1
            try clear hfz36_0
            try clear hfz36_1
            try clear hfz38_0
            try clear hfz38_1
            try clear hfz48_0
            try clear hfz48_1
            try clear hfz54_0
            try clear hfz54_1
            try clear hfz54_2
            try clear hfz54_3
            try clear hfz5_0
            try clear hfz5_1
            try clear hfz65_0
            try clear hfz65_1
            try clear hfz70_0
            try clear hfz70_1
            try clear hfz75_0
            try clear hfz75_1
            try clear hfz75_2
            try clear hfz75_3
            try clear hfz78_0
            try clear hfz78_1
            try clear hfz78_2
            try clear hfz78_3
            try clear hfz85_0
            try clear hfz85_1
            try clear hfz90_0
            try clear hfz90_1
            try clear hfz95_0
            try clear hfz95_1
            try clear hfz95_2
            try clear hfz95_3
            try clear hfz98_0
            try clear hfz98_1
            try clear hfz98_2
            try clear hfz98_3
            try clear p2
            obtain ⟨kq, x111_192, rfl, HA, HJ192, HO_427000, HO_433000, HO_443000, HO_472000, BK411, BK426, BK427, BK432, BK442, BK443, BK471, BK472, HB⟩ := hcut
            have hl443000_192 := (Kd.R_reads' HO_443000.out).1
            rw [hl443000_192] at HO_443000
            (try simp only [hl443000_192])
            (try simp only [hl443000_192] at BK411)
            (try simp only [hl443000_192] at BK426)
            (try simp only [hl443000_192] at BK427)
            (try simp only [hl443000_192] at BK432)
            (try simp only [hl443000_192] at BK442)
            (try simp only [hl443000_192] at BK443)
            (try simp only [hl443000_192] at BK471)
            (try simp only [hl443000_192] at BK472)
            (try simp only [hl443000_192] at HO_427000)
            (try simp only [hl443000_192] at HO_433000)
            (try simp only [hl443000_192] at HO_472000)
            cases kq with
            | zero => exact absurd HA.out (by simp [laws_FnExactTakeNext.j2])
            | succ kj192 =>
             have H := HA.out
             clear HA
             simp only [laws_FnExactTakeNext.j2] at H
             by_cases c307 : x111_192 = true
             ·
              subst c307
              have H1 : (some false) = some r := by rw [if_pos rfl] at H; exact H
              clear H
              have H := H1
              clear H1
              exact absurd ((Option.some.inj H).trans hT.out) (by decide)
             ·
              replace c307 := Bool.eq_false_iff.mpr c307
              subst c307
              have H1 : ((laws_heldDecoder.f kj192 t456 t436 1).bind fun t475 => (if t475 < 0 then (some false) else (if t475 = t455 then (some true) else (some false)))) = some r := by rw [if_neg (show ¬ (false = true) by decide)] at H; exact H
              clear H
              have H := H1
              clear H1
              replace H := Option.bind_eq_some_iff.mp H
              obtain ⟨t475, A3080, H⟩ := H
              replace H : (if t475 < 0 then (some false) else (if t475 = t455 then (some true) else (some false))) = some r := H
              have A308 := Aside0.mk A3080
              clear A3080
              by_cases c309 : t475 < 0
              ·
               rw [if_pos c309] at H
               have c309b0 : decide (t475 < 0) = true := decide_eq_true c309
               clear c309
               exact absurd ((Option.some.inj H).trans hT.out) (by decide)
              ·
               rw [if_neg c309] at H
               have c309b0 : decide (t475 < 0) = false := decide_eq_false c309
               clear c309
               by_cases c310 : t475 = t455
               ·
                rw [if_pos c310] at H
                have c310b0 : (t475 == t455) = true := beq_iff_eq.mpr c310
                have c310b1 : (t475 != t455) = false := bne_eq_false_iff_eq.mpr c310
                clear c310
                obtain rfl := Option.some.inj H
                have hnb311 := NB442_411.out
                have hnc311 := NB411_442.out
                have hnb312 := NB442_426.out
                have hnc312 := NB426_442.out
                have hnb313 := NB442_427.out
                have hnc313 := NB427_442.out
                have hnb314 := NB442_432.out
                have hnc314 := NB432_442.out
                have hnb315 := NB442_443.out
                have hnc315 := NB443_442.out
                have hnb316 := NB442_471.out
                have hnc316 := NB471_442.out
                have hnb317 := NB442_472.out
                have hnc317 := NB472_442.out
                have hcz318_0 := cb_ BK442.out 0 rfl
                have hcz318_1 := cb_ BK442.out 1 rfl
                have hfz318_0 := blk_frozen BK442.out 0
                have hfz318_1 := blk_frozen BK442.out 1
                go_wp2_with (first | ((with_reducible refine gate_callee (f := 81) rfl ?_); refine goesL_ (some 114) rfl rfl Try.func81 (by kernel_rfl) rfl #[.agg #[.slice Ao42 t456.length co42, .bool t436], .int .i64 1] rfl ul_ ?_; (with_reducible refine (laws_heldDecoder.calls kj192 _ _ t456 t436 1 t475 _ ?side1 ?side2 A308.out).mono ?_); (case side1 => repeat (first | exact (Kd.R_reads' HO_443000.out).2.2 | (with_reducible refine Kd.C_alloc ?_ _) | (with_reducible refine Kd.C_drewN ?_ _) | (with_reducible refine Kd.C_drew ?_))); (case side2 => exact (Kd.R_reads' HO_443000.out).2.1); rintro e w319 ⟨rfl, hb⟩; refine ⟨_, rfl, ?_⟩; have n0_ := am_ (Kd.R_below (ur_ HO_427000.out) hb); have n1_ := am_ (Kd.R_below (ur_ HO_433000.out) hb); have n2_ := am_ (Kd.R_below (ur_ HO_443000.out) hb); have n3_ := am_ (Kd.R_below (ur_ HO_472000.out) hb); have n4_ := am_ (bb_ BK411.out hb); have n5_ := am_ (bb_ BK426.out hb); have n6_ := am_ (bb_ BK427.out hb); have n7_ := am_ (bb_ BK432.out hb); have n8_ := am_ (bb_ BK442.out hb); have n9_ := am_ (bb_ BK443.out hb); have n10_ := am_ (bb_ BK471.out hb); have n11_ := am_ (bb_ BK472.out hb); have n12_ := am_ (below_step (ue_ HB.out) hb); clear HO_427000 HO_433000 HO_443000 HO_472000 BK411 BK426 BK427 BK432 BK442 BK443 BK471 BK472 HB; have HO_427000 := n0_; have HO_433000 := n1_; have HO_443000 := n2_; have HO_472000 := n3_; have BK411 := n4_; have BK426 := n5_; have BK427 := n6_; have BK432 := n7_; have BK442 := n8_; have BK443 := n9_; have BK471 := n10_; have BK472 := n11_; have HB := n12_; clear n0_ n1_ n2_ n3_ n4_ n5_ n6_ n7_ n8_ n9_ n10_ n11_ n12_; (try clear hb); (try clear hb2); (try clear hk); (try clear hi)))
                go_ret
                exact ⟨ew_, ue_ HB.out⟩
               ·
                rw [if_neg c310] at H
                have c310b0 : (t475 == t455) = false := beq_eq_false_iff_ne.mpr c310
                have c310b1 : (t475 != t455) = true := bne_iff_ne.mpr c310
                exact absurd ((Option.some.inj H).trans hT.out) (by decide)
          ·
           rw [if_neg c190] at H
           have c190b0 : (t457 == t455) = false := beq_eq_false_iff_ne.mpr c190
           have c190b1 : (t457 != t455) = true := bne_iff_ne.mpr c190
           exact absurd ((Option.some.inj H).trans hT.out) (by decide)
     ·
      replace c115 := Bool.eq_false_iff.mpr c115
      subst c115
      have H1 : (some false) = some r := by rw [if_neg (show ¬ (false = true) by decide)] at H; exact H
      clear H
      have H := H1
      clear H1
      exact absurd ((Option.some.inj H).trans hT.out) (by decide)

end Go.Proofs.Ytcflalomjehiiaa.QFnExactTakeNext
