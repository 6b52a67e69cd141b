/- The machine side of a law: Lean functions with the Go functions' answers and the walks that show it. No condition. -/
import Derived.Test.YtcflalomjehiiaaQFnExactRaiseMarkx0
import Derived.Test.YtcflalomjehiiaaQFnExactRaiseMarkx1
import Derived.Test.YtcflalomjehiiaaQFnExactRaiseMarkx3
import Derived.Test.YtcflalomjehiiaaQFnExactRaiseMarkx5
import Derived.Test.YtcflalomjehiiaaQFnExactRaiseMarkx6
namespace Go.Proofs.Ytcflalomjehiiaa.QFnExactRaiseMark
open Go.RowKit Go.Proofs.YtcflalomjehiiaaW.PrintWords Go.Proofs.YtcflalomjehiiaaW.PrintLast Go.Proofs.YtcflalomjehiiaaW.PrintMore
attribute [local go_sem] max2_int min2_int max_two min_two max_three min_three max_four min_four   -- for this text's walks alone
set_option linter.unusedVariables false
set_option linter.unusedSimpArgs false

/-! ### laws_FnExactRaiseMark: function 4 -/
mutual
def laws_FnExactRaiseMark.j0 : Nat → Int → Bool → Bool → Bool → List (S152) → Int → Int → Int → List (S80) → Int → Int → Int → List (S80) → Int → Int → Int → List (S80) → Int → Int → Int → Option (Bool)
 | 0, _, _, _, _, _, _, _, _, _, _, _, _, _, _, _, _, _, _, _, _ => none
 | k + 1, x1, x7, x10, x44, x244000, x244001, x244002, x244003, x259000, x259001, x259002, x259003, x266000, x266001, x266002, x266003, x274000, x274001, x274002, x274003 => if x44 = true then (some false) else ((laws_toShard.f k x244000 x244001 x244002 x244003).bind fun bt275 => ((laws_eqShard.f k x266000 x266001 x266002 x266003 bt275.1 bt275.2.1 bt275.2.2.1 bt275.2.2.2).bind fun t281 => (if t281 = true then ((laws_markShard.f k x266000 x266001 x266002 x266003 1).bind fun bt282 => (if bt282.1 < 0 then (laws_FnExactRaiseMark.j1 k x1 x7 true x244000 x244001 x244002 x244003 x259000 x259001 x259002 x259003 x274000 x274001 x274002 x274003) else ((laws_eqShard.f k x274000 x274001 x274002 x274003 x259000 x259001 x259002 x259003).bind fun t284 => (if t284 = true then (laws_FnExactRaiseMark.j1 k x1 x7 (x10 != x7) x244000 x244001 x244002 x244003 x259000 x259001 x259002 x259003 x274000 x274001 x274002 x274003) else (laws_FnExactRaiseMark.j1 k x1 x7 true x244000 x244001 x244002 x244003 x259000 x259001 x259002 x259003 x274000 x274001 x274002 x274003))))) else (some false))))
def laws_FnExactRaiseMark.j1 : Nat → Int → Bool → Bool → List (S152) → Int → Int → Int → List (S80) → Int → Int → Int → List (S80) → Int → Int → Int → Option (Bool)
 | 0, _, _, _, _, _, _, _, _, _, _, _, _, _, _, _ => none
 | k + 1, x1, x7, x65, x244000, x244001, x244002, x244003, x259000, x259001, x259002, x259003, x274000, x274001, x274002, x274003 => if x65 = true then (some false) else ((laws_markShard.f k x274000 x274001 x274002 x274003 1).bind fun bt285 => ((laws_heldShard.f k bt285.2 x274001 x274002 x274003 1).bind fun t287 => (if t287 < 0 then (some false) else (if t287 = bt285.1 then ((laws_toShard.f k x244000 x244001 x244002 x244003).bind fun bt288 => ((impl_RaiseMark.f k bt288.1 bt288.2.1 bt288.2.2.1 bt288.2.2.2 x1).bind fun bt294 => ((laws_eqShard.f k bt294.1 bt294.2.1 bt294.2.2.1 bt294.2.2.2.1 x259000 x259001 x259002 x259003).bind fun t302 => (if t302 = true then (laws_FnExactRaiseMark.j2 k bt285.1 (bt294.2.2.2.2 != x7) bt285.2 x274001 x274002 x274003) else (laws_FnExactRaiseMark.j2 k bt285.1 true bt285.2 x274001 x274002 x274003))))) else (some false)))))
def laws_FnExactRaiseMark.j2 : Nat → Int → Bool → List (S80) → Int → Int → Int → Option (Bool)
 | 0, _, _, _, _, _, _ => none
 | k + 1, x12, x92, x274000, x274001, x274002, x274003 => if x92 = true then (some false) else ((laws_heldShard.f k x274000 x274001 x274002 x274003 1).bind fun t303 => (if t303 < 0 then (some false) else (if t303 = x12 then (some true) else (some false))))
end
def laws_FnExactRaiseMark.f (k : Nat) (l0_0 : List (S152)) (a0_1 : Int) (a0_2 : Int) (a0_3 : Int) (a1 : Int) : Option (Bool) := (laws_szShard.f l0_0 a0_1 a0_2 a0_3 1048576).bind fun t244 => (if t244 < 0 then (some true) else ((laws_toShard.f k l0_0 a0_1 a0_2 a0_3).bind fun bt245 => ((spec_RaiseMark.f k bt245.1 bt245.2.1 bt245.2.2.1 bt245.2.2.2 a1).bind fun bt251 => ((laws_toShard.f k l0_0 a0_1 a0_2 a0_3).bind fun bt259 => ((impl_RaiseMark.f k bt259.1 bt259.2.1 bt259.2.2.1 bt259.2.2.2 a1).bind fun bt266 => ((laws_eqShard.f k bt266.1 bt266.2.1 bt266.2.2.1 bt266.2.2.2.1 bt251.1 bt251.2.1 bt251.2.2.1 bt251.2.2.2.1).bind fun t274 => (if t274 = true then (laws_FnExactRaiseMark.j0 k a1 bt251.2.2.2.2 bt266.2.2.2.2 (bt266.2.2.2.2 != bt251.2.2.2.2) l0_0 a0_1 a0_2 a0_3 bt251.1 bt251.2.1 bt251.2.2.1 bt251.2.2.2.1 bt259.1 bt259.2.1 bt259.2.2.1 bt259.2.2.2 bt266.1 bt266.2.1 bt266.2.2.1 bt266.2.2.2.1) else (laws_FnExactRaiseMark.j0 k a1 bt251.2.2.2.2 bt266.2.2.2.2 true l0_0 a0_1 a0_2 a0_3 bt251.1 bt251.2.1 bt251.2.2.1 bt251.2.2.2.1 bt259.1 bt259.2.1 bt259.2.2.1 bt259.2.2.2 bt266.1 bt266.2.1 bt266.2.2.1 bt266.2.2.2.1))))))))
theorem laws_FnExactRaiseMark.mono_l : ∀ k, (∀ y0 y1 y2 y3 y4 y5 y6 y7 y8 y9 y10 y11 y12 y13 y14 y15 y16 y17 y18 y19, LeO (laws_FnExactRaiseMark.j0 k y0 y1 y2 y3 y4 y5 y6 y7 y8 y9 y10 y11 y12 y13 y14 y15 y16 y17 y18 y19) (laws_FnExactRaiseMark.j0 (k + 1) y0 y1 y2 y3 y4 y5 y6 y7 y8 y9 y10 y11 y12 y13 y14 y15 y16 y17 y18 y19)) ∧ (∀ y0 y1 y2 y3 y4 y5 y6 y7 y8 y9 y10 y11 y12 y13 y14, LeO (laws_FnExactRaiseMark.j1 k y0 y1 y2 y3 y4 y5 y6 y7 y8 y9 y10 y11 y12 y13 y14) (laws_FnExactRaiseMark.j1 (k + 1) y0 y1 y2 y3 y4 y5 y6 y7 y8 y9 y10 y11 y12 y13 y14)) ∧ (∀ y0 y1 y2 y3 y4 y5, LeO (laws_FnExactRaiseMark.j2 k y0 y1 y2 y3 y4 y5) (laws_FnExactRaiseMark.j2 (k + 1) y0 y1 y2 y3 y4 y5))
 | 0 => ⟨fun _ _ _ _ _ _ _ _ _ _ _ _ _ _ _ _ _ _ _ _ r h => by simp [laws_FnExactRaiseMark.j0] at h, fun _ _ _ _ _ _ _ _ _ _ _ _ _ _ _ r h => by simp [laws_FnExactRaiseMark.j1] at h, fun _ _ _ _ _ _ r h => by simp [laws_FnExactRaiseMark.j2] at h⟩
 | k + 1 => by
  obtain ⟨ih0, ih1, ih2⟩ := laws_FnExactRaiseMark.mono_l k
  refine ⟨?_, ?_, ?_⟩
  ·
   intro y0 y1 y2 y3 y4 y5 y6 y7 y8 y9 y10 y11 y12 y13 y14 y15 y16 y17 y18 y19
   unfold laws_FnExactRaiseMark.j0
   repeat' first
   | (with_reducible exact ih0 _ _ _ _ _ _ _ _ _ _ _ _ _ _ _ _ _ _ _ _)
   | (with_reducible exact ih1 _ _ _ _ _ _ _ _ _ _ _ _ _ _ _)
   | (with_reducible exact ih2 _ _ _ _ _ _)
   | (with_reducible exact impl_RaiseMark.mono _ _ _ _ _ _)
   | (with_reducible exact laws_eqShard.mono _ _ _ _ _ _ _ _ _)
   | (with_reducible exact laws_heldShard.mono _ _ _ _ _ _)
   | (with_reducible exact laws_markShard.mono _ _ _ _ _ _)
   | (with_reducible exact laws_toShard.mono _ _ _ _ _)
   | (with_reducible exact spec_RaiseMark.mono _ _ _ _ _ _)
   | (with_reducible exact LeO.refl _)
   | (with_reducible exact LeO.none _)
   | (with_reducible refine LeO.ite ?_ ?_)
   | (with_reducible refine LeO.bind ?_ (fun _ => ?_))
   | exact ih0 _ _ _ _ _ _ _ _ _ _ _ _ _ _ _ _ _ _ _ _
   | exact ih1 _ _ _ _ _ _ _ _ _ _ _ _ _ _ _
   | exact ih2 _ _ _ _ _ _
   | exact impl_RaiseMark.mono _ _ _ _ _ _
   | exact laws_eqShard.mono _ _ _ _ _ _ _ _ _
   | exact laws_heldShard.mono _ _ _ _ _ _
   | exact laws_markShard.mono _ _ _ _ _ _
   | exact laws_toShard.mono _ _ _ _ _
   | exact spec_RaiseMark.mono _ _ _ _ _ _
   | exact LeO.none _
   | refine LeO.ite ?_ ?_
   | refine LeO.bind ?_ (fun _ => ?_)
  ·
   intro y0 y1 y2 y3 y4 y5 y6 y7 y8 y9 y10 y11 y12 y13 y14
   unfold laws_FnExactRaiseMark.j1
   repeat' first
   | (with_reducible exact ih0 _ _ _ _ _ _ _ _ _ _ _ _ _ _ _ _ _ _ _ _)
   | (with_reducible exact ih1 _ _ _ _ _ _ _ _ _ _ _ _ _ _ _)
   | (with_reducible exact ih2 _ _ _ _ _ _)
   | (with_reducible exact impl_RaiseMark.mono _ _ _ _ _ _)
   | (with_reducible exact laws_eqShard.mono _ _ _ _ _ _ _ _ _)
   | (with_reducible exact laws_heldShard.mono _ _ _ _ _ _)
   | (with_reducible exact laws_markShard.mono _ _ _ _ _ _)
   | (with_reducible exact laws_toShard.mono _ _ _ _ _)
   | (with_reducible exact spec_RaiseMark.mono _ _ _ _ _ _)
   | (with_reducible exact LeO.refl _)
   | (with_reducible exact LeO.none _)
   | (with_reducible refine LeO.ite ?_ ?_)
   | (with_reducible refine LeO.bind ?_ (fun _ => ?_))
   | exact ih0 _ _ _ _ _ _ _ _ _ _ _ _ _ _ _ _ _ _ _ _
   | exact ih1 _ _ _ _ _ _ _ _ _ _ _ _ _ _ _
   | exact ih2 _ _ _ _ _ _
   | exact impl_RaiseMark.mono _ _ _ _ _ _
   | exact laws_eqShard.mono _ _ _ _ _ _ _ _ _
   | exact laws_heldShard.mono _ _ _ _ _ _
   | exact laws_markShard.mono _ _ _ _ _ _
   | exact laws_toShard.mono _ _ _ _ _
   | exact spec_RaiseMark.mono _ _ _ _ _ _
   | exact LeO.none _
   | refine LeO.ite ?_ ?_
   | refine LeO.bind ?_ (fun _ => ?_)
  ·
   intro y0 y1 y2 y3 y4 y5
   unfold laws_FnExactRaiseMark.j2
   repeat' first
   | (with_reducible exact ih0 _ _ _ _ _ _ _ _ _ _ _ _ _ _ _ _ _ _ _ _)
   | (with_reducible exact ih1 _ _ _ _ _ _ _ _ _ _ _ _ _ _ _)
   | (with_reducible exact ih2 _ _ _ _ _ _)
   | (with_reducible exact impl_RaiseMark.mono _ _ _ _ _ _)
   | (with_reducible exact laws_eqShard.mono _ _ _ _ _ _ _ _ _)
   | (with_reducible exact laws_heldShard.mono _ _ _ _ _ _)
   | (with_reducible exact laws_markShard.mono _ _ _ _ _ _)
   | (with_reducible exact laws_toShard.mono _ _ _ _ _)
   | (with_reducible exact spec_RaiseMark.mono _ _ _ _ _ _)
   | (with_reducible exact LeO.refl _)
   | (with_reducible exact LeO.none _)
   | (with_reducible refine LeO.ite ?_ ?_)
   | (with_reducible refine LeO.bind ?_ (fun _ => ?_))
   | exact ih0 _ _ _ _ _ _ _ _ _ _ _ _ _ _ _ _ _ _ _ _
   | exact ih1 _ _ _ _ _ _ _ _ _ _ _ _ _ _ _
   | exact ih2 _ _ _ _ _ _
   | exact impl_RaiseMark.mono _ _ _ _ _ _
   | exact laws_eqShard.mono _ _ _ _ _ _ _ _ _
   | exact laws_heldShard.mono _ _ _ _ _ _
   | exact laws_markShard.mono _ _ _ _ _ _
   | exact laws_toShard.mono _ _ _ _ _
   | exact spec_RaiseMark.mono _ _ _ _ _ _
   | exact LeO.none _
   | refine LeO.ite ?_ ?_
   | refine LeO.bind ?_ (fun _ => ?_)
theorem laws_FnExactRaiseMark.mono : ∀ a0 a1 a2 a3 a4 k, LeO (laws_FnExactRaiseMark.f k a0 a1 a2 a3 a4) (laws_FnExactRaiseMark.f (k + 1) a0 a1 a2 a3 a4) := by
 intro a0 a1 a2 a3 a4 k
 obtain ⟨ih0, ih1, ih2⟩ := laws_FnExactRaiseMark.mono_l k
 unfold laws_FnExactRaiseMark.f
 repeat' first
   | (with_reducible exact ih0 _ _ _ _ _ _ _ _ _ _ _ _ _ _ _ _ _ _ _ _)
   | (with_reducible exact ih1 _ _ _ _ _ _ _ _ _ _ _ _ _ _ _)
   | (with_reducible exact ih2 _ _ _ _ _ _)
   | (with_reducible exact impl_RaiseMark.mono _ _ _ _ _ _)
   | (with_reducible exact laws_eqShard.mono _ _ _ _ _ _ _ _ _)
   | (with_reducible exact laws_heldShard.mono _ _ _ _ _ _)
   | (with_reducible exact laws_markShard.mono _ _ _ _ _ _)
   | (with_reducible exact laws_toShard.mono _ _ _ _ _)
   | (with_reducible exact spec_RaiseMark.mono _ _ _ _ _ _)
   | (with_reducible exact LeO.refl _)
   | (with_reducible exact LeO.none _)
   | (with_reducible refine LeO.ite ?_ ?_)
   | (with_reducible refine LeO.bind ?_ (fun _ => ?_))
   | exact ih0 _ _ _ _ _ _ _ _ _ _ _ _ _ _ _ _ _ _ _ _
   | exact ih1 _ _ _ _ _ _ _ _ _ _ _ _ _ _ _
   | exact ih2 _ _ _ _ _ _
   | exact impl_RaiseMark.mono _ _ _ _ _ _
   | exact laws_eqShard.mono _ _ _ _ _ _ _ _ _
   | exact laws_heldShard.mono _ _ _ _ _ _
   | exact laws_markShard.mono _ _ _ _ _ _
   | exact laws_toShard.mono _ _ _ _ _
   | exact spec_RaiseMark.mono _ _ _ _ _ _
   | exact LeO.none _
   | refine LeO.ite ?_ ?_
   | refine LeO.bind ?_ (fun _ => ?_)
set_option maxHeartbeats 8000000 in
set_option maxRecDepth 100000 in
theorem laws_FnExactRaiseMark.calls (k : Nat) (A0_0 : Option Addr) (c0_0 : Nat) (l0_0 : List (S152)) (a0_1 : Int) (a0_2 : Int) (a0_3 : Int) (a1 : Int) (r : Bool) (w : World) (hr0_0 : Kd.C k152 w A0_0 l0_0.length l0_0) (hc0_0 : l0_0.length ≤ c0_0) (hT : Aside0 (r = true)) (h : laws_FnExactRaiseMark.f k l0_0 a0_1 a0_2 a0_3 a1 = some r) :
  Calls Try.prog 4 #[.agg #[.slice A0_0 l0_0.length c0_0, .int .i64 a0_1, .int .i64 a0_2, .int .i64 a0_3], .int .i64 a1] w fun e w' => e = .returned (.bool r) ∧ Below w.heap.size w w' := by
 have hu38 := Try.underlying38
 have hu42 := Try.underlying42
 have HR0_0 := Aside0.mk hr0_0
 have HC0_0 := Aside0.mk hc0_0
 clear hr0_0 hc0_0
 have HB := am_ (Below.refl w.heap.size w)
 have H : ((laws_szShard.f l0_0 a0_1 a0_2 a0_3 1048576).bind fun t244 => (if t244 < 0 then (some true) else ((laws_toShard.f k l0_0 a0_1 a0_2 a0_3).bind fun bt245 => ((spec_RaiseMark.f k bt245.1 bt245.2.1 bt245.2.2.1 bt245.2.2.2 a1).bind fun bt251 => ((laws_toShard.f k l0_0 a0_1 a0_2 a0_3).bind fun bt259 => ((impl_RaiseMark.f k bt259.1 bt259.2.1 bt259.2.2.1 bt259.2.2.2 a1).bind fun bt266 => ((laws_eqShard.f k bt266.1 bt266.2.1 bt266.2.2.1 bt266.2.2.2.1 bt251.1 bt251.2.1 bt251.2.2.1 bt251.2.2.2.1).bind fun t274 => (if t274 = true then (laws_FnExactRaiseMark.j0 k a1 bt251.2.2.2.2 bt266.2.2.2.2 (bt266.2.2.2.2 != bt251.2.2.2.2) l0_0 a0_1 a0_2 a0_3 bt251.1 bt251.2.1 bt251.2.2.1 bt251.2.2.2.1 bt259.1 bt259.2.1 bt259.2.2.1 bt259.2.2.2 bt266.1 bt266.2.1 bt266.2.2.1 bt266.2.2.2.1) else (laws_FnExactRaiseMark.j0 k a1 bt251.2.2.2.2 bt266.2.2.2.2 true l0_0 a0_1 a0_2 a0_3 bt251.1 bt251.2.1 bt251.2.2.1 bt251.2.2.2.1 bt259.1 bt259.2.1 bt259.2.2.1 bt259.2.2.2 bt266.1 bt266.2.1 bt266.2.2.1 bt266.2.2.2.1))))))))) = some r := h
 clear h
 replace H := Option.bind_eq_some_iff.mp H
 obtain ⟨t244, A30, H⟩ := H
 replace H : (if t244 < 0 then (some true) else ((laws_toShard.f k l0_0 a0_1 a0_2 a0_3).bind fun bt245 => ((spec_RaiseMark.f k bt245.1 bt245.2.1 bt245.2.2.1 bt245.2.2.2 a1).bind fun bt251 => ((laws_toShard.f k l0_0 a0_1 a0_2 a0_3).bind fun bt259 => ((impl_RaiseMark.f k bt259.1 bt259.2.1 bt259.2.2.1 bt259.2.2.2 a1).bind fun bt266 => ((laws_eqShard.f k bt266.1 bt266.2.1 bt266.2.2.1 bt266.2.2.2.1 bt251.1 bt251.2.1 bt251.2.2.1 bt251.2.2.2.1).bind fun t274 => (if t274 = true then (laws_FnExactRaiseMark.j0 k a1 bt251.2.2.2.2 bt266.2.2.2.2 (bt266.2.2.2.2 != bt251.2.2.2.2) l0_0 a0_1 a0_2 a0_3 bt251.1 bt251.2.1 bt251.2.2.1 bt251.2.2.2.1 bt259.1 bt259.2.1 bt259.2.2.1 bt259.2.2.2 bt266.1 bt266.2.1 bt266.2.2.1 bt266.2.2.2.1) else (laws_FnExactRaiseMark.j0 k a1 bt251.2.2.2.2 bt266.2.2.2.2 true l0_0 a0_1 a0_2 a0_3 bt251.1 bt251.2.1 bt251.2.2.1 bt251.2.2.2.1 bt259.1 bt259.2.1 bt259.2.2.1 bt259.2.2.2 bt266.1 bt266.2.1 bt266.2.2.1 bt266.2.2.2.1)))))))) = some r := H
 have A3 := Aside0.mk A30
 clear A30
 by_cases c4 : t244 < 0
 ·
  rw [if_pos c4] at H
  have c4b0 : decide (t244 < 0) = true := decide_eq_true c4
  clear c4
  obtain rfl := Option.some.inj H
  go_enter Try.func4, Try.ntmps4
  go_wp2_with (first | ((with_reducible refine gate_dst (N := 2) rfl ?_); refine box_event ?hg (N := 2) ?hd (cs := #[.slice A0_0 l0_0.length c0_0, .int .i64 a0_1, .int .i64 a0_2, .int .i64 a0_3]) (t := 38) ?hr ?_; (case hd => rfl); (case hg => rfl); (case hr => first | (go_simp; done) | (go_simp; rfl)); intro gb243 hg w5 hbox hb; have n0_ := am_ (below_step (ue_ HB.out) hb); have n1_ := am_ (hbox); have n2_ := am_ ((by rw [hg]; exact (below_size (ue_ HB.out)) : w.heap.size ≤ gb243)); have n3_ := am_ ((by rw [hg]; exact (below_size (ue_ HB.out)) : w.heap.size ≤ gb243)); clear HB; have HB := n0_; have BK243 := n1_; have GW243 := n2_; have GE243 := n3_; clear n0_ n1_ n2_ n3_; clear hb hbox hg; obtain ⟨hcz6_0, hcz6_1, hcz6_2, hcz6_3⟩ := cb4_ BK243.out; obtain ⟨hfz6_0, hfz6_1, hfz6_2⟩ := bf3_ BK243.out; have hfz6_3 := blk_frozen BK243.out 3) | ((with_reducible refine gate_callee (f := 24) rfl ?_); refine goesL_ (some 18) rfl rfl Try.func24 (by kernel_rfl) rfl #[.agg #[.slice A0_0 l0_0.length c0_0, .int .i64 a0_1, .int .i64 a0_2, .int .i64 a0_3], .int .i64 1048576] rfl ul_ ?_; (with_reducible refine (laws_szShard.calls _ _ l0_0 a0_1 a0_2 a0_3 1048576 t244 _ ?side1 ?side2 A3.out).mono ?_); (case side1 => repeat (first | exact (Kd.C_below HR0_0.out HB.out) | (with_reducible refine Kd.C_alloc ?_ _) | (with_reducible refine Kd.C_drewN ?_ _) | (with_reducible refine Kd.C_drew ?_))); (case side2 => exact HC0_0.out); rintro e w7 ⟨rfl, hb⟩; refine ⟨_, rfl, ?_⟩; have n0_ := am_ (bb_ BK243.out hb); have n1_ := am_ (below_step (ue_ HB.out) hb); clear BK243 HB; have BK243 := n0_; have HB := n1_; clear n0_ n1_; (try clear hb); (try clear hb2); (try clear hk); (try clear hi)))
  go_ret
  exact ⟨ew_, ue_ HB.out⟩
 ·
  rw [if_neg c4] at H
  have c4b0 : decide (t244 < 0) = false := decide_eq_false c4
  clear c4
  replace H := Option.bind_eq_some_iff.mp H
  obtain ⟨⟨t245, t248, t249, t250⟩, A80, H⟩ := H
  replace H : ((spec_RaiseMark.f k t245 t248 t249 t250 a1).bind fun bt251 => ((laws_toShard.f k l0_0 a0_1 a0_2 a0_3).bind fun bt259 => ((impl_RaiseMark.f k bt259.1 bt259.2.1 bt259.2.2.1 bt259.2.2.2 a1).bind fun bt266 => ((laws_eqShard.f k bt266.1 bt266.2.1 bt266.2.2.1 bt266.2.2.2.1 bt251.1 bt251.2.1 bt251.2.2.1 bt251.2.2.2.1).bind fun t274 => (if t274 = true then (laws_FnExactRaiseMark.j0 k a1 bt251.2.2.2.2 bt266.2.2.2.2 (bt266.2.2.2.2 != bt251.2.2.2.2) l0_0 a0_1 a0_2 a0_3 bt251.1 bt251.2.1 bt251.2.2.1 bt251.2.2.2.1 bt259.1 bt259.2.1 bt259.2.2.1 bt259.2.2.2 bt266.1 bt266.2.1 bt266.2.2.1 bt266.2.2.2.1) else (laws_FnExactRaiseMark.j0 k a1 bt251.2.2.2.2 bt266.2.2.2.2 true l0_0 a0_1 a0_2 a0_3 bt251.1 bt251.2.1 bt251.2.2.1 bt251.2.2.2.1 bt259.1 bt259.2.1 bt259.2.2.1 bt259.2.2.2 bt266.1 bt266.2.1 bt266.2.2.1 bt266.2.2.2.1)))))) = some r := H
  have A8 := Aside0.mk A80
  clear A80
  replace H := Option.bind_eq_some_iff.mp H
  obtain ⟨⟨t251, t254, t255, t256, t257⟩, A90, H⟩ := H
  replace H : ((laws_toShard.f k l0_0 a0_1 a0_2 a0_3).bind fun bt259 => ((impl_RaiseMark.f k bt259.1 bt259.2.1 bt259.2.2.1 bt259.2.2.2 a1).bind fun bt266 => ((laws_eqShard.f k bt266.1 bt266.2.1 bt266.2.2.1 bt266.2.2.2.1 t251 t254 t255 t256).bind fun t274 => (if t274 = true then (laws_FnExactRaiseMark.j0 k a1 t257 bt266.2.2.2.2 (bt266.2.2.2.2 != t257) l0_0 a0_1 a0_2 a0_3 t251 t254 t255 t256 bt259.1 bt259.2.1 bt259.2.2.1 bt259.2.2.2 bt266.1 bt266.2.1 bt266.2.2.1 bt266.2.2.2.1) else (laws_FnExactRaiseMark.j0 k a1 t257 bt266.2.2.2.2 true l0_0 a0_1 a0_2 a0_3 t251 t254 t255 t256 bt259.1 bt259.2.1 bt259.2.2.1 bt259.2.2.2 bt266.1 bt266.2.1 bt266.2.2.1 bt266.2.2.2.1))))) = some r := H
  have A9 := Aside0.mk A90
  clear A90
  replace H := Option.bind_eq_some_iff.mp H
  obtain ⟨⟨t259, t262, t263, t264⟩, A100, H⟩ := H
  replace H : ((impl_RaiseMark.f k t259 t262 t263 t264 a1).bind fun bt266 => ((laws_eqShard.f k bt266.1 bt266.2.1 bt266.2.2.1 bt266.2.2.2.1 t251 t254 t255 t256).bind fun t274 => (if t274 = true then (laws_FnExactRaiseMark.j0 k a1 t257 bt266.2.2.2.2 (bt266.2.2.2.2 != t257) l0_0 a0_1 a0_2 a0_3 t251 t254 t255 t256 t259 t262 t263 t264 bt266.1 bt266.2.1 bt266.2.2.1 bt266.2.2.2.1) else (laws_FnExactRaiseMark.j0 k a1 t257 bt266.2.2.2.2 true l0_0 a0_1 a0_2 a0_3 t251 t254 t255 t256 t259 t262 t263 t264 bt266.1 bt266.2.1 bt266.2.2.1 bt266.2.2.2.1)))) = some r := H
  have A10 := Aside0.mk A100
  clear A100
  replace H := Option.bind_eq_some_iff.mp H
  obtain ⟨⟨t266, t269, t270, t271, t272⟩, A110, H⟩ := H
  replace H : ((laws_eqShard.f k t266 t269 t270 t271 t251 t254 t255 t256).bind fun t274 => (if t274 = true then (laws_FnExactRaiseMark.j0 k a1 t257 t272 (t272 != t257) l0_0 a0_1 a0_2 a0_3 t251 t254 t255 t256 t259 t262 t263 t264 t266 t269 t270 t271) else (laws_FnExactRaiseMark.j0 k a1 t257 t272 true l0_0 a0_1 a0_2 a0_3 t251 t254 t255 t256 t259 t262 t263 t264 t266 t269 t270 t271))) = some r := H
  have A11 := Aside0.mk A110
  clear A110
  have HC12 := Aside0.mk H
  clear H
  go_enter Try.func4, Try.ntmps4
  go_upto_region 8 with (first | ((with_reducible refine gate_dst (N := 2) rfl ?_); refine box_event ?hg (N := 2) ?hd (cs := #[.slice A0_0 l0_0.length c0_0, .int .i64 a0_1, .int .i64 a0_2, .int .i64 a0_3]) (t := 38) ?hr ?_; (case hd => rfl); (case hg => rfl); (case hr => first | (go_simp; done) | (go_simp; rfl)); intro gb243 hg w13 hbox hb; have n0_ := am_ (below_step (ue_ HB.out) hb); have n1_ := am_ (hbox); have n2_ := am_ ((by rw [hg]; exact (below_size (ue_ HB.out)) : w.heap.size ≤ gb243)); have n3_ := am_ ((by rw [hg]; exact (below_size (ue_ HB.out)) : w.heap.size ≤ gb243)); clear HB; have HB := n0_; have BK243 := n1_; have GW243 := n2_; have GE243 := n3_; clear n0_ n1_ n2_ n3_; clear hb hbox hg; obtain ⟨hcz14_0, hcz14_1, hcz14_2, hcz14_3⟩ := cb4_ BK243.out; obtain ⟨hfz14_0, hfz14_1, hfz14_2⟩ := bf3_ BK243.out; have hfz14_3 := blk_frozen BK243.out 3) | ((with_reducible refine gate_callee (f := 24) rfl ?_); refine goesL_ (some 18) rfl rfl Try.func24 (by kernel_rfl) rfl #[.agg #[.slice A0_0 l0_0.length c0_0, .int .i64 a0_1, .int .i64 a0_2, .int .i64 a0_3], .int .i64 1048576] rfl ul_ ?_; (with_reducible refine (laws_szShard.calls _ _ l0_0 a0_1 a0_2 a0_3 1048576 t244 _ ?side1 ?side2 A3.out).mono ?_); (case side1 => repeat (first | exact (Kd.C_below HR0_0.out HB.out) | (with_reducible refine Kd.C_alloc ?_ _) | (with_reducible refine Kd.C_drewN ?_ _) | (with_reducible refine Kd.C_drew ?_))); (case side2 => exact HC0_0.out); rintro e w15 ⟨rfl, hb⟩; refine ⟨_, rfl, ?_⟩; have n0_ := am_ (bb_ BK243.out hb); have n1_ := am_ (below_step (ue_ HB.out) hb); clear BK243 HB; have BK243 := n0_; have HB := n1_; clear n0_ n1_; (try clear hb); (try clear hb2); (try clear hk); (try clear hi); obtain ⟨hcz16_0, hcz16_1, hcz16_2, hcz16_3⟩ := cb4_ BK243.out; obtain ⟨hfz16_0, hfz16_1, hfz16_2⟩ := bf3_ BK243.out; have hfz16_3 := blk_frozen BK243.out 3) | ((with_reducible refine gate_callee (f := 26) rfl ?_); refine goesL_ (some 23) rfl rfl Try.func26 (by kernel_rfl) rfl #[.agg #[.slice A0_0 l0_0.length c0_0, .int .i64 a0_1, .int .i64 a0_2, .int .i64 a0_3]] rfl ul_ ?_; (with_reducible refine (laws_toShard.calls k _ _ l0_0 a0_1 a0_2 a0_3 t245 t248 t249 t250 _ ?side1 ?side2 A8.out).mono ?_); (case side1 => repeat (first | exact (Kd.C_below HR0_0.out HB.out) | (with_reducible refine Kd.C_alloc ?_ _) | (with_reducible refine Kd.C_drewN ?_ _) | (with_reducible refine Kd.C_drew ?_))); (case side2 => exact HC0_0.out); rintro e w17 ⟨v246, rfl, ho0, hb⟩; refine ⟨_, rfl, ?_⟩; have n0_ := am_ (Kd.R_lower ho0 (below_size (ue_ HB.out))); have n1_ := am_ (bb_ BK243.out hb); have n2_ := am_ (below_step (ue_ HB.out) hb); clear BK243 HB; have HO247 := n0_; have BK243 := n1_; have HB := n2_; clear n0_ n1_ n2_; (try clear hb); (try clear hb2); (try clear hk); (try clear hi); (try clear ho0); obtain ⟨Ao18, co18, eo18⟩ := Kd.R_slice HO247.out; subst eo18) | ((with_reducible refine gate_callee (f := 25) rfl ?_); refine goesL_ (some 25) rfl rfl Try.func25 (by kernel_rfl) rfl #[.agg #[.slice Ao18 t245.length co18, .int .i64 t248, .int .i64 t249, .int .i64 t250], .int .i64 a1] rfl ul_ ?_; (with_reducible refine (spec_RaiseMark.calls k _ _ t245 t248 t249 t250 a1 t251 t254 t255 t256 t257 _ ?side1 ?side2 A9.out).mono ?_); (case side1 => repeat (first | exact (Kd.R_reads' HO247.out).2.2 | (with_reducible refine Kd.C_alloc ?_ _) | (with_reducible refine Kd.C_drewN ?_ _) | (with_reducible refine Kd.C_drew ?_))); (case side2 => exact (Kd.R_reads' HO247.out).2.1); rintro e w19 ⟨v252, rfl, ho0, hb⟩; refine ⟨_, rfl, ?_⟩; have n0_ := am_ (Kd.R_elder' (ur_ HO247.out) (Kd.R_base ho0) hb); have n1_ := am_ (Kd.R_lower (Kd.R_new' ho0 (Kd.R_lt (ur_ HO247.out))) (below_size (ue_ HB.out))); have n2_ := am_ (bb_ BK243.out hb); have n3_ := am_ (below_step (ue_ HB.out) hb); clear HO247 BK243 HB; have HO247 := n0_; have HO253 := n1_; have BK243 := n2_; have HB := n3_; clear n0_ n1_ n2_ n3_; (try clear hb); (try clear hb2); (try clear hk); (try clear hi); (try clear ho0)) | ((with_reducible refine gate_dst (N := 6) rfl ?_); refine box_event ?hg (N := 6) ?hd (cs := #[.slice none 0 0, .int .i64 0, .int .i64 0, .int .i64 0]) (t := 42) ?hr ?_; (case hd => rfl); (case hg => rfl); (case hr => first | (go_simp; done) | (go_simp; rfl)); intro gb258 hg w20 hbox hb; have n0_ := am_ (Kd.R_below (ur_ HO247.out) hb); have n1_ := am_ (Kd.R_below (ur_ HO253.out) hb); have n2_ := am_ (bb_ BK243.out hb); have n3_ := am_ (below_step (ue_ HB.out) hb); have n4_ := am_ (hbox); have n5_ := am_ ((by rw [hg]; exact (below_size (ue_ HB.out)) : w.heap.size ≤ gb258)); have n6_ := am_ ((by rw [hg]; exact (below_size (ue_ HB.out)) : w.heap.size ≤ gb258)); have n7_ := am_ ((by rw [hg]; exact Nat.ne_of_lt (bl_ BK243.out) : gb243 ≠ gb258)); have n8_ := am_ ((by rw [hg]; exact Nat.ne_of_gt (bl_ BK243.out) : gb258 ≠ gb243)); clear HO247 HO253 BK243 HB; have HO247 := n0_; have HO253 := n1_; have BK243 := n2_; have HB := n3_; have BK258 := n4_; have GW258 := n5_; have GE258 := n6_; have NB243_258 := n7_; have NB258_243 := n8_; clear n0_ n1_ n2_ n3_ n4_ n5_ n6_ n7_ n8_; clear hb hbox hg; obtain ⟨Ao21, co21, eo21⟩ := Kd.R_slice HO253.out; subst eo21; have hnb22 := NB258_243.out; have hnc22 := NB243_258.out; obtain ⟨hcz23_0, hcz23_1, hcz23_2, hcz23_3⟩ := cb4_ BK258.out; obtain ⟨hfz23_0, hfz23_1, hfz23_2⟩ := bf3_ BK258.out; have hfz23_3 := blk_frozen BK258.out 3) | ((with_reducible refine gate_store (t := 42) (p := 6) rfl ?_); refine store_event (t := 42) (p := 6) (v := ?vo_w24) (w1 := ((((w20.setCell ⟨gb258, 0, none⟩ (.slice Ao21 t251.length co21)).setCell ⟨gb258, 1, none⟩ (.int .i64 t254)).setCell ⟨gb258, 2, none⟩ (.int .i64 t255)).setCell ⟨gb258, 3, none⟩ (.int .i64 t256))) ?hg ?ho ?hn ?hr ?_; (case ho => rfl); (case hg => rfl); (case hn => rfl); (case hr => first | (go_simp; done) | (go_simp; rfl)); intro w24 hw; have n0_ : Aside0 (Kd.R k80 80 w24 w.heap.size (fun k_ => some k_ ≠ (.slice Ao21 t251.length co21 : Value).ownBlock) (.slice Ao18 t245.length co18) t245) := ⟨(by rw [hw]; exact (by (with_reducible repeat (first | apply Kd.R_alloc | apply Kd.R_drewN | apply Kd.R_drew)); exact Kd.R_mono (Kd.R_far (p := ⟨gb258, 3, none⟩) (Kd.R_far (p := ⟨gb258, 2, none⟩) (Kd.R_far (p := ⟨gb258, 1, none⟩) (Kd.R_far (p := ⟨gb258, 0, none⟩) (Kd.R_types HO247.out BK258.out (by decide)) (fun _ hk => by first | exact hk.2 | grind) (.slice Ao21 t251.length co21)) (fun _ hk => by first | exact hk.2 | grind) (.int .i64 t254)) (fun _ hk => by first | exact hk.2 | grind) (.int .i64 t255)) (fun _ hk => by first | exact hk.2 | grind) (.int .i64 t256)) (fun _ hk => by first | exact hk.1.2 | grind)))⟩; have n1_ : Aside0 (Kd.R k80 80 w24 w.heap.size (fun k_ => some k_ ≠ (.slice Ao18 t245.length co18 : Value).ownBlock) (.slice Ao21 t251.length co21) t251) := ⟨(by rw [hw]; exact (by (with_reducible repeat (first | apply Kd.R_alloc | apply Kd.R_drewN | apply Kd.R_drew)); exact Kd.R_mono (Kd.R_far (p := ⟨gb258, 3, none⟩) (Kd.R_far (p := ⟨gb258, 2, none⟩) (Kd.R_far (p := ⟨gb258, 1, none⟩) (Kd.R_far (p := ⟨gb258, 0, none⟩) (Kd.R_types HO253.out BK258.out (by decide)) (fun _ hk => by first | exact hk.2 | grind) (.slice Ao21 t251.length co21)) (fun _ hk => by first | exact hk.2 | grind) (.int .i64 t254)) (fun _ hk => by first | exact hk.2 | grind) (.int .i64 t255)) (fun _ hk => by first | exact hk.2 | grind) (.int .i64 t256)) (fun _ hk => by first | exact hk.1.2 | grind)))⟩; have n2_ : Aside0 (w24.heap[gb243]? = some (.cells #[.slice A0_0 l0_0.length c0_0, .int .i64 a0_1, .int .i64 a0_2, .int .i64 a0_3] 38 (0, 0))) := ⟨(by rw [hw]; exact (uf_ BK243.out))⟩; have n3_ : Aside0 (w24.heap[gb258]? = some (.cells #[.slice Ao21 t251.length co21, .int .i64 t254, .int .i64 t255, .int .i64 t256] 42 (0, 0))) := ⟨(by rw [hw]; exact (by (with_reducible repeat first|apply bn_|apply bd_|apply ba_); refine blk_put (cs := #[.slice Ao21 t251.length co21, .int .i64 t254, .int .i64 t255, .int .i64 0]) ?_ 3 _ rfl; refine blk_put (cs := #[.slice Ao21 t251.length co21, .int .i64 t254, .int .i64 0, .int .i64 0]) ?_ 2 _ rfl; refine blk_put (cs := #[.slice Ao21 t251.length co21, .int .i64 0, .int .i64 0, .int .i64 0]) ?_ 1 _ rfl; refine blk_put (cs := #[.slice none 0 0, .int .i64 0, .int .i64 0, .int .i64 0]) ?_ 0 _ rfl; (with_reducible repeat first|apply bn_|apply bd_|apply ba_); exact BK258.out))⟩; have n4_ : Aside0 (Below w.heap.size w w24) := ⟨(by rw [hw]; exact (ue_ HB.out))⟩; clear hw HO247 HO253 BK243 BK258 HB; have HO247 := n0_; have HO253 := n1_; have BK243 := n2_; have BK258 := n3_; have HB := n4_; clear n0_ n1_ n2_ n3_ n4_; obtain ⟨hcz25_0, hcz25_1, hcz25_2, hcz25_3⟩ := cb4_ BK243.out; obtain ⟨hfz25_0, hfz25_1, hfz25_2⟩ := bf3_ BK243.out; have hfz25_3 := blk_frozen BK243.out 3) | ((with_reducible refine gate_callee (f := 26) rfl ?_); refine goesL_ (some 29) rfl rfl Try.func26 (by kernel_rfl) rfl #[.agg #[.slice A0_0 l0_0.length c0_0, .int .i64 a0_1, .int .i64 a0_2, .int .i64 a0_3]] rfl ul_ ?_; (with_reducible refine (laws_toShard.calls k _ _ l0_0 a0_1 a0_2 a0_3 t259 t262 t263 t264 _ ?side1 ?side2 A10.out).mono ?_); (case side1 => repeat (first | exact (Kd.C_below HR0_0.out HB.out) | (with_reducible refine Kd.C_alloc ?_ _) | (with_reducible refine Kd.C_drewN ?_ _) | (with_reducible refine Kd.C_drew ?_))); (case side2 => exact HC0_0.out); rintro e w26 ⟨v260, rfl, ho0, hb⟩; refine ⟨_, rfl, ?_⟩; have n0_ := am_ (Kd.R_elder' (ur_ HO247.out) (Kd.R_base ho0) hb); have n1_ := am_ (Kd.R_elder' (ur_ HO253.out) (Kd.R_base ho0) hb); have n2_ := am_ (Kd.R_lower (Kd.R_new' (Kd.R_new' ho0 (Kd.R_lt (ur_ HO247.out))) (Kd.R_lt (ur_ HO253.out))) (below_size (ue_ HB.out))); have n3_ := am_ (bb_ BK243.out hb); have n4_ := am_ (bb_ BK258.out hb); have n5_ := am_ (below_step (ue_ HB.out) hb); clear HO247 HO253 BK243 BK258 HB; have HO247 := n0_; have HO253 := n1_; have HO261 := n2_; have BK243 := n3_; have BK258 := n4_; have HB := n5_; clear n0_ n1_ n2_ n3_ n4_ n5_; (try clear hb); (try clear hb2); (try clear hk); (try clear hi); (try clear ho0)) | ((with_reducible refine gate_dst (N := 8) rfl ?_); refine box_event ?hg (N := 8) ?hd (cs := #[.slice none 0 0, .int .i64 0, .int .i64 0, .int .i64 0]) (t := 42) ?hr ?_; (case hd => rfl); (case hg => rfl); (case hr => first | (go_simp; done) | (go_simp; rfl)); intro gb265 hg w27 hbox hb; have n0_ := am_ (Kd.R_below (ur_ HO247.out) hb); have n1_ := am_ (Kd.R_below (ur_ HO253.out) hb); have n2_ := am_ (Kd.R_below (ur_ HO261.out) hb); have n3_ := am_ (bb_ BK243.out hb); have n4_ := am_ (bb_ BK258.out hb); have n5_ := am_ (below_step (ue_ HB.out) hb); have n6_ := am_ (hbox); have n7_ := am_ ((by rw [hg]; exact (below_size (ue_ HB.out)) : w.heap.size ≤ gb265)); have n8_ := am_ ((by rw [hg]; exact (below_size (ue_ HB.out)) : w.heap.size ≤ gb265)); have n9_ := am_ ((by rw [hg]; exact Nat.ne_of_lt (bl_ BK243.out) : gb243 ≠ gb265)); have n10_ := am_ ((by rw [hg]; exact Nat.ne_of_gt (bl_ BK243.out) : gb265 ≠ gb243)); have n11_ := am_ ((by rw [hg]; exact Nat.ne_of_lt (bl_ BK258.out) : gb258 ≠ gb265)); have n12_ := am_ ((by rw [hg]; exact Nat.ne_of_gt (bl_ BK258.out) : gb265 ≠ gb258)); clear HO247 HO253 HO261 BK243 BK258 HB; have HO247 := n0_; have HO253 := n1_; have HO261 := n2_; have BK243 := n3_; have BK258 := n4_; have HB := n5_; have BK265 := n6_; have GW265 := n7_; have GE265 := n8_; have NB243_265 := n9_; have NB265_243 := n10_; have NB258_265 := n11_; have NB265_258 := n12_; clear n0_ n1_ n2_ n3_ n4_ n5_ n6_ n7_ n8_ n9_ n10_ n11_ n12_; clear hb hbox hg; obtain ⟨Ao28, co28, eo28⟩ := Kd.R_slice HO261.out; subst eo28; have hnb29 := NB265_243.out; have hnc29 := NB243_265.out; have hnb30 := NB265_258.out; have hnc30 := NB258_265.out; obtain ⟨hcz31_0, hcz31_1, hcz31_2, hcz31_3⟩ := cb4_ BK265.out; obtain ⟨hfz31_0, hfz31_1, hfz31_2⟩ := bf3_ BK265.out; have hfz31_3 := blk_frozen BK265.out 3) | ((with_reducible refine gate_store (t := 42) (p := 8) rfl ?_); refine store_event (t := 42) (p := 8) (v := ?vo_w32) (w1 := ((((w27.setCell ⟨gb265, 0, none⟩ (.slice Ao28 t259.length co28)).setCell ⟨gb265, 1, none⟩ (.int .i64 t262)).setCell ⟨gb265, 2, none⟩ (.int .i64 t263)).setCell ⟨gb265, 3, none⟩ (.int .i64 t264))) ?hg ?ho ?hn ?hr ?_; (case ho => rfl); (case hg => rfl); (case hn => rfl); (case hr => first | (go_simp; done) | (go_simp; rfl)); intro w32 hw; have n0_ : Aside0 (Kd.R k80 80 w32 w.heap.size (fun k_ => some k_ ≠ (.slice Ao21 t251.length co21 : Value).ownBlock ∧ some k_ ≠ (.slice Ao28 t259.length co28 : Value).ownBlock) (.slice Ao18 t245.length co18) t245) := ⟨(by rw [hw]; exact (by (with_reducible repeat (first | apply Kd.R_alloc | apply Kd.R_drewN | apply Kd.R_drew)); exact Kd.R_mono (Kd.R_far (p := ⟨gb265, 3, none⟩) (Kd.R_far (p := ⟨gb265, 2, none⟩) (Kd.R_far (p := ⟨gb265, 1, none⟩) (Kd.R_far (p := ⟨gb265, 0, none⟩) (Kd.R_types HO247.out BK265.out (by decide)) (fun _ hk => by first | exact hk.2 | grind) (.slice Ao28 t259.length co28)) (fun _ hk => by first | exact hk.2 | grind) (.int .i64 t262)) (fun _ hk => by first | exact hk.2 | grind) (.int .i64 t263)) (fun _ hk => by first | exact hk.2 | grind) (.int .i64 t264)) (fun _ hk => by first | exact ⟨hk.1.1, hk.1.2⟩ | grind)))⟩; have n1_ : Aside0 (Kd.R k80 80 w32 w.heap.size (fun k_ => some k_ ≠ (.slice Ao18 t245.length co18 : Value).ownBlock ∧ some k_ ≠ (.slice Ao28 t259.length co28 : Value).ownBlock) (.slice Ao21 t251.length co21) t251) := ⟨(by rw [hw]; exact (by (with_reducible repeat (first | apply Kd.R_alloc | apply Kd.R_drewN | apply Kd.R_drew)); exact Kd.R_mono (Kd.R_far (p := ⟨gb265, 3, none⟩) (Kd.R_far (p := ⟨gb265, 2, none⟩) (Kd.R_far (p := ⟨gb265, 1, none⟩) (Kd.R_far (p := ⟨gb265, 0, none⟩) (Kd.R_types HO253.out BK265.out (by decide)) (fun _ hk => by first | exact hk.2 | grind) (.slice Ao28 t259.length co28)) (fun _ hk => by first | exact hk.2 | grind) (.int .i64 t262)) (fun _ hk => by first | exact hk.2 | grind) (.int .i64 t263)) (fun _ hk => by first | exact hk.2 | grind) (.int .i64 t264)) (fun _ hk => by first | exact ⟨hk.1.1, hk.1.2⟩ | grind)))⟩; have n2_ : Aside0 (Kd.R k80 80 w32 w.heap.size (fun k_ => some k_ ≠ (.slice Ao18 t245.length co18 : Value).ownBlock ∧ some k_ ≠ (.slice Ao21 t251.length co21 : Value).ownBlock) (.slice Ao28 t259.length co28) t259) := ⟨(by rw [hw]; exact (by (with_reducible repeat (first | apply Kd.R_alloc | apply Kd.R_drewN | apply Kd.R_drew)); exact Kd.R_mono (Kd.R_far (p := ⟨gb265, 3, none⟩) (Kd.R_far (p := ⟨gb265, 2, none⟩) (Kd.R_far (p := ⟨gb265, 1, none⟩) (Kd.R_far (p := ⟨gb265, 0, none⟩) (Kd.R_types HO261.out BK265.out (by decide)) (fun _ hk => by first | exact hk.2 | grind) (.slice Ao28 t259.length co28)) (fun _ hk => by first | exact hk.2 | grind) (.int .i64 t262)) (fun _ hk => by first | exact hk.2 | grind) (.int .i64 t263)) (fun _ hk => by first | exact hk.2 | grind) (.int .i64 t264)) (fun _ hk => by first | exact ⟨hk.1.1.2, hk.1.2⟩ | grind)))⟩; have n3_ : Aside0 (w32.heap[gb243]? = some (.cells #[.slice A0_0 l0_0.length c0_0, .int .i64 a0_1, .int .i64 a0_2, .int .i64 a0_3] 38 (0, 0))) := ⟨(by rw [hw]; exact (uf_ BK243.out))⟩; have n4_ : Aside0 (w32.heap[gb258]? = some (.cells #[.slice Ao21 t251.length co21, .int .i64 t254, .int .i64 t255, .int .i64 t256] 42 (0, 0))) := ⟨(by rw [hw]; exact (uf_ BK258.out))⟩; have n5_ : Aside0 (w32.heap[gb265]? = some (.cells #[.slice Ao28 t259.length co28, .int .i64 t262, .int .i64 t263, .int .i64 t264] 42 (0, 0))) := ⟨(by rw [hw]; exact (by (with_reducible repeat first|apply bn_|apply bd_|apply ba_); refine blk_put (cs := #[.slice Ao28 t259.length co28, .int .i64 t262, .int .i64 t263, .int .i64 0]) ?_ 3 _ rfl; refine blk_put (cs := #[.slice Ao28 t259.length co28, .int .i64 t262, .int .i64 0, .int .i64 0]) ?_ 2 _ rfl; refine blk_put (cs := #[.slice Ao28 t259.length co28, .int .i64 0, .int .i64 0, .int .i64 0]) ?_ 1 _ rfl; refine blk_put (cs := #[.slice none 0 0, .int .i64 0, .int .i64 0, .int .i64 0]) ?_ 0 _ rfl; (with_reducible repeat first|apply bn_|apply bd_|apply ba_); exact BK265.out))⟩; have n6_ : Aside0 (Below w.heap.size w w32) := ⟨(by rw [hw]; exact (ue_ HB.out))⟩; clear hw HO247 HO253 HO261 BK243 BK258 BK265 HB; have HO247 := n0_; have HO253 := n1_; have HO261 := n2_; have BK243 := n3_; have BK258 := n4_; have BK265 := n5_; have HB := n6_; clear n0_ n1_ n2_ n3_ n4_ n5_ n6_; obtain ⟨hcz33_0, hcz33_1, hcz33_2, hcz33_3⟩ := cb4_ BK265.out; obtain ⟨hfz33_0, hfz33_1, hfz33_2⟩ := bf3_ BK265.out; have hfz33_3 := blk_frozen BK265.out 3) | ((with_reducible refine gate_callee (f := 27) rfl ?_); refine goesL_ (some 33) rfl rfl Try.func27 (by kernel_rfl) rfl #[.agg #[.slice Ao28 t259.length co28, .int .i64 t262, .int .i64 t263, .int .i64 t264], .int .i64 a1] rfl ul_ ?_; (with_reducible refine (impl_RaiseMark.calls k _ _ t259 t262 t263 t264 a1 t266 t269 t270 t271 t272 _ ?side1 ?side2 A11.out).mono ?_); (case side1 => repeat (first | exact (Kd.R_reads' HO261.out).2.2 | (with_reducible refine Kd.C_alloc ?_ _) | (with_reducible refine Kd.C_drewN ?_ _) | (with_reducible refine Kd.C_drew ?_))); (case side2 => exact (Kd.R_reads' HO261.out).2.1); rintro e w34 ⟨v267, rfl, ho0, hb⟩; refine ⟨_, rfl, ?_⟩; have n0_ := am_ (Kd.R_elder' (ur_ HO247.out) (Kd.R_base ho0) hb); have n1_ := am_ (Kd.R_elder' (ur_ HO253.out) (Kd.R_base ho0) hb); have n2_ := am_ (Kd.R_elder' (ur_ HO261.out) (Kd.R_base ho0) hb); have n3_ := am_ (Kd.R_lower (Kd.R_new' (Kd.R_new' (Kd.R_new' ho0 (Kd.R_lt (ur_ HO247.out))) (Kd.R_lt (ur_ HO253.out))) (Kd.R_lt (ur_ HO261.out))) (below_size (ue_ HB.out))); have n4_ := am_ (bb_ BK243.out hb); have n5_ := am_ (bb_ BK258.out hb); have n6_ := am_ (bb_ BK265.out hb); have n7_ := am_ (below_step (ue_ HB.out) hb); clear HO247 HO253 HO261 BK243 BK258 BK265 HB; have HO247 := n0_; have HO253 := n1_; have HO261 := n2_; have HO268 := n3_; have BK243 := n4_; have BK258 := n5_; have BK265 := n6_; have HB := n7_; clear n0_ n1_ n2_ n3_ n4_ n5_ n6_ n7_; (try clear hb); (try clear hb2); (try clear hk); (try clear hi); (try clear ho0)) | ((with_reducible refine gate_dst (N := 9) rfl ?_); refine box_event ?hg (N := 9) ?hd (cs := #[.slice none 0 0, .int .i64 0, .int .i64 0, .int .i64 0]) (t := 42) ?hr ?_; (case hd => rfl); (case hg => rfl); (case hr => first | (go_simp; done) | (go_simp; rfl)); intro gb273 hg w35 hbox hb; have n0_ := am_ (Kd.R_below (ur_ HO247.out) hb); have n1_ := am_ (Kd.R_below (ur_ HO253.out) hb); have n2_ := am_ (Kd.R_below (ur_ HO261.out) hb); have n3_ := am_ (Kd.R_below (ur_ HO268.out) hb); have n4_ := am_ (bb_ BK243.out hb); have n5_ := am_ (bb_ BK258.out hb); have n6_ := am_ (bb_ BK265.out hb); have n7_ := am_ (below_step (ue_ HB.out) hb); have n8_ := am_ (hbox); have n9_ := am_ ((by rw [hg]; exact (below_size (ue_ HB.out)) : w.heap.size ≤ gb273)); have n10_ := am_ ((by rw [hg]; exact (below_size (ue_ HB.out)) : w.heap.size ≤ gb273)); have n11_ := am_ ((by rw [hg]; exact Nat.ne_of_lt (bl_ BK243.out) : gb243 ≠ gb273)); have n12_ := am_ ((by rw [hg]; exact Nat.ne_of_gt (bl_ BK243.out) : gb273 ≠ gb243)); have n13_ := am_ ((by rw [hg]; exact Nat.ne_of_lt (bl_ BK258.out) : gb258 ≠ gb273)); have n14_ := am_ ((by rw [hg]; exact Nat.ne_of_gt (bl_ BK258.out) : gb273 ≠ gb258)); have n15_ := am_ ((by rw [hg]; exact Nat.ne_of_lt (bl_ BK265.out) : gb265 ≠ gb273)); have n16_ := am_ ((by rw [hg]; exact Nat.ne_of_gt (bl_ BK265.out) : gb273 ≠ gb265)); clear HO247 HO253 HO261 HO268 BK243 BK258 BK265 HB; have HO247 := n0_; have HO253 := n1_; have HO261 := n2_; have HO268 := n3_; have BK243 := n4_; have BK258 := n5_; have BK265 := n6_; have HB := n7_; have BK273 := n8_; have GW273 := n9_; have GE273 := n10_; have NB243_273 := n11_; have NB273_243 := n12_; have NB258_273 := n13_; have NB273_258 := n14_; have NB265_273 := n15_; have NB273_265 := n16_; clear n0_ n1_ n2_ n3_ n4_ n5_ n6_ n7_ n8_ n9_ n10_ n11_ n12_ n13_ n14_ n15_ n16_; clear hb hbox hg; obtain ⟨Ao36, co36, eo36⟩ := Kd.R_slice HO268.out; subst eo36; have hnb37 := NB273_243.out; have hnc37 := NB243_273.out; have hnb38 := NB273_258.out; have hnc38 := NB258_273.out; have hnb39 := NB273_265.out; have hnc39 := NB265_273.out; obtain ⟨hcz40_0, hcz40_1, hcz40_2, hcz40_3⟩ := cb4_ BK273.out; obtain ⟨hfz40_0, hfz40_1, hfz40_2⟩ := bf3_ BK273.out; have hfz40_3 := blk_frozen BK273.out 3) | ((with_reducible refine gate_store (t := 42) (p := 9) rfl ?_); refine store_event (t := 42) (p := 9) (v := ?vo_w41) (w1 := ((((w35.setCell ⟨gb273, 0, none⟩ (.slice Ao36 t266.length co36)).setCell ⟨gb273, 1, none⟩ (.int .i64 t269)).setCell ⟨gb273, 2, none⟩ (.int .i64 t270)).setCell ⟨gb273, 3, none⟩ (.int .i64 t271))) ?hg ?ho ?hn ?hr ?_; (case ho => rfl); (case hg => rfl); (case hn => rfl); (case hr => first | (go_simp; done) | (go_simp; rfl)); intro w41 hw; have n0_ : Aside0 (Kd.R k80 80 w41 w.heap.size (fun k_ => some k_ ≠ (.slice Ao21 t251.length co21 : Value).ownBlock ∧ some k_ ≠ (.slice Ao28 t259.length co28 : Value).ownBlock ∧ some k_ ≠ (.slice Ao36 t266.length co36 : Value).ownBlock) (.slice Ao18 t245.length co18) t245) := ⟨(by rw [hw]; exact (by (with_reducible repeat (first | apply Kd.R_alloc | apply Kd.R_drewN | apply Kd.R_drew)); exact Kd.R_mono (Kd.R_far (p := ⟨gb273, 3, none⟩) (Kd.R_far (p := ⟨gb273, 2, none⟩) (Kd.R_far (p := ⟨gb273, 1, none⟩) (Kd.R_far (p := ⟨gb273, 0, none⟩) (Kd.R_types HO247.out BK273.out (by decide)) (fun _ hk => by first | exact hk.2 | grind) (.slice Ao36 t266.length co36)) (fun _ hk => by first | exact hk.2 | grind) (.int .i64 t269)) (fun _ hk => by first | exact hk.2 | grind) (.int .i64 t270)) (fun _ hk => by first | exact hk.2 | grind) (.int .i64 t271)) (fun _ hk => by first | exact ⟨hk.1.1.1, ⟨hk.1.1.2, hk.1.2⟩⟩ | grind)))⟩; have n1_ : Aside0 (Kd.R k80 80 w41 w.heap.size (fun k_ => some k_ ≠ (.slice Ao18 t245.length co18 : Value).ownBlock ∧ some k_ ≠ (.slice Ao28 t259.length co28 : Value).ownBlock ∧ some k_ ≠ (.slice Ao36 t266.length co36 : Value).ownBlock) (.slice Ao21 t251.length co21) t251) := ⟨(by rw [hw]; exact (by (with_reducible repeat (first | apply Kd.R_alloc | apply Kd.R_drewN | apply Kd.R_drew)); exact Kd.R_mono (Kd.R_far (p := ⟨gb273, 3, none⟩) (Kd.R_far (p := ⟨gb273, 2, none⟩) (Kd.R_far (p := ⟨gb273, 1, none⟩) (Kd.R_far (p := ⟨gb273, 0, none⟩) (Kd.R_types HO253.out BK273.out (by decide)) (fun _ hk => by first | exact hk.2 | grind) (.slice Ao36 t266.length co36)) (fun _ hk => by first | exact hk.2 | grind) (.int .i64 t269)) (fun _ hk => by first | exact hk.2 | grind) (.int .i64 t270)) (fun _ hk => by first | exact hk.2 | grind) (.int .i64 t271)) (fun _ hk => by first | exact ⟨hk.1.1.1, ⟨hk.1.1.2, hk.1.2⟩⟩ | grind)))⟩; have n2_ : Aside0 (Kd.R k80 80 w41 w.heap.size (fun k_ => some k_ ≠ (.slice Ao18 t245.length co18 : Value).ownBlock ∧ some k_ ≠ (.slice Ao21 t251.length co21 : Value).ownBlock ∧ some k_ ≠ (.slice Ao36 t266.length co36 : Value).ownBlock) (.slice Ao28 t259.length co28) t259) := ⟨(by rw [hw]; exact (by (with_reducible repeat (first | apply Kd.R_alloc | apply Kd.R_drewN | apply Kd.R_drew)); exact Kd.R_mono (Kd.R_far (p := ⟨gb273, 3, none⟩) (Kd.R_far (p := ⟨gb273, 2, none⟩) (Kd.R_far (p := ⟨gb273, 1, none⟩) (Kd.R_far (p := ⟨gb273, 0, none⟩) (Kd.R_types HO261.out BK273.out (by decide)) (fun _ hk => by first | exact hk.2 | grind) (.slice Ao36 t266.length co36)) (fun _ hk => by first | exact hk.2 | grind) (.int .i64 t269)) (fun _ hk => by first | exact hk.2 | grind) (.int .i64 t270)) (fun _ hk => by first | exact hk.2 | grind) (.int .i64 t271)) (fun _ hk => by first | exact ⟨hk.1.1.1, ⟨hk.1.1.2, hk.1.2⟩⟩ | grind)))⟩; have n3_ : Aside0 (Kd.R k80 80 w41 w.heap.size (fun k_ => some k_ ≠ (.slice Ao18 t245.length co18 : Value).ownBlock ∧ some k_ ≠ (.slice Ao21 t251.length co21 : Value).ownBlock ∧ some k_ ≠ (.slice Ao28 t259.length co28 : Value).ownBlock) (.slice Ao36 t266.length co36) t266) := ⟨(by rw [hw]; exact (by (with_reducible repeat (first | apply Kd.R_alloc | apply Kd.R_drewN | apply Kd.R_drew)); exact Kd.R_mono (Kd.R_far (p := ⟨gb273, 3, none⟩) (Kd.R_far (p := ⟨gb273, 2, none⟩) (Kd.R_far (p := ⟨gb273, 1, none⟩) (Kd.R_far (p := ⟨gb273, 0, none⟩) (Kd.R_types HO268.out BK273.out (by decide)) (fun _ hk => by first | exact hk.2 | grind) (.slice Ao36 t266.length co36)) (fun _ hk => by first | exact hk.2 | grind) (.int .i64 t269)) (fun _ hk => by first | exact hk.2 | grind) (.int .i64 t270)) (fun _ hk => by first | exact hk.2 | grind) (.int .i64 t271)) (fun _ hk => by first | exact ⟨hk.1.1.1.2, ⟨hk.1.1.2, hk.1.2⟩⟩ | grind)))⟩; have n4_ : Aside0 (w41.heap[gb243]? = some (.cells #[.slice A0_0 l0_0.length c0_0, .int .i64 a0_1, .int .i64 a0_2, .int .i64 a0_3] 38 (0, 0))) := ⟨(by rw [hw]; exact (uf_ BK243.out))⟩; have n5_ : Aside0 (w41.heap[gb258]? = some (.cells #[.slice Ao21 t251.length co21, .int .i64 t254, .int .i64 t255, .int .i64 t256] 42 (0, 0))) := ⟨(by rw [hw]; exact (uf_ BK258.out))⟩; have n6_ : Aside0 (w41.heap[gb265]? = some (.cells #[.slice Ao28 t259.length co28, .int .i64 t262, .int .i64 t263, .int .i64 t264] 42 (0, 0))) := ⟨(by rw [hw]; exact (uf_ BK265.out))⟩; have n7_ : Aside0 (w41.heap[gb273]? = some (.cells #[.slice Ao36 t266.length co36, .int .i64 t269, .int .i64 t270, .int .i64 t271] 42 (0, 0))) := ⟨(by rw [hw]; exact (by (with_reducible repeat first|apply bn_|apply bd_|apply ba_); refine blk_put (cs := #[.slice Ao36 t266.length co36, .int .i64 t269, .int .i64 t270, .int .i64 0]) ?_ 3 _ rfl; refine blk_put (cs := #[.slice Ao36 t266.length co36, .int .i64 t269, .int .i64 0, .int .i64 0]) ?_ 2 _ rfl; refine blk_put (cs := #[.slice Ao36 t266.length co36, .int .i64 0, .int .i64 0, .int .i64 0]) ?_ 1 _ rfl; refine blk_put (cs := #[.slice none 0 0, .int .i64 0, .int .i64 0, .int .i64 0]) ?_ 0 _ rfl; (with_reducible repeat first|apply bn_|apply bd_|apply ba_); exact BK273.out))⟩; have n8_ : Aside0 (Below w.heap.size w w41) := ⟨(by rw [hw]; exact (ue_ HB.out))⟩; clear hw HO247 HO253 HO261 HO268 BK243 BK258 BK265 BK273 HB; have HO247 := n0_; have HO253 := n1_; have HO261 := n2_; have HO268 := n3_; have BK243 := n4_; have BK258 := n5_; have BK265 := n6_; have BK273 := n7_; have HB := n8_; clear n0_ n1_ n2_ n3_ n4_ n5_ n6_ n7_ n8_))
  (try simp only [Act.put, List.setIfInBounds_toArray, List.set_cons_zero, List.set_cons_succ])
  go_cut [44] (fun v44 wc => ∃ (kq : Nat) (x44_11 : Bool), v44 = .bool x44_11 ∧ Aside0 (laws_FnExactRaiseMark.j0 kq a1 t257 t272 x44_11 l0_0 a0_1 a0_2 a0_3 t251 t254 t255 t256 t259 t262 t263 t264 t266 t269 t270 t271 = some r) ∧ Aside0 (kq ≤ k) ∧ Aside0 (Kd.R k80 80 wc w.heap.size (fun k_ => some k_ ≠ ((.slice Ao28 t259.length co28) : Value).ownBlock ∧ some k_ ≠ ((.slice Ao36 t266.length co36) : Value).ownBlock) (.slice Ao21 t251.length co21) t251) ∧ Aside0 (Kd.R k80 80 wc w.heap.size (fun k_ => some k_ ≠ ((.slice Ao21 t251.length co21) : Value).ownBlock ∧ some k_ ≠ ((.slice Ao36 t266.length co36) : Value).ownBlock) (.slice Ao28 t259.length co28) t259) ∧ Aside0 (Kd.R k80 80 wc w.heap.size (fun k_ => some k_ ≠ ((.slice Ao21 t251.length co21) : Value).ownBlock ∧ some k_ ≠ ((.slice Ao28 t259.length co28) : Value).ownBlock) (.slice Ao36 t266.length co36) t266) ∧ Aside0 (wc.heap[gb243]? = some (.cells #[(.slice A0_0 l0_0.length c0_0), .int .i64 a0_1, .int .i64 a0_2, .int .i64 a0_3] 38 (0, 0))) ∧ Aside0 (wc.heap[gb258]? = some (.cells #[(.slice Ao21 t251.length co21), .int .i64 t254, .int .i64 t255, .int .i64 t256] 42 (0, 0))) ∧ Aside0 (wc.heap[gb265]? = some (.cells #[(.slice Ao28 t259.length co28), .int .i64 t262, .int .i64 t263, .int .i64 t264] 42 (0, 0))) ∧ Aside0 (wc.heap[gb273]? = some (.cells #[(.slice Ao36 t266.length co36), .int .i64 t269, .int .i64 t270, .int .i64 t271] 42 (0, 0))) ∧ Aside0 (Below w.heap.size w wc))
  case first =>
   have H := HC12.out
   clear HC12
   replace H := Option.bind_eq_some_iff.mp H
   obtain ⟨t274, A420, H⟩ := H
   replace H : (if t274 = true then (laws_FnExactRaiseMark.j0 k a1 t257 t272 (t272 != t257) l0_0 a0_1 a0_2 a0_3 t251 t254 t255 t256 t259 t262 t263 t264 t266 t269 t270 t271) else (laws_FnExactRaiseMark.j0 k a1 t257 t272 true l0_0 a0_1 a0_2 a0_3 t251 t254 t255 t256 t259 t262 t263 t264 t266 t269 t270 t271)) = some r := H
   have A42 := Aside0.mk A420
   clear A420
   by_cases c43 : t274 = true
   ·
    subst c43
    have H1 : (laws_FnExactRaiseMark.j0 k a1 t257 t272 (t272 != t257) l0_0 a0_1 a0_2 a0_3 t251 t254 t255 t256 t259 t262 t263 t264 t266 t269 t270 t271) = some r := by rw [if_pos rfl] at H; exact H
    clear H
    have H := H1
    clear H1
    have H' := Aside0.mk H
    clear H
    have hnb44 := NB273_243.out
    have hnc44 := NB243_273.out
    have hnb45 := NB273_258.out
    have hnc45 := NB258_273.out
    have hnb46 := NB273_265.out
    have hnc46 := NB265_273.out
    have hcz47_0 := cb_ BK273.out 0 rfl
    have hcz47_1 := cb_ BK273.out 1 rfl
    have hcz47_2 := cb_ BK273.out 2 rfl
    have hcz47_3 := cb_ BK273.out 3 rfl
    have hfz47_0 := blk_frozen BK273.out 0
    have hfz47_1 := blk_frozen BK273.out 1
    have hfz47_2 := blk_frozen BK273.out 2
    have hfz47_3 := blk_frozen BK273.out 3
    have hnb48 := NB258_243.out
    have hnc48 := NB243_258.out
    have hnb49 := NB258_265.out
    have hnc49 := NB265_258.out
    have hcz50_0 := cb_ BK258.out 0 rfl
    have hcz50_1 := cb_ BK258.out 1 rfl
    have hcz50_2 := cb_ BK258.out 2 rfl
    have hcz50_3 := cb_ BK258.out 3 rfl
    have hfz50_0 := blk_frozen BK258.out 0
    have hfz50_1 := blk_frozen BK258.out 1
    have hfz50_2 := blk_frozen BK258.out 2
    have hfz50_3 := blk_frozen BK258.out 3
    go_wp2_with (first | ((with_reducible refine gate_callee (f := 28) rfl ?_); refine goesL_ (some 38) rfl rfl Try.func28 (by kernel_rfl) rfl #[.agg #[.slice Ao36 t266.length co36, .int .i64 t269, .int .i64 t270, .int .i64 t271], .agg #[.slice Ao21 t251.length co21, .int .i64 t254, .int .i64 t255, .int .i64 t256]] rfl ul_ ?_; (with_reducible refine (laws_eqShard.calls k _ _ t266 t269 t270 t271 _ _ t251 t254 t255 t256 true _ ?side1 ?side2 ?side3 ?side4 A42.out).mono ?_); (case side1 => repeat (first | exact (Kd.R_reads' HO268.out).2.2 | (with_reducible refine Kd.C_alloc ?_ _) | (with_reducible refine Kd.C_drewN ?_ _) | (with_reducible refine Kd.C_drew ?_))); (case side2 => exact (Kd.R_reads' HO268.out).2.1); (case side3 => repeat (first | exact (Kd.R_reads' HO253.out).2.2 | (with_reducible refine Kd.C_alloc ?_ _) | (with_reducible refine Kd.C_drewN ?_ _) | (with_reducible refine Kd.C_drew ?_))); (case side4 => exact (Kd.R_reads' HO253.out).2.1); rintro e w51 ⟨rfl, hb⟩; refine ⟨_, rfl, ?_⟩; have n0_ := am_ (Kd.R_below (ur_ HO247.out) hb); have n1_ := am_ (Kd.R_below (ur_ HO253.out) hb); have n2_ := am_ (Kd.R_below (ur_ HO261.out) hb); have n3_ := am_ (Kd.R_below (ur_ HO268.out) hb); have n4_ := am_ (bb_ BK243.out hb); have n5_ := am_ (bb_ BK258.out hb); have n6_ := am_ (bb_ BK265.out hb); have n7_ := am_ (bb_ BK273.out hb); have n8_ := am_ (below_step (ue_ HB.out) hb); clear HO247 HO253 HO261 HO268 BK243 BK258 BK265 BK273 HB; have HO247 := n0_; have HO253 := n1_; have HO261 := n2_; have HO268 := n3_; have BK243 := n4_; have BK258 := n5_; have BK265 := n6_; have BK273 := n7_; have HB := n8_; clear n0_ n1_ n2_ n3_ n4_ n5_ n6_ n7_ n8_; (try clear hb); (try clear hb2); (try clear hk); (try clear hi)))
    go_meet
    case rel => exact ⟨_, ((t272 != t257)), (by first | rfl | (simp; done) | (simp [*]; done)), H', ⟨by first | omega | exact Nat.le_refl _⟩, ⟨by (with_reducible repeat (first | apply Kd.R_alloc | apply Kd.R_drewN | apply Kd.R_drew)); exact Kd.R_mono HO253.out (fun _ hk => by first | exact ⟨hk.2.1, hk.2.2⟩ | grind)⟩, ⟨by (with_reducible repeat (first | apply Kd.R_alloc | apply Kd.R_drewN | apply Kd.R_drew)); exact Kd.R_mono HO261.out (fun _ hk => by first | exact ⟨hk.2.1, hk.2.2⟩ | grind)⟩, ⟨by (with_reducible repeat (first | apply Kd.R_alloc | apply Kd.R_drewN | apply Kd.R_drew)); exact Kd.R_mono HO268.out (fun _ hk => by first | exact ⟨hk.2.1, hk.2.2⟩ | grind)⟩, ⟨by (with_reducible repeat first|apply bn_|apply bd_|apply ba_); exact BK243.out⟩, ⟨by (with_reducible repeat first|apply bn_|apply bd_|apply ba_); exact BK258.out⟩, ⟨by (with_reducible repeat first|apply bn_|apply bd_|apply ba_); exact BK265.out⟩, ⟨by (with_reducible repeat first|apply bn_|apply bd_|apply ba_); exact BK273.out⟩, ⟨ue_ HB.out⟩⟩
   ·
    replace c43 := Bool.eq_false_iff.mpr c43
    subst c43
    have H1 : (laws_FnExactRaiseMark.j0 k a1 t257 t272 true l0_0 a0_1 a0_2 a0_3 t251 t254 t255 t256 t259 t262 t263 t264 t266 t269 t270 t271) = some r := by rw [if_neg (show ¬ (false = true) by decide)] at H; exact H
    clear H
    have H := H1
    clear H1
    have H' := Aside0.mk H
    clear H
    have hnb52 := NB273_243.out
    have hnc52 := NB243_273.out
    have hnb53 := NB273_258.out
    have hnc53 := NB258_273.out
    have hnb54 := NB273_265.out
    have hnc54 := NB265_273.out
    have hcz55_0 := cb_ BK273.out 0 rfl
    have hcz55_1 := cb_ BK273.out 1 rfl
    have hcz55_2 := cb_ BK273.out 2 rfl
    have hcz55_3 := cb_ BK273.out 3 rfl
    have hfz55_0 := blk_frozen BK273.out 0
    have hfz55_1 := blk_frozen BK273.out 1
    have hfz55_2 := blk_frozen BK273.out 2
    have hfz55_3 := blk_frozen BK273.out 3
    have hnb56 := NB258_243.out
    have hnc56 := NB243_258.out
    have hnb57 := NB258_265.out
    have hnc57 := NB265_258.out
    have hcz58_0 := cb_ BK258.out 0 rfl
    have hcz58_1 := cb_ BK258.out 1 rfl
    have hcz58_2 := cb_ BK258.out 2 rfl
    have hcz58_3 := cb_ BK258.out 3 rfl
    have hfz58_0 := blk_frozen BK258.out 0
    have hfz58_1 := blk_frozen BK258.out 1
    have hfz58_2 := blk_frozen BK258.out 2
    have hfz58_3 := blk_frozen BK258.out 3
    go_wp2_with (first | ((with_reducible refine gate_callee (f := 28) rfl ?_); refine goesL_ (some 38) rfl rfl Try.func28 (by kernel_rfl) rfl #[.agg #[.slice Ao36 t266.length co36, .int .i64 t269, .int .i64 t270, .int .i64 t271], .agg #[.slice Ao21 t251.length co21, .int .i64 t254, .int .i64 t255, .int .i64 t256]] rfl ul_ ?_; (with_reducible refine (laws_eqShard.calls k _ _ t266 t269 t270 t271 _ _ t251 t254 t255 t256 false _ ?side1 ?side2 ?side3 ?side4 A42.out).mono ?_); (case side1 => repeat (first | exact (Kd.R_reads' HO268.out).2.2 | (with_reducible refine Kd.C_alloc ?_ _) | (with_reducible refine Kd.C_drewN ?_ _) | (with_reducible refine Kd.C_drew ?_))); (case side2 => exact (Kd.R_reads' HO268.out).2.1); (case side3 => repeat (first | exact (Kd.R_reads' HO253.out).2.2 | (with_reducible refine Kd.C_alloc ?_ _) | (with_reducible refine Kd.C_drewN ?_ _) | (with_reducible refine Kd.C_drew ?_))); (case side4 => exact (Kd.R_reads' HO253.out).2.1); rintro e w59 ⟨rfl, hb⟩; refine ⟨_, rfl, ?_⟩; have n0_ := am_ (Kd.R_below (ur_ HO247.out) hb); have n1_ := am_ (Kd.R_below (ur_ HO253.out) hb); have n2_ := am_ (Kd.R_below (ur_ HO261.out) hb); have n3_ := am_ (Kd.R_below (ur_ HO268.out) hb); have n4_ := am_ (bb_ BK243.out hb); have n5_ := am_ (bb_ BK258.out hb); have n6_ := am_ (bb_ BK265.out hb); have n7_ := am_ (bb_ BK273.out hb); have n8_ := am_ (below_step (ue_ HB.out) hb); clear HO247 HO253 HO261 HO268 BK243 BK258 BK265 BK273 HB; have HO247 := n0_; have HO253 := n1_; have HO261 := n2_; have HO268 := n3_; have BK243 := n4_; have BK258 := n5_; have BK265 := n6_; have BK273 := n7_; have HB := n8_; clear n0_ n1_ n2_ n3_ n4_ n5_ n6_ n7_ n8_; (try clear hb); (try clear hb2); (try clear hk); (try clear hi)))
    go_meet
    case rel => exact ⟨_, (true), (by first | rfl | (simp; done) | (simp [*]; done)), H', ⟨by first | omega | exact Nat.le_refl _⟩, ⟨by (with_reducible repeat (first | apply Kd.R_alloc | apply Kd.R_drewN | apply Kd.R_drew)); exact Kd.R_mono HO253.out (fun _ hk => by first | exact ⟨hk.2.1, hk.2.2⟩ | grind)⟩, ⟨by (with_reducible repeat (first | apply Kd.R_alloc | apply Kd.R_drewN | apply Kd.R_drew)); exact Kd.R_mono HO261.out (fun _ hk => by first | exact ⟨hk.2.1, hk.2.2⟩ | grind)⟩, ⟨by (with_reducible repeat (first | apply Kd.R_alloc | apply Kd.R_drewN | apply Kd.R_drew)); exact Kd.R_mono HO268.out (fun _ hk => by first | exact ⟨hk.2.1, hk.2.2⟩ | grind)⟩, ⟨by (with_reducible repeat first|apply bn_|apply bd_|apply ba_); exact BK243.out⟩, ⟨by (with_reducible repeat first|apply bn_|apply bd_|apply ba_); exact BK258.out⟩, ⟨by (with_reducible repeat first|apply bn_|apply bd_|apply ba_); exact BK265.out⟩, ⟨by (with_reducible repeat first|apply bn_|apply bd_|apply ba_); exact BK273.out⟩, ⟨ue_ HB.out⟩⟩
  case rest =>
   clear HC12
   try clear c2
   try clear p2
   try clear c3
   try clear c4
   try clear c4b0
   try clear c5
   try clear c22
   try clear c24
   try clear c25
   try clear c26
   try clear c27
   try clear c28
   try clear c29
   try clear c30
   try clear c37
   try clear c38
   try clear c39
   try clear c43
   try clear c44
   try clear c45
   try clear c46
   try clear c48
   try clear c49
   try clear c52
   try clear c53
   try clear c54
   try clear c56
   try clear c57
   try clear hcz14_0
   try clear hcz14_1
   try clear hcz14_2
   try clear hcz14_3
   try clear hcz16_0
   try clear hcz16_1
   try clear hcz16_2
   try clear hcz16_3
   try clear hcz23_0
   try clear hcz23_1
   try clear hcz23_2
   try clear hcz23_3
   try clear hcz25_0
   try clear hcz25_1
   try clear hcz25_2
   try clear hcz25_3
   try clear hcz31_0
   try clear hcz31_1
   try clear hcz31_2
   try clear hcz31_3
   try clear hcz33_0
   try clear hcz33_1
   try clear hcz33_2
   try clear hcz33_3
   try clear hcz40_0
   try clear hcz40_1
   try clear hcz40_2
   try clear hcz40_3
   try clear hcz47_0
   try clear hcz47_1
   try clear hcz47_2
   try clear hcz47_3
   try clear hcz50_0
   try clear hcz50_1
   try clear hcz50_2
   try clear hcz50_3
   try clear hcz55_0
   try clear hcz55_1
   try clear hcz55_2
   try clear hcz55_3
   try clear hcz58_0
   try clear hcz58_1
   try clear hcz58_2
   try clear hcz58_3
   try clear hcz6_0
   try clear hcz6_1
   try clear hcz6_2
   try clear hcz6_3
   try clear hfz14_0
   try clear hfz14_1
   try clear hfz14_2
   try clear hfz14_3
   try clear hfz16_0
   try clear hfz16_1
   try clear hfz16_2
   try clear hfz16_3
   try clear hfz23_0
   try clear hfz23_1
   try clear hfz23_2
   try clear hfz23_3
   try clear hfz25_0
   try clear hfz25_1
   try clear hfz25_2
   try clear hfz25_3
   try clear hfz31_0
   try clear hfz31_1
   try clear hfz31_2
   try clear hfz31_3
   try clear hfz33_0
   try clear hfz33_1
   try clear hfz33_2
   try clear hfz33_3
   try clear hfz40_0
   try clear hfz40_1
   try clear hfz40_2
   try clear hfz40_3
   try clear hfz47_0
   try clear hfz47_1
   try clear hfz47_2
   try clear hfz47_3
   try clear hfz50_0
   try clear hfz50_1
   try clear hfz50_2
   try clear hfz50_3
   try clear hfz55_0
   try clear hfz55_1
   try clear hfz55_2
   try clear hfz55_3
   try clear hfz58_0
   try clear hfz58_1
   try clear hfz58_2
   try clear hfz58_3
   try clear hfz6_0
   try clear hfz6_1
   try clear hfz6_2
   try clear hfz6_3
   obtain ⟨kq, x44_11, rfl, HA, HJ11, HO_259000, HO_266000, HO_274000, BK243, BK258, BK265, BK273, HB⟩ := hcut
   cases kq with
   | zero => exact absurd HA.out (by simp [laws_FnExactRaiseMark.j0])
   | succ kj11 =>
    have H := HA.out
    clear HA
    simp only [laws_FnExactRaiseMark.j0] at H
    by_cases c60 : x44_11 = true
    ·
     subst c60
     have H1 : (some false) = some r := by rw [if_pos rfl] at H; exact H
     clear H
     have H := H1
     clear H1
     exact absurd ((Option.some.inj H).trans hT.out) (by decide)
    ·
     replace c60 := Bool.eq_false_iff.mpr c60
     subst c60
     have H1 : ((laws_toShard.f kj11 l0_0 a0_1 a0_2 a0_3).bind fun bt275 => ((laws_eqShard.f kj11 t259 t262 t263 t264 bt275.1 bt275.2.1 bt275.2.2.1 bt275.2.2.2).bind fun t281 => (if t281 = true then ((laws_markShard.f kj11 t259 t262 t263 t264 1).bind fun bt282 => (if bt282.1 < 0 then (laws_FnExactRaiseMark.j1 kj11 a1 t257 true l0_0 a0_1 a0_2 a0_3 t251 t254 t255 t256 t266 t269 t270 t271) else ((laws_eqShard.f kj11 t266 t269 t270 t271 t251 t254 t255 t256).bind fun t284 => (if t284 = true then (laws_FnExactRaiseMark.j1 kj11 a1 t257 (t272 != t257) l0_0 a0_1 a0_2 a0_3 t251 t254 t255 t256 t266 t269 t270 t271) else (laws_FnExactRaiseMark.j1 kj11 a1 t257 true l0_0 a0_1 a0_2 a0_3 t251 t254 t255 t256 t266 t269 t270 t271))))) else (some false)))) = some r := by rw [if_neg (show ¬ (false = true) by decide)] at H; exact H
     clear H
     have H := H1
     clear H1
     replace H := Option.bind_eq_some_iff.mp H
     obtain ⟨⟨t275, t278, t279, t280⟩, A610, H⟩ := H
     replace H : ((laws_eqShard.f kj11 t259 t262 t263 t264 t275 t278 t279 t280).bind fun t281 => (if t281 = true then ((laws_markShard.f kj11 t259 t262 t263 t264 1).bind fun bt282 => (if bt282.1 < 0 then (laws_FnExactRaiseMark.j1 kj11 a1 t257 true l0_0 a0_1 a0_2 a0_3 t251 t254 t255 t256 t266 t269 t270 t271) else ((laws_eqShard.f kj11 t266 t269 t270 t271 t251 t254 t255 t256).bind fun t284 => (if t284 = true then (laws_FnExactRaiseMark.j1 kj11 a1 t257 (t272 != t257) l0_0 a0_1 a0_2 a0_3 t251 t254 t255 t256 t266 t269 t270 t271) else (laws_FnExactRaiseMark.j1 kj11 a1 t257 true l0_0 a0_1 a0_2 a0_3 t251 t254 t255 t256 t266 t269 t270 t271))))) else (some false))) = some r := H
     have A61 := Aside0.mk A610
     clear A610
     replace H := Option.bind_eq_some_iff.mp H
     obtain ⟨t281, A620, H⟩ := H
     replace H : (if t281 = true then ((laws_markShard.f kj11 t259 t262 t263 t264 1).bind fun bt282 => (if bt282.1 < 0 then (laws_FnExactRaiseMark.j1 kj11 a1 t257 true l0_0 a0_1 a0_2 a0_3 t251 t254 t255 t256 t266 t269 t270 t271) else ((laws_eqShard.f kj11 t266 t269 t270 t271 t251 t254 t255 t256).bind fun t284 => (if t284 = true then (laws_FnExactRaiseMark.j1 kj11 a1 t257 (t272 != t257) l0_0 a0_1 a0_2 a0_3 t251 t254 t255 t256 t266 t269 t270 t271) else (laws_FnExactRaiseMark.j1 kj11 a1 t257 true l0_0 a0_1 a0_2 a0_3 t251 t254 t255 t256 t266 t269 t270 t271))))) else (some false)) = some r := H
     have A62 := Aside0.mk A620
     clear A620
     by_cases c63 : t281 = true
     ·
      subst c63
      have H1 : ((laws_markShard.f kj11 t259 t262 t263 t264 1).bind fun bt282 => (if bt282.1 < 0 then (laws_FnExactRaiseMark.j1 kj11 a1 t257 true l0_0 a0_1 a0_2 a0_3 t251 t254 t255 t256 t266 t269 t270 t271) else ((laws_eqShard.f kj11 t266 t269 t270 t271 t251 t254 t255 t256).bind fun t284 => (if t284 = true then (laws_FnExactRaiseMark.j1 kj11 a1 t257 (t272 != t257) l0_0 a0_1 a0_2 a0_3 t251 t254 t255 t256 t266 t269 t270 t271) else (laws_FnExactRaiseMark.j1 kj11 a1 t257 true l0_0 a0_1 a0_2 a0_3 t251 t254 t255 t256 t266 t269 t270 t271))))) = some r := by rw [if_pos rfl] at H; exact H
      clear H
      have H := H1
      clear H1
      replace H := Option.bind_eq_some_iff.mp H
      obtain ⟨⟨t282, t283⟩, A640, H⟩ := H
      replace H : (if t282 < 0 then (laws_FnExactRaiseMark.j1 kj11 a1 t257 true l0_0 a0_1 a0_2 a0_3 t251 t254 t255 t256 t266 t269 t270 t271) else ((laws_eqShard.f kj11 t266 t269 t270 t271 t251 t254 t255 t256).bind fun t284 => (if t284 = true then (laws_FnExactRaiseMark.j1 kj11 a1 t257 (t272 != t257) l0_0 a0_1 a0_2 a0_3 t251 t254 t255 t256 t266 t269 t270 t271) else (laws_FnExactRaiseMark.j1 kj11 a1 t257 true l0_0 a0_1 a0_2 a0_3 t251 t254 t255 t256 t266 t269 t270 t271)))) = some r := H
      have A64 := Aside0.mk A640
      clear A640
      have HC65 := Aside0.mk H
      clear H
      try go_wp2
      have n0_ := am_ (Kd.R_drew HO_259000.out)
      have n1_ := am_ (Kd.R_drew HO_266000.out)
      have n2_ := am_ (Kd.R_drew HO_274000.out)
      have n3_ := am_ (blk_drew BK243.out)
      have n4_ := am_ (blk_drew BK258.out)
      have n5_ := am_ (blk_drew BK265.out)
      have n6_ := am_ (blk_drew BK273.out)
      have n7_ := am_ (below_drew1 HB.out)
      clear HO_259000
      clear HO_266000
      clear HO_274000
      clear BK243
      clear BK258
      clear BK265
      clear BK273
      clear HB
      have HO_259000 := n0_
      have HO_266000 := n1_
      have HO_274000 := n2_
      have BK243 := n3_
      have BK258 := n4_
      have BK265 := n5_
      have BK273 := n6_
      have HB := n7_
      clear n0_ n1_ n2_ n3_ n4_ n5_ n6_ n7_
      refine start_ (n := 5) (S := fun w' => w'.cell? ⟨gb265, 0, none⟩ = some (.slice Ao28 t259.length co28) ∧ w'.cell? ⟨gb265, 1, none⟩ = some (.int .i64 t262) ∧ w'.cell? ⟨gb265, 2, none⟩ = some (.int .i64 t263) ∧ w'.cell? ⟨gb265, 3, none⟩ = some (.int .i64 t264) ∧ w'.cell? ⟨gb243, 0, none⟩ = some (.slice A0_0 l0_0.length c0_0) ∧ w'.cell? ⟨gb243, 1, none⟩ = some (.int .i64 a0_1) ∧ w'.cell? ⟨gb243, 2, none⟩ = some (.int .i64 a0_2) ∧ w'.cell? ⟨gb243, 3, none⟩ = some (.int .i64 a0_3)) (ds := []) #[false, false, false, false, false] (by kernel_rfl) rfl rfl ⟨(blk_cell BK265.out 0).trans rfl, (blk_cell BK265.out 1).trans rfl, (blk_cell BK265.out 2).trans rfl, (blk_cell BK265.out 3).trans rfl, (blk_cell BK243.out 0).trans rfl, (blk_cell BK243.out 1).trans rfl, (blk_cell BK243.out 2).trans rfl, (blk_cell BK243.out 3).trans rfl⟩ (fun hHeld => ?_)
      generalize wc.drew = w66 at HO_259000 HO_266000 HO_274000 BK243 BK258 BK265 BK273 HB hHeld ⊢
      refine take_ (i := 0) (N := some 45) (v := ?_) (a' := ?_) #[true, false, false, false, false] rfl rfl (by kernel_rfl) (fun _ _ _ h => h) (Or.inl ⟨by rfl, ?_⟩) hHeld ?_ ?_
      rotate_left
      ·
       rintro w' ⟨s0, s1, s2, s3, s4, s5, s6, s7⟩
       go_simp
       with_reducible rfl
      rotate_left
      ·
       simp only [Act.put, List.setIfInBounds_toArray, List.set_cons_zero, List.set_cons_succ, i64_w, i32_w]
       rfl
      refine take_ (i := 1) (N := some 46) (v := ?_) (a' := ?_) #[true, true, false, false, false] rfl rfl (by kernel_rfl) (fun _ _ _ h => h) (Or.inl ⟨by rfl, ?_⟩) hHeld ?_ ?_
      rotate_left
      ·
       rintro w' ⟨s0, s1, s2, s3, s4, s5, s6, s7⟩
       go_simp
       with_reducible rfl
      rotate_left
      ·
       simp only [Act.put, List.setIfInBounds_toArray, List.set_cons_zero, List.set_cons_succ, i64_w, i32_w]
       rfl
      refine one_ (i := 2) (N := some 47) #[true, true, true, false, false] rfl rfl (by kernel_rfl) (by decide) (fun K hK => ?_)
      refine goes_ Try.func26 (by kernel_rfl) rfl #[.agg #[.slice A0_0 l0_0.length c0_0, .int .i64 a0_1, .int .i64 a0_2, .int .i64 a0_3]] (by rfl) rfl rfl ul_ ?_
      with_reducible refine (laws_toShard.calls kj11 _ _ l0_0 a0_1 a0_2 a0_3 t275 t278 t279 t280 _ ?side1 ?side2 A61.out).mono ?_
      (case side1 => repeat (first | exact (Kd.C_below HR0_0.out HB.out) | (with_reducible refine Kd.C_alloc ?_ _) | (with_reducible refine Kd.C_drewN ?_ _) | (with_reducible refine Kd.C_drew ?_)))
      (case side2 => exact HC0_0.out)
      rintro e w67 ⟨v276, rfl, ho0, hb⟩
      refine ⟨_, rfl, ?_⟩
      have n0_ := am_ (Kd.R_elder' (ur_ HO_259000.out) (Kd.R_base ho0) hb)
      have n1_ := am_ (Kd.R_elder' (ur_ HO_266000.out) (Kd.R_base ho0) hb)
      have n2_ := am_ (Kd.R_elder' (ur_ HO_274000.out) (Kd.R_base ho0) hb)
      have n3_ := am_ (Kd.R_lower (Kd.R_new' (Kd.R_new' (Kd.R_new' ho0 (Kd.R_lt (ur_ HO_259000.out))) (Kd.R_lt (ur_ HO_266000.out))) (Kd.R_lt (ur_ HO_274000.out))) (below_size (ue_ HB.out)))
      have n4_ := am_ (bb_ BK243.out hb)
      have n5_ := am_ (bb_ BK258.out hb)
      have n6_ := am_ (bb_ BK265.out hb)
      have n7_ := am_ (bb_ BK273.out hb)
      have n8_ := am_ (below_step (ue_ HB.out) hb)
      clear HO_259000
      clear HO_266000
      clear HO_274000
      clear BK243
      clear BK258
      clear BK265
      clear BK273
      clear HB
      have HO_259000 := n0_
      have HO_266000 := n1_
      have HO_274000 := n2_
      have HO277 := n3_
      have BK243 := n4_
      have BK258 := n5_
      have BK265 := n6_
      have BK273 := n7_
      have HB := n8_
      clear n0_ n1_ n2_ n3_ n4_ n5_ n6_ n7_ n8_
      (try clear hb)
      (try clear hb2)
      (try clear hk)
      (try clear hi)
      (try clear ho0)
      obtain ⟨Ao68, co68, eo68⟩ := Kd.R_slice HO277.out
      (first | subst eo68 | (injection eo68 with f1_ f2_ f3_; have f4_ := f1_.symm; have f5_ := f3_.symm; clear f1_ f2_ f3_; subst f4_; subst f5_))
      refine hK.out _ _ ⟨(blk_cell BK265.out 0).trans rfl, (blk_cell BK265.out 1).trans rfl, (blk_cell BK265.out 2).trans rfl, (blk_cell BK265.out 3).trans rfl, (blk_cell BK243.out 0).trans rfl, (blk_cell BK243.out 1).trans rfl, (blk_cell BK243.out 2).trans rfl, (blk_cell BK243.out 3).trans rfl⟩ (fun hHeld => ?_)
      clear hK K
      refine norm_ (a' := ?_) ?_ ?_
      rotate_left
      ·
       show Act.put _ (some 47) _ = _
       simp only [Act.put, List.setIfInBounds_toArray, List.set_cons_zero, List.set_cons_succ, i64_w, i32_w]
       rfl
      refine one_ (i := 3) (N := some 48) #[true, true, true, true, false] rfl rfl (by kernel_rfl) (by decide) (fun K hK => ?_)
      refine goes_ Try.func28 (by kernel_rfl) rfl #[.agg #[.slice Ao28 t259.length co28, .int .i64 t262, .int .i64 t263, .int .i64 t264], .agg #[.slice Ao68 t275.length co68, .int .i64 t278, .int .i64 t279, .int .i64 t280]] (by rfl) rfl rfl ul_ ?_
      with_reducible refine (laws_eqShard.calls kj11 _ _ t259 t262 t263 t264 _ _ t275 t278 t279 t280 true _ ?side1 ?side2 ?side3 ?side4 A62.out).mono ?_
      (case side1 => repeat (first | exact (Kd.R_reads' HO_266000.out).2.2 | (with_reducible refine Kd.C_alloc ?_ _) | (with_reducible refine Kd.C_drewN ?_ _) | (with_reducible refine Kd.C_drew ?_)))
      (case side2 => exact (Kd.R_reads' HO_266000.out).2.1)
      (case side3 => repeat (first | exact (Kd.R_reads' HO277.out).2.2 | (with_reducible refine Kd.C_alloc ?_ _) | (with_reducible refine Kd.C_drewN ?_ _) | (with_reducible refine Kd.C_drew ?_)))
      (case side4 => exact (Kd.R_reads' HO277.out).2.1)
      rintro e w69 ⟨rfl, hb⟩
      refine ⟨_, rfl, ?_⟩
      have n0_ := am_ (Kd.R_below (ur_ HO_259000.out) hb)
      have n1_ := am_ (Kd.R_below (ur_ HO_266000.out) hb)
      have n2_ := am_ (Kd.R_below (ur_ HO_274000.out) hb)
      have n3_ := am_ (Kd.R_below (ur_ HO277.out) hb)
      have n4_ := am_ (bb_ BK243.out hb)
      have n5_ := am_ (bb_ BK258.out hb)
      have n6_ := am_ (bb_ BK265.out hb)
      have n7_ := am_ (bb_ BK273.out hb)
      have n8_ := am_ (below_step (ue_ HB.out) hb)
      clear HO_259000
      clear HO_266000
      clear HO_274000
      clear HO277
      clear BK243
      clear BK258
      clear BK265
      clear BK273
      clear HB
      have HO_259000 := n0_
      have HO_266000 := n1_
      have HO_274000 := n2_
      have HO277 := n3_
      have BK243 := n4_
      have BK258 := n5_
      have BK265 := n6_
      have BK273 := n7_
      have HB := n8_
      clear n0_ n1_ n2_ n3_ n4_ n5_ n6_ n7_ n8_
      (try clear hb)
      (try clear hb2)
      (try clear hk)
      (try clear hi)
      refine hK.out _ _ ⟨(blk_cell BK265.out 0).trans rfl, (blk_cell BK265.out 1).trans rfl, (blk_cell BK265.out 2).trans rfl, (blk_cell BK265.out 3).trans rfl, (blk_cell BK243.out 0).trans rfl, (blk_cell BK243.out 1).trans rfl, (blk_cell BK243.out 2).trans rfl, (blk_cell BK243.out 3).trans rfl⟩ (fun hHeld => ?_)
      clear hK K
      refine norm_ (a' := ?_) ?_ ?_
      rotate_left
      ·
       show Act.put _ (some 48) _ = _
       simp only [Act.put, List.setIfInBounds_toArray, List.set_cons_zero, List.set_cons_succ, i64_w, i32_w]
       rfl
      refine pure_ (i := 4) (N := some 49) (v := ?_) (a' := ?_) #[true, true, true, true, true] rfl rfl (by kernel_rfl) (fun _ _ _ h => h) (Or.inl ⟨by rfl, ?_⟩) ?_ ?_
      rotate_left
      ·
       intro w'
       go_simp
       with_reducible rfl
      rotate_left
      ·
       simp only [Act.put, List.setIfInBounds_toArray, List.set_cons_zero, List.set_cons_succ, i64_w, i32_w]
       rfl
      refine done_ (by kernel_rfl) ?_
      have hnb70 := NB265_243.out
      have hnc70 := NB243_265.out
      have hnb71 := NB265_258.out
      have hnc71 := NB258_265.out
      have hnb72 := NB265_273.out
      have hnc72 := NB273_265.out
      have hcz73_0 := cb_ BK265.out 0 rfl
      have hcz73_1 := cb_ BK265.out 1 rfl
      have hcz73_2 := cb_ BK265.out 2 rfl
      have hcz73_3 := cb_ BK265.out 3 rfl
      have hfz73_0 := blk_frozen BK265.out 0
      have hfz73_1 := blk_frozen BK265.out 1
      have hfz73_2 := blk_frozen BK265.out 2
      have hfz73_3 := blk_frozen BK265.out 3
      go_upto_region 14 with (first | ((with_reducible refine gate_callee (f := 29) rfl ?_); refine goesL_ (some 52) rfl rfl Try.func29 (by kernel_rfl) rfl #[.agg #[.slice Ao28 t259.length co28, .int .i64 t262, .int .i64 t263, .int .i64 t264], .int .i64 1] rfl ul_ ?_; (with_reducible refine (laws_markShard.calls kj11 (fun k_ => some k_ = (.slice Ao28 t259.length co28 : Value).ownBlock) (.slice Ao28 t259.length co28) t259 t262 t263 t264 1 t282 t283 w _ ?side1 ?side2 A64.out).mono ?_); (case side1 => repeat (first | (with_reducible first | exact HB.out | apply below_alloc | apply pw_below_drewN | apply below_drew1 | refine below_set ?_ GE243.out | refine below_set ?_ GE258.out | refine below_set ?_ GE265.out | refine below_set ?_ GE273.out) | exact HB.out)); (case side2 => exact Kd.R_tight rfl HO_266000.out); rintro e w74 ⟨rfl, hy0, hb, hkp⟩; refine ⟨_, rfl, ?_⟩; have n0_ := am_ (Kd.R_mono (ok' := fun k_ => some k_ ≠ (.slice Ao28 t259.length co28 : Value).ownBlock ∧ some k_ ≠ (.slice Ao36 t266.length co36 : Value).ownBlock ∧ some k_ ≠ (.slice Ao68 t275.length co68 : Value).ownBlock) (Kd.R_keptB (HO_259000.out) hkp (fun k_ hk_ hs_ => by first | exact (hk_.1.1) hs_ | grind)) (fun k_ hk_ => by first | exact ⟨hk_.1.1.1, hk_.1.1.2, hk_.1.2⟩ | grind)); have n1_ := am_ (Kd.R_reok rfl hy0 (fun k_ e_ => HO_266000.out.1 k_ e_)); have n2_ := am_ (Kd.R_mono (ok' := fun k_ => some k_ ≠ (.slice Ao21 t251.length co21 : Value).ownBlock ∧ some k_ ≠ (.slice Ao28 t259.length co28 : Value).ownBlock ∧ some k_ ≠ (.slice Ao68 t275.length co68 : Value).ownBlock) (Kd.R_keptB (HO_274000.out) hkp (fun k_ hk_ hs_ => by first | exact (hk_.1.2) hs_ | grind)) (fun k_ hk_ => by first | exact ⟨hk_.1.1.1, hk_.1.1.2, hk_.1.2⟩ | grind)); have n3_ := am_ (blk_kept (g := gb243) (o := .cells #[.slice A0_0 l0_0.length c0_0, .int .i64 a0_1, .int .i64 a0_2, .int .i64 a0_3] 38 (0, 0)) (ub_ BK243.out) hkp (fun hs_ => (fun e_ => (Kd.R_ne HO_266000.out BK243.out (by decide)) e_) hs_)); have n4_ := am_ (blk_kept (g := gb258) (o := .cells #[.slice Ao21 t251.length co21, .int .i64 t254, .int .i64 t255, .int .i64 t256] 42 (0, 0)) (ub_ BK258.out) hkp (fun hs_ => (fun e_ => (Kd.R_ne HO_266000.out BK258.out (by decide)) e_) hs_)); have n5_ := am_ (blk_kept (g := gb265) (o := .cells #[.slice Ao28 t259.length co28, .int .i64 t262, .int .i64 t263, .int .i64 t264] 42 (0, 0)) (ub_ BK265.out) hkp (fun hs_ => (fun e_ => (Kd.R_ne HO_266000.out BK265.out (by decide)) e_) hs_)); have n6_ := am_ (blk_kept (g := gb273) (o := .cells #[.slice Ao36 t266.length co36, .int .i64 t269, .int .i64 t270, .int .i64 t271] 42 (0, 0)) (ub_ BK273.out) hkp (fun hs_ => (fun e_ => (Kd.R_ne HO_266000.out BK273.out (by decide)) e_) hs_)); have n7_ := am_ (Kd.R_mono (ok' := fun k_ => some k_ ≠ (.slice Ao21 t251.length co21 : Value).ownBlock ∧ some k_ ≠ (.slice Ao28 t259.length co28 : Value).ownBlock ∧ some k_ ≠ (.slice Ao36 t266.length co36 : Value).ownBlock) (Kd.R_keptB (HO277.out) hkp (fun k_ hk_ hs_ => by first | exact (hk_.1.2) hs_ | grind)) (fun k_ hk_ => by first | exact ⟨hk_.1.1.1.2, hk_.1.1.2, hk_.1.2⟩ | grind)); have n8_ := am_ (hb); clear HO_259000 HO_266000 HO_274000 BK243 BK258 BK265 BK273 HO277 HB; have HO_259000 := n0_; have HO_266000 := n1_; have HO_274000 := n2_; have BK243 := n3_; have BK258 := n4_; have BK265 := n5_; have BK273 := n6_; have HO277 := n7_; have HB := n8_; clear n0_ n1_ n2_ n3_ n4_ n5_ n6_ n7_ n8_; (try clear hb); (try clear hkp); (try clear hy0)))
      (try simp only [Act.put, List.setIfInBounds_toArray, List.set_cons_zero, List.set_cons_succ])
      go_cut [65] (fun v65 wc => ∃ (kq : Nat) (x65_64 : Bool), v65 = .bool x65_64 ∧ Aside0 (laws_FnExactRaiseMark.j1 kq a1 t257 x65_64 l0_0 a0_1 a0_2 a0_3 t251 t254 t255 t256 t266 t269 t270 t271 = some r) ∧ Aside0 (kq ≤ kj11) ∧ Aside0 (Kd.R k80 80 wc w.heap.size (fun k_ => some k_ ≠ ((.slice Ao28 t259.length co28) : Value).ownBlock ∧ some k_ ≠ ((.slice Ao36 t266.length co36) : Value).ownBlock) (.slice Ao21 t251.length co21) t251) ∧ Aside0 (Kd.R k80 80 wc w.heap.size (fun k_ => some k_ ≠ ((.slice Ao21 t251.length co21) : Value).ownBlock ∧ some k_ ≠ ((.slice Ao36 t266.length co36) : Value).ownBlock) (.slice Ao28 t259.length co28) t283) ∧ Aside0 (Kd.R k80 80 wc w.heap.size (fun k_ => some k_ ≠ ((.slice Ao21 t251.length co21) : Value).ownBlock ∧ some k_ ≠ ((.slice Ao28 t259.length co28) : Value).ownBlock) (.slice Ao36 t266.length co36) t266) ∧ Aside0 (wc.heap[gb243]? = some (.cells #[(.slice A0_0 l0_0.length c0_0), .int .i64 a0_1, .int .i64 a0_2, .int .i64 a0_3] 38 (0, 0))) ∧ Aside0 (wc.heap[gb258]? = some (.cells #[(.slice Ao21 t251.length co21), .int .i64 t254, .int .i64 t255, .int .i64 t256] 42 (0, 0))) ∧ Aside0 (wc.heap[gb265]? = some (.cells #[(.slice Ao28 t259.length co28), .int .i64 t262, .int .i64 t263, .int .i64 t264] 42 (0, 0))) ∧ Aside0 (wc.heap[gb273]? = some (.cells #[(.slice Ao36 t266.length co36), .int .i64 t269, .int .i64 t270, .int .i64 t271] 42 (0, 0))) ∧ Aside0 (Below w.heap.size w wc))
      case first =>
       have H := HC65.out
       clear HC65
       by_cases c75 : t282 < 0
       ·
        rw [if_pos c75] at H
        have c75b0 : decide (t282 < 0) = true := decide_eq_true c75
        clear c75
        (first | rw [c75b0] | (simp only [i64_w, i32_w]; rw [c75b0]) | skip)
        have H' := Aside0.mk H
        clear H
        go_wp2
        go_meet
        case rel => exact ⟨_, (true), (by first | rfl | (simp; done) | (simp [*]; done)), H', ⟨by have := HJ11.out; first | omega | exact Nat.le_refl _⟩, ⟨by (with_reducible repeat (first | apply Kd.R_alloc | apply Kd.R_drewN | apply Kd.R_drew)); exact Kd.R_mono HO_259000.out (fun _ hk => by first | exact ⟨hk.1, hk.2.1⟩ | grind)⟩, ⟨by (with_reducible repeat (first | apply Kd.R_alloc | apply Kd.R_drewN | apply Kd.R_drew)); exact Kd.R_mono HO_266000.out (fun _ hk => by first | exact ⟨hk.1.1, hk.1.2⟩ | grind)⟩, ⟨by (with_reducible repeat (first | apply Kd.R_alloc | apply Kd.R_drewN | apply Kd.R_drew)); exact Kd.R_mono HO_274000.out (fun _ hk => by first | exact ⟨hk.1, hk.2.1⟩ | grind)⟩, ⟨by (with_reducible repeat first|apply bn_|apply bd_|apply ba_); exact BK243.out⟩, ⟨by (with_reducible repeat first|apply bn_|apply bd_|apply ba_); exact BK258.out⟩, ⟨by (with_reducible repeat first|apply bn_|apply bd_|apply ba_); exact BK265.out⟩, ⟨by (with_reducible repeat first|apply bn_|apply bd_|apply ba_); exact BK273.out⟩, ⟨ue_ HB.out⟩⟩
       ·
        rw [if_neg c75] at H
        have c75b0 : decide (t282 < 0) = false := decide_eq_false c75
        clear c75
        (first | rw [c75b0] | (simp only [i64_w, i32_w]; rw [c75b0]) | skip)
        replace H := Option.bind_eq_some_iff.mp H
        obtain ⟨t284, A760, H⟩ := H
        replace H : (if t284 = true then (laws_FnExactRaiseMark.j1 kj11 a1 t257 (t272 != t257) l0_0 a0_1 a0_2 a0_3 t251 t254 t255 t256 t266 t269 t270 t271) else (laws_FnExactRaiseMark.j1 kj11 a1 t257 true l0_0 a0_1 a0_2 a0_3 t251 t254 t255 t256 t266 t269 t270 t271)) = some r := H
        have A76 := Aside0.mk A760
        clear A760
        by_cases c77 : t284 = true
        ·
         subst c77
         have H1 : (laws_FnExactRaiseMark.j1 kj11 a1 t257 (t272 != t257) l0_0 a0_1 a0_2 a0_3 t251 t254 t255 t256 t266 t269 t270 t271) = some r := by rw [if_pos rfl] at H; exact H
         clear H
         have H := H1
         clear H1
         have H' := Aside0.mk H
         clear H
         have hnb78 := NB273_243.out
         have hnc78 := NB243_273.out
         have hnb79 := NB273_258.out
         have hnc79 := NB258_273.out
         have hnb80 := NB273_265.out
         have hnc80 := NB265_273.out
         have hcz81_0 := cb_ BK273.out 0 rfl
         have hcz81_1 := cb_ BK273.out 1 rfl
         have hcz81_2 := cb_ BK273.out 2 rfl
         have hcz81_3 := cb_ BK273.out 3 rfl
         have hfz81_0 := blk_frozen BK273.out 0
         have hfz81_1 := blk_frozen BK273.out 1
         have hfz81_2 := blk_frozen BK273.out 2
         have hfz81_3 := blk_frozen BK273.out 3
         have hnb82 := NB258_243.out
         have hnc82 := NB243_258.out
         have hnb83 := NB258_265.out
         have hnc83 := NB265_258.out
         have hcz84_0 := cb_ BK258.out 0 rfl
         have hcz84_1 := cb_ BK258.out 1 rfl
         have hcz84_2 := cb_ BK258.out 2 rfl
         have hcz84_3 := cb_ BK258.out 3 rfl
         have hfz84_0 := blk_frozen BK258.out 0
         have hfz84_1 := blk_frozen BK258.out 1
         have hfz84_2 := blk_frozen BK258.out 2
         have hfz84_3 := blk_frozen BK258.out 3
         go_wp2_with (first | (go_at_call 28; (with_reducible refine (laws_eqShard.calls kj11 _ _ t266 t269 t270 t271 _ _ t251 t254 t255 t256 true _ ?side1 ?side2 ?side3 ?side4 A76.out).mono ?_); (case side1 => repeat (first | exact (Kd.R_reads' HO_274000.out).2.2 | (with_reducible refine Kd.C_alloc ?_ _) | (with_reducible refine Kd.C_drewN ?_ _) | (with_reducible refine Kd.C_drew ?_))); (case side2 => exact (Kd.R_reads' HO_274000.out).2.1); (case side3 => repeat (first | exact (Kd.R_reads' HO_259000.out).2.2 | (with_reducible refine Kd.C_alloc ?_ _) | (with_reducible refine Kd.C_drewN ?_ _) | (with_reducible refine Kd.C_drew ?_))); (case side4 => exact (Kd.R_reads' HO_259000.out).2.1); rintro e w85 ⟨rfl, hb⟩; have n0_ := am_ (Kd.R_below (ur_ HO_259000.out) hb); have n1_ := am_ (Kd.R_below (ur_ HO_266000.out) hb); have n2_ := am_ (Kd.R_below (ur_ HO_274000.out) hb); have n3_ := am_ (Kd.R_below (ur_ HO277.out) hb); have n4_ := am_ (bb_ BK243.out hb); have n5_ := am_ (bb_ BK258.out hb); have n6_ := am_ (bb_ BK265.out hb); have n7_ := am_ (bb_ BK273.out hb); have n8_ := am_ (below_step (ue_ HB.out) hb); clear HO_259000 HO_266000 HO_274000 HO277 BK243 BK258 BK265 BK273 HB; have HO_259000 := n0_; have HO_266000 := n1_; have HO_274000 := n2_; have HO277 := n3_; have BK243 := n4_; have BK258 := n5_; have BK265 := n6_; have BK273 := n7_; have HB := n8_; clear n0_ n1_ n2_ n3_ n4_ n5_ n6_ n7_ n8_; (try clear hb); (try clear hb2); (try clear hk); (try clear hi)))
         go_meet
         case rel => exact ⟨_, ((t272 != t257)), (by first | rfl | (simp; done) | (simp [*]; done)), H', ⟨by have := HJ11.out; first | omega | exact Nat.le_refl _⟩, ⟨by (with_reducible repeat (first | apply Kd.R_alloc | apply Kd.R_drewN | apply Kd.R_drew)); exact Kd.R_mono HO_259000.out (fun _ hk => by first | exact ⟨hk.1, hk.2.1⟩ | grind)⟩, ⟨by (with_reducible repeat (first | apply Kd.R_alloc | apply Kd.R_drewN | apply Kd.R_drew)); exact Kd.R_mono HO_266000.out (fun _ hk => by first | exact ⟨hk.1.1, hk.1.2⟩ | grind)⟩, ⟨by (with_reducible repeat (first | apply Kd.R_alloc | apply Kd.R_drewN | apply Kd.R_drew)); exact Kd.R_mono HO_274000.out (fun _ hk => by first | exact ⟨hk.1, hk.2.1⟩ | grind)⟩, ⟨by (with_reducible repeat first|apply bn_|apply bd_|apply ba_); exact BK243.out⟩, ⟨by (with_reducible repeat first|apply bn_|apply bd_|apply ba_); exact BK258.out⟩, ⟨by (with_reducible repeat first|apply bn_|apply bd_|apply ba_); exact BK265.out⟩, ⟨by (with_reducible repeat first|apply bn_|apply bd_|apply ba_); exact BK273.out⟩, ⟨ue_ HB.out⟩⟩
        ·
         replace c77 := Bool.eq_false_iff.mpr c77
         subst c77
         have H1 : (laws_FnExactRaiseMark.j1 kj11 a1 t257 true l0_0 a0_1 a0_2 a0_3 t251 t254 t255 t256 t266 t269 t270 t271) = some r := by rw [if_neg (show ¬ (false = true) by decide)] at H; exact H
         clear H
         have H := H1
         clear H1
         have H' := Aside0.mk H
         clear H
         have hnb86 := NB273_243.out
         have hnc86 := NB243_273.out
         have hnb87 := NB273_258.out
         have hnc87 := NB258_273.out
         have hnb88 := NB273_265.out
         have hnc88 := NB265_273.out
         have hcz89_0 := cb_ BK273.out 0 rfl
         have hcz89_1 := cb_ BK273.out 1 rfl
         have hcz89_2 := cb_ BK273.out 2 rfl
         have hcz89_3 := cb_ BK273.out 3 rfl
         have hfz89_0 := blk_frozen BK273.out 0
         have hfz89_1 := blk_frozen BK273.out 1
         have hfz89_2 := blk_frozen BK273.out 2
         have hfz89_3 := blk_frozen BK273.out 3
         have hnb90 := NB258_243.out
         have hnc90 := NB243_258.out
         have hnb91 := NB258_265.out
         have hnc91 := NB265_258.out
         have hcz92_0 := cb_ BK258.out 0 rfl
         have hcz92_1 := cb_ BK258.out 1 rfl
         have hcz92_2 := cb_ BK258.out 2 rfl
         have hcz92_3 := cb_ BK258.out 3 rfl
         have hfz92_0 := blk_frozen BK258.out 0
         have hfz92_1 := blk_frozen BK258.out 1
         have hfz92_2 := blk_frozen BK258.out 2
         have hfz92_3 := blk_frozen BK258.out 3
         go_wp2_with (first | (go_at_call 28; (with_reducible refine (laws_eqShard.calls kj11 _ _ t266 t269 t270 t271 _ _ t251 t254 t255 t256 false _ ?side1 ?side2 ?side3 ?side4 A76.out).mono ?_); (case side1 => repeat (first | exact (Kd.R_reads' HO_274000.out).2.2 | (with_reducible refine Kd.C_alloc ?_ _) | (with_reducible refine Kd.C_drewN ?_ _) | (with_reducible refine Kd.C_drew ?_))); (case side2 => exact (Kd.R_reads' HO_274000.out).2.1); (case side3 => repeat (first | exact (Kd.R_reads' HO_259000.out).2.2 | (with_reducible refine Kd.C_alloc ?_ _) | (with_reducible refine Kd.C_drewN ?_ _) | (with_reducible refine Kd.C_drew ?_))); (case side4 => exact (Kd.R_reads' HO_259000.out).2.1); rintro e w93 ⟨rfl, hb⟩; have n0_ := am_ (Kd.R_below (ur_ HO_259000.out) hb); have n1_ := am_ (Kd.R_below (ur_ HO_266000.out) hb); have n2_ := am_ (Kd.R_below (ur_ HO_274000.out) hb); have n3_ := am_ (Kd.R_below (ur_ HO277.out) hb); have n4_ := am_ (bb_ BK243.out hb); have n5_ := am_ (bb_ BK258.out hb); have n6_ := am_ (bb_ BK265.out hb); have n7_ := am_ (bb_ BK273.out hb); have n8_ := am_ (below_step (ue_ HB.out) hb); clear HO_259000 HO_266000 HO_274000 HO277 BK243 BK258 BK265 BK273 HB; have HO_259000 := n0_; have HO_266000 := n1_; have HO_274000 := n2_; have HO277 := n3_; have BK243 := n4_; have BK258 := n5_; have BK265 := n6_; have BK273 := n7_; have HB := n8_; clear n0_ n1_ n2_ n3_ n4_ n5_ n6_ n7_ n8_; (try clear hb); (try clear hb2); (try clear hk); (try clear hi)))
         go_meet
         case rel => exact ⟨_, (true), (by first | rfl | (simp; done) | (simp [*]; done)), H', ⟨by have := HJ11.out; first | omega | exact Nat.le_refl _⟩, ⟨by (with_reducible repeat (first | apply Kd.R_alloc | apply Kd.R_drewN | apply Kd.R_drew)); exact Kd.R_mono HO_259000.out (fun _ hk => by first | exact ⟨hk.1, hk.2.1⟩ | grind)⟩, ⟨by (with_reducible repeat (first | apply Kd.R_alloc | apply Kd.R_drewN | apply Kd.R_drew)); exact Kd.R_mono HO_266000.out (fun _ hk => by first | exact ⟨hk.1.1, hk.1.2⟩ | grind)⟩, ⟨by (with_reducible repeat (first | apply Kd.R_alloc | apply Kd.R_drewN | apply Kd.R_drew)); exact Kd.R_mono HO_274000.out (fun _ hk => by first | exact ⟨hk.1, hk.2.1⟩ | grind)⟩, ⟨by (with_reducible repeat first|apply bn_|apply bd_|apply ba_); exact BK243.out⟩, ⟨by (with_reducible repeat first|apply bn_|apply bd_|apply ba_); exact BK258.out⟩, ⟨by (with_reducible repeat first|apply bn_|apply bd_|apply ba_); exact BK265.out⟩, ⟨by (with_reducible repeat first|apply bn_|apply bd_|apply ba_); exact BK273.out⟩, ⟨ue_ HB.out⟩⟩
      case rest =>
       clear HC65
       try clear c2
       try clear p2
       try clear c3
       try clear c4
       try clear c4b0
       try clear c5
       try clear c6
       try clear c7
       try clear c8
       try clear c9
       try clear c22
       try clear c24
       try clear c25
       try clear c26
       try clear c27
       try clear c28
       try clear c29
       try clear c30
       try clear c37
       try clear c38
       try clear c39
       try clear c43
       try clear c44
       try clear c45
       try clear c46
       try clear c48
       try clear c49
       try clear c52
       try clear c53
       try clear c54
       try clear c56
       try clear c57
       try clear c60
       try clear c63
       try clear c70
       try clear c71
       try clear c72
       try clear c75
       try clear c75b0
       try clear c77
       try clear c78
       try clear c79
       try clear c80
       try clear c82
       try clear c83
       try clear c86
       try clear c87
       try clear c88
       try clear c90
       try clear c91
       try clear hcz14_0
       try clear hcz14_1
       try clear hcz14_2
       try clear hcz14_3
       try clear hcz16_0
       try clear hcz16_1
       try clear hcz16_2
       try clear hcz16_3
       try clear hcz23_0
       try clear hcz23_1
       try clear hcz23_2
       try clear hcz23_3
       try clear hcz25_0
       try clear hcz25_1
       try clear hcz25_2
       try clear hcz25_3
       try clear hcz31_0
       try clear hcz31_1
       try clear hcz31_2
       try clear hcz31_3
       try clear hcz33_0
       try clear hcz33_1
       try clear hcz33_2
       try clear hcz33_3
       try clear hcz40_0
       try clear hcz40_1
       try clear hcz40_2
       try clear hcz40_3
       try clear hcz47_0
       try clear hcz47_1
       try clear hcz47_2
       try clear hcz47_3
       try clear hcz50_0
       try clear hcz50_1
       try clear hcz50_2
       try clear hcz50_3
       try clear hcz55_0
       try clear hcz55_1
       try clear hcz55_2
       try clear hcz55_3
       try clear hcz58_0
       try clear hcz58_1
       try clear hcz58_2
       try clear hcz58_3
       try clear hcz6_0
       try clear hcz6_1
       try clear hcz6_2
       try clear hcz6_3
       try clear hcz73_0
       try clear hcz73_1
       try clear hcz73_2
       try clear hcz73_3
       try clear hcz81_0
       try clear hcz81_1
       try clear hcz81_2
       try clear hcz81_3
       try clear hcz84_0
       try clear hcz84_1
       try clear hcz84_2
       try clear hcz84_3
       try clear hcz89_0
       try clear hcz89_1
       try clear hcz89_2
       try clear hcz89_3
       try clear hcz92_0
       try clear hcz92_1
       try clear hcz92_2
       try clear hcz92_3
       try clear hfz14_0
       try clear hfz14_1
       try clear hfz14_2
       try clear hfz14_3
       try clear hfz16_0
       try clear hfz16_1
       try clear hfz16_2
       try clear hfz16_3
       try clear hfz23_0
       try clear hfz23_1
       try clear hfz23_2
       try clear hfz23_3
       try clear hfz25_0
       try clear hfz25_1
       try clear hfz25_2
       try clear hfz25_3
       try clear hfz31_0
       try clear hfz31_1
       try clear hfz31_2
       try clear hfz31_3
       try clear hfz33_0
       try clear hfz33_1
       try clear hfz33_2
       try clear hfz33_3
       try clear hfz40_0
       try clear hfz40_1
       try clear hfz40_2
       try clear hfz40_3
       try clear hfz47_0
       try clear hfz47_1
       try clear hfz47_2
       try clear hfz47_3
       try clear hfz50_0
       try clear hfz50_1
       try clear hfz50_2
       try clear hfz50_3
       try clear hfz55_0
       try clear hfz55_1
       try clear hfz55_2
       try clear hfz55_3
       try clear hfz58_0
       try clear hfz58_1
       try clear hfz58_2
       try clear hfz58_3
       try clear hfz6_0
       try clear hfz6_1
       try clear hfz6_2
       try clear hfz6_3
       try clear hfz73_0
       try clear hfz73_1
       try clear hfz73_2
       try clear hfz73_3
       try clear hfz81_0
       try clear hfz81_1
       try clear hfz81_2
       try clear hfz81_3
       try clear hfz84_0
       try clear hfz84_1
       try clear hfz84_2
       try clear hfz84_3
       try clear hfz89_0
       try clear hfz89_1
       try clear hfz89_2
       try clear hfz89_3
       try clear hfz92_0
       try clear hfz92_1
       try clear hfz92_2
       try clear hfz92_3
       try clear p2
       obtain ⟨kq, x65_64, rfl, HA, HJ64, HO_259000, HO_266000, HO_274000, BK243, BK258, BK265, BK273, HB⟩ := hcut
       have hl266000_64 := (Kd.R_reads' HO_266000.out).1
       rw [hl266000_64] at HO_266000
       (try simp only [hl266000_64])
       (try simp only [hl266000_64] at BK243)
       (try simp only [hl266000_64] at BK258)
       (try simp only [hl266000_64] at BK265)
       (try simp only [hl266000_64] at BK273)
       (try simp only [hl266000_64] at HO_259000)
       (try simp only [hl266000_64] at HO_274000)
       cases kq with
       | zero => exact absurd HA.out (by simp [laws_FnExactRaiseMark.j1])
       | succ kj64 =>
        have H := HA.out
        clear HA
        simp only [laws_FnExactRaiseMark.j1] at H
        by_cases c94 : x65_64 = true
        ·
         subst c94
         have H1 : (some false) = some r := by rw [if_pos rfl] at H; exact H
         clear H
         have H := H1
         clear H1
         exact absurd ((Option.some.inj H).trans hT.out) (by decide)
        ·
         replace c94 := Bool.eq_false_iff.mpr c94
         subst c94
         have H1 : ((laws_markShard.f kj64 t266 t269 t270 t271 1).bind fun bt285 => ((laws_heldShard.f kj64 bt285.2 t269 t270 t271 1).bind fun t287 => (if t287 < 0 then (some false) else (if t287 = bt285.1 then ((laws_toShard.f kj64 l0_0 a0_1 a0_2 a0_3).bind fun bt288 => ((impl_RaiseMark.f kj64 bt288.1 bt288.2.1 bt288.2.2.1 bt288.2.2.2 a1).bind fun bt294 => ((laws_eqShard.f kj64 bt294.1 bt294.2.1 bt294.2.2.1 bt294.2.2.2.1 t251 t254 t255 t256).bind fun t302 => (if t302 = true then (laws_FnExactRaiseMark.j2 kj64 bt285.1 (bt294.2.2.2.2 != t257) bt285.2 t269 t270 t271) else (laws_FnExactRaiseMark.j2 kj64 bt285.1 true bt285.2 t269 t270 t271))))) else (some false))))) = some r := by rw [if_neg (show ¬ (false = true) by decide)] at H; exact H
         clear H
         have H := H1
         clear H1
         replace H := Option.bind_eq_some_iff.mp H
         obtain ⟨⟨t285, t286⟩, A950, H⟩ := H
         replace H : ((laws_heldShard.f kj64 t286 t269 t270 t271 1).bind fun t287 => (if t287 < 0 then (some false) else (if t287 = t285 then ((laws_toShard.f kj64 l0_0 a0_1 a0_2 a0_3).bind fun bt288 => ((impl_RaiseMark.f kj64 bt288.1 bt288.2.1 bt288.2.2.1 bt288.2.2.2 a1).bind fun bt294 => ((laws_eqShard.f kj64 bt294.1 bt294.2.1 bt294.2.2.1 bt294.2.2.2.1 t251 t254 t255 t256).bind fun t302 => (if t302 = true then (laws_FnExactRaiseMark.j2 kj64 t285 (bt294.2.2.2.2 != t257) t286 t269 t270 t271) else (laws_FnExactRaiseMark.j2 kj64 t285 true t286 t269 t270 t271))))) else (some false)))) = some r := H
         have A95 := Aside0.mk A950
         clear A950
         replace H := Option.bind_eq_some_iff.mp H
         obtain ⟨t287, A960, H⟩ := H
         replace H : (if t287 < 0 then (some false) else (if t287 = t285 then ((laws_toShard.f kj64 l0_0 a0_1 a0_2 a0_3).bind fun bt288 => ((impl_RaiseMark.f kj64 bt288.1 bt288.2.1 bt288.2.2.1 bt288.2.2.2 a1).bind fun bt294 => ((laws_eqShard.f kj64 bt294.1 bt294.2.1 bt294.2.2.1 bt294.2.2.2.1 t251 t254 t255 t256).bind fun t302 => (if t302 = true then (laws_FnExactRaiseMark.j2 kj64 t285 (bt294.2.2.2.2 != t257) t286 t269 t270 t271) else (laws_FnExactRaiseMark.j2 kj64 t285 true t286 t269 t270 t271))))) else (some false))) = some r := H
         have A96 := Aside0.mk A960
         clear A960
         by_cases c97 : t287 < 0
         ·
          rw [if_pos c97] at H
          have c97b0 : decide (t287 < 0) = true := decide_eq_true c97
          clear c97
          exact absurd ((Option.some.inj H).trans hT.out) (by decide)
         ·
          rw [if_neg c97] at H
          have c97b0 : decide (t287 < 0) = false := decide_eq_false c97
          clear c97
          by_cases c98 : t287 = t285
          ·
           rw [if_pos c98] at H
           have c98b0 : (t287 == t285) = true := beq_iff_eq.mpr c98
           have c98b1 : (t287 != t285) = false := bne_eq_false_iff_eq.mpr c98
           clear c98
           replace H := Option.bind_eq_some_iff.mp H
           obtain ⟨⟨t288, t291, t292, t293⟩, A990, H⟩ := H
           replace H : ((impl_RaiseMark.f kj64 t288 t291 t292 t293 a1).bind fun bt294 => ((laws_eqShard.f kj64 bt294.1 bt294.2.1 bt294.2.2.1 bt294.2.2.2.1 t251 t254 t255 t256).bind fun t302 => (if t302 = true then (laws_FnExactRaiseMark.j2 kj64 t285 (bt294.2.2.2.2 != t257) t286 t269 t270 t271) else (laws_FnExactRaiseMark.j2 kj64 t285 true t286 t269 t270 t271)))) = some r := H
           have A99 := Aside0.mk A990
           clear A990
           replace H := Option.bind_eq_some_iff.mp H
           obtain ⟨⟨t294, t297, t298, t299, t300⟩, A1000, H⟩ := H
           replace H : ((laws_eqShard.f kj64 t294 t297 t298 t299 t251 t254 t255 t256).bind fun t302 => (if t302 = true then (laws_FnExactRaiseMark.j2 kj64 t285 (t300 != t257) t286 t269 t270 t271) else (laws_FnExactRaiseMark.j2 kj64 t285 true t286 t269 t270 t271))) = some r := H
           have A100 := Aside0.mk A1000
           clear A1000
           have HC101 := Aside0.mk H
           clear H
           have hnb102 := NB273_243.out
           have hnc102 := NB243_273.out
           have hnb103 := NB273_258.out
           have hnc103 := NB258_273.out
           have hnb104 := NB273_265.out
           have hnc104 := NB265_273.out
           have hcz105_0 := cb_ BK273.out 0 rfl
           have hcz105_1 := cb_ BK273.out 1 rfl
           have hcz105_2 := cb_ BK273.out 2 rfl
           have hcz105_3 := cb_ BK273.out 3 rfl
           have hfz105_0 := blk_frozen BK273.out 0
           have hfz105_1 := blk_frozen BK273.out 1
           have hfz105_2 := blk_frozen BK273.out 2
           have hfz105_3 := blk_frozen BK273.out 3
           go_upto_region 25 with (first | ((with_reducible refine gate_callee (f := 29) rfl ?_); refine goesL_ (some 68) rfl rfl Try.func29 (by kernel_rfl) rfl #[.agg #[.slice Ao36 t266.length co36, .int .i64 t269, .int .i64 t270, .int .i64 t271], .int .i64 1] rfl ul_ ?_; (with_reducible refine (laws_markShard.calls kj64 (fun k_ => some k_ = (.slice Ao36 t266.length co36 : Value).ownBlock) (.slice Ao36 t266.length co36) t266 t269 t270 t271 1 t285 t286 w _ ?side1 ?side2 A95.out).mono ?_); (case side1 => repeat (first | (with_reducible first | exact HB.out | apply below_alloc | apply pw_below_drewN | apply below_drew1 | refine below_set ?_ GE243.out | refine below_set ?_ GE258.out | refine below_set ?_ GE265.out | refine below_set ?_ GE273.out) | exact HB.out)); (case side2 => exact Kd.R_tight rfl HO_274000.out); rintro e w106 ⟨rfl, hy0, hb, hkp⟩; refine ⟨_, rfl, ?_⟩; have n0_ := am_ (Kd.R_mono (ok' := fun k_ => some k_ ≠ (.slice Ao28 t283.length co28 : Value).ownBlock ∧ some k_ ≠ (.slice Ao36 t266.length co36 : Value).ownBlock) (Kd.R_keptB (HO_259000.out) hkp (fun k_ hk_ hs_ => by first | exact (hk_.2) hs_ | grind)) (fun k_ hk_ => by first | exact ⟨hk_.1.1, hk_.1.2⟩ | grind)); have n1_ := am_ (Kd.R_mono (ok' := fun k_ => some k_ ≠ (.slice Ao21 t251.length co21 : Value).ownBlock ∧ some k_ ≠ (.slice Ao36 t266.length co36 : Value).ownBlock) (Kd.R_keptB (HO_266000.out) hkp (fun k_ hk_ hs_ => by first | exact (hk_.2) hs_ | grind)) (fun k_ hk_ => by first | exact ⟨hk_.1.1, hk_.1.2⟩ | grind)); have n2_ := am_ (Kd.R_reok rfl hy0 (fun k_ e_ => HO_274000.out.1 k_ e_)); have n3_ := am_ (blk_kept (g := gb243) (o := .cells #[.slice A0_0 l0_0.length c0_0, .int .i64 a0_1, .int .i64 a0_2, .int .i64 a0_3] 38 (0, 0)) (ub_ BK243.out) hkp (fun hs_ => (fun e_ => (Kd.R_ne HO_274000.out BK243.out (by decide)) e_) hs_)); have n4_ := am_ (blk_kept (g := gb258) (o := .cells #[.slice Ao21 t251.length co21, .int .i64 t254, .int .i64 t255, .int .i64 t256] 42 (0, 0)) (ub_ BK258.out) hkp (fun hs_ => (fun e_ => (Kd.R_ne HO_274000.out BK258.out (by decide)) e_) hs_)); have n5_ := am_ (blk_kept (g := gb265) (o := .cells #[.slice Ao28 t283.length co28, .int .i64 t262, .int .i64 t263, .int .i64 t264] 42 (0, 0)) (ub_ BK265.out) hkp (fun hs_ => (fun e_ => (Kd.R_ne HO_274000.out BK265.out (by decide)) e_) hs_)); have n6_ := am_ (blk_kept (g := gb273) (o := .cells #[.slice Ao36 t266.length co36, .int .i64 t269, .int .i64 t270, .int .i64 t271] 42 (0, 0)) (ub_ BK273.out) hkp (fun hs_ => (fun e_ => (Kd.R_ne HO_274000.out BK273.out (by decide)) e_) hs_)); have n7_ := am_ (hb); clear HO_259000 HO_266000 HO_274000 BK243 BK258 BK265 BK273 HB; have HO_259000 := n0_; have HO_266000 := n1_; have HO_274000 := n2_; have BK243 := n3_; have BK258 := n4_; have BK265 := n5_; have BK273 := n6_; have HB := n7_; clear n0_ n1_ n2_ n3_ n4_ n5_ n6_ n7_; (try clear hb); (try clear hkp); (try clear hy0); obtain ⟨hcz107_0, hcz107_1, hcz107_2, hcz107_3⟩ := cb4_ BK273.out; obtain ⟨hfz107_0, hfz107_1, hfz107_2⟩ := bf3_ BK273.out; have hfz107_3 := blk_frozen BK273.out 3) | ((with_reducible refine gate_callee (f := 30) rfl ?_); refine goesL_ (some 71) rfl rfl Try.func30 (by kernel_rfl) rfl #[.agg #[.slice Ao36 t286.length co36, .int .i64 t269, .int .i64 t270, .int .i64 t271], .int .i64 1] rfl (by (try simp only [List.map_toArray, List.map_cons, List.map_nil]); first | done | (rw [show t286.length = t266.length from (Kd.R_reads' HO_274000.out).1.symm] <;> rfl) | rfl | (simp only [List.length_drop, List.length_take]; rfl)) ?_; (with_reducible refine (laws_heldShard.calls kj64 _ _ t286 t269 t270 t271 1 t287 _ ?side1 ?side2 A96.out).mono ?_); (case side1 => repeat (first | exact (Kd.R_reads' HO_274000.out).2.2 | (with_reducible refine Kd.C_alloc ?_ _) | (with_reducible refine Kd.C_drewN ?_ _) | (with_reducible refine Kd.C_drew ?_))); (case side2 => rw [show t286.length = t266.length from (Kd.R_reads' HO_274000.out).1.symm]; exact (Kd.R_reads' HO_274000.out).2.1); rintro e w108 ⟨rfl, hb⟩; refine ⟨_, rfl, ?_⟩; have n0_ := am_ (Kd.R_below (ur_ HO_259000.out) hb); have n1_ := am_ (Kd.R_below (ur_ HO_266000.out) hb); have n2_ := am_ (Kd.R_below (ur_ HO_274000.out) hb); have n3_ := am_ (bb_ BK243.out hb); have n4_ := am_ (bb_ BK258.out hb); have n5_ := am_ (bb_ BK265.out hb); have n6_ := am_ (bb_ BK273.out hb); have n7_ := am_ (below_step (ue_ HB.out) hb); clear HO_259000 HO_266000 HO_274000 BK243 BK258 BK265 BK273 HB; have HO_259000 := n0_; have HO_266000 := n1_; have HO_274000 := n2_; have BK243 := n3_; have BK258 := n4_; have BK265 := n5_; have BK273 := n6_; have HB := n7_; clear n0_ n1_ n2_ n3_ n4_ n5_ n6_ n7_; (try clear hb); (try clear hb2); (try clear hk); (try clear hi); have hnb109 := NB243_258.out; have hnc109 := NB258_243.out; have hnb110 := NB243_265.out; have hnc110 := NB265_243.out; obtain ⟨hcz111_0, hcz111_1, hcz111_2, hcz111_3⟩ := cb4_ BK243.out; obtain ⟨hfz111_0, hfz111_1, hfz111_2⟩ := bf3_ BK243.out; have hfz111_3 := blk_frozen BK243.out 3) | ((with_reducible refine gate_callee (f := 26) rfl ?_); refine goesL_ (some 79) rfl rfl Try.func26 (by kernel_rfl) rfl #[.agg #[.slice A0_0 l0_0.length c0_0, .int .i64 a0_1, .int .i64 a0_2, .int .i64 a0_3]] rfl ul_ ?_; (with_reducible refine (laws_toShard.calls kj64 _ _ l0_0 a0_1 a0_2 a0_3 t288 t291 t292 t293 _ ?side1 ?side2 A99.out).mono ?_); (case side1 => repeat (first | exact (Kd.C_below HR0_0.out HB.out) | (with_reducible refine Kd.C_alloc ?_ _) | (with_reducible refine Kd.C_drewN ?_ _) | (with_reducible refine Kd.C_drew ?_))); (case side2 => exact HC0_0.out); rintro e w112 ⟨v289, rfl, ho0, hb⟩; refine ⟨_, rfl, ?_⟩; have n0_ := am_ (Kd.R_elder' (ur_ HO_259000.out) (Kd.R_base ho0) hb); have n1_ := am_ (Kd.R_elder' (ur_ HO_266000.out) (Kd.R_base ho0) hb); have n2_ := am_ (Kd.R_elder' (ur_ HO_274000.out) (Kd.R_base ho0) hb); have n3_ := am_ (Kd.R_lower (Kd.R_new' (Kd.R_new' (Kd.R_new' ho0 (Kd.R_lt (ur_ HO_259000.out))) (Kd.R_lt (ur_ HO_266000.out))) (Kd.R_lt (ur_ HO_274000.out))) (below_size (ue_ HB.out))); have n4_ := am_ (bb_ BK243.out hb); have n5_ := am_ (bb_ BK258.out hb); have n6_ := am_ (bb_ BK265.out hb); have n7_ := am_ (bb_ BK273.out hb); have n8_ := am_ (below_step (ue_ HB.out) hb); clear HO_259000 HO_266000 HO_274000 BK243 BK258 BK265 BK273 HB; have HO_259000 := n0_; have HO_266000 := n1_; have HO_274000 := n2_; have HO290 := n3_; have BK243 := n4_; have BK258 := n5_; have BK265 := n6_; have BK273 := n7_; have HB := n8_; clear n0_ n1_ n2_ n3_ n4_ n5_ n6_ n7_ n8_; (try clear hb); (try clear hb2); (try clear hk); (try clear hi); (try clear ho0); obtain ⟨Ao113, co113, eo113⟩ := Kd.R_slice HO290.out; subst eo113) | ((with_reducible refine gate_callee (f := 27) rfl ?_); refine goesL_ (some 81) rfl rfl Try.func27 (by kernel_rfl) rfl #[.agg #[.slice Ao113 t288.length co113, .int .i64 t291, .int .i64 t292, .int .i64 t293], .int .i64 a1] rfl ul_ ?_; (with_reducible refine (impl_RaiseMark.calls kj64 _ _ t288 t291 t292 t293 a1 t294 t297 t298 t299 t300 _ ?side1 ?side2 A100.out).mono ?_); (case side1 => repeat (first | exact (Kd.R_reads' HO290.out).2.2 | (with_reducible refine Kd.C_alloc ?_ _) | (with_reducible refine Kd.C_drewN ?_ _) | (with_reducible refine Kd.C_drew ?_))); (case side2 => exact (Kd.R_reads' HO290.out).2.1); rintro e w114 ⟨v295, rfl, ho0, hb⟩; refine ⟨_, rfl, ?_⟩; have n0_ := am_ (Kd.R_elder' (ur_ HO_259000.out) (Kd.R_base ho0) hb); have n1_ := am_ (Kd.R_elder' (ur_ HO_266000.out) (Kd.R_base ho0) hb); have n2_ := am_ (Kd.R_elder' (ur_ HO_274000.out) (Kd.R_base ho0) hb); have n3_ := am_ (Kd.R_elder' (ur_ HO290.out) (Kd.R_base ho0) hb); have n4_ := am_ (Kd.R_lower (Kd.R_new' (Kd.R_new' (Kd.R_new' (Kd.R_new' ho0 (Kd.R_lt (ur_ HO_259000.out))) (Kd.R_lt (ur_ HO_266000.out))) (Kd.R_lt (ur_ HO_274000.out))) (Kd.R_lt (ur_ HO290.out))) (below_size (ue_ HB.out))); have n5_ := am_ (bb_ BK243.out hb); have n6_ := am_ (bb_ BK258.out hb); have n7_ := am_ (bb_ BK265.out hb); have n8_ := am_ (bb_ BK273.out hb); have n9_ := am_ (below_step (ue_ HB.out) hb); clear HO_259000 HO_266000 HO_274000 HO290 BK243 BK258 BK265 BK273 HB; have HO_259000 := n0_; have HO_266000 := n1_; have HO_274000 := n2_; have HO290 := n3_; have HO296 := n4_; have BK243 := n5_; have BK258 := n6_; have BK265 := n7_; have BK273 := n8_; have HB := n9_; clear n0_ n1_ n2_ n3_ n4_ n5_ n6_ n7_ n8_ n9_; (try clear hb); (try clear hb2); (try clear hk); (try clear hi); (try clear ho0)) | ((with_reducible refine gate_dst (N := 14) rfl ?_); refine box_event ?hg (N := 14) ?hd (cs := #[.slice none 0 0, .int .i64 0, .int .i64 0, .int .i64 0]) (t := 42) ?hr ?_; (case hd => rfl); (case hg => rfl); (case hr => first | (go_simp; done) | (go_simp; rfl)); intro gb301 hg w115 hbox hb; have n0_ := am_ (Kd.R_below (ur_ HO_259000.out) hb); have n1_ := am_ (Kd.R_below (ur_ HO_266000.out) hb); have n2_ := am_ (Kd.R_below (ur_ HO_274000.out) hb); have n3_ := am_ (Kd.R_below (ur_ HO290.out) hb); have n4_ := am_ (Kd.R_below (ur_ HO296.out) hb); have n5_ := am_ (bb_ BK243.out hb); have n6_ := am_ (bb_ BK258.out hb); have n7_ := am_ (bb_ BK265.out hb); have n8_ := am_ (bb_ BK273.out hb); have n9_ := am_ (below_step (ue_ HB.out) hb); have n10_ := am_ (hbox); have n11_ := am_ ((by rw [hg]; exact (below_size (ue_ HB.out)) : w.heap.size ≤ gb301)); have n12_ := am_ ((by rw [hg]; exact (below_size (ue_ HB.out)) : w.heap.size ≤ gb301)); have n13_ := am_ ((by rw [hg]; exact Nat.ne_of_lt (bl_ BK243.out) : gb243 ≠ gb301)); have n14_ := am_ ((by rw [hg]; exact Nat.ne_of_gt (bl_ BK243.out) : gb301 ≠ gb243)); have n15_ := am_ ((by rw [hg]; exact Nat.ne_of_lt (bl_ BK258.out) : gb258 ≠ gb301)); have n16_ := am_ ((by rw [hg]; exact Nat.ne_of_gt (bl_ BK258.out) : gb301 ≠ gb258)); have n17_ := am_ ((by rw [hg]; exact Nat.ne_of_lt (bl_ BK265.out) : gb265 ≠ gb301)); have n18_ := am_ ((by rw [hg]; exact Nat.ne_of_gt (bl_ BK265.out) : gb301 ≠ gb265)); have n19_ := am_ ((by rw [hg]; exact Nat.ne_of_lt (bl_ BK273.out) : gb273 ≠ gb301)); have n20_ := am_ ((by rw [hg]; exact Nat.ne_of_gt (bl_ BK273.out) : gb301 ≠ gb273)); clear HO_259000 HO_266000 HO_274000 HO290 HO296 BK243 BK258 BK265 BK273 HB; have HO_259000 := n0_; have HO_266000 := n1_; have HO_274000 := n2_; have HO290 := n3_; have HO296 := n4_; have BK243 := n5_; have BK258 := n6_; have BK265 := n7_; have BK273 := n8_; have HB := n9_; have BK301 := n10_; have GW301 := n11_; have GE301 := n12_; have NB243_301 := n13_; have NB301_243 := n14_; have NB258_301 := n15_; have NB301_258 := n16_; have NB265_301 := n17_; have NB301_265 := n18_; have NB273_301 := n19_; have NB301_273 := n20_; clear n0_ n1_ n2_ n3_ n4_ n5_ n6_ n7_ n8_ n9_ n10_ n11_ n12_ n13_ n14_ n15_ n16_ n17_ n18_ n19_ n20_; clear hb hbox hg; obtain ⟨Ao116, co116, eo116⟩ := Kd.R_slice HO296.out; subst eo116; have hnb117 := NB301_243.out; have hnc117 := NB243_301.out; have hnb118 := NB301_258.out; have hnc118 := NB258_301.out; have hnb119 := NB301_265.out; have hnc119 := NB265_301.out; have hnb120 := NB301_273.out; have hnc120 := NB273_301.out; obtain ⟨hcz121_0, hcz121_1, hcz121_2, hcz121_3⟩ := cb4_ BK301.out; obtain ⟨hfz121_0, hfz121_1, hfz121_2⟩ := bf3_ BK301.out; have hfz121_3 := blk_frozen BK301.out 3) | ((with_reducible refine gate_store (t := 42) (p := 14) rfl ?_); refine store_event (t := 42) (p := 14) (v := ?vo_w122) (w1 := ((((w115.setCell ⟨gb301, 0, none⟩ (.slice Ao116 t294.length co116)).setCell ⟨gb301, 1, none⟩ (.int .i64 t297)).setCell ⟨gb301, 2, none⟩ (.int .i64 t298)).setCell ⟨gb301, 3, none⟩ (.int .i64 t299))) ?hg ?ho ?hn ?hr ?_; (case ho => rfl); (case hg => rfl); (case hn => rfl); (case hr => first | (go_simp; done) | (go_simp; rfl)); intro w122 hw; have n0_ : Aside0 (Kd.R k80 80 w122 w.heap.size (fun k_ => some k_ ≠ (.slice Ao28 t283.length co28 : Value).ownBlock ∧ some k_ ≠ (.slice Ao36 t266.length co36 : Value).ownBlock ∧ some k_ ≠ (.slice Ao113 t288.length co113 : Value).ownBlock ∧ some k_ ≠ (.slice Ao116 t294.length co116 : Value).ownBlock) (.slice Ao21 t251.length co21) t251) := ⟨(by rw [hw]; exact (by (with_reducible repeat (first | apply Kd.R_alloc | apply Kd.R_drewN | apply Kd.R_drew)); exact Kd.R_mono (Kd.R_far (p := ⟨gb301, 3, none⟩) (Kd.R_far (p := ⟨gb301, 2, none⟩) (Kd.R_far (p := ⟨gb301, 1, none⟩) (Kd.R_far (p := ⟨gb301, 0, none⟩) (Kd.R_types HO_259000.out BK301.out (by decide)) (fun _ hk => by first | exact hk.2 | grind) (.slice Ao116 t294.length co116)) (fun _ hk => by first | exact hk.2 | grind) (.int .i64 t297)) (fun _ hk => by first | exact hk.2 | grind) (.int .i64 t298)) (fun _ hk => by first | exact hk.2 | grind) (.int .i64 t299)) (fun _ hk => by first | exact ⟨hk.1.1.1.1, ⟨hk.1.1.1.2, ⟨hk.1.1.2, hk.1.2⟩⟩⟩ | grind)))⟩; have n1_ : Aside0 (Kd.R k80 80 w122 w.heap.size (fun k_ => some k_ ≠ (.slice Ao21 t251.length co21 : Value).ownBlock ∧ some k_ ≠ (.slice Ao36 t266.length co36 : Value).ownBlock ∧ some k_ ≠ (.slice Ao113 t288.length co113 : Value).ownBlock ∧ some k_ ≠ (.slice Ao116 t294.length co116 : Value).ownBlock) (.slice Ao28 t283.length co28) t283) := ⟨(by rw [hw]; exact (by (with_reducible repeat (first | apply Kd.R_alloc | apply Kd.R_drewN | apply Kd.R_drew)); exact Kd.R_mono (Kd.R_far (p := ⟨gb301, 3, none⟩) (Kd.R_far (p := ⟨gb301, 2, none⟩) (Kd.R_far (p := ⟨gb301, 1, none⟩) (Kd.R_far (p := ⟨gb301, 0, none⟩) (Kd.R_types HO_266000.out BK301.out (by decide)) (fun _ hk => by first | exact hk.2 | grind) (.slice Ao116 t294.length co116)) (fun _ hk => by first | exact hk.2 | grind) (.int .i64 t297)) (fun _ hk => by first | exact hk.2 | grind) (.int .i64 t298)) (fun _ hk => by first | exact hk.2 | grind) (.int .i64 t299)) (fun _ hk => by first | exact ⟨hk.1.1.1.1, ⟨hk.1.1.1.2, ⟨hk.1.1.2, hk.1.2⟩⟩⟩ | grind)))⟩; have n2_ : Aside0 (Kd.R k80 80 w122 w.heap.size (fun k_ => some k_ ≠ (.slice Ao21 t251.length co21 : Value).ownBlock ∧ some k_ ≠ (.slice Ao28 t283.length co28 : Value).ownBlock ∧ some k_ ≠ (.slice Ao113 t288.length co113 : Value).ownBlock ∧ some k_ ≠ (.slice Ao116 t294.length co116 : Value).ownBlock) (.slice Ao36 t266.length co36) t286) := ⟨(by rw [hw]; exact (by (with_reducible repeat (first | apply Kd.R_alloc | apply Kd.R_drewN | apply Kd.R_drew)); exact Kd.R_mono (Kd.R_far (p := ⟨gb301, 3, none⟩) (Kd.R_far (p := ⟨gb301, 2, none⟩) (Kd.R_far (p := ⟨gb301, 1, none⟩) (Kd.R_far (p := ⟨gb301, 0, none⟩) (Kd.R_types HO_274000.out BK301.out (by decide)) (fun _ hk => by first | exact hk.2 | grind) (.slice Ao116 t294.length co116)) (fun _ hk => by first | exact hk.2 | grind) (.int .i64 t297)) (fun _ hk => by first | exact hk.2 | grind) (.int .i64 t298)) (fun _ hk => by first | exact hk.2 | grind) (.int .i64 t299)) (fun _ hk => by first | exact ⟨hk.1.1.1.1, ⟨hk.1.1.1.2, ⟨hk.1.1.2, hk.1.2⟩⟩⟩ | grind)))⟩; have n3_ : Aside0 (Kd.R k80 80 w122 w.heap.size (fun k_ => some k_ ≠ (.slice Ao21 t251.length co21 : Value).ownBlock ∧ some k_ ≠ (.slice Ao28 t283.length co28 : Value).ownBlock ∧ some k_ ≠ (.slice Ao36 t266.length co36 : Value).ownBlock ∧ some k_ ≠ (.slice Ao116 t294.length co116 : Value).ownBlock) (.slice Ao113 t288.length co113) t288) := ⟨(by rw [hw]; exact (by (with_reducible repeat (first | apply Kd.R_alloc | apply Kd.R_drewN | apply Kd.R_drew)); exact Kd.R_mono (Kd.R_far (p := ⟨gb301, 3, none⟩) (Kd.R_far (p := ⟨gb301, 2, none⟩) (Kd.R_far (p := ⟨gb301, 1, none⟩) (Kd.R_far (p := ⟨gb301, 0, none⟩) (Kd.R_types HO290.out BK301.out (by decide)) (fun _ hk => by first | exact hk.2 | grind) (.slice Ao116 t294.length co116)) (fun _ hk => by first | exact hk.2 | grind) (.int .i64 t297)) (fun _ hk => by first | exact hk.2 | grind) (.int .i64 t298)) (fun _ hk => by first | exact hk.2 | grind) (.int .i64 t299)) (fun _ hk => by first | exact ⟨hk.1.1.1.1.2, ⟨hk.1.1.1.2, ⟨hk.1.1.2, hk.1.2⟩⟩⟩ | grind)))⟩; have n4_ : Aside0 (Kd.R k80 80 w122 w.heap.size (fun k_ => some k_ ≠ (.slice Ao21 t251.length co21 : Value).ownBlock ∧ some k_ ≠ (.slice Ao28 t283.length co28 : Value).ownBlock ∧ some k_ ≠ (.slice Ao36 t266.length co36 : Value).ownBlock ∧ some k_ ≠ (.slice Ao113 t288.length co113 : Value).ownBlock) (.slice Ao116 t294.length co116) t294) := ⟨(by rw [hw]; exact (by (with_reducible repeat (first | apply Kd.R_alloc | apply Kd.R_drewN | apply Kd.R_drew)); exact Kd.R_mono (Kd.R_far (p := ⟨gb301, 3, none⟩) (Kd.R_far (p := ⟨gb301, 2, none⟩) (Kd.R_far (p := ⟨gb301, 1, none⟩) (Kd.R_far (p := ⟨gb301, 0, none⟩) (Kd.R_types HO296.out BK301.out (by decide)) (fun _ hk => by first | exact hk.2 | grind) (.slice Ao116 t294.length co116)) (fun _ hk => by first | exact hk.2 | grind) (.int .i64 t297)) (fun _ hk => by first | exact hk.2 | grind) (.int .i64 t298)) (fun _ hk => by first | exact hk.2 | grind) (.int .i64 t299)) (fun _ hk => by first | exact ⟨hk.1.1.1.1.2, ⟨hk.1.1.1.2, ⟨hk.1.1.2, hk.1.2⟩⟩⟩ | grind)))⟩; have n5_ : Aside0 (w122.heap[gb243]? = some (.cells #[.slice A0_0 l0_0.length c0_0, .int .i64 a0_1, .int .i64 a0_2, .int .i64 a0_3] 38 (0, 0))) := ⟨(by rw [hw]; exact (uf_ BK243.out))⟩; have n6_ : Aside0 (w122.heap[gb258]? = some (.cells #[.slice Ao21 t251.length co21, .int .i64 t254, .int .i64 t255, .int .i64 t256] 42 (0, 0))) := ⟨(by rw [hw]; exact (uf_ BK258.out))⟩; have n7_ : Aside0 (w122.heap[gb265]? = some (.cells #[.slice Ao28 t283.length co28, .int .i64 t262, .int .i64 t263, .int .i64 t264] 42 (0, 0))) := ⟨(by rw [hw]; exact (uf_ BK265.out))⟩; have n8_ : Aside0 (w122.heap[gb273]? = some (.cells #[.slice Ao36 t266.length co36, .int .i64 t269, .int .i64 t270, .int .i64 t271] 42 (0, 0))) := ⟨(by rw [hw]; exact (uf_ BK273.out))⟩; have n9_ : Aside0 (w122.heap[gb301]? = some (.cells #[.slice Ao116 t294.length co116, .int .i64 t297, .int .i64 t298, .int .i64 t299] 42 (0, 0))) := ⟨(by rw [hw]; exact (by (with_reducible repeat first|apply bn_|apply bd_|apply ba_); refine blk_put (cs := #[.slice Ao116 t294.length co116, .int .i64 t297, .int .i64 t298, .int .i64 0]) ?_ 3 _ rfl; refine blk_put (cs := #[.slice Ao116 t294.length co116, .int .i64 t297, .int .i64 0, .int .i64 0]) ?_ 2 _ rfl; refine blk_put (cs := #[.slice Ao116 t294.length co116, .int .i64 0, .int .i64 0, .int .i64 0]) ?_ 1 _ rfl; refine blk_put (cs := #[.slice none 0 0, .int .i64 0, .int .i64 0, .int .i64 0]) ?_ 0 _ rfl; (with_reducible repeat first|apply bn_|apply bd_|apply ba_); exact BK301.out))⟩; have n10_ : Aside0 (Below w.heap.size w w122) := ⟨(by rw [hw]; exact (ue_ HB.out))⟩; clear hw HO_259000 HO_266000 HO_274000 HO290 HO296 BK243 BK258 BK265 BK273 BK301 HB; have HO_259000 := n0_; have HO_266000 := n1_; have HO_274000 := n2_; have HO290 := n3_; have HO296 := n4_; have BK243 := n5_; have BK258 := n6_; have BK265 := n7_; have BK273 := n8_; have BK301 := n9_; have HB := n10_; clear n0_ n1_ n2_ n3_ n4_ n5_ n6_ n7_ n8_ n9_ n10_))
           (try simp only [Act.put, List.setIfInBounds_toArray, List.set_cons_zero, List.set_cons_succ])
           go_cut [92] (fun v92 wc => ∃ (kq : Nat) (x92_100 : Bool), v92 = .bool x92_100 ∧ Aside0 (laws_FnExactRaiseMark.j2 kq t285 x92_100 t286 t269 t270 t271 = some r) ∧ Aside0 (kq ≤ kj64) ∧ Aside0 (Kd.R k80 80 wc w.heap.size (fun k_ => some k_ ≠ ((.slice Ao28 t283.length co28) : Value).ownBlock ∧ some k_ ≠ ((.slice Ao36 t266.length co36) : Value).ownBlock ∧ some k_ ≠ ((.slice Ao116 t294.length co116) : Value).ownBlock) (.slice Ao21 t251.length co21) t251) ∧ Aside0 (Kd.R k80 80 wc w.heap.size (fun k_ => some k_ ≠ ((.slice Ao21 t251.length co21) : Value).ownBlock ∧ some k_ ≠ ((.slice Ao36 t266.length co36) : Value).ownBlock ∧ some k_ ≠ ((.slice Ao116 t294.length co116) : Value).ownBlock) (.slice Ao28 t283.length co28) t283) ∧ Aside0 (Kd.R k80 80 wc w.heap.size (fun k_ => some k_ ≠ ((.slice Ao21 t251.length co21) : Value).ownBlock ∧ some k_ ≠ ((.slice Ao28 t283.length co28) : Value).ownBlock ∧ some k_ ≠ ((.slice Ao116 t294.length co116) : Value).ownBlock) (.slice Ao36 t266.length co36) t286) ∧ Aside0 (Kd.R k80 80 wc w.heap.size (fun k_ => some k_ ≠ ((.slice Ao21 t251.length co21) : Value).ownBlock ∧ some k_ ≠ ((.slice Ao28 t283.length co28) : Value).ownBlock ∧ some k_ ≠ ((.slice Ao36 t266.length co36) : Value).ownBlock) (.slice Ao116 t294.length co116) t294) ∧ Aside0 (wc.heap[gb243]? = some (.cells #[(.slice A0_0 l0_0.length c0_0), .int .i64 a0_1, .int .i64 a0_2, .int .i64 a0_3] 38 (0, 0))) ∧ Aside0 (wc.heap[gb258]? = some (.cells #[(.slice Ao21 t251.length co21), .int .i64 t254, .int .i64 t255, .int .i64 t256] 42 (0, 0))) ∧ Aside0 (wc.heap[gb265]? = some (.cells #[(.slice Ao28 t283.length co28), .int .i64 t262, .int .i64 t263, .int .i64 t264] 42 (0, 0))) ∧ Aside0 (wc.heap[gb273]? = some (.cells #[(.slice Ao36 t266.length co36), .int .i64 t269, .int .i64 t270, .int .i64 t271] 42 (0, 0))) ∧ Aside0 (wc.heap[gb301]? = some (.cells #[(.slice Ao116 t294.length co116), .int .i64 t297, .int .i64 t298, .int .i64 t299] 42 (0, 0))) ∧ Aside0 (Below w.heap.size w wc))
           case first =>
            have H := HC101.out
            clear HC101
            replace H := Option.bind_eq_some_iff.mp H
            obtain ⟨t302, A1230, H⟩ := H
            replace H : (if t302 = true then (laws_FnExactRaiseMark.j2 kj64 t285 (t300 != t257) t286 t269 t270 t271) else (laws_FnExactRaiseMark.j2 kj64 t285 true t286 t269 t270 t271)) = some r := H
            have A123 := Aside0.mk A1230
            clear A1230
            by_cases c124 : t302 = true
            ·
             subst c124
             have H1 : (laws_FnExactRaiseMark.j2 kj64 t285 (t300 != t257) t286 t269 t270 t271) = some r := by rw [if_pos rfl] at H; exact H
             clear H
             have H := H1
             clear H1
             have H' := Aside0.mk H
             clear H
             have hnb125 := NB301_243.out
             have hnc125 := NB243_301.out
             have hnb126 := NB301_258.out
             have hnc126 := NB258_301.out
             have hnb127 := NB301_265.out
             have hnc127 := NB265_301.out
             have hnb128 := NB301_273.out
             have hnc128 := NB273_301.out
             have hcz129_0 := cb_ BK301.out 0 rfl
             have hcz129_1 := cb_ BK301.out 1 rfl
             have hcz129_2 := cb_ BK301.out 2 rfl
             have hcz129_3 := cb_ BK301.out 3 rfl
             have hfz129_0 := blk_frozen BK301.out 0
             have hfz129_1 := blk_frozen BK301.out 1
             have hfz129_2 := blk_frozen BK301.out 2
             have hfz129_3 := blk_frozen BK301.out 3
             have hnb130 := NB258_243.out
             have hnc130 := NB243_258.out
             have hnb131 := NB258_265.out
             have hnc131 := NB265_258.out
             have hnb132 := NB258_273.out
             have hnc132 := NB273_258.out
             have hcz133_0 := cb_ BK258.out 0 rfl
             have hcz133_1 := cb_ BK258.out 1 rfl
             have hcz133_2 := cb_ BK258.out 2 rfl
             have hcz133_3 := cb_ BK258.out 3 rfl
             have hfz133_0 := blk_frozen BK258.out 0
             have hfz133_1 := blk_frozen BK258.out 1
             have hfz133_2 := blk_frozen BK258.out 2
             have hfz133_3 := blk_frozen BK258.out 3
             go_wp2_with (first | ((with_reducible refine gate_callee (f := 28) rfl ?_); refine goesL_ (some 86) rfl rfl Try.func28 (by kernel_rfl) rfl #[.agg #[.slice Ao116 t294.length co116, .int .i64 t297, .int .i64 t298, .int .i64 t299], .agg #[.slice Ao21 t251.length co21, .int .i64 t254, .int .i64 t255, .int .i64 t256]] rfl ul_ ?_; (with_reducible refine (laws_eqShard.calls kj64 _ _ t294 t297 t298 t299 _ _ t251 t254 t255 t256 true _ ?side1 ?side2 ?side3 ?side4 A123.out).mono ?_); (case side1 => repeat (first | exact (Kd.R_reads' HO296.out).2.2 | (with_reducible refine Kd.C_alloc ?_ _) | (with_reducible refine Kd.C_drewN ?_ _) | (with_reducible refine Kd.C_drew ?_))); (case side2 => exact (Kd.R_reads' HO296.out).2.1); (case side3 => repeat (first | exact (Kd.R_reads' HO_259000.out).2.2 | (with_reducible refine Kd.C_alloc ?_ _) | (with_reducible refine Kd.C_drewN ?_ _) | (with_reducible refine Kd.C_drew ?_))); (case side4 => exact (Kd.R_reads' HO_259000.out).2.1); rintro e w134 ⟨rfl, hb⟩; refine ⟨_, rfl, ?_⟩; have n0_ := am_ (Kd.R_below (ur_ HO_259000.out) hb); have n1_ := am_ (Kd.R_below (ur_ HO_266000.out) hb); have n2_ := am_ (Kd.R_below (ur_ HO_274000.out) hb); have n3_ := am_ (Kd.R_below (ur_ HO290.out) hb); have n4_ := am_ (Kd.R_below (ur_ HO296.out) hb); have n5_ := am_ (bb_ BK243.out hb); have n6_ := am_ (bb_ BK258.out hb); have n7_ := am_ (bb_ BK265.out hb); have n8_ := am_ (bb_ BK273.out hb); have n9_ := am_ (bb_ BK301.out hb); have n10_ := am_ (below_step (ue_ HB.out) hb); clear HO_259000 HO_266000 HO_274000 HO290 HO296 BK243 BK258 BK265 BK273 BK301 HB; have HO_259000 := n0_; have HO_266000 := n1_; have HO_274000 := n2_; have HO290 := n3_; have HO296 := n4_; have BK243 := n5_; have BK258 := n6_; have BK265 := n7_; have BK273 := n8_; have BK301 := n9_; have HB := n10_; clear n0_ n1_ n2_ n3_ n4_ n5_ n6_ n7_ n8_ n9_ n10_; (try clear hb); (try clear hb2); (try clear hk); (try clear hi)))
             go_meet
             case rel => exact ⟨_, ((t300 != t257)), (by first | rfl | (simp; done) | (simp [*]; done)), H', ⟨by have := HJ11.out; have := HJ64.out; first | omega | exact Nat.le_refl _⟩, ⟨by (try simp only [hl266000_64]); (with_reducible repeat (first | apply Kd.R_alloc | apply Kd.R_drewN | apply Kd.R_drew)); exact Kd.R_mono HO_259000.out (fun _ hk => by first | exact ⟨hk.1, ⟨hk.2.1, hk.2.2.2⟩⟩ | grind)⟩, ⟨by (try simp only [hl266000_64]); (with_reducible repeat (first | apply Kd.R_alloc | apply Kd.R_drewN | apply Kd.R_drew)); exact Kd.R_mono HO_266000.out (fun _ hk => by first | exact ⟨hk.1, ⟨hk.2.1, hk.2.2.2⟩⟩ | grind)⟩, ⟨by (try simp only [hl266000_64]); (with_reducible repeat (first | apply Kd.R_alloc | apply Kd.R_drewN | apply Kd.R_drew)); exact Kd.R_mono HO_274000.out (fun _ hk => by first | exact ⟨hk.1, ⟨hk.2.1, hk.2.2.2⟩⟩ | grind)⟩, ⟨by (try simp only [hl266000_64]); (with_reducible repeat (first | apply Kd.R_alloc | apply Kd.R_drewN | apply Kd.R_drew)); exact Kd.R_mono HO296.out (fun _ hk => by first | exact ⟨hk.1, ⟨hk.2.1, hk.2.2.1⟩⟩ | grind)⟩, ⟨by (try simp only [hl266000_64]); (with_reducible repeat first|apply bn_|apply bd_|apply ba_); exact BK243.out⟩, ⟨by (try simp only [hl266000_64]); (with_reducible repeat first|apply bn_|apply bd_|apply ba_); exact BK258.out⟩, ⟨by (try simp only [hl266000_64]); (with_reducible repeat first|apply bn_|apply bd_|apply ba_); exact BK265.out⟩, ⟨by (try simp only [hl266000_64]); (with_reducible repeat first|apply bn_|apply bd_|apply ba_); exact BK273.out⟩, ⟨by (try simp only [hl266000_64]); (with_reducible repeat first|apply bn_|apply bd_|apply ba_); exact BK301.out⟩, ⟨ue_ HB.out⟩⟩
            ·
             replace c124 := Bool.eq_false_iff.mpr c124
             subst c124
             have H1 : (laws_FnExactRaiseMark.j2 kj64 t285 true t286 t269 t270 t271) = some r := by rw [if_neg (show ¬ (false = true) by decide)] at H; exact H
             clear H
             have H := H1
             clear H1
             have H' := Aside0.mk H
             clear H
             have hnb135 := NB301_243.out
             have hnc135 := NB243_301.out
             have hnb136 := NB301_258.out
             have hnc136 := NB258_301.out
             have hnb137 := NB301_265.out
             have hnc137 := NB265_301.out
             have hnb138 := NB301_273.out
             have hnc138 := NB273_301.out
             have hcz139_0 := cb_ BK301.out 0 rfl
             have hcz139_1 := cb_ BK301.out 1 rfl
             have hcz139_2 := cb_ BK301.out 2 rfl
             have hcz139_3 := cb_ BK301.out 3 rfl
             have hfz139_0 := blk_frozen BK301.out 0
             have hfz139_1 := blk_frozen BK301.out 1
             have hfz139_2 := blk_frozen BK301.out 2
             have hfz139_3 := blk_frozen BK301.out 3
             have hnb140 := NB258_243.out
             have hnc140 := NB243_258.out
             have hnb141 := NB258_265.out
             have hnc141 := NB265_258.out
             have hnb142 := NB258_273.out
             have hnc142 := NB273_258.out
             have hcz143_0 := cb_ BK258.out 0 rfl
             have hcz143_1 := cb_ BK258.out 1 rfl
             have hcz143_2 := cb_ BK258.out 2 rfl
             have hcz143_3 := cb_ BK258.out 3 rfl
             have hfz143_0 := blk_frozen BK258.out 0
             have hfz143_1 := blk_frozen BK258.out 1
             have hfz143_2 := blk_frozen BK258.out 2
             have hfz143_3 := blk_frozen BK258.out 3
             go_wp2_with (first | ((with_reducible refine gate_callee (f := 28) rfl ?_); refine goesL_ (some 86) rfl rfl Try.func28 (by kernel_rfl) rfl #[.agg #[.slice Ao116 t294.length co116, .int .i64 t297, .int .i64 t298, .int .i64 t299], .agg #[.slice Ao21 t251.length co21, .int .i64 t254, .int .i64 t255, .int .i64 t256]] rfl ul_ ?_; (with_reducible refine (laws_eqShard.calls kj64 _ _ t294 t297 t298 t299 _ _ t251 t254 t255 t256 false _ ?side1 ?side2 ?side3 ?side4 A123.out).mono ?_); (case side1 => repeat (first | exact (Kd.R_reads' HO296.out).2.2 | (with_reducible refine Kd.C_alloc ?_ _) | (with_reducible refine Kd.C_drewN ?_ _) | (with_reducible refine Kd.C_drew ?_))); (case side2 => exact (Kd.R_reads' HO296.out).2.1); (case side3 => repeat (first | exact (Kd.R_reads' HO_259000.out).2.2 | (with_reducible refine Kd.C_alloc ?_ _) | (with_reducible refine Kd.C_drewN ?_ _) | (with_reducible refine Kd.C_drew ?_))); (case side4 => exact (Kd.R_reads' HO_259000.out).2.1); rintro e w144 ⟨rfl, hb⟩; refine ⟨_, rfl, ?_⟩; have n0_ := am_ (Kd.R_below (ur_ HO_259000.out) hb); have n1_ := am_ (Kd.R_below (ur_ HO_266000.out) hb); have n2_ := am_ (Kd.R_below (ur_ HO_274000.out) hb); have n3_ := am_ (Kd.R_below (ur_ HO290.out) hb); have n4_ := am_ (Kd.R_below (ur_ HO296.out) hb); have n5_ := am_ (bb_ BK243.out hb); have n6_ := am_ (bb_ BK258.out hb); have n7_ := am_ (bb_ BK265.out hb); have n8_ := am_ (bb_ BK273.out hb); have n9_ := am_ (bb_ BK301.out hb); have n10_ := am_ (below_step (ue_ HB.out) hb); clear HO_259000 HO_266000 HO_274000 HO290 HO296 BK243 BK258 BK265 BK273 BK301 HB; have HO_259000 := n0_; have HO_266000 := n1_; have HO_274000 := n2_; have HO290 := n3_; have HO296 := n4_; have BK243 := n5_; have BK258 := n6_; have BK265 := n7_; have BK273 := n8_; have BK301 := n9_; have HB := n10_; clear n0_ n1_ n2_ n3_ n4_ n5_ n6_ n7_ n8_ n9_ n10_; (try clear hb); (try clear hb2); (try clear hk); (try clear hi)))
             go_meet
             case rel => exact ⟨_, (true), (by first | rfl | (simp; done) | (simp [*]; done)), H', ⟨by have := HJ11.out; have := HJ64.out; first | omega | exact Nat.le_refl _⟩, ⟨by (try simp only [hl266000_64]); (with_reducible repeat (first | apply Kd.R_alloc | apply Kd.R_drewN | apply Kd.R_drew)); exact Kd.R_mono HO_259000.out (fun _ hk => by first | exact ⟨hk.1, ⟨hk.2.1, hk.2.2.2⟩⟩ | grind)⟩, ⟨by (try simp only [hl266000_64]); (with_reducible repeat (first | apply Kd.R_alloc | apply Kd.R_drewN | apply Kd.R_drew)); exact Kd.R_mono HO_266000.out (fun _ hk => by first | exact ⟨hk.1, ⟨hk.2.1, hk.2.2.2⟩⟩ | grind)⟩, ⟨by (try simp only [hl266000_64]); (with_reducible repeat (first | apply Kd.R_alloc | apply Kd.R_drewN | apply Kd.R_drew)); exact Kd.R_mono HO_274000.out (fun _ hk => by first | exact ⟨hk.1, ⟨hk.2.1, hk.2.2.2⟩⟩ | grind)⟩, ⟨by (try simp only [hl266000_64]); (with_reducible repeat (first | apply Kd.R_alloc | apply Kd.R_drewN | apply Kd.R_drew)); exact Kd.R_mono HO296.out (fun _ hk => by first | exact ⟨hk.1, ⟨hk.2.1, hk.2.2.1⟩⟩ | grind)⟩, ⟨by (try simp only [hl266000_64]); (with_reducible repeat first|apply bn_|apply bd_|apply ba_); exact BK243.out⟩, ⟨by (try simp only [hl266000_64]); (with_reducible repeat first|apply bn_|apply bd_|apply ba_); exact BK258.out⟩, ⟨by (try simp only [hl266000_64]); (with_reducible repeat first|apply bn_|apply bd_|apply ba_); exact BK265.out⟩, ⟨by (try simp only [hl266000_64]); (with_reducible repeat first|apply bn_|apply bd_|apply ba_); exact BK273.out⟩, ⟨by (try simp only [hl266000_64]); (with_reducible repeat first|apply bn_|apply bd_|apply ba_); exact BK301.out⟩, ⟨ue_ HB.out⟩⟩
           case rest =>
            clear HC101
            try clear c1
            try clear c2
            try clear p2
            try clear c3
            try clear c4
            try clear c4b0
            try clear c5
            try clear c6
            try clear c7
            try clear c8
            try clear c9
            try clear c10
            try clear c11
            try clear c12
            try clear c13
            try clear c14
            try clear c22
            try clear c24
            try clear c25
            try clear c26
            try clear c27
            try clear c28
            try clear c29
            try clear c30
            try clear c37
            try clear c38
            try clear c39
            try clear c43
            try clear c44
            try clear c45
            try clear c46
            try clear c48
            try clear c49
            try clear c52
            try clear c53
            try clear c54
            try clear c56
            try clear c57
            try clear c60
            try clear c63
            try clear c70
            try clear c71
            try clear c72
            try clear c75
            try clear c75b0
            try clear c77
            try clear c78
            try clear c79
            try clear c80
            try clear c82
            try clear c83
            try clear c86
            try clear c87
            try clear c88
            try clear c90
            try clear c91
            try clear c94
            try clear c97
            try clear c97b0
            try clear c98
            try clear c98b0
            try clear c98b1
            try clear c102
            try clear c103
            try clear c104
            try clear c109
            try clear c110
            try clear c117
            try clear c118
            try clear c119
            try clear c120
            try clear c124
            try clear c125
            try clear c126
            try clear c127
            try clear c128
            try clear c130
            try clear c131
            try clear c132
            try clear c135
            try clear c136
            try clear c137
            try clear c138
            try clear c140
            try clear c141
            try clear c142
            try clear hcz105_0
            try clear hcz105_1
            try clear hcz105_2
            try clear hcz105_3
            try clear hcz107_0
            try clear hcz107_1
            try clear hcz107_2
            try clear hcz107_3
            try clear hcz111_0
            try clear hcz111_1
            try clear hcz111_2
            try clear hcz111_3
            try clear hcz121_0
            try clear hcz121_1
            try clear hcz121_2
            try clear hcz121_3
            try clear hcz129_0
            try clear hcz129_1
            try clear hcz129_2
            try clear hcz129_3
            try clear hcz133_0
            try clear hcz133_1
            try clear hcz133_2
            try clear hcz133_3
            try clear hcz139_0
            try clear hcz139_1
            try clear hcz139_2
            try clear hcz139_3
            try clear hcz143_0
            try clear hcz143_1
            try clear hcz143_2
            try clear hcz143_3
            try clear hcz14_0
            try clear hcz14_1
            try clear hcz14_2
            try clear hcz14_3
            try clear hcz16_0
            try clear hcz16_1
            try clear hcz16_2
            try clear hcz16_3
            try clear hcz23_0
            try clear hcz23_1
            try clear hcz23_2
            try clear hcz23_3
            try clear hcz25_0
            try clear hcz25_1
            try clear hcz25_2
            try clear hcz25_3
            try clear hcz31_0
            try clear hcz31_1
            try clear hcz31_2
            try clear hcz31_3
            try clear hcz33_0
            try clear hcz33_1
            try clear hcz33_2
            try clear hcz33_3
            try clear hcz40_0
            try clear hcz40_1
            try clear hcz40_2
            try clear hcz40_3
            try clear hcz47_0
            try clear hcz47_1
            try clear hcz47_2
            try clear hcz47_3
            try clear hcz50_0
            try clear hcz50_1
            try clear hcz50_2
            try clear hcz50_3
            try clear hcz55_0
            try clear hcz55_1
            try clear hcz55_2
            try clear hcz55_3
            try clear hcz58_0
            try clear hcz58_1
            try clear hcz58_2
            try clear hcz58_3
            try clear hcz6_0
            try clear hcz6_1
            try clear hcz6_2
            try clear hcz6_3
            try clear hcz73_0
            try clear hcz73_1
            try clear hcz73_2
            try clear hcz73_3
            try clear hcz81_0
            try clear hcz81_1
            try clear hcz81_2
            try clear hcz81_3
            try clear hcz84_0
            try clear hcz84_1
            try clear hcz84_2
            try clear hcz84_3
            try clear hcz89_0
            try clear hcz89_1
            try clear hcz89_2
            try clear hcz89_3
            try clear hcz92_0
            try clear hcz92_1
            try clear hcz92_2
            try clear hcz92_3
            try clear hfz105_0
            try clear hfz105_1
            try clear hfz105_2
            try clear hfz105_3
            try clear hfz107_0
            try clear hfz107_1
            try clear hfz107_2
            try clear hfz107_3
            try clear hfz111_0
            try clear hfz111_1
            try clear hfz111_2
            try clear hfz111_3
            try clear hfz121_0
            try clear hfz121_1
            try clear hfz121_2
            try clear hfz121_3
            try clear hfz129_0
            try clear hfz129_1
            try clear hfz129_2
            try clear hfz129_3
            try clear hfz133_0
            try clear hfz133_1
            try clear hfz133_2
            try clear hfz133_3
            try clear hfz139_0
            try clear hfz139_1
            try clear hfz139_2
            try clear hfz139_3
            try clear hfz143_0
            try clear hfz143_1
            try clear hfz143_2
            try clear hfz143_3
            try clear hfz14_0
            try clear hfz14_1
            try clear hfz14_2
            try clear hfz14_3
            try clear hfz16_0
            try clear hfz16_1
            try clear hfz16_2
            try clear hfz16_3
            try clear hfz23_0
            try clear hfz23_1
            try clear hfz23_2
            try clear hfz23_3
            try clear hfz25_0
            try clear hfz25_1
            try clear hfz25_2
            try clear hfz25_3
            try clear hfz31_0
            try clear hfz31_1
            try clear hfz31_2
            try clear hfz31_3
            try clear hfz33_0
            try clear hfz33_1
            try clear hfz33_2
            try clear hfz33_3
            try clear hfz40_0
            try clear hfz40_1
            try clear hfz40_2
            try clear hfz40_3
            try clear hfz47_0
            try clear hfz47_1
            try clear hfz47_2
            try clear hfz47_3
            try clear hfz50_0
            try clear hfz50_1
            try clear hfz50_2
            try clear hfz50_3
            try clear hfz55_0
            try clear hfz55_1
            try clear hfz55_2
            try clear hfz55_3
            try clear hfz58_0
            try clear hfz58_1
            try clear hfz58_2
            try clear hfz58_3
            try clear hfz6_0
            try clear hfz6_1
            try clear hfz6_2
            try clear hfz6_3
            try clear hfz73_0
            try clear hfz73_1
            try clear hfz73_2
            try clear hfz73_3
            try clear hfz81_0
            try clear hfz81_1
            try clear hfz81_2
            try clear hfz81_3
            try clear hfz84_0
            try clear hfz84_1
            try clear hfz84_2
            try clear hfz84_3
            try clear hfz89_0
            try clear hfz89_1
            try clear hfz89_2
            try clear hfz89_3
            try clear hfz92_0
            try clear hfz92_1
            try clear hfz92_2
            try clear hfz92_3
            try clear p2
            obtain ⟨kq, x92_100, rfl, HA, HJ100, HO_259000, HO_266000, HO_274000, HO_302000, BK243, BK258, BK265, BK273, BK301, HB⟩ := hcut
            have hl274000_100 := (Kd.R_reads' HO_274000.out).1
            rw [hl274000_100] at HO_274000
            (try simp only [hl274000_100])
            (try simp only [hl274000_100] at BK243)
            (try simp only [hl274000_100] at BK258)
            (try simp only [hl274000_100] at BK265)
            (try simp only [hl274000_100] at BK273)
            (try simp only [hl274000_100] at BK301)
            (try simp only [hl274000_100] at HO_259000)
            (try simp only [hl274000_100] at HO_266000)
            (try simp only [hl274000_100] at HO_302000)
            cases kq with
            | zero => exact absurd HA.out (by simp [laws_FnExactRaiseMark.j2])
            | succ kj100 =>
             have H := HA.out
             clear HA
             simp only [laws_FnExactRaiseMark.j2] at H
             by_cases c145 : x92_100 = true
             ·
              subst c145
              have H1 : (some false) = some r := by rw [if_pos rfl] at H; exact H
              clear H
              have H := H1
              clear H1
              exact absurd ((Option.some.inj H).trans hT.out) (by decide)
             ·
              replace c145 := Bool.eq_false_iff.mpr c145
              subst c145
              have H1 : ((laws_heldShard.f kj100 t286 t269 t270 t271 1).bind fun t303 => (if t303 < 0 then (some false) else (if t303 = t285 then (some true) else (some false)))) = some r := by rw [if_neg (show ¬ (false = true) by decide)] at H; exact H
              clear H
              have H := H1
              clear H1
              replace H := Option.bind_eq_some_iff.mp H
              obtain ⟨t303, A1460, H⟩ := H
              replace H : (if t303 < 0 then (some false) else (if t303 = t285 then (some true) else (some false))) = some r := H
              have A146 := Aside0.mk A1460
              clear A1460
              by_cases c147 : t303 < 0
              ·
               rw [if_pos c147] at H
               have c147b0 : decide (t303 < 0) = true := decide_eq_true c147
               clear c147
               exact absurd ((Option.some.inj H).trans hT.out) (by decide)
              ·
               rw [if_neg c147] at H
               have c147b0 : decide (t303 < 0) = false := decide_eq_false c147
               clear c147
               by_cases c148 : t303 = t285
               ·
                rw [if_pos c148] at H
                have c148b0 : (t303 == t285) = true := beq_iff_eq.mpr c148
                have c148b1 : (t303 != t285) = false := bne_eq_false_iff_eq.mpr c148
                clear c148
                obtain rfl := Option.some.inj H
                have hnb149 := NB273_243.out
                have hnc149 := NB243_273.out
                have hnb150 := NB273_258.out
                have hnc150 := NB258_273.out
                have hnb151 := NB273_265.out
                have hnc151 := NB265_273.out
                have hnb152 := NB273_301.out
                have hnc152 := NB301_273.out
                have hcz153_0 := cb_ BK273.out 0 rfl
                have hcz153_1 := cb_ BK273.out 1 rfl
                have hcz153_2 := cb_ BK273.out 2 rfl
                have hcz153_3 := cb_ BK273.out 3 rfl
                have hfz153_0 := blk_frozen BK273.out 0
                have hfz153_1 := blk_frozen BK273.out 1
                have hfz153_2 := blk_frozen BK273.out 2
                have hfz153_3 := blk_frozen BK273.out 3
                go_wp2_with (first | ((with_reducible refine gate_callee (f := 30) rfl ?_); refine goesL_ (some 95) rfl rfl Try.func30 (by kernel_rfl) rfl #[.agg #[.slice Ao36 t286.length co36, .int .i64 t269, .int .i64 t270, .int .i64 t271], .int .i64 1] rfl ul_ ?_; (with_reducible refine (laws_heldShard.calls kj100 _ _ t286 t269 t270 t271 1 t303 _ ?side1 ?side2 A146.out).mono ?_); (case side1 => repeat (first | exact (Kd.R_reads' HO_274000.out).2.2 | (with_reducible refine Kd.C_alloc ?_ _) | (with_reducible refine Kd.C_drewN ?_ _) | (with_reducible refine Kd.C_drew ?_))); (case side2 => exact (Kd.R_reads' HO_274000.out).2.1); rintro e w154 ⟨rfl, hb⟩; refine ⟨_, rfl, ?_⟩; have n0_ := am_ (Kd.R_below (ur_ HO_259000.out) hb); have n1_ := am_ (Kd.R_below (ur_ HO_266000.out) hb); have n2_ := am_ (Kd.R_below (ur_ HO_274000.out) hb); have n3_ := am_ (Kd.R_below (ur_ HO_302000.out) hb); have n4_ := am_ (bb_ BK243.out hb); have n5_ := am_ (bb_ BK258.out hb); have n6_ := am_ (bb_ BK265.out hb); have n7_ := am_ (bb_ BK273.out hb); have n8_ := am_ (bb_ BK301.out hb); have n9_ := am_ (below_step (ue_ HB.out) hb); clear HO_259000 HO_266000 HO_274000 HO_302000 BK243 BK258 BK265 BK273 BK301 HB; have HO_259000 := n0_; have HO_266000 := n1_; have HO_274000 := n2_; have HO_302000 := n3_; have BK243 := n4_; have BK258 := n5_; have BK265 := n6_; have BK273 := n7_; have BK301 := n8_; have HB := n9_; clear n0_ n1_ n2_ n3_ n4_ n5_ n6_ n7_ n8_ n9_; (try clear hb); (try clear hb2); (try clear hk); (try clear hi)))
                go_ret
                exact ⟨ew_, ue_ HB.out⟩
               ·
                rw [if_neg c148] at H
                have c148b0 : (t303 == t285) = false := beq_eq_false_iff_ne.mpr c148
                have c148b1 : (t303 != t285) = true := bne_iff_ne.mpr c148
                exact absurd ((Option.some.inj H).trans hT.out) (by decide)
          ·
           rw [if_neg c98] at H
           have c98b0 : (t287 == t285) = false := beq_eq_false_iff_ne.mpr c98
           have c98b1 : (t287 != t285) = true := bne_iff_ne.mpr c98
           exact absurd ((Option.some.inj H).trans hT.out) (by decide)
     ·
      replace c63 := Bool.eq_false_iff.mpr c63
      subst c63
      have H1 : (some false) = some r := by rw [if_neg (show ¬ (false = true) by decide)] at H; exact H
      clear H
      have H := H1
      clear H1
      exact absurd ((Option.some.inj H).trans hT.out) (by decide)

end Go.Proofs.Ytcflalomjehiiaa.QFnExactRaiseMark
