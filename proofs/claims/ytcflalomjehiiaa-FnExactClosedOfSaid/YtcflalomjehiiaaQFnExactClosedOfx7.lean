/- The machine side of a law: Lean functions with the Go functions' answers and the walks that show it. No condition. -/
import Derived.Test.YtcflalomjehiiaaQFnExactClosedOfx0
import Derived.Test.YtcflalomjehiiaaQFnExactClosedOfx1
import Derived.Test.YtcflalomjehiiaaQFnExactClosedOfx2
import Derived.Test.YtcflalomjehiiaaQFnExactClosedOfx4
import Derived.Test.YtcflalomjehiiaaQFnExactClosedOfx6
namespace Go.Proofs.Ytcflalomjehiiaa.QFnExactClosedOf
open Go.RowKit Go.Proofs.YtcflalomjehiiaaW.PrintWords Go.Proofs.YtcflalomjehiiaaW.PrintLast Go.Proofs.YtcflalomjehiiaaW.PrintMore
attribute [local go_sem] max2_int min2_int max_two min_two max_three min_three max_four min_four   -- for this text's walks alone
set_option linter.unusedVariables false
set_option linter.unusedSimpArgs false

/-! ### laws_FnExactClosedOf: function 6 -/
def laws_FnExactClosedOf.j0 : Nat → Int → List (S80) → List (S80) → Bool → List (S152) → Int → Int → Int → Option (Bool)
 | 0, _, _, _, _, _, _, _, _ => none
 | k + 1, x1, x6, x8, x46, x235000, x235001, x235002, x235003 => if x46 = true then (some false) else ((laws_markAggS.f k x8 1).bind fun bt266 => ((laws_heldAggS.f k bt266.2 1).bind fun t268 => (if t268 < 0 then (some false) else (if t268 = bt266.1 then ((laws_toShard.f k x235000 x235001 x235002 x235003).bind fun bt269 => ((impl_ClosedOf.f k bt269.1 bt269.2.1 bt269.2.2.1 bt269.2.2.2 x1).bind fun t275 => ((laws_eqAggS.f k t275 x6).bind fun t278 => (if t278 = true then ((laws_heldAggS.f k bt266.2 1).bind fun t279 => (if t279 < 0 then (some false) else (if t279 = bt266.1 then (some true) else (some false)))) else (some false))))) else (some false)))))
def laws_FnExactClosedOf.f (k : Nat) (l0_0 : List (S152)) (a0_1 : Int) (a0_2 : Int) (a0_3 : Int) (a1 : Int) : Option (Bool) := (laws_szShard.f l0_0 a0_1 a0_2 a0_3 1048576).bind fun t235 => (if t235 < 0 then (some true) else ((laws_toShard.f k l0_0 a0_1 a0_2 a0_3).bind fun bt236 => ((spec_ClosedOf.f k bt236.1 bt236.2.1 bt236.2.2.1 bt236.2.2.2 a1).bind fun t242 => ((laws_toShard.f k l0_0 a0_1 a0_2 a0_3).bind fun bt245 => ((impl_ClosedOf.f k bt245.1 bt245.2.1 bt245.2.2.1 bt245.2.2.2 a1).bind fun t252 => ((laws_eqAggS.f k t252 t242).bind fun t255 => (if t255 = true then ((laws_toShard.f k l0_0 a0_1 a0_2 a0_3).bind fun bt256 => ((laws_eqShard.f k bt245.1 bt245.2.1 bt245.2.2.1 bt245.2.2.2 bt256.1 bt256.2.1 bt256.2.2.1 bt256.2.2.2).bind fun t262 => (if t262 = true then ((laws_markShard.f k bt245.1 bt245.2.1 bt245.2.2.1 bt245.2.2.2 1).bind fun bt263 => (if bt263.1 < 0 then (laws_FnExactClosedOf.j0 k a1 t242 t252 true l0_0 a0_1 a0_2 a0_3) else ((laws_eqAggS.f k t252 t242).bind fun t265 => (laws_FnExactClosedOf.j0 k a1 t242 t252 (!t265) l0_0 a0_1 a0_2 a0_3)))) else (some false)))) else (some false))))))))
theorem laws_FnExactClosedOf.mono_l : ∀ k, (∀ y0 y1 y2 y3 y4 y5 y6 y7, LeO (laws_FnExactClosedOf.j0 k y0 y1 y2 y3 y4 y5 y6 y7) (laws_FnExactClosedOf.j0 (k + 1) y0 y1 y2 y3 y4 y5 y6 y7))
 | 0 => fun _ _ _ _ _ _ _ _ r h => by simp [laws_FnExactClosedOf.j0] at h
 | k + 1 => by
  have ih0 := laws_FnExactClosedOf.mono_l k
  ·
   intro y0 y1 y2 y3 y4 y5 y6 y7
   unfold laws_FnExactClosedOf.j0
   repeat' first
   | (with_reducible exact ih0 _ _ _ _ _ _ _ _)
   | (with_reducible exact impl_ClosedOf.mono _ _ _ _ _ _)
   | (with_reducible exact laws_eqAggS.mono _ _ _)
   | (with_reducible exact laws_eqShard.mono _ _ _ _ _ _ _ _ _)
   | (with_reducible exact laws_heldAggS.mono _ _ _)
   | (with_reducible exact laws_markAggS.mono _ _ _)
   | (with_reducible exact laws_markShard.mono _ _ _ _ _ _)
   | (with_reducible exact laws_toShard.mono _ _ _ _ _)
   | (with_reducible exact spec_ClosedOf.mono _ _ _ _ _ _)
   | (with_reducible exact LeO.refl _)
   | (with_reducible exact LeO.none _)
   | (with_reducible refine LeO.ite ?_ ?_)
   | (with_reducible refine LeO.bind ?_ (fun _ => ?_))
   | exact ih0 _ _ _ _ _ _ _ _
   | exact impl_ClosedOf.mono _ _ _ _ _ _
   | exact laws_eqAggS.mono _ _ _
   | exact laws_eqShard.mono _ _ _ _ _ _ _ _ _
   | exact laws_heldAggS.mono _ _ _
   | exact laws_markAggS.mono _ _ _
   | exact laws_markShard.mono _ _ _ _ _ _
   | exact laws_toShard.mono _ _ _ _ _
   | exact spec_ClosedOf.mono _ _ _ _ _ _
   | exact LeO.none _
   | refine LeO.ite ?_ ?_
   | refine LeO.bind ?_ (fun _ => ?_)
theorem laws_FnExactClosedOf.mono : ∀ a0 a1 a2 a3 a4 k, LeO (laws_FnExactClosedOf.f k a0 a1 a2 a3 a4) (laws_FnExactClosedOf.f (k + 1) a0 a1 a2 a3 a4) := by
 intro a0 a1 a2 a3 a4 k
 have ih0 := laws_FnExactClosedOf.mono_l k
 unfold laws_FnExactClosedOf.f
 repeat' first
   | (with_reducible exact ih0 _ _ _ _ _ _ _ _)
   | (with_reducible exact impl_ClosedOf.mono _ _ _ _ _ _)
   | (with_reducible exact laws_eqAggS.mono _ _ _)
   | (with_reducible exact laws_eqShard.mono _ _ _ _ _ _ _ _ _)
   | (with_reducible exact laws_heldAggS.mono _ _ _)
   | (with_reducible exact laws_markAggS.mono _ _ _)
   | (with_reducible exact laws_markShard.mono _ _ _ _ _ _)
   | (with_reducible exact laws_toShard.mono _ _ _ _ _)
   | (with_reducible exact spec_ClosedOf.mono _ _ _ _ _ _)
   | (with_reducible exact LeO.refl _)
   | (with_reducible exact LeO.none _)
   | (with_reducible refine LeO.ite ?_ ?_)
   | (with_reducible refine LeO.bind ?_ (fun _ => ?_))
   | exact ih0 _ _ _ _ _ _ _ _
   | exact impl_ClosedOf.mono _ _ _ _ _ _
   | exact laws_eqAggS.mono _ _ _
   | exact laws_eqShard.mono _ _ _ _ _ _ _ _ _
   | exact laws_heldAggS.mono _ _ _
   | exact laws_markAggS.mono _ _ _
   | exact laws_markShard.mono _ _ _ _ _ _
   | exact laws_toShard.mono _ _ _ _ _
   | exact spec_ClosedOf.mono _ _ _ _ _ _
   | exact LeO.none _
   | refine LeO.ite ?_ ?_
   | refine LeO.bind ?_ (fun _ => ?_)
set_option maxHeartbeats 8000000 in
set_option maxRecDepth 100000 in
theorem laws_FnExactClosedOf.calls (k : Nat) (A0_0 : Option Addr) (c0_0 : Nat) (l0_0 : List (S152)) (a0_1 : Int) (a0_2 : Int) (a0_3 : Int) (a1 : Int) (r : Bool) (w : World) (hr0_0 : Kd.C k152 w A0_0 l0_0.length l0_0) (hc0_0 : l0_0.length ≤ c0_0) (hT : Aside0 (r = true)) (h : laws_FnExactClosedOf.f k l0_0 a0_1 a0_2 a0_3 a1 = some r) :
  Calls Try.prog 6 #[.agg #[.slice A0_0 l0_0.length c0_0, .int .i64 a0_1, .int .i64 a0_2, .int .i64 a0_3], .int .i64 a1] w fun e w' => e = .returned (.bool r) ∧ Below w.heap.size w w' := by
 have hu38 := Try.underlying38
 have hu42 := Try.underlying42
 have HR0_0 := Aside0.mk hr0_0
 have HC0_0 := Aside0.mk hc0_0
 clear hr0_0 hc0_0
 have HB := am_ (Below.refl w.heap.size w)
 have H : ((laws_szShard.f l0_0 a0_1 a0_2 a0_3 1048576).bind fun t235 => (if t235 < 0 then (some true) else ((laws_toShard.f k l0_0 a0_1 a0_2 a0_3).bind fun bt236 => ((spec_ClosedOf.f k bt236.1 bt236.2.1 bt236.2.2.1 bt236.2.2.2 a1).bind fun t242 => ((laws_toShard.f k l0_0 a0_1 a0_2 a0_3).bind fun bt245 => ((impl_ClosedOf.f k bt245.1 bt245.2.1 bt245.2.2.1 bt245.2.2.2 a1).bind fun t252 => ((laws_eqAggS.f k t252 t242).bind fun t255 => (if t255 = true then ((laws_toShard.f k l0_0 a0_1 a0_2 a0_3).bind fun bt256 => ((laws_eqShard.f k bt245.1 bt245.2.1 bt245.2.2.1 bt245.2.2.2 bt256.1 bt256.2.1 bt256.2.2.1 bt256.2.2.2).bind fun t262 => (if t262 = true then ((laws_markShard.f k bt245.1 bt245.2.1 bt245.2.2.1 bt245.2.2.2 1).bind fun bt263 => (if bt263.1 < 0 then (laws_FnExactClosedOf.j0 k a1 t242 t252 true l0_0 a0_1 a0_2 a0_3) else ((laws_eqAggS.f k t252 t242).bind fun t265 => (laws_FnExactClosedOf.j0 k a1 t242 t252 (!t265) l0_0 a0_1 a0_2 a0_3)))) else (some false)))) else (some false))))))))) = some r := h
 clear h
 replace H := Option.bind_eq_some_iff.mp H
 obtain ⟨t235, A30, H⟩ := H
 replace H : (if t235 < 0 then (some true) else ((laws_toShard.f k l0_0 a0_1 a0_2 a0_3).bind fun bt236 => ((spec_ClosedOf.f k bt236.1 bt236.2.1 bt236.2.2.1 bt236.2.2.2 a1).bind fun t242 => ((laws_toShard.f k l0_0 a0_1 a0_2 a0_3).bind fun bt245 => ((impl_ClosedOf.f k bt245.1 bt245.2.1 bt245.2.2.1 bt245.2.2.2 a1).bind fun t252 => ((laws_eqAggS.f k t252 t242).bind fun t255 => (if t255 = true then ((laws_toShard.f k l0_0 a0_1 a0_2 a0_3).bind fun bt256 => ((laws_eqShard.f k bt245.1 bt245.2.1 bt245.2.2.1 bt245.2.2.2 bt256.1 bt256.2.1 bt256.2.2.1 bt256.2.2.2).bind fun t262 => (if t262 = true then ((laws_markShard.f k bt245.1 bt245.2.1 bt245.2.2.1 bt245.2.2.2 1).bind fun bt263 => (if bt263.1 < 0 then (laws_FnExactClosedOf.j0 k a1 t242 t252 true l0_0 a0_1 a0_2 a0_3) else ((laws_eqAggS.f k t252 t242).bind fun t265 => (laws_FnExactClosedOf.j0 k a1 t242 t252 (!t265) l0_0 a0_1 a0_2 a0_3)))) else (some false)))) else (some false)))))))) = some r := H
 have A3 := Aside0.mk A30
 clear A30
 by_cases c4 : t235 < 0
 ·
  rw [if_pos c4] at H
  have c4b0 : decide (t235 < 0) = true := decide_eq_true c4
  clear c4
  obtain rfl := Option.some.inj H
  go_enter Try.func6, Try.ntmps6
  go_wp2_with (first | ((with_reducible refine gate_dst (N := 2) rfl ?_); refine box_event ?hg (N := 2) ?hd (cs := #[.slice A0_0 l0_0.length c0_0, .int .i64 a0_1, .int .i64 a0_2, .int .i64 a0_3]) (t := 38) ?hr ?_; (case hd => rfl); (case hg => rfl); (case hr => first | (go_simp; done) | (go_simp; rfl)); intro gb234 hg w5 hbox hb; have n0_ := am_ (below_step (ue_ HB.out) hb); have n1_ := am_ (hbox); have n2_ := am_ ((by rw [hg]; exact (below_size (ue_ HB.out)) : w.heap.size ≤ gb234)); have n3_ := am_ ((by rw [hg]; exact (below_size (ue_ HB.out)) : w.heap.size ≤ gb234)); clear HB; have HB := n0_; have BK234 := n1_; have GW234 := n2_; have GE234 := n3_; clear n0_ n1_ n2_ n3_; clear hb hbox hg; obtain ⟨hcz6_0, hcz6_1, hcz6_2, hcz6_3⟩ := cb4_ BK234.out; obtain ⟨hfz6_0, hfz6_1, hfz6_2⟩ := bf3_ BK234.out; have hfz6_3 := blk_frozen BK234.out 3) | ((with_reducible refine gate_callee (f := 24) rfl ?_); refine goesL_ (some 15) rfl rfl Try.func24 (by kernel_rfl) rfl #[.agg #[.slice A0_0 l0_0.length c0_0, .int .i64 a0_1, .int .i64 a0_2, .int .i64 a0_3], .int .i64 1048576] rfl ul_ ?_; (with_reducible refine (laws_szShard.calls _ _ l0_0 a0_1 a0_2 a0_3 1048576 t235 _ ?side1 ?side2 A3.out).mono ?_); (case side1 => repeat (first | exact (Kd.C_below HR0_0.out HB.out) | (with_reducible refine Kd.C_alloc ?_ _) | (with_reducible refine Kd.C_drewN ?_ _) | (with_reducible refine Kd.C_drew ?_))); (case side2 => exact HC0_0.out); rintro e w7 ⟨rfl, hb⟩; refine ⟨_, rfl, ?_⟩; have n0_ := am_ (bb_ BK234.out hb); have n1_ := am_ (below_step (ue_ HB.out) hb); clear BK234 HB; have BK234 := n0_; have HB := n1_; clear n0_ n1_; (try clear hb); (try clear hb2); (try clear hk); (try clear hi)))
  go_ret
  exact ⟨ew_, ue_ HB.out⟩
 ·
  rw [if_neg c4] at H
  have c4b0 : decide (t235 < 0) = false := decide_eq_false c4
  clear c4
  replace H := Option.bind_eq_some_iff.mp H
  obtain ⟨⟨t236, t239, t240, t241⟩, A80, H⟩ := H
  replace H : ((spec_ClosedOf.f k t236 t239 t240 t241 a1).bind fun t242 => ((laws_toShard.f k l0_0 a0_1 a0_2 a0_3).bind fun bt245 => ((impl_ClosedOf.f k bt245.1 bt245.2.1 bt245.2.2.1 bt245.2.2.2 a1).bind fun t252 => ((laws_eqAggS.f k t252 t242).bind fun t255 => (if t255 = true then ((laws_toShard.f k l0_0 a0_1 a0_2 a0_3).bind fun bt256 => ((laws_eqShard.f k bt245.1 bt245.2.1 bt245.2.2.1 bt245.2.2.2 bt256.1 bt256.2.1 bt256.2.2.1 bt256.2.2.2).bind fun t262 => (if t262 = true then ((laws_markShard.f k bt245.1 bt245.2.1 bt245.2.2.1 bt245.2.2.2 1).bind fun bt263 => (if bt263.1 < 0 then (laws_FnExactClosedOf.j0 k a1 t242 t252 true l0_0 a0_1 a0_2 a0_3) else ((laws_eqAggS.f k t252 t242).bind fun t265 => (laws_FnExactClosedOf.j0 k a1 t242 t252 (!t265) l0_0 a0_1 a0_2 a0_3)))) else (some false)))) else (some false)))))) = some r := H
  have A8 := Aside0.mk A80
  clear A80
  replace H := Option.bind_eq_some_iff.mp H
  obtain ⟨t242, A90, H⟩ := H
  replace H : ((laws_toShard.f k l0_0 a0_1 a0_2 a0_3).bind fun bt245 => ((impl_ClosedOf.f k bt245.1 bt245.2.1 bt245.2.2.1 bt245.2.2.2 a1).bind fun t252 => ((laws_eqAggS.f k t252 t242).bind fun t255 => (if t255 = true then ((laws_toShard.f k l0_0 a0_1 a0_2 a0_3).bind fun bt256 => ((laws_eqShard.f k bt245.1 bt245.2.1 bt245.2.2.1 bt245.2.2.2 bt256.1 bt256.2.1 bt256.2.2.1 bt256.2.2.2).bind fun t262 => (if t262 = true then ((laws_markShard.f k bt245.1 bt245.2.1 bt245.2.2.1 bt245.2.2.2 1).bind fun bt263 => (if bt263.1 < 0 then (laws_FnExactClosedOf.j0 k a1 t242 t252 true l0_0 a0_1 a0_2 a0_3) else ((laws_eqAggS.f k t252 t242).bind fun t265 => (laws_FnExactClosedOf.j0 k a1 t242 t252 (!t265) l0_0 a0_1 a0_2 a0_3)))) else (some false)))) else (some false))))) = some r := H
  have A9 := Aside0.mk A90
  clear A90
  replace H := Option.bind_eq_some_iff.mp H
  obtain ⟨⟨t245, t248, t249, t250⟩, A100, H⟩ := H
  replace H : ((impl_ClosedOf.f k t245 t248 t249 t250 a1).bind fun t252 => ((laws_eqAggS.f k t252 t242).bind fun t255 => (if t255 = true then ((laws_toShard.f k l0_0 a0_1 a0_2 a0_3).bind fun bt256 => ((laws_eqShard.f k t245 t248 t249 t250 bt256.1 bt256.2.1 bt256.2.2.1 bt256.2.2.2).bind fun t262 => (if t262 = true then ((laws_markShard.f k t245 t248 t249 t250 1).bind fun bt263 => (if bt263.1 < 0 then (laws_FnExactClosedOf.j0 k a1 t242 t252 true l0_0 a0_1 a0_2 a0_3) else ((laws_eqAggS.f k t252 t242).bind fun t265 => (laws_FnExactClosedOf.j0 k a1 t242 t252 (!t265) l0_0 a0_1 a0_2 a0_3)))) else (some false)))) else (some false)))) = some r := H
  have A10 := Aside0.mk A100
  clear A100
  replace H := Option.bind_eq_some_iff.mp H
  obtain ⟨t252, A110, H⟩ := H
  replace H : ((laws_eqAggS.f k t252 t242).bind fun t255 => (if t255 = true then ((laws_toShard.f k l0_0 a0_1 a0_2 a0_3).bind fun bt256 => ((laws_eqShard.f k t245 t248 t249 t250 bt256.1 bt256.2.1 bt256.2.2.1 bt256.2.2.2).bind fun t262 => (if t262 = true then ((laws_markShard.f k t245 t248 t249 t250 1).bind fun bt263 => (if bt263.1 < 0 then (laws_FnExactClosedOf.j0 k a1 t242 t252 true l0_0 a0_1 a0_2 a0_3) else ((laws_eqAggS.f k t252 t242).bind fun t265 => (laws_FnExactClosedOf.j0 k a1 t242 t252 (!t265) l0_0 a0_1 a0_2 a0_3)))) else (some false)))) else (some false))) = some r := H
  have A11 := Aside0.mk A110
  clear A110
  replace H := Option.bind_eq_some_iff.mp H
  obtain ⟨t255, A120, H⟩ := H
  replace H : (if t255 = true then ((laws_toShard.f k l0_0 a0_1 a0_2 a0_3).bind fun bt256 => ((laws_eqShard.f k t245 t248 t249 t250 bt256.1 bt256.2.1 bt256.2.2.1 bt256.2.2.2).bind fun t262 => (if t262 = true then ((laws_markShard.f k t245 t248 t249 t250 1).bind fun bt263 => (if bt263.1 < 0 then (laws_FnExactClosedOf.j0 k a1 t242 t252 true l0_0 a0_1 a0_2 a0_3) else ((laws_eqAggS.f k t252 t242).bind fun t265 => (laws_FnExactClosedOf.j0 k a1 t242 t252 (!t265) l0_0 a0_1 a0_2 a0_3)))) else (some false)))) else (some false)) = some r := H
  have A12 := Aside0.mk A120
  clear A120
  by_cases c13 : t255 = true
  ·
   subst c13
   have H1 : ((laws_toShard.f k l0_0 a0_1 a0_2 a0_3).bind fun bt256 => ((laws_eqShard.f k t245 t248 t249 t250 bt256.1 bt256.2.1 bt256.2.2.1 bt256.2.2.2).bind fun t262 => (if t262 = true then ((laws_markShard.f k t245 t248 t249 t250 1).bind fun bt263 => (if bt263.1 < 0 then (laws_FnExactClosedOf.j0 k a1 t242 t252 true l0_0 a0_1 a0_2 a0_3) else ((laws_eqAggS.f k t252 t242).bind fun t265 => (laws_FnExactClosedOf.j0 k a1 t242 t252 (!t265) l0_0 a0_1 a0_2 a0_3)))) else (some false)))) = some r := by rw [if_pos rfl] at H; exact H
   clear H
   have H := H1
   clear H1
   replace H := Option.bind_eq_some_iff.mp H
   obtain ⟨⟨t256, t259, t260, t261⟩, A140, H⟩ := H
   replace H : ((laws_eqShard.f k t245 t248 t249 t250 t256 t259 t260 t261).bind fun t262 => (if t262 = true then ((laws_markShard.f k t245 t248 t249 t250 1).bind fun bt263 => (if bt263.1 < 0 then (laws_FnExactClosedOf.j0 k a1 t242 t252 true l0_0 a0_1 a0_2 a0_3) else ((laws_eqAggS.f k t252 t242).bind fun t265 => (laws_FnExactClosedOf.j0 k a1 t242 t252 (!t265) l0_0 a0_1 a0_2 a0_3)))) else (some false))) = some r := H
   have A14 := Aside0.mk A140
   clear A140
   replace H := Option.bind_eq_some_iff.mp H
   obtain ⟨t262, A150, H⟩ := H
   replace H : (if t262 = true then ((laws_markShard.f k t245 t248 t249 t250 1).bind fun bt263 => (if bt263.1 < 0 then (laws_FnExactClosedOf.j0 k a1 t242 t252 true l0_0 a0_1 a0_2 a0_3) else ((laws_eqAggS.f k t252 t242).bind fun t265 => (laws_FnExactClosedOf.j0 k a1 t242 t252 (!t265) l0_0 a0_1 a0_2 a0_3)))) else (some false)) = some r := H
   have A15 := Aside0.mk A150
   clear A150
   by_cases c16 : t262 = true
   ·
    subst c16
    have H1 : ((laws_markShard.f k t245 t248 t249 t250 1).bind fun bt263 => (if bt263.1 < 0 then (laws_FnExactClosedOf.j0 k a1 t242 t252 true l0_0 a0_1 a0_2 a0_3) else ((laws_eqAggS.f k t252 t242).bind fun t265 => (laws_FnExactClosedOf.j0 k a1 t242 t252 (!t265) l0_0 a0_1 a0_2 a0_3)))) = some r := by rw [if_pos rfl] at H; exact H
    clear H
    have H := H1
    clear H1
    replace H := Option.bind_eq_some_iff.mp H
    obtain ⟨⟨t263, t264⟩, A170, H⟩ := H
    replace H : (if t263 < 0 then (laws_FnExactClosedOf.j0 k a1 t242 t252 true l0_0 a0_1 a0_2 a0_3) else ((laws_eqAggS.f k t252 t242).bind fun t265 => (laws_FnExactClosedOf.j0 k a1 t242 t252 (!t265) l0_0 a0_1 a0_2 a0_3))) = some r := H
    have A17 := Aside0.mk A170
    clear A170
    have HC18 := Aside0.mk H
    clear H
    go_enter Try.func6, Try.ntmps6
    try go_wp2_with (first | ((with_reducible refine gate_dst (N := 2) rfl ?_); refine box_event ?hg (N := 2) ?hd (cs := #[.slice A0_0 l0_0.length c0_0, .int .i64 a0_1, .int .i64 a0_2, .int .i64 a0_3]) (t := 38) ?hr ?_; (case hd => rfl); (case hg => rfl); (case hr => first | (go_simp; done) | (go_simp; rfl)); intro gb234 hg w19 hbox hb; have n0_ := am_ (below_step (ue_ HB.out) hb); have n1_ := am_ (hbox); have n2_ := am_ ((by rw [hg]; exact (below_size (ue_ HB.out)) : w.heap.size ≤ gb234)); have n3_ := am_ ((by rw [hg]; exact (below_size (ue_ HB.out)) : w.heap.size ≤ gb234)); clear HB; have HB := n0_; have BK234 := n1_; have GW234 := n2_; have GE234 := n3_; clear n0_ n1_ n2_ n3_; clear hb hbox hg; obtain ⟨hcz20_0, hcz20_1, hcz20_2, hcz20_3⟩ := cb4_ BK234.out; obtain ⟨hfz20_0, hfz20_1, hfz20_2⟩ := bf3_ BK234.out; have hfz20_3 := blk_frozen BK234.out 3) | ((with_reducible refine gate_callee (f := 24) rfl ?_); refine goesL_ (some 15) rfl rfl Try.func24 (by kernel_rfl) rfl #[.agg #[.slice A0_0 l0_0.length c0_0, .int .i64 a0_1, .int .i64 a0_2, .int .i64 a0_3], .int .i64 1048576] rfl ul_ ?_; (with_reducible refine (laws_szShard.calls _ _ l0_0 a0_1 a0_2 a0_3 1048576 t235 _ ?side1 ?side2 A3.out).mono ?_); (case side1 => repeat (first | exact (Kd.C_below HR0_0.out HB.out) | (with_reducible refine Kd.C_alloc ?_ _) | (with_reducible refine Kd.C_drewN ?_ _) | (with_reducible refine Kd.C_drew ?_))); (case side2 => exact HC0_0.out); rintro e w21 ⟨rfl, hb⟩; refine ⟨_, rfl, ?_⟩; have n0_ := am_ (bb_ BK234.out hb); have n1_ := am_ (below_step (ue_ HB.out) hb); clear BK234 HB; have BK234 := n0_; have HB := n1_; clear n0_ n1_; (try clear hb); (try clear hb2); (try clear hk); (try clear hi); obtain ⟨hcz22_0, hcz22_1, hcz22_2, hcz22_3⟩ := cb4_ BK234.out; obtain ⟨hfz22_0, hfz22_1, hfz22_2⟩ := bf3_ BK234.out; have hfz22_3 := blk_frozen BK234.out 3) | ((with_reducible refine gate_callee (f := 26) rfl ?_); refine goesL_ (some 19) rfl rfl Try.func26 (by kernel_rfl) rfl #[.agg #[.slice A0_0 l0_0.length c0_0, .int .i64 a0_1, .int .i64 a0_2, .int .i64 a0_3]] rfl ul_ ?_; (with_reducible refine (laws_toShard.calls k _ _ l0_0 a0_1 a0_2 a0_3 t236 t239 t240 t241 _ ?side1 ?side2 A8.out).mono ?_); (case side1 => repeat (first | exact (Kd.C_below HR0_0.out HB.out) | (with_reducible refine Kd.C_alloc ?_ _) | (with_reducible refine Kd.C_drewN ?_ _) | (with_reducible refine Kd.C_drew ?_))); (case side2 => exact HC0_0.out); rintro e w23 ⟨v237, rfl, ho0, hb⟩; refine ⟨_, rfl, ?_⟩; have n0_ := am_ (Kd.R_lower ho0 (below_size (ue_ HB.out))); have n1_ := am_ (bb_ BK234.out hb); have n2_ := am_ (below_step (ue_ HB.out) hb); clear BK234 HB; have HO238 := n0_; have BK234 := n1_; have HB := n2_; clear n0_ n1_ n2_; (try clear hb); (try clear hb2); (try clear hk); (try clear hi); (try clear ho0); obtain ⟨Ao24, co24, eo24⟩ := Kd.R_slice HO238.out; subst eo24) | ((with_reducible refine gate_callee (f := 38) rfl ?_); refine goesL_ (some 21) rfl rfl Try.func38 (by kernel_rfl) rfl #[.agg #[.slice Ao24 t236.length co24, .int .i64 t239, .int .i64 t240, .int .i64 t241], .int .i64 a1] rfl ul_ ?_; (with_reducible refine (spec_ClosedOf.calls k _ _ t236 t239 t240 t241 a1 t242 _ ?side1 ?side2 A9.out).mono ?_); (case side1 => repeat (first | exact (Kd.R_reads' HO238.out).2.2 | (with_reducible refine Kd.C_alloc ?_ _) | (with_reducible refine Kd.C_drewN ?_ _) | (with_reducible refine Kd.C_drew ?_))); (case side2 => exact (Kd.R_reads' HO238.out).2.1); rintro e w25 ⟨v243, rfl, ho0, hb⟩; refine ⟨_, rfl, ?_⟩; have n0_ := am_ (Kd.R_elder' (ur_ HO238.out) (Kd.R_base ho0) hb); have n1_ := am_ (Kd.R_lower (Kd.R_new' ho0 (Kd.R_lt (ur_ HO238.out))) (below_size (ue_ HB.out))); have n2_ := am_ (bb_ BK234.out hb); have n3_ := am_ (below_step (ue_ HB.out) hb); clear HO238 BK234 HB; have HO238 := n0_; have HO244 := n1_; have BK234 := n2_; have HB := n3_; clear n0_ n1_ n2_ n3_; (try clear hb); (try clear hb2); (try clear hk); (try clear hi); (try clear ho0); obtain ⟨hcz26_0, hcz26_1, hcz26_2, hcz26_3⟩ := cb4_ BK234.out; obtain ⟨hfz26_0, hfz26_1, hfz26_2⟩ := bf3_ BK234.out; have hfz26_3 := blk_frozen BK234.out 3) | ((with_reducible refine gate_callee (f := 26) rfl ?_); refine goesL_ (some 23) rfl rfl Try.func26 (by kernel_rfl) rfl #[.agg #[.slice A0_0 l0_0.length c0_0, .int .i64 a0_1, .int .i64 a0_2, .int .i64 a0_3]] rfl ul_ ?_; (with_reducible refine (laws_toShard.calls k _ _ l0_0 a0_1 a0_2 a0_3 t245 t248 t249 t250 _ ?side1 ?side2 A10.out).mono ?_); (case side1 => repeat (first | exact (Kd.C_below HR0_0.out HB.out) | (with_reducible refine Kd.C_alloc ?_ _) | (with_reducible refine Kd.C_drewN ?_ _) | (with_reducible refine Kd.C_drew ?_))); (case side2 => exact HC0_0.out); rintro e w27 ⟨v246, rfl, ho0, hb⟩; refine ⟨_, rfl, ?_⟩; have n0_ := am_ (Kd.R_elder' (ur_ HO238.out) (Kd.R_base ho0) hb); have n1_ := am_ (Kd.R_elder' (ur_ HO244.out) (Kd.R_base ho0) hb); have n2_ := am_ (Kd.R_lower (Kd.R_new' (Kd.R_new' ho0 (Kd.R_lt (ur_ HO238.out))) (Kd.R_lt (ur_ HO244.out))) (below_size (ue_ HB.out))); have n3_ := am_ (bb_ BK234.out hb); have n4_ := am_ (below_step (ue_ HB.out) hb); clear HO238 HO244 BK234 HB; have HO238 := n0_; have HO244 := n1_; have HO247 := n2_; have BK234 := n3_; have HB := n4_; clear n0_ n1_ n2_ n3_ n4_; (try clear hb); (try clear hb2); (try clear hk); (try clear hi); (try clear ho0)) | ((with_reducible refine gate_dst (N := 7) rfl ?_); refine box_event ?hg (N := 7) ?hd (cs := #[.slice none 0 0, .int .i64 0, .int .i64 0, .int .i64 0]) (t := 42) ?hr ?_; (case hd => rfl); (case hg => rfl); (case hr => first | (go_simp; done) | (go_simp; rfl)); intro gb251 hg w28 hbox hb; have n0_ := am_ (Kd.R_below (ur_ HO238.out) hb); have n1_ := am_ (Kd.R_below (ur_ HO244.out) hb); have n2_ := am_ (Kd.R_below (ur_ HO247.out) hb); have n3_ := am_ (bb_ BK234.out hb); have n4_ := am_ (below_step (ue_ HB.out) hb); have n5_ := am_ (hbox); have n6_ := am_ ((by rw [hg]; exact (below_size (ue_ HB.out)) : w.heap.size ≤ gb251)); have n7_ := am_ ((by rw [hg]; exact (below_size (ue_ HB.out)) : w.heap.size ≤ gb251)); have n8_ := am_ ((by rw [hg]; exact Nat.ne_of_lt (bl_ BK234.out) : gb234 ≠ gb251)); have n9_ := am_ ((by rw [hg]; exact Nat.ne_of_gt (bl_ BK234.out) : gb251 ≠ gb234)); clear HO238 HO244 HO247 BK234 HB; have HO238 := n0_; have HO244 := n1_; have HO247 := n2_; have BK234 := n3_; have HB := n4_; have BK251 := n5_; have GW251 := n6_; have GE251 := n7_; have NB234_251 := n8_; have NB251_234 := n9_; clear n0_ n1_ n2_ n3_ n4_ n5_ n6_ n7_ n8_ n9_; clear hb hbox hg; obtain ⟨Ao29, co29, eo29⟩ := Kd.R_slice HO247.out; subst eo29; have hnb30 := NB251_234.out; have hnc30 := NB234_251.out; obtain ⟨hcz31_0, hcz31_1, hcz31_2, hcz31_3⟩ := cb4_ BK251.out; obtain ⟨hfz31_0, hfz31_1, hfz31_2⟩ := bf3_ BK251.out; have hfz31_3 := blk_frozen BK251.out 3) | ((with_reducible refine gate_store (t := 42) (p := 7) rfl ?_); refine store_event (t := 42) (p := 7) (v := ?vo_w32) (w1 := ((((w28.setCell ⟨gb251, 0, none⟩ (.slice Ao29 t245.length co29)).setCell ⟨gb251, 1, none⟩ (.int .i64 t248)).setCell ⟨gb251, 2, none⟩ (.int .i64 t249)).setCell ⟨gb251, 3, none⟩ (.int .i64 t250))) ?hg ?ho ?hn ?hr ?_; (case ho => rfl); (case hg => rfl); (case hn => rfl); (case hr => first | (go_simp; done) | (go_simp; rfl)); intro w32 hw; have n0_ : Aside0 (Kd.R k80 80 w32 w.heap.size (fun k_ => some k_ ≠ (v243 : Value).ownBlock ∧ some k_ ≠ (.slice Ao29 t245.length co29 : Value).ownBlock) (.slice Ao24 t236.length co24) t236) := ⟨(by rw [hw]; exact (by (with_reducible repeat (first | apply Kd.R_alloc | apply Kd.R_drewN | apply Kd.R_drew)); exact Kd.R_mono (Kd.R_far (p := ⟨gb251, 3, none⟩) (Kd.R_far (p := ⟨gb251, 2, none⟩) (Kd.R_far (p := ⟨gb251, 1, none⟩) (Kd.R_far (p := ⟨gb251, 0, none⟩) (Kd.R_types HO238.out BK251.out (by decide)) (fun _ hk => by first | exact hk.2 | grind) (.slice Ao29 t245.length co29)) (fun _ hk => by first | exact hk.2 | grind) (.int .i64 t248)) (fun _ hk => by first | exact hk.2 | grind) (.int .i64 t249)) (fun _ hk => by first | exact hk.2 | grind) (.int .i64 t250)) (fun _ hk => by first | exact ⟨hk.1.1.2, hk.1.2⟩ | grind)))⟩; have n1_ : Aside0 (Kd.R k80 80 w32 w.heap.size (fun k_ => some k_ ≠ (.slice Ao24 t236.length co24 : Value).ownBlock ∧ some k_ ≠ (.slice Ao29 t245.length co29 : Value).ownBlock) v243 t242) := ⟨(by rw [hw]; exact (by (with_reducible repeat (first | apply Kd.R_alloc | apply Kd.R_drewN | apply Kd.R_drew)); exact Kd.R_mono (Kd.R_far (p := ⟨gb251, 3, none⟩) (Kd.R_far (p := ⟨gb251, 2, none⟩) (Kd.R_far (p := ⟨gb251, 1, none⟩) (Kd.R_far (p := ⟨gb251, 0, none⟩) (Kd.R_types HO244.out BK251.out (by decide)) (fun _ hk => by first | exact hk.2 | grind) (.slice Ao29 t245.length co29)) (fun _ hk => by first | exact hk.2 | grind) (.int .i64 t248)) (fun _ hk => by first | exact hk.2 | grind) (.int .i64 t249)) (fun _ hk => by first | exact hk.2 | grind) (.int .i64 t250)) (fun _ hk => by first | exact ⟨hk.1.1.2, hk.1.2⟩ | grind)))⟩; have n2_ : Aside0 (Kd.R k80 80 w32 w.heap.size (fun k_ => some k_ ≠ (.slice Ao24 t236.length co24 : Value).ownBlock ∧ some k_ ≠ (v243 : Value).ownBlock) (.slice Ao29 t245.length co29) t245) := ⟨(by rw [hw]; exact (by (with_reducible repeat (first | apply Kd.R_alloc | apply Kd.R_drewN | apply Kd.R_drew)); exact Kd.R_mono (Kd.R_far (p := ⟨gb251, 3, none⟩) (Kd.R_far (p := ⟨gb251, 2, none⟩) (Kd.R_far (p := ⟨gb251, 1, none⟩) (Kd.R_far (p := ⟨gb251, 0, none⟩) (Kd.R_types HO247.out BK251.out (by decide)) (fun _ hk => by first | exact hk.2 | grind) (.slice Ao29 t245.length co29)) (fun _ hk => by first | exact hk.2 | grind) (.int .i64 t248)) (fun _ hk => by first | exact hk.2 | grind) (.int .i64 t249)) (fun _ hk => by first | exact hk.2 | grind) (.int .i64 t250)) (fun _ hk => by first | exact ⟨hk.1.1.2, hk.1.2⟩ | grind)))⟩; have n3_ : Aside0 (w32.heap[gb234]? = some (.cells #[.slice A0_0 l0_0.length c0_0, .int .i64 a0_1, .int .i64 a0_2, .int .i64 a0_3] 38 (0, 0))) := ⟨(by rw [hw]; exact (uf_ BK234.out))⟩; have n4_ : Aside0 (w32.heap[gb251]? = some (.cells #[.slice Ao29 t245.length co29, .int .i64 t248, .int .i64 t249, .int .i64 t250] 42 (0, 0))) := ⟨(by rw [hw]; exact (by (with_reducible repeat first|apply bn_|apply bd_|apply ba_); refine blk_put (cs := #[.slice Ao29 t245.length co29, .int .i64 t248, .int .i64 t249, .int .i64 0]) ?_ 3 _ rfl; refine blk_put (cs := #[.slice Ao29 t245.length co29, .int .i64 t248, .int .i64 0, .int .i64 0]) ?_ 2 _ rfl; refine blk_put (cs := #[.slice Ao29 t245.length co29, .int .i64 0, .int .i64 0, .int .i64 0]) ?_ 1 _ rfl; refine blk_put (cs := #[.slice none 0 0, .int .i64 0, .int .i64 0, .int .i64 0]) ?_ 0 _ rfl; (with_reducible repeat first|apply bn_|apply bd_|apply ba_); exact BK251.out))⟩; have n5_ : Aside0 (Below w.heap.size w w32) := ⟨(by rw [hw]; exact (ue_ HB.out))⟩; clear hw HO238 HO244 HO247 BK234 BK251 HB; have HO238 := n0_; have HO244 := n1_; have HO247 := n2_; have BK234 := n3_; have BK251 := n4_; have HB := n5_; clear n0_ n1_ n2_ n3_ n4_ n5_; obtain ⟨hcz33_0, hcz33_1, hcz33_2, hcz33_3⟩ := cb4_ BK251.out; obtain ⟨hfz33_0, hfz33_1, hfz33_2⟩ := bf3_ BK251.out; have hfz33_3 := blk_frozen BK251.out 3) | ((with_reducible refine gate_callee (f := 39) rfl ?_); refine goesL_ (some 26) rfl rfl Try.func39 (by kernel_rfl) rfl #[.agg #[.slice Ao29 t245.length co29, .int .i64 t248, .int .i64 t249, .int .i64 t250], .int .i64 a1] rfl ul_ ?_; (with_reducible refine (impl_ClosedOf.calls k _ _ t245 t248 t249 t250 a1 t252 _ ?side1 ?side2 A11.out).mono ?_); (case side1 => repeat (first | exact (Kd.R_reads' HO247.out).2.2 | (with_reducible refine Kd.C_alloc ?_ _) | (with_reducible refine Kd.C_drewN ?_ _) | (with_reducible refine Kd.C_drew ?_))); (case side2 => exact (Kd.R_reads' HO247.out).2.1); rintro e w34 ⟨v253, rfl, ho0, hb⟩; refine ⟨_, rfl, ?_⟩; have n0_ := am_ (Kd.R_elder' (ur_ HO238.out) (Kd.R_base ho0) hb); have n1_ := am_ (Kd.R_elder' (ur_ HO244.out) (Kd.R_base ho0) hb); have n2_ := am_ (Kd.R_elder' (ur_ HO247.out) (Kd.R_base ho0) hb); have n3_ := am_ (Kd.R_lower (Kd.R_new' (Kd.R_new' (Kd.R_new' ho0 (Kd.R_lt (ur_ HO238.out))) (Kd.R_lt (ur_ HO244.out))) (Kd.R_lt (ur_ HO247.out))) (below_size (ue_ HB.out))); have n4_ := am_ (bb_ BK234.out hb); have n5_ := am_ (bb_ BK251.out hb); have n6_ := am_ (below_step (ue_ HB.out) hb); clear HO238 HO244 HO247 BK234 BK251 HB; have HO238 := n0_; have HO244 := n1_; have HO247 := n2_; have HO254 := n3_; have BK234 := n4_; have BK251 := n5_; have HB := n6_; clear n0_ n1_ n2_ n3_ n4_ n5_ n6_; (try clear hb); (try clear hb2); (try clear hk); (try clear hi); (try clear ho0); obtain ⟨Ao35, co35, eo35⟩ := Kd.R_slice HO254.out; subst eo35; obtain ⟨Ao36, co36, eo36⟩ := Kd.R_slice HO244.out; subst eo36) | ((with_reducible refine gate_callee (f := 40) rfl ?_); refine goesL_ (some 29) rfl rfl Try.func40 (by kernel_rfl) rfl #[.slice Ao35 t252.length co35, .slice Ao36 t242.length co36] rfl ul_ ?_; (with_reducible refine (laws_eqAggS.calls k _ _ t252 _ _ t242 true _ ?side1 ?side2 ?side3 ?side4 A12.out).mono ?_); (case side1 => repeat (first | exact (Kd.R_reads' HO254.out).2.2 | (with_reducible refine Kd.C_alloc ?_ _) | (with_reducible refine Kd.C_drewN ?_ _) | (with_reducible refine Kd.C_drew ?_))); (case side2 => exact (Kd.R_reads' HO254.out).2.1); (case side3 => repeat (first | exact (Kd.R_reads' HO244.out).2.2 | (with_reducible refine Kd.C_alloc ?_ _) | (with_reducible refine Kd.C_drewN ?_ _) | (with_reducible refine Kd.C_drew ?_))); (case side4 => exact (Kd.R_reads' HO244.out).2.1); rintro e w37 ⟨rfl, hb⟩; refine ⟨_, rfl, ?_⟩; have n0_ := am_ (Kd.R_below (ur_ HO238.out) hb); have n1_ := am_ (Kd.R_below (ur_ HO244.out) hb); have n2_ := am_ (Kd.R_below (ur_ HO247.out) hb); have n3_ := am_ (Kd.R_below (ur_ HO254.out) hb); have n4_ := am_ (bb_ BK234.out hb); have n5_ := am_ (bb_ BK251.out hb); have n6_ := am_ (below_step (ue_ HB.out) hb); clear HO238 HO244 HO247 HO254 BK234 BK251 HB; have HO238 := n0_; have HO244 := n1_; have HO247 := n2_; have HO254 := n3_; have BK234 := n4_; have BK251 := n5_; have HB := n6_; clear n0_ n1_ n2_ n3_ n4_ n5_ n6_; (try clear hb); (try clear hb2); (try clear hk); (try clear hi)))
    have n0_ := am_ (Kd.R_drew HO238.out)
    have n1_ := am_ (Kd.R_drew HO244.out)
    have n2_ := am_ (Kd.R_drew HO247.out)
    have n3_ := am_ (Kd.R_drew HO254.out)
    have n4_ := am_ (blk_drew BK234.out)
    have n5_ := am_ (blk_drew BK251.out)
    have n6_ := am_ (below_drew1 HB.out)
    clear HO238
    clear HO244
    clear HO247
    clear HO254
    clear BK234
    clear BK251
    clear HB
    have HO238 := n0_
    have HO244 := n1_
    have HO247 := n2_
    have HO254 := n3_
    have BK234 := n4_
    have BK251 := n5_
    have HB := n6_
    clear n0_ n1_ n2_ n3_ n4_ n5_ n6_
    refine start_ (n := 5) (S := fun w' => w'.cell? ⟨gb251, 0, none⟩ = some (.slice Ao29 t245.length co29) ∧ w'.cell? ⟨gb251, 1, none⟩ = some (.int .i64 t248) ∧ w'.cell? ⟨gb251, 2, none⟩ = some (.int .i64 t249) ∧ w'.cell? ⟨gb251, 3, none⟩ = some (.int .i64 t250) ∧ w'.cell? ⟨gb234, 0, none⟩ = some (.slice A0_0 l0_0.length c0_0) ∧ w'.cell? ⟨gb234, 1, none⟩ = some (.int .i64 a0_1) ∧ w'.cell? ⟨gb234, 2, none⟩ = some (.int .i64 a0_2) ∧ w'.cell? ⟨gb234, 3, none⟩ = some (.int .i64 a0_3)) (ds := []) #[false, false, false, false, false] (by kernel_rfl) rfl rfl ⟨(blk_cell BK251.out 0).trans rfl, (blk_cell BK251.out 1).trans rfl, (blk_cell BK251.out 2).trans rfl, (blk_cell BK251.out 3).trans rfl, (blk_cell BK234.out 0).trans rfl, (blk_cell BK234.out 1).trans rfl, (blk_cell BK234.out 2).trans rfl, (blk_cell BK234.out 3).trans rfl⟩ (fun hHeld => ?_)
    generalize w37.drew = w38 at HO238 HO244 HO247 HO254 BK234 BK251 HB hHeld ⊢
    refine take_ (i := 0) (N := some 31) (v := ?_) (a' := ?_) #[true, false, false, false, false] rfl rfl (by kernel_rfl) (fun _ _ _ h => h) (Or.inl ⟨by rfl, ?_⟩) hHeld ?_ ?_
    rotate_left
    ·
     rintro w' ⟨s0, s1, s2, s3, s4, s5, s6, s7⟩
     go_simp
     with_reducible rfl
    rotate_left
    ·
     simp only [Act.put, List.setIfInBounds_toArray, List.set_cons_zero, List.set_cons_succ, i64_w, i32_w]
     rfl
    refine take_ (i := 1) (N := some 32) (v := ?_) (a' := ?_) #[true, true, false, false, false] rfl rfl (by kernel_rfl) (fun _ _ _ h => h) (Or.inl ⟨by rfl, ?_⟩) hHeld ?_ ?_
    rotate_left
    ·
     rintro w' ⟨s0, s1, s2, s3, s4, s5, s6, s7⟩
     go_simp
     with_reducible rfl
    rotate_left
    ·
     simp only [Act.put, List.setIfInBounds_toArray, List.set_cons_zero, List.set_cons_succ, i64_w, i32_w]
     rfl
    refine one_ (i := 2) (N := some 33) #[true, true, true, false, false] rfl rfl (by kernel_rfl) (by decide) (fun K hK => ?_)
    refine goes_ Try.func26 (by kernel_rfl) rfl #[.agg #[.slice A0_0 l0_0.length c0_0, .int .i64 a0_1, .int .i64 a0_2, .int .i64 a0_3]] (by rfl) rfl rfl ul_ ?_
    with_reducible refine (laws_toShard.calls k _ _ l0_0 a0_1 a0_2 a0_3 t256 t259 t260 t261 _ ?side1 ?side2 A14.out).mono ?_
    (case side1 => repeat (first | exact (Kd.C_below HR0_0.out HB.out) | (with_reducible refine Kd.C_alloc ?_ _) | (with_reducible refine Kd.C_drewN ?_ _) | (with_reducible refine Kd.C_drew ?_)))
    (case side2 => exact HC0_0.out)
    rintro e w39 ⟨v257, rfl, ho0, hb⟩
    refine ⟨_, rfl, ?_⟩
    have n0_ := am_ (Kd.R_elder' (ur_ HO238.out) (Kd.R_base ho0) hb)
    have n1_ := am_ (Kd.R_elder' (ur_ HO244.out) (Kd.R_base ho0) hb)
    have n2_ := am_ (Kd.R_elder' (ur_ HO247.out) (Kd.R_base ho0) hb)
    have n3_ := am_ (Kd.R_elder' (ur_ HO254.out) (Kd.R_base ho0) hb)
    have n4_ := am_ (Kd.R_lower (Kd.R_new' (Kd.R_new' (Kd.R_new' (Kd.R_new' ho0 (Kd.R_lt (ur_ HO238.out))) (Kd.R_lt (ur_ HO244.out))) (Kd.R_lt (ur_ HO247.out))) (Kd.R_lt (ur_ HO254.out))) (below_size (ue_ HB.out)))
    have n5_ := am_ (bb_ BK234.out hb)
    have n6_ := am_ (bb_ BK251.out hb)
    have n7_ := am_ (below_step (ue_ HB.out) hb)
    clear HO238
    clear HO244
    clear HO247
    clear HO254
    clear BK234
    clear BK251
    clear HB
    have HO238 := n0_
    have HO244 := n1_
    have HO247 := n2_
    have HO254 := n3_
    have HO258 := n4_
    have BK234 := n5_
    have BK251 := n6_
    have HB := n7_
    clear n0_ n1_ n2_ n3_ n4_ n5_ n6_ n7_
    (try clear hb)
    (try clear hb2)
    (try clear hk)
    (try clear hi)
    (try clear ho0)
    obtain ⟨Ao40, co40, eo40⟩ := Kd.R_slice HO258.out
    (first | subst eo40 | (injection eo40 with f1_ f2_ f3_; have f4_ := f1_.symm; have f5_ := f3_.symm; clear f1_ f2_ f3_; subst f4_; subst f5_))
    refine hK.out _ _ ⟨(blk_cell BK251.out 0).trans rfl, (blk_cell BK251.out 1).trans rfl, (blk_cell BK251.out 2).trans rfl, (blk_cell BK251.out 3).trans rfl, (blk_cell BK234.out 0).trans rfl, (blk_cell BK234.out 1).trans rfl, (blk_cell BK234.out 2).trans rfl, (blk_cell BK234.out 3).trans rfl⟩ (fun hHeld => ?_)
    clear hK K
    refine norm_ (a' := ?_) ?_ ?_
    rotate_left
    ·
     show Act.put _ (some 33) _ = _
     simp only [Act.put, List.setIfInBounds_toArray, List.set_cons_zero, List.set_cons_succ, i64_w, i32_w]
     rfl
    refine one_ (i := 3) (N := some 34) #[true, true, true, true, false] rfl rfl (by kernel_rfl) (by decide) (fun K hK => ?_)
    refine goes_ Try.func28 (by kernel_rfl) rfl #[.agg #[.slice Ao29 t245.length co29, .int .i64 t248, .int .i64 t249, .int .i64 t250], .agg #[.slice Ao40 t256.length co40, .int .i64 t259, .int .i64 t260, .int .i64 t261]] (by rfl) rfl rfl ul_ ?_
    with_reducible refine (laws_eqShard.calls k _ _ t245 t248 t249 t250 _ _ t256 t259 t260 t261 true _ ?side1 ?side2 ?side3 ?side4 A15.out).mono ?_
    (case side1 => repeat (first | exact (Kd.R_reads' HO247.out).2.2 | (with_reducible refine Kd.C_alloc ?_ _) | (with_reducible refine Kd.C_drewN ?_ _) | (with_reducible refine Kd.C_drew ?_)))
    (case side2 => exact (Kd.R_reads' HO247.out).2.1)
    (case side3 => repeat (first | exact (Kd.R_reads' HO258.out).2.2 | (with_reducible refine Kd.C_alloc ?_ _) | (with_reducible refine Kd.C_drewN ?_ _) | (with_reducible refine Kd.C_drew ?_)))
    (case side4 => exact (Kd.R_reads' HO258.out).2.1)
    rintro e w41 ⟨rfl, hb⟩
    refine ⟨_, rfl, ?_⟩
    have n0_ := am_ (Kd.R_below (ur_ HO238.out) hb)
    have n1_ := am_ (Kd.R_below (ur_ HO244.out) hb)
    have n2_ := am_ (Kd.R_below (ur_ HO247.out) hb)
    have n3_ := am_ (Kd.R_below (ur_ HO254.out) hb)
    have n4_ := am_ (Kd.R_below (ur_ HO258.out) hb)
    have n5_ := am_ (bb_ BK234.out hb)
    have n6_ := am_ (bb_ BK251.out hb)
    have n7_ := am_ (below_step (ue_ HB.out) hb)
    clear HO238
    clear HO244
    clear HO247
    clear HO254
    clear HO258
    clear BK234
    clear BK251
    clear HB
    have HO238 := n0_
    have HO244 := n1_
    have HO247 := n2_
    have HO254 := n3_
    have HO258 := n4_
    have BK234 := n5_
    have BK251 := n6_
    have HB := n7_
    clear n0_ n1_ n2_ n3_ n4_ n5_ n6_ n7_
    (try clear hb)
    (try clear hb2)
    (try clear hk)
    (try clear hi)
    refine hK.out _ _ ⟨(blk_cell BK251.out 0).trans rfl, (blk_cell BK251.out 1).trans rfl, (blk_cell BK251.out 2).trans rfl, (blk_cell BK251.out 3).trans rfl, (blk_cell BK234.out 0).trans rfl, (blk_cell BK234.out 1).trans rfl, (blk_cell BK234.out 2).trans rfl, (blk_cell BK234.out 3).trans rfl⟩ (fun hHeld => ?_)
    clear hK K
    refine norm_ (a' := ?_) ?_ ?_
    rotate_left
    ·
     show Act.put _ (some 34) _ = _
     simp only [Act.put, List.setIfInBounds_toArray, List.set_cons_zero, List.set_cons_succ, i64_w, i32_w]
     rfl
    refine pure_ (i := 4) (N := some 35) (v := ?_) (a' := ?_) #[true, true, true, true, true] rfl rfl (by kernel_rfl) (fun _ _ _ h => h) (Or.inl ⟨by rfl, ?_⟩) ?_ ?_
    rotate_left
    ·
     intro w'
     go_simp
     with_reducible rfl
    rotate_left
    ·
     simp only [Act.put, List.setIfInBounds_toArray, List.set_cons_zero, List.set_cons_succ, i64_w, i32_w]
     rfl
    refine done_ (by kernel_rfl) ?_
    have hcz42_0 := cb_ BK251.out 0 rfl
    have hcz42_1 := cb_ BK251.out 1 rfl
    have hcz42_2 := cb_ BK251.out 2 rfl
    have hcz42_3 := cb_ BK251.out 3 rfl
    have hfz42_0 := blk_frozen BK251.out 0
    have hfz42_1 := blk_frozen BK251.out 1
    have hfz42_2 := blk_frozen BK251.out 2
    have hfz42_3 := blk_frozen BK251.out 3
    go_upto_region 14 with (first | ((with_reducible refine gate_callee (f := 29) rfl ?_); refine goesL_ (some 38) rfl rfl Try.func29 (by kernel_rfl) rfl #[.agg #[.slice Ao29 t245.length co29, .int .i64 t248, .int .i64 t249, .int .i64 t250], .int .i64 1] rfl ul_ ?_; (with_reducible refine (laws_markShard.calls k (fun k_ => some k_ = (.slice Ao29 t245.length co29 : Value).ownBlock) (.slice Ao29 t245.length co29) t245 t248 t249 t250 1 t263 t264 w _ ?side1 ?side2 A17.out).mono ?_); (case side1 => repeat (first | (with_reducible first | exact HB.out | apply below_alloc | apply pw_below_drewN | apply below_drew1 | refine below_set ?_ GE234.out | refine below_set ?_ GE251.out) | exact HB.out)); (case side2 => exact Kd.R_tight rfl HO247.out); rintro e w43 ⟨rfl, hy0, hb, hkp⟩; refine ⟨_, rfl, ?_⟩; have n0_ := am_ (blk_kept (g := gb234) (o := .cells #[.slice A0_0 l0_0.length c0_0, .int .i64 a0_1, .int .i64 a0_2, .int .i64 a0_3] 38 (0, 0)) (ub_ BK234.out) hkp (fun hs_ => (fun e_ => (Kd.R_ne HO247.out BK234.out (by decide)) e_) hs_)); have n1_ := am_ (Kd.R_mono (ok' := fun k_ => some k_ ≠ (.slice Ao36 t242.length co36 : Value).ownBlock ∧ some k_ ≠ (.slice Ao29 t245.length co29 : Value).ownBlock ∧ some k_ ≠ (.slice Ao35 t252.length co35 : Value).ownBlock ∧ some k_ ≠ (.slice Ao40 t256.length co40 : Value).ownBlock) (Kd.R_keptB (HO238.out) hkp (fun k_ hk_ hs_ => by first | exact (hk_.1.1.2) hs_ | grind)) (fun k_ hk_ => by first | exact ⟨hk_.1.1.1.1, hk_.1.1.1.2, hk_.1.1.2, hk_.1.2⟩ | grind)); have n2_ := am_ (Kd.R_mono (ok' := fun k_ => some k_ ≠ (.slice Ao24 t236.length co24 : Value).ownBlock ∧ some k_ ≠ (.slice Ao29 t245.length co29 : Value).ownBlock ∧ some k_ ≠ (.slice Ao35 t252.length co35 : Value).ownBlock ∧ some k_ ≠ (.slice Ao40 t256.length co40 : Value).ownBlock) (Kd.R_keptB (HO244.out) hkp (fun k_ hk_ hs_ => by first | exact (hk_.1.1.2) hs_ | grind)) (fun k_ hk_ => by first | exact ⟨hk_.1.1.1.1, hk_.1.1.1.2, hk_.1.1.2, hk_.1.2⟩ | grind)); have n3_ := am_ (Kd.R_reok rfl hy0 (fun k_ e_ => HO247.out.1 k_ e_)); have n4_ := am_ (blk_kept (g := gb251) (o := .cells #[.slice Ao29 t245.length co29, .int .i64 t248, .int .i64 t249, .int .i64 t250] 42 (0, 0)) (ub_ BK251.out) hkp (fun hs_ => (fun e_ => (Kd.R_ne HO247.out BK251.out (by decide)) e_) hs_)); have n5_ := am_ (Kd.R_mono (ok' := fun k_ => some k_ ≠ (.slice Ao24 t236.length co24 : Value).ownBlock ∧ some k_ ≠ (.slice Ao36 t242.length co36 : Value).ownBlock ∧ some k_ ≠ (.slice Ao29 t245.length co29 : Value).ownBlock ∧ some k_ ≠ (.slice Ao40 t256.length co40 : Value).ownBlock) (Kd.R_keptB (HO254.out) hkp (fun k_ hk_ hs_ => by first | exact (hk_.1.2) hs_ | grind)) (fun k_ hk_ => by first | exact ⟨hk_.1.1.1.1.2, hk_.1.1.1.2, hk_.1.1.2, hk_.1.2⟩ | grind)); have n6_ := am_ (Kd.R_mono (ok' := fun k_ => some k_ ≠ (.slice Ao24 t236.length co24 : Value).ownBlock ∧ some k_ ≠ (.slice Ao36 t242.length co36 : Value).ownBlock ∧ some k_ ≠ (.slice Ao29 t245.length co29 : Value).ownBlock ∧ some k_ ≠ (.slice Ao35 t252.length co35 : Value).ownBlock) (Kd.R_keptB (HO258.out) hkp (fun k_ hk_ hs_ => by first | exact (hk_.1.2) hs_ | grind)) (fun k_ hk_ => by first | exact ⟨hk_.1.1.1.1.2, hk_.1.1.1.2, hk_.1.1.2, hk_.1.2⟩ | grind)); have n7_ := am_ (hb); clear BK234 HO238 HO244 HO247 BK251 HO254 HO258 HB; have BK234 := n0_; have HO238 := n1_; have HO244 := n2_; have HO247 := n3_; have BK251 := n4_; have HO254 := n5_; have HO258 := n6_; have HB := n7_; clear n0_ n1_ n2_ n3_ n4_ n5_ n6_ n7_; (try clear hb); (try clear hkp); (try clear hy0)))
    (try simp only [Act.put, List.setIfInBounds_toArray, List.set_cons_zero, List.set_cons_succ])
    go_cut [46] (fun v46 wc => ∃ (kq : Nat) (x46_17 : Bool), v46 = .bool x46_17 ∧ Aside0 (laws_FnExactClosedOf.j0 kq a1 t242 t252 x46_17 l0_0 a0_1 a0_2 a0_3 = some r) ∧ Aside0 (kq ≤ k) ∧ Aside0 (Kd.R k80 80 wc w.heap.size (fun k_ => some k_ ≠ ((.slice Ao35 t252.length co35) : Value).ownBlock ∧ some k_ ≠ ((.slice Ao29 t245.length co29) : Value).ownBlock) (.slice Ao36 t242.length co36) t242) ∧ Aside0 (Kd.R k80 80 wc w.heap.size (fun k_ => some k_ ≠ ((.slice Ao36 t242.length co36) : Value).ownBlock ∧ some k_ ≠ ((.slice Ao29 t245.length co29) : Value).ownBlock) (.slice Ao35 t252.length co35) t252) ∧ Aside0 (Kd.R k80 80 wc w.heap.size (fun k_ => some k_ ≠ ((.slice Ao36 t242.length co36) : Value).ownBlock ∧ some k_ ≠ ((.slice Ao35 t252.length co35) : Value).ownBlock) (.slice Ao29 t245.length co29) t264) ∧ Aside0 (wc.heap[gb234]? = some (.cells #[(.slice A0_0 l0_0.length c0_0), .int .i64 a0_1, .int .i64 a0_2, .int .i64 a0_3] 38 (0, 0))) ∧ Aside0 (wc.heap[gb251]? = some (.cells #[(.slice Ao29 t245.length co29), .int .i64 t248, .int .i64 t249, .int .i64 t250] 42 (0, 0))) ∧ Aside0 (Below w.heap.size w wc))
    case first =>
     have H := HC18.out
     clear HC18
     by_cases c44 : t263 < 0
     ·
      rw [if_pos c44] at H
      have c44b0 : decide (t263 < 0) = true := decide_eq_true c44
      clear c44
      (first | rw [c44b0] | (simp only [i64_w, i32_w]; rw [c44b0]) | skip)
      have H' := Aside0.mk H
      clear H
      go_wp2
      go_meet
      case rel => exact ⟨_, (true), (by first | rfl | (simp; done) | (simp [*]; done)), H', ⟨by first | omega | exact Nat.le_refl _⟩, ⟨by (with_reducible repeat (first | apply Kd.R_alloc | apply Kd.R_drewN | apply Kd.R_drew)); exact Kd.R_mono HO244.out (fun _ hk => by first | exact ⟨hk.2.2.1, hk.2.1⟩ | grind)⟩, ⟨by (with_reducible repeat (first | apply Kd.R_alloc | apply Kd.R_drewN | apply Kd.R_drew)); exact Kd.R_mono HO254.out (fun _ hk => by first | exact ⟨hk.2.1, hk.2.2.1⟩ | grind)⟩, ⟨by (with_reducible repeat (first | apply Kd.R_alloc | apply Kd.R_drewN | apply Kd.R_drew)); exact Kd.R_mono HO247.out (fun _ hk => by first | exact ⟨hk.1.1.2, hk.1.2⟩ | grind)⟩, ⟨by (with_reducible repeat first|apply bn_|apply bd_|apply ba_); exact BK234.out⟩, ⟨by (with_reducible repeat first|apply bn_|apply bd_|apply ba_); exact BK251.out⟩, ⟨ue_ HB.out⟩⟩
     ·
      rw [if_neg c44] at H
      have c44b0 : decide (t263 < 0) = false := decide_eq_false c44
      clear c44
      (first | rw [c44b0] | (simp only [i64_w, i32_w]; rw [c44b0]) | skip)
      replace H := Option.bind_eq_some_iff.mp H
      obtain ⟨t265, A450, H⟩ := H
      replace H : (laws_FnExactClosedOf.j0 k a1 t242 t252 (!t265) l0_0 a0_1 a0_2 a0_3) = some r := H
      have A45 := Aside0.mk A450
      clear A450
      have H' := Aside0.mk H
      clear H
      go_wp2_with (first | (go_at_call 40; (with_reducible refine (laws_eqAggS.calls k _ _ t252 _ _ t242 t265 _ ?side1 ?side2 ?side3 ?side4 A45.out).mono ?_); (case side1 => repeat (first | exact (Kd.R_reads' HO254.out).2.2 | (with_reducible refine Kd.C_alloc ?_ _) | (with_reducible refine Kd.C_drewN ?_ _) | (with_reducible refine Kd.C_drew ?_))); (case side2 => exact (Kd.R_reads' HO254.out).2.1); (case side3 => repeat (first | exact (Kd.R_reads' HO244.out).2.2 | (with_reducible refine Kd.C_alloc ?_ _) | (with_reducible refine Kd.C_drewN ?_ _) | (with_reducible refine Kd.C_drew ?_))); (case side4 => exact (Kd.R_reads' HO244.out).2.1); rintro e w46 ⟨rfl, hb⟩; have n0_ := am_ (Kd.R_below (ur_ HO238.out) hb); have n1_ := am_ (Kd.R_below (ur_ HO244.out) hb); have n2_ := am_ (Kd.R_below (ur_ HO247.out) hb); have n3_ := am_ (Kd.R_below (ur_ HO254.out) hb); have n4_ := am_ (Kd.R_below (ur_ HO258.out) hb); have n5_ := am_ (bb_ BK234.out hb); have n6_ := am_ (bb_ BK251.out hb); have n7_ := am_ (below_step (ue_ HB.out) hb); clear HO238 HO244 HO247 HO254 HO258 BK234 BK251 HB; have HO238 := n0_; have HO244 := n1_; have HO247 := n2_; have HO254 := n3_; have HO258 := n4_; have BK234 := n5_; have BK251 := n6_; have HB := n7_; clear n0_ n1_ n2_ n3_ n4_ n5_ n6_ n7_; (try clear hb); (try clear hb2); (try clear hk); (try clear hi)))
      go_meet
      case rel => exact ⟨_, (!t265), (by first | rfl | (simp; done) | (simp [*]; done)), H', ⟨by first | omega | exact Nat.le_refl _⟩, ⟨by (with_reducible repeat (first | apply Kd.R_alloc | apply Kd.R_drewN | apply Kd.R_drew)); exact Kd.R_mono HO244.out (fun _ hk => by first | exact ⟨hk.2.2.1, hk.2.1⟩ | grind)⟩, ⟨by (with_reducible repeat (first | apply Kd.R_alloc | apply Kd.R_drewN | apply Kd.R_drew)); exact Kd.R_mono HO254.out (fun _ hk => by first | exact ⟨hk.2.1, hk.2.2.1⟩ | grind)⟩, ⟨by (with_reducible repeat (first | apply Kd.R_alloc | apply Kd.R_drewN | apply Kd.R_drew)); exact Kd.R_mono HO247.out (fun _ hk => by first | exact ⟨hk.1.1.2, hk.1.2⟩ | grind)⟩, ⟨by (with_reducible repeat first|apply bn_|apply bd_|apply ba_); exact BK234.out⟩, ⟨by (with_reducible repeat first|apply bn_|apply bd_|apply ba_); exact BK251.out⟩, ⟨ue_ HB.out⟩⟩
    case rest =>
     clear HC18
     try clear c1
     try clear c2
     try clear p2
     try clear c3
     try clear c4
     try clear c4b0
     try clear c6
     try clear c13
     try clear c16
     try clear c24
     try clear c26
     try clear c28
     try clear c29
     try clear c30
     try clear c38
     try clear c39
     try clear c40
     try clear c44
     try clear c44b0
     try clear hcz20_0
     try clear hcz20_1
     try clear hcz20_2
     try clear hcz20_3
     try clear hcz22_0
     try clear hcz22_1
     try clear hcz22_2
     try clear hcz22_3
     try clear hcz26_0
     try clear hcz26_1
     try clear hcz26_2
     try clear hcz26_3
     try clear hcz31_0
     try clear hcz31_1
     try clear hcz31_2
     try clear hcz31_3
     try clear hcz33_0
     try clear hcz33_1
     try clear hcz33_2
     try clear hcz33_3
     try clear hcz42_0
     try clear hcz42_1
     try clear hcz42_2
     try clear hcz42_3
     try clear hcz6_0
     try clear hcz6_1
     try clear hcz6_2
     try clear hcz6_3
     try clear hfz20_0
     try clear hfz20_1
     try clear hfz20_2
     try clear hfz20_3
     try clear hfz22_0
     try clear hfz22_1
     try clear hfz22_2
     try clear hfz22_3
     try clear hfz26_0
     try clear hfz26_1
     try clear hfz26_2
     try clear hfz26_3
     try clear hfz31_0
     try clear hfz31_1
     try clear hfz31_2
     try clear hfz31_3
     try clear hfz33_0
     try clear hfz33_1
     try clear hfz33_2
     try clear hfz33_3
     try clear hfz42_0
     try clear hfz42_1
     try clear hfz42_2
     try clear hfz42_3
     try clear hfz6_0
     try clear hfz6_1
     try clear hfz6_2
     try clear hfz6_3
     obtain ⟨kq, x46_17, rfl, HA, HJ17, HO_6, HO_8, HO_252000, BK234, BK251, HB⟩ := hcut
     have hl252000_17 := (Kd.R_reads' HO_252000.out).1
     rw [hl252000_17] at HO_252000
     (try simp only [hl252000_17])
     (try simp only [hl252000_17] at BK234)
     (try simp only [hl252000_17] at BK251)
     (try simp only [hl252000_17] at HO_6)
     (try simp only [hl252000_17] at HO_8)
     cases kq with
     | zero => exact absurd HA.out (by simp [laws_FnExactClosedOf.j0])
     | succ kj17 =>
      have H := HA.out
      clear HA
      simp only [laws_FnExactClosedOf.j0] at H
      by_cases c47 : x46_17 = true
      ·
       subst c47
       have H1 : (some false) = some r := by rw [if_pos rfl] at H; exact H
       clear H
       have H := H1
       clear H1
       exact absurd ((Option.some.inj H).trans hT.out) (by decide)
      ·
       replace c47 := Bool.eq_false_iff.mpr c47
       subst c47
       have H1 : ((laws_markAggS.f kj17 t252 1).bind fun bt266 => ((laws_heldAggS.f kj17 bt266.2 1).bind fun t268 => (if t268 < 0 then (some false) else (if t268 = bt266.1 then ((laws_toShard.f kj17 l0_0 a0_1 a0_2 a0_3).bind fun bt269 => ((impl_ClosedOf.f kj17 bt269.1 bt269.2.1 bt269.2.2.1 bt269.2.2.2 a1).bind fun t275 => ((laws_eqAggS.f kj17 t275 t242).bind fun t278 => (if t278 = true then ((laws_heldAggS.f kj17 bt266.2 1).bind fun t279 => (if t279 < 0 then (some false) else (if t279 = bt266.1 then (some true) else (some false)))) else (some false))))) else (some false))))) = some r := by rw [if_neg (show ¬ (false = true) by decide)] at H; exact H
       clear H
       have H := H1
       clear H1
       replace H := Option.bind_eq_some_iff.mp H
       obtain ⟨⟨t266, t267⟩, A480, H⟩ := H
       replace H : ((laws_heldAggS.f kj17 t267 1).bind fun t268 => (if t268 < 0 then (some false) else (if t268 = t266 then ((laws_toShard.f kj17 l0_0 a0_1 a0_2 a0_3).bind fun bt269 => ((impl_ClosedOf.f kj17 bt269.1 bt269.2.1 bt269.2.2.1 bt269.2.2.2 a1).bind fun t275 => ((laws_eqAggS.f kj17 t275 t242).bind fun t278 => (if t278 = true then ((laws_heldAggS.f kj17 t267 1).bind fun t279 => (if t279 < 0 then (some false) else (if t279 = t266 then (some true) else (some false)))) else (some false))))) else (some false)))) = some r := H
       have A48 := Aside0.mk A480
       clear A480
       replace H := Option.bind_eq_some_iff.mp H
       obtain ⟨t268, A490, H⟩ := H
       replace H : (if t268 < 0 then (some false) else (if t268 = t266 then ((laws_toShard.f kj17 l0_0 a0_1 a0_2 a0_3).bind fun bt269 => ((impl_ClosedOf.f kj17 bt269.1 bt269.2.1 bt269.2.2.1 bt269.2.2.2 a1).bind fun t275 => ((laws_eqAggS.f kj17 t275 t242).bind fun t278 => (if t278 = true then ((laws_heldAggS.f kj17 t267 1).bind fun t279 => (if t279 < 0 then (some false) else (if t279 = t266 then (some true) else (some false)))) else (some false))))) else (some false))) = some r := H
       have A49 := Aside0.mk A490
       clear A490
       by_cases c50 : t268 < 0
       ·
        rw [if_pos c50] at H
        have c50b0 : decide (t268 < 0) = true := decide_eq_true c50
        clear c50
        exact absurd ((Option.some.inj H).trans hT.out) (by decide)
       ·
        rw [if_neg c50] at H
        have c50b0 : decide (t268 < 0) = false := decide_eq_false c50
        clear c50
        by_cases c51 : t268 = t266
        ·
         rw [if_pos c51] at H
         have c51b0 : (t268 == t266) = true := beq_iff_eq.mpr c51
         have c51b1 : (t268 != t266) = false := bne_eq_false_iff_eq.mpr c51
         clear c51
         replace H := Option.bind_eq_some_iff.mp H
         obtain ⟨⟨t269, t272, t273, t274⟩, A520, H⟩ := H
         replace H : ((impl_ClosedOf.f kj17 t269 t272 t273 t274 a1).bind fun t275 => ((laws_eqAggS.f kj17 t275 t242).bind fun t278 => (if t278 = true then ((laws_heldAggS.f kj17 t267 1).bind fun t279 => (if t279 < 0 then (some false) else (if t279 = t266 then (some true) else (some false)))) else (some false)))) = some r := H
         have A52 := Aside0.mk A520
         clear A520
         replace H := Option.bind_eq_some_iff.mp H
         obtain ⟨t275, A530, H⟩ := H
         replace H : ((laws_eqAggS.f kj17 t275 t242).bind fun t278 => (if t278 = true then ((laws_heldAggS.f kj17 t267 1).bind fun t279 => (if t279 < 0 then (some false) else (if t279 = t266 then (some true) else (some false)))) else (some false))) = some r := H
         have A53 := Aside0.mk A530
         clear A530
         replace H := Option.bind_eq_some_iff.mp H
         obtain ⟨t278, A540, H⟩ := H
         replace H : (if t278 = true then ((laws_heldAggS.f kj17 t267 1).bind fun t279 => (if t279 < 0 then (some false) else (if t279 = t266 then (some true) else (some false)))) else (some false)) = some r := H
         have A54 := Aside0.mk A540
         clear A540
         by_cases c55 : t278 = true
         ·
          subst c55
          have H1 : ((laws_heldAggS.f kj17 t267 1).bind fun t279 => (if t279 < 0 then (some false) else (if t279 = t266 then (some true) else (some false)))) = some r := by rw [if_pos rfl] at H; exact H
          clear H
          have H := H1
          clear H1
          replace H := Option.bind_eq_some_iff.mp H
          obtain ⟨t279, A560, H⟩ := H
          replace H : (if t279 < 0 then (some false) else (if t279 = t266 then (some true) else (some false))) = some r := H
          have A56 := Aside0.mk A560
          clear A560
          by_cases c57 : t279 < 0
          ·
           rw [if_pos c57] at H
           have c57b0 : decide (t279 < 0) = true := decide_eq_true c57
           clear c57
           exact absurd ((Option.some.inj H).trans hT.out) (by decide)
          ·
           rw [if_neg c57] at H
           have c57b0 : decide (t279 < 0) = false := decide_eq_false c57
           clear c57
           by_cases c58 : t279 = t266
           ·
            rw [if_pos c58] at H
            have c58b0 : (t279 == t266) = true := beq_iff_eq.mpr c58
            have c58b1 : (t279 != t266) = false := bne_eq_false_iff_eq.mpr c58
            clear c58
            obtain rfl := Option.some.inj H
            go_wp2_with (first | ((with_reducible refine gate_callee (f := 41) rfl ?_); refine goesL_ (some 49) rfl rfl Try.func41 (by kernel_rfl) rfl #[.slice Ao35 t252.length co35, .int .i64 1] rfl ul_ ?_; (with_reducible refine (laws_markAggS.calls kj17 (fun k_ => some k_ = (.slice Ao35 t252.length co35 : Value).ownBlock) (.slice Ao35 t252.length co35) t252 1 t266 t267 w _ ?side1 ?side2 A48.out).mono ?_); (case side1 => repeat (first | (with_reducible first | exact HB.out | apply below_alloc | apply pw_below_drewN | apply below_drew1 | refine below_set ?_ GE234.out | refine below_set ?_ GE251.out) | exact HB.out)); (case side2 => exact Kd.R_tight rfl HO_8.out); rintro e w59 ⟨rfl, hy0, hb, hkp⟩; refine ⟨_, rfl, ?_⟩; have n0_ := am_ (Kd.R_mono (ok' := fun k_ => some k_ ≠ (.slice Ao35 t252.length co35 : Value).ownBlock ∧ some k_ ≠ (.slice Ao29 t264.length co29 : Value).ownBlock) (Kd.R_keptB (HO_6.out) hkp (fun k_ hk_ hs_ => by first | exact (hk_.1) hs_ | grind)) (fun k_ hk_ => by first | exact ⟨hk_.1.1, hk_.1.2⟩ | grind)); have n1_ := am_ (Kd.R_reok rfl hy0 (fun k_ e_ => HO_8.out.1 k_ e_)); have n2_ := am_ (Kd.R_mono (ok' := fun k_ => some k_ ≠ (.slice Ao36 t242.length co36 : Value).ownBlock ∧ some k_ ≠ (.slice Ao35 t252.length co35 : Value).ownBlock) (Kd.R_keptB (HO_252000.out) hkp (fun k_ hk_ hs_ => by first | exact (hk_.2) hs_ | grind)) (fun k_ hk_ => by first | exact ⟨hk_.1.1, hk_.1.2⟩ | grind)); have n3_ := am_ (blk_kept (g := gb234) (o := .cells #[.slice A0_0 l0_0.length c0_0, .int .i64 a0_1, .int .i64 a0_2, .int .i64 a0_3] 38 (0, 0)) (ub_ BK234.out) hkp (fun hs_ => (fun e_ => (Kd.R_ne HO_8.out BK234.out (by decide)) e_) hs_)); have n4_ := am_ (blk_kept (g := gb251) (o := .cells #[.slice Ao29 t264.length co29, .int .i64 t248, .int .i64 t249, .int .i64 t250] 42 (0, 0)) (ub_ BK251.out) hkp (fun hs_ => (fun e_ => (Kd.R_ne HO_8.out BK251.out (by decide)) e_) hs_)); have n5_ := am_ (hb); clear HO_6 HO_8 HO_252000 BK234 BK251 HB; have HO_6 := n0_; have HO_8 := n1_; have HO_252000 := n2_; have BK234 := n3_; have BK251 := n4_; have HB := n5_; clear n0_ n1_ n2_ n3_ n4_ n5_; (try clear hb); (try clear hkp); (try clear hy0)) | ((with_reducible refine gate_callee (f := 42) rfl ?_); refine goesL_ (some 52) rfl rfl Try.func42 (by kernel_rfl) rfl #[.slice Ao35 t267.length co35, .int .i64 1] rfl (by (try simp only [List.map_toArray, List.map_cons, List.map_nil]); first | done | (rw [show t267.length = t252.length from (Kd.R_reads' HO_8.out).1.symm] <;> rfl) | rfl | (simp only [List.length_drop, List.length_take]; rfl)) ?_; (with_reducible refine (laws_heldAggS.calls kj17 _ _ t267 1 t268 _ ?side1 ?side2 A49.out).mono ?_); (case side1 => repeat (first | exact (Kd.R_reads' HO_8.out).2.2 | (with_reducible refine Kd.C_alloc ?_ _) | (with_reducible refine Kd.C_drewN ?_ _) | (with_reducible refine Kd.C_drew ?_))); (case side2 => rw [show t267.length = t252.length from (Kd.R_reads' HO_8.out).1.symm]; exact (Kd.R_reads' HO_8.out).2.1); rintro e w' ⟨rfl, ⟨nd, rfl⟩⟩; refine ⟨_, rfl, ?_⟩; have hnb60 := NB234_251.out; have hnc60 := NB251_234.out; obtain ⟨hcz61_0, hcz61_1, hcz61_2, hcz61_3⟩ := cb4_ BK234.out; obtain ⟨hfz61_0, hfz61_1, hfz61_2⟩ := bf3_ BK234.out; have hfz61_3 := blk_frozen BK234.out 3) | ((with_reducible refine gate_callee (f := 26) rfl ?_); refine goesL_ (some 59) rfl rfl Try.func26 (by kernel_rfl) rfl #[.agg #[.slice A0_0 l0_0.length c0_0, .int .i64 a0_1, .int .i64 a0_2, .int .i64 a0_3]] rfl ul_ ?_; (with_reducible refine (laws_toShard.calls kj17 _ _ l0_0 a0_1 a0_2 a0_3 t269 t272 t273 t274 _ ?side1 ?side2 A52.out).mono ?_); (case side1 => repeat (first | exact (Kd.C_below HR0_0.out (ue_ HB.out)) | (with_reducible refine Kd.C_alloc ?_ _) | (with_reducible refine Kd.C_drewN ?_ _) | (with_reducible refine Kd.C_drew ?_))); (case side2 => exact HC0_0.out); rintro e w62 ⟨v270, rfl, ho0, hb⟩; refine ⟨_, rfl, ?_⟩; have n0_ := am_ (Kd.R_elder' (ur_ HO_6.out) (Kd.R_base ho0) hb); have n1_ := am_ (Kd.R_elder' (ur_ HO_8.out) (Kd.R_base ho0) hb); have n2_ := am_ (Kd.R_elder' (ur_ HO_252000.out) (Kd.R_base ho0) hb); have n3_ := am_ (Kd.R_lower (Kd.R_new' (Kd.R_new' (Kd.R_new' ho0 (Kd.R_lt (ur_ HO_6.out))) (Kd.R_lt (ur_ HO_8.out))) (Kd.R_lt (ur_ HO_252000.out))) (below_size (ue_ HB.out))); have n4_ := am_ (bb_ BK234.out hb); have n5_ := am_ (bb_ BK251.out hb); have n6_ := am_ (below_step (ue_ HB.out) hb); clear HO_6 HO_8 HO_252000 BK234 BK251 HB; have HO_6 := n0_; have HO_8 := n1_; have HO_252000 := n2_; have HO271 := n3_; have BK234 := n4_; have BK251 := n5_; have HB := n6_; clear n0_ n1_ n2_ n3_ n4_ n5_ n6_; (try clear hb); (try clear hb2); (try clear hk); (try clear hi); (try clear ho0); obtain ⟨Ao63, co63, eo63⟩ := Kd.R_slice HO271.out; subst eo63) | ((with_reducible refine gate_callee (f := 39) rfl ?_); refine goesL_ (some 61) rfl rfl Try.func39 (by kernel_rfl) rfl #[.agg #[.slice Ao63 t269.length co63, .int .i64 t272, .int .i64 t273, .int .i64 t274], .int .i64 a1] rfl ul_ ?_; (with_reducible refine (impl_ClosedOf.calls kj17 _ _ t269 t272 t273 t274 a1 t275 _ ?side1 ?side2 A53.out).mono ?_); (case side1 => repeat (first | exact (Kd.R_reads' HO271.out).2.2 | (with_reducible refine Kd.C_alloc ?_ _) | (with_reducible refine Kd.C_drewN ?_ _) | (with_reducible refine Kd.C_drew ?_))); (case side2 => exact (Kd.R_reads' HO271.out).2.1); rintro e w64 ⟨v276, rfl, ho0, hb⟩; refine ⟨_, rfl, ?_⟩; have n0_ := am_ (Kd.R_elder' (ur_ HO_6.out) (Kd.R_base ho0) hb); have n1_ := am_ (Kd.R_elder' (ur_ HO_8.out) (Kd.R_base ho0) hb); have n2_ := am_ (Kd.R_elder' (ur_ HO_252000.out) (Kd.R_base ho0) hb); have n3_ := am_ (Kd.R_elder' (ur_ HO271.out) (Kd.R_base ho0) hb); have n4_ := am_ (Kd.R_lower (Kd.R_new' (Kd.R_new' (Kd.R_new' (Kd.R_new' ho0 (Kd.R_lt (ur_ HO_6.out))) (Kd.R_lt (ur_ HO_8.out))) (Kd.R_lt (ur_ HO_252000.out))) (Kd.R_lt (ur_ HO271.out))) (below_size (ue_ HB.out))); have n5_ := am_ (bb_ BK234.out hb); have n6_ := am_ (bb_ BK251.out hb); have n7_ := am_ (below_step (ue_ HB.out) hb); clear HO_6 HO_8 HO_252000 HO271 BK234 BK251 HB; have HO_6 := n0_; have HO_8 := n1_; have HO_252000 := n2_; have HO271 := n3_; have HO277 := n4_; have BK234 := n5_; have BK251 := n6_; have HB := n7_; clear n0_ n1_ n2_ n3_ n4_ n5_ n6_ n7_; (try clear hb); (try clear hb2); (try clear hk); (try clear hi); (try clear ho0); obtain ⟨Ao65, co65, eo65⟩ := Kd.R_slice HO277.out; subst eo65) | ((with_reducible refine gate_callee (f := 40) rfl ?_); refine goesL_ (some 64) rfl rfl Try.func40 (by kernel_rfl) rfl #[.slice Ao65 t275.length co65, .slice Ao36 t242.length co36] rfl ul_ ?_; (with_reducible refine (laws_eqAggS.calls kj17 _ _ t275 _ _ t242 true _ ?side1 ?side2 ?side3 ?side4 A54.out).mono ?_); (case side1 => repeat (first | exact (Kd.R_reads' HO277.out).2.2 | (with_reducible refine Kd.C_alloc ?_ _) | (with_reducible refine Kd.C_drewN ?_ _) | (with_reducible refine Kd.C_drew ?_))); (case side2 => exact (Kd.R_reads' HO277.out).2.1); (case side3 => repeat (first | exact (Kd.R_reads' HO_6.out).2.2 | (with_reducible refine Kd.C_alloc ?_ _) | (with_reducible refine Kd.C_drewN ?_ _) | (with_reducible refine Kd.C_drew ?_))); (case side4 => exact (Kd.R_reads' HO_6.out).2.1); rintro e w66 ⟨rfl, hb⟩; refine ⟨_, rfl, ?_⟩; have n0_ := am_ (Kd.R_below (ur_ HO_6.out) hb); have n1_ := am_ (Kd.R_below (ur_ HO_8.out) hb); have n2_ := am_ (Kd.R_below (ur_ HO_252000.out) hb); have n3_ := am_ (Kd.R_below (ur_ HO271.out) hb); have n4_ := am_ (Kd.R_below (ur_ HO277.out) hb); have n5_ := am_ (bb_ BK234.out hb); have n6_ := am_ (bb_ BK251.out hb); have n7_ := am_ (below_step (ue_ HB.out) hb); clear HO_6 HO_8 HO_252000 HO271 HO277 BK234 BK251 HB; have HO_6 := n0_; have HO_8 := n1_; have HO_252000 := n2_; have HO271 := n3_; have HO277 := n4_; have BK234 := n5_; have BK251 := n6_; have HB := n7_; clear n0_ n1_ n2_ n3_ n4_ n5_ n6_ n7_; (try clear hb); (try clear hb2); (try clear hk); (try clear hi)) | ((with_reducible refine gate_callee (f := 42) rfl ?_); refine goesL_ (some 68) rfl rfl Try.func42 (by kernel_rfl) rfl #[.slice Ao35 t267.length co35, .int .i64 1] rfl (by (try simp only [List.map_toArray, List.map_cons, List.map_nil]); first | done | (rw [show t267.length = t252.length from (Kd.R_reads' HO_8.out).1.symm] <;> rfl) | rfl | (simp only [List.length_drop, List.length_take]; rfl)) ?_; (with_reducible refine (laws_heldAggS.calls kj17 _ _ t267 1 t279 _ ?side1 ?side2 A56.out).mono ?_); (case side1 => repeat (first | exact (Kd.R_reads' HO_8.out).2.2 | (with_reducible refine Kd.C_alloc ?_ _) | (with_reducible refine Kd.C_drewN ?_ _) | (with_reducible refine Kd.C_drew ?_))); (case side2 => rw [show t267.length = t252.length from (Kd.R_reads' HO_8.out).1.symm]; exact (Kd.R_reads' HO_8.out).2.1); rintro e w' ⟨rfl, ⟨nd, rfl⟩⟩; refine ⟨_, rfl, ?_⟩))
            go_ret
            exact ⟨ew_, ue_ HB.out⟩
           ·
            rw [if_neg c58] at H
            have c58b0 : (t279 == t266) = false := beq_eq_false_iff_ne.mpr c58
            have c58b1 : (t279 != t266) = true := bne_iff_ne.mpr c58
            exact absurd ((Option.some.inj H).trans hT.out) (by decide)
         ·
          replace c55 := Bool.eq_false_iff.mpr c55
          subst c55
          have H1 : (some false) = some r := by rw [if_neg (show ¬ (false = true) by decide)] at H; exact H
          clear H
          have H := H1
          clear H1
          exact absurd ((Option.some.inj H).trans hT.out) (by decide)
        ·
         rw [if_neg c51] at H
         have c51b0 : (t268 == t266) = false := beq_eq_false_iff_ne.mpr c51
         have c51b1 : (t268 != t266) = true := bne_iff_ne.mpr c51
         exact absurd ((Option.some.inj H).trans hT.out) (by decide)
   ·
    replace c16 := Bool.eq_false_iff.mpr c16
    subst c16
    have H1 : (some false) = some r := by rw [if_neg (show ¬ (false = true) by decide)] at H; exact H
    clear H
    have H := H1
    clear H1
    exact absurd ((Option.some.inj H).trans hT.out) (by decide)
  ·
   replace c13 := Bool.eq_false_iff.mpr c13
   subst c13
   have H1 : (some false) = some r := by rw [if_neg (show ¬ (false = true) by decide)] at H; exact H
   clear H
   have H := H1
   clear H1
   exact absurd ((Option.some.inj H).trans hT.out) (by decide)

end Go.Proofs.Ytcflalomjehiiaa.QFnExactClosedOf
