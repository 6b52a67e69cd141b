/- The machine side of a law: Lean functions with the Go functions' answers and the walks that show it. No condition. -/
import Derived.Test.YtoeiadanmfajoaaQFnExactGrowRingx0
import Derived.Test.YtoeiadanmfajoaaQFnExactGrowRingx1
import Derived.Test.YtoeiadanmfajoaaQFnExactGrowRingx4
import Derived.Test.YtoeiadanmfajoaaQFnExactGrowRingx6
namespace Go.Proofs.Ytoeiadanmfajoaa.QFnExactGrowRing
open Go.RowKit Go.Proofs.YtoeiadanmfajoaaW.PrintWords Go.Proofs.YtoeiadanmfajoaaW.PrintLast Go.Proofs.YtoeiadanmfajoaaW.PrintMore
attribute [local go_sem] max2_int min2_int max_two min_two max_three min_three max_four min_four   -- for this text's walks alone
set_option linter.unusedVariables false
set_option linter.unusedSimpArgs false

/-! ### laws_FnExactGrowRing: function 13 -/
mutual
def laws_FnExactGrowRing.j0 : Nat → Int → Bool → Bool → Bool → List Int → Int → Int → List Int → Int → Int → List Int → Int → Int → List Int → Int → Int → Option (Bool)
 | 0, _, _, _, _, _, _, _, _, _, _, _, _, _, _, _, _ => none
 | k + 1, x1, x7, x10, x44, x237000, x237001, x237002, x250000, x250001, x250002, x256000, x256001, x256002, x263000, x263001, x263002 => if x44 = true then (some false) else ((laws_toRing.f k x237000 x237001 x237002).bind fun bt264 => ((laws_eqRing.f k x256000 x256001 x256002 bt264.1 bt264.2.1 bt264.2.2).bind fun t269 => (if t269 = true then ((laws_markRing.f k x256000 x256001 x256002 1).bind fun bt270 => (if bt270.1 < 0 then (laws_FnExactGrowRing.j1 k x1 x7 true x237000 x237001 x237002 x250000 x250001 x250002 x263000 x263001 x263002) else ((laws_eqRing.f k x263000 x263001 x263002 x250000 x250001 x250002).bind fun t272 => (if t272 = true then (laws_FnExactGrowRing.j1 k x1 x7 (x10 != x7) x237000 x237001 x237002 x250000 x250001 x250002 x263000 x263001 x263002) else (laws_FnExactGrowRing.j1 k x1 x7 true x237000 x237001 x237002 x250000 x250001 x250002 x263000 x263001 x263002))))) else (some false))))
def laws_FnExactGrowRing.j1 : Nat → Int → Bool → Bool → List Int → Int → Int → List Int → Int → Int → List Int → Int → Int → Option (Bool)
 | 0, _, _, _, _, _, _, _, _, _, _, _, _ => none
 | k + 1, x1, x7, x65, x237000, x237001, x237002, x250000, x250001, x250002, x263000, x263001, x263002 => if x65 = true then (some false) else ((laws_markRing.f k x263000 x263001 x263002 1).bind fun bt273 => ((laws_heldRing.f k bt273.2 x263001 x263002 1).bind fun t275 => (if t275 < 0 then (some false) else (if t275 = bt273.1 then ((laws_toRing.f k x237000 x237001 x237002).bind fun bt276 => ((impl_GrowRing.f k bt276.1 bt276.2.1 bt276.2.2 x1).bind fun bt281 => ((laws_eqRing.f k bt281.1 bt281.2.1 bt281.2.2.1 x250000 x250001 x250002).bind fun t288 => (if t288 = true then (laws_FnExactGrowRing.j2 k bt273.1 (bt281.2.2.2 != x7) bt273.2 x263001 x263002) else (laws_FnExactGrowRing.j2 k bt273.1 true bt273.2 x263001 x263002))))) else (some false)))))
def laws_FnExactGrowRing.j2 : Nat → Int → Bool → List Int → Int → Int → Option (Bool)
 | 0, _, _, _, _, _ => none
 | k + 1, x12, x92, x263000, x263001, x263002 => if x92 = true then (some false) else ((laws_heldRing.f k x263000 x263001 x263002 1).bind fun t289 => (if t289 < 0 then (some false) else (if t289 = x12 then (some true) else (some false))))
end
def laws_FnExactGrowRing.f (k : Nat) (l0_0 : List Int) (a0_1 : Int) (a0_2 : Int) (a1 : Int) : Option (Bool) := (laws_szRing.f l0_0 a0_1 a0_2 1048576).bind fun t237 => (if t237 < 0 then (some true) else ((laws_toRing.f k l0_0 a0_1 a0_2).bind fun bt238 => ((spec_GrowRing.f k bt238.1 bt238.2.1 bt238.2.2 a1).bind fun bt243 => ((laws_toRing.f k l0_0 a0_1 a0_2).bind fun bt250 => ((impl_GrowRing.f k bt250.1 bt250.2.1 bt250.2.2 a1).bind fun bt256 => ((laws_eqRing.f k bt256.1 bt256.2.1 bt256.2.2.1 bt243.1 bt243.2.1 bt243.2.2.1).bind fun t263 => (if t263 = true then (laws_FnExactGrowRing.j0 k a1 bt243.2.2.2 bt256.2.2.2 (bt256.2.2.2 != bt243.2.2.2) l0_0 a0_1 a0_2 bt243.1 bt243.2.1 bt243.2.2.1 bt250.1 bt250.2.1 bt250.2.2 bt256.1 bt256.2.1 bt256.2.2.1) else (laws_FnExactGrowRing.j0 k a1 bt243.2.2.2 bt256.2.2.2 true l0_0 a0_1 a0_2 bt243.1 bt243.2.1 bt243.2.2.1 bt250.1 bt250.2.1 bt250.2.2 bt256.1 bt256.2.1 bt256.2.2.1))))))))
theorem laws_FnExactGrowRing.mono_l : ∀ k, (∀ y0 y1 y2 y3 y4 y5 y6 y7 y8 y9 y10 y11 y12 y13 y14 y15, LeO (laws_FnExactGrowRing.j0 k y0 y1 y2 y3 y4 y5 y6 y7 y8 y9 y10 y11 y12 y13 y14 y15) (laws_FnExactGrowRing.j0 (k + 1) y0 y1 y2 y3 y4 y5 y6 y7 y8 y9 y10 y11 y12 y13 y14 y15)) ∧ (∀ y0 y1 y2 y3 y4 y5 y6 y7 y8 y9 y10 y11, LeO (laws_FnExactGrowRing.j1 k y0 y1 y2 y3 y4 y5 y6 y7 y8 y9 y10 y11) (laws_FnExactGrowRing.j1 (k + 1) y0 y1 y2 y3 y4 y5 y6 y7 y8 y9 y10 y11)) ∧ (∀ y0 y1 y2 y3 y4, LeO (laws_FnExactGrowRing.j2 k y0 y1 y2 y3 y4) (laws_FnExactGrowRing.j2 (k + 1) y0 y1 y2 y3 y4))
 | 0 => ⟨fun _ _ _ _ _ _ _ _ _ _ _ _ _ _ _ _ r h => by simp [laws_FnExactGrowRing.j0] at h, fun _ _ _ _ _ _ _ _ _ _ _ _ r h => by simp [laws_FnExactGrowRing.j1] at h, fun _ _ _ _ _ r h => by simp [laws_FnExactGrowRing.j2] at h⟩
 | k + 1 => by
  obtain ⟨ih0, ih1, ih2⟩ := laws_FnExactGrowRing.mono_l k
  refine ⟨?_, ?_, ?_⟩
  ·
   intro y0 y1 y2 y3 y4 y5 y6 y7 y8 y9 y10 y11 y12 y13 y14 y15
   unfold laws_FnExactGrowRing.j0
   repeat' first
   | (with_reducible exact ih0 _ _ _ _ _ _ _ _ _ _ _ _ _ _ _ _)
   | (with_reducible exact ih1 _ _ _ _ _ _ _ _ _ _ _ _)
   | (with_reducible exact ih2 _ _ _ _ _)
   | (with_reducible exact impl_GrowRing.mono _ _ _ _ _)
   | (with_reducible exact laws_eqRing.mono _ _ _ _ _ _ _)
   | (with_reducible exact laws_heldRing.mono _ _ _ _ _)
   | (with_reducible exact laws_markRing.mono _ _ _ _ _)
   | (with_reducible exact laws_toRing.mono _ _ _ _)
   | (with_reducible exact spec_GrowRing.mono _ _ _ _ _)
   | (with_reducible exact LeO.refl _)
   | (with_reducible exact LeO.none _)
   | (with_reducible refine LeO.ite ?_ ?_)
   | (with_reducible refine LeO.bind ?_ (fun _ => ?_))
   | exact ih0 _ _ _ _ _ _ _ _ _ _ _ _ _ _ _ _
   | exact ih1 _ _ _ _ _ _ _ _ _ _ _ _
   | exact ih2 _ _ _ _ _
   | exact impl_GrowRing.mono _ _ _ _ _
   | exact laws_eqRing.mono _ _ _ _ _ _ _
   | exact laws_heldRing.mono _ _ _ _ _
   | exact laws_markRing.mono _ _ _ _ _
   | exact laws_toRing.mono _ _ _ _
   | exact spec_GrowRing.mono _ _ _ _ _
   | exact LeO.none _
   | refine LeO.ite ?_ ?_
   | refine LeO.bind ?_ (fun _ => ?_)
  ·
   intro y0 y1 y2 y3 y4 y5 y6 y7 y8 y9 y10 y11
   unfold laws_FnExactGrowRing.j1
   repeat' first
   | (with_reducible exact ih0 _ _ _ _ _ _ _ _ _ _ _ _ _ _ _ _)
   | (with_reducible exact ih1 _ _ _ _ _ _ _ _ _ _ _ _)
   | (with_reducible exact ih2 _ _ _ _ _)
   | (with_reducible exact impl_GrowRing.mono _ _ _ _ _)
   | (with_reducible exact laws_eqRing.mono _ _ _ _ _ _ _)
   | (with_reducible exact laws_heldRing.mono _ _ _ _ _)
   | (with_reducible exact laws_markRing.mono _ _ _ _ _)
   | (with_reducible exact laws_toRing.mono _ _ _ _)
   | (with_reducible exact spec_GrowRing.mono _ _ _ _ _)
   | (with_reducible exact LeO.refl _)
   | (with_reducible exact LeO.none _)
   | (with_reducible refine LeO.ite ?_ ?_)
   | (with_reducible refine LeO.bind ?_ (fun _ => ?_))
   | exact ih0 _ _ _ _ _ _ _ _ _ _ _ _ _ _ _ _
   | exact ih1 _ _ _ _ _ _ _ _ _ _ _ _
   | exact ih2 _ _ _ _ _
   | exact impl_GrowRing.mono _ _ _ _ _
   | exact laws_eqRing.mono _ _ _ _ _ _ _
   | exact laws_heldRing.mono _ _ _ _ _
   | exact laws_markRing.mono _ _ _ _ _
   | exact laws_toRing.mono _ _ _ _
   | exact spec_GrowRing.mono _ _ _ _ _
   | exact LeO.none _
   | refine LeO.ite ?_ ?_
   | refine LeO.bind ?_ (fun _ => ?_)
  ·
   intro y0 y1 y2 y3 y4
   unfold laws_FnExactGrowRing.j2
   repeat' first
   | (with_reducible exact ih0 _ _ _ _ _ _ _ _ _ _ _ _ _ _ _ _)
   | (with_reducible exact ih1 _ _ _ _ _ _ _ _ _ _ _ _)
   | (with_reducible exact ih2 _ _ _ _ _)
   | (with_reducible exact impl_GrowRing.mono _ _ _ _ _)
   | (with_reducible exact laws_eqRing.mono _ _ _ _ _ _ _)
   | (with_reducible exact laws_heldRing.mono _ _ _ _ _)
   | (with_reducible exact laws_markRing.mono _ _ _ _ _)
   | (with_reducible exact laws_toRing.mono _ _ _ _)
   | (with_reducible exact spec_GrowRing.mono _ _ _ _ _)
   | (with_reducible exact LeO.refl _)
   | (with_reducible exact LeO.none _)
   | (with_reducible refine LeO.ite ?_ ?_)
   | (with_reducible refine LeO.bind ?_ (fun _ => ?_))
   | exact ih0 _ _ _ _ _ _ _ _ _ _ _ _ _ _ _ _
   | exact ih1 _ _ _ _ _ _ _ _ _ _ _ _
   | exact ih2 _ _ _ _ _
   | exact impl_GrowRing.mono _ _ _ _ _
   | exact laws_eqRing.mono _ _ _ _ _ _ _
   | exact laws_heldRing.mono _ _ _ _ _
   | exact laws_markRing.mono _ _ _ _ _
   | exact laws_toRing.mono _ _ _ _
   | exact spec_GrowRing.mono _ _ _ _ _
   | exact LeO.none _
   | refine LeO.ite ?_ ?_
   | refine LeO.bind ?_ (fun _ => ?_)
theorem laws_FnExactGrowRing.mono : ∀ a0 a1 a2 a3 k, LeO (laws_FnExactGrowRing.f k a0 a1 a2 a3) (laws_FnExactGrowRing.f (k + 1) a0 a1 a2 a3) := by
 intro a0 a1 a2 a3 k
 obtain ⟨ih0, ih1, ih2⟩ := laws_FnExactGrowRing.mono_l k
 unfold laws_FnExactGrowRing.f
 repeat' first
   | (with_reducible exact ih0 _ _ _ _ _ _ _ _ _ _ _ _ _ _ _ _)
   | (with_reducible exact ih1 _ _ _ _ _ _ _ _ _ _ _ _)
   | (with_reducible exact ih2 _ _ _ _ _)
   | (with_reducible exact impl_GrowRing.mono _ _ _ _ _)
   | (with_reducible exact laws_eqRing.mono _ _ _ _ _ _ _)
   | (with_reducible exact laws_heldRing.mono _ _ _ _ _)
   | (with_reducible exact laws_markRing.mono _ _ _ _ _)
   | (with_reducible exact laws_toRing.mono _ _ _ _)
   | (with_reducible exact spec_GrowRing.mono _ _ _ _ _)
   | (with_reducible exact LeO.refl _)
   | (with_reducible exact LeO.none _)
   | (with_reducible refine LeO.ite ?_ ?_)
   | (with_reducible refine LeO.bind ?_ (fun _ => ?_))
   | exact ih0 _ _ _ _ _ _ _ _ _ _ _ _ _ _ _ _
   | exact ih1 _ _ _ _ _ _ _ _ _ _ _ _
   | exact ih2 _ _ _ _ _
   | exact impl_GrowRing.mono _ _ _ _ _
   | exact laws_eqRing.mono _ _ _ _ _ _ _
   | exact laws_heldRing.mono _ _ _ _ _
   | exact laws_markRing.mono _ _ _ _ _
   | exact laws_toRing.mono _ _ _ _
   | exact spec_GrowRing.mono _ _ _ _ _
   | exact LeO.none _
   | refine LeO.ite ?_ ?_
   | refine LeO.bind ?_ (fun _ => ?_)
set_option maxHeartbeats 8000000 in
set_option maxRecDepth 100000 in
theorem laws_FnExactGrowRing.calls (k : Nat) (A0_0 : Option Addr) (c0_0 : Nat) (l0_0 : List Int) (a0_1 : Int) (a0_2 : Int) (a1 : Int) (r : Bool) (w : World) (hr0_0 : Kd.C (Kd.int .i64) w A0_0 l0_0.length l0_0) (hc0_0 : l0_0.length ≤ c0_0) (hT : Aside0 (r = true)) (h : laws_FnExactGrowRing.f k l0_0 a0_1 a0_2 a1 = some r) :
  Calls Try.prog 13 #[.agg #[.slice A0_0 l0_0.length c0_0, .int .i64 a0_1, .int .i64 a0_2], .int .i64 a1] w fun e w' => e = .returned (.bool r) ∧ Below w.heap.size w w' := by
 have hu24 := Try.underlying24
 have hu29 := Try.underlying29
 have HR0_0 := Aside0.mk hr0_0
 have HC0_0 := Aside0.mk hc0_0
 clear hr0_0 hc0_0
 have HB := am_ (Below.refl w.heap.size w)
 have H : ((laws_szRing.f l0_0 a0_1 a0_2 1048576).bind fun t237 => (if t237 < 0 then (some true) else ((laws_toRing.f k l0_0 a0_1 a0_2).bind fun bt238 => ((spec_GrowRing.f k bt238.1 bt238.2.1 bt238.2.2 a1).bind fun bt243 => ((laws_toRing.f k l0_0 a0_1 a0_2).bind fun bt250 => ((impl_GrowRing.f k bt250.1 bt250.2.1 bt250.2.2 a1).bind fun bt256 => ((laws_eqRing.f k bt256.1 bt256.2.1 bt256.2.2.1 bt243.1 bt243.2.1 bt243.2.2.1).bind fun t263 => (if t263 = true then (laws_FnExactGrowRing.j0 k a1 bt243.2.2.2 bt256.2.2.2 (bt256.2.2.2 != bt243.2.2.2) l0_0 a0_1 a0_2 bt243.1 bt243.2.1 bt243.2.2.1 bt250.1 bt250.2.1 bt250.2.2 bt256.1 bt256.2.1 bt256.2.2.1) else (laws_FnExactGrowRing.j0 k a1 bt243.2.2.2 bt256.2.2.2 true l0_0 a0_1 a0_2 bt243.1 bt243.2.1 bt243.2.2.1 bt250.1 bt250.2.1 bt250.2.2 bt256.1 bt256.2.1 bt256.2.2.1))))))))) = some r := h
 clear h
 replace H := Option.bind_eq_some_iff.mp H
 obtain ⟨t237, A30, H⟩ := H
 replace H : (if t237 < 0 then (some true) else ((laws_toRing.f k l0_0 a0_1 a0_2).bind fun bt238 => ((spec_GrowRing.f k bt238.1 bt238.2.1 bt238.2.2 a1).bind fun bt243 => ((laws_toRing.f k l0_0 a0_1 a0_2).bind fun bt250 => ((impl_GrowRing.f k bt250.1 bt250.2.1 bt250.2.2 a1).bind fun bt256 => ((laws_eqRing.f k bt256.1 bt256.2.1 bt256.2.2.1 bt243.1 bt243.2.1 bt243.2.2.1).bind fun t263 => (if t263 = true then (laws_FnExactGrowRing.j0 k a1 bt243.2.2.2 bt256.2.2.2 (bt256.2.2.2 != bt243.2.2.2) l0_0 a0_1 a0_2 bt243.1 bt243.2.1 bt243.2.2.1 bt250.1 bt250.2.1 bt250.2.2 bt256.1 bt256.2.1 bt256.2.2.1) else (laws_FnExactGrowRing.j0 k a1 bt243.2.2.2 bt256.2.2.2 true l0_0 a0_1 a0_2 bt243.1 bt243.2.1 bt243.2.2.1 bt250.1 bt250.2.1 bt250.2.2 bt256.1 bt256.2.1 bt256.2.2.1)))))))) = some r := H
 have A3 := Aside0.mk A30
 clear A30
 by_cases c4 : t237 < 0
 ·
  rw [if_pos c4] at H
  have c4b0 : decide (t237 < 0) = true := decide_eq_true c4
  clear c4
  obtain rfl := Option.some.inj H
  go_enter Try.func13, Try.ntmps13
  go_wp2_with (first | ((with_reducible refine gate_dst (N := 2) rfl ?_); refine box_event ?hg (N := 2) ?hd (cs := #[.slice A0_0 l0_0.length c0_0, .int .i64 a0_1, .int .i64 a0_2]) (t := 24) ?hr ?_; (case hd => rfl); (case hg => rfl); (case hr => first | (go_simp; done) | (go_simp; rfl)); intro gb236 hg w5 hbox hb; have n0_ := am_ (below_step (ue_ HB.out) hb); have n1_ := am_ (hbox); have n2_ := am_ ((by rw [hg]; exact (below_size (ue_ HB.out)) : w.heap.size ≤ gb236)); have n3_ := am_ ((by rw [hg]; exact (below_size (ue_ HB.out)) : w.heap.size ≤ gb236)); clear HB; have HB := n0_; have BK236 := n1_; have GW236 := n2_; have GE236 := n3_; clear n0_ n1_ n2_ n3_; clear hb hbox hg; obtain ⟨hcz6_0, hcz6_1, hcz6_2⟩ := cb3_ BK236.out; obtain ⟨hfz6_0, hfz6_1⟩ := bf2_ BK236.out; have hfz6_2 := blk_frozen BK236.out 2) | ((with_reducible refine gate_callee (f := 14) rfl ?_); refine goesL_ (some 18) rfl rfl Try.func14 (by kernel_rfl) rfl #[.agg #[.slice A0_0 l0_0.length c0_0, .int .i64 a0_1, .int .i64 a0_2], .int .i64 1048576] rfl ul_ ?_; (with_reducible refine (laws_szRing.calls _ _ l0_0 a0_1 a0_2 1048576 t237 _ ?side1 ?side2 A3.out).mono ?_); (case side1 => repeat (first | exact (Kd.C_below HR0_0.out HB.out) | (with_reducible refine Kd.C_alloc ?_ _) | (with_reducible refine Kd.C_drewN ?_ _) | (with_reducible refine Kd.C_drew ?_))); (case side2 => exact HC0_0.out); rintro e w7 ⟨rfl, hb⟩; refine ⟨_, rfl, ?_⟩; have n0_ := am_ (bb_ BK236.out hb); have n1_ := am_ (below_step (ue_ HB.out) hb); clear BK236 HB; have BK236 := n0_; have HB := n1_; clear n0_ n1_; (try clear hb); (try clear hb2); (try clear hk); (try clear hi)))
  go_ret
  exact ⟨ew_, ue_ HB.out⟩
 ·
  rw [if_neg c4] at H
  have c4b0 : decide (t237 < 0) = false := decide_eq_false c4
  clear c4
  replace H := Option.bind_eq_some_iff.mp H
  obtain ⟨⟨t238, t241, t242⟩, A80, H⟩ := H
  replace H : ((spec_GrowRing.f k t238 t241 t242 a1).bind fun bt243 => ((laws_toRing.f k l0_0 a0_1 a0_2).bind fun bt250 => ((impl_GrowRing.f k bt250.1 bt250.2.1 bt250.2.2 a1).bind fun bt256 => ((laws_eqRing.f k bt256.1 bt256.2.1 bt256.2.2.1 bt243.1 bt243.2.1 bt243.2.2.1).bind fun t263 => (if t263 = true then (laws_FnExactGrowRing.j0 k a1 bt243.2.2.2 bt256.2.2.2 (bt256.2.2.2 != bt243.2.2.2) l0_0 a0_1 a0_2 bt243.1 bt243.2.1 bt243.2.2.1 bt250.1 bt250.2.1 bt250.2.2 bt256.1 bt256.2.1 bt256.2.2.1) else (laws_FnExactGrowRing.j0 k a1 bt243.2.2.2 bt256.2.2.2 true l0_0 a0_1 a0_2 bt243.1 bt243.2.1 bt243.2.2.1 bt250.1 bt250.2.1 bt250.2.2 bt256.1 bt256.2.1 bt256.2.2.1)))))) = some r := H
  have A8 := Aside0.mk A80
  clear A80
  replace H := Option.bind_eq_some_iff.mp H
  obtain ⟨⟨t243, t246, t247, t248⟩, A90, H⟩ := H
  replace H : ((laws_toRing.f k l0_0 a0_1 a0_2).bind fun bt250 => ((impl_GrowRing.f k bt250.1 bt250.2.1 bt250.2.2 a1).bind fun bt256 => ((laws_eqRing.f k bt256.1 bt256.2.1 bt256.2.2.1 t243 t246 t247).bind fun t263 => (if t263 = true then (laws_FnExactGrowRing.j0 k a1 t248 bt256.2.2.2 (bt256.2.2.2 != t248) l0_0 a0_1 a0_2 t243 t246 t247 bt250.1 bt250.2.1 bt250.2.2 bt256.1 bt256.2.1 bt256.2.2.1) else (laws_FnExactGrowRing.j0 k a1 t248 bt256.2.2.2 true l0_0 a0_1 a0_2 t243 t246 t247 bt250.1 bt250.2.1 bt250.2.2 bt256.1 bt256.2.1 bt256.2.2.1))))) = some r := H
  have A9 := Aside0.mk A90
  clear A90
  replace H := Option.bind_eq_some_iff.mp H
  obtain ⟨⟨t250, t253, t254⟩, A100, H⟩ := H
  replace H : ((impl_GrowRing.f k t250 t253 t254 a1).bind fun bt256 => ((laws_eqRing.f k bt256.1 bt256.2.1 bt256.2.2.1 t243 t246 t247).bind fun t263 => (if t263 = true then (laws_FnExactGrowRing.j0 k a1 t248 bt256.2.2.2 (bt256.2.2.2 != t248) l0_0 a0_1 a0_2 t243 t246 t247 t250 t253 t254 bt256.1 bt256.2.1 bt256.2.2.1) else (laws_FnExactGrowRing.j0 k a1 t248 bt256.2.2.2 true l0_0 a0_1 a0_2 t243 t246 t247 t250 t253 t254 bt256.1 bt256.2.1 bt256.2.2.1)))) = some r := H
  have A10 := Aside0.mk A100
  clear A100
  replace H := Option.bind_eq_some_iff.mp H
  obtain ⟨⟨t256, t259, t260, t261⟩, A110, H⟩ := H
  replace H : ((laws_eqRing.f k t256 t259 t260 t243 t246 t247).bind fun t263 => (if t263 = true then (laws_FnExactGrowRing.j0 k a1 t248 t261 (t261 != t248) l0_0 a0_1 a0_2 t243 t246 t247 t250 t253 t254 t256 t259 t260) else (laws_FnExactGrowRing.j0 k a1 t248 t261 true l0_0 a0_1 a0_2 t243 t246 t247 t250 t253 t254 t256 t259 t260))) = some r := H
  have A11 := Aside0.mk A110
  clear A110
  have HC12 := Aside0.mk H
  clear H
  go_enter Try.func13, Try.ntmps13
  go_upto_region 8 with (first | ((with_reducible refine gate_dst (N := 2) rfl ?_); refine box_event ?hg (N := 2) ?hd (cs := #[.slice A0_0 l0_0.length c0_0, .int .i64 a0_1, .int .i64 a0_2]) (t := 24) ?hr ?_; (case hd => rfl); (case hg => rfl); (case hr => first | (go_simp; done) | (go_simp; rfl)); intro gb236 hg w13 hbox hb; have n0_ := am_ (below_step (ue_ HB.out) hb); have n1_ := am_ (hbox); have n2_ := am_ ((by rw [hg]; exact (below_size (ue_ HB.out)) : w.heap.size ≤ gb236)); have n3_ := am_ ((by rw [hg]; exact (below_size (ue_ HB.out)) : w.heap.size ≤ gb236)); clear HB; have HB := n0_; have BK236 := n1_; have GW236 := n2_; have GE236 := n3_; clear n0_ n1_ n2_ n3_; clear hb hbox hg; obtain ⟨hcz14_0, hcz14_1, hcz14_2⟩ := cb3_ BK236.out; obtain ⟨hfz14_0, hfz14_1⟩ := bf2_ BK236.out; have hfz14_2 := blk_frozen BK236.out 2) | ((with_reducible refine gate_callee (f := 14) rfl ?_); refine goesL_ (some 18) rfl rfl Try.func14 (by kernel_rfl) rfl #[.agg #[.slice A0_0 l0_0.length c0_0, .int .i64 a0_1, .int .i64 a0_2], .int .i64 1048576] rfl ul_ ?_; (with_reducible refine (laws_szRing.calls _ _ l0_0 a0_1 a0_2 1048576 t237 _ ?side1 ?side2 A3.out).mono ?_); (case side1 => repeat (first | exact (Kd.C_below HR0_0.out HB.out) | (with_reducible refine Kd.C_alloc ?_ _) | (with_reducible refine Kd.C_drewN ?_ _) | (with_reducible refine Kd.C_drew ?_))); (case side2 => exact HC0_0.out); rintro e w15 ⟨rfl, hb⟩; refine ⟨_, rfl, ?_⟩; have n0_ := am_ (bb_ BK236.out hb); have n1_ := am_ (below_step (ue_ HB.out) hb); clear BK236 HB; have BK236 := n0_; have HB := n1_; clear n0_ n1_; (try clear hb); (try clear hb2); (try clear hk); (try clear hi); obtain ⟨hcz16_0, hcz16_1, hcz16_2⟩ := cb3_ BK236.out; obtain ⟨hfz16_0, hfz16_1⟩ := bf2_ BK236.out; have hfz16_2 := blk_frozen BK236.out 2) | ((with_reducible refine gate_callee (f := 16) rfl ?_); refine goesL_ (some 23) rfl rfl Try.func16 (by kernel_rfl) rfl #[.agg #[.slice A0_0 l0_0.length c0_0, .int .i64 a0_1, .int .i64 a0_2]] rfl ul_ ?_; (with_reducible refine (laws_toRing.calls k _ _ l0_0 a0_1 a0_2 t238 t241 t242 _ ?side1 ?side2 A8.out).mono ?_); (case side1 => repeat (first | exact (Kd.C_below HR0_0.out HB.out) | (with_reducible refine Kd.C_alloc ?_ _) | (with_reducible refine Kd.C_drewN ?_ _) | (with_reducible refine Kd.C_drew ?_))); (case side2 => exact HC0_0.out); rintro e w17 ⟨v239, rfl, ho0, hb⟩; refine ⟨_, rfl, ?_⟩; have n0_ := am_ (Kd.R_lower ho0 (below_size (ue_ HB.out))); have n1_ := am_ (bb_ BK236.out hb); have n2_ := am_ (below_step (ue_ HB.out) hb); clear BK236 HB; have HO240 := n0_; have BK236 := n1_; have HB := n2_; clear n0_ n1_ n2_; (try clear hb); (try clear hb2); (try clear hk); (try clear hi); (try clear ho0); obtain ⟨Ao18, co18, eo18⟩ := Kd.R_slice HO240.out; subst eo18) | ((with_reducible refine gate_callee (f := 63) rfl ?_); refine goesL_ (some 25) rfl rfl Try.func63 (by kernel_rfl) rfl #[.agg #[.slice Ao18 t238.length co18, .int .i64 t241, .int .i64 t242], .int .i64 a1] rfl ul_ ?_; (with_reducible refine (spec_GrowRing.calls k _ _ t238 t241 t242 a1 t243 t246 t247 t248 _ ?side1 ?side2 A9.out).mono ?_); (case side1 => repeat (first | exact (Kd.R_reads' HO240.out).2.2 | (with_reducible refine Kd.C_alloc ?_ _) | (with_reducible refine Kd.C_drewN ?_ _) | (with_reducible refine Kd.C_drew ?_))); (case side2 => exact (Kd.R_reads' HO240.out).2.1); rintro e w19 ⟨v244, rfl, ho0, hb⟩; refine ⟨_, rfl, ?_⟩; have n0_ := am_ (Kd.R_elder' (ur_ HO240.out) (Kd.R_base ho0) hb); have n1_ := am_ (Kd.R_lower (Kd.R_new' ho0 (Kd.R_lt (ur_ HO240.out))) (below_size (ue_ HB.out))); have n2_ := am_ (bb_ BK236.out hb); have n3_ := am_ (below_step (ue_ HB.out) hb); clear HO240 BK236 HB; have HO240 := n0_; have HO245 := n1_; have BK236 := n2_; have HB := n3_; clear n0_ n1_ n2_ n3_; (try clear hb); (try clear hb2); (try clear hk); (try clear hi); (try clear ho0)) | ((with_reducible refine gate_dst (N := 6) rfl ?_); refine box_event ?hg (N := 6) ?hd (cs := #[.slice none 0 0, .int .i64 0, .int .i64 0]) (t := 29) ?hr ?_; (case hd => rfl); (case hg => rfl); (case hr => first | (go_simp; done) | (go_simp; rfl)); intro gb249 hg w20 hbox hb; have n0_ := am_ (Kd.R_below (ur_ HO240.out) hb); have n1_ := am_ (Kd.R_below (ur_ HO245.out) hb); have n2_ := am_ (bb_ BK236.out hb); have n3_ := am_ (below_step (ue_ HB.out) hb); have n4_ := am_ (hbox); have n5_ := am_ ((by rw [hg]; exact (below_size (ue_ HB.out)) : w.heap.size ≤ gb249)); have n6_ := am_ ((by rw [hg]; exact (below_size (ue_ HB.out)) : w.heap.size ≤ gb249)); have n7_ := am_ ((by rw [hg]; exact Nat.ne_of_lt (bl_ BK236.out) : gb236 ≠ gb249)); have n8_ := am_ ((by rw [hg]; exact Nat.ne_of_gt (bl_ BK236.out) : gb249 ≠ gb236)); clear HO240 HO245 BK236 HB; have HO240 := n0_; have HO245 := n1_; have BK236 := n2_; have HB := n3_; have BK249 := n4_; have GW249 := n5_; have GE249 := n6_; have NB236_249 := n7_; have NB249_236 := n8_; clear n0_ n1_ n2_ n3_ n4_ n5_ n6_ n7_ n8_; clear hb hbox hg; obtain ⟨Ao21, co21, eo21⟩ := Kd.R_slice HO245.out; subst eo21; have hnb22 := NB249_236.out; have hnc22 := NB236_249.out; obtain ⟨hcz23_0, hcz23_1, hcz23_2⟩ := cb3_ BK249.out; obtain ⟨hfz23_0, hfz23_1⟩ := bf2_ BK249.out; have hfz23_2 := blk_frozen BK249.out 2) | ((with_reducible refine gate_store (t := 29) (p := 6) rfl ?_); refine store_event (t := 29) (p := 6) (v := ?vo_w24) (w1 := (((w20.setCell ⟨gb249, 0, none⟩ (.slice Ao21 t243.length co21)).setCell ⟨gb249, 1, none⟩ (.int .i64 t246)).setCell ⟨gb249, 2, none⟩ (.int .i64 t247))) ?hg ?ho ?hn ?hr ?_; (case ho => rfl); (case hg => rfl); (case hn => rfl); (case hr => first | (go_simp; done) | (go_simp; rfl)); intro w24 hw; have n0_ : Aside0 (Kd.R (Kd.int .i64) 3 w24 w.heap.size (fun k_ => some k_ ≠ (.slice Ao21 t243.length co21 : Value).ownBlock) (.slice Ao18 t238.length co18) t238) := ⟨(by rw [hw]; exact (by (with_reducible repeat (first | apply Kd.R_alloc | apply Kd.R_drewN | apply Kd.R_drew)); exact Kd.R_mono (Kd.R_far (p := ⟨gb249, 2, none⟩) (Kd.R_far (p := ⟨gb249, 1, none⟩) (Kd.R_far (p := ⟨gb249, 0, none⟩) (Kd.R_types HO240.out BK249.out (by decide)) (fun _ hk => by first | exact hk.2 | grind) (.slice Ao21 t243.length co21)) (fun _ hk => by first | exact hk.2 | grind) (.int .i64 t246)) (fun _ hk => by first | exact hk.2 | grind) (.int .i64 t247)) (fun _ hk => by first | exact hk.1.2 | grind)))⟩; have n1_ : Aside0 (Kd.R (Kd.int .i64) 3 w24 w.heap.size (fun k_ => some k_ ≠ (.slice Ao18 t238.length co18 : Value).ownBlock) (.slice Ao21 t243.length co21) t243) := ⟨(by rw [hw]; exact (by (with_reducible repeat (first | apply Kd.R_alloc | apply Kd.R_drewN | apply Kd.R_drew)); exact Kd.R_mono (Kd.R_far (p := ⟨gb249, 2, none⟩) (Kd.R_far (p := ⟨gb249, 1, none⟩) (Kd.R_far (p := ⟨gb249, 0, none⟩) (Kd.R_types HO245.out BK249.out (by decide)) (fun _ hk => by first | exact hk.2 | grind) (.slice Ao21 t243.length co21)) (fun _ hk => by first | exact hk.2 | grind) (.int .i64 t246)) (fun _ hk => by first | exact hk.2 | grind) (.int .i64 t247)) (fun _ hk => by first | exact hk.1.2 | grind)))⟩; have n2_ : Aside0 (w24.heap[gb236]? = some (.cells #[.slice A0_0 l0_0.length c0_0, .int .i64 a0_1, .int .i64 a0_2] 24 (0, 0))) := ⟨(by rw [hw]; exact (uf_ BK236.out))⟩; have n3_ : Aside0 (w24.heap[gb249]? = some (.cells #[.slice Ao21 t243.length co21, .int .i64 t246, .int .i64 t247] 29 (0, 0))) := ⟨(by rw [hw]; exact (by (with_reducible repeat first|apply bn_|apply bd_|apply ba_); refine blk_put (cs := #[.slice Ao21 t243.length co21, .int .i64 t246, .int .i64 0]) ?_ 2 _ rfl; refine blk_put (cs := #[.slice Ao21 t243.length co21, .int .i64 0, .int .i64 0]) ?_ 1 _ rfl; refine blk_put (cs := #[.slice none 0 0, .int .i64 0, .int .i64 0]) ?_ 0 _ rfl; (with_reducible repeat first|apply bn_|apply bd_|apply ba_); exact BK249.out))⟩; have n4_ : Aside0 (Below w.heap.size w w24) := ⟨(by rw [hw]; exact (ue_ HB.out))⟩; clear hw HO240 HO245 BK236 BK249 HB; have HO240 := n0_; have HO245 := n1_; have BK236 := n2_; have BK249 := n3_; have HB := n4_; clear n0_ n1_ n2_ n3_ n4_; obtain ⟨hcz25_0, hcz25_1, hcz25_2⟩ := cb3_ BK236.out; obtain ⟨hfz25_0, hfz25_1⟩ := bf2_ BK236.out; have hfz25_2 := blk_frozen BK236.out 2) | ((with_reducible refine gate_callee (f := 16) rfl ?_); refine goesL_ (some 29) rfl rfl Try.func16 (by kernel_rfl) rfl #[.agg #[.slice A0_0 l0_0.length c0_0, .int .i64 a0_1, .int .i64 a0_2]] rfl ul_ ?_; (with_reducible refine (laws_toRing.calls k _ _ l0_0 a0_1 a0_2 t250 t253 t254 _ ?side1 ?side2 A10.out).mono ?_); (case side1 => repeat (first | exact (Kd.C_below HR0_0.out HB.out) | (with_reducible refine Kd.C_alloc ?_ _) | (with_reducible refine Kd.C_drewN ?_ _) | (with_reducible refine Kd.C_drew ?_))); (case side2 => exact HC0_0.out); rintro e w26 ⟨v251, rfl, ho0, hb⟩; refine ⟨_, rfl, ?_⟩; have n0_ := am_ (Kd.R_elder' (ur_ HO240.out) (Kd.R_base ho0) hb); have n1_ := am_ (Kd.R_elder' (ur_ HO245.out) (Kd.R_base ho0) hb); have n2_ := am_ (Kd.R_lower (Kd.R_new' (Kd.R_new' ho0 (Kd.R_lt (ur_ HO240.out))) (Kd.R_lt (ur_ HO245.out))) (below_size (ue_ HB.out))); have n3_ := am_ (bb_ BK236.out hb); have n4_ := am_ (bb_ BK249.out hb); have n5_ := am_ (below_step (ue_ HB.out) hb); clear HO240 HO245 BK236 BK249 HB; have HO240 := n0_; have HO245 := n1_; have HO252 := n2_; have BK236 := n3_; have BK249 := n4_; have HB := n5_; clear n0_ n1_ n2_ n3_ n4_ n5_; (try clear hb); (try clear hb2); (try clear hk); (try clear hi); (try clear ho0)) | ((with_reducible refine gate_dst (N := 8) rfl ?_); refine box_event ?hg (N := 8) ?hd (cs := #[.slice none 0 0, .int .i64 0, .int .i64 0]) (t := 29) ?hr ?_; (case hd => rfl); (case hg => rfl); (case hr => first | (go_simp; done) | (go_simp; rfl)); intro gb255 hg w27 hbox hb; have n0_ := am_ (Kd.R_below (ur_ HO240.out) hb); have n1_ := am_ (Kd.R_below (ur_ HO245.out) hb); have n2_ := am_ (Kd.R_below (ur_ HO252.out) hb); have n3_ := am_ (bb_ BK236.out hb); have n4_ := am_ (bb_ BK249.out hb); have n5_ := am_ (below_step (ue_ HB.out) hb); have n6_ := am_ (hbox); have n7_ := am_ ((by rw [hg]; exact (below_size (ue_ HB.out)) : w.heap.size ≤ gb255)); have n8_ := am_ ((by rw [hg]; exact (below_size (ue_ HB.out)) : w.heap.size ≤ gb255)); have n9_ := am_ ((by rw [hg]; exact Nat.ne_of_lt (bl_ BK236.out) : gb236 ≠ gb255)); have n10_ := am_ ((by rw [hg]; exact Nat.ne_of_gt (bl_ BK236.out) : gb255 ≠ gb236)); have n11_ := am_ ((by rw [hg]; exact Nat.ne_of_lt (bl_ BK249.out) : gb249 ≠ gb255)); have n12_ := am_ ((by rw [hg]; exact Nat.ne_of_gt (bl_ BK249.out) : gb255 ≠ gb249)); clear HO240 HO245 HO252 BK236 BK249 HB; have HO240 := n0_; have HO245 := n1_; have HO252 := n2_; have BK236 := n3_; have BK249 := n4_; have HB := n5_; have BK255 := n6_; have GW255 := n7_; have GE255 := n8_; have NB236_255 := n9_; have NB255_236 := n10_; have NB249_255 := n11_; have NB255_249 := n12_; clear n0_ n1_ n2_ n3_ n4_ n5_ n6_ n7_ n8_ n9_ n10_ n11_ n12_; clear hb hbox hg; obtain ⟨Ao28, co28, eo28⟩ := Kd.R_slice HO252.out; subst eo28; have hnb29 := NB255_236.out; have hnc29 := NB236_255.out; have hnb30 := NB255_249.out; have hnc30 := NB249_255.out; obtain ⟨hcz31_0, hcz31_1, hcz31_2⟩ := cb3_ BK255.out; obtain ⟨hfz31_0, hfz31_1⟩ := bf2_ BK255.out; have hfz31_2 := blk_frozen BK255.out 2) | ((with_reducible refine gate_store (t := 29) (p := 8) rfl ?_); refine store_event (t := 29) (p := 8) (v := ?vo_w32) (w1 := (((w27.setCell ⟨gb255, 0, none⟩ (.slice Ao28 t250.length co28)).setCell ⟨gb255, 1, none⟩ (.int .i64 t253)).setCell ⟨gb255, 2, none⟩ (.int .i64 t254))) ?hg ?ho ?hn ?hr ?_; (case ho => rfl); (case hg => rfl); (case hn => rfl); (case hr => first | (go_simp; done) | (go_simp; rfl)); intro w32 hw; have n0_ : Aside0 (Kd.R (Kd.int .i64) 3 w32 w.heap.size (fun k_ => some k_ ≠ (.slice Ao21 t243.length co21 : Value).ownBlock ∧ some k_ ≠ (.slice Ao28 t250.length co28 : Value).ownBlock) (.slice Ao18 t238.length co18) t238) := ⟨(by rw [hw]; exact (by (with_reducible repeat (first | apply Kd.R_alloc | apply Kd.R_drewN | apply Kd.R_drew)); exact Kd.R_mono (Kd.R_far (p := ⟨gb255, 2, none⟩) (Kd.R_far (p := ⟨gb255, 1, none⟩) (Kd.R_far (p := ⟨gb255, 0, none⟩) (Kd.R_types HO240.out BK255.out (by decide)) (fun _ hk => by first | exact hk.2 | grind) (.slice Ao28 t250.length co28)) (fun _ hk => by first | exact hk.2 | grind) (.int .i64 t253)) (fun _ hk => by first | exact hk.2 | grind) (.int .i64 t254)) (fun _ hk => by first | exact ⟨hk.1.1, hk.1.2⟩ | grind)))⟩; have n1_ : Aside0 (Kd.R (Kd.int .i64) 3 w32 w.heap.size (fun k_ => some k_ ≠ (.slice Ao18 t238.length co18 : Value).ownBlock ∧ some k_ ≠ (.slice Ao28 t250.length co28 : Value).ownBlock) (.slice Ao21 t243.length co21) t243) := ⟨(by rw [hw]; exact (by (with_reducible repeat (first | apply Kd.R_alloc | apply Kd.R_drewN | apply Kd.R_drew)); exact Kd.R_mono (Kd.R_far (p := ⟨gb255, 2, none⟩) (Kd.R_far (p := ⟨gb255, 1, none⟩) (Kd.R_far (p := ⟨gb255, 0, none⟩) (Kd.R_types HO245.out BK255.out (by decide)) (fun _ hk => by first | exact hk.2 | grind) (.slice Ao28 t250.length co28)) (fun _ hk => by first | exact hk.2 | grind) (.int .i64 t253)) (fun _ hk => by first | exact hk.2 | grind) (.int .i64 t254)) (fun _ hk => by first | exact ⟨hk.1.1, hk.1.2⟩ | grind)))⟩; have n2_ : Aside0 (Kd.R (Kd.int .i64) 3 w32 w.heap.size (fun k_ => some k_ ≠ (.slice Ao18 t238.length co18 : Value).ownBlock ∧ some k_ ≠ (.slice Ao21 t243.length co21 : Value).ownBlock) (.slice Ao28 t250.length co28) t250) := ⟨(by rw [hw]; exact (by (with_reducible repeat (first | apply Kd.R_alloc | apply Kd.R_drewN | apply Kd.R_drew)); exact Kd.R_mono (Kd.R_far (p := ⟨gb255, 2, none⟩) (Kd.R_far (p := ⟨gb255, 1, none⟩) (Kd.R_far (p := ⟨gb255, 0, none⟩) (Kd.R_types HO252.out BK255.out (by decide)) (fun _ hk => by first | exact hk.2 | grind) (.slice Ao28 t250.length co28)) (fun _ hk => by first | exact hk.2 | grind) (.int .i64 t253)) (fun _ hk => by first | exact hk.2 | grind) (.int .i64 t254)) (fun _ hk => by first | exact ⟨hk.1.1.2, hk.1.2⟩ | grind)))⟩; have n3_ : Aside0 (w32.heap[gb236]? = some (.cells #[.slice A0_0 l0_0.length c0_0, .int .i64 a0_1, .int .i64 a0_2] 24 (0, 0))) := ⟨(by rw [hw]; exact (uf_ BK236.out))⟩; have n4_ : Aside0 (w32.heap[gb249]? = some (.cells #[.slice Ao21 t243.length co21, .int .i64 t246, .int .i64 t247] 29 (0, 0))) := ⟨(by rw [hw]; exact (uf_ BK249.out))⟩; have n5_ : Aside0 (w32.heap[gb255]? = some (.cells #[.slice Ao28 t250.length co28, .int .i64 t253, .int .i64 t254] 29 (0, 0))) := ⟨(by rw [hw]; exact (by (with_reducible repeat first|apply bn_|apply bd_|apply ba_); refine blk_put (cs := #[.slice Ao28 t250.length co28, .int .i64 t253, .int .i64 0]) ?_ 2 _ rfl; refine blk_put (cs := #[.slice Ao28 t250.length co28, .int .i64 0, .int .i64 0]) ?_ 1 _ rfl; refine blk_put (cs := #[.slice none 0 0, .int .i64 0, .int .i64 0]) ?_ 0 _ rfl; (with_reducible repeat first|apply bn_|apply bd_|apply ba_); exact BK255.out))⟩; have n6_ : Aside0 (Below w.heap.size w w32) := ⟨(by rw [hw]; exact (ue_ HB.out))⟩; clear hw HO240 HO245 HO252 BK236 BK249 BK255 HB; have HO240 := n0_; have HO245 := n1_; have HO252 := n2_; have BK236 := n3_; have BK249 := n4_; have BK255 := n5_; have HB := n6_; clear n0_ n1_ n2_ n3_ n4_ n5_ n6_; obtain ⟨hcz33_0, hcz33_1, hcz33_2⟩ := cb3_ BK255.out; obtain ⟨hfz33_0, hfz33_1⟩ := bf2_ BK255.out; have hfz33_2 := blk_frozen BK255.out 2) | ((with_reducible refine gate_callee (f := 64) rfl ?_); refine goesL_ (some 33) rfl rfl Try.func64 (by kernel_rfl) rfl #[.agg #[.slice Ao28 t250.length co28, .int .i64 t253, .int .i64 t254], .int .i64 a1] rfl ul_ ?_; (with_reducible refine (impl_GrowRing.calls k _ _ t250 t253 t254 a1 t256 t259 t260 t261 _ ?side1 ?side2 A11.out).mono ?_); (case side1 => repeat (first | exact (Kd.R_reads' HO252.out).2.2 | (with_reducible refine Kd.C_alloc ?_ _) | (with_reducible refine Kd.C_drewN ?_ _) | (with_reducible refine Kd.C_drew ?_))); (case side2 => exact (Kd.R_reads' HO252.out).2.1); rintro e w34 ⟨v257, rfl, ho0, hb⟩; refine ⟨_, rfl, ?_⟩; have n0_ := am_ (Kd.R_elder' (ur_ HO240.out) (Kd.R_base ho0) hb); have n1_ := am_ (Kd.R_elder' (ur_ HO245.out) (Kd.R_base ho0) hb); have n2_ := am_ (Kd.R_elder' (ur_ HO252.out) (Kd.R_base ho0) hb); have n3_ := am_ (Kd.R_lower (Kd.R_new' (Kd.R_new' (Kd.R_new' ho0 (Kd.R_lt (ur_ HO240.out))) (Kd.R_lt (ur_ HO245.out))) (Kd.R_lt (ur_ HO252.out))) (below_size (ue_ HB.out))); have n4_ := am_ (bb_ BK236.out hb); have n5_ := am_ (bb_ BK249.out hb); have n6_ := am_ (bb_ BK255.out hb); have n7_ := am_ (below_step (ue_ HB.out) hb); clear HO240 HO245 HO252 BK236 BK249 BK255 HB; have HO240 := n0_; have HO245 := n1_; have HO252 := n2_; have HO258 := n3_; have BK236 := n4_; have BK249 := n5_; have BK255 := n6_; have HB := n7_; clear n0_ n1_ n2_ n3_ n4_ n5_ n6_ n7_; (try clear hb); (try clear hb2); (try clear hk); (try clear hi); (try clear ho0)) | ((with_reducible refine gate_dst (N := 9) rfl ?_); refine box_event ?hg (N := 9) ?hd (cs := #[.slice none 0 0, .int .i64 0, .int .i64 0]) (t := 29) ?hr ?_; (case hd => rfl); (case hg => rfl); (case hr => first | (go_simp; done) | (go_simp; rfl)); intro gb262 hg w35 hbox hb; have n0_ := am_ (Kd.R_below (ur_ HO240.out) hb); have n1_ := am_ (Kd.R_below (ur_ HO245.out) hb); have n2_ := am_ (Kd.R_below (ur_ HO252.out) hb); have n3_ := am_ (Kd.R_below (ur_ HO258.out) hb); have n4_ := am_ (bb_ BK236.out hb); have n5_ := am_ (bb_ BK249.out hb); have n6_ := am_ (bb_ BK255.out hb); have n7_ := am_ (below_step (ue_ HB.out) hb); have n8_ := am_ (hbox); have n9_ := am_ ((by rw [hg]; exact (below_size (ue_ HB.out)) : w.heap.size ≤ gb262)); have n10_ := am_ ((by rw [hg]; exact (below_size (ue_ HB.out)) : w.heap.size ≤ gb262)); have n11_ := am_ ((by rw [hg]; exact Nat.ne_of_lt (bl_ BK236.out) : gb236 ≠ gb262)); have n12_ := am_ ((by rw [hg]; exact Nat.ne_of_gt (bl_ BK236.out) : gb262 ≠ gb236)); have n13_ := am_ ((by rw [hg]; exact Nat.ne_of_lt (bl_ BK249.out) : gb249 ≠ gb262)); have n14_ := am_ ((by rw [hg]; exact Nat.ne_of_gt (bl_ BK249.out) : gb262 ≠ gb249)); have n15_ := am_ ((by rw [hg]; exact Nat.ne_of_lt (bl_ BK255.out) : gb255 ≠ gb262)); have n16_ := am_ ((by rw [hg]; exact Nat.ne_of_gt (bl_ BK255.out) : gb262 ≠ gb255)); clear HO240 HO245 HO252 HO258 BK236 BK249 BK255 HB; have HO240 := n0_; have HO245 := n1_; have HO252 := n2_; have HO258 := n3_; have BK236 := n4_; have BK249 := n5_; have BK255 := n6_; have HB := n7_; have BK262 := n8_; have GW262 := n9_; have GE262 := n10_; have NB236_262 := n11_; have NB262_236 := n12_; have NB249_262 := n13_; have NB262_249 := n14_; have NB255_262 := n15_; have NB262_255 := n16_; clear n0_ n1_ n2_ n3_ n4_ n5_ n6_ n7_ n8_ n9_ n10_ n11_ n12_ n13_ n14_ n15_ n16_; clear hb hbox hg; obtain ⟨Ao36, co36, eo36⟩ := Kd.R_slice HO258.out; subst eo36; have hnb37 := NB262_236.out; have hnc37 := NB236_262.out; have hnb38 := NB262_249.out; have hnc38 := NB249_262.out; have hnb39 := NB262_255.out; have hnc39 := NB255_262.out; obtain ⟨hcz40_0, hcz40_1, hcz40_2⟩ := cb3_ BK262.out; obtain ⟨hfz40_0, hfz40_1⟩ := bf2_ BK262.out; have hfz40_2 := blk_frozen BK262.out 2) | ((with_reducible refine gate_store (t := 29) (p := 9) rfl ?_); refine store_event (t := 29) (p := 9) (v := ?vo_w41) (w1 := (((w35.setCell ⟨gb262, 0, none⟩ (.slice Ao36 t256.length co36)).setCell ⟨gb262, 1, none⟩ (.int .i64 t259)).setCell ⟨gb262, 2, none⟩ (.int .i64 t260))) ?hg ?ho ?hn ?hr ?_; (case ho => rfl); (case hg => rfl); (case hn => rfl); (case hr => first | (go_simp; done) | (go_simp; rfl)); intro w41 hw; have n0_ : Aside0 (Kd.R (Kd.int .i64) 3 w41 w.heap.size (fun k_ => some k_ ≠ (.slice Ao21 t243.length co21 : Value).ownBlock ∧ some k_ ≠ (.slice Ao28 t250.length co28 : Value).ownBlock ∧ some k_ ≠ (.slice Ao36 t256.length co36 : Value).ownBlock) (.slice Ao18 t238.length co18) t238) := ⟨(by rw [hw]; exact (by (with_reducible repeat (first | apply Kd.R_alloc | apply Kd.R_drewN | apply Kd.R_drew)); exact Kd.R_mono (Kd.R_far (p := ⟨gb262, 2, none⟩) (Kd.R_far (p := ⟨gb262, 1, none⟩) (Kd.R_far (p := ⟨gb262, 0, none⟩) (Kd.R_types HO240.out BK262.out (by decide)) (fun _ hk => by first | exact hk.2 | grind) (.slice Ao36 t256.length co36)) (fun _ hk => by first | exact hk.2 | grind) (.int .i64 t259)) (fun _ hk => by first | exact hk.2 | grind) (.int .i64 t260)) (fun _ hk => by first | exact ⟨hk.1.1.1, ⟨hk.1.1.2, hk.1.2⟩⟩ | grind)))⟩; have n1_ : Aside0 (Kd.R (Kd.int .i64) 3 w41 w.heap.size (fun k_ => some k_ ≠ (.slice Ao18 t238.length co18 : Value).ownBlock ∧ some k_ ≠ (.slice Ao28 t250.length co28 : Value).ownBlock ∧ some k_ ≠ (.slice Ao36 t256.length co36 : Value).ownBlock) (.slice Ao21 t243.length co21) t243) := ⟨(by rw [hw]; exact (by (with_reducible repeat (first | apply Kd.R_alloc | apply Kd.R_drewN | apply Kd.R_drew)); exact Kd.R_mono (Kd.R_far (p := ⟨gb262, 2, none⟩) (Kd.R_far (p := ⟨gb262, 1, none⟩) (Kd.R_far (p := ⟨gb262, 0, none⟩) (Kd.R_types HO245.out BK262.out (by decide)) (fun _ hk => by first | exact hk.2 | grind) (.slice Ao36 t256.length co36)) (fun _ hk => by first | exact hk.2 | grind) (.int .i64 t259)) (fun _ hk => by first | exact hk.2 | grind) (.int .i64 t260)) (fun _ hk => by first | exact ⟨hk.1.1.1, ⟨hk.1.1.2, hk.1.2⟩⟩ | grind)))⟩; have n2_ : Aside0 (Kd.R (Kd.int .i64) 3 w41 w.heap.size (fun k_ => some k_ ≠ (.slice Ao18 t238.length co18 : Value).ownBlock ∧ some k_ ≠ (.slice Ao21 t243.length co21 : Value).ownBlock ∧ some k_ ≠ (.slice Ao36 t256.length co36 : Value).ownBlock) (.slice Ao28 t250.length co28) t250) := ⟨(by rw [hw]; exact (by (with_reducible repeat (first | apply Kd.R_alloc | apply Kd.R_drewN | apply Kd.R_drew)); exact Kd.R_mono (Kd.R_far (p := ⟨gb262, 2, none⟩) (Kd.R_far (p := ⟨gb262, 1, none⟩) (Kd.R_far (p := ⟨gb262, 0, none⟩) (Kd.R_types HO252.out BK262.out (by decide)) (fun _ hk => by first | exact hk.2 | grind) (.slice Ao36 t256.length co36)) (fun _ hk => by first | exact hk.2 | grind) (.int .i64 t259)) (fun _ hk => by first | exact hk.2 | grind) (.int .i64 t260)) (fun _ hk => by first | exact ⟨hk.1.1.1, ⟨hk.1.1.2, hk.1.2⟩⟩ | grind)))⟩; have n3_ : Aside0 (Kd.R (Kd.int .i64) 3 w41 w.heap.size (fun k_ => some k_ ≠ (.slice Ao18 t238.length co18 : Value).ownBlock ∧ some k_ ≠ (.slice Ao21 t243.length co21 : Value).ownBlock ∧ some k_ ≠ (.slice Ao28 t250.length co28 : Value).ownBlock) (.slice Ao36 t256.length co36) t256) := ⟨(by rw [hw]; exact (by (with_reducible repeat (first | apply Kd.R_alloc | apply Kd.R_drewN | apply Kd.R_drew)); exact Kd.R_mono (Kd.R_far (p := ⟨gb262, 2, none⟩) (Kd.R_far (p := ⟨gb262, 1, none⟩) (Kd.R_far (p := ⟨gb262, 0, none⟩) (Kd.R_types HO258.out BK262.out (by decide)) (fun _ hk => by first | exact hk.2 | grind) (.slice Ao36 t256.length co36)) (fun _ hk => by first | exact hk.2 | grind) (.int .i64 t259)) (fun _ hk => by first | exact hk.2 | grind) (.int .i64 t260)) (fun _ hk => by first | exact ⟨hk.1.1.1.2, ⟨hk.1.1.2, hk.1.2⟩⟩ | grind)))⟩; have n4_ : Aside0 (w41.heap[gb236]? = some (.cells #[.slice A0_0 l0_0.length c0_0, .int .i64 a0_1, .int .i64 a0_2] 24 (0, 0))) := ⟨(by rw [hw]; exact (uf_ BK236.out))⟩; have n5_ : Aside0 (w41.heap[gb249]? = some (.cells #[.slice Ao21 t243.length co21, .int .i64 t246, .int .i64 t247] 29 (0, 0))) := ⟨(by rw [hw]; exact (uf_ BK249.out))⟩; have n6_ : Aside0 (w41.heap[gb255]? = some (.cells #[.slice Ao28 t250.length co28, .int .i64 t253, .int .i64 t254] 29 (0, 0))) := ⟨(by rw [hw]; exact (uf_ BK255.out))⟩; have n7_ : Aside0 (w41.heap[gb262]? = some (.cells #[.slice Ao36 t256.length co36, .int .i64 t259, .int .i64 t260] 29 (0, 0))) := ⟨(by rw [hw]; exact (by (with_reducible repeat first|apply bn_|apply bd_|apply ba_); refine blk_put (cs := #[.slice Ao36 t256.length co36, .int .i64 t259, .int .i64 0]) ?_ 2 _ rfl; refine blk_put (cs := #[.slice Ao36 t256.length co36, .int .i64 0, .int .i64 0]) ?_ 1 _ rfl; refine blk_put (cs := #[.slice none 0 0, .int .i64 0, .int .i64 0]) ?_ 0 _ rfl; (with_reducible repeat first|apply bn_|apply bd_|apply ba_); exact BK262.out))⟩; have n8_ : Aside0 (Below w.heap.size w w41) := ⟨(by rw [hw]; exact (ue_ HB.out))⟩; clear hw HO240 HO245 HO252 HO258 BK236 BK249 BK255 BK262 HB; have HO240 := n0_; have HO245 := n1_; have HO252 := n2_; have HO258 := n3_; have BK236 := n4_; have BK249 := n5_; have BK255 := n6_; have BK262 := n7_; have HB := n8_; clear n0_ n1_ n2_ n3_ n4_ n5_ n6_ n7_ n8_))
  (try simp only [Act.put, List.setIfInBounds_toArray, List.set_cons_zero, List.set_cons_succ])
  go_cut [44] (fun v44 wc => ∃ (kq : Nat) (x44_11 : Bool), v44 = .bool x44_11 ∧ Aside0 (laws_FnExactGrowRing.j0 kq a1 t248 t261 x44_11 l0_0 a0_1 a0_2 t243 t246 t247 t250 t253 t254 t256 t259 t260 = some r) ∧ Aside0 (kq ≤ k) ∧ Aside0 (Kd.R (Kd.int .i64) 3 wc w.heap.size (fun k_ => some k_ ≠ ((.slice Ao28 t250.length co28) : Value).ownBlock ∧ some k_ ≠ ((.slice Ao36 t256.length co36) : Value).ownBlock) (.slice Ao21 t243.length co21) t243) ∧ Aside0 (Kd.R (Kd.int .i64) 3 wc w.heap.size (fun k_ => some k_ ≠ ((.slice Ao21 t243.length co21) : Value).ownBlock ∧ some k_ ≠ ((.slice Ao36 t256.length co36) : Value).ownBlock) (.slice Ao28 t250.length co28) t250) ∧ Aside0 (Kd.R (Kd.int .i64) 3 wc w.heap.size (fun k_ => some k_ ≠ ((.slice Ao21 t243.length co21) : Value).ownBlock ∧ some k_ ≠ ((.slice Ao28 t250.length co28) : Value).ownBlock) (.slice Ao36 t256.length co36) t256) ∧ Aside0 (wc.heap[gb236]? = some (.cells #[(.slice A0_0 l0_0.length c0_0), .int .i64 a0_1, .int .i64 a0_2] 24 (0, 0))) ∧ Aside0 (wc.heap[gb249]? = some (.cells #[(.slice Ao21 t243.length co21), .int .i64 t246, .int .i64 t247] 29 (0, 0))) ∧ Aside0 (wc.heap[gb255]? = some (.cells #[(.slice Ao28 t250.length co28), .int .i64 t253, .int .i64 t254] 29 (0, 0))) ∧ Aside0 (wc.heap[gb262]? = some (.cells #[(.slice Ao36 t256.length co36), .int .i64 t259, .int .i64 t260] 29 (0, 0))) ∧ Aside0 (Below w.heap.size w wc))
  case first =>
   have H := HC12.out
   clear HC12
   replace H := Option.bind_eq_some_iff.mp H
   obtain ⟨t263, A420, H⟩ := H
   replace H : (if t263 = true then (laws_FnExactGrowRing.j0 k a1 t248 t261 (t261 != t248) l0_0 a0_1 a0_2 t243 t246 t247 t250 t253 t254 t256 t259 t260) else (laws_FnExactGrowRing.j0 k a1 t248 t261 true l0_0 a0_1 a0_2 t243 t246 t247 t250 t253 t254 t256 t259 t260)) = some r := H
   have A42 := Aside0.mk A420
   clear A420
   by_cases c43 : t263 = true
   ·
    subst c43
    have H1 : (laws_FnExactGrowRing.j0 k a1 t248 t261 (t261 != t248) l0_0 a0_1 a0_2 t243 t246 t247 t250 t253 t254 t256 t259 t260) = some r := by rw [if_pos rfl] at H; exact H
    clear H
    have H := H1
    clear H1
    have H' := Aside0.mk H
    clear H
    have hnb44 := NB262_236.out
    have hnc44 := NB236_262.out
    have hnb45 := NB262_249.out
    have hnc45 := NB249_262.out
    have hnb46 := NB262_255.out
    have hnc46 := NB255_262.out
    have hcz47_0 := cb_ BK262.out 0 rfl
    have hcz47_1 := cb_ BK262.out 1 rfl
    have hcz47_2 := cb_ BK262.out 2 rfl
    have hfz47_0 := blk_frozen BK262.out 0
    have hfz47_1 := blk_frozen BK262.out 1
    have hfz47_2 := blk_frozen BK262.out 2
    have hnb48 := NB249_236.out
    have hnc48 := NB236_249.out
    have hnb49 := NB249_255.out
    have hnc49 := NB255_249.out
    have hcz50_0 := cb_ BK249.out 0 rfl
    have hcz50_1 := cb_ BK249.out 1 rfl
    have hcz50_2 := cb_ BK249.out 2 rfl
    have hfz50_0 := blk_frozen BK249.out 0
    have hfz50_1 := blk_frozen BK249.out 1
    have hfz50_2 := blk_frozen BK249.out 2
    go_wp2_with (first | ((with_reducible refine gate_callee (f := 19) rfl ?_); refine goesL_ (some 38) rfl rfl Try.func19 (by kernel_rfl) rfl #[.agg #[.slice Ao36 t256.length co36, .int .i64 t259, .int .i64 t260], .agg #[.slice Ao21 t243.length co21, .int .i64 t246, .int .i64 t247]] rfl ul_ ?_; (with_reducible refine (laws_eqRing.calls k _ _ t256 t259 t260 _ _ t243 t246 t247 true _ ?side1 ?side2 ?side3 ?side4 A42.out).mono ?_); (case side1 => repeat (first | exact (Kd.R_reads' HO258.out).2.2 | (with_reducible refine Kd.C_alloc ?_ _) | (with_reducible refine Kd.C_drewN ?_ _) | (with_reducible refine Kd.C_drew ?_))); (case side2 => exact (Kd.R_reads' HO258.out).2.1); (case side3 => repeat (first | exact (Kd.R_reads' HO245.out).2.2 | (with_reducible refine Kd.C_alloc ?_ _) | (with_reducible refine Kd.C_drewN ?_ _) | (with_reducible refine Kd.C_drew ?_))); (case side4 => exact (Kd.R_reads' HO245.out).2.1); rintro e w51 ⟨rfl, hb⟩; refine ⟨_, rfl, ?_⟩; have n0_ := am_ (Kd.R_below (ur_ HO240.out) hb); have n1_ := am_ (Kd.R_below (ur_ HO245.out) hb); have n2_ := am_ (Kd.R_below (ur_ HO252.out) hb); have n3_ := am_ (Kd.R_below (ur_ HO258.out) hb); have n4_ := am_ (bb_ BK236.out hb); have n5_ := am_ (bb_ BK249.out hb); have n6_ := am_ (bb_ BK255.out hb); have n7_ := am_ (bb_ BK262.out hb); have n8_ := am_ (below_step (ue_ HB.out) hb); clear HO240 HO245 HO252 HO258 BK236 BK249 BK255 BK262 HB; have HO240 := n0_; have HO245 := n1_; have HO252 := n2_; have HO258 := n3_; have BK236 := n4_; have BK249 := n5_; have BK255 := n6_; have BK262 := n7_; have HB := n8_; clear n0_ n1_ n2_ n3_ n4_ n5_ n6_ n7_ n8_; (try clear hb); (try clear hb2); (try clear hk); (try clear hi)))
    go_meet
    case rel => exact ⟨_, ((t261 != t248)), (by first | rfl | (simp; done) | (simp [*]; done)), H', ⟨by first | omega | exact Nat.le_refl _⟩, ⟨by (with_reducible repeat (first | apply Kd.R_alloc | apply Kd.R_drewN | apply Kd.R_drew)); exact Kd.R_mono HO245.out (fun _ hk => by first | exact ⟨hk.2.1, hk.2.2⟩ | grind)⟩, ⟨by (with_reducible repeat (first | apply Kd.R_alloc | apply Kd.R_drewN | apply Kd.R_drew)); exact Kd.R_mono HO252.out (fun _ hk => by first | exact ⟨hk.2.1, hk.2.2⟩ | grind)⟩, ⟨by (with_reducible repeat (first | apply Kd.R_alloc | apply Kd.R_drewN | apply Kd.R_drew)); exact Kd.R_mono HO258.out (fun _ hk => by first | exact ⟨hk.2.1, hk.2.2⟩ | grind)⟩, ⟨by (with_reducible repeat first|apply bn_|apply bd_|apply ba_); exact BK236.out⟩, ⟨by (with_reducible repeat first|apply bn_|apply bd_|apply ba_); exact BK249.out⟩, ⟨by (with_reducible repeat first|apply bn_|apply bd_|apply ba_); exact BK255.out⟩, ⟨by (with_reducible repeat first|apply bn_|apply bd_|apply ba_); exact BK262.out⟩, ⟨ue_ HB.out⟩⟩
   ·
    replace c43 := Bool.eq_false_iff.mpr c43
    subst c43
    have H1 : (laws_FnExactGrowRing.j0 k a1 t248 t261 true l0_0 a0_1 a0_2 t243 t246 t247 t250 t253 t254 t256 t259 t260) = some r := by rw [if_neg (show ¬ (false = true) by decide)] at H; exact H
    clear H
    have H := H1
    clear H1
    have H' := Aside0.mk H
    clear H
    have hnb52 := NB262_236.out
    have hnc52 := NB236_262.out
    have hnb53 := NB262_249.out
    have hnc53 := NB249_262.out
    have hnb54 := NB262_255.out
    have hnc54 := NB255_262.out
    have hcz55_0 := cb_ BK262.out 0 rfl
    have hcz55_1 := cb_ BK262.out 1 rfl
    have hcz55_2 := cb_ BK262.out 2 rfl
    have hfz55_0 := blk_frozen BK262.out 0
    have hfz55_1 := blk_frozen BK262.out 1
    have hfz55_2 := blk_frozen BK262.out 2
    have hnb56 := NB249_236.out
    have hnc56 := NB236_249.out
    have hnb57 := NB249_255.out
    have hnc57 := NB255_249.out
    have hcz58_0 := cb_ BK249.out 0 rfl
    have hcz58_1 := cb_ BK249.out 1 rfl
    have hcz58_2 := cb_ BK249.out 2 rfl
    have hfz58_0 := blk_frozen BK249.out 0
    have hfz58_1 := blk_frozen BK249.out 1
    have hfz58_2 := blk_frozen BK249.out 2
    go_wp2_with (first | ((with_reducible refine gate_callee (f := 19) rfl ?_); refine goesL_ (some 38) rfl rfl Try.func19 (by kernel_rfl) rfl #[.agg #[.slice Ao36 t256.length co36, .int .i64 t259, .int .i64 t260], .agg #[.slice Ao21 t243.length co21, .int .i64 t246, .int .i64 t247]] rfl ul_ ?_; (with_reducible refine (laws_eqRing.calls k _ _ t256 t259 t260 _ _ t243 t246 t247 false _ ?side1 ?side2 ?side3 ?side4 A42.out).mono ?_); (case side1 => repeat (first | exact (Kd.R_reads' HO258.out).2.2 | (with_reducible refine Kd.C_alloc ?_ _) | (with_reducible refine Kd.C_drewN ?_ _) | (with_reducible refine Kd.C_drew ?_))); (case side2 => exact (Kd.R_reads' HO258.out).2.1); (case side3 => repeat (first | exact (Kd.R_reads' HO245.out).2.2 | (with_reducible refine Kd.C_alloc ?_ _) | (with_reducible refine Kd.C_drewN ?_ _) | (with_reducible refine Kd.C_drew ?_))); (case side4 => exact (Kd.R_reads' HO245.out).2.1); rintro e w59 ⟨rfl, hb⟩; refine ⟨_, rfl, ?_⟩; have n0_ := am_ (Kd.R_below (ur_ HO240.out) hb); have n1_ := am_ (Kd.R_below (ur_ HO245.out) hb); have n2_ := am_ (Kd.R_below (ur_ HO252.out) hb); have n3_ := am_ (Kd.R_below (ur_ HO258.out) hb); have n4_ := am_ (bb_ BK236.out hb); have n5_ := am_ (bb_ BK249.out hb); have n6_ := am_ (bb_ BK255.out hb); have n7_ := am_ (bb_ BK262.out hb); have n8_ := am_ (below_step (ue_ HB.out) hb); clear HO240 HO245 HO252 HO258 BK236 BK249 BK255 BK262 HB; have HO240 := n0_; have HO245 := n1_; have HO252 := n2_; have HO258 := n3_; have BK236 := n4_; have BK249 := n5_; have BK255 := n6_; have BK262 := n7_; have HB := n8_; clear n0_ n1_ n2_ n3_ n4_ n5_ n6_ n7_ n8_; (try clear hb); (try clear hb2); (try clear hk); (try clear hi)))
    go_meet
    case rel => exact ⟨_, (true), (by first | rfl | (simp; done) | (simp [*]; done)), H', ⟨by first | omega | exact Nat.le_refl _⟩, ⟨by (with_reducible repeat (first | apply Kd.R_alloc | apply Kd.R_drewN | apply Kd.R_drew)); exact Kd.R_mono HO245.out (fun _ hk => by first | exact ⟨hk.2.1, hk.2.2⟩ | grind)⟩, ⟨by (with_reducible repeat (first | apply Kd.R_alloc | apply Kd.R_drewN | apply Kd.R_drew)); exact Kd.R_mono HO252.out (fun _ hk => by first | exact ⟨hk.2.1, hk.2.2⟩ | grind)⟩, ⟨by (with_reducible repeat (first | apply Kd.R_alloc | apply Kd.R_drewN | apply Kd.R_drew)); exact Kd.R_mono HO258.out (fun _ hk => by first | exact ⟨hk.2.1, hk.2.2⟩ | grind)⟩, ⟨by (with_reducible repeat first|apply bn_|apply bd_|apply ba_); exact BK236.out⟩, ⟨by (with_reducible repeat first|apply bn_|apply bd_|apply ba_); exact BK249.out⟩, ⟨by (with_reducible repeat first|apply bn_|apply bd_|apply ba_); exact BK255.out⟩, ⟨by (with_reducible repeat first|apply bn_|apply bd_|apply ba_); exact BK262.out⟩, ⟨ue_ HB.out⟩⟩
  case rest =>
   clear HC12
   try clear c1
   try clear c2
   try clear p2
   try clear c3
   try clear c4
   try clear c4b0
   try clear c5
   try clear c6
   try clear c13
   try clear c14
   try clear c16
   try clear c19
   try clear c22
   try clear c29
   try clear c30
   try clear c37
   try clear c38
   try clear c39
   try clear c43
   try clear c44
   try clear c45
   try clear c46
   try clear c48
   try clear c49
   try clear c52
   try clear c53
   try clear c54
   try clear c56
   try clear c57
   try clear hcz14_0
   try clear hcz14_1
   try clear hcz14_2
   try clear hcz16_0
   try clear hcz16_1
   try clear hcz16_2
   try clear hcz23_0
   try clear hcz23_1
   try clear hcz23_2
   try clear hcz25_0
   try clear hcz25_1
   try clear hcz25_2
   try clear hcz31_0
   try clear hcz31_1
   try clear hcz31_2
   try clear hcz33_0
   try clear hcz33_1
   try clear hcz33_2
   try clear hcz40_0
   try clear hcz40_1
   try clear hcz40_2
   try clear hcz47_0
   try clear hcz47_1
   try clear hcz47_2
   try clear hcz50_0
   try clear hcz50_1
   try clear hcz50_2
   try clear hcz55_0
   try clear hcz55_1
   try clear hcz55_2
   try clear hcz58_0
   try clear hcz58_1
   try clear hcz58_2
   try clear hcz6_0
   try clear hcz6_1
   try clear hcz6_2
   try clear hfz14_0
   try clear hfz14_1
   try clear hfz14_2
   try clear hfz16_0
   try clear hfz16_1
   try clear hfz16_2
   try clear hfz23_0
   try clear hfz23_1
   try clear hfz23_2
   try clear hfz25_0
   try clear hfz25_1
   try clear hfz25_2
   try clear hfz31_0
   try clear hfz31_1
   try clear hfz31_2
   try clear hfz33_0
   try clear hfz33_1
   try clear hfz33_2
   try clear hfz40_0
   try clear hfz40_1
   try clear hfz40_2
   try clear hfz47_0
   try clear hfz47_1
   try clear hfz47_2
   try clear hfz50_0
   try clear hfz50_1
   try clear hfz50_2
   try clear hfz55_0
   try clear hfz55_1
   try clear hfz55_2
   try clear hfz58_0
   try clear hfz58_1
   try clear hfz58_2
   try clear hfz6_0
   try clear hfz6_1
   try clear hfz6_2
   obtain ⟨kq, x44_11, rfl, HA, HJ11, HO_250000, HO_256000, HO_263000, BK236, BK249, BK255, BK262, HB⟩ := hcut
   cases kq with
   | zero => exact absurd HA.out (by simp [laws_FnExactGrowRing.j0])
   | succ kj11 =>
    have H := HA.out
    clear HA
    simp only [laws_FnExactGrowRing.j0] at H
    by_cases c60 : x44_11 = true
    ·
     subst c60
     have H1 : (some false) = some r := by rw [if_pos rfl] at H; exact H
     clear H
     have H := H1
     clear H1
     exact absurd ((Option.some.inj H).trans hT.out) (by decide)
    ·
     replace c60 := Bool.eq_false_iff.mpr c60
     subst c60
     have H1 : ((laws_toRing.f kj11 l0_0 a0_1 a0_2).bind fun bt264 => ((laws_eqRing.f kj11 t250 t253 t254 bt264.1 bt264.2.1 bt264.2.2).bind fun t269 => (if t269 = true then ((laws_markRing.f kj11 t250 t253 t254 1).bind fun bt270 => (if bt270.1 < 0 then (laws_FnExactGrowRing.j1 kj11 a1 t248 true l0_0 a0_1 a0_2 t243 t246 t247 t256 t259 t260) else ((laws_eqRing.f kj11 t256 t259 t260 t243 t246 t247).bind fun t272 => (if t272 = true then (laws_FnExactGrowRing.j1 kj11 a1 t248 (t261 != t248) l0_0 a0_1 a0_2 t243 t246 t247 t256 t259 t260) else (laws_FnExactGrowRing.j1 kj11 a1 t248 true l0_0 a0_1 a0_2 t243 t246 t247 t256 t259 t260))))) else (some false)))) = some r := by rw [if_neg (show ¬ (false = true) by decide)] at H; exact H
     clear H
     have H := H1
     clear H1
     replace H := Option.bind_eq_some_iff.mp H
     obtain ⟨⟨t264, t267, t268⟩, A610, H⟩ := H
     replace H : ((laws_eqRing.f kj11 t250 t253 t254 t264 t267 t268).bind fun t269 => (if t269 = true then ((laws_markRing.f kj11 t250 t253 t254 1).bind fun bt270 => (if bt270.1 < 0 then (laws_FnExactGrowRing.j1 kj11 a1 t248 true l0_0 a0_1 a0_2 t243 t246 t247 t256 t259 t260) else ((laws_eqRing.f kj11 t256 t259 t260 t243 t246 t247).bind fun t272 => (if t272 = true then (laws_FnExactGrowRing.j1 kj11 a1 t248 (t261 != t248) l0_0 a0_1 a0_2 t243 t246 t247 t256 t259 t260) else (laws_FnExactGrowRing.j1 kj11 a1 t248 true l0_0 a0_1 a0_2 t243 t246 t247 t256 t259 t260))))) else (some false))) = some r := H
     have A61 := Aside0.mk A610
     clear A610
     replace H := Option.bind_eq_some_iff.mp H
     obtain ⟨t269, A620, H⟩ := H
     replace H : (if t269 = true then ((laws_markRing.f kj11 t250 t253 t254 1).bind fun bt270 => (if bt270.1 < 0 then (laws_FnExactGrowRing.j1 kj11 a1 t248 true l0_0 a0_1 a0_2 t243 t246 t247 t256 t259 t260) else ((laws_eqRing.f kj11 t256 t259 t260 t243 t246 t247).bind fun t272 => (if t272 = true then (laws_FnExactGrowRing.j1 kj11 a1 t248 (t261 != t248) l0_0 a0_1 a0_2 t243 t246 t247 t256 t259 t260) else (laws_FnExactGrowRing.j1 kj11 a1 t248 true l0_0 a0_1 a0_2 t243 t246 t247 t256 t259 t260))))) else (some false)) = some r := H
     have A62 := Aside0.mk A620
     clear A620
     by_cases c63 : t269 = true
     ·
      subst c63
      have H1 : ((laws_markRing.f kj11 t250 t253 t254 1).bind fun bt270 => (if bt270.1 < 0 then (laws_FnExactGrowRing.j1 kj11 a1 t248 true l0_0 a0_1 a0_2 t243 t246 t247 t256 t259 t260) else ((laws_eqRing.f kj11 t256 t259 t260 t243 t246 t247).bind fun t272 => (if t272 = true then (laws_FnExactGrowRing.j1 kj11 a1 t248 (t261 != t248) l0_0 a0_1 a0_2 t243 t246 t247 t256 t259 t260) else (laws_FnExactGrowRing.j1 kj11 a1 t248 true l0_0 a0_1 a0_2 t243 t246 t247 t256 t259 t260))))) = some r := by rw [if_pos rfl] at H; exact H
      clear H
      have H := H1
      clear H1
      replace H := Option.bind_eq_some_iff.mp H
      obtain ⟨⟨t270, t271⟩, A640, H⟩ := H
      replace H : (if t270 < 0 then (laws_FnExactGrowRing.j1 kj11 a1 t248 true l0_0 a0_1 a0_2 t243 t246 t247 t256 t259 t260) else ((laws_eqRing.f kj11 t256 t259 t260 t243 t246 t247).bind fun t272 => (if t272 = true then (laws_FnExactGrowRing.j1 kj11 a1 t248 (t261 != t248) l0_0 a0_1 a0_2 t243 t246 t247 t256 t259 t260) else (laws_FnExactGrowRing.j1 kj11 a1 t248 true l0_0 a0_1 a0_2 t243 t246 t247 t256 t259 t260)))) = some r := H
      have A64 := Aside0.mk A640
      clear A640
      have HC65 := Aside0.mk H
      clear H
      try go_wp2
      have n0_ := am_ (Kd.R_drew HO_250000.out)
      have n1_ := am_ (Kd.R_drew HO_256000.out)
      have n2_ := am_ (Kd.R_drew HO_263000.out)
      have n3_ := am_ (blk_drew BK236.out)
      have n4_ := am_ (blk_drew BK249.out)
      have n5_ := am_ (blk_drew BK255.out)
      have n6_ := am_ (blk_drew BK262.out)
      have n7_ := am_ (below_drew1 HB.out)
      clear HO_250000
      clear HO_256000
      clear HO_263000
      clear BK236
      clear BK249
      clear BK255
      clear BK262
      clear HB
      have HO_250000 := n0_
      have HO_256000 := n1_
      have HO_263000 := n2_
      have BK236 := n3_
      have BK249 := n4_
      have BK255 := n5_
      have BK262 := n6_
      have HB := n7_
      clear n0_ n1_ n2_ n3_ n4_ n5_ n6_ n7_
      refine start_ (n := 5) (S := fun w' => w'.cell? ⟨gb255, 0, none⟩ = some (.slice Ao28 t250.length co28) ∧ w'.cell? ⟨gb255, 1, none⟩ = some (.int .i64 t253) ∧ w'.cell? ⟨gb255, 2, none⟩ = some (.int .i64 t254) ∧ w'.cell? ⟨gb236, 0, none⟩ = some (.slice A0_0 l0_0.length c0_0) ∧ w'.cell? ⟨gb236, 1, none⟩ = some (.int .i64 a0_1) ∧ w'.cell? ⟨gb236, 2, none⟩ = some (.int .i64 a0_2)) (ds := []) #[false, false, false, false, false] (by kernel_rfl) rfl rfl ⟨(blk_cell BK255.out 0).trans rfl, (blk_cell BK255.out 1).trans rfl, (blk_cell BK255.out 2).trans rfl, (blk_cell BK236.out 0).trans rfl, (blk_cell BK236.out 1).trans rfl, (blk_cell BK236.out 2).trans rfl⟩ (fun hHeld => ?_)
      generalize wc.drew = w66 at HO_250000 HO_256000 HO_263000 BK236 BK249 BK255 BK262 HB hHeld ⊢
      refine take_ (i := 0) (N := some 45) (v := ?_) (a' := ?_) #[true, false, false, false, false] rfl rfl (by kernel_rfl) (fun _ _ _ h => h) (Or.inl ⟨by rfl, ?_⟩) hHeld ?_ ?_
      rotate_left
      ·
       rintro w' ⟨s0, s1, s2, s3, s4, s5⟩
       go_simp
       with_reducible rfl
      rotate_left
      ·
       simp only [Act.put, List.setIfInBounds_toArray, List.set_cons_zero, List.set_cons_succ, i64_w, i32_w]
       rfl
      refine take_ (i := 1) (N := some 46) (v := ?_) (a' := ?_) #[true, true, false, false, false] rfl rfl (by kernel_rfl) (fun _ _ _ h => h) (Or.inl ⟨by rfl, ?_⟩) hHeld ?_ ?_
      rotate_left
      ·
       rintro w' ⟨s0, s1, s2, s3, s4, s5⟩
       go_simp
       with_reducible rfl
      rotate_left
      ·
       simp only [Act.put, List.setIfInBounds_toArray, List.set_cons_zero, List.set_cons_succ, i64_w, i32_w]
       rfl
      refine one_ (i := 2) (N := some 47) #[true, true, true, false, false] rfl rfl (by kernel_rfl) (by decide) (fun K hK => ?_)
      refine goes_ Try.func16 (by kernel_rfl) rfl #[.agg #[.slice A0_0 l0_0.length c0_0, .int .i64 a0_1, .int .i64 a0_2]] (by rfl) rfl rfl ul_ ?_
      with_reducible refine (laws_toRing.calls kj11 _ _ l0_0 a0_1 a0_2 t264 t267 t268 _ ?side1 ?side2 A61.out).mono ?_
      (case side1 => repeat (first | exact (Kd.C_below HR0_0.out HB.out) | (with_reducible refine Kd.C_alloc ?_ _) | (with_reducible refine Kd.C_drewN ?_ _) | (with_reducible refine Kd.C_drew ?_)))
      (case side2 => exact HC0_0.out)
      rintro e w67 ⟨v265, rfl, ho0, hb⟩
      refine ⟨_, rfl, ?_⟩
      have n0_ := am_ (Kd.R_elder' (ur_ HO_250000.out) (Kd.R_base ho0) hb)
      have n1_ := am_ (Kd.R_elder' (ur_ HO_256000.out) (Kd.R_base ho0) hb)
      have n2_ := am_ (Kd.R_elder' (ur_ HO_263000.out) (Kd.R_base ho0) hb)
      have n3_ := am_ (Kd.R_lower (Kd.R_new' (Kd.R_new' (Kd.R_new' ho0 (Kd.R_lt (ur_ HO_250000.out))) (Kd.R_lt (ur_ HO_256000.out))) (Kd.R_lt (ur_ HO_263000.out))) (below_size (ue_ HB.out)))
      have n4_ := am_ (bb_ BK236.out hb)
      have n5_ := am_ (bb_ BK249.out hb)
      have n6_ := am_ (bb_ BK255.out hb)
      have n7_ := am_ (bb_ BK262.out hb)
      have n8_ := am_ (below_step (ue_ HB.out) hb)
      clear HO_250000
      clear HO_256000
      clear HO_263000
      clear BK236
      clear BK249
      clear BK255
      clear BK262
      clear HB
      have HO_250000 := n0_
      have HO_256000 := n1_
      have HO_263000 := n2_
      have HO266 := n3_
      have BK236 := n4_
      have BK249 := n5_
      have BK255 := n6_
      have BK262 := n7_
      have HB := n8_
      clear n0_ n1_ n2_ n3_ n4_ n5_ n6_ n7_ n8_
      (try clear hb)
      (try clear hb2)
      (try clear hk)
      (try clear hi)
      (try clear ho0)
      obtain ⟨Ao68, co68, eo68⟩ := Kd.R_slice HO266.out
      (first | subst eo68 | (injection eo68 with f1_ f2_ f3_; have f4_ := f1_.symm; have f5_ := f3_.symm; clear f1_ f2_ f3_; subst f4_; subst f5_))
      refine hK.out _ _ ⟨(blk_cell BK255.out 0).trans rfl, (blk_cell BK255.out 1).trans rfl, (blk_cell BK255.out 2).trans rfl, (blk_cell BK236.out 0).trans rfl, (blk_cell BK236.out 1).trans rfl, (blk_cell BK236.out 2).trans rfl⟩ (fun hHeld => ?_)
      clear hK K
      refine norm_ (a' := ?_) ?_ ?_
      rotate_left
      ·
       show Act.put _ (some 47) _ = _
       simp only [Act.put, List.setIfInBounds_toArray, List.set_cons_zero, List.set_cons_succ, i64_w, i32_w]
       rfl
      refine one_ (i := 3) (N := some 48) #[true, true, true, true, false] rfl rfl (by kernel_rfl) (by decide) (fun K hK => ?_)
      refine goes_ Try.func19 (by kernel_rfl) rfl #[.agg #[.slice Ao28 t250.length co28, .int .i64 t253, .int .i64 t254], .agg #[.slice Ao68 t264.length co68, .int .i64 t267, .int .i64 t268]] (by rfl) rfl rfl ul_ ?_
      with_reducible refine (laws_eqRing.calls kj11 _ _ t250 t253 t254 _ _ t264 t267 t268 true _ ?side1 ?side2 ?side3 ?side4 A62.out).mono ?_
      (case side1 => repeat (first | exact (Kd.R_reads' HO_256000.out).2.2 | (with_reducible refine Kd.C_alloc ?_ _) | (with_reducible refine Kd.C_drewN ?_ _) | (with_reducible refine Kd.C_drew ?_)))
      (case side2 => exact (Kd.R_reads' HO_256000.out).2.1)
      (case side3 => repeat (first | exact (Kd.R_reads' HO266.out).2.2 | (with_reducible refine Kd.C_alloc ?_ _) | (with_reducible refine Kd.C_drewN ?_ _) | (with_reducible refine Kd.C_drew ?_)))
      (case side4 => exact (Kd.R_reads' HO266.out).2.1)
      rintro e w69 ⟨rfl, hb⟩
      refine ⟨_, rfl, ?_⟩
      have n0_ := am_ (Kd.R_below (ur_ HO_250000.out) hb)
      have n1_ := am_ (Kd.R_below (ur_ HO_256000.out) hb)
      have n2_ := am_ (Kd.R_below (ur_ HO_263000.out) hb)
      have n3_ := am_ (Kd.R_below (ur_ HO266.out) hb)
      have n4_ := am_ (bb_ BK236.out hb)
      have n5_ := am_ (bb_ BK249.out hb)
      have n6_ := am_ (bb_ BK255.out hb)
      have n7_ := am_ (bb_ BK262.out hb)
      have n8_ := am_ (below_step (ue_ HB.out) hb)
      clear HO_250000
      clear HO_256000
      clear HO_263000
      clear HO266
      clear BK236
      clear BK249
      clear BK255
      clear BK262
      clear HB
      have HO_250000 := n0_
      have HO_256000 := n1_
      have HO_263000 := n2_
      have HO266 := n3_
      have BK236 := n4_
      have BK249 := n5_
      have BK255 := n6_
      have BK262 := n7_
      have HB := n8_
      clear n0_ n1_ n2_ n3_ n4_ n5_ n6_ n7_ n8_
      (try clear hb)
      (try clear hb2)
      (try clear hk)
      (try clear hi)
      refine hK.out _ _ ⟨(blk_cell BK255.out 0).trans rfl, (blk_cell BK255.out 1).trans rfl, (blk_cell BK255.out 2).trans rfl, (blk_cell BK236.out 0).trans rfl, (blk_cell BK236.out 1).trans rfl, (blk_cell BK236.out 2).trans rfl⟩ (fun hHeld => ?_)
      clear hK K
      refine norm_ (a' := ?_) ?_ ?_
      rotate_left
      ·
       show Act.put _ (some 48) _ = _
       simp only [Act.put, List.setIfInBounds_toArray, List.set_cons_zero, List.set_cons_succ, i64_w, i32_w]
       rfl
      refine pure_ (i := 4) (N := some 49) (v := ?_) (a' := ?_) #[true, true, true, true, true] rfl rfl (by kernel_rfl) (fun _ _ _ h => h) (Or.inl ⟨by rfl, ?_⟩) ?_ ?_
      rotate_left
      ·
       intro w'
       go_simp
       with_reducible rfl
      rotate_left
      ·
       simp only [Act.put, List.setIfInBounds_toArray, List.set_cons_zero, List.set_cons_succ, i64_w, i32_w]
       rfl
      refine done_ (by kernel_rfl) ?_
      have hnb70 := NB255_236.out
      have hnc70 := NB236_255.out
      have hnb71 := NB255_249.out
      have hnc71 := NB249_255.out
      have hnb72 := NB255_262.out
      have hnc72 := NB262_255.out
      have hcz73_0 := cb_ BK255.out 0 rfl
      have hcz73_1 := cb_ BK255.out 1 rfl
      have hcz73_2 := cb_ BK255.out 2 rfl
      have hfz73_0 := blk_frozen BK255.out 0
      have hfz73_1 := blk_frozen BK255.out 1
      have hfz73_2 := blk_frozen BK255.out 2
      go_upto_region 14 with (first | ((with_reducible refine gate_callee (f := 43) rfl ?_); refine goesL_ (some 52) rfl rfl Try.func43 (by kernel_rfl) rfl #[.agg #[.slice Ao28 t250.length co28, .int .i64 t253, .int .i64 t254], .int .i64 1] rfl ul_ ?_; (with_reducible refine (laws_markRing.calls kj11 (fun k_ => some k_ = (.slice Ao28 t250.length co28 : Value).ownBlock) (.slice Ao28 t250.length co28) t250 t253 t254 1 t270 t271 w _ ?side1 ?side2 A64.out).mono ?_); (case side1 => repeat (first | (with_reducible first | exact HB.out | apply below_alloc | apply pw_below_drewN | apply below_drew1 | refine below_set ?_ GE236.out | refine below_set ?_ GE249.out | refine below_set ?_ GE255.out | refine below_set ?_ GE262.out) | exact HB.out)); (case side2 => exact Kd.R_tight rfl HO_256000.out); rintro e w74 ⟨rfl, hy0, hb, hkp⟩; refine ⟨_, rfl, ?_⟩; have n0_ := am_ (Kd.R_mono (ok' := fun k_ => some k_ ≠ (.slice Ao28 t250.length co28 : Value).ownBlock ∧ some k_ ≠ (.slice Ao36 t256.length co36 : Value).ownBlock ∧ some k_ ≠ (.slice Ao68 t264.length co68 : Value).ownBlock) (Kd.R_keptB (HO_250000.out) hkp (fun k_ hk_ hs_ => by first | exact (hk_.1.1) hs_ | grind)) (fun k_ hk_ => by first | exact ⟨hk_.1.1.1, hk_.1.1.2, hk_.1.2⟩ | grind)); have n1_ := am_ (Kd.R_reok rfl hy0 (fun k_ e_ => HO_256000.out.1 k_ e_)); have n2_ := am_ (Kd.R_mono (ok' := fun k_ => some k_ ≠ (.slice Ao21 t243.length co21 : Value).ownBlock ∧ some k_ ≠ (.slice Ao28 t250.length co28 : Value).ownBlock ∧ some k_ ≠ (.slice Ao68 t264.length co68 : Value).ownBlock) (Kd.R_keptB (HO_263000.out) hkp (fun k_ hk_ hs_ => by first | exact (hk_.1.2) hs_ | grind)) (fun k_ hk_ => by first | exact ⟨hk_.1.1.1, hk_.1.1.2, hk_.1.2⟩ | grind)); have n3_ := am_ (blk_kept (g := gb236) (o := .cells #[.slice A0_0 l0_0.length c0_0, .int .i64 a0_1, .int .i64 a0_2] 24 (0, 0)) (ub_ BK236.out) hkp (fun hs_ => (fun e_ => (Kd.R_ne HO_256000.out BK236.out (by decide)) e_) hs_)); have n4_ := am_ (blk_kept (g := gb249) (o := .cells #[.slice Ao21 t243.length co21, .int .i64 t246, .int .i64 t247] 29 (0, 0)) (ub_ BK249.out) hkp (fun hs_ => (fun e_ => (Kd.R_ne HO_256000.out BK249.out (by decide)) e_) hs_)); have n5_ := am_ (blk_kept (g := gb255) (o := .cells #[.slice Ao28 t250.length co28, .int .i64 t253, .int .i64 t254] 29 (0, 0)) (ub_ BK255.out) hkp (fun hs_ => (fun e_ => (Kd.R_ne HO_256000.out BK255.out (by decide)) e_) hs_)); have n6_ := am_ (blk_kept (g := gb262) (o := .cells #[.slice Ao36 t256.length co36, .int .i64 t259, .int .i64 t260] 29 (0, 0)) (ub_ BK262.out) hkp (fun hs_ => (fun e_ => (Kd.R_ne HO_256000.out BK262.out (by decide)) e_) hs_)); have n7_ := am_ (Kd.R_mono (ok' := fun k_ => some k_ ≠ (.slice Ao21 t243.length co21 : Value).ownBlock ∧ some k_ ≠ (.slice Ao28 t250.length co28 : Value).ownBlock ∧ some k_ ≠ (.slice Ao36 t256.length co36 : Value).ownBlock) (Kd.R_keptB (HO266.out) hkp (fun k_ hk_ hs_ => by first | exact (hk_.1.2) hs_ | grind)) (fun k_ hk_ => by first | exact ⟨hk_.1.1.1.2, hk_.1.1.2, hk_.1.2⟩ | grind)); have n8_ := am_ (hb); clear HO_250000 HO_256000 HO_263000 BK236 BK249 BK255 BK262 HO266 HB; have HO_250000 := n0_; have HO_256000 := n1_; have HO_263000 := n2_; have BK236 := n3_; have BK249 := n4_; have BK255 := n5_; have BK262 := n6_; have HO266 := n7_; have HB := n8_; clear n0_ n1_ n2_ n3_ n4_ n5_ n6_ n7_ n8_; (try clear hb); (try clear hkp); (try clear hy0)))
      (try simp only [Act.put, List.setIfInBounds_toArray, List.set_cons_zero, List.set_cons_succ])
      go_cut [65] (fun v65 wc => ∃ (kq : Nat) (x65_64 : Bool), v65 = .bool x65_64 ∧ Aside0 (laws_FnExactGrowRing.j1 kq a1 t248 x65_64 l0_0 a0_1 a0_2 t243 t246 t247 t256 t259 t260 = some r) ∧ Aside0 (kq ≤ kj11) ∧ Aside0 (Kd.R (Kd.int .i64) 3 wc w.heap.size (fun k_ => some k_ ≠ ((.slice Ao28 t250.length co28) : Value).ownBlock ∧ some k_ ≠ ((.slice Ao36 t256.length co36) : Value).ownBlock) (.slice Ao21 t243.length co21) t243) ∧ Aside0 (Kd.R (Kd.int .i64) 3 wc w.heap.size (fun k_ => some k_ ≠ ((.slice Ao21 t243.length co21) : Value).ownBlock ∧ some k_ ≠ ((.slice Ao36 t256.length co36) : Value).ownBlock) (.slice Ao28 t250.length co28) t271) ∧ Aside0 (Kd.R (Kd.int .i64) 3 wc w.heap.size (fun k_ => some k_ ≠ ((.slice Ao21 t243.length co21) : Value).ownBlock ∧ some k_ ≠ ((.slice Ao28 t250.length co28) : Value).ownBlock) (.slice Ao36 t256.length co36) t256) ∧ Aside0 (wc.heap[gb236]? = some (.cells #[(.slice A0_0 l0_0.length c0_0), .int .i64 a0_1, .int .i64 a0_2] 24 (0, 0))) ∧ Aside0 (wc.heap[gb249]? = some (.cells #[(.slice Ao21 t243.length co21), .int .i64 t246, .int .i64 t247] 29 (0, 0))) ∧ Aside0 (wc.heap[gb255]? = some (.cells #[(.slice Ao28 t250.length co28), .int .i64 t253, .int .i64 t254] 29 (0, 0))) ∧ Aside0 (wc.heap[gb262]? = some (.cells #[(.slice Ao36 t256.length co36), .int .i64 t259, .int .i64 t260] 29 (0, 0))) ∧ Aside0 (Below w.heap.size w wc))
      case first =>
       have H := HC65.out
       clear HC65
       by_cases c75 : t270 < 0
       ·
        rw [if_pos c75] at H
        have c75b0 : decide (t270 < 0) = true := decide_eq_true c75
        clear c75
        (first | rw [c75b0] | (simp only [i64_w, i32_w]; rw [c75b0]) | skip)
        have H' := Aside0.mk H
        clear H
        go_wp2
        go_meet
        case rel => exact ⟨_, (true), (by first | rfl | (simp; done) | (simp [*]; done)), H', ⟨by have := HJ11.out; first | omega | exact Nat.le_refl _⟩, ⟨by (with_reducible repeat (first | apply Kd.R_alloc | apply Kd.R_drewN | apply Kd.R_drew)); exact Kd.R_mono HO_250000.out (fun _ hk => by first | exact ⟨hk.1, hk.2.1⟩ | grind)⟩, ⟨by (with_reducible repeat (first | apply Kd.R_alloc | apply Kd.R_drewN | apply Kd.R_drew)); exact Kd.R_mono HO_256000.out (fun _ hk => by first | exact ⟨hk.1.1, hk.1.2⟩ | grind)⟩, ⟨by (with_reducible repeat (first | apply Kd.R_alloc | apply Kd.R_drewN | apply Kd.R_drew)); exact Kd.R_mono HO_263000.out (fun _ hk => by first | exact ⟨hk.1, hk.2.1⟩ | grind)⟩, ⟨by (with_reducible repeat first|apply bn_|apply bd_|apply ba_); exact BK236.out⟩, ⟨by (with_reducible repeat first|apply bn_|apply bd_|apply ba_); exact BK249.out⟩, ⟨by (with_reducible repeat first|apply bn_|apply bd_|apply ba_); exact BK255.out⟩, ⟨by (with_reducible repeat first|apply bn_|apply bd_|apply ba_); exact BK262.out⟩, ⟨ue_ HB.out⟩⟩
       ·
        rw [if_neg c75] at H
        have c75b0 : decide (t270 < 0) = false := decide_eq_false c75
        clear c75
        (first | rw [c75b0] | (simp only [i64_w, i32_w]; rw [c75b0]) | skip)
        replace H := Option.bind_eq_some_iff.mp H
        obtain ⟨t272, A760, H⟩ := H
        replace H : (if t272 = true then (laws_FnExactGrowRing.j1 kj11 a1 t248 (t261 != t248) l0_0 a0_1 a0_2 t243 t246 t247 t256 t259 t260) else (laws_FnExactGrowRing.j1 kj11 a1 t248 true l0_0 a0_1 a0_2 t243 t246 t247 t256 t259 t260)) = some r := H
        have A76 := Aside0.mk A760
        clear A760
        by_cases c77 : t272 = true
        ·
         subst c77
         have H1 : (laws_FnExactGrowRing.j1 kj11 a1 t248 (t261 != t248) l0_0 a0_1 a0_2 t243 t246 t247 t256 t259 t260) = some r := by rw [if_pos rfl] at H; exact H
         clear H
         have H := H1
         clear H1
         have H' := Aside0.mk H
         clear H
         have hnb78 := NB262_236.out
         have hnc78 := NB236_262.out
         have hnb79 := NB262_249.out
         have hnc79 := NB249_262.out
         have hnb80 := NB262_255.out
         have hnc80 := NB255_262.out
         have hcz81_0 := cb_ BK262.out 0 rfl
         have hcz81_1 := cb_ BK262.out 1 rfl
         have hcz81_2 := cb_ BK262.out 2 rfl
         have hfz81_0 := blk_frozen BK262.out 0
         have hfz81_1 := blk_frozen BK262.out 1
         have hfz81_2 := blk_frozen BK262.out 2
         have hnb82 := NB249_236.out
         have hnc82 := NB236_249.out
         have hnb83 := NB249_255.out
         have hnc83 := NB255_249.out
         have hcz84_0 := cb_ BK249.out 0 rfl
         have hcz84_1 := cb_ BK249.out 1 rfl
         have hcz84_2 := cb_ BK249.out 2 rfl
         have hfz84_0 := blk_frozen BK249.out 0
         have hfz84_1 := blk_frozen BK249.out 1
         have hfz84_2 := blk_frozen BK249.out 2
         go_wp2_with (first | (go_at_call 19; (with_reducible refine (laws_eqRing.calls kj11 _ _ t256 t259 t260 _ _ t243 t246 t247 true _ ?side1 ?side2 ?side3 ?side4 A76.out).mono ?_); (case side1 => repeat (first | exact (Kd.R_reads' HO_263000.out).2.2 | (with_reducible refine Kd.C_alloc ?_ _) | (with_reducible refine Kd.C_drewN ?_ _) | (with_reducible refine Kd.C_drew ?_))); (case side2 => exact (Kd.R_reads' HO_263000.out).2.1); (case side3 => repeat (first | exact (Kd.R_reads' HO_250000.out).2.2 | (with_reducible refine Kd.C_alloc ?_ _) | (with_reducible refine Kd.C_drewN ?_ _) | (with_reducible refine Kd.C_drew ?_))); (case side4 => exact (Kd.R_reads' HO_250000.out).2.1); rintro e w85 ⟨rfl, hb⟩; have n0_ := am_ (Kd.R_below (ur_ HO_250000.out) hb); have n1_ := am_ (Kd.R_below (ur_ HO_256000.out) hb); have n2_ := am_ (Kd.R_below (ur_ HO_263000.out) hb); have n3_ := am_ (Kd.R_below (ur_ HO266.out) hb); have n4_ := am_ (bb_ BK236.out hb); have n5_ := am_ (bb_ BK249.out hb); have n6_ := am_ (bb_ BK255.out hb); have n7_ := am_ (bb_ BK262.out hb); have n8_ := am_ (below_step (ue_ HB.out) hb); clear HO_250000 HO_256000 HO_263000 HO266 BK236 BK249 BK255 BK262 HB; have HO_250000 := n0_; have HO_256000 := n1_; have HO_263000 := n2_; have HO266 := n3_; have BK236 := n4_; have BK249 := n5_; have BK255 := n6_; have BK262 := n7_; have HB := n8_; clear n0_ n1_ n2_ n3_ n4_ n5_ n6_ n7_ n8_; (try clear hb); (try clear hb2); (try clear hk); (try clear hi)))
         go_meet
         case rel => exact ⟨_, ((t261 != t248)), (by first | rfl | (simp; done) | (simp [*]; done)), H', ⟨by have := HJ11.out; first | omega | exact Nat.le_refl _⟩, ⟨by (with_reducible repeat (first | apply Kd.R_alloc | apply Kd.R_drewN | apply Kd.R_drew)); exact Kd.R_mono HO_250000.out (fun _ hk => by first | exact ⟨hk.1, hk.2.1⟩ | grind)⟩, ⟨by (with_reducible repeat (first | apply Kd.R_alloc | apply Kd.R_drewN | apply Kd.R_drew)); exact Kd.R_mono HO_256000.out (fun _ hk => by first | exact ⟨hk.1.1, hk.1.2⟩ | grind)⟩, ⟨by (with_reducible repeat (first | apply Kd.R_alloc | apply Kd.R_drewN | apply Kd.R_drew)); exact Kd.R_mono HO_263000.out (fun _ hk => by first | exact ⟨hk.1, hk.2.1⟩ | grind)⟩, ⟨by (with_reducible repeat first|apply bn_|apply bd_|apply ba_); exact BK236.out⟩, ⟨by (with_reducible repeat first|apply bn_|apply bd_|apply ba_); exact BK249.out⟩, ⟨by (with_reducible repeat first|apply bn_|apply bd_|apply ba_); exact BK255.out⟩, ⟨by (with_reducible repeat first|apply bn_|apply bd_|apply ba_); exact BK262.out⟩, ⟨ue_ HB.out⟩⟩
        ·
         replace c77 := Bool.eq_false_iff.mpr c77
         subst c77
         have H1 : (laws_FnExactGrowRing.j1 kj11 a1 t248 true l0_0 a0_1 a0_2 t243 t246 t247 t256 t259 t260) = some r := by rw [if_neg (show ¬ (false = true) by decide)] at H; exact H
         clear H
         have H := H1
         clear H1
         have H' := Aside0.mk H
         clear H
         have hnb86 := NB262_236.out
         have hnc86 := NB236_262.out
         have hnb87 := NB262_249.out
         have hnc87 := NB249_262.out
         have hnb88 := NB262_255.out
         have hnc88 := NB255_262.out
         have hcz89_0 := cb_ BK262.out 0 rfl
         have hcz89_1 := cb_ BK262.out 1 rfl
         have hcz89_2 := cb_ BK262.out 2 rfl
         have hfz89_0 := blk_frozen BK262.out 0
         have hfz89_1 := blk_frozen BK262.out 1
         have hfz89_2 := blk_frozen BK262.out 2
         have hnb90 := NB249_236.out
         have hnc90 := NB236_249.out
         have hnb91 := NB249_255.out
         have hnc91 := NB255_249.out
         have hcz92_0 := cb_ BK249.out 0 rfl
         have hcz92_1 := cb_ BK249.out 1 rfl
         have hcz92_2 := cb_ BK249.out 2 rfl
         have hfz92_0 := blk_frozen BK249.out 0
         have hfz92_1 := blk_frozen BK249.out 1
         have hfz92_2 := blk_frozen BK249.out 2
         go_wp2_with (first | (go_at_call 19; (with_reducible refine (laws_eqRing.calls kj11 _ _ t256 t259 t260 _ _ t243 t246 t247 false _ ?side1 ?side2 ?side3 ?side4 A76.out).mono ?_); (case side1 => repeat (first | exact (Kd.R_reads' HO_263000.out).2.2 | (with_reducible refine Kd.C_alloc ?_ _) | (with_reducible refine Kd.C_drewN ?_ _) | (with_reducible refine Kd.C_drew ?_))); (case side2 => exact (Kd.R_reads' HO_263000.out).2.1); (case side3 => repeat (first | exact (Kd.R_reads' HO_250000.out).2.2 | (with_reducible refine Kd.C_alloc ?_ _) | (with_reducible refine Kd.C_drewN ?_ _) | (with_reducible refine Kd.C_drew ?_))); (case side4 => exact (Kd.R_reads' HO_250000.out).2.1); rintro e w93 ⟨rfl, hb⟩; have n0_ := am_ (Kd.R_below (ur_ HO_250000.out) hb); have n1_ := am_ (Kd.R_below (ur_ HO_256000.out) hb); have n2_ := am_ (Kd.R_below (ur_ HO_263000.out) hb); have n3_ := am_ (Kd.R_below (ur_ HO266.out) hb); have n4_ := am_ (bb_ BK236.out hb); have n5_ := am_ (bb_ BK249.out hb); have n6_ := am_ (bb_ BK255.out hb); have n7_ := am_ (bb_ BK262.out hb); have n8_ := am_ (below_step (ue_ HB.out) hb); clear HO_250000 HO_256000 HO_263000 HO266 BK236 BK249 BK255 BK262 HB; have HO_250000 := n0_; have HO_256000 := n1_; have HO_263000 := n2_; have HO266 := n3_; have BK236 := n4_; have BK249 := n5_; have BK255 := n6_; have BK262 := n7_; have HB := n8_; clear n0_ n1_ n2_ n3_ n4_ n5_ n6_ n7_ n8_; (try clear hb); (try clear hb2); (try clear hk); (try clear hi)))
         go_meet
         case rel => exact ⟨_, (true), (by first | rfl | (simp; done) | (simp [*]; done)), H', ⟨by have := HJ11.out; first | omega | exact Nat.le_refl _⟩, ⟨by (with_reducible repeat (first | apply Kd.R_alloc | apply Kd.R_drewN | apply Kd.R_drew)); exact Kd.R_mono HO_250000.out (fun _ hk => by first | exact ⟨hk.1, hk.2.1⟩ | grind)⟩, ⟨by (with_reducible repeat (first | apply Kd.R_alloc | apply Kd.R_drewN | apply Kd.R_drew)); exact Kd.R_mono HO_256000.out (fun _ hk => by first | exact ⟨hk.1.1, hk.1.2⟩ | grind)⟩, ⟨by (with_reducible repeat (first | apply Kd.R_alloc | apply Kd.R_drewN | apply Kd.R_drew)); exact Kd.R_mono HO_263000.out (fun _ hk => by first | exact ⟨hk.1, hk.2.1⟩ | grind)⟩, ⟨by (with_reducible repeat first|apply bn_|apply bd_|apply ba_); exact BK236.out⟩, ⟨by (with_reducible repeat first|apply bn_|apply bd_|apply ba_); exact BK249.out⟩, ⟨by (with_reducible repeat first|apply bn_|apply bd_|apply ba_); exact BK255.out⟩, ⟨by (with_reducible repeat first|apply bn_|apply bd_|apply ba_); exact BK262.out⟩, ⟨ue_ HB.out⟩⟩
      case rest =>
       clear HC65
       try clear c1
       try clear c2
       try clear p2
       try clear c3
       try clear c4
       try clear c4b0
       try clear c5
       try clear c6
       try clear c7
       try clear c8
       try clear c9
       try clear c13
       try clear c14
       try clear c16
       try clear c19
       try clear c22
       try clear c29
       try clear c30
       try clear c37
       try clear c38
       try clear c39
       try clear c43
       try clear c44
       try clear c45
       try clear c46
       try clear c48
       try clear c49
       try clear c52
       try clear c53
       try clear c54
       try clear c56
       try clear c57
       try clear c60
       try clear c63
       try clear c64
       try clear c70
       try clear c71
       try clear c72
       try clear c75
       try clear c75b0
       try clear c77
       try clear c78
       try clear c79
       try clear c80
       try clear c82
       try clear c83
       try clear c86
       try clear c87
       try clear c88
       try clear c90
       try clear c91
       try clear hcz14_0
       try clear hcz14_1
       try clear hcz14_2
       try clear hcz16_0
       try clear hcz16_1
       try clear hcz16_2
       try clear hcz23_0
       try clear hcz23_1
       try clear hcz23_2
       try clear hcz25_0
       try clear hcz25_1
       try clear hcz25_2
       try clear hcz31_0
       try clear hcz31_1
       try clear hcz31_2
       try clear hcz33_0
       try clear hcz33_1
       try clear hcz33_2
       try clear hcz40_0
       try clear hcz40_1
       try clear hcz40_2
       try clear hcz47_0
       try clear hcz47_1
       try clear hcz47_2
       try clear hcz50_0
       try clear hcz50_1
       try clear hcz50_2
       try clear hcz55_0
       try clear hcz55_1
       try clear hcz55_2
       try clear hcz58_0
       try clear hcz58_1
       try clear hcz58_2
       try clear hcz6_0
       try clear hcz6_1
       try clear hcz6_2
       try clear hcz73_0
       try clear hcz73_1
       try clear hcz73_2
       try clear hcz81_0
       try clear hcz81_1
       try clear hcz81_2
       try clear hcz84_0
       try clear hcz84_1
       try clear hcz84_2
       try clear hcz89_0
       try clear hcz89_1
       try clear hcz89_2
       try clear hcz92_0
       try clear hcz92_1
       try clear hcz92_2
       try clear hfz14_0
       try clear hfz14_1
       try clear hfz14_2
       try clear hfz16_0
       try clear hfz16_1
       try clear hfz16_2
       try clear hfz23_0
       try clear hfz23_1
       try clear hfz23_2
       try clear hfz25_0
       try clear hfz25_1
       try clear hfz25_2
       try clear hfz31_0
       try clear hfz31_1
       try clear hfz31_2
       try clear hfz33_0
       try clear hfz33_1
       try clear hfz33_2
       try clear hfz40_0
       try clear hfz40_1
       try clear hfz40_2
       try clear hfz47_0
       try clear hfz47_1
       try clear hfz47_2
       try clear hfz50_0
       try clear hfz50_1
       try clear hfz50_2
       try clear hfz55_0
       try clear hfz55_1
       try clear hfz55_2
       try clear hfz58_0
       try clear hfz58_1
       try clear hfz58_2
       try clear hfz6_0
       try clear hfz6_1
       try clear hfz6_2
       try clear hfz73_0
       try clear hfz73_1
       try clear hfz73_2
       try clear hfz81_0
       try clear hfz81_1
       try clear hfz81_2
       try clear hfz84_0
       try clear hfz84_1
       try clear hfz84_2
       try clear hfz89_0
       try clear hfz89_1
       try clear hfz89_2
       try clear hfz92_0
       try clear hfz92_1
       try clear hfz92_2
       try clear p2
       obtain ⟨kq, x65_64, rfl, HA, HJ64, HO_250000, HO_256000, HO_263000, BK236, BK249, BK255, BK262, HB⟩ := hcut
       have hl256000_64 := (Kd.R_reads' HO_256000.out).1
       rw [hl256000_64] at HO_256000
       (try simp only [hl256000_64])
       (try simp only [hl256000_64] at BK236)
       (try simp only [hl256000_64] at BK249)
       (try simp only [hl256000_64] at BK255)
       (try simp only [hl256000_64] at BK262)
       (try simp only [hl256000_64] at HO_250000)
       (try simp only [hl256000_64] at HO_263000)
       cases kq with
       | zero => exact absurd HA.out (by simp [laws_FnExactGrowRing.j1])
       | succ kj64 =>
        have H := HA.out
        clear HA
        simp only [laws_FnExactGrowRing.j1] at H
        by_cases c94 : x65_64 = true
        ·
         subst c94
         have H1 : (some false) = some r := by rw [if_pos rfl] at H; exact H
         clear H
         have H := H1
         clear H1
         exact absurd ((Option.some.inj H).trans hT.out) (by decide)
        ·
         replace c94 := Bool.eq_false_iff.mpr c94
         subst c94
         have H1 : ((laws_markRing.f kj64 t256 t259 t260 1).bind fun bt273 => ((laws_heldRing.f kj64 bt273.2 t259 t260 1).bind fun t275 => (if t275 < 0 then (some false) else (if t275 = bt273.1 then ((laws_toRing.f kj64 l0_0 a0_1 a0_2).bind fun bt276 => ((impl_GrowRing.f kj64 bt276.1 bt276.2.1 bt276.2.2 a1).bind fun bt281 => ((laws_eqRing.f kj64 bt281.1 bt281.2.1 bt281.2.2.1 t243 t246 t247).bind fun t288 => (if t288 = true then (laws_FnExactGrowRing.j2 kj64 bt273.1 (bt281.2.2.2 != t248) bt273.2 t259 t260) else (laws_FnExactGrowRing.j2 kj64 bt273.1 true bt273.2 t259 t260))))) else (some false))))) = some r := by rw [if_neg (show ¬ (false = true) by decide)] at H; exact H
         clear H
         have H := H1
         clear H1
         replace H := Option.bind_eq_some_iff.mp H
         obtain ⟨⟨t273, t274⟩, A950, H⟩ := H
         replace H : ((laws_heldRing.f kj64 t274 t259 t260 1).bind fun t275 => (if t275 < 0 then (some false) else (if t275 = t273 then ((laws_toRing.f kj64 l0_0 a0_1 a0_2).bind fun bt276 => ((impl_GrowRing.f kj64 bt276.1 bt276.2.1 bt276.2.2 a1).bind fun bt281 => ((laws_eqRing.f kj64 bt281.1 bt281.2.1 bt281.2.2.1 t243 t246 t247).bind fun t288 => (if t288 = true then (laws_FnExactGrowRing.j2 kj64 t273 (bt281.2.2.2 != t248) t274 t259 t260) else (laws_FnExactGrowRing.j2 kj64 t273 true t274 t259 t260))))) else (some false)))) = some r := H
         have A95 := Aside0.mk A950
         clear A950
         replace H := Option.bind_eq_some_iff.mp H
         obtain ⟨t275, A960, H⟩ := H
         replace H : (if t275 < 0 then (some false) else (if t275 = t273 then ((laws_toRing.f kj64 l0_0 a0_1 a0_2).bind fun bt276 => ((impl_GrowRing.f kj64 bt276.1 bt276.2.1 bt276.2.2 a1).bind fun bt281 => ((laws_eqRing.f kj64 bt281.1 bt281.2.1 bt281.2.2.1 t243 t246 t247).bind fun t288 => (if t288 = true then (laws_FnExactGrowRing.j2 kj64 t273 (bt281.2.2.2 != t248) t274 t259 t260) else (laws_FnExactGrowRing.j2 kj64 t273 true t274 t259 t260))))) else (some false))) = some r := H
         have A96 := Aside0.mk A960
         clear A960
         by_cases c97 : t275 < 0
         ·
          rw [if_pos c97] at H
          have c97b0 : decide (t275 < 0) = true := decide_eq_true c97
          clear c97
          exact absurd ((Option.some.inj H).trans hT.out) (by decide)
         ·
          rw [if_neg c97] at H
          have c97b0 : decide (t275 < 0) = false := decide_eq_false c97
          clear c97
          by_cases c98 : t275 = t273
          ·
           rw [if_pos c98] at H
           have c98b0 : (t275 == t273) = true := beq_iff_eq.mpr c98
           have c98b1 : (t275 != t273) = false := bne_eq_false_iff_eq.mpr c98
           clear c98
           replace H := Option.bind_eq_some_iff.mp H
           obtain ⟨⟨t276, t279, t280⟩, A990, H⟩ := H
           replace H : ((impl_GrowRing.f kj64 t276 t279 t280 a1).bind fun bt281 => ((laws_eqRing.f kj64 bt281.1 bt281.2.1 bt281.2.2.1 t243 t246 t247).bind fun t288 => (if t288 = true then (laws_FnExactGrowRing.j2 kj64 t273 (bt281.2.2.2 != t248) t274 t259 t260) else (laws_FnExactGrowRing.j2 kj64 t273 true t274 t259 t260)))) = some r := H
           have A99 := Aside0.mk A990
           clear A990
           replace H := Option.bind_eq_some_iff.mp H
           obtain ⟨⟨t281, t284, t285, t286⟩, A1000, H⟩ := H
           replace H : ((laws_eqRing.f kj64 t281 t284 t285 t243 t246 t247).bind fun t288 => (if t288 = true then (laws_FnExactGrowRing.j2 kj64 t273 (t286 != t248) t274 t259 t260) else (laws_FnExactGrowRing.j2 kj64 t273 true t274 t259 t260))) = some r := H
           have A100 := Aside0.mk A1000
           clear A1000
           have HC101 := Aside0.mk H
           clear H
           have hnb102 := NB262_236.out
           have hnc102 := NB236_262.out
           have hnb103 := NB262_249.out
           have hnc103 := NB249_262.out
           have hnb104 := NB262_255.out
           have hnc104 := NB255_262.out
           have hcz105_0 := cb_ BK262.out 0 rfl
           have hcz105_1 := cb_ BK262.out 1 rfl
           have hcz105_2 := cb_ BK262.out 2 rfl
           have hfz105_0 := blk_frozen BK262.out 0
           have hfz105_1 := blk_frozen BK262.out 1
           have hfz105_2 := blk_frozen BK262.out 2
           go_upto_region 25 with (first | ((with_reducible refine gate_callee (f := 43) rfl ?_); refine goesL_ (some 68) rfl rfl Try.func43 (by kernel_rfl) rfl #[.agg #[.slice Ao36 t256.length co36, .int .i64 t259, .int .i64 t260], .int .i64 1] rfl ul_ ?_; (with_reducible refine (laws_markRing.calls kj64 (fun k_ => some k_ = (.slice Ao36 t256.length co36 : Value).ownBlock) (.slice Ao36 t256.length co36) t256 t259 t260 1 t273 t274 w _ ?side1 ?side2 A95.out).mono ?_); (case side1 => repeat (first | (with_reducible first | exact HB.out | apply below_alloc | apply pw_below_drewN | apply below_drew1 | refine below_set ?_ GE236.out | refine below_set ?_ GE249.out | refine below_set ?_ GE255.out | refine below_set ?_ GE262.out) | exact HB.out)); (case side2 => exact Kd.R_tight rfl HO_263000.out); rintro e w106 ⟨rfl, hy0, hb, hkp⟩; refine ⟨_, rfl, ?_⟩; have n0_ := am_ (Kd.R_mono (ok' := fun k_ => some k_ ≠ (.slice Ao28 t271.length co28 : Value).ownBlock ∧ some k_ ≠ (.slice Ao36 t256.length co36 : Value).ownBlock) (Kd.R_keptB (HO_250000.out) hkp (fun k_ hk_ hs_ => by first | exact (hk_.2) hs_ | grind)) (fun k_ hk_ => by first | exact ⟨hk_.1.1, hk_.1.2⟩ | grind)); have n1_ := am_ (Kd.R_mono (ok' := fun k_ => some k_ ≠ (.slice Ao21 t243.length co21 : Value).ownBlock ∧ some k_ ≠ (.slice Ao36 t256.length co36 : Value).ownBlock) (Kd.R_keptB (HO_256000.out) hkp (fun k_ hk_ hs_ => by first | exact (hk_.2) hs_ | grind)) (fun k_ hk_ => by first | exact ⟨hk_.1.1, hk_.1.2⟩ | grind)); have n2_ := am_ (Kd.R_reok rfl hy0 (fun k_ e_ => HO_263000.out.1 k_ e_)); have n3_ := am_ (blk_kept (g := gb236) (o := .cells #[.slice A0_0 l0_0.length c0_0, .int .i64 a0_1, .int .i64 a0_2] 24 (0, 0)) (ub_ BK236.out) hkp (fun hs_ => (fun e_ => (Kd.R_ne HO_263000.out BK236.out (by decide)) e_) hs_)); have n4_ := am_ (blk_kept (g := gb249) (o := .cells #[.slice Ao21 t243.length co21, .int .i64 t246, .int .i64 t247] 29 (0, 0)) (ub_ BK249.out) hkp (fun hs_ => (fun e_ => (Kd.R_ne HO_263000.out BK249.out (by decide)) e_) hs_)); have n5_ := am_ (blk_kept (g := gb255) (o := .cells #[.slice Ao28 t271.length co28, .int .i64 t253, .int .i64 t254] 29 (0, 0)) (ub_ BK255.out) hkp (fun hs_ => (fun e_ => (Kd.R_ne HO_263000.out BK255.out (by decide)) e_) hs_)); have n6_ := am_ (blk_kept (g := gb262) (o := .cells #[.slice Ao36 t256.length co36, .int .i64 t259, .int .i64 t260] 29 (0, 0)) (ub_ BK262.out) hkp (fun hs_ => (fun e_ => (Kd.R_ne HO_263000.out BK262.out (by decide)) e_) hs_)); have n7_ := am_ (hb); clear HO_250000 HO_256000 HO_263000 BK236 BK249 BK255 BK262 HB; have HO_250000 := n0_; have HO_256000 := n1_; have HO_263000 := n2_; have BK236 := n3_; have BK249 := n4_; have BK255 := n5_; have BK262 := n6_; have HB := n7_; clear n0_ n1_ n2_ n3_ n4_ n5_ n6_ n7_; (try clear hb); (try clear hkp); (try clear hy0); obtain ⟨hcz107_0, hcz107_1, hcz107_2⟩ := cb3_ BK262.out; obtain ⟨hfz107_0, hfz107_1⟩ := bf2_ BK262.out; have hfz107_2 := blk_frozen BK262.out 2) | ((with_reducible refine gate_callee (f := 52) rfl ?_); refine goesL_ (some 71) rfl rfl Try.func52 (by kernel_rfl) rfl #[.agg #[.slice Ao36 t274.length co36, .int .i64 t259, .int .i64 t260], .int .i64 1] rfl (by (try simp only [List.map_toArray, List.map_cons, List.map_nil]); first | done | (rw [show t274.length = t256.length from (Kd.R_reads' HO_263000.out).1.symm] <;> rfl) | rfl | (simp only [List.length_drop, List.length_take]; rfl)) ?_; (with_reducible refine (laws_heldRing.calls kj64 _ _ t274 t259 t260 1 t275 _ ?side1 ?side2 A96.out).mono ?_); (case side1 => repeat (first | exact (Kd.R_reads' HO_263000.out).2.2 | (with_reducible refine Kd.C_alloc ?_ _) | (with_reducible refine Kd.C_drewN ?_ _) | (with_reducible refine Kd.C_drew ?_))); (case side2 => rw [show t274.length = t256.length from (Kd.R_reads' HO_263000.out).1.symm]; exact (Kd.R_reads' HO_263000.out).2.1); rintro e w108 ⟨rfl, hb⟩; refine ⟨_, rfl, ?_⟩; have n0_ := am_ (Kd.R_below (ur_ HO_250000.out) hb); have n1_ := am_ (Kd.R_below (ur_ HO_256000.out) hb); have n2_ := am_ (Kd.R_below (ur_ HO_263000.out) hb); have n3_ := am_ (bb_ BK236.out hb); have n4_ := am_ (bb_ BK249.out hb); have n5_ := am_ (bb_ BK255.out hb); have n6_ := am_ (bb_ BK262.out hb); have n7_ := am_ (below_step (ue_ HB.out) hb); clear HO_250000 HO_256000 HO_263000 BK236 BK249 BK255 BK262 HB; have HO_250000 := n0_; have HO_256000 := n1_; have HO_263000 := n2_; have BK236 := n3_; have BK249 := n4_; have BK255 := n5_; have BK262 := n6_; have HB := n7_; clear n0_ n1_ n2_ n3_ n4_ n5_ n6_ n7_; (try clear hb); (try clear hb2); (try clear hk); (try clear hi); have hnb109 := NB236_249.out; have hnc109 := NB249_236.out; have hnb110 := NB236_255.out; have hnc110 := NB255_236.out; obtain ⟨hcz111_0, hcz111_1, hcz111_2⟩ := cb3_ BK236.out; obtain ⟨hfz111_0, hfz111_1⟩ := bf2_ BK236.out; have hfz111_2 := blk_frozen BK236.out 2) | ((with_reducible refine gate_callee (f := 16) rfl ?_); refine goesL_ (some 79) rfl rfl Try.func16 (by kernel_rfl) rfl #[.agg #[.slice A0_0 l0_0.length c0_0, .int .i64 a0_1, .int .i64 a0_2]] rfl ul_ ?_; (with_reducible refine (laws_toRing.calls kj64 _ _ l0_0 a0_1 a0_2 t276 t279 t280 _ ?side1 ?side2 A99.out).mono ?_); (case side1 => repeat (first | exact (Kd.C_below HR0_0.out HB.out) | (with_reducible refine Kd.C_alloc ?_ _) | (with_reducible refine Kd.C_drewN ?_ _) | (with_reducible refine Kd.C_drew ?_))); (case side2 => exact HC0_0.out); rintro e w112 ⟨v277, rfl, ho0, hb⟩; refine ⟨_, rfl, ?_⟩; have n0_ := am_ (Kd.R_elder' (ur_ HO_250000.out) (Kd.R_base ho0) hb); have n1_ := am_ (Kd.R_elder' (ur_ HO_256000.out) (Kd.R_base ho0) hb); have n2_ := am_ (Kd.R_elder' (ur_ HO_263000.out) (Kd.R_base ho0) hb); have n3_ := am_ (Kd.R_lower (Kd.R_new' (Kd.R_new' (Kd.R_new' ho0 (Kd.R_lt (ur_ HO_250000.out))) (Kd.R_lt (ur_ HO_256000.out))) (Kd.R_lt (ur_ HO_263000.out))) (below_size (ue_ HB.out))); have n4_ := am_ (bb_ BK236.out hb); have n5_ := am_ (bb_ BK249.out hb); have n6_ := am_ (bb_ BK255.out hb); have n7_ := am_ (bb_ BK262.out hb); have n8_ := am_ (below_step (ue_ HB.out) hb); clear HO_250000 HO_256000 HO_263000 BK236 BK249 BK255 BK262 HB; have HO_250000 := n0_; have HO_256000 := n1_; have HO_263000 := n2_; have HO278 := n3_; have BK236 := n4_; have BK249 := n5_; have BK255 := n6_; have BK262 := n7_; have HB := n8_; clear n0_ n1_ n2_ n3_ n4_ n5_ n6_ n7_ n8_; (try clear hb); (try clear hb2); (try clear hk); (try clear hi); (try clear ho0); obtain ⟨Ao113, co113, eo113⟩ := Kd.R_slice HO278.out; subst eo113) | ((with_reducible refine gate_callee (f := 64) rfl ?_); refine goesL_ (some 81) rfl rfl Try.func64 (by kernel_rfl) rfl #[.agg #[.slice Ao113 t276.length co113, .int .i64 t279, .int .i64 t280], .int .i64 a1] rfl ul_ ?_; (with_reducible refine (impl_GrowRing.calls kj64 _ _ t276 t279 t280 a1 t281 t284 t285 t286 _ ?side1 ?side2 A100.out).mono ?_); (case side1 => repeat (first | exact (Kd.R_reads' HO278.out).2.2 | (with_reducible refine Kd.C_alloc ?_ _) | (with_reducible refine Kd.C_drewN ?_ _) | (with_reducible refine Kd.C_drew ?_))); (case side2 => exact (Kd.R_reads' HO278.out).2.1); rintro e w114 ⟨v282, rfl, ho0, hb⟩; refine ⟨_, rfl, ?_⟩; have n0_ := am_ (Kd.R_elder' (ur_ HO_250000.out) (Kd.R_base ho0) hb); have n1_ := am_ (Kd.R_elder' (ur_ HO_256000.out) (Kd.R_base ho0) hb); have n2_ := am_ (Kd.R_elder' (ur_ HO_263000.out) (Kd.R_base ho0) hb); have n3_ := am_ (Kd.R_elder' (ur_ HO278.out) (Kd.R_base ho0) hb); have n4_ := am_ (Kd.R_lower (Kd.R_new' (Kd.R_new' (Kd.R_new' (Kd.R_new' ho0 (Kd.R_lt (ur_ HO_250000.out))) (Kd.R_lt (ur_ HO_256000.out))) (Kd.R_lt (ur_ HO_263000.out))) (Kd.R_lt (ur_ HO278.out))) (below_size (ue_ HB.out))); have n5_ := am_ (bb_ BK236.out hb); have n6_ := am_ (bb_ BK249.out hb); have n7_ := am_ (bb_ BK255.out hb); have n8_ := am_ (bb_ BK262.out hb); have n9_ := am_ (below_step (ue_ HB.out) hb); clear HO_250000 HO_256000 HO_263000 HO278 BK236 BK249 BK255 BK262 HB; have HO_250000 := n0_; have HO_256000 := n1_; have HO_263000 := n2_; have HO278 := n3_; have HO283 := n4_; have BK236 := n5_; have BK249 := n6_; have BK255 := n7_; have BK262 := n8_; have HB := n9_; clear n0_ n1_ n2_ n3_ n4_ n5_ n6_ n7_ n8_ n9_; (try clear hb); (try clear hb2); (try clear hk); (try clear hi); (try clear ho0)) | ((with_reducible refine gate_dst (N := 14) rfl ?_); refine box_event ?hg (N := 14) ?hd (cs := #[.slice none 0 0, .int .i64 0, .int .i64 0]) (t := 29) ?hr ?_; (case hd => rfl); (case hg => rfl); (case hr => first | (go_simp; done) | (go_simp; rfl)); intro gb287 hg w115 hbox hb; have n0_ := am_ (Kd.R_below (ur_ HO_250000.out) hb); have n1_ := am_ (Kd.R_below (ur_ HO_256000.out) hb); have n2_ := am_ (Kd.R_below (ur_ HO_263000.out) hb); have n3_ := am_ (Kd.R_below (ur_ HO278.out) hb); have n4_ := am_ (Kd.R_below (ur_ HO283.out) hb); have n5_ := am_ (bb_ BK236.out hb); have n6_ := am_ (bb_ BK249.out hb); have n7_ := am_ (bb_ BK255.out hb); have n8_ := am_ (bb_ BK262.out hb); have n9_ := am_ (below_step (ue_ HB.out) hb); have n10_ := am_ (hbox); have n11_ := am_ ((by rw [hg]; exact (below_size (ue_ HB.out)) : w.heap.size ≤ gb287)); have n12_ := am_ ((by rw [hg]; exact (below_size (ue_ HB.out)) : w.heap.size ≤ gb287)); have n13_ := am_ ((by rw [hg]; exact Nat.ne_of_lt (bl_ BK236.out) : gb236 ≠ gb287)); have n14_ := am_ ((by rw [hg]; exact Nat.ne_of_gt (bl_ BK236.out) : gb287 ≠ gb236)); have n15_ := am_ ((by rw [hg]; exact Nat.ne_of_lt (bl_ BK249.out) : gb249 ≠ gb287)); have n16_ := am_ ((by rw [hg]; exact Nat.ne_of_gt (bl_ BK249.out) : gb287 ≠ gb249)); have n17_ := am_ ((by rw [hg]; exact Nat.ne_of_lt (bl_ BK255.out) : gb255 ≠ gb287)); have n18_ := am_ ((by rw [hg]; exact Nat.ne_of_gt (bl_ BK255.out) : gb287 ≠ gb255)); have n19_ := am_ ((by rw [hg]; exact Nat.ne_of_lt (bl_ BK262.out) : gb262 ≠ gb287)); have n20_ := am_ ((by rw [hg]; exact Nat.ne_of_gt (bl_ BK262.out) : gb287 ≠ gb262)); clear HO_250000 HO_256000 HO_263000 HO278 HO283 BK236 BK249 BK255 BK262 HB; have HO_250000 := n0_; have HO_256000 := n1_; have HO_263000 := n2_; have HO278 := n3_; have HO283 := n4_; have BK236 := n5_; have BK249 := n6_; have BK255 := n7_; have BK262 := n8_; have HB := n9_; have BK287 := n10_; have GW287 := n11_; have GE287 := n12_; have NB236_287 := n13_; have NB287_236 := n14_; have NB249_287 := n15_; have NB287_249 := n16_; have NB255_287 := n17_; have NB287_255 := n18_; have NB262_287 := n19_; have NB287_262 := n20_; clear n0_ n1_ n2_ n3_ n4_ n5_ n6_ n7_ n8_ n9_ n10_ n11_ n12_ n13_ n14_ n15_ n16_ n17_ n18_ n19_ n20_; clear hb hbox hg; obtain ⟨Ao116, co116, eo116⟩ := Kd.R_slice HO283.out; subst eo116; have hnb117 := NB287_236.out; have hnc117 := NB236_287.out; have hnb118 := NB287_249.out; have hnc118 := NB249_287.out; have hnb119 := NB287_255.out; have hnc119 := NB255_287.out; have hnb120 := NB287_262.out; have hnc120 := NB262_287.out; obtain ⟨hcz121_0, hcz121_1, hcz121_2⟩ := cb3_ BK287.out; obtain ⟨hfz121_0, hfz121_1⟩ := bf2_ BK287.out; have hfz121_2 := blk_frozen BK287.out 2) | ((with_reducible refine gate_store (t := 29) (p := 14) rfl ?_); refine store_event (t := 29) (p := 14) (v := ?vo_w122) (w1 := (((w115.setCell ⟨gb287, 0, none⟩ (.slice Ao116 t281.length co116)).setCell ⟨gb287, 1, none⟩ (.int .i64 t284)).setCell ⟨gb287, 2, none⟩ (.int .i64 t285))) ?hg ?ho ?hn ?hr ?_; (case ho => rfl); (case hg => rfl); (case hn => rfl); (case hr => first | (go_simp; done) | (go_simp; rfl)); intro w122 hw; have n0_ : Aside0 (Kd.R (Kd.int .i64) 3 w122 w.heap.size (fun k_ => some k_ ≠ (.slice Ao28 t271.length co28 : Value).ownBlock ∧ some k_ ≠ (.slice Ao36 t256.length co36 : Value).ownBlock ∧ some k_ ≠ (.slice Ao113 t276.length co113 : Value).ownBlock ∧ some k_ ≠ (.slice Ao116 t281.length co116 : Value).ownBlock) (.slice Ao21 t243.length co21) t243) := ⟨(by rw [hw]; exact (by (with_reducible repeat (first | apply Kd.R_alloc | apply Kd.R_drewN | apply Kd.R_drew)); exact Kd.R_mono (Kd.R_far (p := ⟨gb287, 2, none⟩) (Kd.R_far (p := ⟨gb287, 1, none⟩) (Kd.R_far (p := ⟨gb287, 0, none⟩) (Kd.R_types HO_250000.out BK287.out (by decide)) (fun _ hk => by first | exact hk.2 | grind) (.slice Ao116 t281.length co116)) (fun _ hk => by first | exact hk.2 | grind) (.int .i64 t284)) (fun _ hk => by first | exact hk.2 | grind) (.int .i64 t285)) (fun _ hk => by first | exact ⟨hk.1.1.1.1, ⟨hk.1.1.1.2, ⟨hk.1.1.2, hk.1.2⟩⟩⟩ | grind)))⟩; have n1_ : Aside0 (Kd.R (Kd.int .i64) 3 w122 w.heap.size (fun k_ => some k_ ≠ (.slice Ao21 t243.length co21 : Value).ownBlock ∧ some k_ ≠ (.slice Ao36 t256.length co36 : Value).ownBlock ∧ some k_ ≠ (.slice Ao113 t276.length co113 : Value).ownBlock ∧ some k_ ≠ (.slice Ao116 t281.length co116 : Value).ownBlock) (.slice Ao28 t271.length co28) t271) := ⟨(by rw [hw]; exact (by (with_reducible repeat (first | apply Kd.R_alloc | apply Kd.R_drewN | apply Kd.R_drew)); exact Kd.R_mono (Kd.R_far (p := ⟨gb287, 2, none⟩) (Kd.R_far (p := ⟨gb287, 1, none⟩) (Kd.R_far (p := ⟨gb287, 0, none⟩) (Kd.R_types HO_256000.out BK287.out (by decide)) (fun _ hk => by first | exact hk.2 | grind) (.slice Ao116 t281.length co116)) (fun _ hk => by first | exact hk.2 | grind) (.int .i64 t284)) (fun _ hk => by first | exact hk.2 | grind) (.int .i64 t285)) (fun _ hk => by first | exact ⟨hk.1.1.1.1, ⟨hk.1.1.1.2, ⟨hk.1.1.2, hk.1.2⟩⟩⟩ | grind)))⟩; have n2_ : Aside0 (Kd.R (Kd.int .i64) 3 w122 w.heap.size (fun k_ => some k_ ≠ (.slice Ao21 t243.length co21 : Value).ownBlock ∧ some k_ ≠ (.slice Ao28 t271.length co28 : Value).ownBlock ∧ some k_ ≠ (.slice Ao113 t276.length co113 : Value).ownBlock ∧ some k_ ≠ (.slice Ao116 t281.length co116 : Value).ownBlock) (.slice Ao36 t256.length co36) t274) := ⟨(by rw [hw]; exact (by (with_reducible repeat (first | apply Kd.R_alloc | apply Kd.R_drewN | apply Kd.R_drew)); exact Kd.R_mono (Kd.R_far (p := ⟨gb287, 2, none⟩) (Kd.R_far (p := ⟨gb287, 1, none⟩) (Kd.R_far (p := ⟨gb287, 0, none⟩) (Kd.R_types HO_263000.out BK287.out (by decide)) (fun _ hk => by first | exact hk.2 | grind) (.slice Ao116 t281.length co116)) (fun _ hk => by first | exact hk.2 | grind) (.int .i64 t284)) (fun _ hk => by first | exact hk.2 | grind) (.int .i64 t285)) (fun _ hk => by first | exact ⟨hk.1.1.1.1, ⟨hk.1.1.1.2, ⟨hk.1.1.2, hk.1.2⟩⟩⟩ | grind)))⟩; have n3_ : Aside0 (Kd.R (Kd.int .i64) 3 w122 w.heap.size (fun k_ => some k_ ≠ (.slice Ao21 t243.length co21 : Value).ownBlock ∧ some k_ ≠ (.slice Ao28 t271.length co28 : Value).ownBlock ∧ some k_ ≠ (.slice Ao36 t256.length co36 : Value).ownBlock ∧ some k_ ≠ (.slice Ao116 t281.length co116 : Value).ownBlock) (.slice Ao113 t276.length co113) t276) := ⟨(by rw [hw]; exact (by (with_reducible repeat (first | apply Kd.R_alloc | apply Kd.R_drewN | apply Kd.R_drew)); exact Kd.R_mono (Kd.R_far (p := ⟨gb287, 2, none⟩) (Kd.R_far (p := ⟨gb287, 1, none⟩) (Kd.R_far (p := ⟨gb287, 0, none⟩) (Kd.R_types HO278.out BK287.out (by decide)) (fun _ hk => by first | exact hk.2 | grind) (.slice Ao116 t281.length co116)) (fun _ hk => by first | exact hk.2 | grind) (.int .i64 t284)) (fun _ hk => by first | exact hk.2 | grind) (.int .i64 t285)) (fun _ hk => by first | exact ⟨hk.1.1.1.1.2, ⟨hk.1.1.1.2, ⟨hk.1.1.2, hk.1.2⟩⟩⟩ | grind)))⟩; have n4_ : Aside0 (Kd.R (Kd.int .i64) 3 w122 w.heap.size (fun k_ => some k_ ≠ (.slice Ao21 t243.length co21 : Value).ownBlock ∧ some k_ ≠ (.slice Ao28 t271.length co28 : Value).ownBlock ∧ some k_ ≠ (.slice Ao36 t256.length co36 : Value).ownBlock ∧ some k_ ≠ (.slice Ao113 t276.length co113 : Value).ownBlock) (.slice Ao116 t281.length co116) t281) := ⟨(by rw [hw]; exact (by (with_reducible repeat (first | apply Kd.R_alloc | apply Kd.R_drewN | apply Kd.R_drew)); exact Kd.R_mono (Kd.R_far (p := ⟨gb287, 2, none⟩) (Kd.R_far (p := ⟨gb287, 1, none⟩) (Kd.R_far (p := ⟨gb287, 0, none⟩) (Kd.R_types HO283.out BK287.out (by decide)) (fun _ hk => by first | exact hk.2 | grind) (.slice Ao116 t281.length co116)) (fun _ hk => by first | exact hk.2 | grind) (.int .i64 t284)) (fun _ hk => by first | exact hk.2 | grind) (.int .i64 t285)) (fun _ hk => by first | exact ⟨hk.1.1.1.1.2, ⟨hk.1.1.1.2, ⟨hk.1.1.2, hk.1.2⟩⟩⟩ | grind)))⟩; have n5_ : Aside0 (w122.heap[gb236]? = some (.cells #[.slice A0_0 l0_0.length c0_0, .int .i64 a0_1, .int .i64 a0_2] 24 (0, 0))) := ⟨(by rw [hw]; exact (uf_ BK236.out))⟩; have n6_ : Aside0 (w122.heap[gb249]? = some (.cells #[.slice Ao21 t243.length co21, .int .i64 t246, .int .i64 t247] 29 (0, 0))) := ⟨(by rw [hw]; exact (uf_ BK249.out))⟩; have n7_ : Aside0 (w122.heap[gb255]? = some (.cells #[.slice Ao28 t271.length co28, .int .i64 t253, .int .i64 t254] 29 (0, 0))) := ⟨(by rw [hw]; exact (uf_ BK255.out))⟩; have n8_ : Aside0 (w122.heap[gb262]? = some (.cells #[.slice Ao36 t256.length co36, .int .i64 t259, .int .i64 t260] 29 (0, 0))) := ⟨(by rw [hw]; exact (uf_ BK262.out))⟩; have n9_ : Aside0 (w122.heap[gb287]? = some (.cells #[.slice Ao116 t281.length co116, .int .i64 t284, .int .i64 t285] 29 (0, 0))) := ⟨(by rw [hw]; exact (by (with_reducible repeat first|apply bn_|apply bd_|apply ba_); refine blk_put (cs := #[.slice Ao116 t281.length co116, .int .i64 t284, .int .i64 0]) ?_ 2 _ rfl; refine blk_put (cs := #[.slice Ao116 t281.length co116, .int .i64 0, .int .i64 0]) ?_ 1 _ rfl; refine blk_put (cs := #[.slice none 0 0, .int .i64 0, .int .i64 0]) ?_ 0 _ rfl; (with_reducible repeat first|apply bn_|apply bd_|apply ba_); exact BK287.out))⟩; have n10_ : Aside0 (Below w.heap.size w w122) := ⟨(by rw [hw]; exact (ue_ HB.out))⟩; clear hw HO_250000 HO_256000 HO_263000 HO278 HO283 BK236 BK249 BK255 BK262 BK287 HB; have HO_250000 := n0_; have HO_256000 := n1_; have HO_263000 := n2_; have HO278 := n3_; have HO283 := n4_; have BK236 := n5_; have BK249 := n6_; have BK255 := n7_; have BK262 := n8_; have BK287 := n9_; have HB := n10_; clear n0_ n1_ n2_ n3_ n4_ n5_ n6_ n7_ n8_ n9_ n10_))
           (try simp only [Act.put, List.setIfInBounds_toArray, List.set_cons_zero, List.set_cons_succ])
           go_cut [92] (fun v92 wc => ∃ (kq : Nat) (x92_100 : Bool), v92 = .bool x92_100 ∧ Aside0 (laws_FnExactGrowRing.j2 kq t273 x92_100 t274 t259 t260 = some r) ∧ Aside0 (kq ≤ kj64) ∧ Aside0 (Kd.R (Kd.int .i64) 3 wc w.heap.size (fun k_ => some k_ ≠ ((.slice Ao28 t271.length co28) : Value).ownBlock ∧ some k_ ≠ ((.slice Ao36 t256.length co36) : Value).ownBlock ∧ some k_ ≠ ((.slice Ao116 t281.length co116) : Value).ownBlock) (.slice Ao21 t243.length co21) t243) ∧ Aside0 (Kd.R (Kd.int .i64) 3 wc w.heap.size (fun k_ => some k_ ≠ ((.slice Ao21 t243.length co21) : Value).ownBlock ∧ some k_ ≠ ((.slice Ao36 t256.length co36) : Value).ownBlock ∧ some k_ ≠ ((.slice Ao116 t281.length co116) : Value).ownBlock) (.slice Ao28 t271.length co28) t271) ∧ Aside0 (Kd.R (Kd.int .i64) 3 wc w.heap.size (fun k_ => some k_ ≠ ((.slice Ao21 t243.length co21) : Value).ownBlock ∧ some k_ ≠ ((.slice Ao28 t271.length co28) : Value).ownBlock ∧ some k_ ≠ ((.slice Ao116 t281.length co116) : Value).ownBlock) (.slice Ao36 t256.length co36) t274) ∧ Aside0 (Kd.R (Kd.int .i64) 3 wc w.heap.size (fun k_ => some k_ ≠ ((.slice Ao21 t243.length co21) : Value).ownBlock ∧ some k_ ≠ ((.slice Ao28 t271.length co28) : Value).ownBlock ∧ some k_ ≠ ((.slice Ao36 t256.length co36) : Value).ownBlock) (.slice Ao116 t281.length co116) t281) ∧ Aside0 (wc.heap[gb236]? = some (.cells #[(.slice A0_0 l0_0.length c0_0), .int .i64 a0_1, .int .i64 a0_2] 24 (0, 0))) ∧ Aside0 (wc.heap[gb249]? = some (.cells #[(.slice Ao21 t243.length co21), .int .i64 t246, .int .i64 t247] 29 (0, 0))) ∧ Aside0 (wc.heap[gb255]? = some (.cells #[(.slice Ao28 t271.length co28), .int .i64 t253, .int .i64 t254] 29 (0, 0))) ∧ Aside0 (wc.heap[gb262]? = some (.cells #[(.slice Ao36 t256.length co36), .int .i64 t259, .int .i64 t260] 29 (0, 0))) ∧ Aside0 (wc.heap[gb287]? = some (.cells #[(.slice Ao116 t281.length co116), .int .i64 t284, .int .i64 t285] 29 (0, 0))) ∧ Aside0 (Below w.heap.size w wc))
           case first =>
            have H := HC101.out
            clear HC101
            replace H := Option.bind_eq_some_iff.mp H
            obtain ⟨t288, A1230, H⟩ := H
            replace H : (if t288 = true then (laws_FnExactGrowRing.j2 kj64 t273 (t286 != t248) t274 t259 t260) else (laws_FnExactGrowRing.j2 kj64 t273 true t274 t259 t260)) = some r := H
            have A123 := Aside0.mk A1230
            clear A1230
            by_cases c124 : t288 = true
            ·
             subst c124
             have H1 : (laws_FnExactGrowRing.j2 kj64 t273 (t286 != t248) t274 t259 t260) = some r := by rw [if_pos rfl] at H; exact H
             clear H
             have H := H1
             clear H1
             have H' := Aside0.mk H
             clear H
             have hnb125 := NB287_236.out
             have hnc125 := NB236_287.out
             have hnb126 := NB287_249.out
             have hnc126 := NB249_287.out
             have hnb127 := NB287_255.out
             have hnc127 := NB255_287.out
             have hnb128 := NB287_262.out
             have hnc128 := NB262_287.out
             have hcz129_0 := cb_ BK287.out 0 rfl
             have hcz129_1 := cb_ BK287.out 1 rfl
             have hcz129_2 := cb_ BK287.out 2 rfl
             have hfz129_0 := blk_frozen BK287.out 0
             have hfz129_1 := blk_frozen BK287.out 1
             have hfz129_2 := blk_frozen BK287.out 2
             have hnb130 := NB249_236.out
             have hnc130 := NB236_249.out
             have hnb131 := NB249_255.out
             have hnc131 := NB255_249.out
             have hnb132 := NB249_262.out
             have hnc132 := NB262_249.out
             have hcz133_0 := cb_ BK249.out 0 rfl
             have hcz133_1 := cb_ BK249.out 1 rfl
             have hcz133_2 := cb_ BK249.out 2 rfl
             have hfz133_0 := blk_frozen BK249.out 0
             have hfz133_1 := blk_frozen BK249.out 1
             have hfz133_2 := blk_frozen BK249.out 2
             go_wp2_with (first | ((with_reducible refine gate_callee (f := 19) rfl ?_); refine goesL_ (some 86) rfl rfl Try.func19 (by kernel_rfl) rfl #[.agg #[.slice Ao116 t281.length co116, .int .i64 t284, .int .i64 t285], .agg #[.slice Ao21 t243.length co21, .int .i64 t246, .int .i64 t247]] rfl ul_ ?_; (with_reducible refine (laws_eqRing.calls kj64 _ _ t281 t284 t285 _ _ t243 t246 t247 true _ ?side1 ?side2 ?side3 ?side4 A123.out).mono ?_); (case side1 => repeat (first | exact (Kd.R_reads' HO283.out).2.2 | (with_reducible refine Kd.C_alloc ?_ _) | (with_reducible refine Kd.C_drewN ?_ _) | (with_reducible refine Kd.C_drew ?_))); (case side2 => exact (Kd.R_reads' HO283.out).2.1); (case side3 => repeat (first | exact (Kd.R_reads' HO_250000.out).2.2 | (with_reducible refine Kd.C_alloc ?_ _) | (with_reducible refine Kd.C_drewN ?_ _) | (with_reducible refine Kd.C_drew ?_))); (case side4 => exact (Kd.R_reads' HO_250000.out).2.1); rintro e w134 ⟨rfl, hb⟩; refine ⟨_, rfl, ?_⟩; have n0_ := am_ (Kd.R_below (ur_ HO_250000.out) hb); have n1_ := am_ (Kd.R_below (ur_ HO_256000.out) hb); have n2_ := am_ (Kd.R_below (ur_ HO_263000.out) hb); have n3_ := am_ (Kd.R_below (ur_ HO278.out) hb); have n4_ := am_ (Kd.R_below (ur_ HO283.out) hb); have n5_ := am_ (bb_ BK236.out hb); have n6_ := am_ (bb_ BK249.out hb); have n7_ := am_ (bb_ BK255.out hb); have n8_ := am_ (bb_ BK262.out hb); have n9_ := am_ (bb_ BK287.out hb); have n10_ := am_ (below_step (ue_ HB.out) hb); clear HO_250000 HO_256000 HO_263000 HO278 HO283 BK236 BK249 BK255 BK262 BK287 HB; have HO_250000 := n0_; have HO_256000 := n1_; have HO_263000 := n2_; have HO278 := n3_; have HO283 := n4_; have BK236 := n5_; have BK249 := n6_; have BK255 := n7_; have BK262 := n8_; have BK287 := n9_; have HB := n10_; clear n0_ n1_ n2_ n3_ n4_ n5_ n6_ n7_ n8_ n9_ n10_; (try clear hb); (try clear hb2); (try clear hk); (try clear hi)))
             go_meet
             case rel => exact ⟨_, ((t286 != t248)), (by first | rfl | (simp; done) | (simp [*]; done)), H', ⟨by have := HJ11.out; have := HJ64.out; first | omega | exact Nat.le_refl _⟩, ⟨by (try simp only [hl256000_64]); (with_reducible repeat (first | apply Kd.R_alloc | apply Kd.R_drewN | apply Kd.R_drew)); exact Kd.R_mono HO_250000.out (fun _ hk => by first | exact ⟨hk.1, ⟨hk.2.1, hk.2.2.2⟩⟩ | grind)⟩, ⟨by (try simp only [hl256000_64]); (with_reducible repeat (first | apply Kd.R_alloc | apply Kd.R_drewN | apply Kd.R_drew)); exact Kd.R_mono HO_256000.out (fun _ hk => by first | exact ⟨hk.1, ⟨hk.2.1, hk.2.2.2⟩⟩ | grind)⟩, ⟨by (try simp only [hl256000_64]); (with_reducible repeat (first | apply Kd.R_alloc | apply Kd.R_drewN | apply Kd.R_drew)); exact Kd.R_mono HO_263000.out (fun _ hk => by first | exact ⟨hk.1, ⟨hk.2.1, hk.2.2.2⟩⟩ | grind)⟩, ⟨by (try simp only [hl256000_64]); (with_reducible repeat (first | apply Kd.R_alloc | apply Kd.R_drewN | apply Kd.R_drew)); exact Kd.R_mono HO283.out (fun _ hk => by first | exact ⟨hk.1, ⟨hk.2.1, hk.2.2.1⟩⟩ | grind)⟩, ⟨by (try simp only [hl256000_64]); (with_reducible repeat first|apply bn_|apply bd_|apply ba_); exact BK236.out⟩, ⟨by (try simp only [hl256000_64]); (with_reducible repeat first|apply bn_|apply bd_|apply ba_); exact BK249.out⟩, ⟨by (try simp only [hl256000_64]); (with_reducible repeat first|apply bn_|apply bd_|apply ba_); exact BK255.out⟩, ⟨by (try simp only [hl256000_64]); (with_reducible repeat first|apply bn_|apply bd_|apply ba_); exact BK262.out⟩, ⟨by (try simp only [hl256000_64]); (with_reducible repeat first|apply bn_|apply bd_|apply ba_); exact BK287.out⟩, ⟨ue_ HB.out⟩⟩
            ·
             replace c124 := Bool.eq_false_iff.mpr c124
             subst c124
             have H1 : (laws_FnExactGrowRing.j2 kj64 t273 true t274 t259 t260) = some r := by rw [if_neg (show ¬ (false = true) by decide)] at H; exact H
             clear H
             have H := H1
             clear H1
             have H' := Aside0.mk H
             clear H
             have hnb135 := NB287_236.out
             have hnc135 := NB236_287.out
             have hnb136 := NB287_249.out
             have hnc136 := NB249_287.out
             have hnb137 := NB287_255.out
             have hnc137 := NB255_287.out
             have hnb138 := NB287_262.out
             have hnc138 := NB262_287.out
             have hcz139_0 := cb_ BK287.out 0 rfl
             have hcz139_1 := cb_ BK287.out 1 rfl
             have hcz139_2 := cb_ BK287.out 2 rfl
             have hfz139_0 := blk_frozen BK287.out 0
             have hfz139_1 := blk_frozen BK287.out 1
             have hfz139_2 := blk_frozen BK287.out 2
             have hnb140 := NB249_236.out
             have hnc140 := NB236_249.out
             have hnb141 := NB249_255.out
             have hnc141 := NB255_249.out
             have hnb142 := NB249_262.out
             have hnc142 := NB262_249.out
             have hcz143_0 := cb_ BK249.out 0 rfl
             have hcz143_1 := cb_ BK249.out 1 rfl
             have hcz143_2 := cb_ BK249.out 2 rfl
             have hfz143_0 := blk_frozen BK249.out 0
             have hfz143_1 := blk_frozen BK249.out 1
             have hfz143_2 := blk_frozen BK249.out 2
             go_wp2_with (first | ((with_reducible refine gate_callee (f := 19) rfl ?_); refine goesL_ (some 86) rfl rfl Try.func19 (by kernel_rfl) rfl #[.agg #[.slice Ao116 t281.length co116, .int .i64 t284, .int .i64 t285], .agg #[.slice Ao21 t243.length co21, .int .i64 t246, .int .i64 t247]] rfl ul_ ?_; (with_reducible refine (laws_eqRing.calls kj64 _ _ t281 t284 t285 _ _ t243 t246 t247 false _ ?side1 ?side2 ?side3 ?side4 A123.out).mono ?_); (case side1 => repeat (first | exact (Kd.R_reads' HO283.out).2.2 | (with_reducible refine Kd.C_alloc ?_ _) | (with_reducible refine Kd.C_drewN ?_ _) | (with_reducible refine Kd.C_drew ?_))); (case side2 => exact (Kd.R_reads' HO283.out).2.1); (case side3 => repeat (first | exact (Kd.R_reads' HO_250000.out).2.2 | (with_reducible refine Kd.C_alloc ?_ _) | (with_reducible refine Kd.C_drewN ?_ _) | (with_reducible refine Kd.C_drew ?_))); (case side4 => exact (Kd.R_reads' HO_250000.out).2.1); rintro e w144 ⟨rfl, hb⟩; refine ⟨_, rfl, ?_⟩; have n0_ := am_ (Kd.R_below (ur_ HO_250000.out) hb); have n1_ := am_ (Kd.R_below (ur_ HO_256000.out) hb); have n2_ := am_ (Kd.R_below (ur_ HO_263000.out) hb); have n3_ := am_ (Kd.R_below (ur_ HO278.out) hb); have n4_ := am_ (Kd.R_below (ur_ HO283.out) hb); have n5_ := am_ (bb_ BK236.out hb); have n6_ := am_ (bb_ BK249.out hb); have n7_ := am_ (bb_ BK255.out hb); have n8_ := am_ (bb_ BK262.out hb); have n9_ := am_ (bb_ BK287.out hb); have n10_ := am_ (below_step (ue_ HB.out) hb); clear HO_250000 HO_256000 HO_263000 HO278 HO283 BK236 BK249 BK255 BK262 BK287 HB; have HO_250000 := n0_; have HO_256000 := n1_; have HO_263000 := n2_; have HO278 := n3_; have HO283 := n4_; have BK236 := n5_; have BK249 := n6_; have BK255 := n7_; have BK262 := n8_; have BK287 := n9_; have HB := n10_; clear n0_ n1_ n2_ n3_ n4_ n5_ n6_ n7_ n8_ n9_ n10_; (try clear hb); (try clear hb2); (try clear hk); (try clear hi)))
             go_meet
             case rel => exact ⟨_, (true), (by first | rfl | (simp; done) | (simp [*]; done)), H', ⟨by have := HJ11.out; have := HJ64.out; first | omega | exact Nat.le_refl _⟩, ⟨by (try simp only [hl256000_64]); (with_reducible repeat (first | apply Kd.R_alloc | apply Kd.R_drewN | apply Kd.R_drew)); exact Kd.R_mono HO_250000.out (fun _ hk => by first | exact ⟨hk.1, ⟨hk.2.1, hk.2.2.2⟩⟩ | grind)⟩, ⟨by (try simp only [hl256000_64]); (with_reducible repeat (first | apply Kd.R_alloc | apply Kd.R_drewN | apply Kd.R_drew)); exact Kd.R_mono HO_256000.out (fun _ hk => by first | exact ⟨hk.1, ⟨hk.2.1, hk.2.2.2⟩⟩ | grind)⟩, ⟨by (try simp only [hl256000_64]); (with_reducible repeat (first | apply Kd.R_alloc | apply Kd.R_drewN | apply Kd.R_drew)); exact Kd.R_mono HO_263000.out (fun _ hk => by first | exact ⟨hk.1, ⟨hk.2.1, hk.2.2.2⟩⟩ | grind)⟩, ⟨by (try simp only [hl256000_64]); (with_reducible repeat (first | apply Kd.R_alloc | apply Kd.R_drewN | apply Kd.R_drew)); exact Kd.R_mono HO283.out (fun _ hk => by first | exact ⟨hk.1, ⟨hk.2.1, hk.2.2.1⟩⟩ | grind)⟩, ⟨by (try simp only [hl256000_64]); (with_reducible repeat first|apply bn_|apply bd_|apply ba_); exact BK236.out⟩, ⟨by (try simp only [hl256000_64]); (with_reducible repeat first|apply bn_|apply bd_|apply ba_); exact BK249.out⟩, ⟨by (try simp only [hl256000_64]); (with_reducible repeat first|apply bn_|apply bd_|apply ba_); exact BK255.out⟩, ⟨by (try simp only [hl256000_64]); (with_reducible repeat first|apply bn_|apply bd_|apply ba_); exact BK262.out⟩, ⟨by (try simp only [hl256000_64]); (with_reducible repeat first|apply bn_|apply bd_|apply ba_); exact BK287.out⟩, ⟨ue_ HB.out⟩⟩
           case rest =>
            clear HC101
            try clear c1
            try clear c2
            try clear p2
            try clear c3
            try clear c4
            try clear c4b0
            try clear c5
            try clear c6
            try clear c7
            try clear c8
            try clear c9
            try clear c10
            try clear c11
            try clear c12
            try clear c13
            try clear c14
            try clear c16
            try clear c19
            try clear c22
            try clear c29
            try clear c30
            try clear c37
            try clear c38
            try clear c39
            try clear c43
            try clear c44
            try clear c45
            try clear c46
            try clear c48
            try clear c49
            try clear c52
            try clear c53
            try clear c54
            try clear c56
            try clear c57
            try clear c60
            try clear c63
            try clear c64
            try clear c70
            try clear c71
            try clear c72
            try clear c75
            try clear c75b0
            try clear c77
            try clear c78
            try clear c79
            try clear c80
            try clear c82
            try clear c83
            try clear c86
            try clear c87
            try clear c88
            try clear c90
            try clear c91
            try clear c94
            try clear c97
            try clear c97b0
            try clear c98
            try clear c98b0
            try clear c98b1
            try clear c102
            try clear c103
            try clear c104
            try clear c109
            try clear c110
            try clear c117
            try clear c118
            try clear c119
            try clear c120
            try clear c124
            try clear c125
            try clear c126
            try clear c127
            try clear c128
            try clear c130
            try clear c131
            try clear c132
            try clear c135
            try clear c136
            try clear c137
            try clear c138
            try clear c140
            try clear c141
            try clear c142
            try clear hcz105_0
            try clear hcz105_1
            try clear hcz105_2
            try clear hcz107_0
            try clear hcz107_1
            try clear hcz107_2
            try clear hcz111_0
            try clear hcz111_1
            try clear hcz111_2
            try clear hcz121_0
            try clear hcz121_1
            try clear hcz121_2
            try clear hcz129_0
            try clear hcz129_1
            try clear hcz129_2
            try clear hcz133_0
            try clear hcz133_1
            try clear hcz133_2
            try clear hcz139_0
            try clear hcz139_1
            try clear hcz139_2
            try clear hcz143_0
            try clear hcz143_1
            try clear hcz143_2
            try clear hcz14_0
            try clear hcz14_1
            try clear hcz14_2
            try clear hcz16_0
            try clear hcz16_1
            try clear hcz16_2
            try clear hcz23_0
            try clear hcz23_1
            try clear hcz23_2
            try clear hcz25_0
            try clear hcz25_1
            try clear hcz25_2
            try clear hcz31_0
            try clear hcz31_1
            try clear hcz31_2
            try clear hcz33_0
            try clear hcz33_1
            try clear hcz33_2
            try clear hcz40_0
            try clear hcz40_1
            try clear hcz40_2
            try clear hcz47_0
            try clear hcz47_1
            try clear hcz47_2
            try clear hcz50_0
            try clear hcz50_1
            try clear hcz50_2
            try clear hcz55_0
            try clear hcz55_1
            try clear hcz55_2
            try clear hcz58_0
            try clear hcz58_1
            try clear hcz58_2
            try clear hcz6_0
            try clear hcz6_1
            try clear hcz6_2
            try clear hcz73_0
            try clear hcz73_1
            try clear hcz73_2
            try clear hcz81_0
            try clear hcz81_1
            try clear hcz81_2
            try clear hcz84_0
            try clear hcz84_1
            try clear hcz84_2
            try clear hcz89_0
            try clear hcz89_1
            try clear hcz89_2
            try clear hcz92_0
            try clear hcz92_1
            try clear hcz92_2
            try clear hfz105_0
            try clear hfz105_1
            try clear hfz105_2
            try clear hfz107_0
            try clear hfz107_1
            try clear hfz107_2
            try clear hfz111_0
            try clear hfz111_1
            try clear hfz111_2
            try clear hfz121_0
            try clear hfz121_1
            try clear hfz121_2
            try clear hfz129_0
            try clear hfz129_1
            try clear hfz129_2
            try clear hfz133_0
            try clear hfz133_1
            try clear hfz133_2
            try clear hfz139_0
            try clear hfz139_1
            try clear hfz139_2
            try clear hfz143_0
            try clear hfz143_1
            try clear hfz143_2
            try clear hfz14_0
            try clear hfz14_1
            try clear hfz14_2
            try clear hfz16_0
            try clear hfz16_1
            try clear hfz16_2
            try clear hfz23_0
            try clear hfz23_1
            try clear hfz23_2
            try clear hfz25_0
            try clear hfz25_1
            try clear hfz25_2
            try clear hfz31_0
            try clear hfz31_1
            try clear hfz31_2
            try clear hfz33_0
            try clear hfz33_1
            try clear hfz33_2
            try clear hfz40_0
            try clear hfz40_1
            try clear hfz40_2
            try clear hfz47_0
            try clear hfz47_1
            try clear hfz47_2
            try clear hfz50_0
            try clear hfz50_1
            try clear hfz50_2
            try clear hfz55_0
            try clear hfz55_1
            try clear hfz55_2
            try clear hfz58_0
            try clear hfz58_1
            try clear hfz58_2
            try clear hfz6_0
            try clear hfz6_1
            try clear hfz6_2
            try clear hfz73_0
            try clear hfz73_1
            try clear hfz73_2
            try clear hfz81_0
            try clear hfz81_1
            try clear hfz81_2
            try clear hfz84_0
            try clear hfz84_1
            try clear hfz84_2
            try clear hfz89_0
            try clear hfz89_1
            try clear hfz89_2
            try clear hfz92_0
            try clear hfz92_1
            try clear hfz92_2
            try clear p2
            obtain ⟨kq, x92_100, rfl, HA, HJ100, HO_250000, HO_256000, HO_263000, HO_288000, BK236, BK249, BK255, BK262, BK287, HB⟩ := hcut
            have hl263000_100 := (Kd.R_reads' HO_263000.out).1
            rw [hl263000_100] at HO_263000
            (try simp only [hl263000_100])
            (try simp only [hl263000_100] at BK236)
            (try simp only [hl263000_100] at BK249)
            (try simp only [hl263000_100] at BK255)
            (try simp only [hl263000_100] at BK262)
            (try simp only [hl263000_100] at BK287)
            (try simp only [hl263000_100] at HO_250000)
            (try simp only [hl263000_100] at HO_256000)
            (try simp only [hl263000_100] at HO_288000)
            cases kq with
            | zero => exact absurd HA.out (by simp [laws_FnExactGrowRing.j2])
            | succ kj100 =>
             have H := HA.out
             clear HA
             simp only [laws_FnExactGrowRing.j2] at H
             by_cases c145 : x92_100 = true
             ·
              subst c145
              have H1 : (some false) = some r := by rw [if_pos rfl] at H; exact H
              clear H
              have H := H1
              clear H1
              exact absurd ((Option.some.inj H).trans hT.out) (by decide)
             ·
              replace c145 := Bool.eq_false_iff.mpr c145
              subst c145
              have H1 : ((laws_heldRing.f kj100 t274 t259 t260 1).bind fun t289 => (if t289 < 0 then (some false) else (if t289 = t273 then (some true) else (some false)))) = some r := by rw [if_neg (show ¬ (false = true) by decide)] at H; exact H
              clear H
              have H := H1
              clear H1
              replace H := Option.bind_eq_some_iff.mp H
              obtain ⟨t289, A1460, H⟩ := H
              replace H : (if t289 < 0 then (some false) else (if t289 = t273 then (some true) else (some false))) = some r := H
              have A146 := Aside0.mk A1460
              clear A1460
              by_cases c147 : t289 < 0
              ·
               rw [if_pos c147] at H
               have c147b0 : decide (t289 < 0) = true := decide_eq_true c147
               clear c147
               exact absurd ((Option.some.inj H).trans hT.out) (by decide)
              ·
               rw [if_neg c147] at H
               have c147b0 : decide (t289 < 0) = false := decide_eq_false c147
               clear c147
               by_cases c148 : t289 = t273
               ·
                rw [if_pos c148] at H
                have c148b0 : (t289 == t273) = true := beq_iff_eq.mpr c148
                have c148b1 : (t289 != t273) = false := bne_eq_false_iff_eq.mpr c148
                clear c148
                obtain rfl := Option.some.inj H
                have hnb149 := NB262_236.out
                have hnc149 := NB236_262.out
                have hnb150 := NB262_249.out
                have hnc150 := NB249_262.out
                have hnb151 := NB262_255.out
                have hnc151 := NB255_262.out
                have hnb152 := NB262_287.out
                have hnc152 := NB287_262.out
                have hcz153_0 := cb_ BK262.out 0 rfl
                have hcz153_1 := cb_ BK262.out 1 rfl
                have hcz153_2 := cb_ BK262.out 2 rfl
                have hfz153_0 := blk_frozen BK262.out 0
                have hfz153_1 := blk_frozen BK262.out 1
                have hfz153_2 := blk_frozen BK262.out 2
                go_wp2_with (first | ((with_reducible refine gate_callee (f := 52) rfl ?_); refine goesL_ (some 95) rfl rfl Try.func52 (by kernel_rfl) rfl #[.agg #[.slice Ao36 t274.length co36, .int .i64 t259, .int .i64 t260], .int .i64 1] rfl ul_ ?_; (with_reducible refine (laws_heldRing.calls kj100 _ _ t274 t259 t260 1 t289 _ ?side1 ?side2 A146.out).mono ?_); (case side1 => repeat (first | exact (Kd.R_reads' HO_263000.out).2.2 | (with_reducible refine Kd.C_alloc ?_ _) | (with_reducible refine Kd.C_drewN ?_ _) | (with_reducible refine Kd.C_drew ?_))); (case side2 => exact (Kd.R_reads' HO_263000.out).2.1); rintro e w154 ⟨rfl, hb⟩; refine ⟨_, rfl, ?_⟩; have n0_ := am_ (Kd.R_below (ur_ HO_250000.out) hb); have n1_ := am_ (Kd.R_below (ur_ HO_256000.out) hb); have n2_ := am_ (Kd.R_below (ur_ HO_263000.out) hb); have n3_ := am_ (Kd.R_below (ur_ HO_288000.out) hb); have n4_ := am_ (bb_ BK236.out hb); have n5_ := am_ (bb_ BK249.out hb); have n6_ := am_ (bb_ BK255.out hb); have n7_ := am_ (bb_ BK262.out hb); have n8_ := am_ (bb_ BK287.out hb); have n9_ := am_ (below_step (ue_ HB.out) hb); clear HO_250000 HO_256000 HO_263000 HO_288000 BK236 BK249 BK255 BK262 BK287 HB; have HO_250000 := n0_; have HO_256000 := n1_; have HO_263000 := n2_; have HO_288000 := n3_; have BK236 := n4_; have BK249 := n5_; have BK255 := n6_; have BK262 := n7_; have BK287 := n8_; have HB := n9_; clear n0_ n1_ n2_ n3_ n4_ n5_ n6_ n7_ n8_ n9_; (try clear hb); (try clear hb2); (try clear hk); (try clear hi)))
                go_ret
                exact ⟨ew_, ue_ HB.out⟩
               ·
                rw [if_neg c148] at H
                have c148b0 : (t289 == t273) = false := beq_eq_false_iff_ne.mpr c148
                have c148b1 : (t289 != t273) = true := bne_iff_ne.mpr c148
                exact absurd ((Option.some.inj H).trans hT.out) (by decide)
          ·
           rw [if_neg c98] at H
           have c98b0 : (t275 == t273) = false := beq_eq_false_iff_ne.mpr c98
           have c98b1 : (t275 != t273) = true := bne_iff_ne.mpr c98
           exact absurd ((Option.some.inj H).trans hT.out) (by decide)
     ·
      replace c63 := Bool.eq_false_iff.mpr c63
      subst c63
      have H1 : (some false) = some r := by rw [if_neg (show ¬ (false = true) by decide)] at H; exact H
      clear H
      have H := H1
      clear H1
      exact absurd ((Option.some.inj H).trans hT.out) (by decide)

end Go.Proofs.Ytoeiadanmfajoaa.QFnExactGrowRing
