/- The machine side of a law: Lean functions with the Go functions' answers and the walks that show it. No condition. -/
import Derived.Test.YtcflalomjehiiaaQFnExactAllFramesx0
import Derived.Test.YtcflalomjehiiaaQFnExactAllFramesx2
import Derived.Test.YtcflalomjehiiaaQFnExactAllFramesx6
import Derived.Test.YtcflalomjehiiaaQFnExactAllFramesx9
import Derived.Test.YtcflalomjehiiaaQFnExactAllFramesx10
namespace Go.Proofs.Ytcflalomjehiiaa.QFnExactAllFrames
open Go.RowKit Go.Proofs.YtcflalomjehiiaaW.PrintWords Go.Proofs.YtcflalomjehiiaaW.PrintLast Go.Proofs.YtcflalomjehiiaaW.PrintMore
attribute [local go_sem] max2_int min2_int max_two min_two max_three min_three max_four min_four   -- for this text's walks alone
set_option linter.unusedVariables false
set_option linter.unusedSimpArgs false

/-! ### laws_FnExactAllFrames: function 12 -/
mutual
def laws_FnExactAllFrames.j0 : Nat → List Int → List (S61) → Int → Bool → List Int → List (S61) → Int → Bool → Bool → Option (Bool)
 | 0, _, _, _, _, _, _, _, _, _ => none
 | k + 1, x0, x3, x4, x5, x6, x7, x8, x9, x47 => if x47 = true then (some false) else ((laws_toByteS.f k x0).bind fun t379 => ((laws_eqByteS.f k x6 t379).bind fun t382 => (if t382 = true then ((laws_markByteS.f k x6 1).bind fun bt383 => (if bt383.1 < 0 then (laws_FnExactAllFrames.j1 k x0 x3 x4 x5 x7 true) else ((laws_eqFrameS.f k x7 x3).bind fun t385 => (if t385 = true then (if x8 = x4 then (laws_FnExactAllFrames.j1 k x0 x3 x4 x5 x7 (x9 != x5)) else (laws_FnExactAllFrames.j1 k x0 x3 x4 x5 x7 true)) else (laws_FnExactAllFrames.j1 k x0 x3 x4 x5 x7 true))))) else (some false))))
def laws_FnExactAllFrames.j1 : Nat → List Int → List (S61) → Int → Bool → List (S61) → Bool → Option (Bool)
 | 0, _, _, _, _, _, _ => none
 | k + 1, x0, x3, x4, x5, x7, x73 => if x73 = true then (some false) else ((laws_markFrameS.f k x7 1).bind fun bt386 => ((laws_heldFrameS.f k bt386.2 1).bind fun t388 => (if t388 < 0 then (some false) else (if t388 = bt386.1 then ((laws_toByteS.f k x0).bind fun t389 => ((impl_AllFrames.f k t389).bind fun bt392 => ((laws_eqFrameS.f k bt392.1 x3).bind fun t397 => (if t397 = true then (if bt392.2.1 = x4 then (laws_FnExactAllFrames.j2 k bt386.2 bt386.1 (bt392.2.2 != x5)) else (laws_FnExactAllFrames.j2 k bt386.2 bt386.1 true)) else (laws_FnExactAllFrames.j2 k bt386.2 bt386.1 true))))) else (some false)))))
def laws_FnExactAllFrames.j2 : Nat → List (S61) → Int → Bool → Option (Bool)
 | 0, _, _, _ => none
 | k + 1, x7, x11, x105 => if x105 = true then (some false) else ((laws_heldFrameS.f k x7 1).bind fun t398 => (if t398 < 0 then (some false) else (if t398 = x11 then (some true) else (some false))))
end
def laws_FnExactAllFrames.f (k : Nat) (l0 : List Int) : Option (Bool) := if (l0.length : Int) > 1048576 then (some true) else ((laws_toByteS.f k l0).bind fun t362 => ((spec_AllFrames.f k t362).bind fun bt365 => ((laws_toByteS.f k l0).bind fun t370 => ((impl_AllFrames.f k t370).bind fun bt373 => ((laws_eqFrameS.f k bt373.1 bt365.1).bind fun t378 => (if t378 = true then (if bt373.2.1 = bt365.2.1 then (laws_FnExactAllFrames.j0 k l0 bt365.1 bt365.2.1 bt365.2.2 t370 bt373.1 bt373.2.1 bt373.2.2 (bt373.2.2 != bt365.2.2)) else (laws_FnExactAllFrames.j0 k l0 bt365.1 bt365.2.1 bt365.2.2 t370 bt373.1 bt373.2.1 bt373.2.2 true)) else (laws_FnExactAllFrames.j0 k l0 bt365.1 bt365.2.1 bt365.2.2 t370 bt373.1 bt373.2.1 bt373.2.2 true)))))))
theorem laws_FnExactAllFrames.mono_l : ∀ k, (∀ y0 y1 y2 y3 y4 y5 y6 y7 y8, LeO (laws_FnExactAllFrames.j0 k y0 y1 y2 y3 y4 y5 y6 y7 y8) (laws_FnExactAllFrames.j0 (k + 1) y0 y1 y2 y3 y4 y5 y6 y7 y8)) ∧ (∀ y0 y1 y2 y3 y4 y5, LeO (laws_FnExactAllFrames.j1 k y0 y1 y2 y3 y4 y5) (laws_FnExactAllFrames.j1 (k + 1) y0 y1 y2 y3 y4 y5)) ∧ (∀ y0 y1 y2, LeO (laws_FnExactAllFrames.j2 k y0 y1 y2) (laws_FnExactAllFrames.j2 (k + 1) y0 y1 y2))
 | 0 => ⟨fun _ _ _ _ _ _ _ _ _ r h => by simp [laws_FnExactAllFrames.j0] at h, fun _ _ _ _ _ _ r h => by simp [laws_FnExactAllFrames.j1] at h, fun _ _ _ r h => by simp [laws_FnExactAllFrames.j2] at h⟩
 | k + 1 => by
  obtain ⟨ih0, ih1, ih2⟩ := laws_FnExactAllFrames.mono_l k
  refine ⟨?_, ?_, ?_⟩
  ·
   intro y0 y1 y2 y3 y4 y5 y6 y7 y8
   unfold laws_FnExactAllFrames.j0
   repeat' first
   | (with_reducible exact ih0 _ _ _ _ _ _ _ _ _)
   | (with_reducible exact ih1 _ _ _ _ _ _)
   | (with_reducible exact ih2 _ _ _)
   | (with_reducible exact impl_AllFrames.mono _ _)
   | (with_reducible exact laws_eqByteS.mono _ _ _)
   | (with_reducible exact laws_eqFrameS.mono _ _ _)
   | (with_reducible exact laws_heldFrameS.mono _ _ _)
   | (with_reducible exact laws_markByteS.mono _ _ _)
   | (with_reducible exact laws_markFrameS.mono _ _ _)
   | (with_reducible exact laws_toByteS.mono _ _)
   | (with_reducible exact spec_AllFrames.mono _ _)
   | (with_reducible exact LeO.refl _)
   | (with_reducible exact LeO.none _)
   | (with_reducible refine LeO.ite ?_ ?_)
   | (with_reducible refine LeO.bind ?_ (fun _ => ?_))
   | exact ih0 _ _ _ _ _ _ _ _ _
   | exact ih1 _ _ _ _ _ _
   | exact ih2 _ _ _
   | exact impl_AllFrames.mono _ _
   | exact laws_eqByteS.mono _ _ _
   | exact laws_eqFrameS.mono _ _ _
   | exact laws_heldFrameS.mono _ _ _
   | exact laws_markByteS.mono _ _ _
   | exact laws_markFrameS.mono _ _ _
   | exact laws_toByteS.mono _ _
   | exact spec_AllFrames.mono _ _
   | exact LeO.none _
   | refine LeO.ite ?_ ?_
   | refine LeO.bind ?_ (fun _ => ?_)
  ·
   intro y0 y1 y2 y3 y4 y5
   unfold laws_FnExactAllFrames.j1
   repeat' first
   | (with_reducible exact ih0 _ _ _ _ _ _ _ _ _)
   | (with_reducible exact ih1 _ _ _ _ _ _)
   | (with_reducible exact ih2 _ _ _)
   | (with_reducible exact impl_AllFrames.mono _ _)
   | (with_reducible exact laws_eqByteS.mono _ _ _)
   | (with_reducible exact laws_eqFrameS.mono _ _ _)
   | (with_reducible exact laws_heldFrameS.mono _ _ _)
   | (with_reducible exact laws_markByteS.mono _ _ _)
   | (with_reducible exact laws_markFrameS.mono _ _ _)
   | (with_reducible exact laws_toByteS.mono _ _)
   | (with_reducible exact spec_AllFrames.mono _ _)
   | (with_reducible exact LeO.refl _)
   | (with_reducible exact LeO.none _)
   | (with_reducible refine LeO.ite ?_ ?_)
   | (with_reducible refine LeO.bind ?_ (fun _ => ?_))
   | exact ih0 _ _ _ _ _ _ _ _ _
   | exact ih1 _ _ _ _ _ _
   | exact ih2 _ _ _
   | exact impl_AllFrames.mono _ _
   | exact laws_eqByteS.mono _ _ _
   | exact laws_eqFrameS.mono _ _ _
   | exact laws_heldFrameS.mono _ _ _
   | exact laws_markByteS.mono _ _ _
   | exact laws_markFrameS.mono _ _ _
   | exact laws_toByteS.mono _ _
   | exact spec_AllFrames.mono _ _
   | exact LeO.none _
   | refine LeO.ite ?_ ?_
   | refine LeO.bind ?_ (fun _ => ?_)
  ·
   intro y0 y1 y2
   unfold laws_FnExactAllFrames.j2
   repeat' first
   | (with_reducible exact ih0 _ _ _ _ _ _ _ _ _)
   | (with_reducible exact ih1 _ _ _ _ _ _)
   | (with_reducible exact ih2 _ _ _)
   | (with_reducible exact impl_AllFrames.mono _ _)
   | (with_reducible exact laws_eqByteS.mono _ _ _)
   | (with_reducible exact laws_eqFrameS.mono _ _ _)
   | (with_reducible exact laws_heldFrameS.mono _ _ _)
   | (with_reducible exact laws_markByteS.mono _ _ _)
   | (with_reducible exact laws_markFrameS.mono _ _ _)
   | (with_reducible exact laws_toByteS.mono _ _)
   | (with_reducible exact spec_AllFrames.mono _ _)
   | (with_reducible exact LeO.refl _)
   | (with_reducible exact LeO.none _)
   | (with_reducible refine LeO.ite ?_ ?_)
   | (with_reducible refine LeO.bind ?_ (fun _ => ?_))
   | exact ih0 _ _ _ _ _ _ _ _ _
   | exact ih1 _ _ _ _ _ _
   | exact ih2 _ _ _
   | exact impl_AllFrames.mono _ _
   | exact laws_eqByteS.mono _ _ _
   | exact laws_eqFrameS.mono _ _ _
   | exact laws_heldFrameS.mono _ _ _
   | exact laws_markByteS.mono _ _ _
   | exact laws_markFrameS.mono _ _ _
   | exact laws_toByteS.mono _ _
   | exact spec_AllFrames.mono _ _
   | exact LeO.none _
   | refine LeO.ite ?_ ?_
   | refine LeO.bind ?_ (fun _ => ?_)
theorem laws_FnExactAllFrames.mono : ∀ a0 k, LeO (laws_FnExactAllFrames.f k a0) (laws_FnExactAllFrames.f (k + 1) a0) := by
 intro a0 k
 obtain ⟨ih0, ih1, ih2⟩ := laws_FnExactAllFrames.mono_l k
 unfold laws_FnExactAllFrames.f
 repeat' first
   | (with_reducible exact ih0 _ _ _ _ _ _ _ _ _)
   | (with_reducible exact ih1 _ _ _ _ _ _)
   | (with_reducible exact ih2 _ _ _)
   | (with_reducible exact impl_AllFrames.mono _ _)
   | (with_reducible exact laws_eqByteS.mono _ _ _)
   | (with_reducible exact laws_eqFrameS.mono _ _ _)
   | (with_reducible exact laws_heldFrameS.mono _ _ _)
   | (with_reducible exact laws_markByteS.mono _ _ _)
   | (with_reducible exact laws_markFrameS.mono _ _ _)
   | (with_reducible exact laws_toByteS.mono _ _)
   | (with_reducible exact spec_AllFrames.mono _ _)
   | (with_reducible exact LeO.refl _)
   | (with_reducible exact LeO.none _)
   | (with_reducible refine LeO.ite ?_ ?_)
   | (with_reducible refine LeO.bind ?_ (fun _ => ?_))
   | exact ih0 _ _ _ _ _ _ _ _ _
   | exact ih1 _ _ _ _ _ _
   | exact ih2 _ _ _
   | exact impl_AllFrames.mono _ _
   | exact laws_eqByteS.mono _ _ _
   | exact laws_eqFrameS.mono _ _ _
   | exact laws_heldFrameS.mono _ _ _
   | exact laws_markByteS.mono _ _ _
   | exact laws_markFrameS.mono _ _ _
   | exact laws_toByteS.mono _ _
   | exact spec_AllFrames.mono _ _
   | exact LeO.none _
   | refine LeO.ite ?_ ?_
   | refine LeO.bind ?_ (fun _ => ?_)
set_option maxHeartbeats 8000000 in
set_option maxRecDepth 100000 in
theorem laws_FnExactAllFrames.calls (k : Nat) (A0 : Option Addr) (c0 : Nat) (l0 : List Int) (r : Bool) (w : World) (hr0 : Kd.C (Kd.int .u8) w A0 l0.length l0) (hc0 : l0.length ≤ c0) (hT : Aside0 (r = true)) (h : laws_FnExactAllFrames.f k l0 = some r) :
  Calls Try.prog 12 #[.slice A0 l0.length c0] w fun e w' => e = .returned (.bool r) ∧ Below w.heap.size w w' := by
 have HR0 := Aside0.mk hr0
 have HC0 := Aside0.mk hc0
 clear hr0 hc0
 have HB := Aside0.mk (Below.refl w.heap.size w)
 have H : (if (l0.length : Int) > 1048576 then (some true) else ((laws_toByteS.f k l0).bind fun t362 => ((spec_AllFrames.f k t362).bind fun bt365 => ((laws_toByteS.f k l0).bind fun t370 => ((impl_AllFrames.f k t370).bind fun bt373 => ((laws_eqFrameS.f k bt373.1 bt365.1).bind fun t378 => (if t378 = true then (if bt373.2.1 = bt365.2.1 then (laws_FnExactAllFrames.j0 k l0 bt365.1 bt365.2.1 bt365.2.2 t370 bt373.1 bt373.2.1 bt373.2.2 (bt373.2.2 != bt365.2.2)) else (laws_FnExactAllFrames.j0 k l0 bt365.1 bt365.2.1 bt365.2.2 t370 bt373.1 bt373.2.1 bt373.2.2 true)) else (laws_FnExactAllFrames.j0 k l0 bt365.1 bt365.2.1 bt365.2.2 t370 bt373.1 bt373.2.1 bt373.2.2 true)))))))) = some r := h
 clear h
 by_cases c2 : (l0.length : Int) > 1048576
 ·
  rw [if_pos c2] at H
  have c2b0 : decide (1048576 < (l0.length : Int)) = true := decide_eq_true c2
  have c2b1 : decide (1048576 < l0.length) = true := decide_eq_true (by omega)
  clear c2
  obtain rfl := Option.some.inj H
  go_enter Try.func12, Try.ntmps12
  go_wp2
  go_ret
  exact ⟨by first | rfl | (simp [errW_none, errW_some] <;> rfl) | (simp [*, errW_none, errW_some] <;> rfl), ue_ HB.out⟩
 ·
  rw [if_neg c2] at H
  have c2b0 : decide (1048576 < (l0.length : Int)) = false := decide_eq_false c2
  have c2b1 : decide (1048576 < l0.length) = false := decide_eq_false (by omega)
  clear c2
  replace H := Option.bind_eq_some_iff.mp H
  obtain ⟨t362, A30, H⟩ := H
  replace H : ((spec_AllFrames.f k t362).bind fun bt365 => ((laws_toByteS.f k l0).bind fun t370 => ((impl_AllFrames.f k t370).bind fun bt373 => ((laws_eqFrameS.f k bt373.1 bt365.1).bind fun t378 => (if t378 = true then (if bt373.2.1 = bt365.2.1 then (laws_FnExactAllFrames.j0 k l0 bt365.1 bt365.2.1 bt365.2.2 t370 bt373.1 bt373.2.1 bt373.2.2 (bt373.2.2 != bt365.2.2)) else (laws_FnExactAllFrames.j0 k l0 bt365.1 bt365.2.1 bt365.2.2 t370 bt373.1 bt373.2.1 bt373.2.2 true)) else (laws_FnExactAllFrames.j0 k l0 bt365.1 bt365.2.1 bt365.2.2 t370 bt373.1 bt373.2.1 bt373.2.2 true)))))) = some r := H
  have A3 := Aside0.mk A30
  clear A30
  replace H := Option.bind_eq_some_iff.mp H
  obtain ⟨⟨t365, t366, t367⟩, A40, H⟩ := H
  replace H : ((laws_toByteS.f k l0).bind fun t370 => ((impl_AllFrames.f k t370).bind fun bt373 => ((laws_eqFrameS.f k bt373.1 t365).bind fun t378 => (if t378 = true then (if bt373.2.1 = t366 then (laws_FnExactAllFrames.j0 k l0 t365 t366 t367 t370 bt373.1 bt373.2.1 bt373.2.2 (bt373.2.2 != t367)) else (laws_FnExactAllFrames.j0 k l0 t365 t366 t367 t370 bt373.1 bt373.2.1 bt373.2.2 true)) else (laws_FnExactAllFrames.j0 k l0 t365 t366 t367 t370 bt373.1 bt373.2.1 bt373.2.2 true))))) = some r := H
  have A4 := Aside0.mk A40
  clear A40
  replace H := Option.bind_eq_some_iff.mp H
  obtain ⟨t370, A50, H⟩ := H
  replace H : ((impl_AllFrames.f k t370).bind fun bt373 => ((laws_eqFrameS.f k bt373.1 t365).bind fun t378 => (if t378 = true then (if bt373.2.1 = t366 then (laws_FnExactAllFrames.j0 k l0 t365 t366 t367 t370 bt373.1 bt373.2.1 bt373.2.2 (bt373.2.2 != t367)) else (laws_FnExactAllFrames.j0 k l0 t365 t366 t367 t370 bt373.1 bt373.2.1 bt373.2.2 true)) else (laws_FnExactAllFrames.j0 k l0 t365 t366 t367 t370 bt373.1 bt373.2.1 bt373.2.2 true)))) = some r := H
  have A5 := Aside0.mk A50
  clear A50
  replace H := Option.bind_eq_some_iff.mp H
  obtain ⟨⟨t373, t374, t375⟩, A60, H⟩ := H
  replace H : ((laws_eqFrameS.f k t373 t365).bind fun t378 => (if t378 = true then (if t374 = t366 then (laws_FnExactAllFrames.j0 k l0 t365 t366 t367 t370 t373 t374 t375 (t375 != t367)) else (laws_FnExactAllFrames.j0 k l0 t365 t366 t367 t370 t373 t374 t375 true)) else (laws_FnExactAllFrames.j0 k l0 t365 t366 t367 t370 t373 t374 t375 true))) = some r := H
  have A6 := Aside0.mk A60
  clear A60
  have HC7 := Aside0.mk H
  clear H
  go_enter Try.func12, Try.ntmps12
  go_upto_region 6 with (first | ((with_reducible refine gate_callee (f := 61) rfl ?_); refine goesL_ (some 21) rfl rfl Try.func61 (by kernel_rfl) rfl #[.slice A0 l0.length c0] rfl ul_ ?_; (with_reducible refine (laws_toByteS.calls k _ _ l0 t362 _ ?side1 ?side2 A3.out).mono ?_); (case side1 => repeat (first | exact HR0.out | (with_reducible refine Kd.C_alloc ?_ _) | (with_reducible refine Kd.C_drewN ?_ _) | (with_reducible refine Kd.C_drew ?_))); (case side2 => exact HC0.out); rintro e w8 ⟨v363, rfl, ho0, hb⟩; refine ⟨_, rfl, ?_⟩; have n0_ := Aside0.mk (Kd.R_lower ho0 (below_size (ue_ HB.out))); have n1_ := Aside0.mk (below_step (ue_ HB.out) hb); clear HB; have HO364 := n0_; have HB := n1_; clear n0_ n1_; (try clear hb); (try clear hb2); (try clear hk); (try clear hi); (try clear ho0); obtain ⟨Ao9, co9, eo9⟩ := Kd.R_slice HO364.out; subst eo9) | ((with_reducible refine gate_callee (f := 69) rfl ?_); refine goesL_ (some 22) rfl rfl Try.func69 (by kernel_rfl) rfl #[.slice Ao9 t362.length co9] rfl ul_ ?_; (with_reducible refine (spec_AllFrames.calls k _ _ t362 t365 t366 t367 _ ?side1 ?side2 A4.out).mono ?_); (case side1 => repeat (first | exact (Kd.R_reads' HO364.out).2.2 | (with_reducible refine Kd.C_alloc ?_ _) | (with_reducible refine Kd.C_drewN ?_ _) | (with_reducible refine Kd.C_drew ?_))); (case side2 => exact (Kd.R_reads' HO364.out).2.1); rintro e w10 ⟨v368, rfl, ho0, hb⟩; refine ⟨_, rfl, ?_⟩; have n0_ := Aside0.mk (Kd.R_below (ur_ HO364.out) hb); have n1_ := Aside0.mk (Kd.R_lower ho0 (below_size (ue_ HB.out))); have n2_ := Aside0.mk (below_step (ue_ HB.out) hb); clear HO364; clear HB; have HO364 := n0_; have HO369 := n1_; have HB := n2_; clear n0_ n1_ n2_; (try clear hb); (try clear hb2); (try clear hk); (try clear hi); (try clear ho0)) | ((with_reducible refine gate_callee (f := 61) rfl ?_); refine goesL_ (some 27) rfl rfl Try.func61 (by kernel_rfl) rfl #[.slice A0 l0.length c0] rfl ul_ ?_; (with_reducible refine (laws_toByteS.calls k _ _ l0 t370 _ ?side1 ?side2 A5.out).mono ?_); (case side1 => repeat (first | exact (Kd.C_below HR0.out HB.out) | (with_reducible refine Kd.C_alloc ?_ _) | (with_reducible refine Kd.C_drewN ?_ _) | (with_reducible refine Kd.C_drew ?_))); (case side2 => exact HC0.out); rintro e w11 ⟨v371, rfl, ho0, hb⟩; refine ⟨_, rfl, ?_⟩; have n0_ := Aside0.mk (Kd.R_elder' (ur_ HO364.out) (Kd.R_base ho0) hb); have n1_ := Aside0.mk (Kd.R_below (ur_ HO369.out) hb); have n2_ := Aside0.mk (Kd.R_lower (Kd.R_new' ho0 (Kd.R_lt (ur_ HO364.out))) (below_size (ue_ HB.out))); have n3_ := Aside0.mk (below_step (ue_ HB.out) hb); clear HO364; clear HO369; clear HB; have HO364 := n0_; have HO369 := n1_; have HO372 := n2_; have HB := n3_; clear n0_ n1_ n2_ n3_; (try clear hb); (try clear hb2); (try clear hk); (try clear hi); (try clear ho0); obtain ⟨Ao12, co12, eo12⟩ := Kd.R_slice HO372.out; subst eo12) | ((with_reducible refine gate_callee (f := 70) rfl ?_); refine goesL_ (some 30) rfl rfl Try.func70 (by kernel_rfl) rfl #[.slice Ao12 t370.length co12] rfl ul_ ?_; (with_reducible refine (impl_AllFrames.calls k _ _ t370 t373 t374 t375 _ ?side1 ?side2 A6.out).mono ?_); (case side1 => repeat (first | exact (Kd.R_reads' HO372.out).2.2 | (with_reducible refine Kd.C_alloc ?_ _) | (with_reducible refine Kd.C_drewN ?_ _) | (with_reducible refine Kd.C_drew ?_))); (case side2 => exact (Kd.R_reads' HO372.out).2.1); rintro e w13 ⟨v376, rfl, ho0, hb⟩; refine ⟨_, rfl, ?_⟩; have n0_ := Aside0.mk (Kd.R_below (ur_ HO364.out) hb); have n1_ := Aside0.mk (Kd.R_elder' (ur_ HO369.out) (Kd.R_base ho0) hb); have n2_ := Aside0.mk (Kd.R_below (ur_ HO372.out) hb); have n3_ := Aside0.mk (Kd.R_lower (Kd.R_new' ho0 (Kd.R_lt (ur_ HO369.out))) (below_size (ue_ HB.out))); have n4_ := Aside0.mk (below_step (ue_ HB.out) hb); clear HO364; clear HO369; clear HO372; clear HB; have HO364 := n0_; have HO369 := n1_; have HO372 := n2_; have HO377 := n3_; have HB := n4_; clear n0_ n1_ n2_ n3_ n4_; (try clear hb); (try clear hb2); (try clear hk); (try clear hi); (try clear ho0)))
  (try simp only [Act.put, List.setIfInBounds_toArray, List.set_cons_zero, List.set_cons_succ])
  go_cut [47] (fun v47 wc => ∃ (kq : Nat) (x47_6 : Bool), v47 = .bool x47_6 ∧ Aside0 (laws_FnExactAllFrames.j0 kq l0 t365 t366 t367 t370 t373 t374 t375 x47_6 = some r) ∧ Aside0 (kq ≤ k) ∧ Aside0 (Kd.R k61 61 wc w.heap.size (fun k_ => some k_ ≠ (v376 : Value).ownBlock) v368 t365) ∧ Aside0 (Kd.R (Kd.int .u8) 5 wc w.heap.size (fun _ => True) (.slice Ao12 t370.length co12) t370) ∧ Aside0 (Kd.R k61 61 wc w.heap.size (fun k_ => some k_ ≠ (v368 : Value).ownBlock) v376 t373) ∧ Aside0 (Below w.heap.size w wc))
  case first =>
   have H := HC7.out
   clear HC7
   replace H := Option.bind_eq_some_iff.mp H
   obtain ⟨t378, A140, H⟩ := H
   replace H : (if t378 = true then (if t374 = t366 then (laws_FnExactAllFrames.j0 k l0 t365 t366 t367 t370 t373 t374 t375 (t375 != t367)) else (laws_FnExactAllFrames.j0 k l0 t365 t366 t367 t370 t373 t374 t375 true)) else (laws_FnExactAllFrames.j0 k l0 t365 t366 t367 t370 t373 t374 t375 true)) = some r := H
   have A14 := Aside0.mk A140
   clear A140
   by_cases c15 : t378 = true
   ·
    subst c15
    have H1 : (if t374 = t366 then (laws_FnExactAllFrames.j0 k l0 t365 t366 t367 t370 t373 t374 t375 (t375 != t367)) else (laws_FnExactAllFrames.j0 k l0 t365 t366 t367 t370 t373 t374 t375 true)) = some r := by rw [if_pos rfl] at H; exact H
    clear H
    have H := H1
    clear H1
    by_cases c16 : t374 = t366
    ·
     rw [if_pos c16] at H
     have c16b0 : (t374 == t366) = true := beq_iff_eq.mpr c16
     have c16b1 : (t374 != t366) = false := bne_eq_false_iff_eq.mpr c16
     clear c16
     (first | rw [c16b0] | (simp only [i64_w, i32_w]; rw [c16b0]) | skip)
     have H' := Aside0.mk H
     clear H
     obtain ⟨Ao17, co17, eo17⟩ := Kd.R_slice HO377.out
     subst eo17
     obtain ⟨Ao18, co18, eo18⟩ := Kd.R_slice HO369.out
     subst eo18
     go_wp2_with (first | ((with_reducible refine gate_callee (f := 71) rfl ?_); refine goesL_ (some 36) rfl rfl Try.func71 (by kernel_rfl) rfl #[.slice Ao17 t373.length co17, .slice Ao18 t365.length co18] rfl ul_ ?_; (with_reducible refine (laws_eqFrameS.calls k _ _ t373 _ _ t365 true _ ?side1 ?side2 ?side3 ?side4 A14.out).mono ?_); (case side1 => repeat (first | exact (Kd.R_reads' HO377.out).2.2 | (with_reducible refine Kd.C_alloc ?_ _) | (with_reducible refine Kd.C_drewN ?_ _) | (with_reducible refine Kd.C_drew ?_))); (case side2 => exact (Kd.R_reads' HO377.out).2.1); (case side3 => repeat (first | exact (Kd.R_reads' HO369.out).2.2 | (with_reducible refine Kd.C_alloc ?_ _) | (with_reducible refine Kd.C_drewN ?_ _) | (with_reducible refine Kd.C_drew ?_))); (case side4 => exact (Kd.R_reads' HO369.out).2.1); rintro e w19 ⟨rfl, hb⟩; refine ⟨_, rfl, ?_⟩; have n0_ := Aside0.mk (Kd.R_below (ur_ HO364.out) hb); have n1_ := Aside0.mk (Kd.R_below (ur_ HO369.out) hb); have n2_ := Aside0.mk (Kd.R_below (ur_ HO372.out) hb); have n3_ := Aside0.mk (Kd.R_below (ur_ HO377.out) hb); have n4_ := Aside0.mk (below_step (ue_ HB.out) hb); clear HO364; clear HO369; clear HO372; clear HO377; clear HB; have HO364 := n0_; have HO369 := n1_; have HO372 := n2_; have HO377 := n3_; have HB := n4_; clear n0_ n1_ n2_ n3_ n4_; (try clear hb); (try clear hb2); (try clear hk); (try clear hi)))
     go_meet
     case rel => exact ⟨_, ((t375 != t367)), (by first | rfl | (simp; done) | (simp [*]; done)), H', ⟨by first | omega | exact Nat.le_refl _⟩, ⟨by (with_reducible repeat (first | apply Kd.R_alloc | apply Kd.R_drewN | apply Kd.R_drew)); exact Kd.R_mono HO369.out (fun _ hk => by first | exact hk.2 | grind)⟩, ⟨by (with_reducible repeat (first | apply Kd.R_alloc | apply Kd.R_drewN | apply Kd.R_drew)); exact Kd.R_mono HO372.out (fun _ hk => trivial)⟩, ⟨by (with_reducible repeat (first | apply Kd.R_alloc | apply Kd.R_drewN | apply Kd.R_drew)); exact Kd.R_mono HO377.out (fun _ hk => by first | exact hk.2 | grind)⟩, ⟨ue_ HB.out⟩⟩
    ·
     rw [if_neg c16] at H
     have c16b0 : (t374 == t366) = false := beq_eq_false_iff_ne.mpr c16
     have c16b1 : (t374 != t366) = true := bne_iff_ne.mpr c16
     (first | rw [c16b0] | (simp only [i64_w, i32_w]; rw [c16b0]) | skip)
     have H' := Aside0.mk H
     clear H
     obtain ⟨Ao20, co20, eo20⟩ := Kd.R_slice HO377.out
     subst eo20
     obtain ⟨Ao21, co21, eo21⟩ := Kd.R_slice HO369.out
     subst eo21
     go_wp2_with (first | ((with_reducible refine gate_callee (f := 71) rfl ?_); refine goesL_ (some 36) rfl rfl Try.func71 (by kernel_rfl) rfl #[.slice Ao20 t373.length co20, .slice Ao21 t365.length co21] rfl ul_ ?_; (with_reducible refine (laws_eqFrameS.calls k _ _ t373 _ _ t365 true _ ?side1 ?side2 ?side3 ?side4 A14.out).mono ?_); (case side1 => repeat (first | exact (Kd.R_reads' HO377.out).2.2 | (with_reducible refine Kd.C_alloc ?_ _) | (with_reducible refine Kd.C_drewN ?_ _) | (with_reducible refine Kd.C_drew ?_))); (case side2 => exact (Kd.R_reads' HO377.out).2.1); (case side3 => repeat (first | exact (Kd.R_reads' HO369.out).2.2 | (with_reducible refine Kd.C_alloc ?_ _) | (with_reducible refine Kd.C_drewN ?_ _) | (with_reducible refine Kd.C_drew ?_))); (case side4 => exact (Kd.R_reads' HO369.out).2.1); rintro e w22 ⟨rfl, hb⟩; refine ⟨_, rfl, ?_⟩; have n0_ := Aside0.mk (Kd.R_below (ur_ HO364.out) hb); have n1_ := Aside0.mk (Kd.R_below (ur_ HO369.out) hb); have n2_ := Aside0.mk (Kd.R_below (ur_ HO372.out) hb); have n3_ := Aside0.mk (Kd.R_below (ur_ HO377.out) hb); have n4_ := Aside0.mk (below_step (ue_ HB.out) hb); clear HO364; clear HO369; clear HO372; clear HO377; clear HB; have HO364 := n0_; have HO369 := n1_; have HO372 := n2_; have HO377 := n3_; have HB := n4_; clear n0_ n1_ n2_ n3_ n4_; (try clear hb); (try clear hb2); (try clear hk); (try clear hi)))
     go_meet
     case rel => exact ⟨_, (true), (by first | rfl | (simp; done) | (simp [*]; done)), H', ⟨by first | omega | exact Nat.le_refl _⟩, ⟨by (with_reducible repeat (first | apply Kd.R_alloc | apply Kd.R_drewN | apply Kd.R_drew)); exact Kd.R_mono HO369.out (fun _ hk => by first | exact hk.2 | grind)⟩, ⟨by (with_reducible repeat (first | apply Kd.R_alloc | apply Kd.R_drewN | apply Kd.R_drew)); exact Kd.R_mono HO372.out (fun _ hk => trivial)⟩, ⟨by (with_reducible repeat (first | apply Kd.R_alloc | apply Kd.R_drewN | apply Kd.R_drew)); exact Kd.R_mono HO377.out (fun _ hk => by first | exact hk.2 | grind)⟩, ⟨ue_ HB.out⟩⟩
   ·
    replace c15 := Bool.eq_false_iff.mpr c15
    subst c15
    have H1 : (laws_FnExactAllFrames.j0 k l0 t365 t366 t367 t370 t373 t374 t375 true) = some r := by rw [if_neg (show ¬ (false = true) by decide)] at H; exact H
    clear H
    have H := H1
    clear H1
    have H' := Aside0.mk H
    clear H
    obtain ⟨Ao23, co23, eo23⟩ := Kd.R_slice HO377.out
    subst eo23
    obtain ⟨Ao24, co24, eo24⟩ := Kd.R_slice HO369.out
    subst eo24
    go_wp2_with (first | ((with_reducible refine gate_callee (f := 71) rfl ?_); refine goesL_ (some 36) rfl rfl Try.func71 (by kernel_rfl) rfl #[.slice Ao23 t373.length co23, .slice Ao24 t365.length co24] rfl ul_ ?_; (with_reducible refine (laws_eqFrameS.calls k _ _ t373 _ _ t365 false _ ?side1 ?side2 ?side3 ?side4 A14.out).mono ?_); (case side1 => repeat (first | exact (Kd.R_reads' HO377.out).2.2 | (with_reducible refine Kd.C_alloc ?_ _) | (with_reducible refine Kd.C_drewN ?_ _) | (with_reducible refine Kd.C_drew ?_))); (case side2 => exact (Kd.R_reads' HO377.out).2.1); (case side3 => repeat (first | exact (Kd.R_reads' HO369.out).2.2 | (with_reducible refine Kd.C_alloc ?_ _) | (with_reducible refine Kd.C_drewN ?_ _) | (with_reducible refine Kd.C_drew ?_))); (case side4 => exact (Kd.R_reads' HO369.out).2.1); rintro e w25 ⟨rfl, hb⟩; refine ⟨_, rfl, ?_⟩; have n0_ := Aside0.mk (Kd.R_below (ur_ HO364.out) hb); have n1_ := Aside0.mk (Kd.R_below (ur_ HO369.out) hb); have n2_ := Aside0.mk (Kd.R_below (ur_ HO372.out) hb); have n3_ := Aside0.mk (Kd.R_below (ur_ HO377.out) hb); have n4_ := Aside0.mk (below_step (ue_ HB.out) hb); clear HO364; clear HO369; clear HO372; clear HO377; clear HB; have HO364 := n0_; have HO369 := n1_; have HO372 := n2_; have HO377 := n3_; have HB := n4_; clear n0_ n1_ n2_ n3_ n4_; (try clear hb); (try clear hb2); (try clear hk); (try clear hi)))
    go_meet
    case rel => exact ⟨_, (true), (by first | rfl | (simp; done) | (simp [*]; done)), H', ⟨by first | omega | exact Nat.le_refl _⟩, ⟨by (with_reducible repeat (first | apply Kd.R_alloc | apply Kd.R_drewN | apply Kd.R_drew)); exact Kd.R_mono HO369.out (fun _ hk => by first | exact hk.2 | grind)⟩, ⟨by (with_reducible repeat (first | apply Kd.R_alloc | apply Kd.R_drewN | apply Kd.R_drew)); exact Kd.R_mono HO372.out (fun _ hk => trivial)⟩, ⟨by (with_reducible repeat (first | apply Kd.R_alloc | apply Kd.R_drewN | apply Kd.R_drew)); exact Kd.R_mono HO377.out (fun _ hk => by first | exact hk.2 | grind)⟩, ⟨ue_ HB.out⟩⟩
  case rest =>
   clear HC7
   try clear c1
   try clear c2
   try clear c2b0
   try clear c2b1
   try clear p2
   try clear c6
   try clear c7
   try clear c12
   try clear c15
   try clear c16
   try clear c16b0
   try clear c16b1
   obtain ⟨kq, x47_6, rfl, HA, HJ6, HO_3, HO_6, HO_7, HB⟩ := hcut
   cases kq with
   | zero => exact absurd HA.out (by simp [laws_FnExactAllFrames.j0])
   | succ kj6 =>
    have H := HA.out
    clear HA
    simp only [laws_FnExactAllFrames.j0] at H
    by_cases c26 : x47_6 = true
    ·
     subst c26
     have H1 : (some false) = some r := by rw [if_pos rfl] at H; exact H
     clear H
     have H := H1
     clear H1
     exact absurd ((Option.some.inj H).trans hT.out) (by decide)
    ·
     replace c26 := Bool.eq_false_iff.mpr c26
     subst c26
     have H1 : ((laws_toByteS.f kj6 l0).bind fun t379 => ((laws_eqByteS.f kj6 t370 t379).bind fun t382 => (if t382 = true then ((laws_markByteS.f kj6 t370 1).bind fun bt383 => (if bt383.1 < 0 then (laws_FnExactAllFrames.j1 kj6 l0 t365 t366 t367 t373 true) else ((laws_eqFrameS.f kj6 t373 t365).bind fun t385 => (if t385 = true then (if t374 = t366 then (laws_FnExactAllFrames.j1 kj6 l0 t365 t366 t367 t373 (t375 != t367)) else (laws_FnExactAllFrames.j1 kj6 l0 t365 t366 t367 t373 true)) else (laws_FnExactAllFrames.j1 kj6 l0 t365 t366 t367 t373 true))))) else (some false)))) = some r := by rw [if_neg (show ¬ (false = true) by decide)] at H; exact H
     clear H
     have H := H1
     clear H1
     replace H := Option.bind_eq_some_iff.mp H
     obtain ⟨t379, A270, H⟩ := H
     replace H : ((laws_eqByteS.f kj6 t370 t379).bind fun t382 => (if t382 = true then ((laws_markByteS.f kj6 t370 1).bind fun bt383 => (if bt383.1 < 0 then (laws_FnExactAllFrames.j1 kj6 l0 t365 t366 t367 t373 true) else ((laws_eqFrameS.f kj6 t373 t365).bind fun t385 => (if t385 = true then (if t374 = t366 then (laws_FnExactAllFrames.j1 kj6 l0 t365 t366 t367 t373 (t375 != t367)) else (laws_FnExactAllFrames.j1 kj6 l0 t365 t366 t367 t373 true)) else (laws_FnExactAllFrames.j1 kj6 l0 t365 t366 t367 t373 true))))) else (some false))) = some r := H
     have A27 := Aside0.mk A270
     clear A270
     replace H := Option.bind_eq_some_iff.mp H
     obtain ⟨t382, A280, H⟩ := H
     replace H : (if t382 = true then ((laws_markByteS.f kj6 t370 1).bind fun bt383 => (if bt383.1 < 0 then (laws_FnExactAllFrames.j1 kj6 l0 t365 t366 t367 t373 true) else ((laws_eqFrameS.f kj6 t373 t365).bind fun t385 => (if t385 = true then (if t374 = t366 then (laws_FnExactAllFrames.j1 kj6 l0 t365 t366 t367 t373 (t375 != t367)) else (laws_FnExactAllFrames.j1 kj6 l0 t365 t366 t367 t373 true)) else (laws_FnExactAllFrames.j1 kj6 l0 t365 t366 t367 t373 true))))) else (some false)) = some r := H
     have A28 := Aside0.mk A280
     clear A280
     by_cases c29 : t382 = true
     ·
      subst c29
      have H1 : ((laws_markByteS.f kj6 t370 1).bind fun bt383 => (if bt383.1 < 0 then (laws_FnExactAllFrames.j1 kj6 l0 t365 t366 t367 t373 true) else ((laws_eqFrameS.f kj6 t373 t365).bind fun t385 => (if t385 = true then (if t374 = t366 then (laws_FnExactAllFrames.j1 kj6 l0 t365 t366 t367 t373 (t375 != t367)) else (laws_FnExactAllFrames.j1 kj6 l0 t365 t366 t367 t373 true)) else (laws_FnExactAllFrames.j1 kj6 l0 t365 t366 t367 t373 true))))) = some r := by rw [if_pos rfl] at H; exact H
      clear H
      have H := H1
      clear H1
      replace H := Option.bind_eq_some_iff.mp H
      obtain ⟨⟨t383, t384⟩, A300, H⟩ := H
      replace H : (if t383 < 0 then (laws_FnExactAllFrames.j1 kj6 l0 t365 t366 t367 t373 true) else ((laws_eqFrameS.f kj6 t373 t365).bind fun t385 => (if t385 = true then (if t374 = t366 then (laws_FnExactAllFrames.j1 kj6 l0 t365 t366 t367 t373 (t375 != t367)) else (laws_FnExactAllFrames.j1 kj6 l0 t365 t366 t367 t373 true)) else (laws_FnExactAllFrames.j1 kj6 l0 t365 t366 t367 t373 true)))) = some r := H
      have A30 := Aside0.mk A300
      clear A300
      have HC31 := Aside0.mk H
      clear H
      go_upto_region 12 with (first | ((with_reducible refine gate_callee (f := 61) rfl ?_); refine goesL_ (some 50) rfl rfl Try.func61 (by kernel_rfl) rfl #[.slice A0 l0.length c0] rfl ul_ ?_; (with_reducible refine (laws_toByteS.calls kj6 _ _ l0 t379 _ ?side1 ?side2 A27.out).mono ?_); (case side1 => repeat (first | exact (Kd.C_below HR0.out HB.out) | (with_reducible refine Kd.C_alloc ?_ _) | (with_reducible refine Kd.C_drewN ?_ _) | (with_reducible refine Kd.C_drew ?_))); (case side2 => exact HC0.out); rintro e w32 ⟨v380, rfl, ho0, hb⟩; refine ⟨_, rfl, ?_⟩; have n0_ := Aside0.mk (Kd.R_below (ur_ HO_3.out) hb); have n1_ := Aside0.mk (Kd.R_elder' (ur_ HO_6.out) (Kd.R_base ho0) hb); have n2_ := Aside0.mk (Kd.R_below (ur_ HO_7.out) hb); have n3_ := Aside0.mk (Kd.R_lower (Kd.R_new' ho0 (Kd.R_lt (ur_ HO_6.out))) (below_size (ue_ HB.out))); have n4_ := Aside0.mk (below_step (ue_ HB.out) hb); clear HO_3; clear HO_6; clear HO_7; clear HB; have HO_3 := n0_; have HO_6 := n1_; have HO_7 := n2_; have HO381 := n3_; have HB := n4_; clear n0_ n1_ n2_ n3_ n4_; (try clear hb); (try clear hb2); (try clear hk); (try clear hi); (try clear ho0); obtain ⟨Ao33, co33, eo33⟩ := Kd.R_slice HO381.out; subst eo33) | ((with_reducible refine gate_callee (f := 63) rfl ?_); refine goesL_ (some 51) rfl rfl Try.func63 (by kernel_rfl) rfl #[.slice Ao12 t370.length co12, .slice Ao33 t379.length co33] rfl ul_ ?_; (with_reducible refine (laws_eqByteS.calls kj6 _ _ t370 _ _ t379 true _ ?side1 ?side2 ?side3 ?side4 A28.out).mono ?_); (case side1 => repeat (first | exact (Kd.R_reads' HO_6.out).2.2 | (with_reducible refine Kd.C_alloc ?_ _) | (with_reducible refine Kd.C_drewN ?_ _) | (with_reducible refine Kd.C_drew ?_))); (case side2 => exact (Kd.R_reads' HO_6.out).2.1); (case side3 => repeat (first | exact (Kd.R_reads' HO381.out).2.2 | (with_reducible refine Kd.C_alloc ?_ _) | (with_reducible refine Kd.C_drewN ?_ _) | (with_reducible refine Kd.C_drew ?_))); (case side4 => exact (Kd.R_reads' HO381.out).2.1); rintro e w' ⟨rfl, ⟨nd, rfl⟩⟩; refine ⟨_, rfl, ?_⟩) | ((with_reducible refine gate_callee (f := 72) rfl ?_); refine goesL_ (some 55) rfl rfl Try.func72 (by kernel_rfl) rfl #[.slice Ao12 t370.length co12, .int .i64 1] rfl ul_ ?_; (with_reducible refine (laws_markByteS.calls kj6 (fun k_ => some k_ = (.slice Ao12 t370.length co12 : Value).ownBlock) (.slice Ao12 t370.length co12) t370 1 t383 t384 w _ ?side1 ?side2 A30.out).mono ?_); (case side1 => repeat (first | (with_reducible first | exact HB.out | apply below_alloc | apply pw_below_drewN | apply below_drew1) | exact HB.out)); (case side2 => exact Kd.R_tight rfl HO_6.out); rintro e w34 ⟨rfl, hy0, hb, hkp⟩; refine ⟨_, rfl, ?_⟩; have n0_ := Aside0.mk (Kd.R_mono (ok' := fun k_ => some k_ ≠ (v376 : Value).ownBlock) (Kd.R_keptB ((Kd.R_apart' HO_3.out (Kd.R_typed HO_6.out) (by decide))) hkp (fun k_ hk_ hs_ => by first | exact (hk_.2) hs_ | grind)) (fun k_ hk_ => hk_.1.1)); have n1_ := Aside0.mk (Kd.R_reok rfl hy0 (fun k_ e_ => HO_6.out.1 k_ e_)); have n2_ := Aside0.mk (Kd.R_mono (ok' := fun k_ => some k_ ≠ (v368 : Value).ownBlock) (Kd.R_keptB ((Kd.R_apart' HO_7.out (Kd.R_typed HO_6.out) (by decide))) hkp (fun k_ hk_ hs_ => by first | exact (hk_.2) hs_ | grind)) (fun k_ hk_ => hk_.1.1)); have n3_ := Aside0.mk (Kd.R_mono (ok' := fun k_ => some k_ ≠ (.slice Ao12 t370.length co12 : Value).ownBlock) (Kd.R_keptB (HO381.out) hkp (fun k_ hk_ hs_ => by first | exact (hk_.2) hs_ | grind)) (fun k_ hk_ => hk_.1.2)); have n4_ := Aside0.mk (hb); clear HO_3; clear HO_6; clear HO_7; clear HO381; clear HB; have HO_3 := n0_; have HO_6 := n1_; have HO_7 := n2_; have HO381 := n3_; have HB := n4_; clear n0_ n1_ n2_ n3_ n4_; (try clear hb); (try clear hkp); (try clear hy0)))
      (try simp only [Act.put, List.setIfInBounds_toArray, List.set_cons_zero, List.set_cons_succ])
      go_cut [73] (fun v73 wc => ∃ (kq : Nat) (x73_30 : Bool), v73 = .bool x73_30 ∧ Aside0 (laws_FnExactAllFrames.j1 kq l0 t365 t366 t367 t373 x73_30 = some r) ∧ Aside0 (kq ≤ kj6) ∧ Aside0 (Kd.R k61 61 wc w.heap.size (fun k_ => some k_ ≠ (v376 : Value).ownBlock) v368 t365) ∧ Aside0 (Kd.R k61 61 wc w.heap.size (fun k_ => some k_ ≠ (v368 : Value).ownBlock) v376 t373) ∧ Aside0 (Below w.heap.size w wc))
      case first =>
       have H := HC31.out
       clear HC31
       by_cases c35 : t383 < 0
       ·
        rw [if_pos c35] at H
        have c35b0 : decide (t383 < 0) = true := decide_eq_true c35
        clear c35
        (first | rw [c35b0] | (simp only [i64_w, i32_w]; rw [c35b0]) | skip)
        have H' := Aside0.mk H
        clear H
        go_wp2
        go_meet
        case rel => exact ⟨_, (true), (by first | rfl | (simp; done) | (simp [*]; done)), H', ⟨by have := HJ6.out; first | omega | exact Nat.le_refl _⟩, ⟨by (with_reducible repeat (first | apply Kd.R_alloc | apply Kd.R_drewN | apply Kd.R_drew)); exact HO_3.out⟩, ⟨by (with_reducible repeat (first | apply Kd.R_alloc | apply Kd.R_drewN | apply Kd.R_drew)); exact HO_7.out⟩, ⟨ue_ HB.out⟩⟩
       ·
        rw [if_neg c35] at H
        have c35b0 : decide (t383 < 0) = false := decide_eq_false c35
        clear c35
        (first | rw [c35b0] | (simp only [i64_w, i32_w]; rw [c35b0]) | skip)
        replace H := Option.bind_eq_some_iff.mp H
        obtain ⟨t385, A360, H⟩ := H
        replace H : (if t385 = true then (if t374 = t366 then (laws_FnExactAllFrames.j1 kj6 l0 t365 t366 t367 t373 (t375 != t367)) else (laws_FnExactAllFrames.j1 kj6 l0 t365 t366 t367 t373 true)) else (laws_FnExactAllFrames.j1 kj6 l0 t365 t366 t367 t373 true)) = some r := H
        have A36 := Aside0.mk A360
        clear A360
        by_cases c37 : t385 = true
        ·
         subst c37
         have H1 : (if t374 = t366 then (laws_FnExactAllFrames.j1 kj6 l0 t365 t366 t367 t373 (t375 != t367)) else (laws_FnExactAllFrames.j1 kj6 l0 t365 t366 t367 t373 true)) = some r := by rw [if_pos rfl] at H; exact H
         clear H
         have H := H1
         clear H1
         by_cases c38 : t374 = t366
         ·
          rw [if_pos c38] at H
          have c38b0 : (t374 == t366) = true := beq_iff_eq.mpr c38
          have c38b1 : (t374 != t366) = false := bne_eq_false_iff_eq.mpr c38
          clear c38
          have H' := Aside0.mk H
          clear H
          obtain ⟨Ao39, co39, eo39⟩ := Kd.R_slice HO_7.out
          subst eo39
          obtain ⟨Ao40, co40, eo40⟩ := Kd.R_slice HO_3.out
          subst eo40
          go_wp2_with (first | (go_at_call 71; (with_reducible refine (laws_eqFrameS.calls kj6 _ _ t373 _ _ t365 true _ ?side1 ?side2 ?side3 ?side4 A36.out).mono ?_); (case side1 => repeat (first | exact (Kd.R_reads' HO_7.out).2.2 | (with_reducible refine Kd.C_alloc ?_ _) | (with_reducible refine Kd.C_drewN ?_ _) | (with_reducible refine Kd.C_drew ?_))); (case side2 => exact (Kd.R_reads' HO_7.out).2.1); (case side3 => repeat (first | exact (Kd.R_reads' HO_3.out).2.2 | (with_reducible refine Kd.C_alloc ?_ _) | (with_reducible refine Kd.C_drewN ?_ _) | (with_reducible refine Kd.C_drew ?_))); (case side4 => exact (Kd.R_reads' HO_3.out).2.1); rintro e w41 ⟨rfl, hb⟩; have n0_ := Aside0.mk (Kd.R_below (ur_ HO_3.out) hb); have n1_ := Aside0.mk (Kd.R_below (ur_ HO_6.out) hb); have n2_ := Aside0.mk (Kd.R_below (ur_ HO_7.out) hb); have n3_ := Aside0.mk (Kd.R_below (ur_ HO381.out) hb); have n4_ := Aside0.mk (below_step (ue_ HB.out) hb); clear HO_3; clear HO_6; clear HO_7; clear HO381; clear HB; have HO_3 := n0_; have HO_6 := n1_; have HO_7 := n2_; have HO381 := n3_; have HB := n4_; clear n0_ n1_ n2_ n3_ n4_; (try clear hb); (try clear hb2); (try clear hk); (try clear hi)))
          go_meet
          case rel => exact ⟨_, ((t375 != t367)), (by first | rfl | (simp; done) | (simp [*]; done)), H', ⟨by have := HJ6.out; first | omega | exact Nat.le_refl _⟩, ⟨by (with_reducible repeat (first | apply Kd.R_alloc | apply Kd.R_drewN | apply Kd.R_drew)); exact HO_3.out⟩, ⟨by (with_reducible repeat (first | apply Kd.R_alloc | apply Kd.R_drewN | apply Kd.R_drew)); exact HO_7.out⟩, ⟨ue_ HB.out⟩⟩
         ·
          rw [if_neg c38] at H
          have c38b0 : (t374 == t366) = false := beq_eq_false_iff_ne.mpr c38
          have c38b1 : (t374 != t366) = true := bne_iff_ne.mpr c38
          have H' := Aside0.mk H
          clear H
          obtain ⟨Ao42, co42, eo42⟩ := Kd.R_slice HO_7.out
          subst eo42
          obtain ⟨Ao43, co43, eo43⟩ := Kd.R_slice HO_3.out
          subst eo43
          go_wp2_with (first | (go_at_call 71; (with_reducible refine (laws_eqFrameS.calls kj6 _ _ t373 _ _ t365 true _ ?side1 ?side2 ?side3 ?side4 A36.out).mono ?_); (case side1 => repeat (first | exact (Kd.R_reads' HO_7.out).2.2 | (with_reducible refine Kd.C_alloc ?_ _) | (with_reducible refine Kd.C_drewN ?_ _) | (with_reducible refine Kd.C_drew ?_))); (case side2 => exact (Kd.R_reads' HO_7.out).2.1); (case side3 => repeat (first | exact (Kd.R_reads' HO_3.out).2.2 | (with_reducible refine Kd.C_alloc ?_ _) | (with_reducible refine Kd.C_drewN ?_ _) | (with_reducible refine Kd.C_drew ?_))); (case side4 => exact (Kd.R_reads' HO_3.out).2.1); rintro e w44 ⟨rfl, hb⟩; have n0_ := Aside0.mk (Kd.R_below (ur_ HO_3.out) hb); have n1_ := Aside0.mk (Kd.R_below (ur_ HO_6.out) hb); have n2_ := Aside0.mk (Kd.R_below (ur_ HO_7.out) hb); have n3_ := Aside0.mk (Kd.R_below (ur_ HO381.out) hb); have n4_ := Aside0.mk (below_step (ue_ HB.out) hb); clear HO_3; clear HO_6; clear HO_7; clear HO381; clear HB; have HO_3 := n0_; have HO_6 := n1_; have HO_7 := n2_; have HO381 := n3_; have HB := n4_; clear n0_ n1_ n2_ n3_ n4_; (try clear hb); (try clear hb2); (try clear hk); (try clear hi)))
          go_meet
          case rel => exact ⟨_, (true), (by first | rfl | (simp; done) | (simp [*]; done)), H', ⟨by have := HJ6.out; first | omega | exact Nat.le_refl _⟩, ⟨by (with_reducible repeat (first | apply Kd.R_alloc | apply Kd.R_drewN | apply Kd.R_drew)); exact HO_3.out⟩, ⟨by (with_reducible repeat (first | apply Kd.R_alloc | apply Kd.R_drewN | apply Kd.R_drew)); exact HO_7.out⟩, ⟨ue_ HB.out⟩⟩
        ·
         replace c37 := Bool.eq_false_iff.mpr c37
         subst c37
         have H1 : (laws_FnExactAllFrames.j1 kj6 l0 t365 t366 t367 t373 true) = some r := by rw [if_neg (show ¬ (false = true) by decide)] at H; exact H
         clear H
         have H := H1
         clear H1
         have H' := Aside0.mk H
         clear H
         obtain ⟨Ao45, co45, eo45⟩ := Kd.R_slice HO_7.out
         subst eo45
         obtain ⟨Ao46, co46, eo46⟩ := Kd.R_slice HO_3.out
         subst eo46
         go_wp2_with (first | (go_at_call 71; (with_reducible refine (laws_eqFrameS.calls kj6 _ _ t373 _ _ t365 false _ ?side1 ?side2 ?side3 ?side4 A36.out).mono ?_); (case side1 => repeat (first | exact (Kd.R_reads' HO_7.out).2.2 | (with_reducible refine Kd.C_alloc ?_ _) | (with_reducible refine Kd.C_drewN ?_ _) | (with_reducible refine Kd.C_drew ?_))); (case side2 => exact (Kd.R_reads' HO_7.out).2.1); (case side3 => repeat (first | exact (Kd.R_reads' HO_3.out).2.2 | (with_reducible refine Kd.C_alloc ?_ _) | (with_reducible refine Kd.C_drewN ?_ _) | (with_reducible refine Kd.C_drew ?_))); (case side4 => exact (Kd.R_reads' HO_3.out).2.1); rintro e w47 ⟨rfl, hb⟩; have n0_ := Aside0.mk (Kd.R_below (ur_ HO_3.out) hb); have n1_ := Aside0.mk (Kd.R_below (ur_ HO_6.out) hb); have n2_ := Aside0.mk (Kd.R_below (ur_ HO_7.out) hb); have n3_ := Aside0.mk (Kd.R_below (ur_ HO381.out) hb); have n4_ := Aside0.mk (below_step (ue_ HB.out) hb); clear HO_3; clear HO_6; clear HO_7; clear HO381; clear HB; have HO_3 := n0_; have HO_6 := n1_; have HO_7 := n2_; have HO381 := n3_; have HB := n4_; clear n0_ n1_ n2_ n3_ n4_; (try clear hb); (try clear hb2); (try clear hk); (try clear hi)))
         go_meet
         case rel => exact ⟨_, (true), (by first | rfl | (simp; done) | (simp [*]; done)), H', ⟨by have := HJ6.out; first | omega | exact Nat.le_refl _⟩, ⟨by (with_reducible repeat (first | apply Kd.R_alloc | apply Kd.R_drewN | apply Kd.R_drew)); exact HO_3.out⟩, ⟨by (with_reducible repeat (first | apply Kd.R_alloc | apply Kd.R_drewN | apply Kd.R_drew)); exact HO_7.out⟩, ⟨ue_ HB.out⟩⟩
      case rest =>
       clear HC31
       try clear c1
       try clear c2
       try clear c2b0
       try clear c2b1
       try clear p2
       try clear c3
       try clear c6
       try clear c7
       try clear c12
       try clear c15
       try clear c16
       try clear c16b0
       try clear c16b1
       try clear c26
       try clear c29
       try clear c35
       try clear c35b0
       try clear c37
       try clear c38
       try clear c38b0
       try clear c38b1
       try clear p2
       obtain ⟨kq, x73_30, rfl, HA, HJ30, HO_3, HO_7, HB⟩ := hcut
       cases kq with
       | zero => exact absurd HA.out (by simp [laws_FnExactAllFrames.j1])
       | succ kj30 =>
        have H := HA.out
        clear HA
        simp only [laws_FnExactAllFrames.j1] at H
        by_cases c48 : x73_30 = true
        ·
         subst c48
         have H1 : (some false) = some r := by rw [if_pos rfl] at H; exact H
         clear H
         have H := H1
         clear H1
         exact absurd ((Option.some.inj H).trans hT.out) (by decide)
        ·
         replace c48 := Bool.eq_false_iff.mpr c48
         subst c48
         have H1 : ((laws_markFrameS.f kj30 t373 1).bind fun bt386 => ((laws_heldFrameS.f kj30 bt386.2 1).bind fun t388 => (if t388 < 0 then (some false) else (if t388 = bt386.1 then ((laws_toByteS.f kj30 l0).bind fun t389 => ((impl_AllFrames.f kj30 t389).bind fun bt392 => ((laws_eqFrameS.f kj30 bt392.1 t365).bind fun t397 => (if t397 = true then (if bt392.2.1 = t366 then (laws_FnExactAllFrames.j2 kj30 bt386.2 bt386.1 (bt392.2.2 != t367)) else (laws_FnExactAllFrames.j2 kj30 bt386.2 bt386.1 true)) else (laws_FnExactAllFrames.j2 kj30 bt386.2 bt386.1 true))))) else (some false))))) = some r := by rw [if_neg (show ¬ (false = true) by decide)] at H; exact H
         clear H
         have H := H1
         clear H1
         replace H := Option.bind_eq_some_iff.mp H
         obtain ⟨⟨t386, t387⟩, A490, H⟩ := H
         replace H : ((laws_heldFrameS.f kj30 t387 1).bind fun t388 => (if t388 < 0 then (some false) else (if t388 = t386 then ((laws_toByteS.f kj30 l0).bind fun t389 => ((impl_AllFrames.f kj30 t389).bind fun bt392 => ((laws_eqFrameS.f kj30 bt392.1 t365).bind fun t397 => (if t397 = true then (if bt392.2.1 = t366 then (laws_FnExactAllFrames.j2 kj30 t387 t386 (bt392.2.2 != t367)) else (laws_FnExactAllFrames.j2 kj30 t387 t386 true)) else (laws_FnExactAllFrames.j2 kj30 t387 t386 true))))) else (some false)))) = some r := H
         have A49 := Aside0.mk A490
         clear A490
         replace H := Option.bind_eq_some_iff.mp H
         obtain ⟨t388, A500, H⟩ := H
         replace H : (if t388 < 0 then (some false) else (if t388 = t386 then ((laws_toByteS.f kj30 l0).bind fun t389 => ((impl_AllFrames.f kj30 t389).bind fun bt392 => ((laws_eqFrameS.f kj30 bt392.1 t365).bind fun t397 => (if t397 = true then (if bt392.2.1 = t366 then (laws_FnExactAllFrames.j2 kj30 t387 t386 (bt392.2.2 != t367)) else (laws_FnExactAllFrames.j2 kj30 t387 t386 true)) else (laws_FnExactAllFrames.j2 kj30 t387 t386 true))))) else (some false))) = some r := H
         have A50 := Aside0.mk A500
         clear A500
         by_cases c51 : t388 < 0
         ·
          rw [if_pos c51] at H
          have c51b0 : decide (t388 < 0) = true := decide_eq_true c51
          clear c51
          exact absurd ((Option.some.inj H).trans hT.out) (by decide)
         ·
          rw [if_neg c51] at H
          have c51b0 : decide (t388 < 0) = false := decide_eq_false c51
          clear c51
          by_cases c52 : t388 = t386
          ·
           rw [if_pos c52] at H
           have c52b0 : (t388 == t386) = true := beq_iff_eq.mpr c52
           have c52b1 : (t388 != t386) = false := bne_eq_false_iff_eq.mpr c52
           clear c52
           replace H := Option.bind_eq_some_iff.mp H
           obtain ⟨t389, A530, H⟩ := H
           replace H : ((impl_AllFrames.f kj30 t389).bind fun bt392 => ((laws_eqFrameS.f kj30 bt392.1 t365).bind fun t397 => (if t397 = true then (if bt392.2.1 = t366 then (laws_FnExactAllFrames.j2 kj30 t387 t386 (bt392.2.2 != t367)) else (laws_FnExactAllFrames.j2 kj30 t387 t386 true)) else (laws_FnExactAllFrames.j2 kj30 t387 t386 true)))) = some r := H
           have A53 := Aside0.mk A530
           clear A530
           replace H := Option.bind_eq_some_iff.mp H
           obtain ⟨⟨t392, t393, t394⟩, A540, H⟩ := H
           replace H : ((laws_eqFrameS.f kj30 t392 t365).bind fun t397 => (if t397 = true then (if t393 = t366 then (laws_FnExactAllFrames.j2 kj30 t387 t386 (t394 != t367)) else (laws_FnExactAllFrames.j2 kj30 t387 t386 true)) else (laws_FnExactAllFrames.j2 kj30 t387 t386 true))) = some r := H
           have A54 := Aside0.mk A540
           clear A540
           have HC55 := Aside0.mk H
           clear H
           obtain ⟨Ao56, co56, eo56⟩ := Kd.R_slice HO_7.out
           subst eo56
           go_upto_region 23 with (first | ((with_reducible refine gate_callee (f := 73) rfl ?_); refine goesL_ (some 76) rfl rfl Try.func73 (by kernel_rfl) rfl #[.slice Ao56 t373.length co56, .int .i64 1] rfl ul_ ?_; (with_reducible refine (laws_markFrameS.calls kj30 (fun k_ => some k_ = (.slice Ao56 t373.length co56 : Value).ownBlock) (.slice Ao56 t373.length co56) t373 1 t386 t387 w _ ?side1 ?side2 A49.out).mono ?_); (case side1 => repeat (first | (with_reducible first | exact HB.out | apply below_alloc | apply pw_below_drewN | apply below_drew1) | exact HB.out)); (case side2 => exact Kd.R_tight rfl HO_7.out); rintro e w57 ⟨rfl, hy0, hb, hkp⟩; refine ⟨_, rfl, ?_⟩; have n0_ := Aside0.mk (Kd.R_mono (ok' := fun k_ => some k_ ≠ (.slice Ao56 t373.length co56 : Value).ownBlock) (Kd.R_keptB (HO_3.out) hkp (fun k_ hk_ hs_ => (hk_) hs_)) (fun k_ hk_ => hk_.1)); have n1_ := Aside0.mk (Kd.R_reok rfl hy0 (fun k_ e_ => HO_7.out.1 k_ e_)); have n2_ := Aside0.mk (hb); clear HO_3; clear HO_7; clear HB; have HO_3 := n0_; have HO_7 := n1_; have HB := n2_; clear n0_ n1_ n2_; (try clear hb); (try clear hkp); (try clear hy0)) | ((with_reducible refine gate_callee (f := 74) rfl ?_); refine goesL_ (some 79) rfl rfl Try.func74 (by kernel_rfl) rfl #[.slice Ao56 t387.length co56, .int .i64 1] rfl (by (try simp only [List.map_toArray, List.map_cons, List.map_nil]); first | done | (rw [show t387.length = t373.length from (Kd.R_reads' HO_7.out).1.symm] <;> rfl) | rfl | (simp only [List.length_drop, List.length_take]; rfl)) ?_; (with_reducible refine (laws_heldFrameS.calls kj30 _ _ t387 1 t388 _ ?side1 ?side2 A50.out).mono ?_); (case side1 => repeat (first | exact (Kd.R_reads' HO_7.out).2.2 | (with_reducible refine Kd.C_alloc ?_ _) | (with_reducible refine Kd.C_drewN ?_ _) | (with_reducible refine Kd.C_drew ?_))); (case side2 => rw [show t387.length = t373.length from (Kd.R_reads' HO_7.out).1.symm]; exact (Kd.R_reads' HO_7.out).2.1); rintro e w' ⟨rfl, ⟨nd, rfl⟩⟩; refine ⟨_, rfl, ?_⟩) | ((with_reducible refine gate_callee (f := 61) rfl ?_); refine goesL_ (some 87) rfl rfl Try.func61 (by kernel_rfl) rfl #[.slice A0 l0.length c0] rfl ul_ ?_; (with_reducible refine (laws_toByteS.calls kj30 _ _ l0 t389 _ ?side1 ?side2 A53.out).mono ?_); (case side1 => repeat (first | exact (Kd.C_below HR0.out (ue_ HB.out)) | (with_reducible refine Kd.C_alloc ?_ _) | (with_reducible refine Kd.C_drewN ?_ _) | (with_reducible refine Kd.C_drew ?_))); (case side2 => exact HC0.out); rintro e w58 ⟨v390, rfl, ho0, hb⟩; refine ⟨_, rfl, ?_⟩; have n0_ := Aside0.mk (Kd.R_below (ur_ HO_3.out) hb); have n1_ := Aside0.mk (Kd.R_below (ur_ HO_7.out) hb); have n2_ := Aside0.mk (Kd.R_lower ho0 (below_size (ue_ HB.out))); have n3_ := Aside0.mk (below_step (ue_ HB.out) hb); clear HO_3; clear HO_7; clear HB; have HO_3 := n0_; have HO_7 := n1_; have HO391 := n2_; have HB := n3_; clear n0_ n1_ n2_ n3_; (try clear hb); (try clear hb2); (try clear hk); (try clear hi); (try clear ho0); obtain ⟨Ao59, co59, eo59⟩ := Kd.R_slice HO391.out; subst eo59) | ((with_reducible refine gate_callee (f := 70) rfl ?_); refine goesL_ (some 88) rfl rfl Try.func70 (by kernel_rfl) rfl #[.slice Ao59 t389.length co59] rfl ul_ ?_; (with_reducible refine (impl_AllFrames.calls kj30 _ _ t389 t392 t393 t394 _ ?side1 ?side2 A54.out).mono ?_); (case side1 => repeat (first | exact (Kd.R_reads' HO391.out).2.2 | (with_reducible refine Kd.C_alloc ?_ _) | (with_reducible refine Kd.C_drewN ?_ _) | (with_reducible refine Kd.C_drew ?_))); (case side2 => exact (Kd.R_reads' HO391.out).2.1); rintro e w60 ⟨v395, rfl, ho0, hb⟩; refine ⟨_, rfl, ?_⟩; have n0_ := Aside0.mk (Kd.R_elder' (ur_ HO_3.out) (Kd.R_base ho0) hb); have n1_ := Aside0.mk (Kd.R_elder' (ur_ HO_7.out) (Kd.R_base ho0) hb); have n2_ := Aside0.mk (Kd.R_below (ur_ HO391.out) hb); have n3_ := Aside0.mk (Kd.R_lower (Kd.R_new' (Kd.R_new' ho0 (Kd.R_lt (ur_ HO_3.out))) (Kd.R_lt (ur_ HO_7.out))) (below_size (ue_ HB.out))); have n4_ := Aside0.mk (below_step (ue_ HB.out) hb); clear HO_3; clear HO_7; clear HO391; clear HB; have HO_3 := n0_; have HO_7 := n1_; have HO391 := n2_; have HO396 := n3_; have HB := n4_; clear n0_ n1_ n2_ n3_ n4_; (try clear hb); (try clear hb2); (try clear hk); (try clear hi); (try clear ho0)))
           (try simp only [Act.put, List.setIfInBounds_toArray, List.set_cons_zero, List.set_cons_succ])
           go_cut [105] (fun v105 wc => ∃ (kq : Nat) (x105_54 : Bool), v105 = .bool x105_54 ∧ Aside0 (laws_FnExactAllFrames.j2 kq t387 t386 x105_54 = some r) ∧ Aside0 (kq ≤ kj30) ∧ Aside0 (Kd.R k61 61 wc w.heap.size (fun _ => True) (.slice Ao56 t373.length co56) t387) ∧ Aside0 (Below w.heap.size w wc))
           case first =>
            have H := HC55.out
            clear HC55
            replace H := Option.bind_eq_some_iff.mp H
            obtain ⟨t397, A610, H⟩ := H
            replace H : (if t397 = true then (if t393 = t366 then (laws_FnExactAllFrames.j2 kj30 t387 t386 (t394 != t367)) else (laws_FnExactAllFrames.j2 kj30 t387 t386 true)) else (laws_FnExactAllFrames.j2 kj30 t387 t386 true)) = some r := H
            have A61 := Aside0.mk A610
            clear A610
            by_cases c62 : t397 = true
            ·
             subst c62
             have H1 : (if t393 = t366 then (laws_FnExactAllFrames.j2 kj30 t387 t386 (t394 != t367)) else (laws_FnExactAllFrames.j2 kj30 t387 t386 true)) = some r := by rw [if_pos rfl] at H; exact H
             clear H
             have H := H1
             clear H1
             by_cases c63 : t393 = t366
             ·
              rw [if_pos c63] at H
              have c63b0 : (t393 == t366) = true := beq_iff_eq.mpr c63
              have c63b1 : (t393 != t366) = false := bne_eq_false_iff_eq.mpr c63
              clear c63
              (first | rw [c63b0] | (simp only [i64_w, i32_w]; rw [c63b0]) | skip)
              have H' := Aside0.mk H
              clear H
              obtain ⟨Ao64, co64, eo64⟩ := Kd.R_slice HO396.out
              subst eo64
              obtain ⟨Ao65, co65, eo65⟩ := Kd.R_slice HO_3.out
              subst eo65
              go_wp2_with (first | ((with_reducible refine gate_callee (f := 71) rfl ?_); refine goesL_ (some 94) rfl rfl Try.func71 (by kernel_rfl) rfl #[.slice Ao64 t392.length co64, .slice Ao65 t365.length co65] rfl ul_ ?_; (with_reducible refine (laws_eqFrameS.calls kj30 _ _ t392 _ _ t365 true _ ?side1 ?side2 ?side3 ?side4 A61.out).mono ?_); (case side1 => repeat (first | exact (Kd.R_reads' HO396.out).2.2 | (with_reducible refine Kd.C_alloc ?_ _) | (with_reducible refine Kd.C_drewN ?_ _) | (with_reducible refine Kd.C_drew ?_))); (case side2 => exact (Kd.R_reads' HO396.out).2.1); (case side3 => repeat (first | exact (Kd.R_reads' HO_3.out).2.2 | (with_reducible refine Kd.C_alloc ?_ _) | (with_reducible refine Kd.C_drewN ?_ _) | (with_reducible refine Kd.C_drew ?_))); (case side4 => exact (Kd.R_reads' HO_3.out).2.1); rintro e w66 ⟨rfl, hb⟩; refine ⟨_, rfl, ?_⟩; have n0_ := Aside0.mk (Kd.R_below (ur_ HO_3.out) hb); have n1_ := Aside0.mk (Kd.R_below (ur_ HO_7.out) hb); have n2_ := Aside0.mk (Kd.R_below (ur_ HO391.out) hb); have n3_ := Aside0.mk (Kd.R_below (ur_ HO396.out) hb); have n4_ := Aside0.mk (below_step (ue_ HB.out) hb); clear HO_3; clear HO_7; clear HO391; clear HO396; clear HB; have HO_3 := n0_; have HO_7 := n1_; have HO391 := n2_; have HO396 := n3_; have HB := n4_; clear n0_ n1_ n2_ n3_ n4_; (try clear hb); (try clear hb2); (try clear hk); (try clear hi)))
              go_meet
              case rel => exact ⟨_, ((t394 != t367)), (by first | rfl | (simp; done) | (simp [*]; done)), H', ⟨by have := HJ6.out; have := HJ30.out; first | omega | exact Nat.le_refl _⟩, ⟨by (with_reducible repeat (first | apply Kd.R_alloc | apply Kd.R_drewN | apply Kd.R_drew)); exact Kd.R_mono HO_7.out (fun _ hk => trivial)⟩, ⟨ue_ HB.out⟩⟩
             ·
              rw [if_neg c63] at H
              have c63b0 : (t393 == t366) = false := beq_eq_false_iff_ne.mpr c63
              have c63b1 : (t393 != t366) = true := bne_iff_ne.mpr c63
              (first | rw [c63b0] | (simp only [i64_w, i32_w]; rw [c63b0]) | skip)
              have H' := Aside0.mk H
              clear H
              obtain ⟨Ao67, co67, eo67⟩ := Kd.R_slice HO396.out
              subst eo67
              obtain ⟨Ao68, co68, eo68⟩ := Kd.R_slice HO_3.out
              subst eo68
              go_wp2_with (first | ((with_reducible refine gate_callee (f := 71) rfl ?_); refine goesL_ (some 94) rfl rfl Try.func71 (by kernel_rfl) rfl #[.slice Ao67 t392.length co67, .slice Ao68 t365.length co68] rfl ul_ ?_; (with_reducible refine (laws_eqFrameS.calls kj30 _ _ t392 _ _ t365 true _ ?side1 ?side2 ?side3 ?side4 A61.out).mono ?_); (case side1 => repeat (first | exact (Kd.R_reads' HO396.out).2.2 | (with_reducible refine Kd.C_alloc ?_ _) | (with_reducible refine Kd.C_drewN ?_ _) | (with_reducible refine Kd.C_drew ?_))); (case side2 => exact (Kd.R_reads' HO396.out).2.1); (case side3 => repeat (first | exact (Kd.R_reads' HO_3.out).2.2 | (with_reducible refine Kd.C_alloc ?_ _) | (with_reducible refine Kd.C_drewN ?_ _) | (with_reducible refine Kd.C_drew ?_))); (case side4 => exact (Kd.R_reads' HO_3.out).2.1); rintro e w69 ⟨rfl, hb⟩; refine ⟨_, rfl, ?_⟩; have n0_ := Aside0.mk (Kd.R_below (ur_ HO_3.out) hb); have n1_ := Aside0.mk (Kd.R_below (ur_ HO_7.out) hb); have n2_ := Aside0.mk (Kd.R_below (ur_ HO391.out) hb); have n3_ := Aside0.mk (Kd.R_below (ur_ HO396.out) hb); have n4_ := Aside0.mk (below_step (ue_ HB.out) hb); clear HO_3; clear HO_7; clear HO391; clear HO396; clear HB; have HO_3 := n0_; have HO_7 := n1_; have HO391 := n2_; have HO396 := n3_; have HB := n4_; clear n0_ n1_ n2_ n3_ n4_; (try clear hb); (try clear hb2); (try clear hk); (try clear hi)))
              go_meet
              case rel => exact ⟨_, (true), (by first | rfl | (simp; done) | (simp [*]; done)), H', ⟨by have := HJ6.out; have := HJ30.out; first | omega | exact Nat.le_refl _⟩, ⟨by (with_reducible repeat (first | apply Kd.R_alloc | apply Kd.R_drewN | apply Kd.R_drew)); exact Kd.R_mono HO_7.out (fun _ hk => trivial)⟩, ⟨ue_ HB.out⟩⟩
            ·
             replace c62 := Bool.eq_false_iff.mpr c62
             subst c62
             have H1 : (laws_FnExactAllFrames.j2 kj30 t387 t386 true) = some r := by rw [if_neg (show ¬ (false = true) by decide)] at H; exact H
             clear H
             have H := H1
             clear H1
             have H' := Aside0.mk H
             clear H
             obtain ⟨Ao70, co70, eo70⟩ := Kd.R_slice HO396.out
             subst eo70
             obtain ⟨Ao71, co71, eo71⟩ := Kd.R_slice HO_3.out
             subst eo71
             go_wp2_with (first | ((with_reducible refine gate_callee (f := 71) rfl ?_); refine goesL_ (some 94) rfl rfl Try.func71 (by kernel_rfl) rfl #[.slice Ao70 t392.length co70, .slice Ao71 t365.length co71] rfl ul_ ?_; (with_reducible refine (laws_eqFrameS.calls kj30 _ _ t392 _ _ t365 false _ ?side1 ?side2 ?side3 ?side4 A61.out).mono ?_); (case side1 => repeat (first | exact (Kd.R_reads' HO396.out).2.2 | (with_reducible refine Kd.C_alloc ?_ _) | (with_reducible refine Kd.C_drewN ?_ _) | (with_reducible refine Kd.C_drew ?_))); (case side2 => exact (Kd.R_reads' HO396.out).2.1); (case side3 => repeat (first | exact (Kd.R_reads' HO_3.out).2.2 | (with_reducible refine Kd.C_alloc ?_ _) | (with_reducible refine Kd.C_drewN ?_ _) | (with_reducible refine Kd.C_drew ?_))); (case side4 => exact (Kd.R_reads' HO_3.out).2.1); rintro e w72 ⟨rfl, hb⟩; refine ⟨_, rfl, ?_⟩; have n0_ := Aside0.mk (Kd.R_below (ur_ HO_3.out) hb); have n1_ := Aside0.mk (Kd.R_below (ur_ HO_7.out) hb); have n2_ := Aside0.mk (Kd.R_below (ur_ HO391.out) hb); have n3_ := Aside0.mk (Kd.R_below (ur_ HO396.out) hb); have n4_ := Aside0.mk (below_step (ue_ HB.out) hb); clear HO_3; clear HO_7; clear HO391; clear HO396; clear HB; have HO_3 := n0_; have HO_7 := n1_; have HO391 := n2_; have HO396 := n3_; have HB := n4_; clear n0_ n1_ n2_ n3_ n4_; (try clear hb); (try clear hb2); (try clear hk); (try clear hi)))
             go_meet
             case rel => exact ⟨_, (true), (by first | rfl | (simp; done) | (simp [*]; done)), H', ⟨by have := HJ6.out; have := HJ30.out; first | omega | exact Nat.le_refl _⟩, ⟨by (with_reducible repeat (first | apply Kd.R_alloc | apply Kd.R_drewN | apply Kd.R_drew)); exact Kd.R_mono HO_7.out (fun _ hk => trivial)⟩, ⟨ue_ HB.out⟩⟩
           case rest =>
            clear HC55
            try clear c1
            try clear c2
            try clear c2b0
            try clear c2b1
            try clear p2
            try clear c3
            try clear c4
            try clear c5
            try clear c6
            try clear c7
            try clear c12
            try clear c15
            try clear c16
            try clear c16b0
            try clear c16b1
            try clear c26
            try clear c29
            try clear c35
            try clear c35b0
            try clear c37
            try clear c38
            try clear c38b0
            try clear c38b1
            try clear c48
            try clear c51
            try clear c51b0
            try clear c52
            try clear c52b0
            try clear c52b1
            try clear c61
            try clear c62
            try clear c63
            try clear c63b0
            try clear c63b1
            try clear c69
            try clear c70
            try clear c71
            try clear c72
            try clear p2
            obtain ⟨kq, x105_54, rfl, HA, HJ54, HO_7, HB⟩ := hcut
            have hl7_54 := (Kd.R_reads' HO_7.out).1
            rw [hl7_54] at HO_7
            (try simp only [hl7_54])
            cases kq with
            | zero => exact absurd HA.out (by simp [laws_FnExactAllFrames.j2])
            | succ kj54 =>
             have H := HA.out
             clear HA
             simp only [laws_FnExactAllFrames.j2] at H
             by_cases c73 : x105_54 = true
             ·
              subst c73
              have H1 : (some false) = some r := by rw [if_pos rfl] at H; exact H
              clear H
              have H := H1
              clear H1
              exact absurd ((Option.some.inj H).trans hT.out) (by decide)
             ·
              replace c73 := Bool.eq_false_iff.mpr c73
              subst c73
              have H1 : ((laws_heldFrameS.f kj54 t387 1).bind fun t398 => (if t398 < 0 then (some false) else (if t398 = t386 then (some true) else (some false)))) = some r := by rw [if_neg (show ¬ (false = true) by decide)] at H; exact H
              clear H
              have H := H1
              clear H1
              replace H := Option.bind_eq_some_iff.mp H
              obtain ⟨t398, A740, H⟩ := H
              replace H : (if t398 < 0 then (some false) else (if t398 = t386 then (some true) else (some false))) = some r := H
              have A74 := Aside0.mk A740
              clear A740
              by_cases c75 : t398 < 0
              ·
               rw [if_pos c75] at H
               have c75b0 : decide (t398 < 0) = true := decide_eq_true c75
               clear c75
               exact absurd ((Option.some.inj H).trans hT.out) (by decide)
              ·
               rw [if_neg c75] at H
               have c75b0 : decide (t398 < 0) = false := decide_eq_false c75
               clear c75
               by_cases c76 : t398 = t386
               ·
                rw [if_pos c76] at H
                have c76b0 : (t398 == t386) = true := beq_iff_eq.mpr c76
                have c76b1 : (t398 != t386) = false := bne_eq_false_iff_eq.mpr c76
                clear c76
                obtain rfl := Option.some.inj H
                go_wp2_with (first | ((with_reducible refine gate_callee (f := 74) rfl ?_); refine goesL_ (some 108) rfl rfl Try.func74 (by kernel_rfl) rfl #[.slice Ao56 t387.length co56, .int .i64 1] rfl ul_ ?_; (with_reducible refine (laws_heldFrameS.calls kj54 _ _ t387 1 t398 _ ?side1 ?side2 A74.out).mono ?_); (case side1 => repeat (first | exact (Kd.R_reads' HO_7.out).2.2 | (with_reducible refine Kd.C_alloc ?_ _) | (with_reducible refine Kd.C_drewN ?_ _) | (with_reducible refine Kd.C_drew ?_))); (case side2 => exact (Kd.R_reads' HO_7.out).2.1); rintro e w' ⟨rfl, ⟨nd, rfl⟩⟩; refine ⟨_, rfl, ?_⟩))
                go_ret
                exact ⟨by first | rfl | (simp [errW_none, errW_some] <;> rfl) | (simp [*, errW_none, errW_some] <;> rfl), ue_ HB.out⟩
               ·
                rw [if_neg c76] at H
                have c76b0 : (t398 == t386) = false := beq_eq_false_iff_ne.mpr c76
                have c76b1 : (t398 != t386) = true := bne_iff_ne.mpr c76
                exact absurd ((Option.some.inj H).trans hT.out) (by decide)
          ·
           rw [if_neg c52] at H
           have c52b0 : (t388 == t386) = false := beq_eq_false_iff_ne.mpr c52
           have c52b1 : (t388 != t386) = true := bne_iff_ne.mpr c52
           exact absurd ((Option.some.inj H).trans hT.out) (by decide)
     ·
      replace c29 := Bool.eq_false_iff.mpr c29
      subst c29
      have H1 : (some false) = some r := by rw [if_neg (show ¬ (false = true) by decide)] at H; exact H
      clear H
      have H := H1
      clear H1
      exact absurd ((Option.some.inj H).trans hT.out) (by decide)

/-- THE ONE PURE STATEMENT of laws_FnExactAllFrames: yours. -/
def laws_FnExactAllFrames.Pure : Prop := ∀ (l0 : List Int), l0.length ≤ maxLen → l0.length * 1 ≤ 140737488351232 → (∀ x ∈ l0, (Lit.int .u8 x).wf = true) → ∃ k, laws_FnExactAllFrames.f k l0 = some true
theorem laws_FnExactAllFrames.walk (P : laws_FnExactAllFrames.Pure) (a0 : Option Addr) (len0 cap0 : Nat) (z0 : List Int) (w : World) (w0 : (a0 = none ∧ len0 = 0 ∧ cap0 = 0 ∧ z0 = []) ∨ ∃ x, a0 = some x ∧ len0 ≤ cap0 ∧ cap0 ≤ maxLen ∧ z0.length = cap0 ∧ (∀ i, i < z0.length → w.cell? (x.add i) = some (.int .u8 (z0.getD i 0))) ∧ ∀ n ∈ z0, (Lit.int .u8 n).wf = true) (y0 : len0 * 1 ≤ 140737488351232) :
  Calls Try.prog 12 #[.slice a0 len0 cap0] w fun e w' => e = .returned (.bool true) ∧ Below w.heap.size w w' := by
 obtain ⟨l0, rfl, hr0, hm0, hw0, hc0⟩ := ReadsInt.ofRowC w0
 obtain ⟨k, h⟩ := P l0 hm0 y0 hw0
 refine (laws_FnExactAllFrames.calls k _ _ l0 true w (Kd.C_of_reads (d := (0 : Int)) (h1 := fun _ => rfl) hr0) hc0 (Aside0.mk rfl) h).mono ?_
 rintro e w' ⟨rfl, hd⟩
 exact ⟨rfl, hd⟩

end Go.Proofs.Ytcflalomjehiiaa.QFnExactAllFrames
