/- The machine side of a law: Lean functions with the Go functions' answers and the walks that show it. No condition. -/
import Derived.Test.YtcflalomjehiiaaQFnExactPlaySourcex0
import Derived.Test.YtcflalomjehiiaaQFnExactPlaySourcex1
import Derived.Test.YtcflalomjehiiaaQFnExactPlaySourcex3
import Derived.Test.YtcflalomjehiiaaQFnExactPlaySourcex4
import Derived.Test.YtcflalomjehiiaaQFnExactPlaySourcex6
import Derived.Test.YtcflalomjehiiaaQFnExactPlaySourcex7
namespace Go.Proofs.Ytcflalomjehiiaa.QFnExactPlaySource
open Go.RowKit Go.Proofs.YtcflalomjehiiaaW.PrintWords Go.Proofs.YtcflalomjehiiaaW.PrintLast Go.Proofs.YtcflalomjehiiaaW.PrintMore
attribute [local go_sem] max2_int min2_int max_two min_two max_three min_three max_four min_four   -- for this text's walks alone
set_option linter.unusedVariables false
set_option linter.unusedSimpArgs false

/-! ### laws_FnExactPlaySource: function 8 -/
mutual
def laws_FnExactPlaySource.j0 : Nat → Int → Int → List (List Int) → List Int → List (List Int) → List Int → Bool → Int → Int → Int → Bool → Bool → Int → Int → Int → Bool → Bool → Option (Bool)
 | 0, _, _, _, _, _, _, _, _, _, _, _, _, _, _, _, _, _ => none
 | k + 1, x0, x1, x2, x9, x10, x12, x49, x365000, x365001, x365002, x365003, x365004, x377000, x377001, x377002, x377003, x377004 => if x49 = true then (some false) else ((laws_toIntSS.f k x2).bind fun t379 => ((laws_eqIntSS.f k x10 t379).bind fun t382 => (if t382 = true then ((laws_markIntSS.f k x10 1).bind fun bt383 => (if bt383.1 < 0 then (laws_FnExactPlaySource.j1 k x0 x1 x2 x9 x12 true x365000 x365001 x365002 x365003 x365004) else ((laws_eqSource.f x377000 x377001 x377002 x377003 x377004 x365000 x365001 x365002 x365003 x365004).bind fun t385 => (if t385 = true then ((laws_eqIntS.f k x12 x9).bind fun t386 => (laws_FnExactPlaySource.j1 k x0 x1 x2 x9 x12 (!t386) x365000 x365001 x365002 x365003 x365004)) else (laws_FnExactPlaySource.j1 k x0 x1 x2 x9 x12 true x365000 x365001 x365002 x365003 x365004))))) else (some false))))
def laws_FnExactPlaySource.j1 : Nat → Int → Int → List (List Int) → List Int → List Int → Bool → Int → Int → Int → Bool → Bool → Option (Bool)
 | 0, _, _, _, _, _, _, _, _, _, _, _ => none
 | k + 1, x0, x1, x2, x9, x12, x71, x365000, x365001, x365002, x365003, x365004 => if x71 = true then (some false) else ((laws_markIntS.f k x12 1).bind fun bt387 => ((laws_heldIntS.f k bt387.2 1).bind fun t389 => (if t389 < 0 then (some false) else (if t389 = bt387.1 then ((laws_toIntSS.f k x2).bind fun t390 => ((impl_PlaySource.f k x0 x1 t390).bind fun bt393 => ((laws_eqSource.f bt393.1 bt393.2.1 bt393.2.2.1 bt393.2.2.2.1 bt393.2.2.2.2.1 x365000 x365001 x365002 x365003 x365004).bind fun t402 => (if t402 = true then ((laws_eqIntS.f k bt393.2.2.2.2.2 x9).bind fun t403 => (laws_FnExactPlaySource.j2 k bt387.2 bt387.1 (!t403))) else (laws_FnExactPlaySource.j2 k bt387.2 bt387.1 true))))) else (some false)))))
def laws_FnExactPlaySource.j2 : Nat → List Int → Int → Bool → Option (Bool)
 | 0, _, _, _ => none
 | k + 1, x12, x14, x100 => if x100 = true then (some false) else ((laws_heldIntS.f k x12 1).bind fun t404 => (if t404 < 0 then (some false) else (if t404 = x14 then (some true) else (some false))))
end
def laws_FnExactPlaySource.f (k : Nat) (a0 : Int) (a1 : Int) (l2 : List (List Int)) : Option (Bool) := (laws_szIntSS.f k l2 1048576).bind fun t352 => (if t352 < 0 then (some true) else ((laws_toIntSS.f k l2).bind fun t353 => ((spec_PlaySource.f k a0 a1 t353).bind fun bt356 => ((laws_toIntSS.f k l2).bind fun t365 => ((impl_PlaySource.f k a0 a1 t365).bind fun bt368 => ((laws_eqSource.f bt368.1 bt368.2.1 bt368.2.2.1 bt368.2.2.2.1 bt368.2.2.2.2.1 bt356.1 bt356.2.1 bt356.2.2.1 bt356.2.2.2.1 bt356.2.2.2.2.1).bind fun t377 => (if t377 = true then ((laws_eqIntS.f k bt368.2.2.2.2.2 bt356.2.2.2.2.2).bind fun t378 => (laws_FnExactPlaySource.j0 k a0 a1 l2 bt356.2.2.2.2.2 t365 bt368.2.2.2.2.2 (!t378) bt356.1 bt356.2.1 bt356.2.2.1 bt356.2.2.2.1 bt356.2.2.2.2.1 bt368.1 bt368.2.1 bt368.2.2.1 bt368.2.2.2.1 bt368.2.2.2.2.1)) else (laws_FnExactPlaySource.j0 k a0 a1 l2 bt356.2.2.2.2.2 t365 bt368.2.2.2.2.2 true bt356.1 bt356.2.1 bt356.2.2.1 bt356.2.2.2.1 bt356.2.2.2.2.1 bt368.1 bt368.2.1 bt368.2.2.1 bt368.2.2.2.1 bt368.2.2.2.2.1))))))))
theorem laws_FnExactPlaySource.mono_l : ∀ k, (∀ y0 y1 y2 y3 y4 y5 y6 y7 y8 y9 y10 y11 y12 y13 y14 y15 y16, LeO (laws_FnExactPlaySource.j0 k y0 y1 y2 y3 y4 y5 y6 y7 y8 y9 y10 y11 y12 y13 y14 y15 y16) (laws_FnExactPlaySource.j0 (k + 1) y0 y1 y2 y3 y4 y5 y6 y7 y8 y9 y10 y11 y12 y13 y14 y15 y16)) ∧ (∀ y0 y1 y2 y3 y4 y5 y6 y7 y8 y9 y10, LeO (laws_FnExactPlaySource.j1 k y0 y1 y2 y3 y4 y5 y6 y7 y8 y9 y10) (laws_FnExactPlaySource.j1 (k + 1) y0 y1 y2 y3 y4 y5 y6 y7 y8 y9 y10)) ∧ (∀ y0 y1 y2, LeO (laws_FnExactPlaySource.j2 k y0 y1 y2) (laws_FnExactPlaySource.j2 (k + 1) y0 y1 y2))
 | 0 => ⟨fun _ _ _ _ _ _ _ _ _ _ _ _ _ _ _ _ _ r h => by simp [laws_FnExactPlaySource.j0] at h, fun _ _ _ _ _ _ _ _ _ _ _ r h => by simp [laws_FnExactPlaySource.j1] at h, fun _ _ _ r h => by simp [laws_FnExactPlaySource.j2] at h⟩
 | k + 1 => by
  obtain ⟨ih0, ih1, ih2⟩ := laws_FnExactPlaySource.mono_l k
  refine ⟨?_, ?_, ?_⟩
  ·
   intro y0 y1 y2 y3 y4 y5 y6 y7 y8 y9 y10 y11 y12 y13 y14 y15 y16
   unfold laws_FnExactPlaySource.j0
   repeat' first
   | (with_reducible exact ih0 _ _ _ _ _ _ _ _ _ _ _ _ _ _ _ _ _)
   | (with_reducible exact ih1 _ _ _ _ _ _ _ _ _ _ _)
   | (with_reducible exact ih2 _ _ _)
   | (with_reducible exact impl_PlaySource.mono _ _ _ _)
   | (with_reducible exact laws_eqIntS.mono _ _ _)
   | (with_reducible exact laws_eqIntSS.mono _ _ _)
   | (with_reducible exact laws_heldIntS.mono _ _ _)
   | (with_reducible exact laws_markIntS.mono _ _ _)
   | (with_reducible exact laws_markIntSS.mono _ _ _)
   | (with_reducible exact laws_szIntSS.mono _ _ _)
   | (with_reducible exact laws_toIntSS.mono _ _)
   | (with_reducible exact spec_PlaySource.mono _ _ _ _)
   | (with_reducible exact LeO.refl _)
   | (with_reducible exact LeO.none _)
   | (with_reducible refine LeO.ite ?_ ?_)
   | (with_reducible refine LeO.bind ?_ (fun _ => ?_))
   | exact ih0 _ _ _ _ _ _ _ _ _ _ _ _ _ _ _ _ _
   | exact ih1 _ _ _ _ _ _ _ _ _ _ _
   | exact ih2 _ _ _
   | exact impl_PlaySource.mono _ _ _ _
   | exact laws_eqIntS.mono _ _ _
   | exact laws_eqIntSS.mono _ _ _
   | exact laws_heldIntS.mono _ _ _
   | exact laws_markIntS.mono _ _ _
   | exact laws_markIntSS.mono _ _ _
   | exact laws_szIntSS.mono _ _ _
   | exact laws_toIntSS.mono _ _
   | exact spec_PlaySource.mono _ _ _ _
   | exact LeO.none _
   | refine LeO.ite ?_ ?_
   | refine LeO.bind ?_ (fun _ => ?_)
  ·
   intro y0 y1 y2 y3 y4 y5 y6 y7 y8 y9 y10
   unfold laws_FnExactPlaySource.j1
   repeat' first
   | (with_reducible exact ih0 _ _ _ _ _ _ _ _ _ _ _ _ _ _ _ _ _)
   | (with_reducible exact ih1 _ _ _ _ _ _ _ _ _ _ _)
   | (with_reducible exact ih2 _ _ _)
   | (with_reducible exact impl_PlaySource.mono _ _ _ _)
   | (with_reducible exact laws_eqIntS.mono _ _ _)
   | (with_reducible exact laws_eqIntSS.mono _ _ _)
   | (with_reducible exact laws_heldIntS.mono _ _ _)
   | (with_reducible exact laws_markIntS.mono _ _ _)
   | (with_reducible exact laws_markIntSS.mono _ _ _)
   | (with_reducible exact laws_szIntSS.mono _ _ _)
   | (with_reducible exact laws_toIntSS.mono _ _)
   | (with_reducible exact spec_PlaySource.mono _ _ _ _)
   | (with_reducible exact LeO.refl _)
   | (with_reducible exact LeO.none _)
   | (with_reducible refine LeO.ite ?_ ?_)
   | (with_reducible refine LeO.bind ?_ (fun _ => ?_))
   | exact ih0 _ _ _ _ _ _ _ _ _ _ _ _ _ _ _ _ _
   | exact ih1 _ _ _ _ _ _ _ _ _ _ _
   | exact ih2 _ _ _
   | exact impl_PlaySource.mono _ _ _ _
   | exact laws_eqIntS.mono _ _ _
   | exact laws_eqIntSS.mono _ _ _
   | exact laws_heldIntS.mono _ _ _
   | exact laws_markIntS.mono _ _ _
   | exact laws_markIntSS.mono _ _ _
   | exact laws_szIntSS.mono _ _ _
   | exact laws_toIntSS.mono _ _
   | exact spec_PlaySource.mono _ _ _ _
   | exact LeO.none _
   | refine LeO.ite ?_ ?_
   | refine LeO.bind ?_ (fun _ => ?_)
  ·
   intro y0 y1 y2
   unfold laws_FnExactPlaySource.j2
   repeat' first
   | (with_reducible exact ih0 _ _ _ _ _ _ _ _ _ _ _ _ _ _ _ _ _)
   | (with_reducible exact ih1 _ _ _ _ _ _ _ _ _ _ _)
   | (with_reducible exact ih2 _ _ _)
   | (with_reducible exact impl_PlaySource.mono _ _ _ _)
   | (with_reducible exact laws_eqIntS.mono _ _ _)
   | (with_reducible exact laws_eqIntSS.mono _ _ _)
   | (with_reducible exact laws_heldIntS.mono _ _ _)
   | (with_reducible exact laws_markIntS.mono _ _ _)
   | (with_reducible exact laws_markIntSS.mono _ _ _)
   | (with_reducible exact laws_szIntSS.mono _ _ _)
   | (with_reducible exact laws_toIntSS.mono _ _)
   | (with_reducible exact spec_PlaySource.mono _ _ _ _)
   | (with_reducible exact LeO.refl _)
   | (with_reducible exact LeO.none _)
   | (with_reducible refine LeO.ite ?_ ?_)
   | (with_reducible refine LeO.bind ?_ (fun _ => ?_))
   | exact ih0 _ _ _ _ _ _ _ _ _ _ _ _ _ _ _ _ _
   | exact ih1 _ _ _ _ _ _ _ _ _ _ _
   | exact ih2 _ _ _
   | exact impl_PlaySource.mono _ _ _ _
   | exact laws_eqIntS.mono _ _ _
   | exact laws_eqIntSS.mono _ _ _
   | exact laws_heldIntS.mono _ _ _
   | exact laws_markIntS.mono _ _ _
   | exact laws_markIntSS.mono _ _ _
   | exact laws_szIntSS.mono _ _ _
   | exact laws_toIntSS.mono _ _
   | exact spec_PlaySource.mono _ _ _ _
   | exact LeO.none _
   | refine LeO.ite ?_ ?_
   | refine LeO.bind ?_ (fun _ => ?_)
theorem laws_FnExactPlaySource.mono : ∀ a0 a1 a2 k, LeO (laws_FnExactPlaySource.f k a0 a1 a2) (laws_FnExactPlaySource.f (k + 1) a0 a1 a2) := by
 intro a0 a1 a2 k
 obtain ⟨ih0, ih1, ih2⟩ := laws_FnExactPlaySource.mono_l k
 unfold laws_FnExactPlaySource.f
 repeat' first
   | (with_reducible exact ih0 _ _ _ _ _ _ _ _ _ _ _ _ _ _ _ _ _)
   | (with_reducible exact ih1 _ _ _ _ _ _ _ _ _ _ _)
   | (with_reducible exact ih2 _ _ _)
   | (with_reducible exact impl_PlaySource.mono _ _ _ _)
   | (with_reducible exact laws_eqIntS.mono _ _ _)
   | (with_reducible exact laws_eqIntSS.mono _ _ _)
   | (with_reducible exact laws_heldIntS.mono _ _ _)
   | (with_reducible exact laws_markIntS.mono _ _ _)
   | (with_reducible exact laws_markIntSS.mono _ _ _)
   | (with_reducible exact laws_szIntSS.mono _ _ _)
   | (with_reducible exact laws_toIntSS.mono _ _)
   | (with_reducible exact spec_PlaySource.mono _ _ _ _)
   | (with_reducible exact LeO.refl _)
   | (with_reducible exact LeO.none _)
   | (with_reducible refine LeO.ite ?_ ?_)
   | (with_reducible refine LeO.bind ?_ (fun _ => ?_))
   | exact ih0 _ _ _ _ _ _ _ _ _ _ _ _ _ _ _ _ _
   | exact ih1 _ _ _ _ _ _ _ _ _ _ _
   | exact ih2 _ _ _
   | exact impl_PlaySource.mono _ _ _ _
   | exact laws_eqIntS.mono _ _ _
   | exact laws_eqIntSS.mono _ _ _
   | exact laws_heldIntS.mono _ _ _
   | exact laws_markIntS.mono _ _ _
   | exact laws_markIntSS.mono _ _ _
   | exact laws_szIntSS.mono _ _ _
   | exact laws_toIntSS.mono _ _
   | exact spec_PlaySource.mono _ _ _ _
   | exact LeO.none _
   | refine LeO.ite ?_ ?_
   | refine LeO.bind ?_ (fun _ => ?_)
set_option maxHeartbeats 8000000 in
set_option maxRecDepth 100000 in
theorem laws_FnExactPlaySource.calls (k : Nat) (a0 : Int) (a1 : Int) (A2 : Option Addr) (c2 : Nat) (l2 : List (List Int)) (r : Bool) (w : World) (hr2 : Kd.C (Kd.slice 3 (Kd.int .i64)) w A2 l2.length l2) (hc2 : l2.length ≤ c2) (hT : Aside0 (r = true)) (h : laws_FnExactPlaySource.f k a0 a1 l2 = some r) :
  Calls Try.prog 8 #[.int .i64 a0, .int .i64 a1, .slice A2 l2.length c2] w fun e w' => e = .returned (.bool r) ∧ Below w.heap.size w w' := by
 have hu72 := Try.underlying72
 have HR2 := Aside0.mk hr2
 have HC2 := Aside0.mk hc2
 clear hr2 hc2
 have HB := am_ (Below.refl w.heap.size w)
 have H : ((laws_szIntSS.f k l2 1048576).bind fun t352 => (if t352 < 0 then (some true) else ((laws_toIntSS.f k l2).bind fun t353 => ((spec_PlaySource.f k a0 a1 t353).bind fun bt356 => ((laws_toIntSS.f k l2).bind fun t365 => ((impl_PlaySource.f k a0 a1 t365).bind fun bt368 => ((laws_eqSource.f bt368.1 bt368.2.1 bt368.2.2.1 bt368.2.2.2.1 bt368.2.2.2.2.1 bt356.1 bt356.2.1 bt356.2.2.1 bt356.2.2.2.1 bt356.2.2.2.2.1).bind fun t377 => (if t377 = true then ((laws_eqIntS.f k bt368.2.2.2.2.2 bt356.2.2.2.2.2).bind fun t378 => (laws_FnExactPlaySource.j0 k a0 a1 l2 bt356.2.2.2.2.2 t365 bt368.2.2.2.2.2 (!t378) bt356.1 bt356.2.1 bt356.2.2.1 bt356.2.2.2.1 bt356.2.2.2.2.1 bt368.1 bt368.2.1 bt368.2.2.1 bt368.2.2.2.1 bt368.2.2.2.2.1)) else (laws_FnExactPlaySource.j0 k a0 a1 l2 bt356.2.2.2.2.2 t365 bt368.2.2.2.2.2 true bt356.1 bt356.2.1 bt356.2.2.1 bt356.2.2.2.1 bt356.2.2.2.2.1 bt368.1 bt368.2.1 bt368.2.2.1 bt368.2.2.2.1 bt368.2.2.2.2.1))))))))) = some r := h
 clear h
 replace H := Option.bind_eq_some_iff.mp H
 obtain ⟨t352, A40, H⟩ := H
 replace H : (if t352 < 0 then (some true) else ((laws_toIntSS.f k l2).bind fun t353 => ((spec_PlaySource.f k a0 a1 t353).bind fun bt356 => ((laws_toIntSS.f k l2).bind fun t365 => ((impl_PlaySource.f k a0 a1 t365).bind fun bt368 => ((laws_eqSource.f bt368.1 bt368.2.1 bt368.2.2.1 bt368.2.2.2.1 bt368.2.2.2.2.1 bt356.1 bt356.2.1 bt356.2.2.1 bt356.2.2.2.1 bt356.2.2.2.2.1).bind fun t377 => (if t377 = true then ((laws_eqIntS.f k bt368.2.2.2.2.2 bt356.2.2.2.2.2).bind fun t378 => (laws_FnExactPlaySource.j0 k a0 a1 l2 bt356.2.2.2.2.2 t365 bt368.2.2.2.2.2 (!t378) bt356.1 bt356.2.1 bt356.2.2.1 bt356.2.2.2.1 bt356.2.2.2.2.1 bt368.1 bt368.2.1 bt368.2.2.1 bt368.2.2.2.1 bt368.2.2.2.2.1)) else (laws_FnExactPlaySource.j0 k a0 a1 l2 bt356.2.2.2.2.2 t365 bt368.2.2.2.2.2 true bt356.1 bt356.2.1 bt356.2.2.1 bt356.2.2.2.1 bt356.2.2.2.2.1 bt368.1 bt368.2.1 bt368.2.2.1 bt368.2.2.2.1 bt368.2.2.2.2.1)))))))) = some r := H
 have A4 := Aside0.mk A40
 clear A40
 by_cases c5 : t352 < 0
 ·
  rw [if_pos c5] at H
  have c5b0 : decide (t352 < 0) = true := decide_eq_true c5
  clear c5
  obtain rfl := Option.some.inj H
  go_enter Try.func8, Try.ntmps8
  go_wp2_with (first | ((with_reducible refine gate_callee (f := 50) rfl ?_); refine goesL_ (some 20) rfl rfl Try.func50 (by kernel_rfl) rfl #[.slice A2 l2.length c2, .int .i64 1048576] rfl ul_ ?_; (with_reducible refine (laws_szIntSS.calls k _ _ l2 1048576 t352 _ ?side1 ?side2 A4.out).mono ?_); (case side1 => repeat (first | exact HR2.out | (with_reducible refine Kd.C_alloc ?_ _) | (with_reducible refine Kd.C_drewN ?_ _) | (with_reducible refine Kd.C_drew ?_))); (case side2 => exact HC2.out); rintro e w' ⟨rfl, ⟨nd, rfl⟩⟩; refine ⟨_, rfl, ?_⟩))
  go_ret
  exact ⟨ew_, ue_ HB.out⟩
 ·
  rw [if_neg c5] at H
  have c5b0 : decide (t352 < 0) = false := decide_eq_false c5
  clear c5
  replace H := Option.bind_eq_some_iff.mp H
  obtain ⟨t353, A60, H⟩ := H
  replace H : ((spec_PlaySource.f k a0 a1 t353).bind fun bt356 => ((laws_toIntSS.f k l2).bind fun t365 => ((impl_PlaySource.f k a0 a1 t365).bind fun bt368 => ((laws_eqSource.f bt368.1 bt368.2.1 bt368.2.2.1 bt368.2.2.2.1 bt368.2.2.2.2.1 bt356.1 bt356.2.1 bt356.2.2.1 bt356.2.2.2.1 bt356.2.2.2.2.1).bind fun t377 => (if t377 = true then ((laws_eqIntS.f k bt368.2.2.2.2.2 bt356.2.2.2.2.2).bind fun t378 => (laws_FnExactPlaySource.j0 k a0 a1 l2 bt356.2.2.2.2.2 t365 bt368.2.2.2.2.2 (!t378) bt356.1 bt356.2.1 bt356.2.2.1 bt356.2.2.2.1 bt356.2.2.2.2.1 bt368.1 bt368.2.1 bt368.2.2.1 bt368.2.2.2.1 bt368.2.2.2.2.1)) else (laws_FnExactPlaySource.j0 k a0 a1 l2 bt356.2.2.2.2.2 t365 bt368.2.2.2.2.2 true bt356.1 bt356.2.1 bt356.2.2.1 bt356.2.2.2.1 bt356.2.2.2.2.1 bt368.1 bt368.2.1 bt368.2.2.1 bt368.2.2.2.1 bt368.2.2.2.2.1)))))) = some r := H
  have A6 := Aside0.mk A60
  clear A60
  replace H := Option.bind_eq_some_iff.mp H
  obtain ⟨⟨t356, t357, t358, t359, t360, t361⟩, A70, H⟩ := H
  replace H : ((laws_toIntSS.f k l2).bind fun t365 => ((impl_PlaySource.f k a0 a1 t365).bind fun bt368 => ((laws_eqSource.f bt368.1 bt368.2.1 bt368.2.2.1 bt368.2.2.2.1 bt368.2.2.2.2.1 t356 t357 t358 t359 t360).bind fun t377 => (if t377 = true then ((laws_eqIntS.f k bt368.2.2.2.2.2 t361).bind fun t378 => (laws_FnExactPlaySource.j0 k a0 a1 l2 t361 t365 bt368.2.2.2.2.2 (!t378) t356 t357 t358 t359 t360 bt368.1 bt368.2.1 bt368.2.2.1 bt368.2.2.2.1 bt368.2.2.2.2.1)) else (laws_FnExactPlaySource.j0 k a0 a1 l2 t361 t365 bt368.2.2.2.2.2 true t356 t357 t358 t359 t360 bt368.1 bt368.2.1 bt368.2.2.1 bt368.2.2.2.1 bt368.2.2.2.2.1))))) = some r := H
  have A7 := Aside0.mk A70
  clear A70
  replace H := Option.bind_eq_some_iff.mp H
  obtain ⟨t365, A80, H⟩ := H
  replace H : ((impl_PlaySource.f k a0 a1 t365).bind fun bt368 => ((laws_eqSource.f bt368.1 bt368.2.1 bt368.2.2.1 bt368.2.2.2.1 bt368.2.2.2.2.1 t356 t357 t358 t359 t360).bind fun t377 => (if t377 = true then ((laws_eqIntS.f k bt368.2.2.2.2.2 t361).bind fun t378 => (laws_FnExactPlaySource.j0 k a0 a1 l2 t361 t365 bt368.2.2.2.2.2 (!t378) t356 t357 t358 t359 t360 bt368.1 bt368.2.1 bt368.2.2.1 bt368.2.2.2.1 bt368.2.2.2.2.1)) else (laws_FnExactPlaySource.j0 k a0 a1 l2 t361 t365 bt368.2.2.2.2.2 true t356 t357 t358 t359 t360 bt368.1 bt368.2.1 bt368.2.2.1 bt368.2.2.2.1 bt368.2.2.2.2.1)))) = some r := H
  have A8 := Aside0.mk A80
  clear A80
  replace H := Option.bind_eq_some_iff.mp H
  obtain ⟨⟨t368, t369, t370, t371, t372, t373⟩, A90, H⟩ := H
  replace H : ((laws_eqSource.f t368 t369 t370 t371 t372 t356 t357 t358 t359 t360).bind fun t377 => (if t377 = true then ((laws_eqIntS.f k t373 t361).bind fun t378 => (laws_FnExactPlaySource.j0 k a0 a1 l2 t361 t365 t373 (!t378) t356 t357 t358 t359 t360 t368 t369 t370 t371 t372)) else (laws_FnExactPlaySource.j0 k a0 a1 l2 t361 t365 t373 true t356 t357 t358 t359 t360 t368 t369 t370 t371 t372))) = some r := H
  have A9 := Aside0.mk A90
  clear A90
  have HC10 := Aside0.mk H
  clear H
  go_enter Try.func8, Try.ntmps8
  go_upto_region 8 with (first | ((with_reducible refine gate_callee (f := 50) rfl ?_); refine goesL_ (some 20) rfl rfl Try.func50 (by kernel_rfl) rfl #[.slice A2 l2.length c2, .int .i64 1048576] rfl ul_ ?_; (with_reducible refine (laws_szIntSS.calls k _ _ l2 1048576 t352 _ ?side1 ?side2 A4.out).mono ?_); (case side1 => repeat (first | exact HR2.out | (with_reducible refine Kd.C_alloc ?_ _) | (with_reducible refine Kd.C_drewN ?_ _) | (with_reducible refine Kd.C_drew ?_))); (case side2 => exact HC2.out); rintro e w' ⟨rfl, ⟨nd, rfl⟩⟩; refine ⟨_, rfl, ?_⟩) | ((with_reducible refine gate_callee (f := 52) rfl ?_); refine goesL_ (some 27) rfl rfl Try.func52 (by kernel_rfl) rfl #[.slice A2 l2.length c2] rfl ul_ ?_; (with_reducible refine (laws_toIntSS.calls k _ _ l2 t353 _ ?side1 ?side2 A6.out).mono ?_); (case side1 => repeat (first | exact HR2.out | (with_reducible refine Kd.C_alloc ?_ _) | (with_reducible refine Kd.C_drewN ?_ _) | (with_reducible refine Kd.C_drew ?_))); (case side2 => exact HC2.out); rintro e w11 ⟨v354, rfl, ho0, hb⟩; refine ⟨_, rfl, ?_⟩; have n0_ := am_ (Kd.S_lower ho0 (below_size (ue_ HB.out))); have n1_ := am_ (below_step (ue_ HB.out) hb); clear HB; have HO355 := n0_; have HB := n1_; clear n0_ n1_; (try clear hb); (try clear hb2); (try clear hk); (try clear hi); (try clear ho0); obtain ⟨Ao12, co12, eo12⟩ := Kd.S_slice HO355.out; subst eo12) | ((with_reducible refine gate_callee (f := 51) rfl ?_); refine goesL_ (some 28) rfl rfl Try.func51 (by kernel_rfl) rfl #[.int .i64 a0, .int .i64 a1, .slice Ao12 t353.length co12] rfl ul_ ?_; (with_reducible refine (spec_PlaySource.calls k a0 a1 _ _ t353 t356 t357 t358 t359 t360 t361 _ ?side1 ?side2 A7.out).mono ?_); (case side1 => repeat (first | exact (Kd.S_reads' HO355.out).2.2 | (with_reducible refine Kd.C_alloc ?_ _) | (with_reducible refine Kd.C_drewN ?_ _) | (with_reducible refine Kd.C_drew ?_))); (case side2 => exact (Kd.S_reads' HO355.out).2.1); rintro e w13 ⟨v362, rfl, ho0, hb⟩; refine ⟨_, rfl, ?_⟩; have n0_ := am_ (Kd.S_elder' (by (with_reducible repeat (first | apply Kd.S_alloc | apply Kd.S_drewN | apply Kd.S_drew)); exact HO355.out) (Kd.R_base ho0) hb); have n1_ := am_ (Kd.R_lower ho0 (below_size (ue_ HB.out))); have n2_ := am_ (below_step (ue_ HB.out) hb); clear HO355 HB; have HO355 := n0_; have HO363 := n1_; have HB := n2_; clear n0_ n1_ n2_; (try clear hb); (try clear hb2); (try clear hk); (try clear hi); (try clear ho0)) | ((with_reducible refine gate_dst (N := 8) rfl ?_); refine box_event ?hg (N := 8) ?hd (cs := #[.int .i64 0, .int .i64 0, .int .i64 0, .bool false, .bool false]) (t := 72) ?hr ?_; (case hd => rfl); (case hg => rfl); (case hr => first | (go_simp; done) | (go_simp; rfl)); intro gb364 hg w14 hbox hb; have n0_ := am_ (Kd.S_below (by (with_reducible repeat (first | apply Kd.S_alloc | apply Kd.S_drewN | apply Kd.S_drew)); exact HO355.out) hb); have n1_ := am_ (Kd.R_below (ur_ HO363.out) hb); have n2_ := am_ (below_step (ue_ HB.out) hb); have n3_ := am_ (hbox); have n4_ := am_ ((by rw [hg]; exact (below_size (ue_ HB.out)) : w.heap.size ≤ gb364)); have n5_ := am_ ((by rw [hg]; exact (below_size (ue_ HB.out)) : w.heap.size ≤ gb364)); clear HO355 HO363 HB; have HO355 := n0_; have HO363 := n1_; have HB := n2_; have BK364 := n3_; have GW364 := n4_; have GE364 := n5_; clear n0_ n1_ n2_ n3_ n4_ n5_; clear hb hbox hg; obtain ⟨hcz15_0, hcz15_1, hcz15_2, hcz15_3, hcz15_4⟩ := cb5_ BK364.out; obtain ⟨hfz15_0, hfz15_1, hfz15_2, hfz15_3⟩ := bf4_ BK364.out; have hfz15_4 := blk_frozen BK364.out 4) | ((with_reducible refine gate_store (t := 72) (p := 8) rfl ?_); refine store_event (t := 72) (p := 8) (v := ?vo_w16) (w1 := (((((w14.setCell ⟨gb364, 0, none⟩ (.int .i64 t356)).setCell ⟨gb364, 1, none⟩ (.int .i64 t357)).setCell ⟨gb364, 2, none⟩ (.int .i64 t358)).setCell ⟨gb364, 3, none⟩ (.bool t359)).setCell ⟨gb364, 4, none⟩ (.bool t360))) ?hg ?ho ?hn ?hr ?_; (case ho => rfl); (case hg => rfl); (case hn => rfl); (case hr => first | (go_simp; done) | (go_simp; rfl)); intro w16 hw; have n0_ : Aside0 (Kd.S (Kd.slice 3 (Kd.int .i64)) 22 w16 w.heap.size (fun k_ => some k_ ≠ (v362 : Value).ownBlock) (.slice Ao12 t353.length co12) t353) := ⟨(by rw [hw]; exact (by (with_reducible repeat (first | apply Kd.S_alloc | apply Kd.S_drewN | apply Kd.S_drew)); exact Kd.S_mono (Kd.S_far (p := ⟨gb364, 4, none⟩) (Kd.S_far (p := ⟨gb364, 3, none⟩) (Kd.S_far (p := ⟨gb364, 2, none⟩) (Kd.S_far (p := ⟨gb364, 1, none⟩) (Kd.S_far (p := ⟨gb364, 0, none⟩) (Kd.S_types HO355.out BK364.out (by decide)) (fun _ hk => by first | exact hk.2 | grind) (.int .i64 t356)) (fun _ hk => by first | exact hk.2 | grind) (.int .i64 t357)) (fun _ hk => by first | exact hk.2 | grind) (.int .i64 t358)) (fun _ hk => by first | exact hk.2 | grind) (.bool t359)) (fun _ hk => by first | exact hk.2 | grind) (.bool t360)) (fun _ hk => by first | exact hk.1.2 | grind)))⟩; have n1_ : Aside0 (Kd.R (Kd.int .i64) 3 w16 w.heap.size (fun _ => True) v362 t361) := ⟨(by rw [hw]; exact (by (with_reducible repeat (first | apply Kd.R_alloc | apply Kd.R_drewN | apply Kd.R_drew)); exact Kd.R_mono (Kd.R_far (p := ⟨gb364, 4, none⟩) (Kd.R_far (p := ⟨gb364, 3, none⟩) (Kd.R_far (p := ⟨gb364, 2, none⟩) (Kd.R_far (p := ⟨gb364, 1, none⟩) (Kd.R_far (p := ⟨gb364, 0, none⟩) (Kd.R_types HO363.out BK364.out (by decide)) (fun _ hk => by first | exact hk.2 | grind) (.int .i64 t356)) (fun _ hk => by first | exact hk.2 | grind) (.int .i64 t357)) (fun _ hk => by first | exact hk.2 | grind) (.int .i64 t358)) (fun _ hk => by first | exact hk.2 | grind) (.bool t359)) (fun _ hk => by first | exact hk.2 | grind) (.bool t360)) (fun _ hk => trivial)))⟩; have n2_ : Aside0 (w16.heap[gb364]? = some (.cells #[.int .i64 t356, .int .i64 t357, .int .i64 t358, .bool t359, .bool t360] 72 (0, 0))) := ⟨(by rw [hw]; exact (by (with_reducible repeat first|apply bn_|apply bd_|apply ba_); refine blk_put (cs := #[.int .i64 t356, .int .i64 t357, .int .i64 t358, .bool t359, .bool false]) ?_ 4 _ rfl; refine blk_put (cs := #[.int .i64 t356, .int .i64 t357, .int .i64 t358, .bool false, .bool false]) ?_ 3 _ rfl; refine blk_put (cs := #[.int .i64 t356, .int .i64 t357, .int .i64 0, .bool false, .bool false]) ?_ 2 _ rfl; refine blk_put (cs := #[.int .i64 t356, .int .i64 0, .int .i64 0, .bool false, .bool false]) ?_ 1 _ rfl; refine blk_put (cs := #[.int .i64 0, .int .i64 0, .int .i64 0, .bool false, .bool false]) ?_ 0 _ rfl; (with_reducible repeat first|apply bn_|apply bd_|apply ba_); exact BK364.out))⟩; have n3_ : Aside0 (Below w.heap.size w w16) := ⟨(by rw [hw]; exact (ue_ HB.out))⟩; clear hw HO355 HO363 BK364 HB; have HO355 := n0_; have HO363 := n1_; have BK364 := n2_; have HB := n3_; clear n0_ n1_ n2_ n3_) | ((with_reducible refine gate_callee (f := 52) rfl ?_); refine goesL_ (some 32) rfl rfl Try.func52 (by kernel_rfl) rfl #[.slice A2 l2.length c2] rfl ul_ ?_; (with_reducible refine (laws_toIntSS.calls k _ _ l2 t365 _ ?side1 ?side2 A8.out).mono ?_); (case side1 => repeat (first | exact (Kd.C_below HR2.out HB.out) | (with_reducible refine Kd.C_alloc ?_ _) | (with_reducible refine Kd.C_drewN ?_ _) | (with_reducible refine Kd.C_drew ?_))); (case side2 => exact HC2.out); rintro e w17 ⟨v366, rfl, ho0, hb⟩; refine ⟨_, rfl, ?_⟩; have n0_ := am_ (Kd.S_elder' (by (with_reducible repeat (first | apply Kd.S_alloc | apply Kd.S_drewN | apply Kd.S_drew)); exact HO355.out) (Kd.S_base ho0) hb); have n1_ := am_ (Kd.R_below (ur_ HO363.out) hb); have n2_ := am_ (Kd.S_lower (Kd.S_new' (Kd.S_new' ho0 (Kd.S_lt (by (with_reducible repeat (first | apply Kd.S_alloc | apply Kd.S_drewN | apply Kd.S_drew)); exact HO355.out))) (Kd.R_lt (ur_ HO363.out))) (below_size (ue_ HB.out))); have n3_ := am_ (bb_ BK364.out hb); have n4_ := am_ (below_step (ue_ HB.out) hb); clear HO355 HO363 BK364 HB; have HO355 := n0_; have HO363 := n1_; have HO367 := n2_; have BK364 := n3_; have HB := n4_; clear n0_ n1_ n2_ n3_ n4_; (try clear hb); (try clear hb2); (try clear hk); (try clear hi); (try clear ho0); obtain ⟨Ao18, co18, eo18⟩ := Kd.S_slice HO367.out; subst eo18) | ((with_reducible refine gate_callee (f := 53) rfl ?_); refine goesL_ (some 37) rfl rfl Try.func53 (by kernel_rfl) rfl #[.int .i64 a0, .int .i64 a1, .slice Ao18 t365.length co18] rfl ul_ ?_; (with_reducible refine (impl_PlaySource.calls k a0 a1 _ _ t365 t368 t369 t370 t371 t372 t373 _ ?side1 ?side2 A9.out).mono ?_); (case side1 => repeat (first | exact (Kd.S_reads' HO367.out).2.2 | (with_reducible refine Kd.C_alloc ?_ _) | (with_reducible refine Kd.C_drewN ?_ _) | (with_reducible refine Kd.C_drew ?_))); (case side2 => exact (Kd.S_reads' HO367.out).2.1); rintro e w19 ⟨v374, rfl, ho0, hb⟩; refine ⟨_, rfl, ?_⟩; have n0_ := am_ (Kd.S_elder' (by (with_reducible repeat (first | apply Kd.S_alloc | apply Kd.S_drewN | apply Kd.S_drew)); exact HO355.out) (Kd.R_base ho0) hb); have n1_ := am_ (Kd.R_elder' (ur_ HO363.out) (Kd.R_base ho0) hb); have n2_ := am_ (Kd.S_elder' (by (with_reducible repeat (first | apply Kd.S_alloc | apply Kd.S_drewN | apply Kd.S_drew)); exact HO367.out) (Kd.R_base ho0) hb); have n3_ := am_ (Kd.R_lower (Kd.R_new' ho0 (Kd.R_lt (ur_ HO363.out))) (below_size (ue_ HB.out))); have n4_ := am_ (bb_ BK364.out hb); have n5_ := am_ (below_step (ue_ HB.out) hb); clear HO355 HO363 HO367 BK364 HB; have HO355 := n0_; have HO363 := n1_; have HO367 := n2_; have HO375 := n3_; have BK364 := n4_; have HB := n5_; clear n0_ n1_ n2_ n3_ n4_ n5_; (try clear hb); (try clear hb2); (try clear hk); (try clear hi); (try clear ho0)) | ((with_reducible refine gate_dst (N := 11) rfl ?_); refine box_event ?hg (N := 11) ?hd (cs := #[.int .i64 0, .int .i64 0, .int .i64 0, .bool false, .bool false]) (t := 72) ?hr ?_; (case hd => rfl); (case hg => rfl); (case hr => first | (go_simp; done) | (go_simp; rfl)); intro gb376 hg w20 hbox hb; have n0_ := am_ (Kd.S_below (by (with_reducible repeat (first | apply Kd.S_alloc | apply Kd.S_drewN | apply Kd.S_drew)); exact HO355.out) hb); have n1_ := am_ (Kd.R_below (ur_ HO363.out) hb); have n2_ := am_ (Kd.S_below (by (with_reducible repeat (first | apply Kd.S_alloc | apply Kd.S_drewN | apply Kd.S_drew)); exact HO367.out) hb); have n3_ := am_ (Kd.R_below (ur_ HO375.out) hb); have n4_ := am_ (bb_ BK364.out hb); have n5_ := am_ (below_step (ue_ HB.out) hb); have n6_ := am_ (hbox); have n7_ := am_ ((by rw [hg]; exact (below_size (ue_ HB.out)) : w.heap.size ≤ gb376)); have n8_ := am_ ((by rw [hg]; exact (below_size (ue_ HB.out)) : w.heap.size ≤ gb376)); have n9_ := am_ ((by rw [hg]; exact Nat.ne_of_lt (bl_ BK364.out) : gb364 ≠ gb376)); have n10_ := am_ ((by rw [hg]; exact Nat.ne_of_gt (bl_ BK364.out) : gb376 ≠ gb364)); clear HO355 HO363 HO367 HO375 BK364 HB; have HO355 := n0_; have HO363 := n1_; have HO367 := n2_; have HO375 := n3_; have BK364 := n4_; have HB := n5_; have BK376 := n6_; have GW376 := n7_; have GE376 := n8_; have NB364_376 := n9_; have NB376_364 := n10_; clear n0_ n1_ n2_ n3_ n4_ n5_ n6_ n7_ n8_ n9_ n10_; clear hb hbox hg; have hnb21 := NB376_364.out; have hnc21 := NB364_376.out; obtain ⟨hcz22_0, hcz22_1, hcz22_2, hcz22_3, hcz22_4⟩ := cb5_ BK376.out; obtain ⟨hfz22_0, hfz22_1, hfz22_2, hfz22_3⟩ := bf4_ BK376.out; have hfz22_4 := blk_frozen BK376.out 4) | ((with_reducible refine gate_store (t := 72) (p := 11) rfl ?_); refine store_event (t := 72) (p := 11) (v := ?vo_w23) (w1 := (((((w20.setCell ⟨gb376, 0, none⟩ (.int .i64 t368)).setCell ⟨gb376, 1, none⟩ (.int .i64 t369)).setCell ⟨gb376, 2, none⟩ (.int .i64 t370)).setCell ⟨gb376, 3, none⟩ (.bool t371)).setCell ⟨gb376, 4, none⟩ (.bool t372))) ?hg ?ho ?hn ?hr ?_; (case ho => rfl); (case hg => rfl); (case hn => rfl); (case hr => first | (go_simp; done) | (go_simp; rfl)); intro w23 hw; have n0_ : Aside0 (Kd.S (Kd.slice 3 (Kd.int .i64)) 22 w23 w.heap.size (fun k_ => some k_ ≠ (v362 : Value).ownBlock ∧ some k_ ≠ (.slice Ao18 t365.length co18 : Value).ownBlock ∧ some k_ ≠ (v374 : Value).ownBlock) (.slice Ao12 t353.length co12) t353) := ⟨(by rw [hw]; exact (by (with_reducible repeat (first | apply Kd.S_alloc | apply Kd.S_drewN | apply Kd.S_drew)); exact Kd.S_mono (Kd.S_far (p := ⟨gb376, 4, none⟩) (Kd.S_far (p := ⟨gb376, 3, none⟩) (Kd.S_far (p := ⟨gb376, 2, none⟩) (Kd.S_far (p := ⟨gb376, 1, none⟩) (Kd.S_far (p := ⟨gb376, 0, none⟩) (Kd.S_types HO355.out BK376.out (by decide)) (fun _ hk => by first | exact hk.2 | grind) (.int .i64 t368)) (fun _ hk => by first | exact hk.2 | grind) (.int .i64 t369)) (fun _ hk => by first | exact hk.2 | grind) (.int .i64 t370)) (fun _ hk => by first | exact hk.2 | grind) (.bool t371)) (fun _ hk => by first | exact hk.2 | grind) (.bool t372)) (fun _ hk => by first | exact ⟨hk.1.1.1, ⟨hk.1.1.2, hk.1.2⟩⟩ | grind)))⟩; have n1_ : Aside0 (Kd.R (Kd.int .i64) 3 w23 w.heap.size (fun k_ => some k_ ≠ (v374 : Value).ownBlock) v362 t361) := ⟨(by rw [hw]; exact (by (with_reducible repeat (first | apply Kd.R_alloc | apply Kd.R_drewN | apply Kd.R_drew)); exact Kd.R_mono (Kd.R_far (p := ⟨gb376, 4, none⟩) (Kd.R_far (p := ⟨gb376, 3, none⟩) (Kd.R_far (p := ⟨gb376, 2, none⟩) (Kd.R_far (p := ⟨gb376, 1, none⟩) (Kd.R_far (p := ⟨gb376, 0, none⟩) (Kd.R_types HO363.out BK376.out (by decide)) (fun _ hk => by first | exact hk.2 | grind) (.int .i64 t368)) (fun _ hk => by first | exact hk.2 | grind) (.int .i64 t369)) (fun _ hk => by first | exact hk.2 | grind) (.int .i64 t370)) (fun _ hk => by first | exact hk.2 | grind) (.bool t371)) (fun _ hk => by first | exact hk.2 | grind) (.bool t372)) (fun _ hk => by first | exact hk.1.2 | grind)))⟩; have n2_ : Aside0 (Kd.S (Kd.slice 3 (Kd.int .i64)) 22 w23 w.heap.size (fun k_ => some k_ ≠ (.slice Ao12 t353.length co12 : Value).ownBlock ∧ some k_ ≠ (v362 : Value).ownBlock ∧ some k_ ≠ (v374 : Value).ownBlock) (.slice Ao18 t365.length co18) t365) := ⟨(by rw [hw]; exact (by (with_reducible repeat (first | apply Kd.S_alloc | apply Kd.S_drewN | apply Kd.S_drew)); exact Kd.S_mono (Kd.S_far (p := ⟨gb376, 4, none⟩) (Kd.S_far (p := ⟨gb376, 3, none⟩) (Kd.S_far (p := ⟨gb376, 2, none⟩) (Kd.S_far (p := ⟨gb376, 1, none⟩) (Kd.S_far (p := ⟨gb376, 0, none⟩) (Kd.S_types HO367.out BK376.out (by decide)) (fun _ hk => by first | exact hk.2 | grind) (.int .i64 t368)) (fun _ hk => by first | exact hk.2 | grind) (.int .i64 t369)) (fun _ hk => by first | exact hk.2 | grind) (.int .i64 t370)) (fun _ hk => by first | exact hk.2 | grind) (.bool t371)) (fun _ hk => by first | exact hk.2 | grind) (.bool t372)) (fun _ hk => by first | exact ⟨hk.1.1.1.2, ⟨hk.1.1.2, hk.1.2⟩⟩ | grind)))⟩; have n3_ : Aside0 (Kd.R (Kd.int .i64) 3 w23 w.heap.size (fun k_ => some k_ ≠ (v362 : Value).ownBlock) v374 t373) := ⟨(by rw [hw]; exact (by (with_reducible repeat (first | apply Kd.R_alloc | apply Kd.R_drewN | apply Kd.R_drew)); exact Kd.R_mono (Kd.R_far (p := ⟨gb376, 4, none⟩) (Kd.R_far (p := ⟨gb376, 3, none⟩) (Kd.R_far (p := ⟨gb376, 2, none⟩) (Kd.R_far (p := ⟨gb376, 1, none⟩) (Kd.R_far (p := ⟨gb376, 0, none⟩) (Kd.R_types HO375.out BK376.out (by decide)) (fun _ hk => by first | exact hk.2 | grind) (.int .i64 t368)) (fun _ hk => by first | exact hk.2 | grind) (.int .i64 t369)) (fun _ hk => by first | exact hk.2 | grind) (.int .i64 t370)) (fun _ hk => by first | exact hk.2 | grind) (.bool t371)) (fun _ hk => by first | exact hk.2 | grind) (.bool t372)) (fun _ hk => by first | exact hk.1.2 | grind)))⟩; have n4_ : Aside0 (w23.heap[gb364]? = some (.cells #[.int .i64 t356, .int .i64 t357, .int .i64 t358, .bool t359, .bool t360] 72 (0, 0))) := ⟨(by rw [hw]; exact (uf_ BK364.out))⟩; have n5_ : Aside0 (w23.heap[gb376]? = some (.cells #[.int .i64 t368, .int .i64 t369, .int .i64 t370, .bool t371, .bool t372] 72 (0, 0))) := ⟨(by rw [hw]; exact (by (with_reducible repeat first|apply bn_|apply bd_|apply ba_); refine blk_put (cs := #[.int .i64 t368, .int .i64 t369, .int .i64 t370, .bool t371, .bool false]) ?_ 4 _ rfl; refine blk_put (cs := #[.int .i64 t368, .int .i64 t369, .int .i64 t370, .bool false, .bool false]) ?_ 3 _ rfl; refine blk_put (cs := #[.int .i64 t368, .int .i64 t369, .int .i64 0, .bool false, .bool false]) ?_ 2 _ rfl; refine blk_put (cs := #[.int .i64 t368, .int .i64 0, .int .i64 0, .bool false, .bool false]) ?_ 1 _ rfl; refine blk_put (cs := #[.int .i64 0, .int .i64 0, .int .i64 0, .bool false, .bool false]) ?_ 0 _ rfl; (with_reducible repeat first|apply bn_|apply bd_|apply ba_); exact BK376.out))⟩; have n6_ : Aside0 (Below w.heap.size w w23) := ⟨(by rw [hw]; exact (ue_ HB.out))⟩; clear hw HO355 HO363 HO367 HO375 BK364 BK376 HB; have HO355 := n0_; have HO363 := n1_; have HO367 := n2_; have HO375 := n3_; have BK364 := n4_; have BK376 := n5_; have HB := n6_; clear n0_ n1_ n2_ n3_ n4_ n5_ n6_))
  (try simp only [Act.put, List.setIfInBounds_toArray, List.set_cons_zero, List.set_cons_succ])
  go_cut [49] (fun v49 wc => ∃ (kq : Nat) (x49_9 : Bool), v49 = .bool x49_9 ∧ Aside0 (laws_FnExactPlaySource.j0 kq a0 a1 l2 t361 t365 t373 x49_9 t356 t357 t358 t359 t360 t368 t369 t370 t371 t372 = some r) ∧ Aside0 (kq ≤ k) ∧ Aside0 (Kd.R (Kd.int .i64) 3 wc w.heap.size (fun k_ => some k_ ≠ (v374 : Value).ownBlock) v362 t361) ∧ Aside0 (Kd.S (Kd.slice 3 (Kd.int .i64)) 22 wc w.heap.size (fun k_ => some k_ ≠ (v362 : Value).ownBlock ∧ some k_ ≠ (v374 : Value).ownBlock) (.slice Ao18 t365.length co18) t365) ∧ Aside0 (Kd.R (Kd.int .i64) 3 wc w.heap.size (fun k_ => some k_ ≠ (v362 : Value).ownBlock) v374 t373) ∧ Aside0 (wc.heap[gb364]? = some (.cells #[.int .i64 t356, .int .i64 t357, .int .i64 t358, .bool t359, .bool t360] 72 (0, 0))) ∧ Aside0 (wc.heap[gb376]? = some (.cells #[.int .i64 t368, .int .i64 t369, .int .i64 t370, .bool t371, .bool t372] 72 (0, 0))) ∧ Aside0 (Below w.heap.size w wc))
  case first =>
   have H := HC10.out
   clear HC10
   replace H := Option.bind_eq_some_iff.mp H
   obtain ⟨t377, A240, H⟩ := H
   replace H : (if t377 = true then ((laws_eqIntS.f k t373 t361).bind fun t378 => (laws_FnExactPlaySource.j0 k a0 a1 l2 t361 t365 t373 (!t378) t356 t357 t358 t359 t360 t368 t369 t370 t371 t372)) else (laws_FnExactPlaySource.j0 k a0 a1 l2 t361 t365 t373 true t356 t357 t358 t359 t360 t368 t369 t370 t371 t372)) = some r := H
   have A24 := Aside0.mk A240
   clear A240
   by_cases c25 : t377 = true
   ·
    subst c25
    have H1 : ((laws_eqIntS.f k t373 t361).bind fun t378 => (laws_FnExactPlaySource.j0 k a0 a1 l2 t361 t365 t373 (!t378) t356 t357 t358 t359 t360 t368 t369 t370 t371 t372)) = some r := by rw [if_pos rfl] at H; exact H
    clear H
    have H := H1
    clear H1
    replace H := Option.bind_eq_some_iff.mp H
    obtain ⟨t378, A260, H⟩ := H
    replace H : (laws_FnExactPlaySource.j0 k a0 a1 l2 t361 t365 t373 (!t378) t356 t357 t358 t359 t360 t368 t369 t370 t371 t372) = some r := H
    have A26 := Aside0.mk A260
    clear A260
    have H' := Aside0.mk H
    clear H
    have hnb27 := NB376_364.out
    have hnc27 := NB364_376.out
    have hcz28_0 := cb_ BK376.out 0 rfl
    have hcz28_1 := cb_ BK376.out 1 rfl
    have hcz28_2 := cb_ BK376.out 2 rfl
    have hcz28_3 := cb_ BK376.out 3 rfl
    have hcz28_4 := cb_ BK376.out 4 rfl
    have hfz28_0 := blk_frozen BK376.out 0
    have hfz28_1 := blk_frozen BK376.out 1
    have hfz28_2 := blk_frozen BK376.out 2
    have hfz28_3 := blk_frozen BK376.out 3
    have hfz28_4 := blk_frozen BK376.out 4
    have hcz29_0 := cb_ BK364.out 0 rfl
    have hcz29_1 := cb_ BK364.out 1 rfl
    have hcz29_2 := cb_ BK364.out 2 rfl
    have hcz29_3 := cb_ BK364.out 3 rfl
    have hcz29_4 := cb_ BK364.out 4 rfl
    have hfz29_0 := blk_frozen BK364.out 0
    have hfz29_1 := blk_frozen BK364.out 1
    have hfz29_2 := blk_frozen BK364.out 2
    have hfz29_3 := blk_frozen BK364.out 3
    have hfz29_4 := blk_frozen BK364.out 4
    go_wp2_with (first | ((with_reducible refine gate_callee (f := 54) rfl ?_); refine goesL_ (some 42) rfl rfl Try.func54 (by kernel_rfl) rfl #[.agg #[.int .i64 t368, .int .i64 t369, .int .i64 t370, .bool t371, .bool t372], .agg #[.int .i64 t356, .int .i64 t357, .int .i64 t358, .bool t359, .bool t360]] rfl ul_ ?_; (with_reducible refine (laws_eqSource.calls t368 t369 t370 t371 t372 t356 t357 t358 t359 t360 true _ A24.out).mono ?_); rintro e w30 ⟨rfl, hb⟩; refine ⟨_, rfl, ?_⟩; have n0_ := am_ (Kd.S_below (by (with_reducible repeat (first | apply Kd.S_alloc | apply Kd.S_drewN | apply Kd.S_drew)); exact HO355.out) hb); have n1_ := am_ (Kd.R_below (ur_ HO363.out) hb); have n2_ := am_ (Kd.S_below (by (with_reducible repeat (first | apply Kd.S_alloc | apply Kd.S_drewN | apply Kd.S_drew)); exact HO367.out) hb); have n3_ := am_ (Kd.R_below (ur_ HO375.out) hb); have n4_ := am_ (bb_ BK364.out hb); have n5_ := am_ (bb_ BK376.out hb); have n6_ := am_ (below_step (ue_ HB.out) hb); clear HO355 HO363 HO367 HO375 BK364 BK376 HB; have HO355 := n0_; have HO363 := n1_; have HO367 := n2_; have HO375 := n3_; have BK364 := n4_; have BK376 := n5_; have HB := n6_; clear n0_ n1_ n2_ n3_ n4_ n5_ n6_; (try clear hb); (try clear hb2); (try clear hk); (try clear hi); obtain ⟨Ao31, co31, eo31⟩ := Kd.R_slice HO375.out; subst eo31; obtain ⟨Ao32, co32, eo32⟩ := Kd.R_slice HO363.out; subst eo32) | (go_at_call 19; (with_reducible refine (laws_eqIntS.calls k _ _ t373 _ _ t361 t378 _ ?side1 ?side2 ?side3 ?side4 A26.out).mono ?_); (case side1 => repeat (first | exact (Kd.R_reads' HO375.out).2.2 | (with_reducible refine Kd.C_alloc ?_ _) | (with_reducible refine Kd.C_drewN ?_ _) | (with_reducible refine Kd.C_drew ?_))); (case side2 => exact (Kd.R_reads' HO375.out).2.1); (case side3 => repeat (first | exact (Kd.R_reads' HO363.out).2.2 | (with_reducible refine Kd.C_alloc ?_ _) | (with_reducible refine Kd.C_drewN ?_ _) | (with_reducible refine Kd.C_drew ?_))); (case side4 => exact (Kd.R_reads' HO363.out).2.1); rintro e w' ⟨rfl, ⟨nd, rfl⟩⟩))
    go_meet
    case rel => exact ⟨_, (!t378), (by first | rfl | (simp; done) | (simp [*]; done)), H', ⟨by first | omega | exact Nat.le_refl _⟩, ⟨by (with_reducible repeat (first | apply Kd.R_alloc | apply Kd.R_drewN | apply Kd.R_drew)); exact HO363.out⟩, ⟨by (with_reducible repeat (first | apply Kd.S_alloc | apply Kd.S_drewN | apply Kd.S_drew)); exact Kd.S_mono HO367.out (fun _ hk => by first | exact ⟨hk.2.1, hk.2.2⟩ | grind)⟩, ⟨by (with_reducible repeat (first | apply Kd.R_alloc | apply Kd.R_drewN | apply Kd.R_drew)); exact HO375.out⟩, ⟨by (with_reducible repeat first|apply bn_|apply bd_|apply ba_); exact BK364.out⟩, ⟨by (with_reducible repeat first|apply bn_|apply bd_|apply ba_); exact BK376.out⟩, ⟨ue_ HB.out⟩⟩
   ·
    replace c25 := Bool.eq_false_iff.mpr c25
    subst c25
    have H1 : (laws_FnExactPlaySource.j0 k a0 a1 l2 t361 t365 t373 true t356 t357 t358 t359 t360 t368 t369 t370 t371 t372) = some r := by rw [if_neg (show ¬ (false = true) by decide)] at H; exact H
    clear H
    have H := H1
    clear H1
    have H' := Aside0.mk H
    clear H
    have hnb33 := NB376_364.out
    have hnc33 := NB364_376.out
    have hcz34_0 := cb_ BK376.out 0 rfl
    have hcz34_1 := cb_ BK376.out 1 rfl
    have hcz34_2 := cb_ BK376.out 2 rfl
    have hcz34_3 := cb_ BK376.out 3 rfl
    have hcz34_4 := cb_ BK376.out 4 rfl
    have hfz34_0 := blk_frozen BK376.out 0
    have hfz34_1 := blk_frozen BK376.out 1
    have hfz34_2 := blk_frozen BK376.out 2
    have hfz34_3 := blk_frozen BK376.out 3
    have hfz34_4 := blk_frozen BK376.out 4
    have hcz35_0 := cb_ BK364.out 0 rfl
    have hcz35_1 := cb_ BK364.out 1 rfl
    have hcz35_2 := cb_ BK364.out 2 rfl
    have hcz35_3 := cb_ BK364.out 3 rfl
    have hcz35_4 := cb_ BK364.out 4 rfl
    have hfz35_0 := blk_frozen BK364.out 0
    have hfz35_1 := blk_frozen BK364.out 1
    have hfz35_2 := blk_frozen BK364.out 2
    have hfz35_3 := blk_frozen BK364.out 3
    have hfz35_4 := blk_frozen BK364.out 4
    go_wp2_with (first | ((with_reducible refine gate_callee (f := 54) rfl ?_); refine goesL_ (some 42) rfl rfl Try.func54 (by kernel_rfl) rfl #[.agg #[.int .i64 t368, .int .i64 t369, .int .i64 t370, .bool t371, .bool t372], .agg #[.int .i64 t356, .int .i64 t357, .int .i64 t358, .bool t359, .bool t360]] rfl ul_ ?_; (with_reducible refine (laws_eqSource.calls t368 t369 t370 t371 t372 t356 t357 t358 t359 t360 false _ A24.out).mono ?_); rintro e w36 ⟨rfl, hb⟩; refine ⟨_, rfl, ?_⟩; have n0_ := am_ (Kd.S_below (by (with_reducible repeat (first | apply Kd.S_alloc | apply Kd.S_drewN | apply Kd.S_drew)); exact HO355.out) hb); have n1_ := am_ (Kd.R_below (ur_ HO363.out) hb); have n2_ := am_ (Kd.S_below (by (with_reducible repeat (first | apply Kd.S_alloc | apply Kd.S_drewN | apply Kd.S_drew)); exact HO367.out) hb); have n3_ := am_ (Kd.R_below (ur_ HO375.out) hb); have n4_ := am_ (bb_ BK364.out hb); have n5_ := am_ (bb_ BK376.out hb); have n6_ := am_ (below_step (ue_ HB.out) hb); clear HO355 HO363 HO367 HO375 BK364 BK376 HB; have HO355 := n0_; have HO363 := n1_; have HO367 := n2_; have HO375 := n3_; have BK364 := n4_; have BK376 := n5_; have HB := n6_; clear n0_ n1_ n2_ n3_ n4_ n5_ n6_; (try clear hb); (try clear hb2); (try clear hk); (try clear hi)))
    go_meet
    case rel => exact ⟨_, (true), (by first | rfl | (simp; done) | (simp [*]; done)), H', ⟨by first | omega | exact Nat.le_refl _⟩, ⟨by (with_reducible repeat (first | apply Kd.R_alloc | apply Kd.R_drewN | apply Kd.R_drew)); exact HO363.out⟩, ⟨by (with_reducible repeat (first | apply Kd.S_alloc | apply Kd.S_drewN | apply Kd.S_drew)); exact Kd.S_mono HO367.out (fun _ hk => by first | exact ⟨hk.2.1, hk.2.2⟩ | grind)⟩, ⟨by (with_reducible repeat (first | apply Kd.R_alloc | apply Kd.R_drewN | apply Kd.R_drew)); exact HO375.out⟩, ⟨by (with_reducible repeat first|apply bn_|apply bd_|apply ba_); exact BK364.out⟩, ⟨by (with_reducible repeat first|apply bn_|apply bd_|apply ba_); exact BK376.out⟩, ⟨ue_ HB.out⟩⟩
  case rest =>
   clear HC10
   try clear c2
   try clear p2
   try clear c3
   try clear c5
   try clear c5b0
   try clear c8
   try clear c21
   try clear c25
   try clear c27
   try clear c33
   try clear hcz15_0
   try clear hcz15_1
   try clear hcz15_2
   try clear hcz15_3
   try clear hcz15_4
   try clear hcz22_0
   try clear hcz22_1
   try clear hcz22_2
   try clear hcz22_3
   try clear hcz22_4
   try clear hcz28_0
   try clear hcz28_1
   try clear hcz28_2
   try clear hcz28_3
   try clear hcz28_4
   try clear hcz29_0
   try clear hcz29_1
   try clear hcz29_2
   try clear hcz29_3
   try clear hcz29_4
   try clear hcz34_0
   try clear hcz34_1
   try clear hcz34_2
   try clear hcz34_3
   try clear hcz34_4
   try clear hcz35_0
   try clear hcz35_1
   try clear hcz35_2
   try clear hcz35_3
   try clear hcz35_4
   try clear hfz15_0
   try clear hfz15_1
   try clear hfz15_2
   try clear hfz15_3
   try clear hfz15_4
   try clear hfz22_0
   try clear hfz22_1
   try clear hfz22_2
   try clear hfz22_3
   try clear hfz22_4
   try clear hfz28_0
   try clear hfz28_1
   try clear hfz28_2
   try clear hfz28_3
   try clear hfz28_4
   try clear hfz29_0
   try clear hfz29_1
   try clear hfz29_2
   try clear hfz29_3
   try clear hfz29_4
   try clear hfz34_0
   try clear hfz34_1
   try clear hfz34_2
   try clear hfz34_3
   try clear hfz34_4
   try clear hfz35_0
   try clear hfz35_1
   try clear hfz35_2
   try clear hfz35_3
   try clear hfz35_4
   obtain ⟨kq, x49_9, rfl, HA, HJ9, HO_9, HO_10, HO_12, BK364, BK376, HB⟩ := hcut
   cases kq with
   | zero => exact absurd HA.out (by simp [laws_FnExactPlaySource.j0])
   | succ kj9 =>
    have H := HA.out
    clear HA
    simp only [laws_FnExactPlaySource.j0] at H
    by_cases c37 : x49_9 = true
    ·
     subst c37
     have H1 : (some false) = some r := by rw [if_pos rfl] at H; exact H
     clear H
     have H := H1
     clear H1
     exact absurd ((Option.some.inj H).trans hT.out) (by decide)
    ·
     replace c37 := Bool.eq_false_iff.mpr c37
     subst c37
     have H1 : ((laws_toIntSS.f kj9 l2).bind fun t379 => ((laws_eqIntSS.f kj9 t365 t379).bind fun t382 => (if t382 = true then ((laws_markIntSS.f kj9 t365 1).bind fun bt383 => (if bt383.1 < 0 then (laws_FnExactPlaySource.j1 kj9 a0 a1 l2 t361 t373 true t356 t357 t358 t359 t360) else ((laws_eqSource.f t368 t369 t370 t371 t372 t356 t357 t358 t359 t360).bind fun t385 => (if t385 = true then ((laws_eqIntS.f kj9 t373 t361).bind fun t386 => (laws_FnExactPlaySource.j1 kj9 a0 a1 l2 t361 t373 (!t386) t356 t357 t358 t359 t360)) else (laws_FnExactPlaySource.j1 kj9 a0 a1 l2 t361 t373 true t356 t357 t358 t359 t360))))) else (some false)))) = some r := by rw [if_neg (show ¬ (false = true) by decide)] at H; exact H
     clear H
     have H := H1
     clear H1
     replace H := Option.bind_eq_some_iff.mp H
     obtain ⟨t379, A380, H⟩ := H
     replace H : ((laws_eqIntSS.f kj9 t365 t379).bind fun t382 => (if t382 = true then ((laws_markIntSS.f kj9 t365 1).bind fun bt383 => (if bt383.1 < 0 then (laws_FnExactPlaySource.j1 kj9 a0 a1 l2 t361 t373 true t356 t357 t358 t359 t360) else ((laws_eqSource.f t368 t369 t370 t371 t372 t356 t357 t358 t359 t360).bind fun t385 => (if t385 = true then ((laws_eqIntS.f kj9 t373 t361).bind fun t386 => (laws_FnExactPlaySource.j1 kj9 a0 a1 l2 t361 t373 (!t386) t356 t357 t358 t359 t360)) else (laws_FnExactPlaySource.j1 kj9 a0 a1 l2 t361 t373 true t356 t357 t358 t359 t360))))) else (some false))) = some r := H
     have A38 := Aside0.mk A380
     clear A380
     replace H := Option.bind_eq_some_iff.mp H
     obtain ⟨t382, A390, H⟩ := H
     replace H : (if t382 = true then ((laws_markIntSS.f kj9 t365 1).bind fun bt383 => (if bt383.1 < 0 then (laws_FnExactPlaySource.j1 kj9 a0 a1 l2 t361 t373 true t356 t357 t358 t359 t360) else ((laws_eqSource.f t368 t369 t370 t371 t372 t356 t357 t358 t359 t360).bind fun t385 => (if t385 = true then ((laws_eqIntS.f kj9 t373 t361).bind fun t386 => (laws_FnExactPlaySource.j1 kj9 a0 a1 l2 t361 t373 (!t386) t356 t357 t358 t359 t360)) else (laws_FnExactPlaySource.j1 kj9 a0 a1 l2 t361 t373 true t356 t357 t358 t359 t360))))) else (some false)) = some r := H
     have A39 := Aside0.mk A390
     clear A390
     by_cases c40 : t382 = true
     ·
      subst c40
      have H1 : ((laws_markIntSS.f kj9 t365 1).bind fun bt383 => (if bt383.1 < 0 then (laws_FnExactPlaySource.j1 kj9 a0 a1 l2 t361 t373 true t356 t357 t358 t359 t360) else ((laws_eqSource.f t368 t369 t370 t371 t372 t356 t357 t358 t359 t360).bind fun t385 => (if t385 = true then ((laws_eqIntS.f kj9 t373 t361).bind fun t386 => (laws_FnExactPlaySource.j1 kj9 a0 a1 l2 t361 t373 (!t386) t356 t357 t358 t359 t360)) else (laws_FnExactPlaySource.j1 kj9 a0 a1 l2 t361 t373 true t356 t357 t358 t359 t360))))) = some r := by rw [if_pos rfl] at H; exact H
      clear H
      have H := H1
      clear H1
      replace H := Option.bind_eq_some_iff.mp H
      obtain ⟨⟨t383, t384⟩, A410, H⟩ := H
      replace H : (if t383 < 0 then (laws_FnExactPlaySource.j1 kj9 a0 a1 l2 t361 t373 true t356 t357 t358 t359 t360) else ((laws_eqSource.f t368 t369 t370 t371 t372 t356 t357 t358 t359 t360).bind fun t385 => (if t385 = true then ((laws_eqIntS.f kj9 t373 t361).bind fun t386 => (laws_FnExactPlaySource.j1 kj9 a0 a1 l2 t361 t373 (!t386) t356 t357 t358 t359 t360)) else (laws_FnExactPlaySource.j1 kj9 a0 a1 l2 t361 t373 true t356 t357 t358 t359 t360)))) = some r := H
      have A41 := Aside0.mk A410
      clear A410
      have HC42 := Aside0.mk H
      clear H
      go_upto_region 14 with (first | ((with_reducible refine gate_callee (f := 52) rfl ?_); refine goesL_ (some 52) rfl rfl Try.func52 (by kernel_rfl) rfl #[.slice A2 l2.length c2] rfl ul_ ?_; (with_reducible refine (laws_toIntSS.calls kj9 _ _ l2 t379 _ ?side1 ?side2 A38.out).mono ?_); (case side1 => repeat (first | exact (Kd.C_below HR2.out HB.out) | (with_reducible refine Kd.C_alloc ?_ _) | (with_reducible refine Kd.C_drewN ?_ _) | (with_reducible refine Kd.C_drew ?_))); (case side2 => exact HC2.out); rintro e w43 ⟨v380, rfl, ho0, hb⟩; refine ⟨_, rfl, ?_⟩; have n0_ := am_ (Kd.R_below (ur_ HO_9.out) hb); have n1_ := am_ (Kd.S_elder' (by (with_reducible repeat (first | apply Kd.S_alloc | apply Kd.S_drewN | apply Kd.S_drew)); exact HO_10.out) (Kd.S_base ho0) hb); have n2_ := am_ (Kd.R_below (ur_ HO_12.out) hb); have n3_ := am_ (Kd.S_lower (Kd.S_new' (Kd.S_new' (Kd.S_new' ho0 (Kd.R_lt (ur_ HO_9.out))) (Kd.S_lt (by (with_reducible repeat (first | apply Kd.S_alloc | apply Kd.S_drewN | apply Kd.S_drew)); exact HO_10.out))) (Kd.R_lt (ur_ HO_12.out))) (below_size (ue_ HB.out))); have n4_ := am_ (bb_ BK364.out hb); have n5_ := am_ (bb_ BK376.out hb); have n6_ := am_ (below_step (ue_ HB.out) hb); clear HO_9 HO_10 HO_12 BK364 BK376 HB; have HO_9 := n0_; have HO_10 := n1_; have HO_12 := n2_; have HO381 := n3_; have BK364 := n4_; have BK376 := n5_; have HB := n6_; clear n0_ n1_ n2_ n3_ n4_ n5_ n6_; (try clear hb); (try clear hb2); (try clear hk); (try clear hi); (try clear ho0); obtain ⟨Ao44, co44, eo44⟩ := Kd.S_slice HO381.out; subst eo44) | ((with_reducible refine gate_callee (f := 55) rfl ?_); refine goesL_ (some 53) rfl rfl Try.func55 (by kernel_rfl) rfl #[.slice Ao18 t365.length co18, .slice Ao44 t379.length co44] rfl ul_ ?_; (with_reducible refine (laws_eqIntSS.calls kj9 _ _ t365 _ _ t379 true _ ?side1 ?side2 ?side3 ?side4 A39.out).mono ?_); (case side1 => repeat (first | exact (Kd.S_reads' HO_10.out).2.2 | (with_reducible refine Kd.C_alloc ?_ _) | (with_reducible refine Kd.C_drewN ?_ _) | (with_reducible refine Kd.C_drew ?_))); (case side2 => exact (Kd.S_reads' HO_10.out).2.1); (case side3 => repeat (first | exact (Kd.S_reads' HO381.out).2.2 | (with_reducible refine Kd.C_alloc ?_ _) | (with_reducible refine Kd.C_drewN ?_ _) | (with_reducible refine Kd.C_drew ?_))); (case side4 => exact (Kd.S_reads' HO381.out).2.1); rintro e w' ⟨rfl, ⟨nd, rfl⟩⟩; refine ⟨_, rfl, ?_⟩) | ((with_reducible refine gate_callee (f := 56) rfl ?_); refine goesL_ (some 57) rfl rfl Try.func56 (by kernel_rfl) rfl #[.slice Ao18 t365.length co18, .int .i64 1] rfl ul_ ?_; (with_reducible refine (laws_markIntSS.calls kj9 (fun k_ => ((some k_ ≠ (v362 : Value).ownBlock ∧ some k_ ≠ (v374 : Value).ownBlock) ∧ k_ ≠ gb364) ∧ k_ ≠ gb376) (.slice Ao18 t365.length co18) t365 1 t383 t384 w _ ?side1 ?side2 A41.out).mono ?_); (case side1 => repeat (first | (with_reducible first | exact HB.out | apply below_alloc | apply pw_below_drewN | apply below_drew1 | refine below_set ?_ GE364.out | refine below_set ?_ GE376.out) | exact HB.out)); (case side2 => exact Kd.S_types (Kd.S_types (Kd.S_mono (ok' := fun k_ => some k_ ≠ (v362 : Value).ownBlock ∧ some k_ ≠ (v374 : Value).ownBlock) HO_10.out (fun k_ hk_ => by first | exact hk_ | grind)) BK364.out (by decide)) BK376.out (by decide)); rintro e w45 ⟨rfl, hy0, hb, hkp⟩; refine ⟨_, rfl, ?_⟩; have n0_ := am_ (Kd.R_mono (ok' := fun k_ => some k_ ≠ (v374 : Value).ownBlock) (Kd.R_kept (Kd.R_tight rfl HO_9.out) hkp (fun k_ hk_ hs_ => by first | exact hs_.1.1.1 hk_ | exact hs_.1.1.2 hk_)) (fun k_ hk_ => HO_9.out.1 k_ hk_.symm)); have n1_ := am_ (Kd.R_mono (ok' := fun k_ => some k_ ≠ (v362 : Value).ownBlock) (Kd.R_kept (Kd.R_tight rfl HO_12.out) hkp (fun k_ hk_ hs_ => by first | exact hs_.1.1.1 hk_ | exact hs_.1.1.2 hk_)) (fun k_ hk_ => HO_12.out.1 k_ hk_.symm)); have n2_ := am_ (blk_kept (g := gb364) (o := .cells #[.int .i64 t356, .int .i64 t357, .int .i64 t358, .bool t359, .bool t360] 72 (0, 0)) BK364.out hkp (fun hs_ => hs_.1.2 rfl)); have n3_ := am_ (blk_kept (g := gb376) (o := .cells #[.int .i64 t368, .int .i64 t369, .int .i64 t370, .bool t371, .bool t372] 72 (0, 0)) BK376.out hkp (fun hs_ => hs_.2 rfl)); have n4_ := am_ (hb); clear HO_9 HO_10 HO_12 BK364 BK376 HO381 HB; have HO_9 := n0_; have HO_12 := n1_; have BK364 := n2_; have BK376 := n3_; have HB := n4_; clear n0_ n1_ n2_ n3_ n4_; (try clear hb); (try clear hkp); (try clear hy0)))
      (try simp only [Act.put, List.setIfInBounds_toArray, List.set_cons_zero, List.set_cons_succ])
      go_cut [71] (fun v71 wc => ∃ (kq : Nat) (x71_41 : Bool), v71 = .bool x71_41 ∧ Aside0 (laws_FnExactPlaySource.j1 kq a0 a1 l2 t361 t373 x71_41 t356 t357 t358 t359 t360 = some r) ∧ Aside0 (kq ≤ kj9) ∧ Aside0 (Kd.R (Kd.int .i64) 3 wc w.heap.size (fun k_ => some k_ ≠ (v374 : Value).ownBlock) v362 t361) ∧ Aside0 (Kd.R (Kd.int .i64) 3 wc w.heap.size (fun k_ => some k_ ≠ (v362 : Value).ownBlock) v374 t373) ∧ Aside0 (wc.heap[gb364]? = some (.cells #[.int .i64 t356, .int .i64 t357, .int .i64 t358, .bool t359, .bool t360] 72 (0, 0))) ∧ Aside0 (wc.heap[gb376]? = some (.cells #[.int .i64 t368, .int .i64 t369, .int .i64 t370, .bool t371, .bool t372] 72 (0, 0))) ∧ Aside0 (Below w.heap.size w wc))
      case first =>
       have H := HC42.out
       clear HC42
       by_cases c46 : t383 < 0
       ·
        rw [if_pos c46] at H
        have c46b0 : decide (t383 < 0) = true := decide_eq_true c46
        clear c46
        (first | rw [c46b0] | (simp only [i64_w, i32_w]; rw [c46b0]) | skip)
        have H' := Aside0.mk H
        clear H
        go_wp2
        go_meet
        case rel => exact ⟨_, (true), (by first | rfl | (simp; done) | (simp [*]; done)), H', ⟨by have := HJ9.out; first | omega | exact Nat.le_refl _⟩, ⟨by (with_reducible repeat (first | apply Kd.R_alloc | apply Kd.R_drewN | apply Kd.R_drew)); exact HO_9.out⟩, ⟨by (with_reducible repeat (first | apply Kd.R_alloc | apply Kd.R_drewN | apply Kd.R_drew)); exact HO_12.out⟩, ⟨by (with_reducible repeat first|apply bn_|apply bd_|apply ba_); exact BK364.out⟩, ⟨by (with_reducible repeat first|apply bn_|apply bd_|apply ba_); exact BK376.out⟩, ⟨ue_ HB.out⟩⟩
       ·
        rw [if_neg c46] at H
        have c46b0 : decide (t383 < 0) = false := decide_eq_false c46
        clear c46
        (first | rw [c46b0] | (simp only [i64_w, i32_w]; rw [c46b0]) | skip)
        replace H := Option.bind_eq_some_iff.mp H
        obtain ⟨t385, A470, H⟩ := H
        replace H : (if t385 = true then ((laws_eqIntS.f kj9 t373 t361).bind fun t386 => (laws_FnExactPlaySource.j1 kj9 a0 a1 l2 t361 t373 (!t386) t356 t357 t358 t359 t360)) else (laws_FnExactPlaySource.j1 kj9 a0 a1 l2 t361 t373 true t356 t357 t358 t359 t360)) = some r := H
        have A47 := Aside0.mk A470
        clear A470
        by_cases c48 : t385 = true
        ·
         subst c48
         have H1 : ((laws_eqIntS.f kj9 t373 t361).bind fun t386 => (laws_FnExactPlaySource.j1 kj9 a0 a1 l2 t361 t373 (!t386) t356 t357 t358 t359 t360)) = some r := by rw [if_pos rfl] at H; exact H
         clear H
         have H := H1
         clear H1
         replace H := Option.bind_eq_some_iff.mp H
         obtain ⟨t386, A490, H⟩ := H
         replace H : (laws_FnExactPlaySource.j1 kj9 a0 a1 l2 t361 t373 (!t386) t356 t357 t358 t359 t360) = some r := H
         have A49 := Aside0.mk A490
         clear A490
         have H' := Aside0.mk H
         clear H
         have hnb50 := NB376_364.out
         have hnc50 := NB364_376.out
         have hcz51_0 := cb_ BK376.out 0 rfl
         have hcz51_1 := cb_ BK376.out 1 rfl
         have hcz51_2 := cb_ BK376.out 2 rfl
         have hcz51_3 := cb_ BK376.out 3 rfl
         have hcz51_4 := cb_ BK376.out 4 rfl
         have hfz51_0 := blk_frozen BK376.out 0
         have hfz51_1 := blk_frozen BK376.out 1
         have hfz51_2 := blk_frozen BK376.out 2
         have hfz51_3 := blk_frozen BK376.out 3
         have hfz51_4 := blk_frozen BK376.out 4
         have hcz52_0 := cb_ BK364.out 0 rfl
         have hcz52_1 := cb_ BK364.out 1 rfl
         have hcz52_2 := cb_ BK364.out 2 rfl
         have hcz52_3 := cb_ BK364.out 3 rfl
         have hcz52_4 := cb_ BK364.out 4 rfl
         have hfz52_0 := blk_frozen BK364.out 0
         have hfz52_1 := blk_frozen BK364.out 1
         have hfz52_2 := blk_frozen BK364.out 2
         have hfz52_3 := blk_frozen BK364.out 3
         have hfz52_4 := blk_frozen BK364.out 4
         go_wp2_with (first | (go_at_call 54; (with_reducible refine (laws_eqSource.calls t368 t369 t370 t371 t372 t356 t357 t358 t359 t360 true _ A47.out).mono ?_); rintro e w53 ⟨rfl, hb⟩; have n0_ := am_ (Kd.R_below (ur_ HO_9.out) hb); have n1_ := Aside0.mk True.intro; have n2_ := am_ (Kd.R_below (ur_ HO_12.out) hb); have n3_ := Aside0.mk True.intro; have n4_ := am_ (bb_ BK364.out hb); have n5_ := am_ (bb_ BK376.out hb); have n6_ := am_ (below_step (ue_ HB.out) hb); clear HO_9; (try clear HO_10); clear HO_12; (try clear HO381); clear BK364 BK376 HB; have HO_9 := n0_; have HO_10 := n1_; have HO_12 := n2_; have HO381 := n3_; have BK364 := n4_; have BK376 := n5_; have HB := n6_; clear n0_ n1_ n2_ n3_ n4_ n5_ n6_; (try clear hb); (try clear hb2); (try clear hk); (try clear hi); obtain ⟨Ao54, co54, eo54⟩ := Kd.R_slice HO_12.out; subst eo54; obtain ⟨Ao55, co55, eo55⟩ := Kd.R_slice HO_9.out; subst eo55) | (go_at_call 19; (with_reducible refine (laws_eqIntS.calls kj9 _ _ t373 _ _ t361 t386 _ ?side1 ?side2 ?side3 ?side4 A49.out).mono ?_); (case side1 => repeat (first | exact (Kd.R_reads' HO_12.out).2.2 | (with_reducible refine Kd.C_alloc ?_ _) | (with_reducible refine Kd.C_drewN ?_ _) | (with_reducible refine Kd.C_drew ?_))); (case side2 => exact (Kd.R_reads' HO_12.out).2.1); (case side3 => repeat (first | exact (Kd.R_reads' HO_9.out).2.2 | (with_reducible refine Kd.C_alloc ?_ _) | (with_reducible refine Kd.C_drewN ?_ _) | (with_reducible refine Kd.C_drew ?_))); (case side4 => exact (Kd.R_reads' HO_9.out).2.1); rintro e w' ⟨rfl, ⟨nd, rfl⟩⟩))
         go_meet
         case rel => exact ⟨_, (!t386), (by first | rfl | (simp; done) | (simp [*]; done)), H', ⟨by have := HJ9.out; first | omega | exact Nat.le_refl _⟩, ⟨by (with_reducible repeat (first | apply Kd.R_alloc | apply Kd.R_drewN | apply Kd.R_drew)); exact HO_9.out⟩, ⟨by (with_reducible repeat (first | apply Kd.R_alloc | apply Kd.R_drewN | apply Kd.R_drew)); exact HO_12.out⟩, ⟨by (with_reducible repeat first|apply bn_|apply bd_|apply ba_); exact BK364.out⟩, ⟨by (with_reducible repeat first|apply bn_|apply bd_|apply ba_); exact BK376.out⟩, ⟨ue_ HB.out⟩⟩
        ·
         replace c48 := Bool.eq_false_iff.mpr c48
         subst c48
         have H1 : (laws_FnExactPlaySource.j1 kj9 a0 a1 l2 t361 t373 true t356 t357 t358 t359 t360) = some r := by rw [if_neg (show ¬ (false = true) by decide)] at H; exact H
         clear H
         have H := H1
         clear H1
         have H' := Aside0.mk H
         clear H
         have hnb56 := NB376_364.out
         have hnc56 := NB364_376.out
         have hcz57_0 := cb_ BK376.out 0 rfl
         have hcz57_1 := cb_ BK376.out 1 rfl
         have hcz57_2 := cb_ BK376.out 2 rfl
         have hcz57_3 := cb_ BK376.out 3 rfl
         have hcz57_4 := cb_ BK376.out 4 rfl
         have hfz57_0 := blk_frozen BK376.out 0
         have hfz57_1 := blk_frozen BK376.out 1
         have hfz57_2 := blk_frozen BK376.out 2
         have hfz57_3 := blk_frozen BK376.out 3
         have hfz57_4 := blk_frozen BK376.out 4
         have hcz58_0 := cb_ BK364.out 0 rfl
         have hcz58_1 := cb_ BK364.out 1 rfl
         have hcz58_2 := cb_ BK364.out 2 rfl
         have hcz58_3 := cb_ BK364.out 3 rfl
         have hcz58_4 := cb_ BK364.out 4 rfl
         have hfz58_0 := blk_frozen BK364.out 0
         have hfz58_1 := blk_frozen BK364.out 1
         have hfz58_2 := blk_frozen BK364.out 2
         have hfz58_3 := blk_frozen BK364.out 3
         have hfz58_4 := blk_frozen BK364.out 4
         go_wp2_with (first | (go_at_call 54; (with_reducible refine (laws_eqSource.calls t368 t369 t370 t371 t372 t356 t357 t358 t359 t360 false _ A47.out).mono ?_); rintro e w59 ⟨rfl, hb⟩; have n0_ := am_ (Kd.R_below (ur_ HO_9.out) hb); have n1_ := Aside0.mk True.intro; have n2_ := am_ (Kd.R_below (ur_ HO_12.out) hb); have n3_ := Aside0.mk True.intro; have n4_ := am_ (bb_ BK364.out hb); have n5_ := am_ (bb_ BK376.out hb); have n6_ := am_ (below_step (ue_ HB.out) hb); clear HO_9; (try clear HO_10); clear HO_12; (try clear HO381); clear BK364 BK376 HB; have HO_9 := n0_; have HO_10 := n1_; have HO_12 := n2_; have HO381 := n3_; have BK364 := n4_; have BK376 := n5_; have HB := n6_; clear n0_ n1_ n2_ n3_ n4_ n5_ n6_; (try clear hb); (try clear hb2); (try clear hk); (try clear hi)))
         go_meet
         case rel => exact ⟨_, (true), (by first | rfl | (simp; done) | (simp [*]; done)), H', ⟨by have := HJ9.out; first | omega | exact Nat.le_refl _⟩, ⟨by (with_reducible repeat (first | apply Kd.R_alloc | apply Kd.R_drewN | apply Kd.R_drew)); exact HO_9.out⟩, ⟨by (with_reducible repeat (first | apply Kd.R_alloc | apply Kd.R_drewN | apply Kd.R_drew)); exact HO_12.out⟩, ⟨by (with_reducible repeat first|apply bn_|apply bd_|apply ba_); exact BK364.out⟩, ⟨by (with_reducible repeat first|apply bn_|apply bd_|apply ba_); exact BK376.out⟩, ⟨ue_ HB.out⟩⟩
      case rest =>
       clear HC42
       try clear c2
       try clear p2
       try clear c3
       try clear c4
       try clear c5
       try clear c5b0
       try clear c8
       try clear c21
       try clear c25
       try clear c27
       try clear c33
       try clear c37
       try clear c40
       try clear c46
       try clear c46b0
       try clear c48
       try clear c50
       try clear c51
       try clear c52
       try clear c53
       try clear c54
       try clear c55
       try clear c56
       try clear hcz15_0
       try clear hcz15_1
       try clear hcz15_2
       try clear hcz15_3
       try clear hcz15_4
       try clear hcz22_0
       try clear hcz22_1
       try clear hcz22_2
       try clear hcz22_3
       try clear hcz22_4
       try clear hcz28_0
       try clear hcz28_1
       try clear hcz28_2
       try clear hcz28_3
       try clear hcz28_4
       try clear hcz29_0
       try clear hcz29_1
       try clear hcz29_2
       try clear hcz29_3
       try clear hcz29_4
       try clear hcz34_0
       try clear hcz34_1
       try clear hcz34_2
       try clear hcz34_3
       try clear hcz34_4
       try clear hcz35_0
       try clear hcz35_1
       try clear hcz35_2
       try clear hcz35_3
       try clear hcz35_4
       try clear hcz51_0
       try clear hcz51_1
       try clear hcz51_2
       try clear hcz51_3
       try clear hcz51_4
       try clear hcz52_0
       try clear hcz52_1
       try clear hcz52_2
       try clear hcz52_3
       try clear hcz52_4
       try clear hcz57_0
       try clear hcz57_1
       try clear hcz57_2
       try clear hcz57_3
       try clear hcz57_4
       try clear hcz58_0
       try clear hcz58_1
       try clear hcz58_2
       try clear hcz58_3
       try clear hcz58_4
       try clear hfz15_0
       try clear hfz15_1
       try clear hfz15_2
       try clear hfz15_3
       try clear hfz15_4
       try clear hfz22_0
       try clear hfz22_1
       try clear hfz22_2
       try clear hfz22_3
       try clear hfz22_4
       try clear hfz28_0
       try clear hfz28_1
       try clear hfz28_2
       try clear hfz28_3
       try clear hfz28_4
       try clear hfz29_0
       try clear hfz29_1
       try clear hfz29_2
       try clear hfz29_3
       try clear hfz29_4
       try clear hfz34_0
       try clear hfz34_1
       try clear hfz34_2
       try clear hfz34_3
       try clear hfz34_4
       try clear hfz35_0
       try clear hfz35_1
       try clear hfz35_2
       try clear hfz35_3
       try clear hfz35_4
       try clear hfz51_0
       try clear hfz51_1
       try clear hfz51_2
       try clear hfz51_3
       try clear hfz51_4
       try clear hfz52_0
       try clear hfz52_1
       try clear hfz52_2
       try clear hfz52_3
       try clear hfz52_4
       try clear hfz57_0
       try clear hfz57_1
       try clear hfz57_2
       try clear hfz57_3
       try clear hfz57_4
       try clear hfz58_0
       try clear hfz58_1
       try clear hfz58_2
       try clear hfz58_3
       try clear hfz58_4
       try clear p2
       obtain ⟨kq, x71_41, rfl, HA, HJ41, HO_9, HO_12, BK364, BK376, HB⟩ := hcut
       cases kq with
       | zero => exact absurd HA.out (by simp [laws_FnExactPlaySource.j1])
       | succ kj41 =>
        have H := HA.out
        clear HA
        simp only [laws_FnExactPlaySource.j1] at H
        by_cases c60 : x71_41 = true
        ·
         subst c60
         have H1 : (some false) = some r := by rw [if_pos rfl] at H; exact H
         clear H
         have H := H1
         clear H1
         exact absurd ((Option.some.inj H).trans hT.out) (by decide)
        ·
         replace c60 := Bool.eq_false_iff.mpr c60
         subst c60
         have H1 : ((laws_markIntS.f kj41 t373 1).bind fun bt387 => ((laws_heldIntS.f kj41 bt387.2 1).bind fun t389 => (if t389 < 0 then (some false) else (if t389 = bt387.1 then ((laws_toIntSS.f kj41 l2).bind fun t390 => ((impl_PlaySource.f kj41 a0 a1 t390).bind fun bt393 => ((laws_eqSource.f bt393.1 bt393.2.1 bt393.2.2.1 bt393.2.2.2.1 bt393.2.2.2.2.1 t356 t357 t358 t359 t360).bind fun t402 => (if t402 = true then ((laws_eqIntS.f kj41 bt393.2.2.2.2.2 t361).bind fun t403 => (laws_FnExactPlaySource.j2 kj41 bt387.2 bt387.1 (!t403))) else (laws_FnExactPlaySource.j2 kj41 bt387.2 bt387.1 true))))) else (some false))))) = some r := by rw [if_neg (show ¬ (false = true) by decide)] at H; exact H
         clear H
         have H := H1
         clear H1
         replace H := Option.bind_eq_some_iff.mp H
         obtain ⟨⟨t387, t388⟩, A610, H⟩ := H
         replace H : ((laws_heldIntS.f kj41 t388 1).bind fun t389 => (if t389 < 0 then (some false) else (if t389 = t387 then ((laws_toIntSS.f kj41 l2).bind fun t390 => ((impl_PlaySource.f kj41 a0 a1 t390).bind fun bt393 => ((laws_eqSource.f bt393.1 bt393.2.1 bt393.2.2.1 bt393.2.2.2.1 bt393.2.2.2.2.1 t356 t357 t358 t359 t360).bind fun t402 => (if t402 = true then ((laws_eqIntS.f kj41 bt393.2.2.2.2.2 t361).bind fun t403 => (laws_FnExactPlaySource.j2 kj41 t388 t387 (!t403))) else (laws_FnExactPlaySource.j2 kj41 t388 t387 true))))) else (some false)))) = some r := H
         have A61 := Aside0.mk A610
         clear A610
         replace H := Option.bind_eq_some_iff.mp H
         obtain ⟨t389, A620, H⟩ := H
         replace H : (if t389 < 0 then (some false) else (if t389 = t387 then ((laws_toIntSS.f kj41 l2).bind fun t390 => ((impl_PlaySource.f kj41 a0 a1 t390).bind fun bt393 => ((laws_eqSource.f bt393.1 bt393.2.1 bt393.2.2.1 bt393.2.2.2.1 bt393.2.2.2.2.1 t356 t357 t358 t359 t360).bind fun t402 => (if t402 = true then ((laws_eqIntS.f kj41 bt393.2.2.2.2.2 t361).bind fun t403 => (laws_FnExactPlaySource.j2 kj41 t388 t387 (!t403))) else (laws_FnExactPlaySource.j2 kj41 t388 t387 true))))) else (some false))) = some r := H
         have A62 := Aside0.mk A620
         clear A620
         by_cases c63 : t389 < 0
         ·
          rw [if_pos c63] at H
          have c63b0 : decide (t389 < 0) = true := decide_eq_true c63
          clear c63
          exact absurd ((Option.some.inj H).trans hT.out) (by decide)
         ·
          rw [if_neg c63] at H
          have c63b0 : decide (t389 < 0) = false := decide_eq_false c63
          clear c63
          by_cases c64 : t389 = t387
          ·
           rw [if_pos c64] at H
           have c64b0 : (t389 == t387) = true := beq_iff_eq.mpr c64
           have c64b1 : (t389 != t387) = false := bne_eq_false_iff_eq.mpr c64
           clear c64
           replace H := Option.bind_eq_some_iff.mp H
           obtain ⟨t390, A650, H⟩ := H
           replace H : ((impl_PlaySource.f kj41 a0 a1 t390).bind fun bt393 => ((laws_eqSource.f bt393.1 bt393.2.1 bt393.2.2.1 bt393.2.2.2.1 bt393.2.2.2.2.1 t356 t357 t358 t359 t360).bind fun t402 => (if t402 = true then ((laws_eqIntS.f kj41 bt393.2.2.2.2.2 t361).bind fun t403 => (laws_FnExactPlaySource.j2 kj41 t388 t387 (!t403))) else (laws_FnExactPlaySource.j2 kj41 t388 t387 true)))) = some r := H
           have A65 := Aside0.mk A650
           clear A650
           replace H := Option.bind_eq_some_iff.mp H
           obtain ⟨⟨t393, t394, t395, t396, t397, t398⟩, A660, H⟩ := H
           replace H : ((laws_eqSource.f t393 t394 t395 t396 t397 t356 t357 t358 t359 t360).bind fun t402 => (if t402 = true then ((laws_eqIntS.f kj41 t398 t361).bind fun t403 => (laws_FnExactPlaySource.j2 kj41 t388 t387 (!t403))) else (laws_FnExactPlaySource.j2 kj41 t388 t387 true))) = some r := H
           have A66 := Aside0.mk A660
           clear A660
           have HC67 := Aside0.mk H
           clear H
           obtain ⟨Ao68, co68, eo68⟩ := Kd.R_slice HO_12.out
           subst eo68
           go_upto_region 25 with (first | ((with_reducible refine gate_callee (f := 20) rfl ?_); refine goesL_ (some 74) rfl rfl Try.func20 (by kernel_rfl) rfl #[.slice Ao68 t373.length co68, .int .i64 1] rfl ul_ ?_; (with_reducible refine (laws_markIntS.calls kj41 (fun k_ => some k_ = (.slice Ao68 t373.length co68 : Value).ownBlock) (.slice Ao68 t373.length co68) t373 1 t387 t388 w _ ?side1 ?side2 A61.out).mono ?_); (case side1 => repeat (first | (with_reducible first | exact HB.out | apply below_alloc | apply pw_below_drewN | apply below_drew1 | refine below_set ?_ GE364.out | refine below_set ?_ GE376.out) | exact HB.out)); (case side2 => exact Kd.R_tight rfl HO_12.out); rintro e w69 ⟨rfl, hy0, hb, hkp⟩; refine ⟨_, rfl, ?_⟩; have n0_ := am_ (Kd.R_mono (ok' := fun k_ => some k_ ≠ (.slice Ao68 t373.length co68 : Value).ownBlock) (Kd.R_keptB (HO_9.out) hkp (fun k_ hk_ hs_ => (hk_) hs_)) (fun k_ hk_ => hk_.1)); have n1_ := am_ (Kd.R_reok rfl hy0 (fun k_ e_ => HO_12.out.1 k_ e_)); have n2_ := am_ (blk_kept (g := gb364) (o := .cells #[.int .i64 t356, .int .i64 t357, .int .i64 t358, .bool t359, .bool t360] 72 (0, 0)) (ub_ BK364.out) hkp (fun hs_ => (fun e_ => (Kd.R_ne HO_12.out BK364.out (by decide)) e_) hs_)); have n3_ := am_ (blk_kept (g := gb376) (o := .cells #[.int .i64 t368, .int .i64 t369, .int .i64 t370, .bool t371, .bool t372] 72 (0, 0)) (ub_ BK376.out) hkp (fun hs_ => (fun e_ => (Kd.R_ne HO_12.out BK376.out (by decide)) e_) hs_)); have n4_ := am_ (hb); clear HO_9 HO_12 BK364 BK376 HB; have HO_9 := n0_; have HO_12 := n1_; have BK364 := n2_; have BK376 := n3_; have HB := n4_; clear n0_ n1_ n2_ n3_ n4_; (try clear hb); (try clear hkp); (try clear hy0)) | ((with_reducible refine gate_callee (f := 23) rfl ?_); refine goesL_ (some 77) rfl rfl Try.func23 (by kernel_rfl) rfl #[.slice Ao68 t388.length co68, .int .i64 1] rfl (by (try simp only [List.map_toArray, List.map_cons, List.map_nil]); first | done | (rw [show t388.length = t373.length from (Kd.R_reads' HO_12.out).1.symm] <;> rfl) | rfl | (simp only [List.length_drop, List.length_take]; rfl)) ?_; (with_reducible refine (laws_heldIntS.calls kj41 _ _ t388 1 t389 _ ?side1 ?side2 A62.out).mono ?_); (case side1 => repeat (first | exact (Kd.R_reads' HO_12.out).2.2 | (with_reducible refine Kd.C_alloc ?_ _) | (with_reducible refine Kd.C_drewN ?_ _) | (with_reducible refine Kd.C_drew ?_))); (case side2 => rw [show t388.length = t373.length from (Kd.R_reads' HO_12.out).1.symm]; exact (Kd.R_reads' HO_12.out).2.1); rintro e w' ⟨rfl, ⟨nd, rfl⟩⟩; refine ⟨_, rfl, ?_⟩; (try (rw [drewN_self w69]; generalize hq_ : World.drewN w69 _ = w69; have n0_ : Aside0 (Kd.R (Kd.int .i64) 3 w69 w.heap.size (fun k_ => some k_ ≠ (v362 : Value).ownBlock) (.slice Ao68 t373.length co68) t388) := ⟨by rw [← hq_]; exact (ur_ HO_12.out)⟩; have n1_ : Aside0 (Kd.R (Kd.int .i64) 3 w69 w.heap.size (fun k_ => some k_ ≠ (.slice Ao68 t373.length co68 : Value).ownBlock) v362 t361) := ⟨by rw [← hq_]; exact (ur_ HO_9.out)⟩; have n2_ : Aside0 (w69.heap[gb364]? = some (.cells #[.int .i64 t356, .int .i64 t357, .int .i64 t358, .bool t359, .bool t360] 72 (0, 0))) := ⟨by rw [← hq_]; exact (ub_ BK364.out)⟩; have n3_ : Aside0 (w69.heap[gb376]? = some (.cells #[.int .i64 t368, .int .i64 t369, .int .i64 t370, .bool t371, .bool t372] 72 (0, 0))) := ⟨by rw [← hq_]; exact (ub_ BK376.out)⟩; have n4_ : Aside0 (Below w.heap.size w w69) := ⟨by rw [← hq_]; exact (ue_ HB.out)⟩; clear HO_12 HO_9 BK364 BK376 HB hq_; have HO_12 := n0_; have HO_9 := n1_; have BK364 := n2_; have BK376 := n3_; have HB := n4_; clear n0_ n1_ n2_ n3_ n4_))) | ((with_reducible refine gate_callee (f := 52) rfl ?_); refine goesL_ (some 87) rfl rfl Try.func52 (by kernel_rfl) rfl #[.slice A2 l2.length c2] rfl ul_ ?_; (with_reducible refine (laws_toIntSS.calls kj41 _ _ l2 t390 _ ?side1 ?side2 A65.out).mono ?_); (case side1 => repeat (first | exact (Kd.C_below HR2.out HB.out) | (with_reducible refine Kd.C_alloc ?_ _) | (with_reducible refine Kd.C_drewN ?_ _) | (with_reducible refine Kd.C_drew ?_))); (case side2 => exact HC2.out); rintro e w70 ⟨v391, rfl, ho0, hb⟩; refine ⟨_, rfl, ?_⟩; have n0_ := am_ (Kd.R_below (ur_ HO_9.out) hb); have n1_ := am_ (Kd.R_below (ur_ HO_12.out) hb); have n2_ := am_ (Kd.S_lower (Kd.S_new' (Kd.S_new' ho0 (Kd.R_lt (ur_ HO_9.out))) (Kd.R_lt (ur_ HO_12.out))) (below_size (ue_ HB.out))); have n3_ := am_ (bb_ BK364.out hb); have n4_ := am_ (bb_ BK376.out hb); have n5_ := am_ (below_step (ue_ HB.out) hb); clear HO_9 HO_12 BK364 BK376 HB; have HO_9 := n0_; have HO_12 := n1_; have HO392 := n2_; have BK364 := n3_; have BK376 := n4_; have HB := n5_; clear n0_ n1_ n2_ n3_ n4_ n5_; (try clear hb); (try clear hb2); (try clear hk); (try clear hi); (try clear ho0); obtain ⟨Ao71, co71, eo71⟩ := Kd.S_slice HO392.out; subst eo71) | ((with_reducible refine gate_callee (f := 53) rfl ?_); refine goesL_ (some 88) rfl rfl Try.func53 (by kernel_rfl) rfl #[.int .i64 a0, .int .i64 a1, .slice Ao71 t390.length co71] rfl ul_ ?_; (with_reducible refine (impl_PlaySource.calls kj41 a0 a1 _ _ t390 t393 t394 t395 t396 t397 t398 _ ?side1 ?side2 A66.out).mono ?_); (case side1 => repeat (first | exact (Kd.S_reads' HO392.out).2.2 | (with_reducible refine Kd.C_alloc ?_ _) | (with_reducible refine Kd.C_drewN ?_ _) | (with_reducible refine Kd.C_drew ?_))); (case side2 => exact (Kd.S_reads' HO392.out).2.1); rintro e w72 ⟨v399, rfl, ho0, hb⟩; refine ⟨_, rfl, ?_⟩; have n0_ := am_ (Kd.R_elder' (ur_ HO_9.out) (Kd.R_base ho0) hb); have n1_ := am_ (Kd.R_elder' (ur_ HO_12.out) (Kd.R_base ho0) hb); have n2_ := am_ (Kd.S_elder' (by (with_reducible repeat (first | apply Kd.S_alloc | apply Kd.S_drewN | apply Kd.S_drew)); exact HO392.out) (Kd.R_base ho0) hb); have n3_ := am_ (Kd.R_lower (Kd.R_new' (Kd.R_new' ho0 (Kd.R_lt (ur_ HO_9.out))) (Kd.R_lt (ur_ HO_12.out))) (below_size (ue_ HB.out))); have n4_ := am_ (bb_ BK364.out hb); have n5_ := am_ (bb_ BK376.out hb); have n6_ := am_ (below_step (ue_ HB.out) hb); clear HO_9 HO_12 HO392 BK364 BK376 HB; have HO_9 := n0_; have HO_12 := n1_; have HO392 := n2_; have HO400 := n3_; have BK364 := n4_; have BK376 := n5_; have HB := n6_; clear n0_ n1_ n2_ n3_ n4_ n5_ n6_; (try clear hb); (try clear hb2); (try clear hk); (try clear hi); (try clear ho0)) | ((with_reducible refine gate_dst (N := 16) rfl ?_); refine box_event ?hg (N := 16) ?hd (cs := #[.int .i64 0, .int .i64 0, .int .i64 0, .bool false, .bool false]) (t := 72) ?hr ?_; (case hd => rfl); (case hg => rfl); (case hr => first | (go_simp; done) | (go_simp; rfl)); intro gb401 hg w73 hbox hb; have n0_ := am_ (Kd.R_below (ur_ HO_9.out) hb); have n1_ := am_ (Kd.R_below (ur_ HO_12.out) hb); have n2_ := am_ (Kd.S_below (by (with_reducible repeat (first | apply Kd.S_alloc | apply Kd.S_drewN | apply Kd.S_drew)); exact HO392.out) hb); have n3_ := am_ (Kd.R_below (ur_ HO400.out) hb); have n4_ := am_ (bb_ BK364.out hb); have n5_ := am_ (bb_ BK376.out hb); have n6_ := am_ (below_step (ue_ HB.out) hb); have n7_ := am_ (hbox); have n8_ := am_ ((by rw [hg]; exact (below_size (ue_ HB.out)) : w.heap.size ≤ gb401)); have n9_ := am_ ((by rw [hg]; exact (below_size (ue_ HB.out)) : w.heap.size ≤ gb401)); have n10_ := am_ ((by rw [hg]; exact Nat.ne_of_lt (bl_ BK364.out) : gb364 ≠ gb401)); have n11_ := am_ ((by rw [hg]; exact Nat.ne_of_gt (bl_ BK364.out) : gb401 ≠ gb364)); have n12_ := am_ ((by rw [hg]; exact Nat.ne_of_lt (bl_ BK376.out) : gb376 ≠ gb401)); have n13_ := am_ ((by rw [hg]; exact Nat.ne_of_gt (bl_ BK376.out) : gb401 ≠ gb376)); clear HO_9 HO_12 HO392 HO400 BK364 BK376 HB; have HO_9 := n0_; have HO_12 := n1_; have HO392 := n2_; have HO400 := n3_; have BK364 := n4_; have BK376 := n5_; have HB := n6_; have BK401 := n7_; have GW401 := n8_; have GE401 := n9_; have NB364_401 := n10_; have NB401_364 := n11_; have NB376_401 := n12_; have NB401_376 := n13_; clear n0_ n1_ n2_ n3_ n4_ n5_ n6_ n7_ n8_ n9_ n10_ n11_ n12_ n13_; clear hb hbox hg; have hnb74 := NB401_364.out; have hnc74 := NB364_401.out; have hnb75 := NB401_376.out; have hnc75 := NB376_401.out; obtain ⟨hcz76_0, hcz76_1, hcz76_2, hcz76_3, hcz76_4⟩ := cb5_ BK401.out; obtain ⟨hfz76_0, hfz76_1, hfz76_2, hfz76_3⟩ := bf4_ BK401.out; have hfz76_4 := blk_frozen BK401.out 4) | ((with_reducible refine gate_store (t := 72) (p := 16) rfl ?_); refine store_event (t := 72) (p := 16) (v := ?vo_w77) (w1 := (((((w73.setCell ⟨gb401, 0, none⟩ (.int .i64 t393)).setCell ⟨gb401, 1, none⟩ (.int .i64 t394)).setCell ⟨gb401, 2, none⟩ (.int .i64 t395)).setCell ⟨gb401, 3, none⟩ (.bool t396)).setCell ⟨gb401, 4, none⟩ (.bool t397))) ?hg ?ho ?hn ?hr ?_; (case ho => rfl); (case hg => rfl); (case hn => rfl); (case hr => first | (go_simp; done) | (go_simp; rfl)); intro w77 hw; have n0_ : Aside0 (Kd.R (Kd.int .i64) 3 w77 w.heap.size (fun k_ => some k_ ≠ (.slice Ao68 t373.length co68 : Value).ownBlock ∧ some k_ ≠ (v399 : Value).ownBlock) v362 t361) := ⟨(by rw [hw]; exact (by (with_reducible repeat (first | apply Kd.R_alloc | apply Kd.R_drewN | apply Kd.R_drew)); exact Kd.R_mono (Kd.R_far (p := ⟨gb401, 4, none⟩) (Kd.R_far (p := ⟨gb401, 3, none⟩) (Kd.R_far (p := ⟨gb401, 2, none⟩) (Kd.R_far (p := ⟨gb401, 1, none⟩) (Kd.R_far (p := ⟨gb401, 0, none⟩) (Kd.R_types HO_9.out BK401.out (by decide)) (fun _ hk => by first | exact hk.2 | grind) (.int .i64 t393)) (fun _ hk => by first | exact hk.2 | grind) (.int .i64 t394)) (fun _ hk => by first | exact hk.2 | grind) (.int .i64 t395)) (fun _ hk => by first | exact hk.2 | grind) (.bool t396)) (fun _ hk => by first | exact hk.2 | grind) (.bool t397)) (fun _ hk => by first | exact ⟨hk.1.1, hk.1.2⟩ | grind)))⟩; have n1_ : Aside0 (Kd.R (Kd.int .i64) 3 w77 w.heap.size (fun k_ => some k_ ≠ (v362 : Value).ownBlock ∧ some k_ ≠ (v399 : Value).ownBlock) (.slice Ao68 t373.length co68) t388) := ⟨(by rw [hw]; exact (by (with_reducible repeat (first | apply Kd.R_alloc | apply Kd.R_drewN | apply Kd.R_drew)); exact Kd.R_mono (Kd.R_far (p := ⟨gb401, 4, none⟩) (Kd.R_far (p := ⟨gb401, 3, none⟩) (Kd.R_far (p := ⟨gb401, 2, none⟩) (Kd.R_far (p := ⟨gb401, 1, none⟩) (Kd.R_far (p := ⟨gb401, 0, none⟩) (Kd.R_types HO_12.out BK401.out (by decide)) (fun _ hk => by first | exact hk.2 | grind) (.int .i64 t393)) (fun _ hk => by first | exact hk.2 | grind) (.int .i64 t394)) (fun _ hk => by first | exact hk.2 | grind) (.int .i64 t395)) (fun _ hk => by first | exact hk.2 | grind) (.bool t396)) (fun _ hk => by first | exact hk.2 | grind) (.bool t397)) (fun _ hk => by first | exact ⟨hk.1.1, hk.1.2⟩ | grind)))⟩; have n2_ : Aside0 (Kd.S (Kd.slice 3 (Kd.int .i64)) 22 w77 w.heap.size (fun k_ => some k_ ≠ (v362 : Value).ownBlock ∧ some k_ ≠ (.slice Ao68 t373.length co68 : Value).ownBlock ∧ some k_ ≠ (v399 : Value).ownBlock) (.slice Ao71 t390.length co71) t390) := ⟨(by rw [hw]; exact (by (with_reducible repeat (first | apply Kd.S_alloc | apply Kd.S_drewN | apply Kd.S_drew)); exact Kd.S_mono (Kd.S_far (p := ⟨gb401, 4, none⟩) (Kd.S_far (p := ⟨gb401, 3, none⟩) (Kd.S_far (p := ⟨gb401, 2, none⟩) (Kd.S_far (p := ⟨gb401, 1, none⟩) (Kd.S_far (p := ⟨gb401, 0, none⟩) (Kd.S_types HO392.out BK401.out (by decide)) (fun _ hk => by first | exact hk.2 | grind) (.int .i64 t393)) (fun _ hk => by first | exact hk.2 | grind) (.int .i64 t394)) (fun _ hk => by first | exact hk.2 | grind) (.int .i64 t395)) (fun _ hk => by first | exact hk.2 | grind) (.bool t396)) (fun _ hk => by first | exact hk.2 | grind) (.bool t397)) (fun _ hk => by first | exact ⟨hk.1.1.1.2, ⟨hk.1.1.2, hk.1.2⟩⟩ | grind)))⟩; have n3_ : Aside0 (Kd.R (Kd.int .i64) 3 w77 w.heap.size (fun k_ => some k_ ≠ (v362 : Value).ownBlock ∧ some k_ ≠ (.slice Ao68 t373.length co68 : Value).ownBlock) v399 t398) := ⟨(by rw [hw]; exact (by (with_reducible repeat (first | apply Kd.R_alloc | apply Kd.R_drewN | apply Kd.R_drew)); exact Kd.R_mono (Kd.R_far (p := ⟨gb401, 4, none⟩) (Kd.R_far (p := ⟨gb401, 3, none⟩) (Kd.R_far (p := ⟨gb401, 2, none⟩) (Kd.R_far (p := ⟨gb401, 1, none⟩) (Kd.R_far (p := ⟨gb401, 0, none⟩) (Kd.R_types HO400.out BK401.out (by decide)) (fun _ hk => by first | exact hk.2 | grind) (.int .i64 t393)) (fun _ hk => by first | exact hk.2 | grind) (.int .i64 t394)) (fun _ hk => by first | exact hk.2 | grind) (.int .i64 t395)) (fun _ hk => by first | exact hk.2 | grind) (.bool t396)) (fun _ hk => by first | exact hk.2 | grind) (.bool t397)) (fun _ hk => by first | exact ⟨hk.1.1.2, hk.1.2⟩ | grind)))⟩; have n4_ : Aside0 (w77.heap[gb364]? = some (.cells #[.int .i64 t356, .int .i64 t357, .int .i64 t358, .bool t359, .bool t360] 72 (0, 0))) := ⟨(by rw [hw]; exact (uf_ BK364.out))⟩; have n5_ : Aside0 (w77.heap[gb376]? = some (.cells #[.int .i64 t368, .int .i64 t369, .int .i64 t370, .bool t371, .bool t372] 72 (0, 0))) := ⟨(by rw [hw]; exact (uf_ BK376.out))⟩; have n6_ : Aside0 (w77.heap[gb401]? = some (.cells #[.int .i64 t393, .int .i64 t394, .int .i64 t395, .bool t396, .bool t397] 72 (0, 0))) := ⟨(by rw [hw]; exact (by (with_reducible repeat first|apply bn_|apply bd_|apply ba_); refine blk_put (cs := #[.int .i64 t393, .int .i64 t394, .int .i64 t395, .bool t396, .bool false]) ?_ 4 _ rfl; refine blk_put (cs := #[.int .i64 t393, .int .i64 t394, .int .i64 t395, .bool false, .bool false]) ?_ 3 _ rfl; refine blk_put (cs := #[.int .i64 t393, .int .i64 t394, .int .i64 0, .bool false, .bool false]) ?_ 2 _ rfl; refine blk_put (cs := #[.int .i64 t393, .int .i64 0, .int .i64 0, .bool false, .bool false]) ?_ 1 _ rfl; refine blk_put (cs := #[.int .i64 0, .int .i64 0, .int .i64 0, .bool false, .bool false]) ?_ 0 _ rfl; (with_reducible repeat first|apply bn_|apply bd_|apply ba_); exact BK401.out))⟩; have n7_ : Aside0 (Below w.heap.size w w77) := ⟨(by rw [hw]; exact (ue_ HB.out))⟩; clear hw HO_9 HO_12 HO392 HO400 BK364 BK376 BK401 HB; have HO_9 := n0_; have HO_12 := n1_; have HO392 := n2_; have HO400 := n3_; have BK364 := n4_; have BK376 := n5_; have BK401 := n6_; have HB := n7_; clear n0_ n1_ n2_ n3_ n4_ n5_ n6_ n7_))
           (try simp only [Act.put, List.setIfInBounds_toArray, List.set_cons_zero, List.set_cons_succ])
           go_cut [100] (fun v100 wc => ∃ (kq : Nat) (x100_66 : Bool), v100 = .bool x100_66 ∧ Aside0 (laws_FnExactPlaySource.j2 kq t388 t387 x100_66 = some r) ∧ Aside0 (kq ≤ kj41) ∧ Aside0 (Kd.R (Kd.int .i64) 3 wc w.heap.size (fun _ => True) (.slice Ao68 t373.length co68) t388) ∧ Aside0 (wc.heap[gb364]? = some (.cells #[.int .i64 t356, .int .i64 t357, .int .i64 t358, .bool t359, .bool t360] 72 (0, 0))) ∧ Aside0 (wc.heap[gb376]? = some (.cells #[.int .i64 t368, .int .i64 t369, .int .i64 t370, .bool t371, .bool t372] 72 (0, 0))) ∧ Aside0 (wc.heap[gb401]? = some (.cells #[.int .i64 t393, .int .i64 t394, .int .i64 t395, .bool t396, .bool t397] 72 (0, 0))) ∧ Aside0 (Below w.heap.size w wc))
           case first =>
            have H := HC67.out
            clear HC67
            replace H := Option.bind_eq_some_iff.mp H
            obtain ⟨t402, A780, H⟩ := H
            replace H : (if t402 = true then ((laws_eqIntS.f kj41 t398 t361).bind fun t403 => (laws_FnExactPlaySource.j2 kj41 t388 t387 (!t403))) else (laws_FnExactPlaySource.j2 kj41 t388 t387 true)) = some r := H
            have A78 := Aside0.mk A780
            clear A780
            by_cases c79 : t402 = true
            ·
             subst c79
             have H1 : ((laws_eqIntS.f kj41 t398 t361).bind fun t403 => (laws_FnExactPlaySource.j2 kj41 t388 t387 (!t403))) = some r := by rw [if_pos rfl] at H; exact H
             clear H
             have H := H1
             clear H1
             replace H := Option.bind_eq_some_iff.mp H
             obtain ⟨t403, A800, H⟩ := H
             replace H : (laws_FnExactPlaySource.j2 kj41 t388 t387 (!t403)) = some r := H
             have A80 := Aside0.mk A800
             clear A800
             have H' := Aside0.mk H
             clear H
             have hnb81 := NB401_364.out
             have hnc81 := NB364_401.out
             have hnb82 := NB401_376.out
             have hnc82 := NB376_401.out
             have hcz83_0 := cb_ BK401.out 0 rfl
             have hcz83_1 := cb_ BK401.out 1 rfl
             have hcz83_2 := cb_ BK401.out 2 rfl
             have hcz83_3 := cb_ BK401.out 3 rfl
             have hcz83_4 := cb_ BK401.out 4 rfl
             have hfz83_0 := blk_frozen BK401.out 0
             have hfz83_1 := blk_frozen BK401.out 1
             have hfz83_2 := blk_frozen BK401.out 2
             have hfz83_3 := blk_frozen BK401.out 3
             have hfz83_4 := blk_frozen BK401.out 4
             have hnb84 := NB364_376.out
             have hnc84 := NB376_364.out
             have hcz85_0 := cb_ BK364.out 0 rfl
             have hcz85_1 := cb_ BK364.out 1 rfl
             have hcz85_2 := cb_ BK364.out 2 rfl
             have hcz85_3 := cb_ BK364.out 3 rfl
             have hcz85_4 := cb_ BK364.out 4 rfl
             have hfz85_0 := blk_frozen BK364.out 0
             have hfz85_1 := blk_frozen BK364.out 1
             have hfz85_2 := blk_frozen BK364.out 2
             have hfz85_3 := blk_frozen BK364.out 3
             have hfz85_4 := blk_frozen BK364.out 4
             go_wp2_with (first | ((with_reducible refine gate_callee (f := 54) rfl ?_); refine goesL_ (some 93) rfl rfl Try.func54 (by kernel_rfl) rfl #[.agg #[.int .i64 t393, .int .i64 t394, .int .i64 t395, .bool t396, .bool t397], .agg #[.int .i64 t356, .int .i64 t357, .int .i64 t358, .bool t359, .bool t360]] rfl ul_ ?_; (with_reducible refine (laws_eqSource.calls t393 t394 t395 t396 t397 t356 t357 t358 t359 t360 true _ A78.out).mono ?_); rintro e w86 ⟨rfl, hb⟩; refine ⟨_, rfl, ?_⟩; have n0_ := am_ (Kd.R_below (ur_ HO_9.out) hb); have n1_ := am_ (Kd.R_below (ur_ HO_12.out) hb); have n2_ := am_ (Kd.S_below (by (with_reducible repeat (first | apply Kd.S_alloc | apply Kd.S_drewN | apply Kd.S_drew)); exact HO392.out) hb); have n3_ := am_ (Kd.R_below (ur_ HO400.out) hb); have n4_ := am_ (bb_ BK364.out hb); have n5_ := am_ (bb_ BK376.out hb); have n6_ := am_ (bb_ BK401.out hb); have n7_ := am_ (below_step (ue_ HB.out) hb); clear HO_9 HO_12 HO392 HO400 BK364 BK376 BK401 HB; have HO_9 := n0_; have HO_12 := n1_; have HO392 := n2_; have HO400 := n3_; have BK364 := n4_; have BK376 := n5_; have BK401 := n6_; have HB := n7_; clear n0_ n1_ n2_ n3_ n4_ n5_ n6_ n7_; (try clear hb); (try clear hb2); (try clear hk); (try clear hi); obtain ⟨Ao87, co87, eo87⟩ := Kd.R_slice HO400.out; subst eo87; obtain ⟨Ao88, co88, eo88⟩ := Kd.R_slice HO_9.out; subst eo88) | (go_at_call 19; (with_reducible refine (laws_eqIntS.calls kj41 _ _ t398 _ _ t361 t403 _ ?side1 ?side2 ?side3 ?side4 A80.out).mono ?_); (case side1 => repeat (first | exact (Kd.R_reads' HO400.out).2.2 | (with_reducible refine Kd.C_alloc ?_ _) | (with_reducible refine Kd.C_drewN ?_ _) | (with_reducible refine Kd.C_drew ?_))); (case side2 => exact (Kd.R_reads' HO400.out).2.1); (case side3 => repeat (first | exact (Kd.R_reads' HO_9.out).2.2 | (with_reducible refine Kd.C_alloc ?_ _) | (with_reducible refine Kd.C_drewN ?_ _) | (with_reducible refine Kd.C_drew ?_))); (case side4 => exact (Kd.R_reads' HO_9.out).2.1); rintro e w' ⟨rfl, ⟨nd, rfl⟩⟩))
             go_meet
             case rel => exact ⟨_, (!t403), (by first | rfl | (simp; done) | (simp [*]; done)), H', ⟨by have := HJ9.out; have := HJ41.out; first | omega | exact Nat.le_refl _⟩, ⟨by (with_reducible repeat (first | apply Kd.R_alloc | apply Kd.R_drewN | apply Kd.R_drew)); exact Kd.R_mono HO_12.out (fun _ hk => trivial)⟩, ⟨by (with_reducible repeat first|apply bn_|apply bd_|apply ba_); exact BK364.out⟩, ⟨by (with_reducible repeat first|apply bn_|apply bd_|apply ba_); exact BK376.out⟩, ⟨by (with_reducible repeat first|apply bn_|apply bd_|apply ba_); exact BK401.out⟩, ⟨ue_ HB.out⟩⟩
            ·
             replace c79 := Bool.eq_false_iff.mpr c79
             subst c79
             have H1 : (laws_FnExactPlaySource.j2 kj41 t388 t387 true) = some r := by rw [if_neg (show ¬ (false = true) by decide)] at H; exact H
             clear H
             have H := H1
             clear H1
             have H' := Aside0.mk H
             clear H
             have hnb89 := NB401_364.out
             have hnc89 := NB364_401.out
             have hnb90 := NB401_376.out
             have hnc90 := NB376_401.out
             have hcz91_0 := cb_ BK401.out 0 rfl
             have hcz91_1 := cb_ BK401.out 1 rfl
             have hcz91_2 := cb_ BK401.out 2 rfl
             have hcz91_3 := cb_ BK401.out 3 rfl
             have hcz91_4 := cb_ BK401.out 4 rfl
             have hfz91_0 := blk_frozen BK401.out 0
             have hfz91_1 := blk_frozen BK401.out 1
             have hfz91_2 := blk_frozen BK401.out 2
             have hfz91_3 := blk_frozen BK401.out 3
             have hfz91_4 := blk_frozen BK401.out 4
             have hnb92 := NB364_376.out
             have hnc92 := NB376_364.out
             have hcz93_0 := cb_ BK364.out 0 rfl
             have hcz93_1 := cb_ BK364.out 1 rfl
             have hcz93_2 := cb_ BK364.out 2 rfl
             have hcz93_3 := cb_ BK364.out 3 rfl
             have hcz93_4 := cb_ BK364.out 4 rfl
             have hfz93_0 := blk_frozen BK364.out 0
             have hfz93_1 := blk_frozen BK364.out 1
             have hfz93_2 := blk_frozen BK364.out 2
             have hfz93_3 := blk_frozen BK364.out 3
             have hfz93_4 := blk_frozen BK364.out 4
             go_wp2_with (first | ((with_reducible refine gate_callee (f := 54) rfl ?_); refine goesL_ (some 93) rfl rfl Try.func54 (by kernel_rfl) rfl #[.agg #[.int .i64 t393, .int .i64 t394, .int .i64 t395, .bool t396, .bool t397], .agg #[.int .i64 t356, .int .i64 t357, .int .i64 t358, .bool t359, .bool t360]] rfl ul_ ?_; (with_reducible refine (laws_eqSource.calls t393 t394 t395 t396 t397 t356 t357 t358 t359 t360 false _ A78.out).mono ?_); rintro e w94 ⟨rfl, hb⟩; refine ⟨_, rfl, ?_⟩; have n0_ := am_ (Kd.R_below (ur_ HO_9.out) hb); have n1_ := am_ (Kd.R_below (ur_ HO_12.out) hb); have n2_ := am_ (Kd.S_below (by (with_reducible repeat (first | apply Kd.S_alloc | apply Kd.S_drewN | apply Kd.S_drew)); exact HO392.out) hb); have n3_ := am_ (Kd.R_below (ur_ HO400.out) hb); have n4_ := am_ (bb_ BK364.out hb); have n5_ := am_ (bb_ BK376.out hb); have n6_ := am_ (bb_ BK401.out hb); have n7_ := am_ (below_step (ue_ HB.out) hb); clear HO_9 HO_12 HO392 HO400 BK364 BK376 BK401 HB; have HO_9 := n0_; have HO_12 := n1_; have HO392 := n2_; have HO400 := n3_; have BK364 := n4_; have BK376 := n5_; have BK401 := n6_; have HB := n7_; clear n0_ n1_ n2_ n3_ n4_ n5_ n6_ n7_; (try clear hb); (try clear hb2); (try clear hk); (try clear hi)))
             go_meet
             case rel => exact ⟨_, (true), (by first | rfl | (simp; done) | (simp [*]; done)), H', ⟨by have := HJ9.out; have := HJ41.out; first | omega | exact Nat.le_refl _⟩, ⟨by (with_reducible repeat (first | apply Kd.R_alloc | apply Kd.R_drewN | apply Kd.R_drew)); exact Kd.R_mono HO_12.out (fun _ hk => trivial)⟩, ⟨by (with_reducible repeat first|apply bn_|apply bd_|apply ba_); exact BK364.out⟩, ⟨by (with_reducible repeat first|apply bn_|apply bd_|apply ba_); exact BK376.out⟩, ⟨by (with_reducible repeat first|apply bn_|apply bd_|apply ba_); exact BK401.out⟩, ⟨ue_ HB.out⟩⟩
           case rest =>
            clear HC67
            try clear c2
            try clear p2
            try clear c3
            try clear c4
            try clear c5
            try clear c5b0
            try clear c6
            try clear c7
            try clear c8
            try clear c9
            try clear c20
            try clear c21
            try clear c23
            try clear c25
            try clear c27
            try clear c33
            try clear c37
            try clear c40
            try clear c46
            try clear c46b0
            try clear c48
            try clear c50
            try clear c51
            try clear c52
            try clear c53
            try clear c54
            try clear c55
            try clear c56
            try clear c60
            try clear c63
            try clear c63b0
            try clear c64
            try clear c64b0
            try clear c64b1
            try clear c74
            try clear c75
            try clear c79
            try clear c81
            try clear c82
            try clear c84
            try clear c89
            try clear c90
            try clear c92
            try clear hcz15_0
            try clear hcz15_1
            try clear hcz15_2
            try clear hcz15_3
            try clear hcz15_4
            try clear hcz22_0
            try clear hcz22_1
            try clear hcz22_2
            try clear hcz22_3
            try clear hcz22_4
            try clear hcz28_0
            try clear hcz28_1
            try clear hcz28_2
            try clear hcz28_3
            try clear hcz28_4
            try clear hcz29_0
            try clear hcz29_1
            try clear hcz29_2
            try clear hcz29_3
            try clear hcz29_4
            try clear hcz34_0
            try clear hcz34_1
            try clear hcz34_2
            try clear hcz34_3
            try clear hcz34_4
            try clear hcz35_0
            try clear hcz35_1
            try clear hcz35_2
            try clear hcz35_3
            try clear hcz35_4
            try clear hcz51_0
            try clear hcz51_1
            try clear hcz51_2
            try clear hcz51_3
            try clear hcz51_4
            try clear hcz52_0
            try clear hcz52_1
            try clear hcz52_2
            try clear hcz52_3
            try clear hcz52_4
            try clear hcz57_0
            try clear hcz57_1
            try clear hcz57_2
            try clear hcz57_3
            try clear hcz57_4
            try clear hcz58_0
            try clear hcz58_1
            try clear hcz58_2
            try clear hcz58_3
            try clear hcz58_4
            try clear hcz76_0
            try clear hcz76_1
            try clear hcz76_2
            try clear hcz76_3
            try clear hcz76_4
            try clear hcz83_0
            try clear hcz83_1
            try clear hcz83_2
            try clear hcz83_3
            try clear hcz83_4
            try clear hcz85_0
            try clear hcz85_1
            try clear hcz85_2
            try clear hcz85_3
            try clear hcz85_4
            try clear hcz91_0
            try clear hcz91_1
            try clear hcz91_2
            try clear hcz91_3
            try clear hcz91_4
            try clear hcz93_0
            try clear hcz93_1
            try clear hcz93_2
            try clear hcz93_3
            try clear hcz93_4
            try clear hfz15_0
            try clear hfz15_1
            try clear hfz15_2
            try clear hfz15_3
            try clear hfz15_4
            try clear hfz22_0
            try clear hfz22_1
            try clear hfz22_2
            try clear hfz22_3
            try clear hfz22_4
            try clear hfz28_0
            try clear hfz28_1
            try clear hfz28_2
            try clear hfz28_3
            try clear hfz28_4
            try clear hfz29_0
            try clear hfz29_1
            try clear hfz29_2
            try clear hfz29_3
            try clear hfz29_4
            try clear hfz34_0
            try clear hfz34_1
            try clear hfz34_2
            try clear hfz34_3
            try clear hfz34_4
            try clear hfz35_0
            try clear hfz35_1
            try clear hfz35_2
            try clear hfz35_3
            try clear hfz35_4
            try clear hfz51_0
            try clear hfz51_1
            try clear hfz51_2
            try clear hfz51_3
            try clear hfz51_4
            try clear hfz52_0
            try clear hfz52_1
            try clear hfz52_2
            try clear hfz52_3
            try clear hfz52_4
            try clear hfz57_0
            try clear hfz57_1
            try clear hfz57_2
            try clear hfz57_3
            try clear hfz57_4
            try clear hfz58_0
            try clear hfz58_1
            try clear hfz58_2
            try clear hfz58_3
            try clear hfz58_4
            try clear hfz76_0
            try clear hfz76_1
            try clear hfz76_2
            try clear hfz76_3
            try clear hfz76_4
            try clear hfz83_0
            try clear hfz83_1
            try clear hfz83_2
            try clear hfz83_3
            try clear hfz83_4
            try clear hfz85_0
            try clear hfz85_1
            try clear hfz85_2
            try clear hfz85_3
            try clear hfz85_4
            try clear hfz91_0
            try clear hfz91_1
            try clear hfz91_2
            try clear hfz91_3
            try clear hfz91_4
            try clear hfz93_0
            try clear hfz93_1
            try clear hfz93_2
            try clear hfz93_3
            try clear hfz93_4
            try clear p2
            obtain ⟨kq, x100_66, rfl, HA, HJ66, HO_12, BK364, BK376, BK401, HB⟩ := hcut
            have hl12_66 := (Kd.R_reads' HO_12.out).1
            rw [hl12_66] at HO_12
            (try simp only [hl12_66])
            (try simp only [hl12_66] at BK364)
            (try simp only [hl12_66] at BK376)
            (try simp only [hl12_66] at BK401)
            cases kq with
            | zero => exact absurd HA.out (by simp [laws_FnExactPlaySource.j2])
            | succ kj66 =>
             have H := HA.out
             clear HA
             simp only [laws_FnExactPlaySource.j2] at H
             by_cases c95 : x100_66 = true
             ·
              subst c95
              have H1 : (some false) = some r := by rw [if_pos rfl] at H; exact H
              clear H
              have H := H1
              clear H1
              exact absurd ((Option.some.inj H).trans hT.out) (by decide)
             ·
              replace c95 := Bool.eq_false_iff.mpr c95
              subst c95
              have H1 : ((laws_heldIntS.f kj66 t388 1).bind fun t404 => (if t404 < 0 then (some false) else (if t404 = t387 then (some true) else (some false)))) = some r := by rw [if_neg (show ¬ (false = true) by decide)] at H; exact H
              clear H
              have H := H1
              clear H1
              replace H := Option.bind_eq_some_iff.mp H
              obtain ⟨t404, A960, H⟩ := H
              replace H : (if t404 < 0 then (some false) else (if t404 = t387 then (some true) else (some false))) = some r := H
              have A96 := Aside0.mk A960
              clear A960
              by_cases c97 : t404 < 0
              ·
               rw [if_pos c97] at H
               have c97b0 : decide (t404 < 0) = true := decide_eq_true c97
               clear c97
               exact absurd ((Option.some.inj H).trans hT.out) (by decide)
              ·
               rw [if_neg c97] at H
               have c97b0 : decide (t404 < 0) = false := decide_eq_false c97
               clear c97
               by_cases c98 : t404 = t387
               ·
                rw [if_pos c98] at H
                have c98b0 : (t404 == t387) = true := beq_iff_eq.mpr c98
                have c98b1 : (t404 != t387) = false := bne_eq_false_iff_eq.mpr c98
                clear c98
                obtain rfl := Option.some.inj H
                go_wp2_with (first | ((with_reducible refine gate_callee (f := 23) rfl ?_); refine goesL_ (some 103) rfl rfl Try.func23 (by kernel_rfl) rfl #[.slice Ao68 t388.length co68, .int .i64 1] rfl ul_ ?_; (with_reducible refine (laws_heldIntS.calls kj66 _ _ t388 1 t404 _ ?side1 ?side2 A96.out).mono ?_); (case side1 => repeat (first | exact (Kd.R_reads' HO_12.out).2.2 | (with_reducible refine Kd.C_alloc ?_ _) | (with_reducible refine Kd.C_drewN ?_ _) | (with_reducible refine Kd.C_drew ?_))); (case side2 => exact (Kd.R_reads' HO_12.out).2.1); rintro e w' ⟨rfl, ⟨nd, rfl⟩⟩; refine ⟨_, rfl, ?_⟩))
                go_ret
                exact ⟨ew_, ue_ HB.out⟩
               ·
                rw [if_neg c98] at H
                have c98b0 : (t404 == t387) = false := beq_eq_false_iff_ne.mpr c98
                have c98b1 : (t404 != t387) = true := bne_iff_ne.mpr c98
                exact absurd ((Option.some.inj H).trans hT.out) (by decide)
          ·
           rw [if_neg c64] at H
           have c64b0 : (t389 == t387) = false := beq_eq_false_iff_ne.mpr c64
           have c64b1 : (t389 != t387) = true := bne_iff_ne.mpr c64
           exact absurd ((Option.some.inj H).trans hT.out) (by decide)
     ·
      replace c40 := Bool.eq_false_iff.mpr c40
      subst c40
      have H1 : (some false) = some r := by rw [if_neg (show ¬ (false = true) by decide)] at H; exact H
      clear H
      have H := H1
      clear H1
      exact absurd ((Option.some.inj H).trans hT.out) (by decide)

end Go.Proofs.Ytcflalomjehiiaa.QFnExactPlaySource
