/- The machine side of a law: Lean functions with the Go functions' answers and the walks that show it. No condition. -/
import Derived.Test.YtcflalomjehiiaaQFnExactPlayLinkx0
import Derived.Test.YtcflalomjehiiaaQFnExactPlayLinkx3
import Derived.Test.YtcflalomjehiiaaQFnExactPlayLinkx5
import Derived.Test.YtcflalomjehiiaaQFnExactPlayLinkx6
namespace Go.Proofs.Ytcflalomjehiiaa.QFnExactPlayLink
open Go.RowKit Go.Proofs.YtcflalomjehiiaaW.PrintWords Go.Proofs.YtcflalomjehiiaaW.PrintLast Go.Proofs.YtcflalomjehiiaaW.PrintMore
attribute [local go_sem] max2_int min2_int max_two min_two max_three min_three max_four min_four   -- for this text's walks alone
set_option linter.unusedVariables false
set_option linter.unusedSimpArgs false

/-! ### laws_FnExactPlayLink: function 3 -/
mutual
def laws_FnExactPlayLink.j0 : Nat → Int → List Int → List Int → List Int → List Int → Bool → List Int → Int → Int → Int → Int → List Int → Int → Int → Int → Int → Option (Bool)
 | 0, _, _, _, _, _, _, _, _, _, _, _, _, _, _, _, _ => none
 | k + 1, x0, x1, x7, x8, x11, x53, x332000, x332001, x332002, x333000, x333001, x347000, x347001, x347002, x348000, x348001 => if x53 = true then (some false) else ((laws_toIntS.f k x1).bind fun t351 => ((laws_eqIntS.f k x8 t351).bind fun t354 => (if t354 = true then ((laws_markIntS.f k x8 1).bind fun bt355 => (if bt355.1 < 0 then (laws_FnExactPlayLink.j1 k x0 x1 x7 x11 true x332000 x332001 x332002 x333000 x333001 x347000 x347001 x347002) else ((laws_eqRing.f k x347000 x347001 x347002 x332000 x332001 x332002).bind fun t357 => (if t357 = true then ((laws_eqCredit.f x348000 x348001 x333000 x333001).bind fun t358 => (if t358 = true then ((laws_eqIntS.f k x11 x7).bind fun t359 => (laws_FnExactPlayLink.j1 k x0 x1 x7 x11 (!t359) x332000 x332001 x332002 x333000 x333001 x347000 x347001 x347002)) else (laws_FnExactPlayLink.j1 k x0 x1 x7 x11 true x332000 x332001 x332002 x333000 x333001 x347000 x347001 x347002))) else (laws_FnExactPlayLink.j1 k x0 x1 x7 x11 true x332000 x332001 x332002 x333000 x333001 x347000 x347001 x347002))))) else (some false))))
def laws_FnExactPlayLink.j1 : Nat → Int → List Int → List Int → List Int → Bool → List Int → Int → Int → Int → Int → List Int → Int → Int → Option (Bool)
 | 0, _, _, _, _, _, _, _, _, _, _, _, _, _ => none
 | k + 1, x0, x1, x7, x11, x81, x332000, x332001, x332002, x333000, x333001, x347000, x347001, x347002 => if x81 = true then (some false) else ((laws_markRing.f k x347000 x347001 x347002 1).bind fun bt360 => ((laws_markIntS.f k x11 bt360.1).bind fun bt362 => ((laws_heldRing.f k bt360.2 x347001 x347002 1).bind fun t364 => (if t364 < 0 then (some false) else ((laws_heldIntS.f k bt362.2 t364).bind fun t365 => (if t365 < 0 then (some false) else (if t365 = bt362.1 then ((laws_toIntS.f k x1).bind fun t366 => ((impl_PlayLink.f k x0 t366).bind fun bt369 => ((laws_eqRing.f k bt369.1 bt369.2.1 bt369.2.2.1 x332000 x332001 x332002).bind fun t381 => (if t381 = true then ((laws_eqCredit.f bt369.2.2.2.1 bt369.2.2.2.2.1 x333000 x333001).bind fun t382 => (if t382 = true then ((laws_eqIntS.f k bt369.2.2.2.2.2 x7).bind fun t383 => (laws_FnExactPlayLink.j2 k bt362.2 bt362.1 (!t383) bt360.2 x347001 x347002)) else (laws_FnExactPlayLink.j2 k bt362.2 bt362.1 true bt360.2 x347001 x347002))) else (laws_FnExactPlayLink.j2 k bt362.2 bt362.1 true bt360.2 x347001 x347002))))) else (some false))))))))
def laws_FnExactPlayLink.j2 : Nat → List Int → Int → Bool → List Int → Int → Int → Option (Bool)
 | 0, _, _, _, _, _, _ => none
 | k + 1, x11, x13, x124, x347000, x347001, x347002 => if x124 = true then (some false) else ((laws_heldRing.f k x347000 x347001 x347002 1).bind fun t384 => (if t384 < 0 then (some false) else ((laws_heldIntS.f k x11 t384).bind fun t385 => (if t385 < 0 then (some false) else (if t385 = x13 then (some true) else (some false))))))
end
def laws_FnExactPlayLink.f (k : Nat) (a0 : Int) (l1 : List Int) : Option (Bool) := if (l1.length : Int) > 1048576 then (some true) else ((laws_toIntS.f k l1).bind fun t318 => ((spec_PlayLink.f k a0 t318).bind fun bt321 => ((laws_toIntS.f k l1).bind fun t333 => ((impl_PlayLink.f k a0 t333).bind fun bt336 => ((laws_eqRing.f k bt336.1 bt336.2.1 bt336.2.2.1 bt321.1 bt321.2.1 bt321.2.2.1).bind fun t348 => (if t348 = true then ((laws_eqCredit.f bt336.2.2.2.1 bt336.2.2.2.2.1 bt321.2.2.2.1 bt321.2.2.2.2.1).bind fun t349 => (if t349 = true then ((laws_eqIntS.f k bt336.2.2.2.2.2 bt321.2.2.2.2.2).bind fun t350 => (laws_FnExactPlayLink.j0 k a0 l1 bt321.2.2.2.2.2 t333 bt336.2.2.2.2.2 (!t350) bt321.1 bt321.2.1 bt321.2.2.1 bt321.2.2.2.1 bt321.2.2.2.2.1 bt336.1 bt336.2.1 bt336.2.2.1 bt336.2.2.2.1 bt336.2.2.2.2.1)) else (laws_FnExactPlayLink.j0 k a0 l1 bt321.2.2.2.2.2 t333 bt336.2.2.2.2.2 true bt321.1 bt321.2.1 bt321.2.2.1 bt321.2.2.2.1 bt321.2.2.2.2.1 bt336.1 bt336.2.1 bt336.2.2.1 bt336.2.2.2.1 bt336.2.2.2.2.1))) else (laws_FnExactPlayLink.j0 k a0 l1 bt321.2.2.2.2.2 t333 bt336.2.2.2.2.2 true bt321.1 bt321.2.1 bt321.2.2.1 bt321.2.2.2.1 bt321.2.2.2.2.1 bt336.1 bt336.2.1 bt336.2.2.1 bt336.2.2.2.1 bt336.2.2.2.2.1)))))))
theorem laws_FnExactPlayLink.mono_l : ∀ k, (∀ y0 y1 y2 y3 y4 y5 y6 y7 y8 y9 y10 y11 y12 y13 y14 y15, LeO (laws_FnExactPlayLink.j0 k y0 y1 y2 y3 y4 y5 y6 y7 y8 y9 y10 y11 y12 y13 y14 y15) (laws_FnExactPlayLink.j0 (k + 1) y0 y1 y2 y3 y4 y5 y6 y7 y8 y9 y10 y11 y12 y13 y14 y15)) ∧ (∀ y0 y1 y2 y3 y4 y5 y6 y7 y8 y9 y10 y11 y12, LeO (laws_FnExactPlayLink.j1 k y0 y1 y2 y3 y4 y5 y6 y7 y8 y9 y10 y11 y12) (laws_FnExactPlayLink.j1 (k + 1) y0 y1 y2 y3 y4 y5 y6 y7 y8 y9 y10 y11 y12)) ∧ (∀ y0 y1 y2 y3 y4 y5, LeO (laws_FnExactPlayLink.j2 k y0 y1 y2 y3 y4 y5) (laws_FnExactPlayLink.j2 (k + 1) y0 y1 y2 y3 y4 y5))
 | 0 => ⟨fun _ _ _ _ _ _ _ _ _ _ _ _ _ _ _ _ r h => by simp [laws_FnExactPlayLink.j0] at h, fun _ _ _ _ _ _ _ _ _ _ _ _ _ r h => by simp [laws_FnExactPlayLink.j1] at h, fun _ _ _ _ _ _ r h => by simp [laws_FnExactPlayLink.j2] at h⟩
 | k + 1 => by
  obtain ⟨ih0, ih1, ih2⟩ := laws_FnExactPlayLink.mono_l k
  refine ⟨?_, ?_, ?_⟩
  ·
   intro y0 y1 y2 y3 y4 y5 y6 y7 y8 y9 y10 y11 y12 y13 y14 y15
   unfold laws_FnExactPlayLink.j0
   repeat' first
   | (with_reducible exact ih0 _ _ _ _ _ _ _ _ _ _ _ _ _ _ _ _)
   | (with_reducible exact ih1 _ _ _ _ _ _ _ _ _ _ _ _ _)
   | (with_reducible exact ih2 _ _ _ _ _ _)
   | (with_reducible exact impl_PlayLink.mono _ _ _)
   | (with_reducible exact laws_eqIntS.mono _ _ _)
   | (with_reducible exact laws_eqRing.mono _ _ _ _ _ _ _)
   | (with_reducible exact laws_heldIntS.mono _ _ _)
   | (with_reducible exact laws_heldRing.mono _ _ _ _ _)
   | (with_reducible exact laws_markIntS.mono _ _ _)
   | (with_reducible exact laws_markRing.mono _ _ _ _ _)
   | (with_reducible exact laws_toIntS.mono _ _)
   | (with_reducible exact spec_PlayLink.mono _ _ _)
   | (with_reducible exact LeO.refl _)
   | (with_reducible exact LeO.none _)
   | (with_reducible refine LeO.ite ?_ ?_)
   | (with_reducible refine LeO.bind ?_ (fun _ => ?_))
   | exact ih0 _ _ _ _ _ _ _ _ _ _ _ _ _ _ _ _
   | exact ih1 _ _ _ _ _ _ _ _ _ _ _ _ _
   | exact ih2 _ _ _ _ _ _
   | exact impl_PlayLink.mono _ _ _
   | exact laws_eqIntS.mono _ _ _
   | exact laws_eqRing.mono _ _ _ _ _ _ _
   | exact laws_heldIntS.mono _ _ _
   | exact laws_heldRing.mono _ _ _ _ _
   | exact laws_markIntS.mono _ _ _
   | exact laws_markRing.mono _ _ _ _ _
   | exact laws_toIntS.mono _ _
   | exact spec_PlayLink.mono _ _ _
   | exact LeO.none _
   | refine LeO.ite ?_ ?_
   | refine LeO.bind ?_ (fun _ => ?_)
  ·
   intro y0 y1 y2 y3 y4 y5 y6 y7 y8 y9 y10 y11 y12
   unfold laws_FnExactPlayLink.j1
   repeat' first
   | (with_reducible exact ih0 _ _ _ _ _ _ _ _ _ _ _ _ _ _ _ _)
   | (with_reducible exact ih1 _ _ _ _ _ _ _ _ _ _ _ _ _)
   | (with_reducible exact ih2 _ _ _ _ _ _)
   | (with_reducible exact impl_PlayLink.mono _ _ _)
   | (with_reducible exact laws_eqIntS.mono _ _ _)
   | (with_reducible exact laws_eqRing.mono _ _ _ _ _ _ _)
   | (with_reducible exact laws_heldIntS.mono _ _ _)
   | (with_reducible exact laws_heldRing.mono _ _ _ _ _)
   | (with_reducible exact laws_markIntS.mono _ _ _)
   | (with_reducible exact laws_markRing.mono _ _ _ _ _)
   | (with_reducible exact laws_toIntS.mono _ _)
   | (with_reducible exact spec_PlayLink.mono _ _ _)
   | (with_reducible exact LeO.refl _)
   | (with_reducible exact LeO.none _)
   | (with_reducible refine LeO.ite ?_ ?_)
   | (with_reducible refine LeO.bind ?_ (fun _ => ?_))
   | exact ih0 _ _ _ _ _ _ _ _ _ _ _ _ _ _ _ _
   | exact ih1 _ _ _ _ _ _ _ _ _ _ _ _ _
   | exact ih2 _ _ _ _ _ _
   | exact impl_PlayLink.mono _ _ _
   | exact laws_eqIntS.mono _ _ _
   | exact laws_eqRing.mono _ _ _ _ _ _ _
   | exact laws_heldIntS.mono _ _ _
   | exact laws_heldRing.mono _ _ _ _ _
   | exact laws_markIntS.mono _ _ _
   | exact laws_markRing.mono _ _ _ _ _
   | exact laws_toIntS.mono _ _
   | exact spec_PlayLink.mono _ _ _
   | exact LeO.none _
   | refine LeO.ite ?_ ?_
   | refine LeO.bind ?_ (fun _ => ?_)
  ·
   intro y0 y1 y2 y3 y4 y5
   unfold laws_FnExactPlayLink.j2
   repeat' first
   | (with_reducible exact ih0 _ _ _ _ _ _ _ _ _ _ _ _ _ _ _ _)
   | (with_reducible exact ih1 _ _ _ _ _ _ _ _ _ _ _ _ _)
   | (with_reducible exact ih2 _ _ _ _ _ _)
   | (with_reducible exact impl_PlayLink.mono _ _ _)
   | (with_reducible exact laws_eqIntS.mono _ _ _)
   | (with_reducible exact laws_eqRing.mono _ _ _ _ _ _ _)
   | (with_reducible exact laws_heldIntS.mono _ _ _)
   | (with_reducible exact laws_heldRing.mono _ _ _ _ _)
   | (with_reducible exact laws_markIntS.mono _ _ _)
   | (with_reducible exact laws_markRing.mono _ _ _ _ _)
   | (with_reducible exact laws_toIntS.mono _ _)
   | (with_reducible exact spec_PlayLink.mono _ _ _)
   | (with_reducible exact LeO.refl _)
   | (with_reducible exact LeO.none _)
   | (with_reducible refine LeO.ite ?_ ?_)
   | (with_reducible refine LeO.bind ?_ (fun _ => ?_))
   | exact ih0 _ _ _ _ _ _ _ _ _ _ _ _ _ _ _ _
   | exact ih1 _ _ _ _ _ _ _ _ _ _ _ _ _
   | exact ih2 _ _ _ _ _ _
   | exact impl_PlayLink.mono _ _ _
   | exact laws_eqIntS.mono _ _ _
   | exact laws_eqRing.mono _ _ _ _ _ _ _
   | exact laws_heldIntS.mono _ _ _
   | exact laws_heldRing.mono _ _ _ _ _
   | exact laws_markIntS.mono _ _ _
   | exact laws_markRing.mono _ _ _ _ _
   | exact laws_toIntS.mono _ _
   | exact spec_PlayLink.mono _ _ _
   | exact LeO.none _
   | refine LeO.ite ?_ ?_
   | refine LeO.bind ?_ (fun _ => ?_)
theorem laws_FnExactPlayLink.mono : ∀ a0 a1 k, LeO (laws_FnExactPlayLink.f k a0 a1) (laws_FnExactPlayLink.f (k + 1) a0 a1) := by
 intro a0 a1 k
 obtain ⟨ih0, ih1, ih2⟩ := laws_FnExactPlayLink.mono_l k
 unfold laws_FnExactPlayLink.f
 repeat' first
   | (with_reducible exact ih0 _ _ _ _ _ _ _ _ _ _ _ _ _ _ _ _)
   | (with_reducible exact ih1 _ _ _ _ _ _ _ _ _ _ _ _ _)
   | (with_reducible exact ih2 _ _ _ _ _ _)
   | (with_reducible exact impl_PlayLink.mono _ _ _)
   | (with_reducible exact laws_eqIntS.mono _ _ _)
   | (with_reducible exact laws_eqRing.mono _ _ _ _ _ _ _)
   | (with_reducible exact laws_heldIntS.mono _ _ _)
   | (with_reducible exact laws_heldRing.mono _ _ _ _ _)
   | (with_reducible exact laws_markIntS.mono _ _ _)
   | (with_reducible exact laws_markRing.mono _ _ _ _ _)
   | (with_reducible exact laws_toIntS.mono _ _)
   | (with_reducible exact spec_PlayLink.mono _ _ _)
   | (with_reducible exact LeO.refl _)
   | (with_reducible exact LeO.none _)
   | (with_reducible refine LeO.ite ?_ ?_)
   | (with_reducible refine LeO.bind ?_ (fun _ => ?_))
   | exact ih0 _ _ _ _ _ _ _ _ _ _ _ _ _ _ _ _
   | exact ih1 _ _ _ _ _ _ _ _ _ _ _ _ _
   | exact ih2 _ _ _ _ _ _
   | exact impl_PlayLink.mono _ _ _
   | exact laws_eqIntS.mono _ _ _
   | exact laws_eqRing.mono _ _ _ _ _ _ _
   | exact laws_heldIntS.mono _ _ _
   | exact laws_heldRing.mono _ _ _ _ _
   | exact laws_markIntS.mono _ _ _
   | exact laws_markRing.mono _ _ _ _ _
   | exact laws_toIntS.mono _ _
   | exact spec_PlayLink.mono _ _ _
   | exact LeO.none _
   | refine LeO.ite ?_ ?_
   | refine LeO.bind ?_ (fun _ => ?_)
set_option maxHeartbeats 8000000 in
set_option maxRecDepth 100000 in
theorem laws_FnExactPlayLink.calls (k : Nat) (a0 : Int) (A1 : Option Addr) (c1 : Nat) (l1 : List Int) (r : Bool) (w : World) (hr1 : Kd.C (Kd.int .i64) w A1 l1.length l1) (hc1 : l1.length ≤ c1) (hT : Aside0 (r = true)) (h : laws_FnExactPlayLink.f k a0 l1 = some r) :
  Calls Try.prog 3 #[.int .i64 a0, .slice A1 l1.length c1] w fun e w' => e = .returned (.bool r) ∧ Below w.heap.size w w' := by
 have hu24 := Try.underlying24
 have hu26 := Try.underlying26
 have HR1 := Aside0.mk hr1
 have HC1 := Aside0.mk hc1
 clear hr1 hc1
 have HB := Aside0.mk (Below.refl w.heap.size w)
 have H : (if (l1.length : Int) > 1048576 then (some true) else ((laws_toIntS.f k l1).bind fun t318 => ((spec_PlayLink.f k a0 t318).bind fun bt321 => ((laws_toIntS.f k l1).bind fun t333 => ((impl_PlayLink.f k a0 t333).bind fun bt336 => ((laws_eqRing.f k bt336.1 bt336.2.1 bt336.2.2.1 bt321.1 bt321.2.1 bt321.2.2.1).bind fun t348 => (if t348 = true then ((laws_eqCredit.f bt336.2.2.2.1 bt336.2.2.2.2.1 bt321.2.2.2.1 bt321.2.2.2.2.1).bind fun t349 => (if t349 = true then ((laws_eqIntS.f k bt336.2.2.2.2.2 bt321.2.2.2.2.2).bind fun t350 => (laws_FnExactPlayLink.j0 k a0 l1 bt321.2.2.2.2.2 t333 bt336.2.2.2.2.2 (!t350) bt321.1 bt321.2.1 bt321.2.2.1 bt321.2.2.2.1 bt321.2.2.2.2.1 bt336.1 bt336.2.1 bt336.2.2.1 bt336.2.2.2.1 bt336.2.2.2.2.1)) else (laws_FnExactPlayLink.j0 k a0 l1 bt321.2.2.2.2.2 t333 bt336.2.2.2.2.2 true bt321.1 bt321.2.1 bt321.2.2.1 bt321.2.2.2.1 bt321.2.2.2.2.1 bt336.1 bt336.2.1 bt336.2.2.1 bt336.2.2.2.1 bt336.2.2.2.2.1))) else (laws_FnExactPlayLink.j0 k a0 l1 bt321.2.2.2.2.2 t333 bt336.2.2.2.2.2 true bt321.1 bt321.2.1 bt321.2.2.1 bt321.2.2.2.1 bt321.2.2.2.2.1 bt336.1 bt336.2.1 bt336.2.2.1 bt336.2.2.2.1 bt336.2.2.2.2.1)))))))) = some r := h
 clear h
 by_cases c3 : (l1.length : Int) > 1048576
 ·
  rw [if_pos c3] at H
  have c3b0 : decide (1048576 < (l1.length : Int)) = true := decide_eq_true c3
  have c3b1 : decide (1048576 < l1.length) = true := decide_eq_true (by omega)
  clear c3
  obtain rfl := Option.some.inj H
  go_enter Try.func3, Try.ntmps3
  go_wp2
  go_ret
  exact ⟨by first | rfl | (simp [errW_none, errW_some] <;> rfl) | (simp [*, errW_none, errW_some] <;> rfl), ue_ HB.out⟩
 ·
  rw [if_neg c3] at H
  have c3b0 : decide (1048576 < (l1.length : Int)) = false := decide_eq_false c3
  have c3b1 : decide (1048576 < l1.length) = false := decide_eq_false (by omega)
  clear c3
  replace H := Option.bind_eq_some_iff.mp H
  obtain ⟨t318, A40, H⟩ := H
  replace H : ((spec_PlayLink.f k a0 t318).bind fun bt321 => ((laws_toIntS.f k l1).bind fun t333 => ((impl_PlayLink.f k a0 t333).bind fun bt336 => ((laws_eqRing.f k bt336.1 bt336.2.1 bt336.2.2.1 bt321.1 bt321.2.1 bt321.2.2.1).bind fun t348 => (if t348 = true then ((laws_eqCredit.f bt336.2.2.2.1 bt336.2.2.2.2.1 bt321.2.2.2.1 bt321.2.2.2.2.1).bind fun t349 => (if t349 = true then ((laws_eqIntS.f k bt336.2.2.2.2.2 bt321.2.2.2.2.2).bind fun t350 => (laws_FnExactPlayLink.j0 k a0 l1 bt321.2.2.2.2.2 t333 bt336.2.2.2.2.2 (!t350) bt321.1 bt321.2.1 bt321.2.2.1 bt321.2.2.2.1 bt321.2.2.2.2.1 bt336.1 bt336.2.1 bt336.2.2.1 bt336.2.2.2.1 bt336.2.2.2.2.1)) else (laws_FnExactPlayLink.j0 k a0 l1 bt321.2.2.2.2.2 t333 bt336.2.2.2.2.2 true bt321.1 bt321.2.1 bt321.2.2.1 bt321.2.2.2.1 bt321.2.2.2.2.1 bt336.1 bt336.2.1 bt336.2.2.1 bt336.2.2.2.1 bt336.2.2.2.2.1))) else (laws_FnExactPlayLink.j0 k a0 l1 bt321.2.2.2.2.2 t333 bt336.2.2.2.2.2 true bt321.1 bt321.2.1 bt321.2.2.1 bt321.2.2.2.1 bt321.2.2.2.2.1 bt336.1 bt336.2.1 bt336.2.2.1 bt336.2.2.2.1 bt336.2.2.2.2.1)))))) = some r := H
  have A4 := Aside0.mk A40
  clear A40
  replace H := Option.bind_eq_some_iff.mp H
  obtain ⟨⟨t321, t324, t325, t326, t327, t328⟩, A50, H⟩ := H
  replace H : ((laws_toIntS.f k l1).bind fun t333 => ((impl_PlayLink.f k a0 t333).bind fun bt336 => ((laws_eqRing.f k bt336.1 bt336.2.1 bt336.2.2.1 t321 t324 t325).bind fun t348 => (if t348 = true then ((laws_eqCredit.f bt336.2.2.2.1 bt336.2.2.2.2.1 t326 t327).bind fun t349 => (if t349 = true then ((laws_eqIntS.f k bt336.2.2.2.2.2 t328).bind fun t350 => (laws_FnExactPlayLink.j0 k a0 l1 t328 t333 bt336.2.2.2.2.2 (!t350) t321 t324 t325 t326 t327 bt336.1 bt336.2.1 bt336.2.2.1 bt336.2.2.2.1 bt336.2.2.2.2.1)) else (laws_FnExactPlayLink.j0 k a0 l1 t328 t333 bt336.2.2.2.2.2 true t321 t324 t325 t326 t327 bt336.1 bt336.2.1 bt336.2.2.1 bt336.2.2.2.1 bt336.2.2.2.2.1))) else (laws_FnExactPlayLink.j0 k a0 l1 t328 t333 bt336.2.2.2.2.2 true t321 t324 t325 t326 t327 bt336.1 bt336.2.1 bt336.2.2.1 bt336.2.2.2.1 bt336.2.2.2.2.1))))) = some r := H
  have A5 := Aside0.mk A50
  clear A50
  replace H := Option.bind_eq_some_iff.mp H
  obtain ⟨t333, A60, H⟩ := H
  replace H : ((impl_PlayLink.f k a0 t333).bind fun bt336 => ((laws_eqRing.f k bt336.1 bt336.2.1 bt336.2.2.1 t321 t324 t325).bind fun t348 => (if t348 = true then ((laws_eqCredit.f bt336.2.2.2.1 bt336.2.2.2.2.1 t326 t327).bind fun t349 => (if t349 = true then ((laws_eqIntS.f k bt336.2.2.2.2.2 t328).bind fun t350 => (laws_FnExactPlayLink.j0 k a0 l1 t328 t333 bt336.2.2.2.2.2 (!t350) t321 t324 t325 t326 t327 bt336.1 bt336.2.1 bt336.2.2.1 bt336.2.2.2.1 bt336.2.2.2.2.1)) else (laws_FnExactPlayLink.j0 k a0 l1 t328 t333 bt336.2.2.2.2.2 true t321 t324 t325 t326 t327 bt336.1 bt336.2.1 bt336.2.2.1 bt336.2.2.2.1 bt336.2.2.2.2.1))) else (laws_FnExactPlayLink.j0 k a0 l1 t328 t333 bt336.2.2.2.2.2 true t321 t324 t325 t326 t327 bt336.1 bt336.2.1 bt336.2.2.1 bt336.2.2.2.1 bt336.2.2.2.2.1)))) = some r := H
  have A6 := Aside0.mk A60
  clear A60
  replace H := Option.bind_eq_some_iff.mp H
  obtain ⟨⟨t336, t339, t340, t341, t342, t343⟩, A70, H⟩ := H
  replace H : ((laws_eqRing.f k t336 t339 t340 t321 t324 t325).bind fun t348 => (if t348 = true then ((laws_eqCredit.f t341 t342 t326 t327).bind fun t349 => (if t349 = true then ((laws_eqIntS.f k t343 t328).bind fun t350 => (laws_FnExactPlayLink.j0 k a0 l1 t328 t333 t343 (!t350) t321 t324 t325 t326 t327 t336 t339 t340 t341 t342)) else (laws_FnExactPlayLink.j0 k a0 l1 t328 t333 t343 true t321 t324 t325 t326 t327 t336 t339 t340 t341 t342))) else (laws_FnExactPlayLink.j0 k a0 l1 t328 t333 t343 true t321 t324 t325 t326 t327 t336 t339 t340 t341 t342))) = some r := H
  have A7 := Aside0.mk A70
  clear A70
  have HC8 := Aside0.mk H
  clear H
  go_enter Try.func3, Try.ntmps3
  go_upto_region 6 with (first | ((with_reducible refine gate_callee (f := 15) rfl ?_); refine goesL_ (some 24) rfl rfl Try.func15 (by kernel_rfl) rfl #[.slice A1 l1.length c1] rfl ul_ ?_; (with_reducible refine (laws_toIntS.calls k _ _ l1 t318 _ ?side1 ?side2 A4.out).mono ?_); (case side1 => repeat (first | exact HR1.out | (with_reducible refine Kd.C_alloc ?_ _) | (with_reducible refine Kd.C_drewN ?_ _) | (with_reducible refine Kd.C_drew ?_))); (case side2 => exact HC1.out); rintro e w9 ⟨v319, rfl, ho0, hb⟩; refine ⟨_, rfl, ?_⟩; have n0_ := Aside0.mk (Kd.R_lower ho0 (below_size (ue_ HB.out))); have n1_ := Aside0.mk (below_step (ue_ HB.out) hb); clear HB; have HO320 := n0_; have HB := n1_; clear n0_ n1_; (try clear hb); (try clear hb2); (try clear hk); (try clear hi); (try clear ho0); obtain ⟨Ao10, co10, eo10⟩ := Kd.R_slice HO320.out; subst eo10) | ((with_reducible refine gate_callee (f := 14) rfl ?_); refine goesL_ (some 25) rfl rfl Try.func14 (by kernel_rfl) rfl #[.int .i64 a0, .slice Ao10 t318.length co10] rfl ul_ ?_; (with_reducible refine (spec_PlayLink.calls k a0 _ _ t318 t321 t324 t325 t326 t327 t328 _ ?side1 ?side2 A5.out).mono ?_); (case side1 => repeat (first | exact (Kd.R_reads' HO320.out).2.2 | (with_reducible refine Kd.C_alloc ?_ _) | (with_reducible refine Kd.C_drewN ?_ _) | (with_reducible refine Kd.C_drew ?_))); (case side2 => exact (Kd.R_reads' HO320.out).2.1); rintro e w11 ⟨v322, v329, rfl, ho0, ho1, hb⟩; refine ⟨_, rfl, ?_⟩; have n0_ := Aside0.mk (Kd.R_mono (Kd.R_told (Kd.R_told (Kd.R_old (ur_ HO320.out) hb) (Kd.R_base ho0)) (Kd.R_base ho1)) (fun _ h_ => h_.1)); have n1_ := Aside0.mk (Kd.R_lower (Kd.R_new' ho0 (Kd.R_lt (ur_ HO320.out))) (below_size (ue_ HB.out))); have n2_ := Aside0.mk (Kd.R_lower (Kd.R_new' ho1 (Kd.R_lt (ur_ HO320.out))) (below_size (ue_ HB.out))); have n3_ := Aside0.mk (below_step (ue_ HB.out) hb); clear HO320; clear HB; have HO320 := n0_; have HO323 := n1_; have HO330 := n2_; have HB := n3_; clear n0_ n1_ n2_ n3_; (try clear hb); (try clear hb2); (try clear hk); (try clear hi); (try clear ho0); (try clear ho1)) | ((with_reducible refine gate_dst (N := 5) rfl ?_); refine box_event ?hg (N := 5) ?hd (cs := #[.slice none 0 0, .int .i64 0, .int .i64 0]) (t := 24) ?hr ?_; (case hd => rfl); (case hg => rfl); (case hr => first | (go_simp; done) | (go_simp; rfl)); intro gb331 hg w12 hbox hb; have n0_ := Aside0.mk (Kd.R_below (ur_ HO320.out) hb); have n1_ := Aside0.mk (Kd.R_below (ur_ HO323.out) hb); have n2_ := Aside0.mk (Kd.R_below (ur_ HO330.out) hb); have n3_ := Aside0.mk (below_step (ue_ HB.out) hb); have n4_ := Aside0.mk (hbox); have n5_ := Aside0.mk ((by rw [hg]; exact (below_size (ue_ HB.out)) : w.heap.size ≤ gb331)); have n6_ := Aside0.mk ((by rw [hg]; exact (below_size (ue_ HB.out)) : w.heap.size ≤ gb331)); clear HO320; clear HO323; clear HO330; clear HB; have HO320 := n0_; have HO323 := n1_; have HO330 := n2_; have HB := n3_; have BK331 := n4_; have GW331 := n5_; have GE331 := n6_; clear n0_ n1_ n2_ n3_ n4_ n5_ n6_; clear hb hbox hg) | ((with_reducible refine gate_dst (N := 6) rfl ?_); refine box_event ?hg (N := 6) ?hd (cs := #[.int .i64 0, .int .i64 0]) (t := 26) ?hr ?_; (case hd => rfl); (case hg => rfl); (case hr => first | (go_simp; done) | (go_simp; rfl)); intro gb332 hg w13 hbox hb; have n0_ := Aside0.mk (Kd.R_below (ur_ HO320.out) hb); have n1_ := Aside0.mk (Kd.R_below (ur_ HO323.out) hb); have n2_ := Aside0.mk (Kd.R_below (ur_ HO330.out) hb); have n3_ := Aside0.mk (blk_below (g := gb331) (o := .cells #[.slice none 0 0, .int .i64 0, .int .i64 0] 24 (0, 0)) (ub_ BK331.out) hb); have n4_ := Aside0.mk (below_step (ue_ HB.out) hb); have n5_ := Aside0.mk (hbox); have n6_ := Aside0.mk ((by rw [hg]; exact (below_size (ue_ HB.out)) : w.heap.size ≤ gb332)); have n7_ := Aside0.mk ((by rw [hg]; exact (below_size (ue_ HB.out)) : w.heap.size ≤ gb332)); have n8_ := Aside0.mk ((by rw [hg]; exact Nat.ne_of_lt (blk_lt (g := gb331) (o := .cells #[.slice none 0 0, .int .i64 0, .int .i64 0] 24 (0, 0)) (ub_ BK331.out)) : gb331 ≠ gb332)); have n9_ := Aside0.mk ((by rw [hg]; exact Nat.ne_of_gt (blk_lt (g := gb331) (o := .cells #[.slice none 0 0, .int .i64 0, .int .i64 0] 24 (0, 0)) (ub_ BK331.out)) : gb332 ≠ gb331)); clear HO320; clear HO323; clear HO330; clear BK331; clear HB; have HO320 := n0_; have HO323 := n1_; have HO330 := n2_; have BK331 := n3_; have HB := n4_; have BK332 := n5_; have GW332 := n6_; have GE332 := n7_; have NB331_332 := n8_; have NB332_331 := n9_; clear n0_ n1_ n2_ n3_ n4_ n5_ n6_ n7_ n8_ n9_; clear hb hbox hg; obtain ⟨Ao14, co14, eo14⟩ := Kd.R_slice HO323.out; subst eo14; have hnb15 := NB331_332.out; have hnc15 := NB332_331.out; have hcz16_0 : w13.cell? ⟨gb331, 0, none⟩ = some (.slice none 0 0) := (blk_cell BK331.out 0).trans rfl; have hcz16_1 : w13.cell? ⟨gb331, 1, none⟩ = some (.int .i64 0) := (blk_cell BK331.out 1).trans rfl; have hcz16_2 : w13.cell? ⟨gb331, 2, none⟩ = some (.int .i64 0) := (blk_cell BK331.out 2).trans rfl; have hfz16_0 := blk_frozen BK331.out 0; have hfz16_1 := blk_frozen BK331.out 1; have hfz16_2 := blk_frozen BK331.out 2) | ((with_reducible refine gate_store (t := 24) (p := 5) rfl ?_); refine store_event (t := 24) (p := 5) (v := ?vo_w17) (w1 := (((w13.setCell ⟨gb331, 0, none⟩ (.slice Ao14 t321.length co14)).setCell ⟨gb331, 1, none⟩ (.int .i64 t324)).setCell ⟨gb331, 2, none⟩ (.int .i64 t325))) ?hg ?ho ?hn ?hr ?_; (case ho => rfl); (case hg => rfl); (case hn => rfl); (case hr => first | (go_simp; done) | (go_simp; rfl)); intro w17 hw; have n0_ : Aside0 (Kd.R (Kd.int .i64) 3 w17 w.heap.size (fun k_ => some k_ ≠ (.slice Ao14 t321.length co14 : Value).ownBlock ∧ some k_ ≠ (v329 : Value).ownBlock) (.slice Ao10 t318.length co10) t318) := ⟨(by rw [hw]; exact (by (with_reducible repeat (first | apply Kd.R_alloc | apply Kd.R_drewN | apply Kd.R_drew)); exact Kd.R_mono (Kd.R_far (p := ⟨gb331, 2, none⟩) (Kd.R_far (p := ⟨gb331, 1, none⟩) (Kd.R_far (p := ⟨gb331, 0, none⟩) (Kd.R_types HO320.out BK331.out (by decide)) (fun _ hk => by first | exact hk.2 | grind) (.slice Ao14 t321.length co14)) (fun _ hk => by first | exact hk.2 | grind) (.int .i64 t324)) (fun _ hk => by first | exact hk.2 | grind) (.int .i64 t325)) (fun _ hk => by first | exact ⟨hk.1.1.2, hk.1.2⟩ | grind)))⟩; have n1_ : Aside0 (Kd.R (Kd.int .i64) 3 w17 w.heap.size (fun k_ => some k_ ≠ (.slice Ao10 t318.length co10 : Value).ownBlock ∧ some k_ ≠ (v329 : Value).ownBlock) (.slice Ao14 t321.length co14) t321) := ⟨(by rw [hw]; exact (by (with_reducible repeat (first | apply Kd.R_alloc | apply Kd.R_drewN | apply Kd.R_drew)); exact Kd.R_mono (Kd.R_far (p := ⟨gb331, 2, none⟩) (Kd.R_far (p := ⟨gb331, 1, none⟩) (Kd.R_far (p := ⟨gb331, 0, none⟩) (Kd.R_types HO323.out BK331.out (by decide)) (fun _ hk => by first | exact hk.2 | grind) (.slice Ao14 t321.length co14)) (fun _ hk => by first | exact hk.2 | grind) (.int .i64 t324)) (fun _ hk => by first | exact hk.2 | grind) (.int .i64 t325)) (fun _ hk => by first | exact ⟨hk.1.2, hk.1.1⟩ | grind)))⟩; have n2_ : Aside0 (Kd.R (Kd.int .i64) 3 w17 w.heap.size (fun k_ => some k_ ≠ (.slice Ao10 t318.length co10 : Value).ownBlock ∧ some k_ ≠ (.slice Ao14 t321.length co14 : Value).ownBlock) v329 t328) := ⟨(by rw [hw]; exact (by (with_reducible repeat (first | apply Kd.R_alloc | apply Kd.R_drewN | apply Kd.R_drew)); exact Kd.R_mono (Kd.R_far (p := ⟨gb331, 2, none⟩) (Kd.R_far (p := ⟨gb331, 1, none⟩) (Kd.R_far (p := ⟨gb331, 0, none⟩) (Kd.R_types HO330.out BK331.out (by decide)) (fun _ hk => by first | exact hk.2 | grind) (.slice Ao14 t321.length co14)) (fun _ hk => by first | exact hk.2 | grind) (.int .i64 t324)) (fun _ hk => by first | exact hk.2 | grind) (.int .i64 t325)) (fun _ hk => by first | exact ⟨hk.1.2, hk.1.1⟩ | grind)))⟩; have n3_ : Aside0 (w17.heap[gb331]? = some (.cells #[.slice Ao14 t321.length co14, .int .i64 t324, .int .i64 t325] 24 (0, 0))) := ⟨(by rw [hw]; exact (by (with_reducible repeat (first | refine blk_drewN ?_ _ | refine blk_drew ?_ | refine blk_alloc ?_ _)); refine blk_put (cs := #[.slice Ao14 t321.length co14, .int .i64 t324, .int .i64 0]) ?_ 2 _ rfl; (with_reducible repeat (first | refine blk_drewN ?_ _ | refine blk_drew ?_ | refine blk_alloc ?_ _)); refine blk_put (cs := #[.slice Ao14 t321.length co14, .int .i64 0, .int .i64 0]) ?_ 1 _ rfl; (with_reducible repeat (first | refine blk_drewN ?_ _ | refine blk_drew ?_ | refine blk_alloc ?_ _)); refine blk_put (cs := #[.slice none 0 0, .int .i64 0, .int .i64 0]) ?_ 0 _ rfl; (with_reducible repeat (first | refine blk_drewN ?_ _ | refine blk_drew ?_ | refine blk_alloc ?_ _)); exact BK331.out))⟩; have n4_ : Aside0 (w17.heap[gb332]? = some (.cells #[.int .i64 0, .int .i64 0] 26 (0, 0))) := ⟨(by rw [hw]; exact (by (with_reducible repeat (first | refine blk_drewN ?_ _ | refine blk_drew ?_ | refine blk_alloc ?_ _)); refine blk_far ?_ NB332_331.out _; (with_reducible repeat (first | refine blk_drewN ?_ _ | refine blk_drew ?_ | refine blk_alloc ?_ _)); refine blk_far ?_ NB332_331.out _; (with_reducible repeat (first | refine blk_drewN ?_ _ | refine blk_drew ?_ | refine blk_alloc ?_ _)); refine blk_far ?_ NB332_331.out _; (with_reducible repeat (first | refine blk_drewN ?_ _ | refine blk_drew ?_ | refine blk_alloc ?_ _)); exact BK332.out))⟩; have n5_ : Aside0 (Below w.heap.size w w17) := ⟨(by rw [hw]; exact (ue_ HB.out))⟩; clear hw; clear HO320; clear HO323; clear HO330; clear BK331; clear BK332; clear HB; have HO320 := n0_; have HO323 := n1_; have HO330 := n2_; have BK331 := n3_; have BK332 := n4_; have HB := n5_; clear n0_ n1_ n2_ n3_ n4_ n5_; have hcz18_0 : w17.cell? ⟨gb332, 0, none⟩ = some (.int .i64 0) := (blk_cell BK332.out 0).trans rfl; have hcz18_1 : w17.cell? ⟨gb332, 1, none⟩ = some (.int .i64 0) := (blk_cell BK332.out 1).trans rfl; have hfz18_0 := blk_frozen BK332.out 0; have hfz18_1 := blk_frozen BK332.out 1) | ((with_reducible refine gate_store (t := 26) (p := 6) rfl ?_); refine store_event (t := 26) (p := 6) (v := ?vo_w19) (w1 := ((w17.setCell ⟨gb332, 0, none⟩ (.int .i64 t326)).setCell ⟨gb332, 1, none⟩ (.int .i64 t327))) ?hg ?ho ?hn ?hr ?_; (case ho => rfl); (case hg => rfl); (case hn => rfl); (case hr => first | (go_simp; done) | (go_simp; rfl)); intro w19 hw; have n0_ : Aside0 (Kd.R (Kd.int .i64) 3 w19 w.heap.size (fun k_ => some k_ ≠ (.slice Ao14 t321.length co14 : Value).ownBlock ∧ some k_ ≠ (v329 : Value).ownBlock) (.slice Ao10 t318.length co10) t318) := ⟨(by rw [hw]; exact (by (with_reducible repeat (first | apply Kd.R_alloc | apply Kd.R_drewN | apply Kd.R_drew)); exact Kd.R_mono (Kd.R_far (p := ⟨gb332, 1, none⟩) (Kd.R_far (p := ⟨gb332, 0, none⟩) (Kd.R_types HO320.out BK332.out (by decide)) (fun _ hk => by first | exact hk.2 | grind) (.int .i64 t326)) (fun _ hk => by first | exact hk.2 | grind) (.int .i64 t327)) (fun _ hk => by first | exact ⟨hk.1.1, hk.1.2⟩ | grind)))⟩; have n1_ : Aside0 (Kd.R (Kd.int .i64) 3 w19 w.heap.size (fun k_ => some k_ ≠ (.slice Ao10 t318.length co10 : Value).ownBlock ∧ some k_ ≠ (v329 : Value).ownBlock) (.slice Ao14 t321.length co14) t321) := ⟨(by rw [hw]; exact (by (with_reducible repeat (first | apply Kd.R_alloc | apply Kd.R_drewN | apply Kd.R_drew)); exact Kd.R_mono (Kd.R_far (p := ⟨gb332, 1, none⟩) (Kd.R_far (p := ⟨gb332, 0, none⟩) (Kd.R_types HO323.out BK332.out (by decide)) (fun _ hk => by first | exact hk.2 | grind) (.int .i64 t326)) (fun _ hk => by first | exact hk.2 | grind) (.int .i64 t327)) (fun _ hk => by first | exact ⟨hk.1.1, hk.1.2⟩ | grind)))⟩; have n2_ : Aside0 (Kd.R (Kd.int .i64) 3 w19 w.heap.size (fun k_ => some k_ ≠ (.slice Ao10 t318.length co10 : Value).ownBlock ∧ some k_ ≠ (.slice Ao14 t321.length co14 : Value).ownBlock) v329 t328) := ⟨(by rw [hw]; exact (by (with_reducible repeat (first | apply Kd.R_alloc | apply Kd.R_drewN | apply Kd.R_drew)); exact Kd.R_mono (Kd.R_far (p := ⟨gb332, 1, none⟩) (Kd.R_far (p := ⟨gb332, 0, none⟩) (Kd.R_types HO330.out BK332.out (by decide)) (fun _ hk => by first | exact hk.2 | grind) (.int .i64 t326)) (fun _ hk => by first | exact hk.2 | grind) (.int .i64 t327)) (fun _ hk => by first | exact ⟨hk.1.1, hk.1.2⟩ | grind)))⟩; have n3_ : Aside0 (w19.heap[gb331]? = some (.cells #[.slice Ao14 t321.length co14, .int .i64 t324, .int .i64 t325] 24 (0, 0))) := ⟨(by rw [hw]; exact (by (with_reducible repeat (first | refine blk_drewN ?_ _ | refine blk_drew ?_ | refine blk_alloc ?_ _)); refine blk_far ?_ NB331_332.out _; (with_reducible repeat (first | refine blk_drewN ?_ _ | refine blk_drew ?_ | refine blk_alloc ?_ _)); refine blk_far ?_ NB331_332.out _; (with_reducible repeat (first | refine blk_drewN ?_ _ | refine blk_drew ?_ | refine blk_alloc ?_ _)); exact BK331.out))⟩; have n4_ : Aside0 (w19.heap[gb332]? = some (.cells #[.int .i64 t326, .int .i64 t327] 26 (0, 0))) := ⟨(by rw [hw]; exact (by (with_reducible repeat (first | refine blk_drewN ?_ _ | refine blk_drew ?_ | refine blk_alloc ?_ _)); refine blk_put (cs := #[.int .i64 t326, .int .i64 0]) ?_ 1 _ rfl; (with_reducible repeat (first | refine blk_drewN ?_ _ | refine blk_drew ?_ | refine blk_alloc ?_ _)); refine blk_put (cs := #[.int .i64 0, .int .i64 0]) ?_ 0 _ rfl; (with_reducible repeat (first | refine blk_drewN ?_ _ | refine blk_drew ?_ | refine blk_alloc ?_ _)); exact BK332.out))⟩; have n5_ : Aside0 (Below w.heap.size w w19) := ⟨(by rw [hw]; exact (ue_ HB.out))⟩; clear hw; clear HO320; clear HO323; clear HO330; clear BK331; clear BK332; clear HB; have HO320 := n0_; have HO323 := n1_; have HO330 := n2_; have BK331 := n3_; have BK332 := n4_; have HB := n5_; clear n0_ n1_ n2_ n3_ n4_ n5_) | ((with_reducible refine gate_callee (f := 15) rfl ?_); refine goesL_ (some 30) rfl rfl Try.func15 (by kernel_rfl) rfl #[.slice A1 l1.length c1] rfl ul_ ?_; (with_reducible refine (laws_toIntS.calls k _ _ l1 t333 _ ?side1 ?side2 A6.out).mono ?_); (case side1 => repeat (first | exact (Kd.C_below HR1.out HB.out) | (with_reducible refine Kd.C_alloc ?_ _) | (with_reducible refine Kd.C_drewN ?_ _) | (with_reducible refine Kd.C_drew ?_))); (case side2 => exact HC1.out); rintro e w20 ⟨v334, rfl, ho0, hb⟩; refine ⟨_, rfl, ?_⟩; have n0_ := Aside0.mk (Kd.R_elder' (ur_ HO320.out) (Kd.R_base ho0) hb); have n1_ := Aside0.mk (Kd.R_elder' (ur_ HO323.out) (Kd.R_base ho0) hb); have n2_ := Aside0.mk (Kd.R_elder' (ur_ HO330.out) (Kd.R_base ho0) hb); have n3_ := Aside0.mk (Kd.R_lower (Kd.R_new' (Kd.R_new' (Kd.R_new' ho0 (Kd.R_lt (ur_ HO320.out))) (Kd.R_lt (ur_ HO323.out))) (Kd.R_lt (ur_ HO330.out))) (below_size (ue_ HB.out))); have n4_ := Aside0.mk (blk_below (g := gb331) (o := .cells #[.slice Ao14 t321.length co14, .int .i64 t324, .int .i64 t325] 24 (0, 0)) (ub_ BK331.out) hb); have n5_ := Aside0.mk (blk_below (g := gb332) (o := .cells #[.int .i64 t326, .int .i64 t327] 26 (0, 0)) (ub_ BK332.out) hb); have n6_ := Aside0.mk (below_step (ue_ HB.out) hb); clear HO320; clear HO323; clear HO330; clear BK331; clear BK332; clear HB; have HO320 := n0_; have HO323 := n1_; have HO330 := n2_; have HO335 := n3_; have BK331 := n4_; have BK332 := n5_; have HB := n6_; clear n0_ n1_ n2_ n3_ n4_ n5_ n6_; (try clear hb); (try clear hb2); (try clear hk); (try clear hi); (try clear ho0); obtain ⟨Ao21, co21, eo21⟩ := Kd.R_slice HO335.out; subst eo21) | ((with_reducible refine gate_callee (f := 16) rfl ?_); refine goesL_ (some 34) rfl rfl Try.func16 (by kernel_rfl) rfl #[.int .i64 a0, .slice Ao21 t333.length co21] rfl ul_ ?_; (with_reducible refine (impl_PlayLink.calls k a0 _ _ t333 t336 t339 t340 t341 t342 t343 _ ?side1 ?side2 A7.out).mono ?_); (case side1 => repeat (first | exact (Kd.R_reads' HO335.out).2.2 | (with_reducible refine Kd.C_alloc ?_ _) | (with_reducible refine Kd.C_drewN ?_ _) | (with_reducible refine Kd.C_drew ?_))); (case side2 => exact (Kd.R_reads' HO335.out).2.1); rintro e w22 ⟨v337, v344, rfl, ho0, ho1, hb⟩; refine ⟨_, rfl, ?_⟩; have n0_ := Aside0.mk (Kd.R_mono (Kd.R_told (Kd.R_told (Kd.R_old (ur_ HO320.out) hb) (Kd.R_base ho0)) (Kd.R_base ho1)) (fun _ h_ => h_.1)); have n1_ := Aside0.mk (Kd.R_mono (Kd.R_told (Kd.R_told (Kd.R_old (ur_ HO323.out) hb) (Kd.R_base ho0)) (Kd.R_base ho1)) (fun _ h_ => h_.1)); have n2_ := Aside0.mk (Kd.R_mono (Kd.R_told (Kd.R_told (Kd.R_old (ur_ HO330.out) hb) (Kd.R_base ho0)) (Kd.R_base ho1)) (fun _ h_ => h_.1)); have n3_ := Aside0.mk (Kd.R_mono (Kd.R_told (Kd.R_told (Kd.R_old (ur_ HO335.out) hb) (Kd.R_base ho0)) (Kd.R_base ho1)) (fun _ h_ => h_.1)); have n4_ := Aside0.mk (Kd.R_lower (Kd.R_new' (Kd.R_new' (Kd.R_new' (Kd.R_new' ho0 (Kd.R_lt (ur_ HO320.out))) (Kd.R_lt (ur_ HO323.out))) (Kd.R_lt (ur_ HO330.out))) (Kd.R_lt (ur_ HO335.out))) (below_size (ue_ HB.out))); have n5_ := Aside0.mk (Kd.R_lower (Kd.R_new' (Kd.R_new' (Kd.R_new' (Kd.R_new' ho1 (Kd.R_lt (ur_ HO320.out))) (Kd.R_lt (ur_ HO323.out))) (Kd.R_lt (ur_ HO330.out))) (Kd.R_lt (ur_ HO335.out))) (below_size (ue_ HB.out))); have n6_ := Aside0.mk (blk_below (g := gb331) (o := .cells #[.slice Ao14 t321.length co14, .int .i64 t324, .int .i64 t325] 24 (0, 0)) (ub_ BK331.out) hb); have n7_ := Aside0.mk (blk_below (g := gb332) (o := .cells #[.int .i64 t326, .int .i64 t327] 26 (0, 0)) (ub_ BK332.out) hb); have n8_ := Aside0.mk (below_step (ue_ HB.out) hb); clear HO320; clear HO323; clear HO330; clear HO335; clear BK331; clear BK332; clear HB; have HO320 := n0_; have HO323 := n1_; have HO330 := n2_; have HO335 := n3_; have HO338 := n4_; have HO345 := n5_; have BK331 := n6_; have BK332 := n7_; have HB := n8_; clear n0_ n1_ n2_ n3_ n4_ n5_ n6_ n7_ n8_; (try clear hb); (try clear hb2); (try clear hk); (try clear hi); (try clear ho0); (try clear ho1)) | ((with_reducible refine gate_dst (N := 9) rfl ?_); refine box_event ?hg (N := 9) ?hd (cs := #[.slice none 0 0, .int .i64 0, .int .i64 0]) (t := 24) ?hr ?_; (case hd => rfl); (case hg => rfl); (case hr => first | (go_simp; done) | (go_simp; rfl)); intro gb346 hg w23 hbox hb; have n0_ := Aside0.mk (Kd.R_below (ur_ HO320.out) hb); have n1_ := Aside0.mk (Kd.R_below (ur_ HO323.out) hb); have n2_ := Aside0.mk (Kd.R_below (ur_ HO330.out) hb); have n3_ := Aside0.mk (Kd.R_below (ur_ HO335.out) hb); have n4_ := Aside0.mk (Kd.R_below (ur_ HO338.out) hb); have n5_ := Aside0.mk (Kd.R_below (ur_ HO345.out) hb); have n6_ := Aside0.mk (blk_below (g := gb331) (o := .cells #[.slice Ao14 t321.length co14, .int .i64 t324, .int .i64 t325] 24 (0, 0)) (ub_ BK331.out) hb); have n7_ := Aside0.mk (blk_below (g := gb332) (o := .cells #[.int .i64 t326, .int .i64 t327] 26 (0, 0)) (ub_ BK332.out) hb); have n8_ := Aside0.mk (below_step (ue_ HB.out) hb); have n9_ := Aside0.mk (hbox); have n10_ := Aside0.mk ((by rw [hg]; exact (below_size (ue_ HB.out)) : w.heap.size ≤ gb346)); have n11_ := Aside0.mk ((by rw [hg]; exact (below_size (ue_ HB.out)) : w.heap.size ≤ gb346)); have n12_ := Aside0.mk ((by rw [hg]; exact Nat.ne_of_lt (blk_lt (g := gb331) (o := .cells #[.slice Ao14 t321.length co14, .int .i64 t324, .int .i64 t325] 24 (0, 0)) (ub_ BK331.out)) : gb331 ≠ gb346)); have n13_ := Aside0.mk ((by rw [hg]; exact Nat.ne_of_gt (blk_lt (g := gb331) (o := .cells #[.slice Ao14 t321.length co14, .int .i64 t324, .int .i64 t325] 24 (0, 0)) (ub_ BK331.out)) : gb346 ≠ gb331)); have n14_ := Aside0.mk ((by rw [hg]; exact Nat.ne_of_lt (blk_lt (g := gb332) (o := .cells #[.int .i64 t326, .int .i64 t327] 26 (0, 0)) (ub_ BK332.out)) : gb332 ≠ gb346)); have n15_ := Aside0.mk ((by rw [hg]; exact Nat.ne_of_gt (blk_lt (g := gb332) (o := .cells #[.int .i64 t326, .int .i64 t327] 26 (0, 0)) (ub_ BK332.out)) : gb346 ≠ gb332)); clear HO320; clear HO323; clear HO330; clear HO335; clear HO338; clear HO345; clear BK331; clear BK332; clear HB; have HO320 := n0_; have HO323 := n1_; have HO330 := n2_; have HO335 := n3_; have HO338 := n4_; have HO345 := n5_; have BK331 := n6_; have BK332 := n7_; have HB := n8_; have BK346 := n9_; have GW346 := n10_; have GE346 := n11_; have NB331_346 := n12_; have NB346_331 := n13_; have NB332_346 := n14_; have NB346_332 := n15_; clear n0_ n1_ n2_ n3_ n4_ n5_ n6_ n7_ n8_ n9_ n10_ n11_ n12_ n13_ n14_ n15_; clear hb hbox hg) | ((with_reducible refine gate_dst (N := 10) rfl ?_); refine box_event ?hg (N := 10) ?hd (cs := #[.int .i64 0, .int .i64 0]) (t := 26) ?hr ?_; (case hd => rfl); (case hg => rfl); (case hr => first | (go_simp; done) | (go_simp; rfl)); intro gb347 hg w24 hbox hb; have n0_ := Aside0.mk (Kd.R_below (ur_ HO320.out) hb); have n1_ := Aside0.mk (Kd.R_below (ur_ HO323.out) hb); have n2_ := Aside0.mk (Kd.R_below (ur_ HO330.out) hb); have n3_ := Aside0.mk (Kd.R_below (ur_ HO335.out) hb); have n4_ := Aside0.mk (Kd.R_below (ur_ HO338.out) hb); have n5_ := Aside0.mk (Kd.R_below (ur_ HO345.out) hb); have n6_ := Aside0.mk (blk_below (g := gb331) (o := .cells #[.slice Ao14 t321.length co14, .int .i64 t324, .int .i64 t325] 24 (0, 0)) (ub_ BK331.out) hb); have n7_ := Aside0.mk (blk_below (g := gb332) (o := .cells #[.int .i64 t326, .int .i64 t327] 26 (0, 0)) (ub_ BK332.out) hb); have n8_ := Aside0.mk (blk_below (g := gb346) (o := .cells #[.slice none 0 0, .int .i64 0, .int .i64 0] 24 (0, 0)) (ub_ BK346.out) hb); have n9_ := Aside0.mk (below_step (ue_ HB.out) hb); have n10_ := Aside0.mk (hbox); have n11_ := Aside0.mk ((by rw [hg]; exact (below_size (ue_ HB.out)) : w.heap.size ≤ gb347)); have n12_ := Aside0.mk ((by rw [hg]; exact (below_size (ue_ HB.out)) : w.heap.size ≤ gb347)); have n13_ := Aside0.mk ((by rw [hg]; exact Nat.ne_of_lt (blk_lt (g := gb331) (o := .cells #[.slice Ao14 t321.length co14, .int .i64 t324, .int .i64 t325] 24 (0, 0)) (ub_ BK331.out)) : gb331 ≠ gb347)); have n14_ := Aside0.mk ((by rw [hg]; exact Nat.ne_of_gt (blk_lt (g := gb331) (o := .cells #[.slice Ao14 t321.length co14, .int .i64 t324, .int .i64 t325] 24 (0, 0)) (ub_ BK331.out)) : gb347 ≠ gb331)); have n15_ := Aside0.mk ((by rw [hg]; exact Nat.ne_of_lt (blk_lt (g := gb332) (o := .cells #[.int .i64 t326, .int .i64 t327] 26 (0, 0)) (ub_ BK332.out)) : gb332 ≠ gb347)); have n16_ := Aside0.mk ((by rw [hg]; exact Nat.ne_of_gt (blk_lt (g := gb332) (o := .cells #[.int .i64 t326, .int .i64 t327] 26 (0, 0)) (ub_ BK332.out)) : gb347 ≠ gb332)); have n17_ := Aside0.mk ((by rw [hg]; exact Nat.ne_of_lt (blk_lt (g := gb346) (o := .cells #[.slice none 0 0, .int .i64 0, .int .i64 0] 24 (0, 0)) (ub_ BK346.out)) : gb346 ≠ gb347)); have n18_ := Aside0.mk ((by rw [hg]; exact Nat.ne_of_gt (blk_lt (g := gb346) (o := .cells #[.slice none 0 0, .int .i64 0, .int .i64 0] 24 (0, 0)) (ub_ BK346.out)) : gb347 ≠ gb346)); clear HO320; clear HO323; clear HO330; clear HO335; clear HO338; clear HO345; clear BK331; clear BK332; clear BK346; clear HB; have HO320 := n0_; have HO323 := n1_; have HO330 := n2_; have HO335 := n3_; have HO338 := n4_; have HO345 := n5_; have BK331 := n6_; have BK332 := n7_; have BK346 := n8_; have HB := n9_; have BK347 := n10_; have GW347 := n11_; have GE347 := n12_; have NB331_347 := n13_; have NB347_331 := n14_; have NB332_347 := n15_; have NB347_332 := n16_; have NB346_347 := n17_; have NB347_346 := n18_; clear n0_ n1_ n2_ n3_ n4_ n5_ n6_ n7_ n8_ n9_ n10_ n11_ n12_ n13_ n14_ n15_ n16_ n17_ n18_; clear hb hbox hg; obtain ⟨Ao25, co25, eo25⟩ := Kd.R_slice HO338.out; subst eo25; have hnb26 := NB346_331.out; have hnc26 := NB331_346.out; have hnb27 := NB346_332.out; have hnc27 := NB332_346.out; have hnb28 := NB346_347.out; have hnc28 := NB347_346.out; have hcz29_0 : w24.cell? ⟨gb346, 0, none⟩ = some (.slice none 0 0) := (blk_cell BK346.out 0).trans rfl; have hcz29_1 : w24.cell? ⟨gb346, 1, none⟩ = some (.int .i64 0) := (blk_cell BK346.out 1).trans rfl; have hcz29_2 : w24.cell? ⟨gb346, 2, none⟩ = some (.int .i64 0) := (blk_cell BK346.out 2).trans rfl; have hfz29_0 := blk_frozen BK346.out 0; have hfz29_1 := blk_frozen BK346.out 1; have hfz29_2 := blk_frozen BK346.out 2) | ((with_reducible refine gate_store (t := 24) (p := 9) rfl ?_); refine store_event (t := 24) (p := 9) (v := ?vo_w30) (w1 := (((w24.setCell ⟨gb346, 0, none⟩ (.slice Ao25 t336.length co25)).setCell ⟨gb346, 1, none⟩ (.int .i64 t339)).setCell ⟨gb346, 2, none⟩ (.int .i64 t340))) ?hg ?ho ?hn ?hr ?_; (case ho => rfl); (case hg => rfl); (case hn => rfl); (case hr => first | (go_simp; done) | (go_simp; rfl)); intro w30 hw; have n0_ : Aside0 (Kd.R (Kd.int .i64) 3 w30 w.heap.size (fun k_ => some k_ ≠ (.slice Ao14 t321.length co14 : Value).ownBlock ∧ some k_ ≠ (v329 : Value).ownBlock ∧ some k_ ≠ (.slice Ao21 t333.length co21 : Value).ownBlock ∧ some k_ ≠ (.slice Ao25 t336.length co25 : Value).ownBlock ∧ some k_ ≠ (v344 : Value).ownBlock) (.slice Ao10 t318.length co10) t318) := ⟨(by rw [hw]; exact (by (with_reducible repeat (first | apply Kd.R_alloc | apply Kd.R_drewN | apply Kd.R_drew)); exact Kd.R_mono (Kd.R_far (p := ⟨gb346, 2, none⟩) (Kd.R_far (p := ⟨gb346, 1, none⟩) (Kd.R_far (p := ⟨gb346, 0, none⟩) (Kd.R_types HO320.out BK346.out (by decide)) (fun _ hk => by first | exact hk.2 | grind) (.slice Ao25 t336.length co25)) (fun _ hk => by first | exact hk.2 | grind) (.int .i64 t339)) (fun _ hk => by first | exact hk.2 | grind) (.int .i64 t340)) (fun _ hk => by first | exact ⟨hk.1.1.1.1.1, ⟨hk.1.1.1.1.2, ⟨hk.1.1.1.2, ⟨hk.1.1.2, hk.1.2⟩⟩⟩⟩ | grind)))⟩; have n1_ : Aside0 (Kd.R (Kd.int .i64) 3 w30 w.heap.size (fun k_ => some k_ ≠ (.slice Ao10 t318.length co10 : Value).ownBlock ∧ some k_ ≠ (v329 : Value).ownBlock ∧ some k_ ≠ (.slice Ao21 t333.length co21 : Value).ownBlock ∧ some k_ ≠ (.slice Ao25 t336.length co25 : Value).ownBlock ∧ some k_ ≠ (v344 : Value).ownBlock) (.slice Ao14 t321.length co14) t321) := ⟨(by rw [hw]; exact (by (with_reducible repeat (first | apply Kd.R_alloc | apply Kd.R_drewN | apply Kd.R_drew)); exact Kd.R_mono (Kd.R_far (p := ⟨gb346, 2, none⟩) (Kd.R_far (p := ⟨gb346, 1, none⟩) (Kd.R_far (p := ⟨gb346, 0, none⟩) (Kd.R_types HO323.out BK346.out (by decide)) (fun _ hk => by first | exact hk.2 | grind) (.slice Ao25 t336.length co25)) (fun _ hk => by first | exact hk.2 | grind) (.int .i64 t339)) (fun _ hk => by first | exact hk.2 | grind) (.int .i64 t340)) (fun _ hk => by first | exact ⟨hk.1.1.1.1.1, ⟨hk.1.1.1.1.2, ⟨hk.1.1.1.2, ⟨hk.1.1.2, hk.1.2⟩⟩⟩⟩ | grind)))⟩; have n2_ : Aside0 (Kd.R (Kd.int .i64) 3 w30 w.heap.size (fun k_ => some k_ ≠ (.slice Ao10 t318.length co10 : Value).ownBlock ∧ some k_ ≠ (.slice Ao14 t321.length co14 : Value).ownBlock ∧ some k_ ≠ (.slice Ao21 t333.length co21 : Value).ownBlock ∧ some k_ ≠ (.slice Ao25 t336.length co25 : Value).ownBlock ∧ some k_ ≠ (v344 : Value).ownBlock) v329 t328) := ⟨(by rw [hw]; exact (by (with_reducible repeat (first | apply Kd.R_alloc | apply Kd.R_drewN | apply Kd.R_drew)); exact Kd.R_mono (Kd.R_far (p := ⟨gb346, 2, none⟩) (Kd.R_far (p := ⟨gb346, 1, none⟩) (Kd.R_far (p := ⟨gb346, 0, none⟩) (Kd.R_types HO330.out BK346.out (by decide)) (fun _ hk => by first | exact hk.2 | grind) (.slice Ao25 t336.length co25)) (fun _ hk => by first | exact hk.2 | grind) (.int .i64 t339)) (fun _ hk => by first | exact hk.2 | grind) (.int .i64 t340)) (fun _ hk => by first | exact ⟨hk.1.1.1.1.1, ⟨hk.1.1.1.1.2, ⟨hk.1.1.1.2, ⟨hk.1.1.2, hk.1.2⟩⟩⟩⟩ | grind)))⟩; have n3_ : Aside0 (Kd.R (Kd.int .i64) 3 w30 w.heap.size (fun k_ => some k_ ≠ (.slice Ao10 t318.length co10 : Value).ownBlock ∧ some k_ ≠ (.slice Ao14 t321.length co14 : Value).ownBlock ∧ some k_ ≠ (v329 : Value).ownBlock ∧ some k_ ≠ (.slice Ao25 t336.length co25 : Value).ownBlock ∧ some k_ ≠ (v344 : Value).ownBlock) (.slice Ao21 t333.length co21) t333) := ⟨(by rw [hw]; exact (by (with_reducible repeat (first | apply Kd.R_alloc | apply Kd.R_drewN | apply Kd.R_drew)); exact Kd.R_mono (Kd.R_far (p := ⟨gb346, 2, none⟩) (Kd.R_far (p := ⟨gb346, 1, none⟩) (Kd.R_far (p := ⟨gb346, 0, none⟩) (Kd.R_types HO335.out BK346.out (by decide)) (fun _ hk => by first | exact hk.2 | grind) (.slice Ao25 t336.length co25)) (fun _ hk => by first | exact hk.2 | grind) (.int .i64 t339)) (fun _ hk => by first | exact hk.2 | grind) (.int .i64 t340)) (fun _ hk => by first | exact ⟨hk.1.1.1.1.1.2, ⟨hk.1.1.1.1.2, ⟨hk.1.1.1.2, ⟨hk.1.1.2, hk.1.2⟩⟩⟩⟩ | grind)))⟩; have n4_ : Aside0 (Kd.R (Kd.int .i64) 3 w30 w.heap.size (fun k_ => some k_ ≠ (.slice Ao10 t318.length co10 : Value).ownBlock ∧ some k_ ≠ (.slice Ao14 t321.length co14 : Value).ownBlock ∧ some k_ ≠ (v329 : Value).ownBlock ∧ some k_ ≠ (.slice Ao21 t333.length co21 : Value).ownBlock ∧ some k_ ≠ (v344 : Value).ownBlock) (.slice Ao25 t336.length co25) t336) := ⟨(by rw [hw]; exact (by (with_reducible repeat (first | apply Kd.R_alloc | apply Kd.R_drewN | apply Kd.R_drew)); exact Kd.R_mono (Kd.R_far (p := ⟨gb346, 2, none⟩) (Kd.R_far (p := ⟨gb346, 1, none⟩) (Kd.R_far (p := ⟨gb346, 0, none⟩) (Kd.R_types HO338.out BK346.out (by decide)) (fun _ hk => by first | exact hk.2 | grind) (.slice Ao25 t336.length co25)) (fun _ hk => by first | exact hk.2 | grind) (.int .i64 t339)) (fun _ hk => by first | exact hk.2 | grind) (.int .i64 t340)) (fun _ hk => by first | exact ⟨hk.1.1.1.1.2, ⟨hk.1.1.1.2, ⟨hk.1.1.2, ⟨hk.1.2, hk.1.1.1.1.1⟩⟩⟩⟩ | grind)))⟩; have n5_ : Aside0 (Kd.R (Kd.int .i64) 3 w30 w.heap.size (fun k_ => some k_ ≠ (.slice Ao10 t318.length co10 : Value).ownBlock ∧ some k_ ≠ (.slice Ao14 t321.length co14 : Value).ownBlock ∧ some k_ ≠ (v329 : Value).ownBlock ∧ some k_ ≠ (.slice Ao21 t333.length co21 : Value).ownBlock ∧ some k_ ≠ (.slice Ao25 t336.length co25 : Value).ownBlock) v344 t343) := ⟨(by rw [hw]; exact (by (with_reducible repeat (first | apply Kd.R_alloc | apply Kd.R_drewN | apply Kd.R_drew)); exact Kd.R_mono (Kd.R_far (p := ⟨gb346, 2, none⟩) (Kd.R_far (p := ⟨gb346, 1, none⟩) (Kd.R_far (p := ⟨gb346, 0, none⟩) (Kd.R_types HO345.out BK346.out (by decide)) (fun _ hk => by first | exact hk.2 | grind) (.slice Ao25 t336.length co25)) (fun _ hk => by first | exact hk.2 | grind) (.int .i64 t339)) (fun _ hk => by first | exact hk.2 | grind) (.int .i64 t340)) (fun _ hk => by first | exact ⟨hk.1.1.1.1.2, ⟨hk.1.1.1.2, ⟨hk.1.1.2, ⟨hk.1.2, hk.1.1.1.1.1⟩⟩⟩⟩ | grind)))⟩; have n6_ : Aside0 (w30.heap[gb331]? = some (.cells #[.slice Ao14 t321.length co14, .int .i64 t324, .int .i64 t325] 24 (0, 0))) := ⟨(by rw [hw]; exact (by (with_reducible repeat (first | refine blk_drewN ?_ _ | refine blk_drew ?_ | refine blk_alloc ?_ _)); refine blk_far ?_ NB331_346.out _; (with_reducible repeat (first | refine blk_drewN ?_ _ | refine blk_drew ?_ | refine blk_alloc ?_ _)); refine blk_far ?_ NB331_346.out _; (with_reducible repeat (first | refine blk_drewN ?_ _ | refine blk_drew ?_ | refine blk_alloc ?_ _)); refine blk_far ?_ NB331_346.out _; (with_reducible repeat (first | refine blk_drewN ?_ _ | refine blk_drew ?_ | refine blk_alloc ?_ _)); exact BK331.out))⟩; have n7_ : Aside0 (w30.heap[gb332]? = some (.cells #[.int .i64 t326, .int .i64 t327] 26 (0, 0))) := ⟨(by rw [hw]; exact (by (with_reducible repeat (first | refine blk_drewN ?_ _ | refine blk_drew ?_ | refine blk_alloc ?_ _)); refine blk_far ?_ NB332_346.out _; (with_reducible repeat (first | refine blk_drewN ?_ _ | refine blk_drew ?_ | refine blk_alloc ?_ _)); refine blk_far ?_ NB332_346.out _; (with_reducible repeat (first | refine blk_drewN ?_ _ | refine blk_drew ?_ | refine blk_alloc ?_ _)); refine blk_far ?_ NB332_346.out _; (with_reducible repeat (first | refine blk_drewN ?_ _ | refine blk_drew ?_ | refine blk_alloc ?_ _)); exact BK332.out))⟩; have n8_ : Aside0 (w30.heap[gb346]? = some (.cells #[.slice Ao25 t336.length co25, .int .i64 t339, .int .i64 t340] 24 (0, 0))) := ⟨(by rw [hw]; exact (by (with_reducible repeat (first | refine blk_drewN ?_ _ | refine blk_drew ?_ | refine blk_alloc ?_ _)); refine blk_put (cs := #[.slice Ao25 t336.length co25, .int .i64 t339, .int .i64 0]) ?_ 2 _ rfl; (with_reducible repeat (first | refine blk_drewN ?_ _ | refine blk_drew ?_ | refine blk_alloc ?_ _)); refine blk_put (cs := #[.slice Ao25 t336.length co25, .int .i64 0, .int .i64 0]) ?_ 1 _ rfl; (with_reducible repeat (first | refine blk_drewN ?_ _ | refine blk_drew ?_ | refine blk_alloc ?_ _)); refine blk_put (cs := #[.slice none 0 0, .int .i64 0, .int .i64 0]) ?_ 0 _ rfl; (with_reducible repeat (first | refine blk_drewN ?_ _ | refine blk_drew ?_ | refine blk_alloc ?_ _)); exact BK346.out))⟩; have n9_ : Aside0 (w30.heap[gb347]? = some (.cells #[.int .i64 0, .int .i64 0] 26 (0, 0))) := ⟨(by rw [hw]; exact (by (with_reducible repeat (first | refine blk_drewN ?_ _ | refine blk_drew ?_ | refine blk_alloc ?_ _)); refine blk_far ?_ NB347_346.out _; (with_reducible repeat (first | refine blk_drewN ?_ _ | refine blk_drew ?_ | refine blk_alloc ?_ _)); refine blk_far ?_ NB347_346.out _; (with_reducible repeat (first | refine blk_drewN ?_ _ | refine blk_drew ?_ | refine blk_alloc ?_ _)); refine blk_far ?_ NB347_346.out _; (with_reducible repeat (first | refine blk_drewN ?_ _ | refine blk_drew ?_ | refine blk_alloc ?_ _)); exact BK347.out))⟩; have n10_ : Aside0 (Below w.heap.size w w30) := ⟨(by rw [hw]; exact (ue_ HB.out))⟩; clear hw; clear HO320; clear HO323; clear HO330; clear HO335; clear HO338; clear HO345; clear BK331; clear BK332; clear BK346; clear BK347; clear HB; have HO320 := n0_; have HO323 := n1_; have HO330 := n2_; have HO335 := n3_; have HO338 := n4_; have HO345 := n5_; have BK331 := n6_; have BK332 := n7_; have BK346 := n8_; have BK347 := n9_; have HB := n10_; clear n0_ n1_ n2_ n3_ n4_ n5_ n6_ n7_ n8_ n9_ n10_; have hnb31 := NB347_331.out; have hnc31 := NB331_347.out; have hnb32 := NB347_332.out; have hnc32 := NB332_347.out; have hcz33_0 : w30.cell? ⟨gb347, 0, none⟩ = some (.int .i64 0) := (blk_cell BK347.out 0).trans rfl; have hcz33_1 : w30.cell? ⟨gb347, 1, none⟩ = some (.int .i64 0) := (blk_cell BK347.out 1).trans rfl; have hfz33_0 := blk_frozen BK347.out 0; have hfz33_1 := blk_frozen BK347.out 1) | ((with_reducible refine gate_store (t := 26) (p := 10) rfl ?_); refine store_event (t := 26) (p := 10) (v := ?vo_w34) (w1 := ((w30.setCell ⟨gb347, 0, none⟩ (.int .i64 t341)).setCell ⟨gb347, 1, none⟩ (.int .i64 t342))) ?hg ?ho ?hn ?hr ?_; (case ho => rfl); (case hg => rfl); (case hn => rfl); (case hr => first | (go_simp; done) | (go_simp; rfl)); intro w34 hw; have n0_ : Aside0 (Kd.R (Kd.int .i64) 3 w34 w.heap.size (fun k_ => some k_ ≠ (.slice Ao14 t321.length co14 : Value).ownBlock ∧ some k_ ≠ (v329 : Value).ownBlock ∧ some k_ ≠ (.slice Ao21 t333.length co21 : Value).ownBlock ∧ some k_ ≠ (.slice Ao25 t336.length co25 : Value).ownBlock ∧ some k_ ≠ (v344 : Value).ownBlock) (.slice Ao10 t318.length co10) t318) := ⟨(by rw [hw]; exact (by (with_reducible repeat (first | apply Kd.R_alloc | apply Kd.R_drewN | apply Kd.R_drew)); exact Kd.R_mono (Kd.R_far (p := ⟨gb347, 1, none⟩) (Kd.R_far (p := ⟨gb347, 0, none⟩) (Kd.R_types HO320.out BK347.out (by decide)) (fun _ hk => by first | exact hk.2 | grind) (.int .i64 t341)) (fun _ hk => by first | exact hk.2 | grind) (.int .i64 t342)) (fun _ hk => by first | exact ⟨hk.1.1, ⟨hk.1.2.1, ⟨hk.1.2.2.1, ⟨hk.1.2.2.2.1, hk.1.2.2.2.2⟩⟩⟩⟩ | grind)))⟩; have n1_ : Aside0 (Kd.R (Kd.int .i64) 3 w34 w.heap.size (fun k_ => some k_ ≠ (.slice Ao10 t318.length co10 : Value).ownBlock ∧ some k_ ≠ (v329 : Value).ownBlock ∧ some k_ ≠ (.slice Ao21 t333.length co21 : Value).ownBlock ∧ some k_ ≠ (.slice Ao25 t336.length co25 : Value).ownBlock ∧ some k_ ≠ (v344 : Value).ownBlock) (.slice Ao14 t321.length co14) t321) := ⟨(by rw [hw]; exact (by (with_reducible repeat (first | apply Kd.R_alloc | apply Kd.R_drewN | apply Kd.R_drew)); exact Kd.R_mono (Kd.R_far (p := ⟨gb347, 1, none⟩) (Kd.R_far (p := ⟨gb347, 0, none⟩) (Kd.R_types HO323.out BK347.out (by decide)) (fun _ hk => by first | exact hk.2 | grind) (.int .i64 t341)) (fun _ hk => by first | exact hk.2 | grind) (.int .i64 t342)) (fun _ hk => by first | exact ⟨hk.1.1, ⟨hk.1.2.1, ⟨hk.1.2.2.1, ⟨hk.1.2.2.2.1, hk.1.2.2.2.2⟩⟩⟩⟩ | grind)))⟩; have n2_ : Aside0 (Kd.R (Kd.int .i64) 3 w34 w.heap.size (fun k_ => some k_ ≠ (.slice Ao10 t318.length co10 : Value).ownBlock ∧ some k_ ≠ (.slice Ao14 t321.length co14 : Value).ownBlock ∧ some k_ ≠ (.slice Ao21 t333.length co21 : Value).ownBlock ∧ some k_ ≠ (.slice Ao25 t336.length co25 : Value).ownBlock ∧ some k_ ≠ (v344 : Value).ownBlock) v329 t328) := ⟨(by rw [hw]; exact (by (with_reducible repeat (first | apply Kd.R_alloc | apply Kd.R_drewN | apply Kd.R_drew)); exact Kd.R_mono (Kd.R_far (p := ⟨gb347, 1, none⟩) (Kd.R_far (p := ⟨gb347, 0, none⟩) (Kd.R_types HO330.out BK347.out (by decide)) (fun _ hk => by first | exact hk.2 | grind) (.int .i64 t341)) (fun _ hk => by first | exact hk.2 | grind) (.int .i64 t342)) (fun _ hk => by first | exact ⟨hk.1.1, ⟨hk.1.2.1, ⟨hk.1.2.2.1, ⟨hk.1.2.2.2.1, hk.1.2.2.2.2⟩⟩⟩⟩ | grind)))⟩; have n3_ : Aside0 (Kd.R (Kd.int .i64) 3 w34 w.heap.size (fun k_ => some k_ ≠ (.slice Ao10 t318.length co10 : Value).ownBlock ∧ some k_ ≠ (.slice Ao14 t321.length co14 : Value).ownBlock ∧ some k_ ≠ (v329 : Value).ownBlock ∧ some k_ ≠ (.slice Ao25 t336.length co25 : Value).ownBlock ∧ some k_ ≠ (v344 : Value).ownBlock) (.slice Ao21 t333.length co21) t333) := ⟨(by rw [hw]; exact (by (with_reducible repeat (first | apply Kd.R_alloc | apply Kd.R_drewN | apply Kd.R_drew)); exact Kd.R_mono (Kd.R_far (p := ⟨gb347, 1, none⟩) (Kd.R_far (p := ⟨gb347, 0, none⟩) (Kd.R_types HO335.out BK347.out (by decide)) (fun _ hk => by first | exact hk.2 | grind) (.int .i64 t341)) (fun _ hk => by first | exact hk.2 | grind) (.int .i64 t342)) (fun _ hk => by first | exact ⟨hk.1.1, ⟨hk.1.2.1, ⟨hk.1.2.2.1, ⟨hk.1.2.2.2.1, hk.1.2.2.2.2⟩⟩⟩⟩ | grind)))⟩; have n4_ : Aside0 (Kd.R (Kd.int .i64) 3 w34 w.heap.size (fun k_ => some k_ ≠ (.slice Ao10 t318.length co10 : Value).ownBlock ∧ some k_ ≠ (.slice Ao14 t321.length co14 : Value).ownBlock ∧ some k_ ≠ (v329 : Value).ownBlock ∧ some k_ ≠ (.slice Ao21 t333.length co21 : Value).ownBlock ∧ some k_ ≠ (v344 : Value).ownBlock) (.slice Ao25 t336.length co25) t336) := ⟨(by rw [hw]; exact (by (with_reducible repeat (first | apply Kd.R_alloc | apply Kd.R_drewN | apply Kd.R_drew)); exact Kd.R_mono (Kd.R_far (p := ⟨gb347, 1, none⟩) (Kd.R_far (p := ⟨gb347, 0, none⟩) (Kd.R_types HO338.out BK347.out (by decide)) (fun _ hk => by first | exact hk.2 | grind) (.int .i64 t341)) (fun _ hk => by first | exact hk.2 | grind) (.int .i64 t342)) (fun _ hk => by first | exact ⟨hk.1.1, ⟨hk.1.2.1, ⟨hk.1.2.2.1, ⟨hk.1.2.2.2.1, hk.1.2.2.2.2⟩⟩⟩⟩ | grind)))⟩; have n5_ : Aside0 (Kd.R (Kd.int .i64) 3 w34 w.heap.size (fun k_ => some k_ ≠ (.slice Ao10 t318.length co10 : Value).ownBlock ∧ some k_ ≠ (.slice Ao14 t321.length co14 : Value).ownBlock ∧ some k_ ≠ (v329 : Value).ownBlock ∧ some k_ ≠ (.slice Ao21 t333.length co21 : Value).ownBlock ∧ some k_ ≠ (.slice Ao25 t336.length co25 : Value).ownBlock) v344 t343) := ⟨(by rw [hw]; exact (by (with_reducible repeat (first | apply Kd.R_alloc | apply Kd.R_drewN | apply Kd.R_drew)); exact Kd.R_mono (Kd.R_far (p := ⟨gb347, 1, none⟩) (Kd.R_far (p := ⟨gb347, 0, none⟩) (Kd.R_types HO345.out BK347.out (by decide)) (fun _ hk => by first | exact hk.2 | grind) (.int .i64 t341)) (fun _ hk => by first | exact hk.2 | grind) (.int .i64 t342)) (fun _ hk => by first | exact ⟨hk.1.1, ⟨hk.1.2.1, ⟨hk.1.2.2.1, ⟨hk.1.2.2.2.1, hk.1.2.2.2.2⟩⟩⟩⟩ | grind)))⟩; have n6_ : Aside0 (w34.heap[gb331]? = some (.cells #[.slice Ao14 t321.length co14, .int .i64 t324, .int .i64 t325] 24 (0, 0))) := ⟨(by rw [hw]; exact (by (with_reducible repeat (first | refine blk_drewN ?_ _ | refine blk_drew ?_ | refine blk_alloc ?_ _)); refine blk_far ?_ NB331_347.out _; (with_reducible repeat (first | refine blk_drewN ?_ _ | refine blk_drew ?_ | refine blk_alloc ?_ _)); refine blk_far ?_ NB331_347.out _; (with_reducible repeat (first | refine blk_drewN ?_ _ | refine blk_drew ?_ | refine blk_alloc ?_ _)); exact BK331.out))⟩; have n7_ : Aside0 (w34.heap[gb332]? = some (.cells #[.int .i64 t326, .int .i64 t327] 26 (0, 0))) := ⟨(by rw [hw]; exact (by (with_reducible repeat (first | refine blk_drewN ?_ _ | refine blk_drew ?_ | refine blk_alloc ?_ _)); refine blk_far ?_ NB332_347.out _; (with_reducible repeat (first | refine blk_drewN ?_ _ | refine blk_drew ?_ | refine blk_alloc ?_ _)); refine blk_far ?_ NB332_347.out _; (with_reducible repeat (first | refine blk_drewN ?_ _ | refine blk_drew ?_ | refine blk_alloc ?_ _)); exact BK332.out))⟩; have n8_ : Aside0 (w34.heap[gb346]? = some (.cells #[.slice Ao25 t336.length co25, .int .i64 t339, .int .i64 t340] 24 (0, 0))) := ⟨(by rw [hw]; exact (by (with_reducible repeat (first | refine blk_drewN ?_ _ | refine blk_drew ?_ | refine blk_alloc ?_ _)); refine blk_far ?_ NB346_347.out _; (with_reducible repeat (first | refine blk_drewN ?_ _ | refine blk_drew ?_ | refine blk_alloc ?_ _)); refine blk_far ?_ NB346_347.out _; (with_reducible repeat (first | refine blk_drewN ?_ _ | refine blk_drew ?_ | refine blk_alloc ?_ _)); exact BK346.out))⟩; have n9_ : Aside0 (w34.heap[gb347]? = some (.cells #[.int .i64 t341, .int .i64 t342] 26 (0, 0))) := ⟨(by rw [hw]; exact (by (with_reducible repeat (first | refine blk_drewN ?_ _ | refine blk_drew ?_ | refine blk_alloc ?_ _)); refine blk_put (cs := #[.int .i64 t341, .int .i64 0]) ?_ 1 _ rfl; (with_reducible repeat (first | refine blk_drewN ?_ _ | refine blk_drew ?_ | refine blk_alloc ?_ _)); refine blk_put (cs := #[.int .i64 0, .int .i64 0]) ?_ 0 _ rfl; (with_reducible repeat (first | refine blk_drewN ?_ _ | refine blk_drew ?_ | refine blk_alloc ?_ _)); exact BK347.out))⟩; have n10_ : Aside0 (Below w.heap.size w w34) := ⟨(by rw [hw]; exact (ue_ HB.out))⟩; clear hw; clear HO320; clear HO323; clear HO330; clear HO335; clear HO338; clear HO345; clear BK331; clear BK332; clear BK346; clear BK347; clear HB; have HO320 := n0_; have HO323 := n1_; have HO330 := n2_; have HO335 := n3_; have HO338 := n4_; have HO345 := n5_; have BK331 := n6_; have BK332 := n7_; have BK346 := n8_; have BK347 := n9_; have HB := n10_; clear n0_ n1_ n2_ n3_ n4_ n5_ n6_ n7_ n8_ n9_ n10_))
  (try simp only [Act.put, List.setIfInBounds_toArray, List.set_cons_zero, List.set_cons_succ])
  go_cut [53] (fun v53 wc => ∃ (kq : Nat) (x53_7 : Bool), v53 = .bool x53_7 ∧ Aside0 (laws_FnExactPlayLink.j0 kq a0 l1 t328 t333 t343 x53_7 t321 t324 t325 t326 t327 t336 t339 t340 t341 t342 = some r) ∧ Aside0 (kq ≤ k) ∧ Aside0 (Kd.R (Kd.int .i64) 3 wc w.heap.size (fun k_ => some k_ ≠ ((.slice Ao21 t333.length co21) : Value).ownBlock ∧ some k_ ≠ (v344 : Value).ownBlock ∧ some k_ ≠ ((.slice Ao14 t321.length co14) : Value).ownBlock ∧ some k_ ≠ ((.slice Ao25 t336.length co25) : Value).ownBlock) v329 t328) ∧ Aside0 (Kd.R (Kd.int .i64) 3 wc w.heap.size (fun k_ => some k_ ≠ (v329 : Value).ownBlock ∧ some k_ ≠ (v344 : Value).ownBlock ∧ some k_ ≠ ((.slice Ao14 t321.length co14) : Value).ownBlock ∧ some k_ ≠ ((.slice Ao25 t336.length co25) : Value).ownBlock) (.slice Ao21 t333.length co21) t333) ∧ Aside0 (Kd.R (Kd.int .i64) 3 wc w.heap.size (fun k_ => some k_ ≠ (v329 : Value).ownBlock ∧ some k_ ≠ ((.slice Ao21 t333.length co21) : Value).ownBlock ∧ some k_ ≠ ((.slice Ao14 t321.length co14) : Value).ownBlock ∧ some k_ ≠ ((.slice Ao25 t336.length co25) : Value).ownBlock) v344 t343) ∧ Aside0 (Kd.R (Kd.int .i64) 3 wc w.heap.size (fun k_ => some k_ ≠ (v329 : Value).ownBlock ∧ some k_ ≠ ((.slice Ao21 t333.length co21) : Value).ownBlock ∧ some k_ ≠ (v344 : Value).ownBlock ∧ some k_ ≠ ((.slice Ao25 t336.length co25) : Value).ownBlock) (.slice Ao14 t321.length co14) t321) ∧ Aside0 (Kd.R (Kd.int .i64) 3 wc w.heap.size (fun k_ => some k_ ≠ (v329 : Value).ownBlock ∧ some k_ ≠ ((.slice Ao21 t333.length co21) : Value).ownBlock ∧ some k_ ≠ (v344 : Value).ownBlock ∧ some k_ ≠ ((.slice Ao14 t321.length co14) : Value).ownBlock) (.slice Ao25 t336.length co25) t336) ∧ Aside0 (wc.heap[gb331]? = some (.cells #[(.slice Ao14 t321.length co14), .int .i64 t324, .int .i64 t325] 24 (0, 0))) ∧ Aside0 (wc.heap[gb332]? = some (.cells #[.int .i64 t326, .int .i64 t327] 26 (0, 0))) ∧ Aside0 (wc.heap[gb346]? = some (.cells #[(.slice Ao25 t336.length co25), .int .i64 t339, .int .i64 t340] 24 (0, 0))) ∧ Aside0 (wc.heap[gb347]? = some (.cells #[.int .i64 t341, .int .i64 t342] 26 (0, 0))) ∧ Aside0 (Below w.heap.size w wc))
  case first =>
   have H := HC8.out
   clear HC8
   replace H := Option.bind_eq_some_iff.mp H
   obtain ⟨t348, A350, H⟩ := H
   replace H : (if t348 = true then ((laws_eqCredit.f t341 t342 t326 t327).bind fun t349 => (if t349 = true then ((laws_eqIntS.f k t343 t328).bind fun t350 => (laws_FnExactPlayLink.j0 k a0 l1 t328 t333 t343 (!t350) t321 t324 t325 t326 t327 t336 t339 t340 t341 t342)) else (laws_FnExactPlayLink.j0 k a0 l1 t328 t333 t343 true t321 t324 t325 t326 t327 t336 t339 t340 t341 t342))) else (laws_FnExactPlayLink.j0 k a0 l1 t328 t333 t343 true t321 t324 t325 t326 t327 t336 t339 t340 t341 t342)) = some r := H
   have A35 := Aside0.mk A350
   clear A350
   by_cases c36 : t348 = true
   ·
    subst c36
    have H1 : ((laws_eqCredit.f t341 t342 t326 t327).bind fun t349 => (if t349 = true then ((laws_eqIntS.f k t343 t328).bind fun t350 => (laws_FnExactPlayLink.j0 k a0 l1 t328 t333 t343 (!t350) t321 t324 t325 t326 t327 t336 t339 t340 t341 t342)) else (laws_FnExactPlayLink.j0 k a0 l1 t328 t333 t343 true t321 t324 t325 t326 t327 t336 t339 t340 t341 t342))) = some r := by rw [if_pos rfl] at H; exact H
    clear H
    have H := H1
    clear H1
    replace H := Option.bind_eq_some_iff.mp H
    obtain ⟨t349, A370, H⟩ := H
    replace H : (if t349 = true then ((laws_eqIntS.f k t343 t328).bind fun t350 => (laws_FnExactPlayLink.j0 k a0 l1 t328 t333 t343 (!t350) t321 t324 t325 t326 t327 t336 t339 t340 t341 t342)) else (laws_FnExactPlayLink.j0 k a0 l1 t328 t333 t343 true t321 t324 t325 t326 t327 t336 t339 t340 t341 t342)) = some r := H
    have A37 := Aside0.mk A370
    clear A370
    by_cases c38 : t349 = true
    ·
     subst c38
     have H1 : ((laws_eqIntS.f k t343 t328).bind fun t350 => (laws_FnExactPlayLink.j0 k a0 l1 t328 t333 t343 (!t350) t321 t324 t325 t326 t327 t336 t339 t340 t341 t342)) = some r := by rw [if_pos rfl] at H; exact H
     clear H
     have H := H1
     clear H1
     replace H := Option.bind_eq_some_iff.mp H
     obtain ⟨t350, A390, H⟩ := H
     replace H : (laws_FnExactPlayLink.j0 k a0 l1 t328 t333 t343 (!t350) t321 t324 t325 t326 t327 t336 t339 t340 t341 t342) = some r := H
     have A39 := Aside0.mk A390
     clear A390
     have H' := Aside0.mk H
     clear H
     have hnb40 := NB346_331.out
     have hnc40 := NB331_346.out
     have hnb41 := NB346_332.out
     have hnc41 := NB332_346.out
     have hnb42 := NB346_347.out
     have hnc42 := NB347_346.out
     have hcz43_0 : w34.cell? ⟨gb346, 0, none⟩ = some (.slice Ao25 t336.length co25) := (blk_cell BK346.out 0).trans rfl
     have hcz43_1 : w34.cell? ⟨gb346, 1, none⟩ = some (.int .i64 t339) := (blk_cell BK346.out 1).trans rfl
     have hcz43_2 : w34.cell? ⟨gb346, 2, none⟩ = some (.int .i64 t340) := (blk_cell BK346.out 2).trans rfl
     have hfz43_0 := blk_frozen BK346.out 0
     have hfz43_1 := blk_frozen BK346.out 1
     have hfz43_2 := blk_frozen BK346.out 2
     have hnb44 := NB331_332.out
     have hnc44 := NB332_331.out
     have hnb45 := NB331_347.out
     have hnc45 := NB347_331.out
     have hcz46_0 : w34.cell? ⟨gb331, 0, none⟩ = some (.slice Ao14 t321.length co14) := (blk_cell BK331.out 0).trans rfl
     have hcz46_1 : w34.cell? ⟨gb331, 1, none⟩ = some (.int .i64 t324) := (blk_cell BK331.out 1).trans rfl
     have hcz46_2 : w34.cell? ⟨gb331, 2, none⟩ = some (.int .i64 t325) := (blk_cell BK331.out 2).trans rfl
     have hfz46_0 := blk_frozen BK331.out 0
     have hfz46_1 := blk_frozen BK331.out 1
     have hfz46_2 := blk_frozen BK331.out 2
     go_wp2_with (first | ((with_reducible refine gate_callee (f := 17) rfl ?_); refine goesL_ (some 40) rfl rfl Try.func17 (by kernel_rfl) rfl #[.agg #[.slice Ao25 t336.length co25, .int .i64 t339, .int .i64 t340], .agg #[.slice Ao14 t321.length co14, .int .i64 t324, .int .i64 t325]] rfl ul_ ?_; (with_reducible refine (laws_eqRing.calls k _ _ t336 t339 t340 _ _ t321 t324 t325 true _ ?side1 ?side2 ?side3 ?side4 A35.out).mono ?_); (case side1 => repeat (first | exact (Kd.R_reads' HO338.out).2.2 | (with_reducible refine Kd.C_alloc ?_ _) | (with_reducible refine Kd.C_drewN ?_ _) | (with_reducible refine Kd.C_drew ?_))); (case side2 => exact (Kd.R_reads' HO338.out).2.1); (case side3 => repeat (first | exact (Kd.R_reads' HO323.out).2.2 | (with_reducible refine Kd.C_alloc ?_ _) | (with_reducible refine Kd.C_drewN ?_ _) | (with_reducible refine Kd.C_drew ?_))); (case side4 => exact (Kd.R_reads' HO323.out).2.1); rintro e w47 ⟨rfl, hb⟩; refine ⟨_, rfl, ?_⟩; have n0_ := Aside0.mk (Kd.R_below (ur_ HO320.out) hb); have n1_ := Aside0.mk (Kd.R_below (ur_ HO323.out) hb); have n2_ := Aside0.mk (Kd.R_below (ur_ HO330.out) hb); have n3_ := Aside0.mk (Kd.R_below (ur_ HO335.out) hb); have n4_ := Aside0.mk (Kd.R_below (ur_ HO338.out) hb); have n5_ := Aside0.mk (Kd.R_below (ur_ HO345.out) hb); have n6_ := Aside0.mk (blk_below (g := gb331) (o := .cells #[.slice Ao14 t321.length co14, .int .i64 t324, .int .i64 t325] 24 (0, 0)) (ub_ BK331.out) hb); have n7_ := Aside0.mk (blk_below (g := gb332) (o := .cells #[.int .i64 t326, .int .i64 t327] 26 (0, 0)) (ub_ BK332.out) hb); have n8_ := Aside0.mk (blk_below (g := gb346) (o := .cells #[.slice Ao25 t336.length co25, .int .i64 t339, .int .i64 t340] 24 (0, 0)) (ub_ BK346.out) hb); have n9_ := Aside0.mk (blk_below (g := gb347) (o := .cells #[.int .i64 t341, .int .i64 t342] 26 (0, 0)) (ub_ BK347.out) hb); have n10_ := Aside0.mk (below_step (ue_ HB.out) hb); clear HO320; clear HO323; clear HO330; clear HO335; clear HO338; clear HO345; clear BK331; clear BK332; clear BK346; clear BK347; clear HB; have HO320 := n0_; have HO323 := n1_; have HO330 := n2_; have HO335 := n3_; have HO338 := n4_; have HO345 := n5_; have BK331 := n6_; have BK332 := n7_; have BK346 := n8_; have BK347 := n9_; have HB := n10_; clear n0_ n1_ n2_ n3_ n4_ n5_ n6_ n7_ n8_ n9_ n10_; (try clear hb); (try clear hb2); (try clear hk); (try clear hi); have hnb48 := NB347_332.out; have hnc48 := NB332_347.out; have hcz49_0 : w47.cell? ⟨gb347, 0, none⟩ = some (.int .i64 t341) := (blk_cell BK347.out 0).trans rfl; have hcz49_1 : w47.cell? ⟨gb347, 1, none⟩ = some (.int .i64 t342) := (blk_cell BK347.out 1).trans rfl; have hfz49_0 := blk_frozen BK347.out 0; have hfz49_1 := blk_frozen BK347.out 1; have hcz50_0 : w47.cell? ⟨gb332, 0, none⟩ = some (.int .i64 t326) := (blk_cell BK332.out 0).trans rfl; have hcz50_1 : w47.cell? ⟨gb332, 1, none⟩ = some (.int .i64 t327) := (blk_cell BK332.out 1).trans rfl; have hfz50_0 := blk_frozen BK332.out 0; have hfz50_1 := blk_frozen BK332.out 1) | (go_at_call 18; (with_reducible refine (laws_eqCredit.calls t341 t342 t326 t327 true _ A37.out).mono ?_); rintro e w51 ⟨rfl, hb⟩; have n0_ := Aside0.mk (Kd.R_below (ur_ HO320.out) hb); have n1_ := Aside0.mk (Kd.R_below (ur_ HO323.out) hb); have n2_ := Aside0.mk (Kd.R_below (ur_ HO330.out) hb); have n3_ := Aside0.mk (Kd.R_below (ur_ HO335.out) hb); have n4_ := Aside0.mk (Kd.R_below (ur_ HO338.out) hb); have n5_ := Aside0.mk (Kd.R_below (ur_ HO345.out) hb); have n6_ := Aside0.mk (blk_below (g := gb331) (o := .cells #[.slice Ao14 t321.length co14, .int .i64 t324, .int .i64 t325] 24 (0, 0)) (ub_ BK331.out) hb); have n7_ := Aside0.mk (blk_below (g := gb332) (o := .cells #[.int .i64 t326, .int .i64 t327] 26 (0, 0)) (ub_ BK332.out) hb); have n8_ := Aside0.mk (blk_below (g := gb346) (o := .cells #[.slice Ao25 t336.length co25, .int .i64 t339, .int .i64 t340] 24 (0, 0)) (ub_ BK346.out) hb); have n9_ := Aside0.mk (blk_below (g := gb347) (o := .cells #[.int .i64 t341, .int .i64 t342] 26 (0, 0)) (ub_ BK347.out) hb); have n10_ := Aside0.mk (below_step (ue_ HB.out) hb); clear HO320; clear HO323; clear HO330; clear HO335; clear HO338; clear HO345; clear BK331; clear BK332; clear BK346; clear BK347; clear HB; have HO320 := n0_; have HO323 := n1_; have HO330 := n2_; have HO335 := n3_; have HO338 := n4_; have HO345 := n5_; have BK331 := n6_; have BK332 := n7_; have BK346 := n8_; have BK347 := n9_; have HB := n10_; clear n0_ n1_ n2_ n3_ n4_ n5_ n6_ n7_ n8_ n9_ n10_; (try clear hb); (try clear hb2); (try clear hk); (try clear hi); obtain ⟨Ao52, co52, eo52⟩ := Kd.R_slice HO345.out; subst eo52; obtain ⟨Ao53, co53, eo53⟩ := Kd.R_slice HO330.out; subst eo53) | (go_at_call 19; (with_reducible refine (laws_eqIntS.calls k _ _ t343 _ _ t328 t350 _ ?side1 ?side2 ?side3 ?side4 A39.out).mono ?_); (case side1 => repeat (first | exact (Kd.R_reads' HO345.out).2.2 | (with_reducible refine Kd.C_alloc ?_ _) | (with_reducible refine Kd.C_drewN ?_ _) | (with_reducible refine Kd.C_drew ?_))); (case side2 => exact (Kd.R_reads' HO345.out).2.1); (case side3 => repeat (first | exact (Kd.R_reads' HO330.out).2.2 | (with_reducible refine Kd.C_alloc ?_ _) | (with_reducible refine Kd.C_drewN ?_ _) | (with_reducible refine Kd.C_drew ?_))); (case side4 => exact (Kd.R_reads' HO330.out).2.1); rintro e w' ⟨rfl, ⟨nd, rfl⟩⟩))
     go_meet
     case rel => exact ⟨_, (!t350), (by first | rfl | (simp; done) | (simp [*]; done)), H', ⟨by first | omega | exact Nat.le_refl _⟩, ⟨by (with_reducible repeat (first | apply Kd.R_alloc | apply Kd.R_drewN | apply Kd.R_drew)); exact Kd.R_mono HO330.out (fun _ hk => by first | exact ⟨hk.2.2.1, ⟨hk.2.2.2.2, ⟨hk.2.1, hk.2.2.2.1⟩⟩⟩ | grind)⟩, ⟨by (with_reducible repeat (first | apply Kd.R_alloc | apply Kd.R_drewN | apply Kd.R_drew)); exact Kd.R_mono HO335.out (fun _ hk => by first | exact ⟨hk.2.2.1, ⟨hk.2.2.2.2, ⟨hk.2.1, hk.2.2.2.1⟩⟩⟩ | grind)⟩, ⟨by (with_reducible repeat (first | apply Kd.R_alloc | apply Kd.R_drewN | apply Kd.R_drew)); exact Kd.R_mono HO345.out (fun _ hk => by first | exact ⟨hk.2.2.1, ⟨hk.2.2.2.1, ⟨hk.2.1, hk.2.2.2.2⟩⟩⟩ | grind)⟩, ⟨by (with_reducible repeat (first | apply Kd.R_alloc | apply Kd.R_drewN | apply Kd.R_drew)); exact Kd.R_mono HO323.out (fun _ hk => by first | exact ⟨hk.2.1, ⟨hk.2.2.1, ⟨hk.2.2.2.2, hk.2.2.2.1⟩⟩⟩ | grind)⟩, ⟨by (with_reducible repeat (first | apply Kd.R_alloc | apply Kd.R_drewN | apply Kd.R_drew)); exact Kd.R_mono HO338.out (fun _ hk => by first | exact ⟨hk.2.2.1, ⟨hk.2.2.2.1, ⟨hk.2.2.2.2, hk.2.1⟩⟩⟩ | grind)⟩, ⟨by (with_reducible repeat (first | refine blk_drewN ?_ _ | refine blk_drew ?_ | refine blk_alloc ?_ _)); exact BK331.out⟩, ⟨by (with_reducible repeat (first | refine blk_drewN ?_ _ | refine blk_drew ?_ | refine blk_alloc ?_ _)); exact BK332.out⟩, ⟨by (with_reducible repeat (first | refine blk_drewN ?_ _ | refine blk_drew ?_ | refine blk_alloc ?_ _)); exact BK346.out⟩, ⟨by (with_reducible repeat (first | refine blk_drewN ?_ _ | refine blk_drew ?_ | refine blk_alloc ?_ _)); exact BK347.out⟩, ⟨ue_ HB.out⟩⟩
    ·
     replace c38 := Bool.eq_false_iff.mpr c38
     subst c38
     have H1 : (laws_FnExactPlayLink.j0 k a0 l1 t328 t333 t343 true t321 t324 t325 t326 t327 t336 t339 t340 t341 t342) = some r := by rw [if_neg (show ¬ (false = true) by decide)] at H; exact H
     clear H
     have H := H1
     clear H1
     have H' := Aside0.mk H
     clear H
     have hnb54 := NB346_331.out
     have hnc54 := NB331_346.out
     have hnb55 := NB346_332.out
     have hnc55 := NB332_346.out
     have hnb56 := NB346_347.out
     have hnc56 := NB347_346.out
     have hcz57_0 : w34.cell? ⟨gb346, 0, none⟩ = some (.slice Ao25 t336.length co25) := (blk_cell BK346.out 0).trans rfl
     have hcz57_1 : w34.cell? ⟨gb346, 1, none⟩ = some (.int .i64 t339) := (blk_cell BK346.out 1).trans rfl
     have hcz57_2 : w34.cell? ⟨gb346, 2, none⟩ = some (.int .i64 t340) := (blk_cell BK346.out 2).trans rfl
     have hfz57_0 := blk_frozen BK346.out 0
     have hfz57_1 := blk_frozen BK346.out 1
     have hfz57_2 := blk_frozen BK346.out 2
     have hnb58 := NB331_332.out
     have hnc58 := NB332_331.out
     have hnb59 := NB331_347.out
     have hnc59 := NB347_331.out
     have hcz60_0 : w34.cell? ⟨gb331, 0, none⟩ = some (.slice Ao14 t321.length co14) := (blk_cell BK331.out 0).trans rfl
     have hcz60_1 : w34.cell? ⟨gb331, 1, none⟩ = some (.int .i64 t324) := (blk_cell BK331.out 1).trans rfl
     have hcz60_2 : w34.cell? ⟨gb331, 2, none⟩ = some (.int .i64 t325) := (blk_cell BK331.out 2).trans rfl
     have hfz60_0 := blk_frozen BK331.out 0
     have hfz60_1 := blk_frozen BK331.out 1
     have hfz60_2 := blk_frozen BK331.out 2
     go_wp2_with (first | ((with_reducible refine gate_callee (f := 17) rfl ?_); refine goesL_ (some 40) rfl rfl Try.func17 (by kernel_rfl) rfl #[.agg #[.slice Ao25 t336.length co25, .int .i64 t339, .int .i64 t340], .agg #[.slice Ao14 t321.length co14, .int .i64 t324, .int .i64 t325]] rfl ul_ ?_; (with_reducible refine (laws_eqRing.calls k _ _ t336 t339 t340 _ _ t321 t324 t325 true _ ?side1 ?side2 ?side3 ?side4 A35.out).mono ?_); (case side1 => repeat (first | exact (Kd.R_reads' HO338.out).2.2 | (with_reducible refine Kd.C_alloc ?_ _) | (with_reducible refine Kd.C_drewN ?_ _) | (with_reducible refine Kd.C_drew ?_))); (case side2 => exact (Kd.R_reads' HO338.out).2.1); (case side3 => repeat (first | exact (Kd.R_reads' HO323.out).2.2 | (with_reducible refine Kd.C_alloc ?_ _) | (with_reducible refine Kd.C_drewN ?_ _) | (with_reducible refine Kd.C_drew ?_))); (case side4 => exact (Kd.R_reads' HO323.out).2.1); rintro e w61 ⟨rfl, hb⟩; refine ⟨_, rfl, ?_⟩; have n0_ := Aside0.mk (Kd.R_below (ur_ HO320.out) hb); have n1_ := Aside0.mk (Kd.R_below (ur_ HO323.out) hb); have n2_ := Aside0.mk (Kd.R_below (ur_ HO330.out) hb); have n3_ := Aside0.mk (Kd.R_below (ur_ HO335.out) hb); have n4_ := Aside0.mk (Kd.R_below (ur_ HO338.out) hb); have n5_ := Aside0.mk (Kd.R_below (ur_ HO345.out) hb); have n6_ := Aside0.mk (blk_below (g := gb331) (o := .cells #[.slice Ao14 t321.length co14, .int .i64 t324, .int .i64 t325] 24 (0, 0)) (ub_ BK331.out) hb); have n7_ := Aside0.mk (blk_below (g := gb332) (o := .cells #[.int .i64 t326, .int .i64 t327] 26 (0, 0)) (ub_ BK332.out) hb); have n8_ := Aside0.mk (blk_below (g := gb346) (o := .cells #[.slice Ao25 t336.length co25, .int .i64 t339, .int .i64 t340] 24 (0, 0)) (ub_ BK346.out) hb); have n9_ := Aside0.mk (blk_below (g := gb347) (o := .cells #[.int .i64 t341, .int .i64 t342] 26 (0, 0)) (ub_ BK347.out) hb); have n10_ := Aside0.mk (below_step (ue_ HB.out) hb); clear HO320; clear HO323; clear HO330; clear HO335; clear HO338; clear HO345; clear BK331; clear BK332; clear BK346; clear BK347; clear HB; have HO320 := n0_; have HO323 := n1_; have HO330 := n2_; have HO335 := n3_; have HO338 := n4_; have HO345 := n5_; have BK331 := n6_; have BK332 := n7_; have BK346 := n8_; have BK347 := n9_; have HB := n10_; clear n0_ n1_ n2_ n3_ n4_ n5_ n6_ n7_ n8_ n9_ n10_; (try clear hb); (try clear hb2); (try clear hk); (try clear hi); have hnb62 := NB347_332.out; have hnc62 := NB332_347.out; have hcz63_0 : w61.cell? ⟨gb347, 0, none⟩ = some (.int .i64 t341) := (blk_cell BK347.out 0).trans rfl; have hcz63_1 : w61.cell? ⟨gb347, 1, none⟩ = some (.int .i64 t342) := (blk_cell BK347.out 1).trans rfl; have hfz63_0 := blk_frozen BK347.out 0; have hfz63_1 := blk_frozen BK347.out 1; have hcz64_0 : w61.cell? ⟨gb332, 0, none⟩ = some (.int .i64 t326) := (blk_cell BK332.out 0).trans rfl; have hcz64_1 : w61.cell? ⟨gb332, 1, none⟩ = some (.int .i64 t327) := (blk_cell BK332.out 1).trans rfl; have hfz64_0 := blk_frozen BK332.out 0; have hfz64_1 := blk_frozen BK332.out 1) | (go_at_call 18; (with_reducible refine (laws_eqCredit.calls t341 t342 t326 t327 false _ A37.out).mono ?_); rintro e w65 ⟨rfl, hb⟩; have n0_ := Aside0.mk (Kd.R_below (ur_ HO320.out) hb); have n1_ := Aside0.mk (Kd.R_below (ur_ HO323.out) hb); have n2_ := Aside0.mk (Kd.R_below (ur_ HO330.out) hb); have n3_ := Aside0.mk (Kd.R_below (ur_ HO335.out) hb); have n4_ := Aside0.mk (Kd.R_below (ur_ HO338.out) hb); have n5_ := Aside0.mk (Kd.R_below (ur_ HO345.out) hb); have n6_ := Aside0.mk (blk_below (g := gb331) (o := .cells #[.slice Ao14 t321.length co14, .int .i64 t324, .int .i64 t325] 24 (0, 0)) (ub_ BK331.out) hb); have n7_ := Aside0.mk (blk_below (g := gb332) (o := .cells #[.int .i64 t326, .int .i64 t327] 26 (0, 0)) (ub_ BK332.out) hb); have n8_ := Aside0.mk (blk_below (g := gb346) (o := .cells #[.slice Ao25 t336.length co25, .int .i64 t339, .int .i64 t340] 24 (0, 0)) (ub_ BK346.out) hb); have n9_ := Aside0.mk (blk_below (g := gb347) (o := .cells #[.int .i64 t341, .int .i64 t342] 26 (0, 0)) (ub_ BK347.out) hb); have n10_ := Aside0.mk (below_step (ue_ HB.out) hb); clear HO320; clear HO323; clear HO330; clear HO335; clear HO338; clear HO345; clear BK331; clear BK332; clear BK346; clear BK347; clear HB; have HO320 := n0_; have HO323 := n1_; have HO330 := n2_; have HO335 := n3_; have HO338 := n4_; have HO345 := n5_; have BK331 := n6_; have BK332 := n7_; have BK346 := n8_; have BK347 := n9_; have HB := n10_; clear n0_ n1_ n2_ n3_ n4_ n5_ n6_ n7_ n8_ n9_ n10_; (try clear hb); (try clear hb2); (try clear hk); (try clear hi)))
     go_meet
     case rel => exact ⟨_, (true), (by first | rfl | (simp; done) | (simp [*]; done)), H', ⟨by first | omega | exact Nat.le_refl _⟩, ⟨by (with_reducible repeat (first | apply Kd.R_alloc | apply Kd.R_drewN | apply Kd.R_drew)); exact Kd.R_mono HO330.out (fun _ hk => by first | exact ⟨hk.2.2.1, ⟨hk.2.2.2.2, ⟨hk.2.1, hk.2.2.2.1⟩⟩⟩ | grind)⟩, ⟨by (with_reducible repeat (first | apply Kd.R_alloc | apply Kd.R_drewN | apply Kd.R_drew)); exact Kd.R_mono HO335.out (fun _ hk => by first | exact ⟨hk.2.2.1, ⟨hk.2.2.2.2, ⟨hk.2.1, hk.2.2.2.1⟩⟩⟩ | grind)⟩, ⟨by (with_reducible repeat (first | apply Kd.R_alloc | apply Kd.R_drewN | apply Kd.R_drew)); exact Kd.R_mono HO345.out (fun _ hk => by first | exact ⟨hk.2.2.1, ⟨hk.2.2.2.1, ⟨hk.2.1, hk.2.2.2.2⟩⟩⟩ | grind)⟩, ⟨by (with_reducible repeat (first | apply Kd.R_alloc | apply Kd.R_drewN | apply Kd.R_drew)); exact Kd.R_mono HO323.out (fun _ hk => by first | exact ⟨hk.2.1, ⟨hk.2.2.1, ⟨hk.2.2.2.2, hk.2.2.2.1⟩⟩⟩ | grind)⟩, ⟨by (with_reducible repeat (first | apply Kd.R_alloc | apply Kd.R_drewN | apply Kd.R_drew)); exact Kd.R_mono HO338.out (fun _ hk => by first | exact ⟨hk.2.2.1, ⟨hk.2.2.2.1, ⟨hk.2.2.2.2, hk.2.1⟩⟩⟩ | grind)⟩, ⟨by (with_reducible repeat (first | refine blk_drewN ?_ _ | refine blk_drew ?_ | refine blk_alloc ?_ _)); exact BK331.out⟩, ⟨by (with_reducible repeat (first | refine blk_drewN ?_ _ | refine blk_drew ?_ | refine blk_alloc ?_ _)); exact BK332.out⟩, ⟨by (with_reducible repeat (first | refine blk_drewN ?_ _ | refine blk_drew ?_ | refine blk_alloc ?_ _)); exact BK346.out⟩, ⟨by (with_reducible repeat (first | refine blk_drewN ?_ _ | refine blk_drew ?_ | refine blk_alloc ?_ _)); exact BK347.out⟩, ⟨ue_ HB.out⟩⟩
   ·
    replace c36 := Bool.eq_false_iff.mpr c36
    subst c36
    have H1 : (laws_FnExactPlayLink.j0 k a0 l1 t328 t333 t343 true t321 t324 t325 t326 t327 t336 t339 t340 t341 t342) = some r := by rw [if_neg (show ¬ (false = true) by decide)] at H; exact H
    clear H
    have H := H1
    clear H1
    have H' := Aside0.mk H
    clear H
    have hnb66 := NB346_331.out
    have hnc66 := NB331_346.out
    have hnb67 := NB346_332.out
    have hnc67 := NB332_346.out
    have hnb68 := NB346_347.out
    have hnc68 := NB347_346.out
    have hcz69_0 : w34.cell? ⟨gb346, 0, none⟩ = some (.slice Ao25 t336.length co25) := (blk_cell BK346.out 0).trans rfl
    have hcz69_1 : w34.cell? ⟨gb346, 1, none⟩ = some (.int .i64 t339) := (blk_cell BK346.out 1).trans rfl
    have hcz69_2 : w34.cell? ⟨gb346, 2, none⟩ = some (.int .i64 t340) := (blk_cell BK346.out 2).trans rfl
    have hfz69_0 := blk_frozen BK346.out 0
    have hfz69_1 := blk_frozen BK346.out 1
    have hfz69_2 := blk_frozen BK346.out 2
    have hnb70 := NB331_332.out
    have hnc70 := NB332_331.out
    have hnb71 := NB331_347.out
    have hnc71 := NB347_331.out
    have hcz72_0 : w34.cell? ⟨gb331, 0, none⟩ = some (.slice Ao14 t321.length co14) := (blk_cell BK331.out 0).trans rfl
    have hcz72_1 : w34.cell? ⟨gb331, 1, none⟩ = some (.int .i64 t324) := (blk_cell BK331.out 1).trans rfl
    have hcz72_2 : w34.cell? ⟨gb331, 2, none⟩ = some (.int .i64 t325) := (blk_cell BK331.out 2).trans rfl
    have hfz72_0 := blk_frozen BK331.out 0
    have hfz72_1 := blk_frozen BK331.out 1
    have hfz72_2 := blk_frozen BK331.out 2
    go_wp2_with (first | ((with_reducible refine gate_callee (f := 17) rfl ?_); refine goesL_ (some 40) rfl rfl Try.func17 (by kernel_rfl) rfl #[.agg #[.slice Ao25 t336.length co25, .int .i64 t339, .int .i64 t340], .agg #[.slice Ao14 t321.length co14, .int .i64 t324, .int .i64 t325]] rfl ul_ ?_; (with_reducible refine (laws_eqRing.calls k _ _ t336 t339 t340 _ _ t321 t324 t325 false _ ?side1 ?side2 ?side3 ?side4 A35.out).mono ?_); (case side1 => repeat (first | exact (Kd.R_reads' HO338.out).2.2 | (with_reducible refine Kd.C_alloc ?_ _) | (with_reducible refine Kd.C_drewN ?_ _) | (with_reducible refine Kd.C_drew ?_))); (case side2 => exact (Kd.R_reads' HO338.out).2.1); (case side3 => repeat (first | exact (Kd.R_reads' HO323.out).2.2 | (with_reducible refine Kd.C_alloc ?_ _) | (with_reducible refine Kd.C_drewN ?_ _) | (with_reducible refine Kd.C_drew ?_))); (case side4 => exact (Kd.R_reads' HO323.out).2.1); rintro e w73 ⟨rfl, hb⟩; refine ⟨_, rfl, ?_⟩; have n0_ := Aside0.mk (Kd.R_below (ur_ HO320.out) hb); have n1_ := Aside0.mk (Kd.R_below (ur_ HO323.out) hb); have n2_ := Aside0.mk (Kd.R_below (ur_ HO330.out) hb); have n3_ := Aside0.mk (Kd.R_below (ur_ HO335.out) hb); have n4_ := Aside0.mk (Kd.R_below (ur_ HO338.out) hb); have n5_ := Aside0.mk (Kd.R_below (ur_ HO345.out) hb); have n6_ := Aside0.mk (blk_below (g := gb331) (o := .cells #[.slice Ao14 t321.length co14, .int .i64 t324, .int .i64 t325] 24 (0, 0)) (ub_ BK331.out) hb); have n7_ := Aside0.mk (blk_below (g := gb332) (o := .cells #[.int .i64 t326, .int .i64 t327] 26 (0, 0)) (ub_ BK332.out) hb); have n8_ := Aside0.mk (blk_below (g := gb346) (o := .cells #[.slice Ao25 t336.length co25, .int .i64 t339, .int .i64 t340] 24 (0, 0)) (ub_ BK346.out) hb); have n9_ := Aside0.mk (blk_below (g := gb347) (o := .cells #[.int .i64 t341, .int .i64 t342] 26 (0, 0)) (ub_ BK347.out) hb); have n10_ := Aside0.mk (below_step (ue_ HB.out) hb); clear HO320; clear HO323; clear HO330; clear HO335; clear HO338; clear HO345; clear BK331; clear BK332; clear BK346; clear BK347; clear HB; have HO320 := n0_; have HO323 := n1_; have HO330 := n2_; have HO335 := n3_; have HO338 := n4_; have HO345 := n5_; have BK331 := n6_; have BK332 := n7_; have BK346 := n8_; have BK347 := n9_; have HB := n10_; clear n0_ n1_ n2_ n3_ n4_ n5_ n6_ n7_ n8_ n9_ n10_; (try clear hb); (try clear hb2); (try clear hk); (try clear hi)))
    go_meet
    case rel => exact ⟨_, (true), (by first | rfl | (simp; done) | (simp [*]; done)), H', ⟨by first | omega | exact Nat.le_refl _⟩, ⟨by (with_reducible repeat (first | apply Kd.R_alloc | apply Kd.R_drewN | apply Kd.R_drew)); exact Kd.R_mono HO330.out (fun _ hk => by first | exact ⟨hk.2.2.1, ⟨hk.2.2.2.2, ⟨hk.2.1, hk.2.2.2.1⟩⟩⟩ | grind)⟩, ⟨by (with_reducible repeat (first | apply Kd.R_alloc | apply Kd.R_drewN | apply Kd.R_drew)); exact Kd.R_mono HO335.out (fun _ hk => by first | exact ⟨hk.2.2.1, ⟨hk.2.2.2.2, ⟨hk.2.1, hk.2.2.2.1⟩⟩⟩ | grind)⟩, ⟨by (with_reducible repeat (first | apply Kd.R_alloc | apply Kd.R_drewN | apply Kd.R_drew)); exact Kd.R_mono HO345.out (fun _ hk => by first | exact ⟨hk.2.2.1, ⟨hk.2.2.2.1, ⟨hk.2.1, hk.2.2.2.2⟩⟩⟩ | grind)⟩, ⟨by (with_reducible repeat (first | apply Kd.R_alloc | apply Kd.R_drewN | apply Kd.R_drew)); exact Kd.R_mono HO323.out (fun _ hk => by first | exact ⟨hk.2.1, ⟨hk.2.2.1, ⟨hk.2.2.2.2, hk.2.2.2.1⟩⟩⟩ | grind)⟩, ⟨by (with_reducible repeat (first | apply Kd.R_alloc | apply Kd.R_drewN | apply Kd.R_drew)); exact Kd.R_mono HO338.out (fun _ hk => by first | exact ⟨hk.2.2.1, ⟨hk.2.2.2.1, ⟨hk.2.2.2.2, hk.2.1⟩⟩⟩ | grind)⟩, ⟨by (with_reducible repeat (first | refine blk_drewN ?_ _ | refine blk_drew ?_ | refine blk_alloc ?_ _)); exact BK331.out⟩, ⟨by (with_reducible repeat (first | refine blk_drewN ?_ _ | refine blk_drew ?_ | refine blk_alloc ?_ _)); exact BK332.out⟩, ⟨by (with_reducible repeat (first | refine blk_drewN ?_ _ | refine blk_drew ?_ | refine blk_alloc ?_ _)); exact BK346.out⟩, ⟨by (with_reducible repeat (first | refine blk_drewN ?_ _ | refine blk_drew ?_ | refine blk_alloc ?_ _)); exact BK347.out⟩, ⟨ue_ HB.out⟩⟩
  case rest =>
   clear HC8
   try clear c1
   try clear c2
   try clear p2
   try clear c3
   try clear c3b0
   try clear c3b1
   try clear c4
   try clear c5
   try clear c6
   try clear c7
   try clear c14
   try clear c15
   try clear c16
   try clear c17
   try clear c26
   try clear c27
   try clear c28
   try clear c31
   try clear c32
   try clear c36
   try clear c38
   try clear c40
   try clear c41
   try clear c42
   try clear c44
   try clear c45
   try clear c48
   try clear c54
   try clear c55
   try clear c56
   try clear c58
   try clear c59
   try clear c62
   try clear c66
   try clear c67
   try clear c68
   try clear c70
   try clear c71
   try clear hcz16_0
   try clear hcz16_1
   try clear hcz16_2
   try clear hcz18_0
   try clear hcz18_1
   try clear hcz29_0
   try clear hcz29_1
   try clear hcz29_2
   try clear hcz33_0
   try clear hcz33_1
   try clear hcz43_0
   try clear hcz43_1
   try clear hcz43_2
   try clear hcz46_0
   try clear hcz46_1
   try clear hcz46_2
   try clear hcz49_0
   try clear hcz49_1
   try clear hcz50_0
   try clear hcz50_1
   try clear hcz57_0
   try clear hcz57_1
   try clear hcz57_2
   try clear hcz60_0
   try clear hcz60_1
   try clear hcz60_2
   try clear hcz63_0
   try clear hcz63_1
   try clear hcz64_0
   try clear hcz64_1
   try clear hcz69_0
   try clear hcz69_1
   try clear hcz69_2
   try clear hcz72_0
   try clear hcz72_1
   try clear hcz72_2
   try clear hfz16_0
   try clear hfz16_1
   try clear hfz16_2
   try clear hfz18_0
   try clear hfz18_1
   try clear hfz29_0
   try clear hfz29_1
   try clear hfz29_2
   try clear hfz33_0
   try clear hfz33_1
   try clear hfz43_0
   try clear hfz43_1
   try clear hfz43_2
   try clear hfz46_0
   try clear hfz46_1
   try clear hfz46_2
   try clear hfz49_0
   try clear hfz49_1
   try clear hfz50_0
   try clear hfz50_1
   try clear hfz57_0
   try clear hfz57_1
   try clear hfz57_2
   try clear hfz60_0
   try clear hfz60_1
   try clear hfz60_2
   try clear hfz63_0
   try clear hfz63_1
   try clear hfz64_0
   try clear hfz64_1
   try clear hfz69_0
   try clear hfz69_1
   try clear hfz69_2
   try clear hfz72_0
   try clear hfz72_1
   try clear hfz72_2
   obtain ⟨kq, x53_7, rfl, HA, HJ7, HO_7, HO_8, HO_11, HO_332000, HO_347000, BK331, BK332, BK346, BK347, HB⟩ := hcut
   cases kq with
   | zero => exact absurd HA.out (by simp [laws_FnExactPlayLink.j0])
   | succ kj7 =>
    have H := HA.out
    clear HA
    simp only [laws_FnExactPlayLink.j0] at H
    by_cases c74 : x53_7 = true
    ·
     subst c74
     have H1 : (some false) = some r := by rw [if_pos rfl] at H; exact H
     clear H
     have H := H1
     clear H1
     exact absurd ((Option.some.inj H).trans hT.out) (by decide)
    ·
     replace c74 := Bool.eq_false_iff.mpr c74
     subst c74
     have H1 : ((laws_toIntS.f kj7 l1).bind fun t351 => ((laws_eqIntS.f kj7 t333 t351).bind fun t354 => (if t354 = true then ((laws_markIntS.f kj7 t333 1).bind fun bt355 => (if bt355.1 < 0 then (laws_FnExactPlayLink.j1 kj7 a0 l1 t328 t343 true t321 t324 t325 t326 t327 t336 t339 t340) else ((laws_eqRing.f kj7 t336 t339 t340 t321 t324 t325).bind fun t357 => (if t357 = true then ((laws_eqCredit.f t341 t342 t326 t327).bind fun t358 => (if t358 = true then ((laws_eqIntS.f kj7 t343 t328).bind fun t359 => (laws_FnExactPlayLink.j1 kj7 a0 l1 t328 t343 (!t359) t321 t324 t325 t326 t327 t336 t339 t340)) else (laws_FnExactPlayLink.j1 kj7 a0 l1 t328 t343 true t321 t324 t325 t326 t327 t336 t339 t340))) else (laws_FnExactPlayLink.j1 kj7 a0 l1 t328 t343 true t321 t324 t325 t326 t327 t336 t339 t340))))) else (some false)))) = some r := by rw [if_neg (show ¬ (false = true) by decide)] at H; exact H
     clear H
     have H := H1
     clear H1
     replace H := Option.bind_eq_some_iff.mp H
     obtain ⟨t351, A750, H⟩ := H
     replace H : ((laws_eqIntS.f kj7 t333 t351).bind fun t354 => (if t354 = true then ((laws_markIntS.f kj7 t333 1).bind fun bt355 => (if bt355.1 < 0 then (laws_FnExactPlayLink.j1 kj7 a0 l1 t328 t343 true t321 t324 t325 t326 t327 t336 t339 t340) else ((laws_eqRing.f kj7 t336 t339 t340 t321 t324 t325).bind fun t357 => (if t357 = true then ((laws_eqCredit.f t341 t342 t326 t327).bind fun t358 => (if t358 = true then ((laws_eqIntS.f kj7 t343 t328).bind fun t359 => (laws_FnExactPlayLink.j1 kj7 a0 l1 t328 t343 (!t359) t321 t324 t325 t326 t327 t336 t339 t340)) else (laws_FnExactPlayLink.j1 kj7 a0 l1 t328 t343 true t321 t324 t325 t326 t327 t336 t339 t340))) else (laws_FnExactPlayLink.j1 kj7 a0 l1 t328 t343 true t321 t324 t325 t326 t327 t336 t339 t340))))) else (some false))) = some r := H
     have A75 := Aside0.mk A750
     clear A750
     replace H := Option.bind_eq_some_iff.mp H
     obtain ⟨t354, A760, H⟩ := H
     replace H : (if t354 = true then ((laws_markIntS.f kj7 t333 1).bind fun bt355 => (if bt355.1 < 0 then (laws_FnExactPlayLink.j1 kj7 a0 l1 t328 t343 true t321 t324 t325 t326 t327 t336 t339 t340) else ((laws_eqRing.f kj7 t336 t339 t340 t321 t324 t325).bind fun t357 => (if t357 = true then ((laws_eqCredit.f t341 t342 t326 t327).bind fun t358 => (if t358 = true then ((laws_eqIntS.f kj7 t343 t328).bind fun t359 => (laws_FnExactPlayLink.j1 kj7 a0 l1 t328 t343 (!t359) t321 t324 t325 t326 t327 t336 t339 t340)) else (laws_FnExactPlayLink.j1 kj7 a0 l1 t328 t343 true t321 t324 t325 t326 t327 t336 t339 t340))) else (laws_FnExactPlayLink.j1 kj7 a0 l1 t328 t343 true t321 t324 t325 t326 t327 t336 t339 t340))))) else (some false)) = some r := H
     have A76 := Aside0.mk A760
     clear A760
     by_cases c77 : t354 = true
     ·
      subst c77
      have H1 : ((laws_markIntS.f kj7 t333 1).bind fun bt355 => (if bt355.1 < 0 then (laws_FnExactPlayLink.j1 kj7 a0 l1 t328 t343 true t321 t324 t325 t326 t327 t336 t339 t340) else ((laws_eqRing.f kj7 t336 t339 t340 t321 t324 t325).bind fun t357 => (if t357 = true then ((laws_eqCredit.f t341 t342 t326 t327).bind fun t358 => (if t358 = true then ((laws_eqIntS.f kj7 t343 t328).bind fun t359 => (laws_FnExactPlayLink.j1 kj7 a0 l1 t328 t343 (!t359) t321 t324 t325 t326 t327 t336 t339 t340)) else (laws_FnExactPlayLink.j1 kj7 a0 l1 t328 t343 true t321 t324 t325 t326 t327 t336 t339 t340))) else (laws_FnExactPlayLink.j1 kj7 a0 l1 t328 t343 true t321 t324 t325 t326 t327 t336 t339 t340))))) = some r := by rw [if_pos rfl] at H; exact H
      clear H
      have H := H1
      clear H1
      replace H := Option.bind_eq_some_iff.mp H
      obtain ⟨⟨t355, t356⟩, A780, H⟩ := H
      replace H : (if t355 < 0 then (laws_FnExactPlayLink.j1 kj7 a0 l1 t328 t343 true t321 t324 t325 t326 t327 t336 t339 t340) else ((laws_eqRing.f kj7 t336 t339 t340 t321 t324 t325).bind fun t357 => (if t357 = true then ((laws_eqCredit.f t341 t342 t326 t327).bind fun t358 => (if t358 = true then ((laws_eqIntS.f kj7 t343 t328).bind fun t359 => (laws_FnExactPlayLink.j1 kj7 a0 l1 t328 t343 (!t359) t321 t324 t325 t326 t327 t336 t339 t340)) else (laws_FnExactPlayLink.j1 kj7 a0 l1 t328 t343 true t321 t324 t325 t326 t327 t336 t339 t340))) else (laws_FnExactPlayLink.j1 kj7 a0 l1 t328 t343 true t321 t324 t325 t326 t327 t336 t339 t340)))) = some r := H
      have A78 := Aside0.mk A780
      clear A780
      have HC79 := Aside0.mk H
      clear H
      go_upto_region 12 with (first | ((with_reducible refine gate_callee (f := 15) rfl ?_); refine goesL_ (some 56) rfl rfl Try.func15 (by kernel_rfl) rfl #[.slice A1 l1.length c1] rfl ul_ ?_; (with_reducible refine (laws_toIntS.calls kj7 _ _ l1 t351 _ ?side1 ?side2 A75.out).mono ?_); (case side1 => repeat (first | exact (Kd.C_below HR1.out HB.out) | (with_reducible refine Kd.C_alloc ?_ _) | (with_reducible refine Kd.C_drewN ?_ _) | (with_reducible refine Kd.C_drew ?_))); (case side2 => exact HC1.out); rintro e w80 ⟨v352, rfl, ho0, hb⟩; refine ⟨_, rfl, ?_⟩; have n0_ := Aside0.mk (Kd.R_elder' (ur_ HO_7.out) (Kd.R_base ho0) hb); have n1_ := Aside0.mk (Kd.R_elder' (ur_ HO_8.out) (Kd.R_base ho0) hb); have n2_ := Aside0.mk (Kd.R_elder' (ur_ HO_11.out) (Kd.R_base ho0) hb); have n3_ := Aside0.mk (Kd.R_elder' (ur_ HO_332000.out) (Kd.R_base ho0) hb); have n4_ := Aside0.mk (Kd.R_elder' (ur_ HO_347000.out) (Kd.R_base ho0) hb); have n5_ := Aside0.mk (Kd.R_lower (Kd.R_new' (Kd.R_new' (Kd.R_new' (Kd.R_new' (Kd.R_new' ho0 (Kd.R_lt (ur_ HO_7.out))) (Kd.R_lt (ur_ HO_8.out))) (Kd.R_lt (ur_ HO_11.out))) (Kd.R_lt (ur_ HO_332000.out))) (Kd.R_lt (ur_ HO_347000.out))) (below_size (ue_ HB.out))); have n6_ := Aside0.mk (blk_below (g := gb331) (o := .cells #[.slice Ao14 t321.length co14, .int .i64 t324, .int .i64 t325] 24 (0, 0)) (ub_ BK331.out) hb); have n7_ := Aside0.mk (blk_below (g := gb332) (o := .cells #[.int .i64 t326, .int .i64 t327] 26 (0, 0)) (ub_ BK332.out) hb); have n8_ := Aside0.mk (blk_below (g := gb346) (o := .cells #[.slice Ao25 t336.length co25, .int .i64 t339, .int .i64 t340] 24 (0, 0)) (ub_ BK346.out) hb); have n9_ := Aside0.mk (blk_below (g := gb347) (o := .cells #[.int .i64 t341, .int .i64 t342] 26 (0, 0)) (ub_ BK347.out) hb); have n10_ := Aside0.mk (below_step (ue_ HB.out) hb); clear HO_7; clear HO_8; clear HO_11; clear HO_332000; clear HO_347000; clear BK331; clear BK332; clear BK346; clear BK347; clear HB; have HO_7 := n0_; have HO_8 := n1_; have HO_11 := n2_; have HO_332000 := n3_; have HO_347000 := n4_; have HO353 := n5_; have BK331 := n6_; have BK332 := n7_; have BK346 := n8_; have BK347 := n9_; have HB := n10_; clear n0_ n1_ n2_ n3_ n4_ n5_ n6_ n7_ n8_ n9_ n10_; (try clear hb); (try clear hb2); (try clear hk); (try clear hi); (try clear ho0); obtain ⟨Ao81, co81, eo81⟩ := Kd.R_slice HO353.out; subst eo81) | ((with_reducible refine gate_callee (f := 19) rfl ?_); refine goesL_ (some 57) rfl rfl Try.func19 (by kernel_rfl) rfl #[.slice Ao21 t333.length co21, .slice Ao81 t351.length co81] rfl ul_ ?_; (with_reducible refine (laws_eqIntS.calls kj7 _ _ t333 _ _ t351 true _ ?side1 ?side2 ?side3 ?side4 A76.out).mono ?_); (case side1 => repeat (first | exact (Kd.R_reads' HO_8.out).2.2 | (with_reducible refine Kd.C_alloc ?_ _) | (with_reducible refine Kd.C_drewN ?_ _) | (with_reducible refine Kd.C_drew ?_))); (case side2 => exact (Kd.R_reads' HO_8.out).2.1); (case side3 => repeat (first | exact (Kd.R_reads' HO353.out).2.2 | (with_reducible refine Kd.C_alloc ?_ _) | (with_reducible refine Kd.C_drewN ?_ _) | (with_reducible refine Kd.C_drew ?_))); (case side4 => exact (Kd.R_reads' HO353.out).2.1); rintro e w' ⟨rfl, ⟨nd, rfl⟩⟩; refine ⟨_, rfl, ?_⟩) | ((with_reducible refine gate_callee (f := 20) rfl ?_); refine goesL_ (some 61) rfl rfl Try.func20 (by kernel_rfl) rfl #[.slice Ao21 t333.length co21, .int .i64 1] rfl ul_ ?_; (with_reducible refine (laws_markIntS.calls kj7 (fun k_ => some k_ = (.slice Ao21 t333.length co21 : Value).ownBlock) (.slice Ao21 t333.length co21) t333 1 t355 t356 w _ ?side1 ?side2 A78.out).mono ?_); (case side1 => repeat (first | (with_reducible first | exact HB.out | apply below_alloc | apply pw_below_drewN | apply below_drew1 | refine below_set ?_ GE331.out | refine below_set ?_ GE332.out | refine below_set ?_ GE346.out | refine below_set ?_ GE347.out) | exact HB.out)); (case side2 => exact Kd.R_tight rfl HO_8.out); rintro e w82 ⟨rfl, hy0, hb, hkp⟩; refine ⟨_, rfl, ?_⟩; have n0_ := Aside0.mk (Kd.R_mono (ok' := fun k_ => some k_ ≠ (.slice Ao21 t333.length co21 : Value).ownBlock ∧ some k_ ≠ (v344 : Value).ownBlock ∧ some k_ ≠ (.slice Ao14 t321.length co14 : Value).ownBlock ∧ some k_ ≠ (.slice Ao25 t336.length co25 : Value).ownBlock ∧ some k_ ≠ (.slice Ao81 t351.length co81 : Value).ownBlock) (Kd.R_keptB (HO_7.out) hkp (fun k_ hk_ hs_ => by first | exact (hk_.1.1) hs_ | grind)) (fun k_ hk_ => by first | exact ⟨hk_.1.1.1, hk_.1.1.2.1, hk_.1.1.2.2.1, hk_.1.1.2.2.2, hk_.1.2⟩ | grind)); have n1_ := Aside0.mk (Kd.R_reok rfl hy0 (fun k_ e_ => HO_8.out.1 k_ e_)); have n2_ := Aside0.mk (Kd.R_mono (ok' := fun k_ => some k_ ≠ (v329 : Value).ownBlock ∧ some k_ ≠ (.slice Ao21 t333.length co21 : Value).ownBlock ∧ some k_ ≠ (.slice Ao14 t321.length co14 : Value).ownBlock ∧ some k_ ≠ (.slice Ao25 t336.length co25 : Value).ownBlock ∧ some k_ ≠ (.slice Ao81 t351.length co81 : Value).ownBlock) (Kd.R_keptB (HO_11.out) hkp (fun k_ hk_ hs_ => by first | exact (hk_.1.2.1) hs_ | grind)) (fun k_ hk_ => by first | exact ⟨hk_.1.1.1, hk_.1.1.2.1, hk_.1.1.2.2.1, hk_.1.1.2.2.2, hk_.1.2⟩ | grind)); have n3_ := Aside0.mk (Kd.R_mono (ok' := fun k_ => some k_ ≠ (v329 : Value).ownBlock ∧ some k_ ≠ (.slice Ao21 t333.length co21 : Value).ownBlock ∧ some k_ ≠ (v344 : Value).ownBlock ∧ some k_ ≠ (.slice Ao25 t336.length co25 : Value).ownBlock ∧ some k_ ≠ (.slice Ao81 t351.length co81 : Value).ownBlock) (Kd.R_keptB (HO_332000.out) hkp (fun k_ hk_ hs_ => by first | exact (hk_.1.2.1) hs_ | grind)) (fun k_ hk_ => by first | exact ⟨hk_.1.1.1, hk_.1.1.2.1, hk_.1.1.2.2.1, hk_.1.1.2.2.2, hk_.1.2⟩ | grind)); have n4_ := Aside0.mk (Kd.R_mono (ok' := fun k_ => some k_ ≠ (v329 : Value).ownBlock ∧ some k_ ≠ (.slice Ao21 t333.length co21 : Value).ownBlock ∧ some k_ ≠ (v344 : Value).ownBlock ∧ some k_ ≠ (.slice Ao14 t321.length co14 : Value).ownBlock ∧ some k_ ≠ (.slice Ao81 t351.length co81 : Value).ownBlock) (Kd.R_keptB (HO_347000.out) hkp (fun k_ hk_ hs_ => by first | exact (hk_.1.2.1) hs_ | grind)) (fun k_ hk_ => by first | exact ⟨hk_.1.1.1, hk_.1.1.2.1, hk_.1.1.2.2.1, hk_.1.1.2.2.2, hk_.1.2⟩ | grind)); have n5_ := Aside0.mk (blk_kept (g := gb331) (o := .cells #[.slice Ao14 t321.length co14, .int .i64 t324, .int .i64 t325] 24 (0, 0)) (ub_ BK331.out) hkp (fun hs_ => (fun e_ => (Kd.R_ne HO_8.out BK331.out (by decide)) e_) hs_)); have n6_ := Aside0.mk (blk_kept (g := gb332) (o := .cells #[.int .i64 t326, .int .i64 t327] 26 (0, 0)) (ub_ BK332.out) hkp (fun hs_ => (fun e_ => (Kd.R_ne HO_8.out BK332.out (by decide)) e_) hs_)); have n7_ := Aside0.mk (blk_kept (g := gb346) (o := .cells #[.slice Ao25 t336.length co25, .int .i64 t339, .int .i64 t340] 24 (0, 0)) (ub_ BK346.out) hkp (fun hs_ => (fun e_ => (Kd.R_ne HO_8.out BK346.out (by decide)) e_) hs_)); have n8_ := Aside0.mk (blk_kept (g := gb347) (o := .cells #[.int .i64 t341, .int .i64 t342] 26 (0, 0)) (ub_ BK347.out) hkp (fun hs_ => (fun e_ => (Kd.R_ne HO_8.out BK347.out (by decide)) e_) hs_)); have n9_ := Aside0.mk (Kd.R_mono (ok' := fun k_ => some k_ ≠ (v329 : Value).ownBlock ∧ some k_ ≠ (.slice Ao21 t333.length co21 : Value).ownBlock ∧ some k_ ≠ (v344 : Value).ownBlock ∧ some k_ ≠ (.slice Ao14 t321.length co14 : Value).ownBlock ∧ some k_ ≠ (.slice Ao25 t336.length co25 : Value).ownBlock) (Kd.R_keptB (HO353.out) hkp (fun k_ hk_ hs_ => by first | exact (hk_.1.1.1.2) hs_ | grind)) (fun k_ hk_ => by first | exact ⟨hk_.1.1.1.1.1.2, hk_.1.1.1.1.2, hk_.1.1.1.2, hk_.1.1.2, hk_.1.2⟩ | grind)); have n10_ := Aside0.mk (hb); clear HO_7; clear HO_8; clear HO_11; clear HO_332000; clear HO_347000; clear BK331; clear BK332; clear BK346; clear BK347; clear HO353; clear HB; have HO_7 := n0_; have HO_8 := n1_; have HO_11 := n2_; have HO_332000 := n3_; have HO_347000 := n4_; have BK331 := n5_; have BK332 := n6_; have BK346 := n7_; have BK347 := n8_; have HO353 := n9_; have HB := n10_; clear n0_ n1_ n2_ n3_ n4_ n5_ n6_ n7_ n8_ n9_ n10_; (try clear hb); (try clear hkp); (try clear hy0)))
      (try simp only [Act.put, List.setIfInBounds_toArray, List.set_cons_zero, List.set_cons_succ])
      go_cut [81] (fun v81 wc => ∃ (kq : Nat) (x81_78 : Bool), v81 = .bool x81_78 ∧ Aside0 (laws_FnExactPlayLink.j1 kq a0 l1 t328 t343 x81_78 t321 t324 t325 t326 t327 t336 t339 t340 = some r) ∧ Aside0 (kq ≤ kj7) ∧ Aside0 (Kd.R (Kd.int .i64) 3 wc w.heap.size (fun k_ => some k_ ≠ (v344 : Value).ownBlock ∧ some k_ ≠ ((.slice Ao14 t321.length co14) : Value).ownBlock ∧ some k_ ≠ ((.slice Ao25 t336.length co25) : Value).ownBlock) v329 t328) ∧ Aside0 (Kd.R (Kd.int .i64) 3 wc w.heap.size (fun k_ => some k_ ≠ (v329 : Value).ownBlock ∧ some k_ ≠ ((.slice Ao14 t321.length co14) : Value).ownBlock ∧ some k_ ≠ ((.slice Ao25 t336.length co25) : Value).ownBlock) v344 t343) ∧ Aside0 (Kd.R (Kd.int .i64) 3 wc w.heap.size (fun k_ => some k_ ≠ (v329 : Value).ownBlock ∧ some k_ ≠ (v344 : Value).ownBlock ∧ some k_ ≠ ((.slice Ao25 t336.length co25) : Value).ownBlock) (.slice Ao14 t321.length co14) t321) ∧ Aside0 (Kd.R (Kd.int .i64) 3 wc w.heap.size (fun k_ => some k_ ≠ (v329 : Value).ownBlock ∧ some k_ ≠ (v344 : Value).ownBlock ∧ some k_ ≠ ((.slice Ao14 t321.length co14) : Value).ownBlock) (.slice Ao25 t336.length co25) t336) ∧ Aside0 (wc.heap[gb331]? = some (.cells #[(.slice Ao14 t321.length co14), .int .i64 t324, .int .i64 t325] 24 (0, 0))) ∧ Aside0 (wc.heap[gb332]? = some (.cells #[.int .i64 t326, .int .i64 t327] 26 (0, 0))) ∧ Aside0 (wc.heap[gb346]? = some (.cells #[(.slice Ao25 t336.length co25), .int .i64 t339, .int .i64 t340] 24 (0, 0))) ∧ Aside0 (wc.heap[gb347]? = some (.cells #[.int .i64 t341, .int .i64 t342] 26 (0, 0))) ∧ Aside0 (Below w.heap.size w wc))
      case first =>
       have H := HC79.out
       clear HC79
       by_cases c83 : t355 < 0
       ·
        rw [if_pos c83] at H
        have c83b0 : decide (t355 < 0) = true := decide_eq_true c83
        clear c83
        (first | rw [c83b0] | (simp only [i64_w, i32_w]; rw [c83b0]) | skip)
        have H' := Aside0.mk H
        clear H
        go_wp2
        go_meet
        case rel => exact ⟨_, (true), (by first | rfl | (simp; done) | (simp [*]; done)), H', ⟨by have := HJ7.out; first | omega | exact Nat.le_refl _⟩, ⟨by (with_reducible repeat (first | apply Kd.R_alloc | apply Kd.R_drewN | apply Kd.R_drew)); exact Kd.R_mono HO_7.out (fun _ hk => by first | exact ⟨hk.2.1, ⟨hk.2.2.1, hk.2.2.2.1⟩⟩ | grind)⟩, ⟨by (with_reducible repeat (first | apply Kd.R_alloc | apply Kd.R_drewN | apply Kd.R_drew)); exact Kd.R_mono HO_11.out (fun _ hk => by first | exact ⟨hk.1, ⟨hk.2.2.1, hk.2.2.2.1⟩⟩ | grind)⟩, ⟨by (with_reducible repeat (first | apply Kd.R_alloc | apply Kd.R_drewN | apply Kd.R_drew)); exact Kd.R_mono HO_332000.out (fun _ hk => by first | exact ⟨hk.1, ⟨hk.2.2.1, hk.2.2.2.1⟩⟩ | grind)⟩, ⟨by (with_reducible repeat (first | apply Kd.R_alloc | apply Kd.R_drewN | apply Kd.R_drew)); exact Kd.R_mono HO_347000.out (fun _ hk => by first | exact ⟨hk.1, ⟨hk.2.2.1, hk.2.2.2.1⟩⟩ | grind)⟩, ⟨by (with_reducible repeat (first | refine blk_drewN ?_ _ | refine blk_drew ?_ | refine blk_alloc ?_ _)); exact BK331.out⟩, ⟨by (with_reducible repeat (first | refine blk_drewN ?_ _ | refine blk_drew ?_ | refine blk_alloc ?_ _)); exact BK332.out⟩, ⟨by (with_reducible repeat (first | refine blk_drewN ?_ _ | refine blk_drew ?_ | refine blk_alloc ?_ _)); exact BK346.out⟩, ⟨by (with_reducible repeat (first | refine blk_drewN ?_ _ | refine blk_drew ?_ | refine blk_alloc ?_ _)); exact BK347.out⟩, ⟨ue_ HB.out⟩⟩
       ·
        rw [if_neg c83] at H
        have c83b0 : decide (t355 < 0) = false := decide_eq_false c83
        clear c83
        (first | rw [c83b0] | (simp only [i64_w, i32_w]; rw [c83b0]) | skip)
        replace H := Option.bind_eq_some_iff.mp H
        obtain ⟨t357, A840, H⟩ := H
        replace H : (if t357 = true then ((laws_eqCredit.f t341 t342 t326 t327).bind fun t358 => (if t358 = true then ((laws_eqIntS.f kj7 t343 t328).bind fun t359 => (laws_FnExactPlayLink.j1 kj7 a0 l1 t328 t343 (!t359) t321 t324 t325 t326 t327 t336 t339 t340)) else (laws_FnExactPlayLink.j1 kj7 a0 l1 t328 t343 true t321 t324 t325 t326 t327 t336 t339 t340))) else (laws_FnExactPlayLink.j1 kj7 a0 l1 t328 t343 true t321 t324 t325 t326 t327 t336 t339 t340)) = some r := H
        have A84 := Aside0.mk A840
        clear A840
        by_cases c85 : t357 = true
        ·
         subst c85
         have H1 : ((laws_eqCredit.f t341 t342 t326 t327).bind fun t358 => (if t358 = true then ((laws_eqIntS.f kj7 t343 t328).bind fun t359 => (laws_FnExactPlayLink.j1 kj7 a0 l1 t328 t343 (!t359) t321 t324 t325 t326 t327 t336 t339 t340)) else (laws_FnExactPlayLink.j1 kj7 a0 l1 t328 t343 true t321 t324 t325 t326 t327 t336 t339 t340))) = some r := by rw [if_pos rfl] at H; exact H
         clear H
         have H := H1
         clear H1
         replace H := Option.bind_eq_some_iff.mp H
         obtain ⟨t358, A860, H⟩ := H
         replace H : (if t358 = true then ((laws_eqIntS.f kj7 t343 t328).bind fun t359 => (laws_FnExactPlayLink.j1 kj7 a0 l1 t328 t343 (!t359) t321 t324 t325 t326 t327 t336 t339 t340)) else (laws_FnExactPlayLink.j1 kj7 a0 l1 t328 t343 true t321 t324 t325 t326 t327 t336 t339 t340)) = some r := H
         have A86 := Aside0.mk A860
         clear A860
         by_cases c87 : t358 = true
         ·
          subst c87
          have H1 : ((laws_eqIntS.f kj7 t343 t328).bind fun t359 => (laws_FnExactPlayLink.j1 kj7 a0 l1 t328 t343 (!t359) t321 t324 t325 t326 t327 t336 t339 t340)) = some r := by rw [if_pos rfl] at H; exact H
          clear H
          have H := H1
          clear H1
          replace H := Option.bind_eq_some_iff.mp H
          obtain ⟨t359, A880, H⟩ := H
          replace H : (laws_FnExactPlayLink.j1 kj7 a0 l1 t328 t343 (!t359) t321 t324 t325 t326 t327 t336 t339 t340) = some r := H
          have A88 := Aside0.mk A880
          clear A880
          have H' := Aside0.mk H
          clear H
          have hnb89 := NB346_331.out
          have hnc89 := NB331_346.out
          have hnb90 := NB346_332.out
          have hnc90 := NB332_346.out
          have hnb91 := NB346_347.out
          have hnc91 := NB347_346.out
          have hcz92_0 : w82.cell? ⟨gb346, 0, none⟩ = some (.slice Ao25 t336.length co25) := (blk_cell BK346.out 0).trans rfl
          have hcz92_1 : w82.cell? ⟨gb346, 1, none⟩ = some (.int .i64 t339) := (blk_cell BK346.out 1).trans rfl
          have hcz92_2 : w82.cell? ⟨gb346, 2, none⟩ = some (.int .i64 t340) := (blk_cell BK346.out 2).trans rfl
          have hfz92_0 := blk_frozen BK346.out 0
          have hfz92_1 := blk_frozen BK346.out 1
          have hfz92_2 := blk_frozen BK346.out 2
          have hnb93 := NB331_332.out
          have hnc93 := NB332_331.out
          have hnb94 := NB331_347.out
          have hnc94 := NB347_331.out
          have hcz95_0 : w82.cell? ⟨gb331, 0, none⟩ = some (.slice Ao14 t321.length co14) := (blk_cell BK331.out 0).trans rfl
          have hcz95_1 : w82.cell? ⟨gb331, 1, none⟩ = some (.int .i64 t324) := (blk_cell BK331.out 1).trans rfl
          have hcz95_2 : w82.cell? ⟨gb331, 2, none⟩ = some (.int .i64 t325) := (blk_cell BK331.out 2).trans rfl
          have hfz95_0 := blk_frozen BK331.out 0
          have hfz95_1 := blk_frozen BK331.out 1
          have hfz95_2 := blk_frozen BK331.out 2
          go_wp2_with (first | (go_at_call 17; (with_reducible refine (laws_eqRing.calls kj7 _ _ t336 t339 t340 _ _ t321 t324 t325 true _ ?side1 ?side2 ?side3 ?side4 A84.out).mono ?_); (case side1 => repeat (first | exact (Kd.R_reads' HO_347000.out).2.2 | (with_reducible refine Kd.C_alloc ?_ _) | (with_reducible refine Kd.C_drewN ?_ _) | (with_reducible refine Kd.C_drew ?_))); (case side2 => exact (Kd.R_reads' HO_347000.out).2.1); (case side3 => repeat (first | exact (Kd.R_reads' HO_332000.out).2.2 | (with_reducible refine Kd.C_alloc ?_ _) | (with_reducible refine Kd.C_drewN ?_ _) | (with_reducible refine Kd.C_drew ?_))); (case side4 => exact (Kd.R_reads' HO_332000.out).2.1); rintro e w96 ⟨rfl, hb⟩; have n0_ := Aside0.mk (Kd.R_below (ur_ HO_7.out) hb); have n1_ := Aside0.mk (Kd.R_below (ur_ HO_8.out) hb); have n2_ := Aside0.mk (Kd.R_below (ur_ HO_11.out) hb); have n3_ := Aside0.mk (Kd.R_below (ur_ HO_332000.out) hb); have n4_ := Aside0.mk (Kd.R_below (ur_ HO_347000.out) hb); have n5_ := Aside0.mk (Kd.R_below (ur_ HO353.out) hb); have n6_ := Aside0.mk (blk_below (g := gb331) (o := .cells #[.slice Ao14 t321.length co14, .int .i64 t324, .int .i64 t325] 24 (0, 0)) (ub_ BK331.out) hb); have n7_ := Aside0.mk (blk_below (g := gb332) (o := .cells #[.int .i64 t326, .int .i64 t327] 26 (0, 0)) (ub_ BK332.out) hb); have n8_ := Aside0.mk (blk_below (g := gb346) (o := .cells #[.slice Ao25 t336.length co25, .int .i64 t339, .int .i64 t340] 24 (0, 0)) (ub_ BK346.out) hb); have n9_ := Aside0.mk (blk_below (g := gb347) (o := .cells #[.int .i64 t341, .int .i64 t342] 26 (0, 0)) (ub_ BK347.out) hb); have n10_ := Aside0.mk (below_step (ue_ HB.out) hb); clear HO_7; clear HO_8; clear HO_11; clear HO_332000; clear HO_347000; clear HO353; clear BK331; clear BK332; clear BK346; clear BK347; clear HB; have HO_7 := n0_; have HO_8 := n1_; have HO_11 := n2_; have HO_332000 := n3_; have HO_347000 := n4_; have HO353 := n5_; have BK331 := n6_; have BK332 := n7_; have BK346 := n8_; have BK347 := n9_; have HB := n10_; clear n0_ n1_ n2_ n3_ n4_ n5_ n6_ n7_ n8_ n9_ n10_; (try clear hb); (try clear hb2); (try clear hk); (try clear hi); have hnb97 := NB347_332.out; have hnc97 := NB332_347.out; have hcz98_0 : w96.cell? ⟨gb347, 0, none⟩ = some (.int .i64 t341) := (blk_cell BK347.out 0).trans rfl; have hcz98_1 : w96.cell? ⟨gb347, 1, none⟩ = some (.int .i64 t342) := (blk_cell BK347.out 1).trans rfl; have hfz98_0 := blk_frozen BK347.out 0; have hfz98_1 := blk_frozen BK347.out 1; have hcz99_0 : w96.cell? ⟨gb332, 0, none⟩ = some (.int .i64 t326) := (blk_cell BK332.out 0).trans rfl; have hcz99_1 : w96.cell? ⟨gb332, 1, none⟩ = some (.int .i64 t327) := (blk_cell BK332.out 1).trans rfl; have hfz99_0 := blk_frozen BK332.out 0; have hfz99_1 := blk_frozen BK332.out 1) | (go_at_call 18; (with_reducible refine (laws_eqCredit.calls t341 t342 t326 t327 true _ A86.out).mono ?_); rintro e w100 ⟨rfl, hb⟩; have n0_ := Aside0.mk (Kd.R_below (ur_ HO_7.out) hb); have n1_ := Aside0.mk (Kd.R_below (ur_ HO_8.out) hb); have n2_ := Aside0.mk (Kd.R_below (ur_ HO_11.out) hb); have n3_ := Aside0.mk (Kd.R_below (ur_ HO_332000.out) hb); have n4_ := Aside0.mk (Kd.R_below (ur_ HO_347000.out) hb); have n5_ := Aside0.mk (Kd.R_below (ur_ HO353.out) hb); have n6_ := Aside0.mk (blk_below (g := gb331) (o := .cells #[.slice Ao14 t321.length co14, .int .i64 t324, .int .i64 t325] 24 (0, 0)) (ub_ BK331.out) hb); have n7_ := Aside0.mk (blk_below (g := gb332) (o := .cells #[.int .i64 t326, .int .i64 t327] 26 (0, 0)) (ub_ BK332.out) hb); have n8_ := Aside0.mk (blk_below (g := gb346) (o := .cells #[.slice Ao25 t336.length co25, .int .i64 t339, .int .i64 t340] 24 (0, 0)) (ub_ BK346.out) hb); have n9_ := Aside0.mk (blk_below (g := gb347) (o := .cells #[.int .i64 t341, .int .i64 t342] 26 (0, 0)) (ub_ BK347.out) hb); have n10_ := Aside0.mk (below_step (ue_ HB.out) hb); clear HO_7; clear HO_8; clear HO_11; clear HO_332000; clear HO_347000; clear HO353; clear BK331; clear BK332; clear BK346; clear BK347; clear HB; have HO_7 := n0_; have HO_8 := n1_; have HO_11 := n2_; have HO_332000 := n3_; have HO_347000 := n4_; have HO353 := n5_; have BK331 := n6_; have BK332 := n7_; have BK346 := n8_; have BK347 := n9_; have HB := n10_; clear n0_ n1_ n2_ n3_ n4_ n5_ n6_ n7_ n8_ n9_ n10_; (try clear hb); (try clear hb2); (try clear hk); (try clear hi); obtain ⟨Ao101, co101, eo101⟩ := Kd.R_slice HO_11.out; subst eo101; obtain ⟨Ao102, co102, eo102⟩ := Kd.R_slice HO_7.out; subst eo102) | (go_at_call 19; (with_reducible refine (laws_eqIntS.calls kj7 _ _ t343 _ _ t328 t359 _ ?side1 ?side2 ?side3 ?side4 A88.out).mono ?_); (case side1 => repeat (first | exact (Kd.R_reads' HO_11.out).2.2 | (with_reducible refine Kd.C_alloc ?_ _) | (with_reducible refine Kd.C_drewN ?_ _) | (with_reducible refine Kd.C_drew ?_))); (case side2 => exact (Kd.R_reads' HO_11.out).2.1); (case side3 => repeat (first | exact (Kd.R_reads' HO_7.out).2.2 | (with_reducible refine Kd.C_alloc ?_ _) | (with_reducible refine Kd.C_drewN ?_ _) | (with_reducible refine Kd.C_drew ?_))); (case side4 => exact (Kd.R_reads' HO_7.out).2.1); rintro e w' ⟨rfl, ⟨nd, rfl⟩⟩))
          go_meet
          case rel => exact ⟨_, (!t359), (by first | rfl | (simp; done) | (simp [*]; done)), H', ⟨by have := HJ7.out; first | omega | exact Nat.le_refl _⟩, ⟨by (with_reducible repeat (first | apply Kd.R_alloc | apply Kd.R_drewN | apply Kd.R_drew)); exact Kd.R_mono HO_7.out (fun _ hk => by first | exact ⟨hk.2.1, ⟨hk.2.2.1, hk.2.2.2.1⟩⟩ | grind)⟩, ⟨by (with_reducible repeat (first | apply Kd.R_alloc | apply Kd.R_drewN | apply Kd.R_drew)); exact Kd.R_mono HO_11.out (fun _ hk => by first | exact ⟨hk.1, ⟨hk.2.2.1, hk.2.2.2.1⟩⟩ | grind)⟩, ⟨by (with_reducible repeat (first | apply Kd.R_alloc | apply Kd.R_drewN | apply Kd.R_drew)); exact Kd.R_mono HO_332000.out (fun _ hk => by first | exact ⟨hk.1, ⟨hk.2.2.1, hk.2.2.2.1⟩⟩ | grind)⟩, ⟨by (with_reducible repeat (first | apply Kd.R_alloc | apply Kd.R_drewN | apply Kd.R_drew)); exact Kd.R_mono HO_347000.out (fun _ hk => by first | exact ⟨hk.1, ⟨hk.2.2.1, hk.2.2.2.1⟩⟩ | grind)⟩, ⟨by (with_reducible repeat (first | refine blk_drewN ?_ _ | refine blk_drew ?_ | refine blk_alloc ?_ _)); exact BK331.out⟩, ⟨by (with_reducible repeat (first | refine blk_drewN ?_ _ | refine blk_drew ?_ | refine blk_alloc ?_ _)); exact BK332.out⟩, ⟨by (with_reducible repeat (first | refine blk_drewN ?_ _ | refine blk_drew ?_ | refine blk_alloc ?_ _)); exact BK346.out⟩, ⟨by (with_reducible repeat (first | refine blk_drewN ?_ _ | refine blk_drew ?_ | refine blk_alloc ?_ _)); exact BK347.out⟩, ⟨ue_ HB.out⟩⟩
         ·
          replace c87 := Bool.eq_false_iff.mpr c87
          subst c87
          have H1 : (laws_FnExactPlayLink.j1 kj7 a0 l1 t328 t343 true t321 t324 t325 t326 t327 t336 t339 t340) = some r := by rw [if_neg (show ¬ (false = true) by decide)] at H; exact H
          clear H
          have H := H1
          clear H1
          have H' := Aside0.mk H
          clear H
          have hnb103 := NB346_331.out
          have hnc103 := NB331_346.out
          have hnb104 := NB346_332.out
          have hnc104 := NB332_346.out
          have hnb105 := NB346_347.out
          have hnc105 := NB347_346.out
          have hcz106_0 : w82.cell? ⟨gb346, 0, none⟩ = some (.slice Ao25 t336.length co25) := (blk_cell BK346.out 0).trans rfl
          have hcz106_1 : w82.cell? ⟨gb346, 1, none⟩ = some (.int .i64 t339) := (blk_cell BK346.out 1).trans rfl
          have hcz106_2 : w82.cell? ⟨gb346, 2, none⟩ = some (.int .i64 t340) := (blk_cell BK346.out 2).trans rfl
          have hfz106_0 := blk_frozen BK346.out 0
          have hfz106_1 := blk_frozen BK346.out 1
          have hfz106_2 := blk_frozen BK346.out 2
          have hnb107 := NB331_332.out
          have hnc107 := NB332_331.out
          have hnb108 := NB331_347.out
          have hnc108 := NB347_331.out
          have hcz109_0 : w82.cell? ⟨gb331, 0, none⟩ = some (.slice Ao14 t321.length co14) := (blk_cell BK331.out 0).trans rfl
          have hcz109_1 : w82.cell? ⟨gb331, 1, none⟩ = some (.int .i64 t324) := (blk_cell BK331.out 1).trans rfl
          have hcz109_2 : w82.cell? ⟨gb331, 2, none⟩ = some (.int .i64 t325) := (blk_cell BK331.out 2).trans rfl
          have hfz109_0 := blk_frozen BK331.out 0
          have hfz109_1 := blk_frozen BK331.out 1
          have hfz109_2 := blk_frozen BK331.out 2
          go_wp2_with (first | (go_at_call 17; (with_reducible refine (laws_eqRing.calls kj7 _ _ t336 t339 t340 _ _ t321 t324 t325 true _ ?side1 ?side2 ?side3 ?side4 A84.out).mono ?_); (case side1 => repeat (first | exact (Kd.R_reads' HO_347000.out).2.2 | (with_reducible refine Kd.C_alloc ?_ _) | (with_reducible refine Kd.C_drewN ?_ _) | (with_reducible refine Kd.C_drew ?_))); (case side2 => exact (Kd.R_reads' HO_347000.out).2.1); (case side3 => repeat (first | exact (Kd.R_reads' HO_332000.out).2.2 | (with_reducible refine Kd.C_alloc ?_ _) | (with_reducible refine Kd.C_drewN ?_ _) | (with_reducible refine Kd.C_drew ?_))); (case side4 => exact (Kd.R_reads' HO_332000.out).2.1); rintro e w110 ⟨rfl, hb⟩; have n0_ := Aside0.mk (Kd.R_below (ur_ HO_7.out) hb); have n1_ := Aside0.mk (Kd.R_below (ur_ HO_8.out) hb); have n2_ := Aside0.mk (Kd.R_below (ur_ HO_11.out) hb); have n3_ := Aside0.mk (Kd.R_below (ur_ HO_332000.out) hb); have n4_ := Aside0.mk (Kd.R_below (ur_ HO_347000.out) hb); have n5_ := Aside0.mk (Kd.R_below (ur_ HO353.out) hb); have n6_ := Aside0.mk (blk_below (g := gb331) (o := .cells #[.slice Ao14 t321.length co14, .int .i64 t324, .int .i64 t325] 24 (0, 0)) (ub_ BK331.out) hb); have n7_ := Aside0.mk (blk_below (g := gb332) (o := .cells #[.int .i64 t326, .int .i64 t327] 26 (0, 0)) (ub_ BK332.out) hb); have n8_ := Aside0.mk (blk_below (g := gb346) (o := .cells #[.slice Ao25 t336.length co25, .int .i64 t339, .int .i64 t340] 24 (0, 0)) (ub_ BK346.out) hb); have n9_ := Aside0.mk (blk_below (g := gb347) (o := .cells #[.int .i64 t341, .int .i64 t342] 26 (0, 0)) (ub_ BK347.out) hb); have n10_ := Aside0.mk (below_step (ue_ HB.out) hb); clear HO_7; clear HO_8; clear HO_11; clear HO_332000; clear HO_347000; clear HO353; clear BK331; clear BK332; clear BK346; clear BK347; clear HB; have HO_7 := n0_; have HO_8 := n1_; have HO_11 := n2_; have HO_332000 := n3_; have HO_347000 := n4_; have HO353 := n5_; have BK331 := n6_; have BK332 := n7_; have BK346 := n8_; have BK347 := n9_; have HB := n10_; clear n0_ n1_ n2_ n3_ n4_ n5_ n6_ n7_ n8_ n9_ n10_; (try clear hb); (try clear hb2); (try clear hk); (try clear hi); have hnb111 := NB347_332.out; have hnc111 := NB332_347.out; have hcz112_0 : w110.cell? ⟨gb347, 0, none⟩ = some (.int .i64 t341) := (blk_cell BK347.out 0).trans rfl; have hcz112_1 : w110.cell? ⟨gb347, 1, none⟩ = some (.int .i64 t342) := (blk_cell BK347.out 1).trans rfl; have hfz112_0 := blk_frozen BK347.out 0; have hfz112_1 := blk_frozen BK347.out 1; have hcz113_0 : w110.cell? ⟨gb332, 0, none⟩ = some (.int .i64 t326) := (blk_cell BK332.out 0).trans rfl; have hcz113_1 : w110.cell? ⟨gb332, 1, none⟩ = some (.int .i64 t327) := (blk_cell BK332.out 1).trans rfl; have hfz113_0 := blk_frozen BK332.out 0; have hfz113_1 := blk_frozen BK332.out 1) | (go_at_call 18; (with_reducible refine (laws_eqCredit.calls t341 t342 t326 t327 false _ A86.out).mono ?_); rintro e w114 ⟨rfl, hb⟩; have n0_ := Aside0.mk (Kd.R_below (ur_ HO_7.out) hb); have n1_ := Aside0.mk (Kd.R_below (ur_ HO_8.out) hb); have n2_ := Aside0.mk (Kd.R_below (ur_ HO_11.out) hb); have n3_ := Aside0.mk (Kd.R_below (ur_ HO_332000.out) hb); have n4_ := Aside0.mk (Kd.R_below (ur_ HO_347000.out) hb); have n5_ := Aside0.mk (Kd.R_below (ur_ HO353.out) hb); have n6_ := Aside0.mk (blk_below (g := gb331) (o := .cells #[.slice Ao14 t321.length co14, .int .i64 t324, .int .i64 t325] 24 (0, 0)) (ub_ BK331.out) hb); have n7_ := Aside0.mk (blk_below (g := gb332) (o := .cells #[.int .i64 t326, .int .i64 t327] 26 (0, 0)) (ub_ BK332.out) hb); have n8_ := Aside0.mk (blk_below (g := gb346) (o := .cells #[.slice Ao25 t336.length co25, .int .i64 t339, .int .i64 t340] 24 (0, 0)) (ub_ BK346.out) hb); have n9_ := Aside0.mk (blk_below (g := gb347) (o := .cells #[.int .i64 t341, .int .i64 t342] 26 (0, 0)) (ub_ BK347.out) hb); have n10_ := Aside0.mk (below_step (ue_ HB.out) hb); clear HO_7; clear HO_8; clear HO_11; clear HO_332000; clear HO_347000; clear HO353; clear BK331; clear BK332; clear BK346; clear BK347; clear HB; have HO_7 := n0_; have HO_8 := n1_; have HO_11 := n2_; have HO_332000 := n3_; have HO_347000 := n4_; have HO353 := n5_; have BK331 := n6_; have BK332 := n7_; have BK346 := n8_; have BK347 := n9_; have HB := n10_; clear n0_ n1_ n2_ n3_ n4_ n5_ n6_ n7_ n8_ n9_ n10_; (try clear hb); (try clear hb2); (try clear hk); (try clear hi)))
          go_meet
          case rel => exact ⟨_, (true), (by first | rfl | (simp; done) | (simp [*]; done)), H', ⟨by have := HJ7.out; first | omega | exact Nat.le_refl _⟩, ⟨by (with_reducible repeat (first | apply Kd.R_alloc | apply Kd.R_drewN | apply Kd.R_drew)); exact Kd.R_mono HO_7.out (fun _ hk => by first | exact ⟨hk.2.1, ⟨hk.2.2.1, hk.2.2.2.1⟩⟩ | grind)⟩, ⟨by (with_reducible repeat (first | apply Kd.R_alloc | apply Kd.R_drewN | apply Kd.R_drew)); exact Kd.R_mono HO_11.out (fun _ hk => by first | exact ⟨hk.1, ⟨hk.2.2.1, hk.2.2.2.1⟩⟩ | grind)⟩, ⟨by (with_reducible repeat (first | apply Kd.R_alloc | apply Kd.R_drewN | apply Kd.R_drew)); exact Kd.R_mono HO_332000.out (fun _ hk => by first | exact ⟨hk.1, ⟨hk.2.2.1, hk.2.2.2.1⟩⟩ | grind)⟩, ⟨by (with_reducible repeat (first | apply Kd.R_alloc | apply Kd.R_drewN | apply Kd.R_drew)); exact Kd.R_mono HO_347000.out (fun _ hk => by first | exact ⟨hk.1, ⟨hk.2.2.1, hk.2.2.2.1⟩⟩ | grind)⟩, ⟨by (with_reducible repeat (first | refine blk_drewN ?_ _ | refine blk_drew ?_ | refine blk_alloc ?_ _)); exact BK331.out⟩, ⟨by (with_reducible repeat (first | refine blk_drewN ?_ _ | refine blk_drew ?_ | refine blk_alloc ?_ _)); exact BK332.out⟩, ⟨by (with_reducible repeat (first | refine blk_drewN ?_ _ | refine blk_drew ?_ | refine blk_alloc ?_ _)); exact BK346.out⟩, ⟨by (with_reducible repeat (first | refine blk_drewN ?_ _ | refine blk_drew ?_ | refine blk_alloc ?_ _)); exact BK347.out⟩, ⟨ue_ HB.out⟩⟩
        ·
         replace c85 := Bool.eq_false_iff.mpr c85
         subst c85
         have H1 : (laws_FnExactPlayLink.j1 kj7 a0 l1 t328 t343 true t321 t324 t325 t326 t327 t336 t339 t340) = some r := by rw [if_neg (show ¬ (false = true) by decide)] at H; exact H
         clear H
         have H := H1
         clear H1
         have H' := Aside0.mk H
         clear H
         have hnb115 := NB346_331.out
         have hnc115 := NB331_346.out
         have hnb116 := NB346_332.out
         have hnc116 := NB332_346.out
         have hnb117 := NB346_347.out
         have hnc117 := NB347_346.out
         have hcz118_0 : w82.cell? ⟨gb346, 0, none⟩ = some (.slice Ao25 t336.length co25) := (blk_cell BK346.out 0).trans rfl
         have hcz118_1 : w82.cell? ⟨gb346, 1, none⟩ = some (.int .i64 t339) := (blk_cell BK346.out 1).trans rfl
         have hcz118_2 : w82.cell? ⟨gb346, 2, none⟩ = some (.int .i64 t340) := (blk_cell BK346.out 2).trans rfl
         have hfz118_0 := blk_frozen BK346.out 0
         have hfz118_1 := blk_frozen BK346.out 1
         have hfz118_2 := blk_frozen BK346.out 2
         have hnb119 := NB331_332.out
         have hnc119 := NB332_331.out
         have hnb120 := NB331_347.out
         have hnc120 := NB347_331.out
         have hcz121_0 : w82.cell? ⟨gb331, 0, none⟩ = some (.slice Ao14 t321.length co14) := (blk_cell BK331.out 0).trans rfl
         have hcz121_1 : w82.cell? ⟨gb331, 1, none⟩ = some (.int .i64 t324) := (blk_cell BK331.out 1).trans rfl
         have hcz121_2 : w82.cell? ⟨gb331, 2, none⟩ = some (.int .i64 t325) := (blk_cell BK331.out 2).trans rfl
         have hfz121_0 := blk_frozen BK331.out 0
         have hfz121_1 := blk_frozen BK331.out 1
         have hfz121_2 := blk_frozen BK331.out 2
         go_wp2_with (first | (go_at_call 17; (with_reducible refine (laws_eqRing.calls kj7 _ _ t336 t339 t340 _ _ t321 t324 t325 false _ ?side1 ?side2 ?side3 ?side4 A84.out).mono ?_); (case side1 => repeat (first | exact (Kd.R_reads' HO_347000.out).2.2 | (with_reducible refine Kd.C_alloc ?_ _) | (with_reducible refine Kd.C_drewN ?_ _) | (with_reducible refine Kd.C_drew ?_))); (case side2 => exact (Kd.R_reads' HO_347000.out).2.1); (case side3 => repeat (first | exact (Kd.R_reads' HO_332000.out).2.2 | (with_reducible refine Kd.C_alloc ?_ _) | (with_reducible refine Kd.C_drewN ?_ _) | (with_reducible refine Kd.C_drew ?_))); (case side4 => exact (Kd.R_reads' HO_332000.out).2.1); rintro e w122 ⟨rfl, hb⟩; have n0_ := Aside0.mk (Kd.R_below (ur_ HO_7.out) hb); have n1_ := Aside0.mk (Kd.R_below (ur_ HO_8.out) hb); have n2_ := Aside0.mk (Kd.R_below (ur_ HO_11.out) hb); have n3_ := Aside0.mk (Kd.R_below (ur_ HO_332000.out) hb); have n4_ := Aside0.mk (Kd.R_below (ur_ HO_347000.out) hb); have n5_ := Aside0.mk (Kd.R_below (ur_ HO353.out) hb); have n6_ := Aside0.mk (blk_below (g := gb331) (o := .cells #[.slice Ao14 t321.length co14, .int .i64 t324, .int .i64 t325] 24 (0, 0)) (ub_ BK331.out) hb); have n7_ := Aside0.mk (blk_below (g := gb332) (o := .cells #[.int .i64 t326, .int .i64 t327] 26 (0, 0)) (ub_ BK332.out) hb); have n8_ := Aside0.mk (blk_below (g := gb346) (o := .cells #[.slice Ao25 t336.length co25, .int .i64 t339, .int .i64 t340] 24 (0, 0)) (ub_ BK346.out) hb); have n9_ := Aside0.mk (blk_below (g := gb347) (o := .cells #[.int .i64 t341, .int .i64 t342] 26 (0, 0)) (ub_ BK347.out) hb); have n10_ := Aside0.mk (below_step (ue_ HB.out) hb); clear HO_7; clear HO_8; clear HO_11; clear HO_332000; clear HO_347000; clear HO353; clear BK331; clear BK332; clear BK346; clear BK347; clear HB; have HO_7 := n0_; have HO_8 := n1_; have HO_11 := n2_; have HO_332000 := n3_; have HO_347000 := n4_; have HO353 := n5_; have BK331 := n6_; have BK332 := n7_; have BK346 := n8_; have BK347 := n9_; have HB := n10_; clear n0_ n1_ n2_ n3_ n4_ n5_ n6_ n7_ n8_ n9_ n10_; (try clear hb); (try clear hb2); (try clear hk); (try clear hi)))
         go_meet
         case rel => exact ⟨_, (true), (by first | rfl | (simp; done) | (simp [*]; done)), H', ⟨by have := HJ7.out; first | omega | exact Nat.le_refl _⟩, ⟨by (with_reducible repeat (first | apply Kd.R_alloc | apply Kd.R_drewN | apply Kd.R_drew)); exact Kd.R_mono HO_7.out (fun _ hk => by first | exact ⟨hk.2.1, ⟨hk.2.2.1, hk.2.2.2.1⟩⟩ | grind)⟩, ⟨by (with_reducible repeat (first | apply Kd.R_alloc | apply Kd.R_drewN | apply Kd.R_drew)); exact Kd.R_mono HO_11.out (fun _ hk => by first | exact ⟨hk.1, ⟨hk.2.2.1, hk.2.2.2.1⟩⟩ | grind)⟩, ⟨by (with_reducible repeat (first | apply Kd.R_alloc | apply Kd.R_drewN | apply Kd.R_drew)); exact Kd.R_mono HO_332000.out (fun _ hk => by first | exact ⟨hk.1, ⟨hk.2.2.1, hk.2.2.2.1⟩⟩ | grind)⟩, ⟨by (with_reducible repeat (first | apply Kd.R_alloc | apply Kd.R_drewN | apply Kd.R_drew)); exact Kd.R_mono HO_347000.out (fun _ hk => by first | exact ⟨hk.1, ⟨hk.2.2.1, hk.2.2.2.1⟩⟩ | grind)⟩, ⟨by (with_reducible repeat (first | refine blk_drewN ?_ _ | refine blk_drew ?_ | refine blk_alloc ?_ _)); exact BK331.out⟩, ⟨by (with_reducible repeat (first | refine blk_drewN ?_ _ | refine blk_drew ?_ | refine blk_alloc ?_ _)); exact BK332.out⟩, ⟨by (with_reducible repeat (first | refine blk_drewN ?_ _ | refine blk_drew ?_ | refine blk_alloc ?_ _)); exact BK346.out⟩, ⟨by (with_reducible repeat (first | refine blk_drewN ?_ _ | refine blk_drew ?_ | refine blk_alloc ?_ _)); exact BK347.out⟩, ⟨ue_ HB.out⟩⟩
      case rest =>
       clear HC79
       try clear c1
       try clear c2
       try clear p2
       try clear c3
       try clear c3b0
       try clear c3b1
       try clear c4
       try clear c5
       try clear c6
       try clear c7
       try clear c8
       try clear c9
       try clear c10
       try clear c11
       try clear c12
       try clear c14
       try clear c15
       try clear c16
       try clear c17
       try clear c19
       try clear c20
       try clear c26
       try clear c27
       try clear c28
       try clear c31
       try clear c32
       try clear c36
       try clear c38
       try clear c40
       try clear c41
       try clear c42
       try clear c44
       try clear c45
       try clear c48
       try clear c54
       try clear c55
       try clear c56
       try clear c58
       try clear c59
       try clear c62
       try clear c66
       try clear c67
       try clear c68
       try clear c70
       try clear c71
       try clear c74
       try clear c77
       try clear c83
       try clear c83b0
       try clear c85
       try clear c87
       try clear c89
       try clear c90
       try clear c91
       try clear c93
       try clear c94
       try clear c97
       try clear c103
       try clear c104
       try clear c105
       try clear c107
       try clear c108
       try clear c111
       try clear c115
       try clear c116
       try clear c117
       try clear c119
       try clear c120
       try clear hcz106_0
       try clear hcz106_1
       try clear hcz106_2
       try clear hcz109_0
       try clear hcz109_1
       try clear hcz109_2
       try clear hcz112_0
       try clear hcz112_1
       try clear hcz113_0
       try clear hcz113_1
       try clear hcz118_0
       try clear hcz118_1
       try clear hcz118_2
       try clear hcz121_0
       try clear hcz121_1
       try clear hcz121_2
       try clear hcz16_0
       try clear hcz16_1
       try clear hcz16_2
       try clear hcz18_0
       try clear hcz18_1
       try clear hcz29_0
       try clear hcz29_1
       try clear hcz29_2
       try clear hcz33_0
       try clear hcz33_1
       try clear hcz43_0
       try clear hcz43_1
       try clear hcz43_2
       try clear hcz46_0
       try clear hcz46_1
       try clear hcz46_2
       try clear hcz49_0
       try clear hcz49_1
       try clear hcz50_0
       try clear hcz50_1
       try clear hcz57_0
       try clear hcz57_1
       try clear hcz57_2
       try clear hcz60_0
       try clear hcz60_1
       try clear hcz60_2
       try clear hcz63_0
       try clear hcz63_1
       try clear hcz64_0
       try clear hcz64_1
       try clear hcz69_0
       try clear hcz69_1
       try clear hcz69_2
       try clear hcz72_0
       try clear hcz72_1
       try clear hcz72_2
       try clear hcz92_0
       try clear hcz92_1
       try clear hcz92_2
       try clear hcz95_0
       try clear hcz95_1
       try clear hcz95_2
       try clear hcz98_0
       try clear hcz98_1
       try clear hcz99_0
       try clear hcz99_1
       try clear hfz106_0
       try clear hfz106_1
       try clear hfz106_2
       try clear hfz109_0
       try clear hfz109_1
       try clear hfz109_2
       try clear hfz112_0
       try clear hfz112_1
       try clear hfz113_0
       try clear hfz113_1
       try clear hfz118_0
       try clear hfz118_1
       try clear hfz118_2
       try clear hfz121_0
       try clear hfz121_1
       try clear hfz121_2
       try clear hfz16_0
       try clear hfz16_1
       try clear hfz16_2
       try clear hfz18_0
       try clear hfz18_1
       try clear hfz29_0
       try clear hfz29_1
       try clear hfz29_2
       try clear hfz33_0
       try clear hfz33_1
       try clear hfz43_0
       try clear hfz43_1
       try clear hfz43_2
       try clear hfz46_0
       try clear hfz46_1
       try clear hfz46_2
       try clear hfz49_0
       try clear hfz49_1
       try clear hfz50_0
       try clear hfz50_1
       try clear hfz57_0
       try clear hfz57_1
       try clear hfz57_2
       try clear hfz60_0
       try clear hfz60_1
       try clear hfz60_2
       try clear hfz63_0
       try clear hfz63_1
       try clear hfz64_0
       try clear hfz64_1
       try clear hfz69_0
       try clear hfz69_1
       try clear hfz69_2
       try clear hfz72_0
       try clear hfz72_1
       try clear hfz72_2
       try clear hfz92_0
       try clear hfz92_1
       try clear hfz92_2
       try clear hfz95_0
       try clear hfz95_1
       try clear hfz95_2
       try clear hfz98_0
       try clear hfz98_1
       try clear hfz99_0
       try clear hfz99_1
       try clear p2
       obtain ⟨kq, x81_78, rfl, HA, HJ78, HO_7, HO_11, HO_332000, HO_347000, BK331, BK332, BK346, BK347, HB⟩ := hcut
       cases kq with
       | zero => exact absurd HA.out (by simp [laws_FnExactPlayLink.j1])
       | succ kj78 =>
        have H := HA.out
        clear HA
        simp only [laws_FnExactPlayLink.j1] at H
        by_cases c123 : x81_78 = true
        ·
         subst c123
         have H1 : (some false) = some r := by rw [if_pos rfl] at H; exact H
         clear H
         have H := H1
         clear H1
         exact absurd ((Option.some.inj H).trans hT.out) (by decide)
        ·
         replace c123 := Bool.eq_false_iff.mpr c123
         subst c123
         have H1 : ((laws_markRing.f kj78 t336 t339 t340 1).bind fun bt360 => ((laws_markIntS.f kj78 t343 bt360.1).bind fun bt362 => ((laws_heldRing.f kj78 bt360.2 t339 t340 1).bind fun t364 => (if t364 < 0 then (some false) else ((laws_heldIntS.f kj78 bt362.2 t364).bind fun t365 => (if t365 < 0 then (some false) else (if t365 = bt362.1 then ((laws_toIntS.f kj78 l1).bind fun t366 => ((impl_PlayLink.f kj78 a0 t366).bind fun bt369 => ((laws_eqRing.f kj78 bt369.1 bt369.2.1 bt369.2.2.1 t321 t324 t325).bind fun t381 => (if t381 = true then ((laws_eqCredit.f bt369.2.2.2.1 bt369.2.2.2.2.1 t326 t327).bind fun t382 => (if t382 = true then ((laws_eqIntS.f kj78 bt369.2.2.2.2.2 t328).bind fun t383 => (laws_FnExactPlayLink.j2 kj78 bt362.2 bt362.1 (!t383) bt360.2 t339 t340)) else (laws_FnExactPlayLink.j2 kj78 bt362.2 bt362.1 true bt360.2 t339 t340))) else (laws_FnExactPlayLink.j2 kj78 bt362.2 bt362.1 true bt360.2 t339 t340))))) else (some false)))))))) = some r := by rw [if_neg (show ¬ (false = true) by decide)] at H; exact H
         clear H
         have H := H1
         clear H1
         replace H := Option.bind_eq_some_iff.mp H
         obtain ⟨⟨t360, t361⟩, A1240, H⟩ := H
         replace H : ((laws_markIntS.f kj78 t343 t360).bind fun bt362 => ((laws_heldRing.f kj78 t361 t339 t340 1).bind fun t364 => (if t364 < 0 then (some false) else ((laws_heldIntS.f kj78 bt362.2 t364).bind fun t365 => (if t365 < 0 then (some false) else (if t365 = bt362.1 then ((laws_toIntS.f kj78 l1).bind fun t366 => ((impl_PlayLink.f kj78 a0 t366).bind fun bt369 => ((laws_eqRing.f kj78 bt369.1 bt369.2.1 bt369.2.2.1 t321 t324 t325).bind fun t381 => (if t381 = true then ((laws_eqCredit.f bt369.2.2.2.1 bt369.2.2.2.2.1 t326 t327).bind fun t382 => (if t382 = true then ((laws_eqIntS.f kj78 bt369.2.2.2.2.2 t328).bind fun t383 => (laws_FnExactPlayLink.j2 kj78 bt362.2 bt362.1 (!t383) t361 t339 t340)) else (laws_FnExactPlayLink.j2 kj78 bt362.2 bt362.1 true t361 t339 t340))) else (laws_FnExactPlayLink.j2 kj78 bt362.2 bt362.1 true t361 t339 t340))))) else (some false))))))) = some r := H
         have A124 := Aside0.mk A1240
         clear A1240
         replace H := Option.bind_eq_some_iff.mp H
         obtain ⟨⟨t362, t363⟩, A1250, H⟩ := H
         replace H : ((laws_heldRing.f kj78 t361 t339 t340 1).bind fun t364 => (if t364 < 0 then (some false) else ((laws_heldIntS.f kj78 t363 t364).bind fun t365 => (if t365 < 0 then (some false) else (if t365 = t362 then ((laws_toIntS.f kj78 l1).bind fun t366 => ((impl_PlayLink.f kj78 a0 t366).bind fun bt369 => ((laws_eqRing.f kj78 bt369.1 bt369.2.1 bt369.2.2.1 t321 t324 t325).bind fun t381 => (if t381 = true then ((laws_eqCredit.f bt369.2.2.2.1 bt369.2.2.2.2.1 t326 t327).bind fun t382 => (if t382 = true then ((laws_eqIntS.f kj78 bt369.2.2.2.2.2 t328).bind fun t383 => (laws_FnExactPlayLink.j2 kj78 t363 t362 (!t383) t361 t339 t340)) else (laws_FnExactPlayLink.j2 kj78 t363 t362 true t361 t339 t340))) else (laws_FnExactPlayLink.j2 kj78 t363 t362 true t361 t339 t340))))) else (some false)))))) = some r := H
         have A125 := Aside0.mk A1250
         clear A1250
         replace H := Option.bind_eq_some_iff.mp H
         obtain ⟨t364, A1260, H⟩ := H
         replace H : (if t364 < 0 then (some false) else ((laws_heldIntS.f kj78 t363 t364).bind fun t365 => (if t365 < 0 then (some false) else (if t365 = t362 then ((laws_toIntS.f kj78 l1).bind fun t366 => ((impl_PlayLink.f kj78 a0 t366).bind fun bt369 => ((laws_eqRing.f kj78 bt369.1 bt369.2.1 bt369.2.2.1 t321 t324 t325).bind fun t381 => (if t381 = true then ((laws_eqCredit.f bt369.2.2.2.1 bt369.2.2.2.2.1 t326 t327).bind fun t382 => (if t382 = true then ((laws_eqIntS.f kj78 bt369.2.2.2.2.2 t328).bind fun t383 => (laws_FnExactPlayLink.j2 kj78 t363 t362 (!t383) t361 t339 t340)) else (laws_FnExactPlayLink.j2 kj78 t363 t362 true t361 t339 t340))) else (laws_FnExactPlayLink.j2 kj78 t363 t362 true t361 t339 t340))))) else (some false))))) = some r := H
         have A126 := Aside0.mk A1260
         clear A1260
         by_cases c127 : t364 < 0
         ·
          rw [if_pos c127] at H
          have c127b0 : decide (t364 < 0) = true := decide_eq_true c127
          clear c127
          exact absurd ((Option.some.inj H).trans hT.out) (by decide)
         ·
          rw [if_neg c127] at H
          have c127b0 : decide (t364 < 0) = false := decide_eq_false c127
          clear c127
          replace H := Option.bind_eq_some_iff.mp H
          obtain ⟨t365, A1280, H⟩ := H
          replace H : (if t365 < 0 then (some false) else (if t365 = t362 then ((laws_toIntS.f kj78 l1).bind fun t366 => ((impl_PlayLink.f kj78 a0 t366).bind fun bt369 => ((laws_eqRing.f kj78 bt369.1 bt369.2.1 bt369.2.2.1 t321 t324 t325).bind fun t381 => (if t381 = true then ((laws_eqCredit.f bt369.2.2.2.1 bt369.2.2.2.2.1 t326 t327).bind fun t382 => (if t382 = true then ((laws_eqIntS.f kj78 bt369.2.2.2.2.2 t328).bind fun t383 => (laws_FnExactPlayLink.j2 kj78 t363 t362 (!t383) t361 t339 t340)) else (laws_FnExactPlayLink.j2 kj78 t363 t362 true t361 t339 t340))) else (laws_FnExactPlayLink.j2 kj78 t363 t362 true t361 t339 t340))))) else (some false))) = some r := H
          have A128 := Aside0.mk A1280
          clear A1280
          by_cases c129 : t365 < 0
          ·
           rw [if_pos c129] at H
           have c129b0 : decide (t365 < 0) = true := decide_eq_true c129
           clear c129
           exact absurd ((Option.some.inj H).trans hT.out) (by decide)
          ·
           rw [if_neg c129] at H
           have c129b0 : decide (t365 < 0) = false := decide_eq_false c129
           clear c129
           by_cases c130 : t365 = t362
           ·
            rw [if_pos c130] at H
            have c130b0 : (t365 == t362) = true := beq_iff_eq.mpr c130
            have c130b1 : (t365 != t362) = false := bne_eq_false_iff_eq.mpr c130
            clear c130
            replace H := Option.bind_eq_some_iff.mp H
            obtain ⟨t366, A1310, H⟩ := H
            replace H : ((impl_PlayLink.f kj78 a0 t366).bind fun bt369 => ((laws_eqRing.f kj78 bt369.1 bt369.2.1 bt369.2.2.1 t321 t324 t325).bind fun t381 => (if t381 = true then ((laws_eqCredit.f bt369.2.2.2.1 bt369.2.2.2.2.1 t326 t327).bind fun t382 => (if t382 = true then ((laws_eqIntS.f kj78 bt369.2.2.2.2.2 t328).bind fun t383 => (laws_FnExactPlayLink.j2 kj78 t363 t362 (!t383) t361 t339 t340)) else (laws_FnExactPlayLink.j2 kj78 t363 t362 true t361 t339 t340))) else (laws_FnExactPlayLink.j2 kj78 t363 t362 true t361 t339 t340)))) = some r := H
            have A131 := Aside0.mk A1310
            clear A1310
            replace H := Option.bind_eq_some_iff.mp H
            obtain ⟨⟨t369, t372, t373, t374, t375, t376⟩, A1320, H⟩ := H
            replace H : ((laws_eqRing.f kj78 t369 t372 t373 t321 t324 t325).bind fun t381 => (if t381 = true then ((laws_eqCredit.f t374 t375 t326 t327).bind fun t382 => (if t382 = true then ((laws_eqIntS.f kj78 t376 t328).bind fun t383 => (laws_FnExactPlayLink.j2 kj78 t363 t362 (!t383) t361 t339 t340)) else (laws_FnExactPlayLink.j2 kj78 t363 t362 true t361 t339 t340))) else (laws_FnExactPlayLink.j2 kj78 t363 t362 true t361 t339 t340))) = some r := H
            have A132 := Aside0.mk A1320
            clear A1320
            have HC133 := Aside0.mk H
            clear H
            have hnb134 := NB346_331.out
            have hnc134 := NB331_346.out
            have hnb135 := NB346_332.out
            have hnc135 := NB332_346.out
            have hnb136 := NB346_347.out
            have hnc136 := NB347_346.out
            have hcz137_0 : wc.cell? ⟨gb346, 0, none⟩ = some (.slice Ao25 t336.length co25) := (blk_cell BK346.out 0).trans rfl
            have hcz137_1 : wc.cell? ⟨gb346, 1, none⟩ = some (.int .i64 t339) := (blk_cell BK346.out 1).trans rfl
            have hcz137_2 : wc.cell? ⟨gb346, 2, none⟩ = some (.int .i64 t340) := (blk_cell BK346.out 2).trans rfl
            have hfz137_0 := blk_frozen BK346.out 0
            have hfz137_1 := blk_frozen BK346.out 1
            have hfz137_2 := blk_frozen BK346.out 2
            go_upto_region 27 with (first | ((with_reducible refine gate_callee (f := 21) rfl ?_); refine goesL_ (some 84) rfl rfl Try.func21 (by kernel_rfl) rfl #[.agg #[.slice Ao25 t336.length co25, .int .i64 t339, .int .i64 t340], .int .i64 1] rfl ul_ ?_; (with_reducible refine (laws_markRing.calls kj78 (fun k_ => some k_ = (.slice Ao25 t336.length co25 : Value).ownBlock) (.slice Ao25 t336.length co25) t336 t339 t340 1 t360 t361 w _ ?side1 ?side2 A124.out).mono ?_); (case side1 => repeat (first | (with_reducible first | exact HB.out | apply below_alloc | apply pw_below_drewN | apply below_drew1 | refine below_set ?_ GE331.out | refine below_set ?_ GE332.out | refine below_set ?_ GE346.out | refine below_set ?_ GE347.out) | exact HB.out)); (case side2 => exact Kd.R_tight rfl HO_347000.out); rintro e w138 ⟨rfl, hy0, hb, hkp⟩; refine ⟨_, rfl, ?_⟩; have n0_ := Aside0.mk (Kd.R_mono (ok' := fun k_ => some k_ ≠ (v344 : Value).ownBlock ∧ some k_ ≠ (.slice Ao14 t321.length co14 : Value).ownBlock ∧ some k_ ≠ (.slice Ao25 t336.length co25 : Value).ownBlock) (Kd.R_keptB (HO_7.out) hkp (fun k_ hk_ hs_ => by first | exact (hk_.2.2) hs_ | grind)) (fun k_ hk_ => by first | exact ⟨hk_.1.1, hk_.1.2.1, hk_.1.2.2⟩ | grind)); have n1_ := Aside0.mk (Kd.R_mono (ok' := fun k_ => some k_ ≠ (v329 : Value).ownBlock ∧ some k_ ≠ (.slice Ao14 t321.length co14 : Value).ownBlock ∧ some k_ ≠ (.slice Ao25 t336.length co25 : Value).ownBlock) (Kd.R_keptB (HO_11.out) hkp (fun k_ hk_ hs_ => by first | exact (hk_.2.2) hs_ | grind)) (fun k_ hk_ => by first | exact ⟨hk_.1.1, hk_.1.2.1, hk_.1.2.2⟩ | grind)); have n2_ := Aside0.mk (Kd.R_mono (ok' := fun k_ => some k_ ≠ (v329 : Value).ownBlock ∧ some k_ ≠ (v344 : Value).ownBlock ∧ some k_ ≠ (.slice Ao25 t336.length co25 : Value).ownBlock) (Kd.R_keptB (HO_332000.out) hkp (fun k_ hk_ hs_ => by first | exact (hk_.2.2) hs_ | grind)) (fun k_ hk_ => by first | exact ⟨hk_.1.1, hk_.1.2.1, hk_.1.2.2⟩ | grind)); have n3_ := Aside0.mk (Kd.R_reok rfl hy0 (fun k_ e_ => HO_347000.out.1 k_ e_)); have n4_ := Aside0.mk (blk_kept (g := gb331) (o := .cells #[.slice Ao14 t321.length co14, .int .i64 t324, .int .i64 t325] 24 (0, 0)) (ub_ BK331.out) hkp (fun hs_ => (fun e_ => (Kd.R_ne HO_347000.out BK331.out (by decide)) e_) hs_)); have n5_ := Aside0.mk (blk_kept (g := gb332) (o := .cells #[.int .i64 t326, .int .i64 t327] 26 (0, 0)) (ub_ BK332.out) hkp (fun hs_ => (fun e_ => (Kd.R_ne HO_347000.out BK332.out (by decide)) e_) hs_)); have n6_ := Aside0.mk (blk_kept (g := gb346) (o := .cells #[.slice Ao25 t336.length co25, .int .i64 t339, .int .i64 t340] 24 (0, 0)) (ub_ BK346.out) hkp (fun hs_ => (fun e_ => (Kd.R_ne HO_347000.out BK346.out (by decide)) e_) hs_)); have n7_ := Aside0.mk (blk_kept (g := gb347) (o := .cells #[.int .i64 t341, .int .i64 t342] 26 (0, 0)) (ub_ BK347.out) hkp (fun hs_ => (fun e_ => (Kd.R_ne HO_347000.out BK347.out (by decide)) e_) hs_)); have n8_ := Aside0.mk (hb); clear HO_7; clear HO_11; clear HO_332000; clear HO_347000; clear BK331; clear BK332; clear BK346; clear BK347; clear HB; have HO_7 := n0_; have HO_11 := n1_; have HO_332000 := n2_; have HO_347000 := n3_; have BK331 := n4_; have BK332 := n5_; have BK346 := n6_; have BK347 := n7_; have HB := n8_; clear n0_ n1_ n2_ n3_ n4_ n5_ n6_ n7_ n8_; (try clear hb); (try clear hkp); (try clear hy0); obtain ⟨Ao139, co139, eo139⟩ := Kd.R_slice HO_11.out; subst eo139) | ((with_reducible refine gate_callee (f := 20) rfl ?_); refine goesL_ (some 87) rfl rfl Try.func20 (by kernel_rfl) rfl #[.slice Ao139 t343.length co139, .int .i64 t360] rfl ul_ ?_; (with_reducible refine (laws_markIntS.calls kj78 (fun k_ => some k_ = (.slice Ao139 t343.length co139 : Value).ownBlock) (.slice Ao139 t343.length co139) t343 t360 t362 t363 w _ ?side1 ?side2 A125.out).mono ?_); (case side1 => repeat (first | (with_reducible first | exact HB.out | apply below_alloc | apply pw_below_drewN | apply below_drew1 | refine below_set ?_ GE331.out | refine below_set ?_ GE332.out | refine below_set ?_ GE346.out | refine below_set ?_ GE347.out) | exact HB.out)); (case side2 => exact Kd.R_tight rfl HO_11.out); rintro e w140 ⟨rfl, hy0, hb, hkp⟩; refine ⟨_, rfl, ?_⟩; have n0_ := Aside0.mk (Kd.R_mono (ok' := fun k_ => some k_ ≠ (.slice Ao139 t343.length co139 : Value).ownBlock ∧ some k_ ≠ (.slice Ao14 t321.length co14 : Value).ownBlock ∧ some k_ ≠ (.slice Ao25 t336.length co25 : Value).ownBlock) (Kd.R_keptB (HO_7.out) hkp (fun k_ hk_ hs_ => by first | exact (hk_.1) hs_ | grind)) (fun k_ hk_ => by first | exact ⟨hk_.1.1, hk_.1.2.1, hk_.1.2.2⟩ | grind)); have n1_ := Aside0.mk (Kd.R_reok rfl hy0 (fun k_ e_ => HO_11.out.1 k_ e_)); have n2_ := Aside0.mk (Kd.R_mono (ok' := fun k_ => some k_ ≠ (v329 : Value).ownBlock ∧ some k_ ≠ (.slice Ao139 t343.length co139 : Value).ownBlock ∧ some k_ ≠ (.slice Ao25 t336.length co25 : Value).ownBlock) (Kd.R_keptB (HO_332000.out) hkp (fun k_ hk_ hs_ => by first | exact (hk_.2.1) hs_ | grind)) (fun k_ hk_ => by first | exact ⟨hk_.1.1, hk_.1.2.1, hk_.1.2.2⟩ | grind)); have n3_ := Aside0.mk (Kd.R_mono (ok' := fun k_ => some k_ ≠ (v329 : Value).ownBlock ∧ some k_ ≠ (.slice Ao139 t343.length co139 : Value).ownBlock ∧ some k_ ≠ (.slice Ao14 t321.length co14 : Value).ownBlock) (Kd.R_keptB (HO_347000.out) hkp (fun k_ hk_ hs_ => by first | exact (hk_.2.1) hs_ | grind)) (fun k_ hk_ => by first | exact ⟨hk_.1.1, hk_.1.2.1, hk_.1.2.2⟩ | grind)); have n4_ := Aside0.mk (blk_kept (g := gb331) (o := .cells #[.slice Ao14 t321.length co14, .int .i64 t324, .int .i64 t325] 24 (0, 0)) (ub_ BK331.out) hkp (fun hs_ => (fun e_ => (Kd.R_ne HO_11.out BK331.out (by decide)) e_) hs_)); have n5_ := Aside0.mk (blk_kept (g := gb332) (o := .cells #[.int .i64 t326, .int .i64 t327] 26 (0, 0)) (ub_ BK332.out) hkp (fun hs_ => (fun e_ => (Kd.R_ne HO_11.out BK332.out (by decide)) e_) hs_)); have n6_ := Aside0.mk (blk_kept (g := gb346) (o := .cells #[.slice Ao25 t336.length co25, .int .i64 t339, .int .i64 t340] 24 (0, 0)) (ub_ BK346.out) hkp (fun hs_ => (fun e_ => (Kd.R_ne HO_11.out BK346.out (by decide)) e_) hs_)); have n7_ := Aside0.mk (blk_kept (g := gb347) (o := .cells #[.int .i64 t341, .int .i64 t342] 26 (0, 0)) (ub_ BK347.out) hkp (fun hs_ => (fun e_ => (Kd.R_ne HO_11.out BK347.out (by decide)) e_) hs_)); have n8_ := Aside0.mk (hb); clear HO_7; clear HO_11; clear HO_332000; clear HO_347000; clear BK331; clear BK332; clear BK346; clear BK347; clear HB; have HO_7 := n0_; have HO_11 := n1_; have HO_332000 := n2_; have HO_347000 := n3_; have BK331 := n4_; have BK332 := n5_; have BK346 := n6_; have BK347 := n7_; have HB := n8_; clear n0_ n1_ n2_ n3_ n4_ n5_ n6_ n7_ n8_; (try clear hb); (try clear hkp); (try clear hy0); have hcz141_0 : w140.cell? ⟨gb346, 0, none⟩ = some (.slice Ao25 t336.length co25) := (blk_cell BK346.out 0).trans rfl; have hcz141_1 : w140.cell? ⟨gb346, 1, none⟩ = some (.int .i64 t339) := (blk_cell BK346.out 1).trans rfl; have hcz141_2 : w140.cell? ⟨gb346, 2, none⟩ = some (.int .i64 t340) := (blk_cell BK346.out 2).trans rfl; have hfz141_0 := blk_frozen BK346.out 0; have hfz141_1 := blk_frozen BK346.out 1; have hfz141_2 := blk_frozen BK346.out 2) | ((with_reducible refine gate_callee (f := 22) rfl ?_); refine goesL_ (some 90) rfl rfl Try.func22 (by kernel_rfl) rfl #[.agg #[.slice Ao25 t361.length co25, .int .i64 t339, .int .i64 t340], .int .i64 1] rfl (by (try simp only [List.map_toArray, List.map_cons, List.map_nil]); first | done | (rw [show t361.length = t336.length from (Kd.R_reads' HO_347000.out).1.symm] <;> rfl) | rfl | (simp only [List.length_drop, List.length_take]; rfl)) ?_; (with_reducible refine (laws_heldRing.calls kj78 _ _ t361 t339 t340 1 t364 _ ?side1 ?side2 A126.out).mono ?_); (case side1 => repeat (first | exact (Kd.R_reads' HO_347000.out).2.2 | (with_reducible refine Kd.C_alloc ?_ _) | (with_reducible refine Kd.C_drewN ?_ _) | (with_reducible refine Kd.C_drew ?_))); (case side2 => rw [show t361.length = t336.length from (Kd.R_reads' HO_347000.out).1.symm]; exact (Kd.R_reads' HO_347000.out).2.1); rintro e w142 ⟨rfl, hb⟩; refine ⟨_, rfl, ?_⟩; have n0_ := Aside0.mk (Kd.R_below (ur_ HO_7.out) hb); have n1_ := Aside0.mk (Kd.R_below (ur_ HO_11.out) hb); have n2_ := Aside0.mk (Kd.R_below (ur_ HO_332000.out) hb); have n3_ := Aside0.mk (Kd.R_below (ur_ HO_347000.out) hb); have n4_ := Aside0.mk (blk_below (g := gb331) (o := .cells #[.slice Ao14 t321.length co14, .int .i64 t324, .int .i64 t325] 24 (0, 0)) (ub_ BK331.out) hb); have n5_ := Aside0.mk (blk_below (g := gb332) (o := .cells #[.int .i64 t326, .int .i64 t327] 26 (0, 0)) (ub_ BK332.out) hb); have n6_ := Aside0.mk (blk_below (g := gb346) (o := .cells #[.slice Ao25 t336.length co25, .int .i64 t339, .int .i64 t340] 24 (0, 0)) (ub_ BK346.out) hb); have n7_ := Aside0.mk (blk_below (g := gb347) (o := .cells #[.int .i64 t341, .int .i64 t342] 26 (0, 0)) (ub_ BK347.out) hb); have n8_ := Aside0.mk (below_step (ue_ HB.out) hb); clear HO_7; clear HO_11; clear HO_332000; clear HO_347000; clear BK331; clear BK332; clear BK346; clear BK347; clear HB; have HO_7 := n0_; have HO_11 := n1_; have HO_332000 := n2_; have HO_347000 := n3_; have BK331 := n4_; have BK332 := n5_; have BK346 := n6_; have BK347 := n7_; have HB := n8_; clear n0_ n1_ n2_ n3_ n4_ n5_ n6_ n7_ n8_; (try clear hb); (try clear hb2); (try clear hk); (try clear hi)) | ((with_reducible refine gate_callee (f := 23) rfl ?_); refine goesL_ (some 95) rfl rfl Try.func23 (by kernel_rfl) rfl #[.slice Ao139 t363.length co139, .int .i64 t364] rfl (by (try simp only [List.map_toArray, List.map_cons, List.map_nil]); first | done | (rw [show t363.length = t343.length from (Kd.R_reads' HO_11.out).1.symm] <;> rfl) | rfl | (simp only [List.length_drop, List.length_take]; rfl)) ?_; (with_reducible refine (laws_heldIntS.calls kj78 _ _ t363 t364 t365 _ ?side1 ?side2 A128.out).mono ?_); (case side1 => repeat (first | exact (Kd.R_reads' HO_11.out).2.2 | (with_reducible refine Kd.C_alloc ?_ _) | (with_reducible refine Kd.C_drewN ?_ _) | (with_reducible refine Kd.C_drew ?_))); (case side2 => rw [show t363.length = t343.length from (Kd.R_reads' HO_11.out).1.symm]; exact (Kd.R_reads' HO_11.out).2.1); rintro e w' ⟨rfl, ⟨nd, rfl⟩⟩; refine ⟨_, rfl, ?_⟩; (try (rw [drewN_self w142]; generalize hq_ : World.drewN w142 _ = w142; have n0_ : Aside0 (Kd.R (Kd.int .i64) 3 w142 w.heap.size (fun k_ => some k_ ≠ (.slice Ao14 t321.length co14 : Value).ownBlock ∧ some k_ ≠ (.slice Ao25 t336.length co25 : Value).ownBlock ∧ some k_ ≠ (v329 : Value).ownBlock) (.slice Ao139 t343.length co139) t363) := ⟨by rw [← hq_]; exact (by (with_reducible repeat (first | apply Kd.R_alloc | apply Kd.R_drewN | apply Kd.R_drew)); exact Kd.R_mono HO_11.out (fun _ hk => by first | exact ⟨hk.2.1, ⟨hk.2.2, hk.1⟩⟩ | grind))⟩; have n1_ : Aside0 (Kd.R (Kd.int .i64) 3 w142 w.heap.size (fun k_ => some k_ ≠ (.slice Ao139 t343.length co139 : Value).ownBlock ∧ some k_ ≠ (.slice Ao25 t336.length co25 : Value).ownBlock ∧ some k_ ≠ (v329 : Value).ownBlock) (.slice Ao14 t321.length co14) t321) := ⟨by rw [← hq_]; exact (by (with_reducible repeat (first | apply Kd.R_alloc | apply Kd.R_drewN | apply Kd.R_drew)); exact Kd.R_mono HO_332000.out (fun _ hk => by first | exact ⟨hk.2.1, ⟨hk.2.2, hk.1⟩⟩ | grind))⟩; have n2_ : Aside0 (Kd.R (Kd.int .i64) 3 w142 w.heap.size (fun k_ => some k_ ≠ (.slice Ao139 t343.length co139 : Value).ownBlock ∧ some k_ ≠ (.slice Ao14 t321.length co14 : Value).ownBlock ∧ some k_ ≠ (v329 : Value).ownBlock) (.slice Ao25 t336.length co25) t361) := ⟨by rw [← hq_]; exact (by (with_reducible repeat (first | apply Kd.R_alloc | apply Kd.R_drewN | apply Kd.R_drew)); exact Kd.R_mono HO_347000.out (fun _ hk => by first | exact ⟨hk.2.1, ⟨hk.2.2, hk.1⟩⟩ | grind))⟩; have n3_ : Aside0 (Kd.R (Kd.int .i64) 3 w142 w.heap.size (fun k_ => some k_ ≠ (.slice Ao139 t343.length co139 : Value).ownBlock ∧ some k_ ≠ (.slice Ao14 t321.length co14 : Value).ownBlock ∧ some k_ ≠ (.slice Ao25 t336.length co25 : Value).ownBlock) v329 t328) := ⟨by rw [← hq_]; exact (ur_ HO_7.out)⟩; have n4_ : Aside0 (w142.heap[gb331]? = some (.cells #[.slice Ao14 t321.length co14, .int .i64 t324, .int .i64 t325] 24 (0, 0))) := ⟨by rw [← hq_]; exact (ub_ BK331.out)⟩; have n5_ : Aside0 (w142.heap[gb332]? = some (.cells #[.int .i64 t326, .int .i64 t327] 26 (0, 0))) := ⟨by rw [← hq_]; exact (ub_ BK332.out)⟩; have n6_ : Aside0 (w142.heap[gb346]? = some (.cells #[.slice Ao25 t336.length co25, .int .i64 t339, .int .i64 t340] 24 (0, 0))) := ⟨by rw [← hq_]; exact (ub_ BK346.out)⟩; have n7_ : Aside0 (w142.heap[gb347]? = some (.cells #[.int .i64 t341, .int .i64 t342] 26 (0, 0))) := ⟨by rw [← hq_]; exact (ub_ BK347.out)⟩; have n8_ : Aside0 (Below w.heap.size w w142) := ⟨by rw [← hq_]; exact (ue_ HB.out)⟩; clear HO_11 HO_332000 HO_347000 HO_7 BK331 BK332 BK346 BK347 HB hq_; have HO_11 := n0_; have HO_332000 := n1_; have HO_347000 := n2_; have HO_7 := n3_; have BK331 := n4_; have BK332 := n5_; have BK346 := n6_; have BK347 := n7_; have HB := n8_; clear n0_ n1_ n2_ n3_ n4_ n5_ n6_ n7_ n8_))) | ((with_reducible refine gate_callee (f := 15) rfl ?_); refine goesL_ (some 104) rfl rfl Try.func15 (by kernel_rfl) rfl #[.slice A1 l1.length c1] rfl ul_ ?_; (with_reducible refine (laws_toIntS.calls kj78 _ _ l1 t366 _ ?side1 ?side2 A131.out).mono ?_); (case side1 => repeat (first | exact (Kd.C_below HR1.out HB.out) | (with_reducible refine Kd.C_alloc ?_ _) | (with_reducible refine Kd.C_drewN ?_ _) | (with_reducible refine Kd.C_drew ?_))); (case side2 => exact HC1.out); rintro e w143 ⟨v367, rfl, ho0, hb⟩; refine ⟨_, rfl, ?_⟩; have n0_ := Aside0.mk (Kd.R_elder' (ur_ HO_7.out) (Kd.R_base ho0) hb); have n1_ := Aside0.mk (Kd.R_elder' (ur_ HO_11.out) (Kd.R_base ho0) hb); have n2_ := Aside0.mk (Kd.R_elder' (ur_ HO_332000.out) (Kd.R_base ho0) hb); have n3_ := Aside0.mk (Kd.R_elder' (ur_ HO_347000.out) (Kd.R_base ho0) hb); have n4_ := Aside0.mk (Kd.R_lower (Kd.R_new' (Kd.R_new' (Kd.R_new' (Kd.R_new' ho0 (Kd.R_lt (ur_ HO_7.out))) (Kd.R_lt (ur_ HO_11.out))) (Kd.R_lt (ur_ HO_332000.out))) (Kd.R_lt (ur_ HO_347000.out))) (below_size (ue_ HB.out))); have n5_ := Aside0.mk (blk_below (g := gb331) (o := .cells #[.slice Ao14 t321.length co14, .int .i64 t324, .int .i64 t325] 24 (0, 0)) (ub_ BK331.out) hb); have n6_ := Aside0.mk (blk_below (g := gb332) (o := .cells #[.int .i64 t326, .int .i64 t327] 26 (0, 0)) (ub_ BK332.out) hb); have n7_ := Aside0.mk (blk_below (g := gb346) (o := .cells #[.slice Ao25 t336.length co25, .int .i64 t339, .int .i64 t340] 24 (0, 0)) (ub_ BK346.out) hb); have n8_ := Aside0.mk (blk_below (g := gb347) (o := .cells #[.int .i64 t341, .int .i64 t342] 26 (0, 0)) (ub_ BK347.out) hb); have n9_ := Aside0.mk (below_step (ue_ HB.out) hb); clear HO_7; clear HO_11; clear HO_332000; clear HO_347000; clear BK331; clear BK332; clear BK346; clear BK347; clear HB; have HO_7 := n0_; have HO_11 := n1_; have HO_332000 := n2_; have HO_347000 := n3_; have HO368 := n4_; have BK331 := n5_; have BK332 := n6_; have BK346 := n7_; have BK347 := n8_; have HB := n9_; clear n0_ n1_ n2_ n3_ n4_ n5_ n6_ n7_ n8_ n9_; (try clear hb); (try clear hb2); (try clear hk); (try clear hi); (try clear ho0); obtain ⟨Ao144, co144, eo144⟩ := Kd.R_slice HO368.out; subst eo144) | ((with_reducible refine gate_callee (f := 16) rfl ?_); refine goesL_ (some 105) rfl rfl Try.func16 (by kernel_rfl) rfl #[.int .i64 a0, .slice Ao144 t366.length co144] rfl ul_ ?_; (with_reducible refine (impl_PlayLink.calls kj78 a0 _ _ t366 t369 t372 t373 t374 t375 t376 _ ?side1 ?side2 A132.out).mono ?_); (case side1 => repeat (first | exact (Kd.R_reads' HO368.out).2.2 | (with_reducible refine Kd.C_alloc ?_ _) | (with_reducible refine Kd.C_drewN ?_ _) | (with_reducible refine Kd.C_drew ?_))); (case side2 => exact (Kd.R_reads' HO368.out).2.1); rintro e w145 ⟨v370, v377, rfl, ho0, ho1, hb⟩; refine ⟨_, rfl, ?_⟩; have n0_ := Aside0.mk (Kd.R_mono (Kd.R_told (Kd.R_told (Kd.R_old (ur_ HO_7.out) hb) (Kd.R_base ho0)) (Kd.R_base ho1)) (fun _ h_ => h_.1)); have n1_ := Aside0.mk (Kd.R_mono (Kd.R_told (Kd.R_told (Kd.R_old (ur_ HO_11.out) hb) (Kd.R_base ho0)) (Kd.R_base ho1)) (fun _ h_ => h_.1)); have n2_ := Aside0.mk (Kd.R_mono (Kd.R_told (Kd.R_told (Kd.R_old (ur_ HO_332000.out) hb) (Kd.R_base ho0)) (Kd.R_base ho1)) (fun _ h_ => h_.1)); have n3_ := Aside0.mk (Kd.R_mono (Kd.R_told (Kd.R_told (Kd.R_old (ur_ HO_347000.out) hb) (Kd.R_base ho0)) (Kd.R_base ho1)) (fun _ h_ => h_.1)); have n4_ := Aside0.mk (Kd.R_mono (Kd.R_told (Kd.R_told (Kd.R_old (ur_ HO368.out) hb) (Kd.R_base ho0)) (Kd.R_base ho1)) (fun _ h_ => h_.1)); have n5_ := Aside0.mk (Kd.R_lower (Kd.R_new' (Kd.R_new' (Kd.R_new' (Kd.R_new' (Kd.R_new' ho0 (Kd.R_lt (ur_ HO_7.out))) (Kd.R_lt (ur_ HO_11.out))) (Kd.R_lt (ur_ HO_332000.out))) (Kd.R_lt (ur_ HO_347000.out))) (Kd.R_lt (ur_ HO368.out))) (below_size (ue_ HB.out))); have n6_ := Aside0.mk (Kd.R_lower (Kd.R_new' (Kd.R_new' (Kd.R_new' (Kd.R_new' (Kd.R_new' ho1 (Kd.R_lt (ur_ HO_7.out))) (Kd.R_lt (ur_ HO_11.out))) (Kd.R_lt (ur_ HO_332000.out))) (Kd.R_lt (ur_ HO_347000.out))) (Kd.R_lt (ur_ HO368.out))) (below_size (ue_ HB.out))); have n7_ := Aside0.mk (blk_below (g := gb331) (o := .cells #[.slice Ao14 t321.length co14, .int .i64 t324, .int .i64 t325] 24 (0, 0)) (ub_ BK331.out) hb); have n8_ := Aside0.mk (blk_below (g := gb332) (o := .cells #[.int .i64 t326, .int .i64 t327] 26 (0, 0)) (ub_ BK332.out) hb); have n9_ := Aside0.mk (blk_below (g := gb346) (o := .cells #[.slice Ao25 t336.length co25, .int .i64 t339, .int .i64 t340] 24 (0, 0)) (ub_ BK346.out) hb); have n10_ := Aside0.mk (blk_below (g := gb347) (o := .cells #[.int .i64 t341, .int .i64 t342] 26 (0, 0)) (ub_ BK347.out) hb); have n11_ := Aside0.mk (below_step (ue_ HB.out) hb); clear HO_7; clear HO_11; clear HO_332000; clear HO_347000; clear HO368; clear BK331; clear BK332; clear BK346; clear BK347; clear HB; have HO_7 := n0_; have HO_11 := n1_; have HO_332000 := n2_; have HO_347000 := n3_; have HO368 := n4_; have HO371 := n5_; have HO378 := n6_; have BK331 := n7_; have BK332 := n8_; have BK346 := n9_; have BK347 := n10_; have HB := n11_; clear n0_ n1_ n2_ n3_ n4_ n5_ n6_ n7_ n8_ n9_ n10_ n11_; (try clear hb); (try clear hb2); (try clear hk); (try clear hi); (try clear ho0); (try clear ho1)) | ((with_reducible refine gate_dst (N := 15) rfl ?_); refine box_event ?hg (N := 15) ?hd (cs := #[.slice none 0 0, .int .i64 0, .int .i64 0]) (t := 24) ?hr ?_; (case hd => rfl); (case hg => rfl); (case hr => first | (go_simp; done) | (go_simp; rfl)); intro gb379 hg w146 hbox hb; have n0_ := Aside0.mk (Kd.R_below (ur_ HO_7.out) hb); have n1_ := Aside0.mk (Kd.R_below (ur_ HO_11.out) hb); have n2_ := Aside0.mk (Kd.R_below (ur_ HO_332000.out) hb); have n3_ := Aside0.mk (Kd.R_below (ur_ HO_347000.out) hb); have n4_ := Aside0.mk (Kd.R_below (ur_ HO368.out) hb); have n5_ := Aside0.mk (Kd.R_below (ur_ HO371.out) hb); have n6_ := Aside0.mk (Kd.R_below (ur_ HO378.out) hb); have n7_ := Aside0.mk (blk_below (g := gb331) (o := .cells #[.slice Ao14 t321.length co14, .int .i64 t324, .int .i64 t325] 24 (0, 0)) (ub_ BK331.out) hb); have n8_ := Aside0.mk (blk_below (g := gb332) (o := .cells #[.int .i64 t326, .int .i64 t327] 26 (0, 0)) (ub_ BK332.out) hb); have n9_ := Aside0.mk (blk_below (g := gb346) (o := .cells #[.slice Ao25 t336.length co25, .int .i64 t339, .int .i64 t340] 24 (0, 0)) (ub_ BK346.out) hb); have n10_ := Aside0.mk (blk_below (g := gb347) (o := .cells #[.int .i64 t341, .int .i64 t342] 26 (0, 0)) (ub_ BK347.out) hb); have n11_ := Aside0.mk (below_step (ue_ HB.out) hb); have n12_ := Aside0.mk (hbox); have n13_ := Aside0.mk ((by rw [hg]; exact (below_size (ue_ HB.out)) : w.heap.size ≤ gb379)); have n14_ := Aside0.mk ((by rw [hg]; exact (below_size (ue_ HB.out)) : w.heap.size ≤ gb379)); have n15_ := Aside0.mk ((by rw [hg]; exact Nat.ne_of_lt (blk_lt (g := gb331) (o := .cells #[.slice Ao14 t321.length co14, .int .i64 t324, .int .i64 t325] 24 (0, 0)) (ub_ BK331.out)) : gb331 ≠ gb379)); have n16_ := Aside0.mk ((by rw [hg]; exact Nat.ne_of_gt (blk_lt (g := gb331) (o := .cells #[.slice Ao14 t321.length co14, .int .i64 t324, .int .i64 t325] 24 (0, 0)) (ub_ BK331.out)) : gb379 ≠ gb331)); have n17_ := Aside0.mk ((by rw [hg]; exact Nat.ne_of_lt (blk_lt (g := gb332) (o := .cells #[.int .i64 t326, .int .i64 t327] 26 (0, 0)) (ub_ BK332.out)) : gb332 ≠ gb379)); have n18_ := Aside0.mk ((by rw [hg]; exact Nat.ne_of_gt (blk_lt (g := gb332) (o := .cells #[.int .i64 t326, .int .i64 t327] 26 (0, 0)) (ub_ BK332.out)) : gb379 ≠ gb332)); have n19_ := Aside0.mk ((by rw [hg]; exact Nat.ne_of_lt (blk_lt (g := gb346) (o := .cells #[.slice Ao25 t336.length co25, .int .i64 t339, .int .i64 t340] 24 (0, 0)) (ub_ BK346.out)) : gb346 ≠ gb379)); have n20_ := Aside0.mk ((by rw [hg]; exact Nat.ne_of_gt (blk_lt (g := gb346) (o := .cells #[.slice Ao25 t336.length co25, .int .i64 t339, .int .i64 t340] 24 (0, 0)) (ub_ BK346.out)) : gb379 ≠ gb346)); have n21_ := Aside0.mk ((by rw [hg]; exact Nat.ne_of_lt (blk_lt (g := gb347) (o := .cells #[.int .i64 t341, .int .i64 t342] 26 (0, 0)) (ub_ BK347.out)) : gb347 ≠ gb379)); have n22_ := Aside0.mk ((by rw [hg]; exact Nat.ne_of_gt (blk_lt (g := gb347) (o := .cells #[.int .i64 t341, .int .i64 t342] 26 (0, 0)) (ub_ BK347.out)) : gb379 ≠ gb347)); clear HO_7; clear HO_11; clear HO_332000; clear HO_347000; clear HO368; clear HO371; clear HO378; clear BK331; clear BK332; clear BK346; clear BK347; clear HB; have HO_7 := n0_; have HO_11 := n1_; have HO_332000 := n2_; have HO_347000 := n3_; have HO368 := n4_; have HO371 := n5_; have HO378 := n6_; have BK331 := n7_; have BK332 := n8_; have BK346 := n9_; have BK347 := n10_; have HB := n11_; have BK379 := n12_; have GW379 := n13_; have GE379 := n14_; have NB331_379 := n15_; have NB379_331 := n16_; have NB332_379 := n17_; have NB379_332 := n18_; have NB346_379 := n19_; have NB379_346 := n20_; have NB347_379 := n21_; have NB379_347 := n22_; clear n0_ n1_ n2_ n3_ n4_ n5_ n6_ n7_ n8_ n9_ n10_ n11_ n12_ n13_ n14_ n15_ n16_ n17_ n18_ n19_ n20_ n21_ n22_; clear hb hbox hg) | ((with_reducible refine gate_dst (N := 16) rfl ?_); refine box_event ?hg (N := 16) ?hd (cs := #[.int .i64 0, .int .i64 0]) (t := 26) ?hr ?_; (case hd => rfl); (case hg => rfl); (case hr => first | (go_simp; done) | (go_simp; rfl)); intro gb380 hg w147 hbox hb; have n0_ := Aside0.mk (Kd.R_below (ur_ HO_7.out) hb); have n1_ := Aside0.mk (Kd.R_below (ur_ HO_11.out) hb); have n2_ := Aside0.mk (Kd.R_below (ur_ HO_332000.out) hb); have n3_ := Aside0.mk (Kd.R_below (ur_ HO_347000.out) hb); have n4_ := Aside0.mk (Kd.R_below (ur_ HO368.out) hb); have n5_ := Aside0.mk (Kd.R_below (ur_ HO371.out) hb); have n6_ := Aside0.mk (Kd.R_below (ur_ HO378.out) hb); have n7_ := Aside0.mk (blk_below (g := gb331) (o := .cells #[.slice Ao14 t321.length co14, .int .i64 t324, .int .i64 t325] 24 (0, 0)) (ub_ BK331.out) hb); have n8_ := Aside0.mk (blk_below (g := gb332) (o := .cells #[.int .i64 t326, .int .i64 t327] 26 (0, 0)) (ub_ BK332.out) hb); have n9_ := Aside0.mk (blk_below (g := gb346) (o := .cells #[.slice Ao25 t336.length co25, .int .i64 t339, .int .i64 t340] 24 (0, 0)) (ub_ BK346.out) hb); have n10_ := Aside0.mk (blk_below (g := gb347) (o := .cells #[.int .i64 t341, .int .i64 t342] 26 (0, 0)) (ub_ BK347.out) hb); have n11_ := Aside0.mk (blk_below (g := gb379) (o := .cells #[.slice none 0 0, .int .i64 0, .int .i64 0] 24 (0, 0)) (ub_ BK379.out) hb); have n12_ := Aside0.mk (below_step (ue_ HB.out) hb); have n13_ := Aside0.mk (hbox); have n14_ := Aside0.mk ((by rw [hg]; exact (below_size (ue_ HB.out)) : w.heap.size ≤ gb380)); have n15_ := Aside0.mk ((by rw [hg]; exact (below_size (ue_ HB.out)) : w.heap.size ≤ gb380)); have n16_ := Aside0.mk ((by rw [hg]; exact Nat.ne_of_lt (blk_lt (g := gb331) (o := .cells #[.slice Ao14 t321.length co14, .int .i64 t324, .int .i64 t325] 24 (0, 0)) (ub_ BK331.out)) : gb331 ≠ gb380)); have n17_ := Aside0.mk ((by rw [hg]; exact Nat.ne_of_gt (blk_lt (g := gb331) (o := .cells #[.slice Ao14 t321.length co14, .int .i64 t324, .int .i64 t325] 24 (0, 0)) (ub_ BK331.out)) : gb380 ≠ gb331)); have n18_ := Aside0.mk ((by rw [hg]; exact Nat.ne_of_lt (blk_lt (g := gb332) (o := .cells #[.int .i64 t326, .int .i64 t327] 26 (0, 0)) (ub_ BK332.out)) : gb332 ≠ gb380)); have n19_ := Aside0.mk ((by rw [hg]; exact Nat.ne_of_gt (blk_lt (g := gb332) (o := .cells #[.int .i64 t326, .int .i64 t327] 26 (0, 0)) (ub_ BK332.out)) : gb380 ≠ gb332)); have n20_ := Aside0.mk ((by rw [hg]; exact Nat.ne_of_lt (blk_lt (g := gb346) (o := .cells #[.slice Ao25 t336.length co25, .int .i64 t339, .int .i64 t340] 24 (0, 0)) (ub_ BK346.out)) : gb346 ≠ gb380)); have n21_ := Aside0.mk ((by rw [hg]; exact Nat.ne_of_gt (blk_lt (g := gb346) (o := .cells #[.slice Ao25 t336.length co25, .int .i64 t339, .int .i64 t340] 24 (0, 0)) (ub_ BK346.out)) : gb380 ≠ gb346)); have n22_ := Aside0.mk ((by rw [hg]; exact Nat.ne_of_lt (blk_lt (g := gb347) (o := .cells #[.int .i64 t341, .int .i64 t342] 26 (0, 0)) (ub_ BK347.out)) : gb347 ≠ gb380)); have n23_ := Aside0.mk ((by rw [hg]; exact Nat.ne_of_gt (blk_lt (g := gb347) (o := .cells #[.int .i64 t341, .int .i64 t342] 26 (0, 0)) (ub_ BK347.out)) : gb380 ≠ gb347)); have n24_ := Aside0.mk ((by rw [hg]; exact Nat.ne_of_lt (blk_lt (g := gb379) (o := .cells #[.slice none 0 0, .int .i64 0, .int .i64 0] 24 (0, 0)) (ub_ BK379.out)) : gb379 ≠ gb380)); have n25_ := Aside0.mk ((by rw [hg]; exact Nat.ne_of_gt (blk_lt (g := gb379) (o := .cells #[.slice none 0 0, .int .i64 0, .int .i64 0] 24 (0, 0)) (ub_ BK379.out)) : gb380 ≠ gb379)); clear HO_7; clear HO_11; clear HO_332000; clear HO_347000; clear HO368; clear HO371; clear HO378; clear BK331; clear BK332; clear BK346; clear BK347; clear BK379; clear HB; have HO_7 := n0_; have HO_11 := n1_; have HO_332000 := n2_; have HO_347000 := n3_; have HO368 := n4_; have HO371 := n5_; have HO378 := n6_; have BK331 := n7_; have BK332 := n8_; have BK346 := n9_; have BK347 := n10_; have BK379 := n11_; have HB := n12_; have BK380 := n13_; have GW380 := n14_; have GE380 := n15_; have NB331_380 := n16_; have NB380_331 := n17_; have NB332_380 := n18_; have NB380_332 := n19_; have NB346_380 := n20_; have NB380_346 := n21_; have NB347_380 := n22_; have NB380_347 := n23_; have NB379_380 := n24_; have NB380_379 := n25_; clear n0_ n1_ n2_ n3_ n4_ n5_ n6_ n7_ n8_ n9_ n10_ n11_ n12_ n13_ n14_ n15_ n16_ n17_ n18_ n19_ n20_ n21_ n22_ n23_ n24_ n25_; clear hb hbox hg; obtain ⟨Ao148, co148, eo148⟩ := Kd.R_slice HO371.out; subst eo148; have hnb149 := NB379_331.out; have hnc149 := NB331_379.out; have hnb150 := NB379_332.out; have hnc150 := NB332_379.out; have hnb151 := NB379_346.out; have hnc151 := NB346_379.out; have hnb152 := NB379_347.out; have hnc152 := NB347_379.out; have hnb153 := NB379_380.out; have hnc153 := NB380_379.out; have hcz154_0 : w147.cell? ⟨gb379, 0, none⟩ = some (.slice none 0 0) := (blk_cell BK379.out 0).trans rfl; have hcz154_1 : w147.cell? ⟨gb379, 1, none⟩ = some (.int .i64 0) := (blk_cell BK379.out 1).trans rfl; have hcz154_2 : w147.cell? ⟨gb379, 2, none⟩ = some (.int .i64 0) := (blk_cell BK379.out 2).trans rfl; have hfz154_0 := blk_frozen BK379.out 0; have hfz154_1 := blk_frozen BK379.out 1; have hfz154_2 := blk_frozen BK379.out 2) | ((with_reducible refine gate_store (t := 24) (p := 15) rfl ?_); refine store_event (t := 24) (p := 15) (v := ?vo_w155) (w1 := (((w147.setCell ⟨gb379, 0, none⟩ (.slice Ao148 t369.length co148)).setCell ⟨gb379, 1, none⟩ (.int .i64 t372)).setCell ⟨gb379, 2, none⟩ (.int .i64 t373))) ?hg ?ho ?hn ?hr ?_; (case ho => rfl); (case hg => rfl); (case hn => rfl); (case hr => first | (go_simp; done) | (go_simp; rfl)); intro w155 hw; have n0_ : Aside0 (Kd.R (Kd.int .i64) 3 w155 w.heap.size (fun k_ => some k_ ≠ (.slice Ao139 t343.length co139 : Value).ownBlock ∧ some k_ ≠ (.slice Ao14 t321.length co14 : Value).ownBlock ∧ some k_ ≠ (.slice Ao25 t336.length co25 : Value).ownBlock ∧ some k_ ≠ (.slice Ao144 t366.length co144 : Value).ownBlock ∧ some k_ ≠ (.slice Ao148 t369.length co148 : Value).ownBlock ∧ some k_ ≠ (v377 : Value).ownBlock) v329 t328) := ⟨(by rw [hw]; exact (by (with_reducible repeat (first | apply Kd.R_alloc | apply Kd.R_drewN | apply Kd.R_drew)); exact Kd.R_mono (Kd.R_far (p := ⟨gb379, 2, none⟩) (Kd.R_far (p := ⟨gb379, 1, none⟩) (Kd.R_far (p := ⟨gb379, 0, none⟩) (Kd.R_types HO_7.out BK379.out (by decide)) (fun _ hk => by first | exact hk.2 | grind) (.slice Ao148 t369.length co148)) (fun _ hk => by first | exact hk.2 | grind) (.int .i64 t372)) (fun _ hk => by first | exact hk.2 | grind) (.int .i64 t373)) (fun _ hk => by first | exact ⟨hk.1.1.1.1.1, ⟨hk.1.1.1.1.2.1, ⟨hk.1.1.1.1.2.2, ⟨hk.1.1.1.2, ⟨hk.1.1.2, hk.1.2⟩⟩⟩⟩⟩ | grind)))⟩; have n1_ : Aside0 (Kd.R (Kd.int .i64) 3 w155 w.heap.size (fun k_ => some k_ ≠ (v329 : Value).ownBlock ∧ some k_ ≠ (.slice Ao14 t321.length co14 : Value).ownBlock ∧ some k_ ≠ (.slice Ao25 t336.length co25 : Value).ownBlock ∧ some k_ ≠ (.slice Ao144 t366.length co144 : Value).ownBlock ∧ some k_ ≠ (.slice Ao148 t369.length co148 : Value).ownBlock ∧ some k_ ≠ (v377 : Value).ownBlock) (.slice Ao139 t343.length co139) t363) := ⟨(by rw [hw]; exact (by (with_reducible repeat (first | apply Kd.R_alloc | apply Kd.R_drewN | apply Kd.R_drew)); exact Kd.R_mono (Kd.R_far (p := ⟨gb379, 2, none⟩) (Kd.R_far (p := ⟨gb379, 1, none⟩) (Kd.R_far (p := ⟨gb379, 0, none⟩) (Kd.R_types HO_11.out BK379.out (by decide)) (fun _ hk => by first | exact hk.2 | grind) (.slice Ao148 t369.length co148)) (fun _ hk => by first | exact hk.2 | grind) (.int .i64 t372)) (fun _ hk => by first | exact hk.2 | grind) (.int .i64 t373)) (fun _ hk => by first | exact ⟨hk.1.1.1.1.1, ⟨hk.1.1.1.1.2.1, ⟨hk.1.1.1.1.2.2, ⟨hk.1.1.1.2, ⟨hk.1.1.2, hk.1.2⟩⟩⟩⟩⟩ | grind)))⟩; have n2_ : Aside0 (Kd.R (Kd.int .i64) 3 w155 w.heap.size (fun k_ => some k_ ≠ (v329 : Value).ownBlock ∧ some k_ ≠ (.slice Ao139 t343.length co139 : Value).ownBlock ∧ some k_ ≠ (.slice Ao25 t336.length co25 : Value).ownBlock ∧ some k_ ≠ (.slice Ao144 t366.length co144 : Value).ownBlock ∧ some k_ ≠ (.slice Ao148 t369.length co148 : Value).ownBlock ∧ some k_ ≠ (v377 : Value).ownBlock) (.slice Ao14 t321.length co14) t321) := ⟨(by rw [hw]; exact (by (with_reducible repeat (first | apply Kd.R_alloc | apply Kd.R_drewN | apply Kd.R_drew)); exact Kd.R_mono (Kd.R_far (p := ⟨gb379, 2, none⟩) (Kd.R_far (p := ⟨gb379, 1, none⟩) (Kd.R_far (p := ⟨gb379, 0, none⟩) (Kd.R_types HO_332000.out BK379.out (by decide)) (fun _ hk => by first | exact hk.2 | grind) (.slice Ao148 t369.length co148)) (fun _ hk => by first | exact hk.2 | grind) (.int .i64 t372)) (fun _ hk => by first | exact hk.2 | grind) (.int .i64 t373)) (fun _ hk => by first | exact ⟨hk.1.1.1.1.1, ⟨hk.1.1.1.1.2.1, ⟨hk.1.1.1.1.2.2, ⟨hk.1.1.1.2, ⟨hk.1.1.2, hk.1.2⟩⟩⟩⟩⟩ | grind)))⟩; have n3_ : Aside0 (Kd.R (Kd.int .i64) 3 w155 w.heap.size (fun k_ => some k_ ≠ (v329 : Value).ownBlock ∧ some k_ ≠ (.slice Ao139 t343.length co139 : Value).ownBlock ∧ some k_ ≠ (.slice Ao14 t321.length co14 : Value).ownBlock ∧ some k_ ≠ (.slice Ao144 t366.length co144 : Value).ownBlock ∧ some k_ ≠ (.slice Ao148 t369.length co148 : Value).ownBlock ∧ some k_ ≠ (v377 : Value).ownBlock) (.slice Ao25 t336.length co25) t361) := ⟨(by rw [hw]; exact (by (with_reducible repeat (first | apply Kd.R_alloc | apply Kd.R_drewN | apply Kd.R_drew)); exact Kd.R_mono (Kd.R_far (p := ⟨gb379, 2, none⟩) (Kd.R_far (p := ⟨gb379, 1, none⟩) (Kd.R_far (p := ⟨gb379, 0, none⟩) (Kd.R_types HO_347000.out BK379.out (by decide)) (fun _ hk => by first | exact hk.2 | grind) (.slice Ao148 t369.length co148)) (fun _ hk => by first | exact hk.2 | grind) (.int .i64 t372)) (fun _ hk => by first | exact hk.2 | grind) (.int .i64 t373)) (fun _ hk => by first | exact ⟨hk.1.1.1.1.1, ⟨hk.1.1.1.1.2.1, ⟨hk.1.1.1.1.2.2, ⟨hk.1.1.1.2, ⟨hk.1.1.2, hk.1.2⟩⟩⟩⟩⟩ | grind)))⟩; have n4_ : Aside0 (Kd.R (Kd.int .i64) 3 w155 w.heap.size (fun k_ => some k_ ≠ (v329 : Value).ownBlock ∧ some k_ ≠ (.slice Ao139 t343.length co139 : Value).ownBlock ∧ some k_ ≠ (.slice Ao14 t321.length co14 : Value).ownBlock ∧ some k_ ≠ (.slice Ao25 t336.length co25 : Value).ownBlock ∧ some k_ ≠ (.slice Ao148 t369.length co148 : Value).ownBlock ∧ some k_ ≠ (v377 : Value).ownBlock) (.slice Ao144 t366.length co144) t366) := ⟨(by rw [hw]; exact (by (with_reducible repeat (first | apply Kd.R_alloc | apply Kd.R_drewN | apply Kd.R_drew)); exact Kd.R_mono (Kd.R_far (p := ⟨gb379, 2, none⟩) (Kd.R_far (p := ⟨gb379, 1, none⟩) (Kd.R_far (p := ⟨gb379, 0, none⟩) (Kd.R_types HO368.out BK379.out (by decide)) (fun _ hk => by first | exact hk.2 | grind) (.slice Ao148 t369.length co148)) (fun _ hk => by first | exact hk.2 | grind) (.int .i64 t372)) (fun _ hk => by first | exact hk.2 | grind) (.int .i64 t373)) (fun _ hk => by first | exact ⟨hk.1.1.1.1.1.1.2, ⟨hk.1.1.1.1.1.2, ⟨hk.1.1.1.1.2, ⟨hk.1.1.1.2, ⟨hk.1.1.2, hk.1.2⟩⟩⟩⟩⟩ | grind)))⟩; have n5_ : Aside0 (Kd.R (Kd.int .i64) 3 w155 w.heap.size (fun k_ => some k_ ≠ (v329 : Value).ownBlock ∧ some k_ ≠ (.slice Ao139 t343.length co139 : Value).ownBlock ∧ some k_ ≠ (.slice Ao14 t321.length co14 : Value).ownBlock ∧ some k_ ≠ (.slice Ao25 t336.length co25 : Value).ownBlock ∧ some k_ ≠ (.slice Ao144 t366.length co144 : Value).ownBlock ∧ some k_ ≠ (v377 : Value).ownBlock) (.slice Ao148 t369.length co148) t369) := ⟨(by rw [hw]; exact (by (with_reducible repeat (first | apply Kd.R_alloc | apply Kd.R_drewN | apply Kd.R_drew)); exact Kd.R_mono (Kd.R_far (p := ⟨gb379, 2, none⟩) (Kd.R_far (p := ⟨gb379, 1, none⟩) (Kd.R_far (p := ⟨gb379, 0, none⟩) (Kd.R_types HO371.out BK379.out (by decide)) (fun _ hk => by first | exact hk.2 | grind) (.slice Ao148 t369.length co148)) (fun _ hk => by first | exact hk.2 | grind) (.int .i64 t372)) (fun _ hk => by first | exact hk.2 | grind) (.int .i64 t373)) (fun _ hk => by first | exact ⟨hk.1.1.1.1.1.2, ⟨hk.1.1.1.1.2, ⟨hk.1.1.1.2, ⟨hk.1.1.2, ⟨hk.1.2, hk.1.1.1.1.1.1⟩⟩⟩⟩⟩ | grind)))⟩; have n6_ : Aside0 (Kd.R (Kd.int .i64) 3 w155 w.heap.size (fun k_ => some k_ ≠ (v329 : Value).ownBlock ∧ some k_ ≠ (.slice Ao139 t343.length co139 : Value).ownBlock ∧ some k_ ≠ (.slice Ao14 t321.length co14 : Value).ownBlock ∧ some k_ ≠ (.slice Ao25 t336.length co25 : Value).ownBlock ∧ some k_ ≠ (.slice Ao144 t366.length co144 : Value).ownBlock ∧ some k_ ≠ (.slice Ao148 t369.length co148 : Value).ownBlock) v377 t376) := ⟨(by rw [hw]; exact (by (with_reducible repeat (first | apply Kd.R_alloc | apply Kd.R_drewN | apply Kd.R_drew)); exact Kd.R_mono (Kd.R_far (p := ⟨gb379, 2, none⟩) (Kd.R_far (p := ⟨gb379, 1, none⟩) (Kd.R_far (p := ⟨gb379, 0, none⟩) (Kd.R_types HO378.out BK379.out (by decide)) (fun _ hk => by first | exact hk.2 | grind) (.slice Ao148 t369.length co148)) (fun _ hk => by first | exact hk.2 | grind) (.int .i64 t372)) (fun _ hk => by first | exact hk.2 | grind) (.int .i64 t373)) (fun _ hk => by first | exact ⟨hk.1.1.1.1.1.2, ⟨hk.1.1.1.1.2, ⟨hk.1.1.1.2, ⟨hk.1.1.2, ⟨hk.1.2, hk.1.1.1.1.1.1⟩⟩⟩⟩⟩ | grind)))⟩; have n7_ : Aside0 (w155.heap[gb331]? = some (.cells #[.slice Ao14 t321.length co14, .int .i64 t324, .int .i64 t325] 24 (0, 0))) := ⟨(by rw [hw]; exact (by (with_reducible repeat (first | refine blk_drewN ?_ _ | refine blk_drew ?_ | refine blk_alloc ?_ _)); refine blk_far ?_ NB331_379.out _; (with_reducible repeat (first | refine blk_drewN ?_ _ | refine blk_drew ?_ | refine blk_alloc ?_ _)); refine blk_far ?_ NB331_379.out _; (with_reducible repeat (first | refine blk_drewN ?_ _ | refine blk_drew ?_ | refine blk_alloc ?_ _)); refine blk_far ?_ NB331_379.out _; (with_reducible repeat (first | refine blk_drewN ?_ _ | refine blk_drew ?_ | refine blk_alloc ?_ _)); exact BK331.out))⟩; have n8_ : Aside0 (w155.heap[gb332]? = some (.cells #[.int .i64 t326, .int .i64 t327] 26 (0, 0))) := ⟨(by rw [hw]; exact (by (with_reducible repeat (first | refine blk_drewN ?_ _ | refine blk_drew ?_ | refine blk_alloc ?_ _)); refine blk_far ?_ NB332_379.out _; (with_reducible repeat (first | refine blk_drewN ?_ _ | refine blk_drew ?_ | refine blk_alloc ?_ _)); refine blk_far ?_ NB332_379.out _; (with_reducible repeat (first | refine blk_drewN ?_ _ | refine blk_drew ?_ | refine blk_alloc ?_ _)); refine blk_far ?_ NB332_379.out _; (with_reducible repeat (first | refine blk_drewN ?_ _ | refine blk_drew ?_ | refine blk_alloc ?_ _)); exact BK332.out))⟩; have n9_ : Aside0 (w155.heap[gb346]? = some (.cells #[.slice Ao25 t336.length co25, .int .i64 t339, .int .i64 t340] 24 (0, 0))) := ⟨(by rw [hw]; exact (by (with_reducible repeat (first | refine blk_drewN ?_ _ | refine blk_drew ?_ | refine blk_alloc ?_ _)); refine blk_far ?_ NB346_379.out _; (with_reducible repeat (first | refine blk_drewN ?_ _ | refine blk_drew ?_ | refine blk_alloc ?_ _)); refine blk_far ?_ NB346_379.out _; (with_reducible repeat (first | refine blk_drewN ?_ _ | refine blk_drew ?_ | refine blk_alloc ?_ _)); refine blk_far ?_ NB346_379.out _; (with_reducible repeat (first | refine blk_drewN ?_ _ | refine blk_drew ?_ | refine blk_alloc ?_ _)); exact BK346.out))⟩; have n10_ : Aside0 (w155.heap[gb347]? = some (.cells #[.int .i64 t341, .int .i64 t342] 26 (0, 0))) := ⟨(by rw [hw]; exact (by (with_reducible repeat (first | refine blk_drewN ?_ _ | refine blk_drew ?_ | refine blk_alloc ?_ _)); refine blk_far ?_ NB347_379.out _; (with_reducible repeat (first | refine blk_drewN ?_ _ | refine blk_drew ?_ | refine blk_alloc ?_ _)); refine blk_far ?_ NB347_379.out _; (with_reducible repeat (first | refine blk_drewN ?_ _ | refine blk_drew ?_ | refine blk_alloc ?_ _)); refine blk_far ?_ NB347_379.out _; (with_reducible repeat (first | refine blk_drewN ?_ _ | refine blk_drew ?_ | refine blk_alloc ?_ _)); exact BK347.out))⟩; have n11_ : Aside0 (w155.heap[gb379]? = some (.cells #[.slice Ao148 t369.length co148, .int .i64 t372, .int .i64 t373] 24 (0, 0))) := ⟨(by rw [hw]; exact (by (with_reducible repeat (first | refine blk_drewN ?_ _ | refine blk_drew ?_ | refine blk_alloc ?_ _)); refine blk_put (cs := #[.slice Ao148 t369.length co148, .int .i64 t372, .int .i64 0]) ?_ 2 _ rfl; (with_reducible repeat (first | refine blk_drewN ?_ _ | refine blk_drew ?_ | refine blk_alloc ?_ _)); refine blk_put (cs := #[.slice Ao148 t369.length co148, .int .i64 0, .int .i64 0]) ?_ 1 _ rfl; (with_reducible repeat (first | refine blk_drewN ?_ _ | refine blk_drew ?_ | refine blk_alloc ?_ _)); refine blk_put (cs := #[.slice none 0 0, .int .i64 0, .int .i64 0]) ?_ 0 _ rfl; (with_reducible repeat (first | refine blk_drewN ?_ _ | refine blk_drew ?_ | refine blk_alloc ?_ _)); exact BK379.out))⟩; have n12_ : Aside0 (w155.heap[gb380]? = some (.cells #[.int .i64 0, .int .i64 0] 26 (0, 0))) := ⟨(by rw [hw]; exact (by (with_reducible repeat (first | refine blk_drewN ?_ _ | refine blk_drew ?_ | refine blk_alloc ?_ _)); refine blk_far ?_ NB380_379.out _; (with_reducible repeat (first | refine blk_drewN ?_ _ | refine blk_drew ?_ | refine blk_alloc ?_ _)); refine blk_far ?_ NB380_379.out _; (with_reducible repeat (first | refine blk_drewN ?_ _ | refine blk_drew ?_ | refine blk_alloc ?_ _)); refine blk_far ?_ NB380_379.out _; (with_reducible repeat (first | refine blk_drewN ?_ _ | refine blk_drew ?_ | refine blk_alloc ?_ _)); exact BK380.out))⟩; have n13_ : Aside0 (Below w.heap.size w w155) := ⟨(by rw [hw]; exact (ue_ HB.out))⟩; clear hw; clear HO_7; clear HO_11; clear HO_332000; clear HO_347000; clear HO368; clear HO371; clear HO378; clear BK331; clear BK332; clear BK346; clear BK347; clear BK379; clear BK380; clear HB; have HO_7 := n0_; have HO_11 := n1_; have HO_332000 := n2_; have HO_347000 := n3_; have HO368 := n4_; have HO371 := n5_; have HO378 := n6_; have BK331 := n7_; have BK332 := n8_; have BK346 := n9_; have BK347 := n10_; have BK379 := n11_; have BK380 := n12_; have HB := n13_; clear n0_ n1_ n2_ n3_ n4_ n5_ n6_ n7_ n8_ n9_ n10_ n11_ n12_ n13_; have hnb156 := NB380_331.out; have hnc156 := NB331_380.out; have hnb157 := NB380_332.out; have hnc157 := NB332_380.out; have hnb158 := NB380_346.out; have hnc158 := NB346_380.out; have hnb159 := NB380_347.out; have hnc159 := NB347_380.out; have hcz160_0 : w155.cell? ⟨gb380, 0, none⟩ = some (.int .i64 0) := (blk_cell BK380.out 0).trans rfl; have hcz160_1 : w155.cell? ⟨gb380, 1, none⟩ = some (.int .i64 0) := (blk_cell BK380.out 1).trans rfl; have hfz160_0 := blk_frozen BK380.out 0; have hfz160_1 := blk_frozen BK380.out 1) | ((with_reducible refine gate_store (t := 26) (p := 16) rfl ?_); refine store_event (t := 26) (p := 16) (v := ?vo_w161) (w1 := ((w155.setCell ⟨gb380, 0, none⟩ (.int .i64 t374)).setCell ⟨gb380, 1, none⟩ (.int .i64 t375))) ?hg ?ho ?hn ?hr ?_; (case ho => rfl); (case hg => rfl); (case hn => rfl); (case hr => first | (go_simp; done) | (go_simp; rfl)); intro w161 hw; have n0_ : Aside0 (Kd.R (Kd.int .i64) 3 w161 w.heap.size (fun k_ => some k_ ≠ (.slice Ao139 t343.length co139 : Value).ownBlock ∧ some k_ ≠ (.slice Ao14 t321.length co14 : Value).ownBlock ∧ some k_ ≠ (.slice Ao25 t336.length co25 : Value).ownBlock ∧ some k_ ≠ (.slice Ao144 t366.length co144 : Value).ownBlock ∧ some k_ ≠ (.slice Ao148 t369.length co148 : Value).ownBlock ∧ some k_ ≠ (v377 : Value).ownBlock) v329 t328) := ⟨(by rw [hw]; exact (by (with_reducible repeat (first | apply Kd.R_alloc | apply Kd.R_drewN | apply Kd.R_drew)); exact Kd.R_mono (Kd.R_far (p := ⟨gb380, 1, none⟩) (Kd.R_far (p := ⟨gb380, 0, none⟩) (Kd.R_types HO_7.out BK380.out (by decide)) (fun _ hk => by first | exact hk.2 | grind) (.int .i64 t374)) (fun _ hk => by first | exact hk.2 | grind) (.int .i64 t375)) (fun _ hk => by first | exact ⟨hk.1.1, ⟨hk.1.2.1, ⟨hk.1.2.2.1, ⟨hk.1.2.2.2.1, ⟨hk.1.2.2.2.2.1, hk.1.2.2.2.2.2⟩⟩⟩⟩⟩ | grind)))⟩; have n1_ : Aside0 (Kd.R (Kd.int .i64) 3 w161 w.heap.size (fun k_ => some k_ ≠ (v329 : Value).ownBlock ∧ some k_ ≠ (.slice Ao14 t321.length co14 : Value).ownBlock ∧ some k_ ≠ (.slice Ao25 t336.length co25 : Value).ownBlock ∧ some k_ ≠ (.slice Ao144 t366.length co144 : Value).ownBlock ∧ some k_ ≠ (.slice Ao148 t369.length co148 : Value).ownBlock ∧ some k_ ≠ (v377 : Value).ownBlock) (.slice Ao139 t343.length co139) t363) := ⟨(by rw [hw]; exact (by (with_reducible repeat (first | apply Kd.R_alloc | apply Kd.R_drewN | apply Kd.R_drew)); exact Kd.R_mono (Kd.R_far (p := ⟨gb380, 1, none⟩) (Kd.R_far (p := ⟨gb380, 0, none⟩) (Kd.R_types HO_11.out BK380.out (by decide)) (fun _ hk => by first | exact hk.2 | grind) (.int .i64 t374)) (fun _ hk => by first | exact hk.2 | grind) (.int .i64 t375)) (fun _ hk => by first | exact ⟨hk.1.1, ⟨hk.1.2.1, ⟨hk.1.2.2.1, ⟨hk.1.2.2.2.1, ⟨hk.1.2.2.2.2.1, hk.1.2.2.2.2.2⟩⟩⟩⟩⟩ | grind)))⟩; have n2_ : Aside0 (Kd.R (Kd.int .i64) 3 w161 w.heap.size (fun k_ => some k_ ≠ (v329 : Value).ownBlock ∧ some k_ ≠ (.slice Ao139 t343.length co139 : Value).ownBlock ∧ some k_ ≠ (.slice Ao25 t336.length co25 : Value).ownBlock ∧ some k_ ≠ (.slice Ao144 t366.length co144 : Value).ownBlock ∧ some k_ ≠ (.slice Ao148 t369.length co148 : Value).ownBlock ∧ some k_ ≠ (v377 : Value).ownBlock) (.slice Ao14 t321.length co14) t321) := ⟨(by rw [hw]; exact (by (with_reducible repeat (first | apply Kd.R_alloc | apply Kd.R_drewN | apply Kd.R_drew)); exact Kd.R_mono (Kd.R_far (p := ⟨gb380, 1, none⟩) (Kd.R_far (p := ⟨gb380, 0, none⟩) (Kd.R_types HO_332000.out BK380.out (by decide)) (fun _ hk => by first | exact hk.2 | grind) (.int .i64 t374)) (fun _ hk => by first | exact hk.2 | grind) (.int .i64 t375)) (fun _ hk => by first | exact ⟨hk.1.1, ⟨hk.1.2.1, ⟨hk.1.2.2.1, ⟨hk.1.2.2.2.1, ⟨hk.1.2.2.2.2.1, hk.1.2.2.2.2.2⟩⟩⟩⟩⟩ | grind)))⟩; have n3_ : Aside0 (Kd.R (Kd.int .i64) 3 w161 w.heap.size (fun k_ => some k_ ≠ (v329 : Value).ownBlock ∧ some k_ ≠ (.slice Ao139 t343.length co139 : Value).ownBlock ∧ some k_ ≠ (.slice Ao14 t321.length co14 : Value).ownBlock ∧ some k_ ≠ (.slice Ao144 t366.length co144 : Value).ownBlock ∧ some k_ ≠ (.slice Ao148 t369.length co148 : Value).ownBlock ∧ some k_ ≠ (v377 : Value).ownBlock) (.slice Ao25 t336.length co25) t361) := ⟨(by rw [hw]; exact (by (with_reducible repeat (first | apply Kd.R_alloc | apply Kd.R_drewN | apply Kd.R_drew)); exact Kd.R_mono (Kd.R_far (p := ⟨gb380, 1, none⟩) (Kd.R_far (p := ⟨gb380, 0, none⟩) (Kd.R_types HO_347000.out BK380.out (by decide)) (fun _ hk => by first | exact hk.2 | grind) (.int .i64 t374)) (fun _ hk => by first | exact hk.2 | grind) (.int .i64 t375)) (fun _ hk => by first | exact ⟨hk.1.1, ⟨hk.1.2.1, ⟨hk.1.2.2.1, ⟨hk.1.2.2.2.1, ⟨hk.1.2.2.2.2.1, hk.1.2.2.2.2.2⟩⟩⟩⟩⟩ | grind)))⟩; have n4_ : Aside0 (Kd.R (Kd.int .i64) 3 w161 w.heap.size (fun k_ => some k_ ≠ (v329 : Value).ownBlock ∧ some k_ ≠ (.slice Ao139 t343.length co139 : Value).ownBlock ∧ some k_ ≠ (.slice Ao14 t321.length co14 : Value).ownBlock ∧ some k_ ≠ (.slice Ao25 t336.length co25 : Value).ownBlock ∧ some k_ ≠ (.slice Ao148 t369.length co148 : Value).ownBlock ∧ some k_ ≠ (v377 : Value).ownBlock) (.slice Ao144 t366.length co144) t366) := ⟨(by rw [hw]; exact (by (with_reducible repeat (first | apply Kd.R_alloc | apply Kd.R_drewN | apply Kd.R_drew)); exact Kd.R_mono (Kd.R_far (p := ⟨gb380, 1, none⟩) (Kd.R_far (p := ⟨gb380, 0, none⟩) (Kd.R_types HO368.out BK380.out (by decide)) (fun _ hk => by first | exact hk.2 | grind) (.int .i64 t374)) (fun _ hk => by first | exact hk.2 | grind) (.int .i64 t375)) (fun _ hk => by first | exact ⟨hk.1.1, ⟨hk.1.2.1, ⟨hk.1.2.2.1, ⟨hk.1.2.2.2.1, ⟨hk.1.2.2.2.2.1, hk.1.2.2.2.2.2⟩⟩⟩⟩⟩ | grind)))⟩; have n5_ : Aside0 (Kd.R (Kd.int .i64) 3 w161 w.heap.size (fun k_ => some k_ ≠ (v329 : Value).ownBlock ∧ some k_ ≠ (.slice Ao139 t343.length co139 : Value).ownBlock ∧ some k_ ≠ (.slice Ao14 t321.length co14 : Value).ownBlock ∧ some k_ ≠ (.slice Ao25 t336.length co25 : Value).ownBlock ∧ some k_ ≠ (.slice Ao144 t366.length co144 : Value).ownBlock ∧ some k_ ≠ (v377 : Value).ownBlock) (.slice Ao148 t369.length co148) t369) := ⟨(by rw [hw]; exact (by (with_reducible repeat (first | apply Kd.R_alloc | apply Kd.R_drewN | apply Kd.R_drew)); exact Kd.R_mono (Kd.R_far (p := ⟨gb380, 1, none⟩) (Kd.R_far (p := ⟨gb380, 0, none⟩) (Kd.R_types HO371.out BK380.out (by decide)) (fun _ hk => by first | exact hk.2 | grind) (.int .i64 t374)) (fun _ hk => by first | exact hk.2 | grind) (.int .i64 t375)) (fun _ hk => by first | exact ⟨hk.1.1, ⟨hk.1.2.1, ⟨hk.1.2.2.1, ⟨hk.1.2.2.2.1, ⟨hk.1.2.2.2.2.1, hk.1.2.2.2.2.2⟩⟩⟩⟩⟩ | grind)))⟩; have n6_ : Aside0 (Kd.R (Kd.int .i64) 3 w161 w.heap.size (fun k_ => some k_ ≠ (v329 : Value).ownBlock ∧ some k_ ≠ (.slice Ao139 t343.length co139 : Value).ownBlock ∧ some k_ ≠ (.slice Ao14 t321.length co14 : Value).ownBlock ∧ some k_ ≠ (.slice Ao25 t336.length co25 : Value).ownBlock ∧ some k_ ≠ (.slice Ao144 t366.length co144 : Value).ownBlock ∧ some k_ ≠ (.slice Ao148 t369.length co148 : Value).ownBlock) v377 t376) := ⟨(by rw [hw]; exact (by (with_reducible repeat (first | apply Kd.R_alloc | apply Kd.R_drewN | apply Kd.R_drew)); exact Kd.R_mono (Kd.R_far (p := ⟨gb380, 1, none⟩) (Kd.R_far (p := ⟨gb380, 0, none⟩) (Kd.R_types HO378.out BK380.out (by decide)) (fun _ hk => by first | exact hk.2 | grind) (.int .i64 t374)) (fun _ hk => by first | exact hk.2 | grind) (.int .i64 t375)) (fun _ hk => by first | exact ⟨hk.1.1, ⟨hk.1.2.1, ⟨hk.1.2.2.1, ⟨hk.1.2.2.2.1, ⟨hk.1.2.2.2.2.1, hk.1.2.2.2.2.2⟩⟩⟩⟩⟩ | grind)))⟩; have n7_ : Aside0 (w161.heap[gb331]? = some (.cells #[.slice Ao14 t321.length co14, .int .i64 t324, .int .i64 t325] 24 (0, 0))) := ⟨(by rw [hw]; exact (by (with_reducible repeat (first | refine blk_drewN ?_ _ | refine blk_drew ?_ | refine blk_alloc ?_ _)); refine blk_far ?_ NB331_380.out _; (with_reducible repeat (first | refine blk_drewN ?_ _ | refine blk_drew ?_ | refine blk_alloc ?_ _)); refine blk_far ?_ NB331_380.out _; (with_reducible repeat (first | refine blk_drewN ?_ _ | refine blk_drew ?_ | refine blk_alloc ?_ _)); exact BK331.out))⟩; have n8_ : Aside0 (w161.heap[gb332]? = some (.cells #[.int .i64 t326, .int .i64 t327] 26 (0, 0))) := ⟨(by rw [hw]; exact (by (with_reducible repeat (first | refine blk_drewN ?_ _ | refine blk_drew ?_ | refine blk_alloc ?_ _)); refine blk_far ?_ NB332_380.out _; (with_reducible repeat (first | refine blk_drewN ?_ _ | refine blk_drew ?_ | refine blk_alloc ?_ _)); refine blk_far ?_ NB332_380.out _; (with_reducible repeat (first | refine blk_drewN ?_ _ | refine blk_drew ?_ | refine blk_alloc ?_ _)); exact BK332.out))⟩; have n9_ : Aside0 (w161.heap[gb346]? = some (.cells #[.slice Ao25 t336.length co25, .int .i64 t339, .int .i64 t340] 24 (0, 0))) := ⟨(by rw [hw]; exact (by (with_reducible repeat (first | refine blk_drewN ?_ _ | refine blk_drew ?_ | refine blk_alloc ?_ _)); refine blk_far ?_ NB346_380.out _; (with_reducible repeat (first | refine blk_drewN ?_ _ | refine blk_drew ?_ | refine blk_alloc ?_ _)); refine blk_far ?_ NB346_380.out _; (with_reducible repeat (first | refine blk_drewN ?_ _ | refine blk_drew ?_ | refine blk_alloc ?_ _)); exact BK346.out))⟩; have n10_ : Aside0 (w161.heap[gb347]? = some (.cells #[.int .i64 t341, .int .i64 t342] 26 (0, 0))) := ⟨(by rw [hw]; exact (by (with_reducible repeat (first | refine blk_drewN ?_ _ | refine blk_drew ?_ | refine blk_alloc ?_ _)); refine blk_far ?_ NB347_380.out _; (with_reducible repeat (first | refine blk_drewN ?_ _ | refine blk_drew ?_ | refine blk_alloc ?_ _)); refine blk_far ?_ NB347_380.out _; (with_reducible repeat (first | refine blk_drewN ?_ _ | refine blk_drew ?_ | refine blk_alloc ?_ _)); exact BK347.out))⟩; have n11_ : Aside0 (w161.heap[gb379]? = some (.cells #[.slice Ao148 t369.length co148, .int .i64 t372, .int .i64 t373] 24 (0, 0))) := ⟨(by rw [hw]; exact (by (with_reducible repeat (first | refine blk_drewN ?_ _ | refine blk_drew ?_ | refine blk_alloc ?_ _)); refine blk_far ?_ NB379_380.out _; (with_reducible repeat (first | refine blk_drewN ?_ _ | refine blk_drew ?_ | refine blk_alloc ?_ _)); refine blk_far ?_ NB379_380.out _; (with_reducible repeat (first | refine blk_drewN ?_ _ | refine blk_drew ?_ | refine blk_alloc ?_ _)); exact BK379.out))⟩; have n12_ : Aside0 (w161.heap[gb380]? = some (.cells #[.int .i64 t374, .int .i64 t375] 26 (0, 0))) := ⟨(by rw [hw]; exact (by (with_reducible repeat (first | refine blk_drewN ?_ _ | refine blk_drew ?_ | refine blk_alloc ?_ _)); refine blk_put (cs := #[.int .i64 t374, .int .i64 0]) ?_ 1 _ rfl; (with_reducible repeat (first | refine blk_drewN ?_ _ | refine blk_drew ?_ | refine blk_alloc ?_ _)); refine blk_put (cs := #[.int .i64 0, .int .i64 0]) ?_ 0 _ rfl; (with_reducible repeat (first | refine blk_drewN ?_ _ | refine blk_drew ?_ | refine blk_alloc ?_ _)); exact BK380.out))⟩; have n13_ : Aside0 (Below w.heap.size w w161) := ⟨(by rw [hw]; exact (ue_ HB.out))⟩; clear hw; clear HO_7; clear HO_11; clear HO_332000; clear HO_347000; clear HO368; clear HO371; clear HO378; clear BK331; clear BK332; clear BK346; clear BK347; clear BK379; clear BK380; clear HB; have HO_7 := n0_; have HO_11 := n1_; have HO_332000 := n2_; have HO_347000 := n3_; have HO368 := n4_; have HO371 := n5_; have HO378 := n6_; have BK331 := n7_; have BK332 := n8_; have BK346 := n9_; have BK347 := n10_; have BK379 := n11_; have BK380 := n12_; have HB := n13_; clear n0_ n1_ n2_ n3_ n4_ n5_ n6_ n7_ n8_ n9_ n10_ n11_ n12_ n13_))
            (try simp only [Act.put, List.setIfInBounds_toArray, List.set_cons_zero, List.set_cons_succ])
            go_cut [124] (fun v124 wc => ∃ (kq : Nat) (x124_132 : Bool), v124 = .bool x124_132 ∧ Aside0 (laws_FnExactPlayLink.j2 kq t363 t362 x124_132 t361 t339 t340 = some r) ∧ Aside0 (kq ≤ kj78) ∧ Aside0 (Kd.R (Kd.int .i64) 3 wc w.heap.size (fun k_ => some k_ ≠ ((.slice Ao14 t321.length co14) : Value).ownBlock ∧ some k_ ≠ ((.slice Ao25 t336.length co25) : Value).ownBlock ∧ some k_ ≠ ((.slice Ao148 t369.length co148) : Value).ownBlock) (.slice Ao139 t343.length co139) t363) ∧ Aside0 (Kd.R (Kd.int .i64) 3 wc w.heap.size (fun k_ => some k_ ≠ ((.slice Ao139 t343.length co139) : Value).ownBlock ∧ some k_ ≠ ((.slice Ao25 t336.length co25) : Value).ownBlock ∧ some k_ ≠ ((.slice Ao148 t369.length co148) : Value).ownBlock) (.slice Ao14 t321.length co14) t321) ∧ Aside0 (Kd.R (Kd.int .i64) 3 wc w.heap.size (fun k_ => some k_ ≠ ((.slice Ao139 t343.length co139) : Value).ownBlock ∧ some k_ ≠ ((.slice Ao14 t321.length co14) : Value).ownBlock ∧ some k_ ≠ ((.slice Ao148 t369.length co148) : Value).ownBlock) (.slice Ao25 t336.length co25) t361) ∧ Aside0 (Kd.R (Kd.int .i64) 3 wc w.heap.size (fun k_ => some k_ ≠ ((.slice Ao139 t343.length co139) : Value).ownBlock ∧ some k_ ≠ ((.slice Ao14 t321.length co14) : Value).ownBlock ∧ some k_ ≠ ((.slice Ao25 t336.length co25) : Value).ownBlock) (.slice Ao148 t369.length co148) t369) ∧ Aside0 (wc.heap[gb331]? = some (.cells #[(.slice Ao14 t321.length co14), .int .i64 t324, .int .i64 t325] 24 (0, 0))) ∧ Aside0 (wc.heap[gb332]? = some (.cells #[.int .i64 t326, .int .i64 t327] 26 (0, 0))) ∧ Aside0 (wc.heap[gb346]? = some (.cells #[(.slice Ao25 t336.length co25), .int .i64 t339, .int .i64 t340] 24 (0, 0))) ∧ Aside0 (wc.heap[gb347]? = some (.cells #[.int .i64 t341, .int .i64 t342] 26 (0, 0))) ∧ Aside0 (wc.heap[gb379]? = some (.cells #[(.slice Ao148 t369.length co148), .int .i64 t372, .int .i64 t373] 24 (0, 0))) ∧ Aside0 (wc.heap[gb380]? = some (.cells #[.int .i64 t374, .int .i64 t375] 26 (0, 0))) ∧ Aside0 (Below w.heap.size w wc))
            case first =>
             have H := HC133.out
             clear HC133
             replace H := Option.bind_eq_some_iff.mp H
             obtain ⟨t381, A1620, H⟩ := H
             replace H : (if t381 = true then ((laws_eqCredit.f t374 t375 t326 t327).bind fun t382 => (if t382 = true then ((laws_eqIntS.f kj78 t376 t328).bind fun t383 => (laws_FnExactPlayLink.j2 kj78 t363 t362 (!t383) t361 t339 t340)) else (laws_FnExactPlayLink.j2 kj78 t363 t362 true t361 t339 t340))) else (laws_FnExactPlayLink.j2 kj78 t363 t362 true t361 t339 t340)) = some r := H
             have A162 := Aside0.mk A1620
             clear A1620
             by_cases c163 : t381 = true
             ·
              subst c163
              have H1 : ((laws_eqCredit.f t374 t375 t326 t327).bind fun t382 => (if t382 = true then ((laws_eqIntS.f kj78 t376 t328).bind fun t383 => (laws_FnExactPlayLink.j2 kj78 t363 t362 (!t383) t361 t339 t340)) else (laws_FnExactPlayLink.j2 kj78 t363 t362 true t361 t339 t340))) = some r := by rw [if_pos rfl] at H; exact H
              clear H
              have H := H1
              clear H1
              replace H := Option.bind_eq_some_iff.mp H
              obtain ⟨t382, A1640, H⟩ := H
              replace H : (if t382 = true then ((laws_eqIntS.f kj78 t376 t328).bind fun t383 => (laws_FnExactPlayLink.j2 kj78 t363 t362 (!t383) t361 t339 t340)) else (laws_FnExactPlayLink.j2 kj78 t363 t362 true t361 t339 t340)) = some r := H
              have A164 := Aside0.mk A1640
              clear A1640
              by_cases c165 : t382 = true
              ·
               subst c165
               have H1 : ((laws_eqIntS.f kj78 t376 t328).bind fun t383 => (laws_FnExactPlayLink.j2 kj78 t363 t362 (!t383) t361 t339 t340)) = some r := by rw [if_pos rfl] at H; exact H
               clear H
               have H := H1
               clear H1
               replace H := Option.bind_eq_some_iff.mp H
               obtain ⟨t383, A1660, H⟩ := H
               replace H : (laws_FnExactPlayLink.j2 kj78 t363 t362 (!t383) t361 t339 t340) = some r := H
               have A166 := Aside0.mk A1660
               clear A1660
               have H' := Aside0.mk H
               clear H
               have hnb167 := NB379_331.out
               have hnc167 := NB331_379.out
               have hnb168 := NB379_332.out
               have hnc168 := NB332_379.out
               have hnb169 := NB379_346.out
               have hnc169 := NB346_379.out
               have hnb170 := NB379_347.out
               have hnc170 := NB347_379.out
               have hnb171 := NB379_380.out
               have hnc171 := NB380_379.out
               have hcz172_0 : w161.cell? ⟨gb379, 0, none⟩ = some (.slice Ao148 t369.length co148) := (blk_cell BK379.out 0).trans rfl
               have hcz172_1 : w161.cell? ⟨gb379, 1, none⟩ = some (.int .i64 t372) := (blk_cell BK379.out 1).trans rfl
               have hcz172_2 : w161.cell? ⟨gb379, 2, none⟩ = some (.int .i64 t373) := (blk_cell BK379.out 2).trans rfl
               have hfz172_0 := blk_frozen BK379.out 0
               have hfz172_1 := blk_frozen BK379.out 1
               have hfz172_2 := blk_frozen BK379.out 2
               have hnb173 := NB331_332.out
               have hnc173 := NB332_331.out
               have hnb174 := NB331_346.out
               have hnc174 := NB346_331.out
               have hnb175 := NB331_347.out
               have hnc175 := NB347_331.out
               have hnb176 := NB331_380.out
               have hnc176 := NB380_331.out
               have hcz177_0 : w161.cell? ⟨gb331, 0, none⟩ = some (.slice Ao14 t321.length co14) := (blk_cell BK331.out 0).trans rfl
               have hcz177_1 : w161.cell? ⟨gb331, 1, none⟩ = some (.int .i64 t324) := (blk_cell BK331.out 1).trans rfl
               have hcz177_2 : w161.cell? ⟨gb331, 2, none⟩ = some (.int .i64 t325) := (blk_cell BK331.out 2).trans rfl
               have hfz177_0 := blk_frozen BK331.out 0
               have hfz177_1 := blk_frozen BK331.out 1
               have hfz177_2 := blk_frozen BK331.out 2
               go_wp2_with (first | ((with_reducible refine gate_callee (f := 17) rfl ?_); refine goesL_ (some 111) rfl rfl Try.func17 (by kernel_rfl) rfl #[.agg #[.slice Ao148 t369.length co148, .int .i64 t372, .int .i64 t373], .agg #[.slice Ao14 t321.length co14, .int .i64 t324, .int .i64 t325]] rfl ul_ ?_; (with_reducible refine (laws_eqRing.calls kj78 _ _ t369 t372 t373 _ _ t321 t324 t325 true _ ?side1 ?side2 ?side3 ?side4 A162.out).mono ?_); (case side1 => repeat (first | exact (Kd.R_reads' HO371.out).2.2 | (with_reducible refine Kd.C_alloc ?_ _) | (with_reducible refine Kd.C_drewN ?_ _) | (with_reducible refine Kd.C_drew ?_))); (case side2 => exact (Kd.R_reads' HO371.out).2.1); (case side3 => repeat (first | exact (Kd.R_reads' HO_332000.out).2.2 | (with_reducible refine Kd.C_alloc ?_ _) | (with_reducible refine Kd.C_drewN ?_ _) | (with_reducible refine Kd.C_drew ?_))); (case side4 => exact (Kd.R_reads' HO_332000.out).2.1); rintro e w178 ⟨rfl, hb⟩; refine ⟨_, rfl, ?_⟩; have n0_ := Aside0.mk (Kd.R_below (ur_ HO_7.out) hb); have n1_ := Aside0.mk (Kd.R_below (ur_ HO_11.out) hb); have n2_ := Aside0.mk (Kd.R_below (ur_ HO_332000.out) hb); have n3_ := Aside0.mk (Kd.R_below (ur_ HO_347000.out) hb); have n4_ := Aside0.mk (Kd.R_below (ur_ HO368.out) hb); have n5_ := Aside0.mk (Kd.R_below (ur_ HO371.out) hb); have n6_ := Aside0.mk (Kd.R_below (ur_ HO378.out) hb); have n7_ := Aside0.mk (blk_below (g := gb331) (o := .cells #[.slice Ao14 t321.length co14, .int .i64 t324, .int .i64 t325] 24 (0, 0)) (ub_ BK331.out) hb); have n8_ := Aside0.mk (blk_below (g := gb332) (o := .cells #[.int .i64 t326, .int .i64 t327] 26 (0, 0)) (ub_ BK332.out) hb); have n9_ := Aside0.mk (blk_below (g := gb346) (o := .cells #[.slice Ao25 t336.length co25, .int .i64 t339, .int .i64 t340] 24 (0, 0)) (ub_ BK346.out) hb); have n10_ := Aside0.mk (blk_below (g := gb347) (o := .cells #[.int .i64 t341, .int .i64 t342] 26 (0, 0)) (ub_ BK347.out) hb); have n11_ := Aside0.mk (blk_below (g := gb379) (o := .cells #[.slice Ao148 t369.length co148, .int .i64 t372, .int .i64 t373] 24 (0, 0)) (ub_ BK379.out) hb); have n12_ := Aside0.mk (blk_below (g := gb380) (o := .cells #[.int .i64 t374, .int .i64 t375] 26 (0, 0)) (ub_ BK380.out) hb); have n13_ := Aside0.mk (below_step (ue_ HB.out) hb); clear HO_7; clear HO_11; clear HO_332000; clear HO_347000; clear HO368; clear HO371; clear HO378; clear BK331; clear BK332; clear BK346; clear BK347; clear BK379; clear BK380; clear HB; have HO_7 := n0_; have HO_11 := n1_; have HO_332000 := n2_; have HO_347000 := n3_; have HO368 := n4_; have HO371 := n5_; have HO378 := n6_; have BK331 := n7_; have BK332 := n8_; have BK346 := n9_; have BK347 := n10_; have BK379 := n11_; have BK380 := n12_; have HB := n13_; clear n0_ n1_ n2_ n3_ n4_ n5_ n6_ n7_ n8_ n9_ n10_ n11_ n12_ n13_; (try clear hb); (try clear hb2); (try clear hk); (try clear hi); have hnb179 := NB380_332.out; have hnc179 := NB332_380.out; have hnb180 := NB380_346.out; have hnc180 := NB346_380.out; have hnb181 := NB380_347.out; have hnc181 := NB347_380.out; have hcz182_0 : w178.cell? ⟨gb380, 0, none⟩ = some (.int .i64 t374) := (blk_cell BK380.out 0).trans rfl; have hcz182_1 : w178.cell? ⟨gb380, 1, none⟩ = some (.int .i64 t375) := (blk_cell BK380.out 1).trans rfl; have hfz182_0 := blk_frozen BK380.out 0; have hfz182_1 := blk_frozen BK380.out 1; have hnb183 := NB332_346.out; have hnc183 := NB346_332.out; have hnb184 := NB332_347.out; have hnc184 := NB347_332.out; have hcz185_0 : w178.cell? ⟨gb332, 0, none⟩ = some (.int .i64 t326) := (blk_cell BK332.out 0).trans rfl; have hcz185_1 : w178.cell? ⟨gb332, 1, none⟩ = some (.int .i64 t327) := (blk_cell BK332.out 1).trans rfl; have hfz185_0 := blk_frozen BK332.out 0; have hfz185_1 := blk_frozen BK332.out 1) | (go_at_call 18; (with_reducible refine (laws_eqCredit.calls t374 t375 t326 t327 true _ A164.out).mono ?_); rintro e w186 ⟨rfl, hb⟩; have n0_ := Aside0.mk (Kd.R_below (ur_ HO_7.out) hb); have n1_ := Aside0.mk (Kd.R_below (ur_ HO_11.out) hb); have n2_ := Aside0.mk (Kd.R_below (ur_ HO_332000.out) hb); have n3_ := Aside0.mk (Kd.R_below (ur_ HO_347000.out) hb); have n4_ := Aside0.mk (Kd.R_below (ur_ HO368.out) hb); have n5_ := Aside0.mk (Kd.R_below (ur_ HO371.out) hb); have n6_ := Aside0.mk (Kd.R_below (ur_ HO378.out) hb); have n7_ := Aside0.mk (blk_below (g := gb331) (o := .cells #[.slice Ao14 t321.length co14, .int .i64 t324, .int .i64 t325] 24 (0, 0)) (ub_ BK331.out) hb); have n8_ := Aside0.mk (blk_below (g := gb332) (o := .cells #[.int .i64 t326, .int .i64 t327] 26 (0, 0)) (ub_ BK332.out) hb); have n9_ := Aside0.mk (blk_below (g := gb346) (o := .cells #[.slice Ao25 t336.length co25, .int .i64 t339, .int .i64 t340] 24 (0, 0)) (ub_ BK346.out) hb); have n10_ := Aside0.mk (blk_below (g := gb347) (o := .cells #[.int .i64 t341, .int .i64 t342] 26 (0, 0)) (ub_ BK347.out) hb); have n11_ := Aside0.mk (blk_below (g := gb379) (o := .cells #[.slice Ao148 t369.length co148, .int .i64 t372, .int .i64 t373] 24 (0, 0)) (ub_ BK379.out) hb); have n12_ := Aside0.mk (blk_below (g := gb380) (o := .cells #[.int .i64 t374, .int .i64 t375] 26 (0, 0)) (ub_ BK380.out) hb); have n13_ := Aside0.mk (below_step (ue_ HB.out) hb); clear HO_7; clear HO_11; clear HO_332000; clear HO_347000; clear HO368; clear HO371; clear HO378; clear BK331; clear BK332; clear BK346; clear BK347; clear BK379; clear BK380; clear HB; have HO_7 := n0_; have HO_11 := n1_; have HO_332000 := n2_; have HO_347000 := n3_; have HO368 := n4_; have HO371 := n5_; have HO378 := n6_; have BK331 := n7_; have BK332 := n8_; have BK346 := n9_; have BK347 := n10_; have BK379 := n11_; have BK380 := n12_; have HB := n13_; clear n0_ n1_ n2_ n3_ n4_ n5_ n6_ n7_ n8_ n9_ n10_ n11_ n12_ n13_; (try clear hb); (try clear hb2); (try clear hk); (try clear hi); obtain ⟨Ao187, co187, eo187⟩ := Kd.R_slice HO378.out; subst eo187; obtain ⟨Ao188, co188, eo188⟩ := Kd.R_slice HO_7.out; subst eo188) | (go_at_call 19; (with_reducible refine (laws_eqIntS.calls kj78 _ _ t376 _ _ t328 t383 _ ?side1 ?side2 ?side3 ?side4 A166.out).mono ?_); (case side1 => repeat (first | exact (Kd.R_reads' HO378.out).2.2 | (with_reducible refine Kd.C_alloc ?_ _) | (with_reducible refine Kd.C_drewN ?_ _) | (with_reducible refine Kd.C_drew ?_))); (case side2 => exact (Kd.R_reads' HO378.out).2.1); (case side3 => repeat (first | exact (Kd.R_reads' HO_7.out).2.2 | (with_reducible refine Kd.C_alloc ?_ _) | (with_reducible refine Kd.C_drewN ?_ _) | (with_reducible refine Kd.C_drew ?_))); (case side4 => exact (Kd.R_reads' HO_7.out).2.1); rintro e w' ⟨rfl, ⟨nd, rfl⟩⟩))
               go_meet
               case rel => exact ⟨_, (!t383), (by first | rfl | (simp; done) | (simp [*]; done)), H', ⟨by have := HJ7.out; have := HJ78.out; first | omega | exact Nat.le_refl _⟩, ⟨by (with_reducible repeat (first | apply Kd.R_alloc | apply Kd.R_drewN | apply Kd.R_drew)); exact Kd.R_mono HO_11.out (fun _ hk => by first | exact ⟨hk.2.1, ⟨hk.2.2.1, hk.2.2.2.2.1⟩⟩ | grind)⟩, ⟨by (with_reducible repeat (first | apply Kd.R_alloc | apply Kd.R_drewN | apply Kd.R_drew)); exact Kd.R_mono HO_332000.out (fun _ hk => by first | exact ⟨hk.2.1, ⟨hk.2.2.1, hk.2.2.2.2.1⟩⟩ | grind)⟩, ⟨by (with_reducible repeat (first | apply Kd.R_alloc | apply Kd.R_drewN | apply Kd.R_drew)); exact Kd.R_mono HO_347000.out (fun _ hk => by first | exact ⟨hk.2.1, ⟨hk.2.2.1, hk.2.2.2.2.1⟩⟩ | grind)⟩, ⟨by (with_reducible repeat (first | apply Kd.R_alloc | apply Kd.R_drewN | apply Kd.R_drew)); exact Kd.R_mono HO371.out (fun _ hk => by first | exact ⟨hk.2.1, ⟨hk.2.2.1, hk.2.2.2.1⟩⟩ | grind)⟩, ⟨by (with_reducible repeat (first | refine blk_drewN ?_ _ | refine blk_drew ?_ | refine blk_alloc ?_ _)); exact BK331.out⟩, ⟨by (with_reducible repeat (first | refine blk_drewN ?_ _ | refine blk_drew ?_ | refine blk_alloc ?_ _)); exact BK332.out⟩, ⟨by (with_reducible repeat (first | refine blk_drewN ?_ _ | refine blk_drew ?_ | refine blk_alloc ?_ _)); exact BK346.out⟩, ⟨by (with_reducible repeat (first | refine blk_drewN ?_ _ | refine blk_drew ?_ | refine blk_alloc ?_ _)); exact BK347.out⟩, ⟨by (with_reducible repeat (first | refine blk_drewN ?_ _ | refine blk_drew ?_ | refine blk_alloc ?_ _)); exact BK379.out⟩, ⟨by (with_reducible repeat (first | refine blk_drewN ?_ _ | refine blk_drew ?_ | refine blk_alloc ?_ _)); exact BK380.out⟩, ⟨ue_ HB.out⟩⟩
              ·
               replace c165 := Bool.eq_false_iff.mpr c165
               subst c165
               have H1 : (laws_FnExactPlayLink.j2 kj78 t363 t362 true t361 t339 t340) = some r := by rw [if_neg (show ¬ (false = true) by decide)] at H; exact H
               clear H
               have H := H1
               clear H1
               have H' := Aside0.mk H
               clear H
               have hnb189 := NB379_331.out
               have hnc189 := NB331_379.out
               have hnb190 := NB379_332.out
               have hnc190 := NB332_379.out
               have hnb191 := NB379_346.out
               have hnc191 := NB346_379.out
               have hnb192 := NB379_347.out
               have hnc192 := NB347_379.out
               have hnb193 := NB379_380.out
               have hnc193 := NB380_379.out
               have hcz194_0 : w161.cell? ⟨gb379, 0, none⟩ = some (.slice Ao148 t369.length co148) := (blk_cell BK379.out 0).trans rfl
               have hcz194_1 : w161.cell? ⟨gb379, 1, none⟩ = some (.int .i64 t372) := (blk_cell BK379.out 1).trans rfl
               have hcz194_2 : w161.cell? ⟨gb379, 2, none⟩ = some (.int .i64 t373) := (blk_cell BK379.out 2).trans rfl
               have hfz194_0 := blk_frozen BK379.out 0
               have hfz194_1 := blk_frozen BK379.out 1
               have hfz194_2 := blk_frozen BK379.out 2
               have hnb195 := NB331_332.out
               have hnc195 := NB332_331.out
               have hnb196 := NB331_346.out
               have hnc196 := NB346_331.out
               have hnb197 := NB331_347.out
               have hnc197 := NB347_331.out
               have hnb198 := NB331_380.out
               have hnc198 := NB380_331.out
               have hcz199_0 : w161.cell? ⟨gb331, 0, none⟩ = some (.slice Ao14 t321.length co14) := (blk_cell BK331.out 0).trans rfl
               have hcz199_1 : w161.cell? ⟨gb331, 1, none⟩ = some (.int .i64 t324) := (blk_cell BK331.out 1).trans rfl
               have hcz199_2 : w161.cell? ⟨gb331, 2, none⟩ = some (.int .i64 t325) := (blk_cell BK331.out 2).trans rfl
               have hfz199_0 := blk_frozen BK331.out 0
               have hfz199_1 := blk_frozen BK331.out 1
               have hfz199_2 := blk_frozen BK331.out 2
               go_wp2_with (first | ((with_reducible refine gate_callee (f := 17) rfl ?_); refine goesL_ (some 111) rfl rfl Try.func17 (by kernel_rfl) rfl #[.agg #[.slice Ao148 t369.length co148, .int .i64 t372, .int .i64 t373], .agg #[.slice Ao14 t321.length co14, .int .i64 t324, .int .i64 t325]] rfl ul_ ?_; (with_reducible refine (laws_eqRing.calls kj78 _ _ t369 t372 t373 _ _ t321 t324 t325 true _ ?side1 ?side2 ?side3 ?side4 A162.out).mono ?_); (case side1 => repeat (first | exact (Kd.R_reads' HO371.out).2.2 | (with_reducible refine Kd.C_alloc ?_ _) | (with_reducible refine Kd.C_drewN ?_ _) | (with_reducible refine Kd.C_drew ?_))); (case side2 => exact (Kd.R_reads' HO371.out).2.1); (case side3 => repeat (first | exact (Kd.R_reads' HO_332000.out).2.2 | (with_reducible refine Kd.C_alloc ?_ _) | (with_reducible refine Kd.C_drewN ?_ _) | (with_reducible refine Kd.C_drew ?_))); (case side4 => exact (Kd.R_reads' HO_332000.out).2.1); rintro e w200 ⟨rfl, hb⟩; refine ⟨_, rfl, ?_⟩; have n0_ := Aside0.mk (Kd.R_below (ur_ HO_7.out) hb); have n1_ := Aside0.mk (Kd.R_below (ur_ HO_11.out) hb); have n2_ := Aside0.mk (Kd.R_below (ur_ HO_332000.out) hb); have n3_ := Aside0.mk (Kd.R_below (ur_ HO_347000.out) hb); have n4_ := Aside0.mk (Kd.R_below (ur_ HO368.out) hb); have n5_ := Aside0.mk (Kd.R_below (ur_ HO371.out) hb); have n6_ := Aside0.mk (Kd.R_below (ur_ HO378.out) hb); have n7_ := Aside0.mk (blk_below (g := gb331) (o := .cells #[.slice Ao14 t321.length co14, .int .i64 t324, .int .i64 t325] 24 (0, 0)) (ub_ BK331.out) hb); have n8_ := Aside0.mk (blk_below (g := gb332) (o := .cells #[.int .i64 t326, .int .i64 t327] 26 (0, 0)) (ub_ BK332.out) hb); have n9_ := Aside0.mk (blk_below (g := gb346) (o := .cells #[.slice Ao25 t336.length co25, .int .i64 t339, .int .i64 t340] 24 (0, 0)) (ub_ BK346.out) hb); have n10_ := Aside0.mk (blk_below (g := gb347) (o := .cells #[.int .i64 t341, .int .i64 t342] 26 (0, 0)) (ub_ BK347.out) hb); have n11_ := Aside0.mk (blk_below (g := gb379) (o := .cells #[.slice Ao148 t369.length co148, .int .i64 t372, .int .i64 t373] 24 (0, 0)) (ub_ BK379.out) hb); have n12_ := Aside0.mk (blk_below (g := gb380) (o := .cells #[.int .i64 t374, .int .i64 t375] 26 (0, 0)) (ub_ BK380.out) hb); have n13_ := Aside0.mk (below_step (ue_ HB.out) hb); clear HO_7; clear HO_11; clear HO_332000; clear HO_347000; clear HO368; clear HO371; clear HO378; clear BK331; clear BK332; clear BK346; clear BK347; clear BK379; clear BK380; clear HB; have HO_7 := n0_; have HO_11 := n1_; have HO_332000 := n2_; have HO_347000 := n3_; have HO368 := n4_; have HO371 := n5_; have HO378 := n6_; have BK331 := n7_; have BK332 := n8_; have BK346 := n9_; have BK347 := n10_; have BK379 := n11_; have BK380 := n12_; have HB := n13_; clear n0_ n1_ n2_ n3_ n4_ n5_ n6_ n7_ n8_ n9_ n10_ n11_ n12_ n13_; (try clear hb); (try clear hb2); (try clear hk); (try clear hi); have hnb201 := NB380_332.out; have hnc201 := NB332_380.out; have hnb202 := NB380_346.out; have hnc202 := NB346_380.out; have hnb203 := NB380_347.out; have hnc203 := NB347_380.out; have hcz204_0 : w200.cell? ⟨gb380, 0, none⟩ = some (.int .i64 t374) := (blk_cell BK380.out 0).trans rfl; have hcz204_1 : w200.cell? ⟨gb380, 1, none⟩ = some (.int .i64 t375) := (blk_cell BK380.out 1).trans rfl; have hfz204_0 := blk_frozen BK380.out 0; have hfz204_1 := blk_frozen BK380.out 1; have hnb205 := NB332_346.out; have hnc205 := NB346_332.out; have hnb206 := NB332_347.out; have hnc206 := NB347_332.out; have hcz207_0 : w200.cell? ⟨gb332, 0, none⟩ = some (.int .i64 t326) := (blk_cell BK332.out 0).trans rfl; have hcz207_1 : w200.cell? ⟨gb332, 1, none⟩ = some (.int .i64 t327) := (blk_cell BK332.out 1).trans rfl; have hfz207_0 := blk_frozen BK332.out 0; have hfz207_1 := blk_frozen BK332.out 1) | (go_at_call 18; (with_reducible refine (laws_eqCredit.calls t374 t375 t326 t327 false _ A164.out).mono ?_); rintro e w208 ⟨rfl, hb⟩; have n0_ := Aside0.mk (Kd.R_below (ur_ HO_7.out) hb); have n1_ := Aside0.mk (Kd.R_below (ur_ HO_11.out) hb); have n2_ := Aside0.mk (Kd.R_below (ur_ HO_332000.out) hb); have n3_ := Aside0.mk (Kd.R_below (ur_ HO_347000.out) hb); have n4_ := Aside0.mk (Kd.R_below (ur_ HO368.out) hb); have n5_ := Aside0.mk (Kd.R_below (ur_ HO371.out) hb); have n6_ := Aside0.mk (Kd.R_below (ur_ HO378.out) hb); have n7_ := Aside0.mk (blk_below (g := gb331) (o := .cells #[.slice Ao14 t321.length co14, .int .i64 t324, .int .i64 t325] 24 (0, 0)) (ub_ BK331.out) hb); have n8_ := Aside0.mk (blk_below (g := gb332) (o := .cells #[.int .i64 t326, .int .i64 t327] 26 (0, 0)) (ub_ BK332.out) hb); have n9_ := Aside0.mk (blk_below (g := gb346) (o := .cells #[.slice Ao25 t336.length co25, .int .i64 t339, .int .i64 t340] 24 (0, 0)) (ub_ BK346.out) hb); have n10_ := Aside0.mk (blk_below (g := gb347) (o := .cells #[.int .i64 t341, .int .i64 t342] 26 (0, 0)) (ub_ BK347.out) hb); have n11_ := Aside0.mk (blk_below (g := gb379) (o := .cells #[.slice Ao148 t369.length co148, .int .i64 t372, .int .i64 t373] 24 (0, 0)) (ub_ BK379.out) hb); have n12_ := Aside0.mk (blk_below (g := gb380) (o := .cells #[.int .i64 t374, .int .i64 t375] 26 (0, 0)) (ub_ BK380.out) hb); have n13_ := Aside0.mk (below_step (ue_ HB.out) hb); clear HO_7; clear HO_11; clear HO_332000; clear HO_347000; clear HO368; clear HO371; clear HO378; clear BK331; clear BK332; clear BK346; clear BK347; clear BK379; clear BK380; clear HB; have HO_7 := n0_; have HO_11 := n1_; have HO_332000 := n2_; have HO_347000 := n3_; have HO368 := n4_; have HO371 := n5_; have HO378 := n6_; have BK331 := n7_; have BK332 := n8_; have BK346 := n9_; have BK347 := n10_; have BK379 := n11_; have BK380 := n12_; have HB := n13_; clear n0_ n1_ n2_ n3_ n4_ n5_ n6_ n7_ n8_ n9_ n10_ n11_ n12_ n13_; (try clear hb); (try clear hb2); (try clear hk); (try clear hi)))
               go_meet
               case rel => exact ⟨_, (true), (by first | rfl | (simp; done) | (simp [*]; done)), H', ⟨by have := HJ7.out; have := HJ78.out; first | omega | exact Nat.le_refl _⟩, ⟨by (with_reducible repeat (first | apply Kd.R_alloc | apply Kd.R_drewN | apply Kd.R_drew)); exact Kd.R_mono HO_11.out (fun _ hk => by first | exact ⟨hk.2.1, ⟨hk.2.2.1, hk.2.2.2.2.1⟩⟩ | grind)⟩, ⟨by (with_reducible repeat (first | apply Kd.R_alloc | apply Kd.R_drewN | apply Kd.R_drew)); exact Kd.R_mono HO_332000.out (fun _ hk => by first | exact ⟨hk.2.1, ⟨hk.2.2.1, hk.2.2.2.2.1⟩⟩ | grind)⟩, ⟨by (with_reducible repeat (first | apply Kd.R_alloc | apply Kd.R_drewN | apply Kd.R_drew)); exact Kd.R_mono HO_347000.out (fun _ hk => by first | exact ⟨hk.2.1, ⟨hk.2.2.1, hk.2.2.2.2.1⟩⟩ | grind)⟩, ⟨by (with_reducible repeat (first | apply Kd.R_alloc | apply Kd.R_drewN | apply Kd.R_drew)); exact Kd.R_mono HO371.out (fun _ hk => by first | exact ⟨hk.2.1, ⟨hk.2.2.1, hk.2.2.2.1⟩⟩ | grind)⟩, ⟨by (with_reducible repeat (first | refine blk_drewN ?_ _ | refine blk_drew ?_ | refine blk_alloc ?_ _)); exact BK331.out⟩, ⟨by (with_reducible repeat (first | refine blk_drewN ?_ _ | refine blk_drew ?_ | refine blk_alloc ?_ _)); exact BK332.out⟩, ⟨by (with_reducible repeat (first | refine blk_drewN ?_ _ | refine blk_drew ?_ | refine blk_alloc ?_ _)); exact BK346.out⟩, ⟨by (with_reducible repeat (first | refine blk_drewN ?_ _ | refine blk_drew ?_ | refine blk_alloc ?_ _)); exact BK347.out⟩, ⟨by (with_reducible repeat (first | refine blk_drewN ?_ _ | refine blk_drew ?_ | refine blk_alloc ?_ _)); exact BK379.out⟩, ⟨by (with_reducible repeat (first | refine blk_drewN ?_ _ | refine blk_drew ?_ | refine blk_alloc ?_ _)); exact BK380.out⟩, ⟨ue_ HB.out⟩⟩
             ·
              replace c163 := Bool.eq_false_iff.mpr c163
              subst c163
              have H1 : (laws_FnExactPlayLink.j2 kj78 t363 t362 true t361 t339 t340) = some r := by rw [if_neg (show ¬ (false = true) by decide)] at H; exact H
              clear H
              have H := H1
              clear H1
              have H' := Aside0.mk H
              clear H
              have hnb209 := NB379_331.out
              have hnc209 := NB331_379.out
              have hnb210 := NB379_332.out
              have hnc210 := NB332_379.out
              have hnb211 := NB379_346.out
              have hnc211 := NB346_379.out
              have hnb212 := NB379_347.out
              have hnc212 := NB347_379.out
              have hnb213 := NB379_380.out
              have hnc213 := NB380_379.out
              have hcz214_0 : w161.cell? ⟨gb379, 0, none⟩ = some (.slice Ao148 t369.length co148) := (blk_cell BK379.out 0).trans rfl
              have hcz214_1 : w161.cell? ⟨gb379, 1, none⟩ = some (.int .i64 t372) := (blk_cell BK379.out 1).trans rfl
              have hcz214_2 : w161.cell? ⟨gb379, 2, none⟩ = some (.int .i64 t373) := (blk_cell BK379.out 2).trans rfl
              have hfz214_0 := blk_frozen BK379.out 0
              have hfz214_1 := blk_frozen BK379.out 1
              have hfz214_2 := blk_frozen BK379.out 2
              have hnb215 := NB331_332.out
              have hnc215 := NB332_331.out
              have hnb216 := NB331_346.out
              have hnc216 := NB346_331.out
              have hnb217 := NB331_347.out
              have hnc217 := NB347_331.out
              have hnb218 := NB331_380.out
              have hnc218 := NB380_331.out
              have hcz219_0 : w161.cell? ⟨gb331, 0, none⟩ = some (.slice Ao14 t321.length co14) := (blk_cell BK331.out 0).trans rfl
              have hcz219_1 : w161.cell? ⟨gb331, 1, none⟩ = some (.int .i64 t324) := (blk_cell BK331.out 1).trans rfl
              have hcz219_2 : w161.cell? ⟨gb331, 2, none⟩ = some (.int .i64 t325) := (blk_cell BK331.out 2).trans rfl
              have hfz219_0 := blk_frozen BK331.out 0
              have hfz219_1 := blk_frozen BK331.out 1
              have hfz219_2 := blk_frozen BK331.out 2
              go_wp2_with (first | ((with_reducible refine gate_callee (f := 17) rfl ?_); refine goesL_ (some 111) rfl rfl Try.func17 (by kernel_rfl) rfl #[.agg #[.slice Ao148 t369.length co148, .int .i64 t372, .int .i64 t373], .agg #[.slice Ao14 t321.length co14, .int .i64 t324, .int .i64 t325]] rfl ul_ ?_; (with_reducible refine (laws_eqRing.calls kj78 _ _ t369 t372 t373 _ _ t321 t324 t325 false _ ?side1 ?side2 ?side3 ?side4 A162.out).mono ?_); (case side1 => repeat (first | exact (Kd.R_reads' HO371.out).2.2 | (with_reducible refine Kd.C_alloc ?_ _) | (with_reducible refine Kd.C_drewN ?_ _) | (with_reducible refine Kd.C_drew ?_))); (case side2 => exact (Kd.R_reads' HO371.out).2.1); (case side3 => repeat (first | exact (Kd.R_reads' HO_332000.out).2.2 | (with_reducible refine Kd.C_alloc ?_ _) | (with_reducible refine Kd.C_drewN ?_ _) | (with_reducible refine Kd.C_drew ?_))); (case side4 => exact (Kd.R_reads' HO_332000.out).2.1); rintro e w220 ⟨rfl, hb⟩; refine ⟨_, rfl, ?_⟩; have n0_ := Aside0.mk (Kd.R_below (ur_ HO_7.out) hb); have n1_ := Aside0.mk (Kd.R_below (ur_ HO_11.out) hb); have n2_ := Aside0.mk (Kd.R_below (ur_ HO_332000.out) hb); have n3_ := Aside0.mk (Kd.R_below (ur_ HO_347000.out) hb); have n4_ := Aside0.mk (Kd.R_below (ur_ HO368.out) hb); have n5_ := Aside0.mk (Kd.R_below (ur_ HO371.out) hb); have n6_ := Aside0.mk (Kd.R_below (ur_ HO378.out) hb); have n7_ := Aside0.mk (blk_below (g := gb331) (o := .cells #[.slice Ao14 t321.length co14, .int .i64 t324, .int .i64 t325] 24 (0, 0)) (ub_ BK331.out) hb); have n8_ := Aside0.mk (blk_below (g := gb332) (o := .cells #[.int .i64 t326, .int .i64 t327] 26 (0, 0)) (ub_ BK332.out) hb); have n9_ := Aside0.mk (blk_below (g := gb346) (o := .cells #[.slice Ao25 t336.length co25, .int .i64 t339, .int .i64 t340] 24 (0, 0)) (ub_ BK346.out) hb); have n10_ := Aside0.mk (blk_below (g := gb347) (o := .cells #[.int .i64 t341, .int .i64 t342] 26 (0, 0)) (ub_ BK347.out) hb); have n11_ := Aside0.mk (blk_below (g := gb379) (o := .cells #[.slice Ao148 t369.length co148, .int .i64 t372, .int .i64 t373] 24 (0, 0)) (ub_ BK379.out) hb); have n12_ := Aside0.mk (blk_below (g := gb380) (o := .cells #[.int .i64 t374, .int .i64 t375] 26 (0, 0)) (ub_ BK380.out) hb); have n13_ := Aside0.mk (below_step (ue_ HB.out) hb); clear HO_7; clear HO_11; clear HO_332000; clear HO_347000; clear HO368; clear HO371; clear HO378; clear BK331; clear BK332; clear BK346; clear BK347; clear BK379; clear BK380; clear HB; have HO_7 := n0_; have HO_11 := n1_; have HO_332000 := n2_; have HO_347000 := n3_; have HO368 := n4_; have HO371 := n5_; have HO378 := n6_; have BK331 := n7_; have BK332 := n8_; have BK346 := n9_; have BK347 := n10_; have BK379 := n11_; have BK380 := n12_; have HB := n13_; clear n0_ n1_ n2_ n3_ n4_ n5_ n6_ n7_ n8_ n9_ n10_ n11_ n12_ n13_; (try clear hb); (try clear hb2); (try clear hk); (try clear hi)))
              go_meet
              case rel => exact ⟨_, (true), (by first | rfl | (simp; done) | (simp [*]; done)), H', ⟨by have := HJ7.out; have := HJ78.out; first | omega | exact Nat.le_refl _⟩, ⟨by (with_reducible repeat (first | apply Kd.R_alloc | apply Kd.R_drewN | apply Kd.R_drew)); exact Kd.R_mono HO_11.out (fun _ hk => by first | exact ⟨hk.2.1, ⟨hk.2.2.1, hk.2.2.2.2.1⟩⟩ | grind)⟩, ⟨by (with_reducible repeat (first | apply Kd.R_alloc | apply Kd.R_drewN | apply Kd.R_drew)); exact Kd.R_mono HO_332000.out (fun _ hk => by first | exact ⟨hk.2.1, ⟨hk.2.2.1, hk.2.2.2.2.1⟩⟩ | grind)⟩, ⟨by (with_reducible repeat (first | apply Kd.R_alloc | apply Kd.R_drewN | apply Kd.R_drew)); exact Kd.R_mono HO_347000.out (fun _ hk => by first | exact ⟨hk.2.1, ⟨hk.2.2.1, hk.2.2.2.2.1⟩⟩ | grind)⟩, ⟨by (with_reducible repeat (first | apply Kd.R_alloc | apply Kd.R_drewN | apply Kd.R_drew)); exact Kd.R_mono HO371.out (fun _ hk => by first | exact ⟨hk.2.1, ⟨hk.2.2.1, hk.2.2.2.1⟩⟩ | grind)⟩, ⟨by (with_reducible repeat (first | refine blk_drewN ?_ _ | refine blk_drew ?_ | refine blk_alloc ?_ _)); exact BK331.out⟩, ⟨by (with_reducible repeat (first | refine blk_drewN ?_ _ | refine blk_drew ?_ | refine blk_alloc ?_ _)); exact BK332.out⟩, ⟨by (with_reducible repeat (first | refine blk_drewN ?_ _ | refine blk_drew ?_ | refine blk_alloc ?_ _)); exact BK346.out⟩, ⟨by (with_reducible repeat (first | refine blk_drewN ?_ _ | refine blk_drew ?_ | refine blk_alloc ?_ _)); exact BK347.out⟩, ⟨by (with_reducible repeat (first | refine blk_drewN ?_ _ | refine blk_drew ?_ | refine blk_alloc ?_ _)); exact BK379.out⟩, ⟨by (with_reducible repeat (first | refine blk_drewN ?_ _ | refine blk_drew ?_ | refine blk_alloc ?_ _)); exact BK380.out⟩, ⟨ue_ HB.out⟩⟩
            case rest =>
             clear HC133
             try clear c1
             try clear c2
             try clear p2
             try clear c3
             try clear c3b0
             try clear c3b1
             try clear c4
             try clear c5
             try clear c6
             try clear c7
             try clear c8
             try clear c9
             try clear c10
             try clear c11
             try clear c12
             try clear c13
             try clear c14
             try clear c15
             try clear c16
             try clear c17
             try clear c18
             try clear c19
             try clear c20
             try clear c21
             try clear c22
             try clear c23
             try clear c26
             try clear c27
             try clear c28
             try clear c31
             try clear c32
             try clear c36
             try clear c38
             try clear c40
             try clear c41
             try clear c42
             try clear c44
             try clear c45
             try clear c48
             try clear c54
             try clear c55
             try clear c56
             try clear c58
             try clear c59
             try clear c62
             try clear c66
             try clear c67
             try clear c68
             try clear c70
             try clear c71
             try clear c74
             try clear c77
             try clear c83
             try clear c83b0
             try clear c85
             try clear c87
             try clear c89
             try clear c90
             try clear c91
             try clear c93
             try clear c94
             try clear c97
             try clear c103
             try clear c104
             try clear c105
             try clear c107
             try clear c108
             try clear c111
             try clear c115
             try clear c116
             try clear c117
             try clear c119
             try clear c120
             try clear c123
             try clear c127
             try clear c127b0
             try clear c129
             try clear c129b0
             try clear c130
             try clear c130b0
             try clear c130b1
             try clear c134
             try clear c135
             try clear c136
             try clear c149
             try clear c150
             try clear c151
             try clear c152
             try clear c153
             try clear c156
             try clear c157
             try clear c158
             try clear c159
             try clear c163
             try clear c165
             try clear c167
             try clear c168
             try clear c169
             try clear c170
             try clear c171
             try clear c173
             try clear c174
             try clear c175
             try clear c176
             try clear c179
             try clear c180
             try clear c181
             try clear c183
             try clear c184
             try clear c189
             try clear c190
             try clear c191
             try clear c192
             try clear c193
             try clear c195
             try clear c196
             try clear c197
             try clear c198
             try clear c201
             try clear c202
             try clear c203
             try clear c205
             try clear c206
             try clear c209
             try clear c210
             try clear c211
             try clear c212
             try clear c213
             try clear c215
             try clear c216
             try clear c217
             try clear c218
             try clear hcz106_0
             try clear hcz106_1
             try clear hcz106_2
             try clear hcz109_0
             try clear hcz109_1
             try clear hcz109_2
             try clear hcz112_0
             try clear hcz112_1
             try clear hcz113_0
             try clear hcz113_1
             try clear hcz118_0
             try clear hcz118_1
             try clear hcz118_2
             try clear hcz121_0
             try clear hcz121_1
             try clear hcz121_2
             try clear hcz137_0
             try clear hcz137_1
             try clear hcz137_2
             try clear hcz141_0
             try clear hcz141_1
             try clear hcz141_2
             try clear hcz154_0
             try clear hcz154_1
             try clear hcz154_2
             try clear hcz160_0
             try clear hcz160_1
             try clear hcz16_0
             try clear hcz16_1
             try clear hcz16_2
             try clear hcz172_0
             try clear hcz172_1
             try clear hcz172_2
             try clear hcz177_0
             try clear hcz177_1
             try clear hcz177_2
             try clear hcz182_0
             try clear hcz182_1
             try clear hcz185_0
             try clear hcz185_1
             try clear hcz18_0
             try clear hcz18_1
             try clear hcz194_0
             try clear hcz194_1
             try clear hcz194_2
             try clear hcz199_0
             try clear hcz199_1
             try clear hcz199_2
             try clear hcz204_0
             try clear hcz204_1
             try clear hcz207_0
             try clear hcz207_1
             try clear hcz214_0
             try clear hcz214_1
             try clear hcz214_2
             try clear hcz219_0
             try clear hcz219_1
             try clear hcz219_2
             try clear hcz29_0
             try clear hcz29_1
             try clear hcz29_2
             try clear hcz33_0
             try clear hcz33_1
             try clear hcz43_0
             try clear hcz43_1
             try clear hcz43_2
             try clear hcz46_0
             try clear hcz46_1
             try clear hcz46_2
             try clear hcz49_0
             try clear hcz49_1
             try clear hcz50_0
             try clear hcz50_1
             try clear hcz57_0
             try clear hcz57_1
             try clear hcz57_2
             try clear hcz60_0
             try clear hcz60_1
             try clear hcz60_2
             try clear hcz63_0
             try clear hcz63_1
             try clear hcz64_0
             try clear hcz64_1
             try clear hcz69_0
             try clear hcz69_1
             try clear hcz69_2
             try clear hcz72_0
             try clear hcz72_1
             try clear hcz72_2
             try clear hcz92_0
             try clear hcz92_1
             try clear hcz92_2
             try clear hcz95_0
             try clear hcz95_1
             try clear hcz95_2
             try clear hcz98_0
             try clear hcz98_1
             try clear hcz99_0
             try clear hcz99_1
             try clear hfz106_0
             try clear hfz106_1
             try clear hfz106_2
             try clear hfz109_0
             try clear hfz109_1
             try clear hfz109_2
             try clear hfz112_0
             try clear hfz112_1
             try clear hfz113_0
             try clear hfz113_1
             try clear hfz118_0
             try clear hfz118_1
             try clear hfz118_2
             try clear hfz121_0
             try clear hfz121_1
             try clear hfz121_2
             try clear hfz137_0
             try clear hfz137_1
             try clear hfz137_2
             try clear hfz141_0
             try clear hfz141_1
             try clear hfz141_2
             try clear hfz154_0
             try clear hfz154_1
             try clear hfz154_2
             try clear hfz160_0
             try clear hfz160_1
             try clear hfz16_0
             try clear hfz16_1
             try clear hfz16_2
             try clear hfz172_0
             try clear hfz172_1
             try clear hfz172_2
             try clear hfz177_0
             try clear hfz177_1
             try clear hfz177_2
             try clear hfz182_0
             try clear hfz182_1
             try clear hfz185_0
             try clear hfz185_1
             try clear hfz18_0
             try clear hfz18_1
             try clear hfz194_0
             try clear hfz194_1
             try clear hfz194_2
             try clear hfz199_0
             try clear hfz199_1
             try clear hfz199_2
             try clear hfz204_0
             try clear hfz204_1
             try clear hfz207_0
             try clear hfz207_1
             try clear hfz214_0
             try clear hfz214_1
             try clear hfz214_2
             try clear hfz219_0
             try clear hfz219_1
             try clear hfz219_2
             try clear hfz29_0
             try clear hfz29_1
             try clear hfz29_2
             try clear hfz33_0
             try clear hfz33_1
             try clear hfz43_0
             try clear hfz43_1
             try clear hfz43_2
             try clear hfz46_0
             try clear hfz46_1
             try clear hfz46_2
             try clear hfz49_0
             try clear hfz49_1
             try clear hfz50_0
             try clear hfz50_1
             try clear hfz57_0
             try clear hfz57_1
             try clear hfz57_2
             try clear hfz60_0
             try clear hfz60_1
             try clear hfz60_2
             try clear hfz63_0
             try clear hfz63_1
             try clear hfz64_0
             try clear hfz64_1
             try clear hfz69_0
             try clear hfz69_1
             try clear hfz69_2
             try clear hfz72_0
             try clear hfz72_1
             try clear hfz72_2
             try clear hfz92_0
             try clear hfz92_1
             try clear hfz92_2
             try clear hfz95_0
             try clear hfz95_1
             try clear hfz95_2
             try clear hfz98_0
             try clear hfz98_1
             try clear hfz99_0
             try clear hfz99_1
             try clear p2
             obtain ⟨kq, x124_132, rfl, HA, HJ132, HO_11, HO_332000, HO_347000, HO_380000, BK331, BK332, BK346, BK347, BK379, BK380, HB⟩ := hcut
             have hl11_132 := (Kd.R_reads' HO_11.out).1
             rw [hl11_132] at HO_11
             (try simp only [hl11_132])
             (try simp only [hl11_132] at BK331)
             (try simp only [hl11_132] at BK332)
             (try simp only [hl11_132] at BK346)
             (try simp only [hl11_132] at BK347)
             (try simp only [hl11_132] at BK379)
             (try simp only [hl11_132] at BK380)
             (try simp only [hl11_132] at HO_332000)
             (try simp only [hl11_132] at HO_347000)
             (try simp only [hl11_132] at HO_380000)
             have hl347000_132 := (Kd.R_reads' HO_347000.out).1
             rw [hl347000_132] at HO_347000
             (try simp only [hl347000_132])
             (try simp only [hl347000_132] at BK331)
             (try simp only [hl347000_132] at BK332)
             (try simp only [hl347000_132] at BK346)
             (try simp only [hl347000_132] at BK347)
             (try simp only [hl347000_132] at BK379)
             (try simp only [hl347000_132] at BK380)
             (try simp only [hl347000_132] at HO_11)
             (try simp only [hl347000_132] at HO_332000)
             (try simp only [hl347000_132] at HO_380000)
             cases kq with
             | zero => exact absurd HA.out (by simp [laws_FnExactPlayLink.j2])
             | succ kj132 =>
              have H := HA.out
              clear HA
              simp only [laws_FnExactPlayLink.j2] at H
              by_cases c221 : x124_132 = true
              ·
               subst c221
               have H1 : (some false) = some r := by rw [if_pos rfl] at H; exact H
               clear H
               have H := H1
               clear H1
               exact absurd ((Option.some.inj H).trans hT.out) (by decide)
              ·
               replace c221 := Bool.eq_false_iff.mpr c221
               subst c221
               have H1 : ((laws_heldRing.f kj132 t361 t339 t340 1).bind fun t384 => (if t384 < 0 then (some false) else ((laws_heldIntS.f kj132 t363 t384).bind fun t385 => (if t385 < 0 then (some false) else (if t385 = t362 then (some true) else (some false)))))) = some r := by rw [if_neg (show ¬ (false = true) by decide)] at H; exact H
               clear H
               have H := H1
               clear H1
               replace H := Option.bind_eq_some_iff.mp H
               obtain ⟨t384, A2220, H⟩ := H
               replace H : (if t384 < 0 then (some false) else ((laws_heldIntS.f kj132 t363 t384).bind fun t385 => (if t385 < 0 then (some false) else (if t385 = t362 then (some true) else (some false))))) = some r := H
               have A222 := Aside0.mk A2220
               clear A2220
               by_cases c223 : t384 < 0
               ·
                rw [if_pos c223] at H
                have c223b0 : decide (t384 < 0) = true := decide_eq_true c223
                clear c223
                exact absurd ((Option.some.inj H).trans hT.out) (by decide)
               ·
                rw [if_neg c223] at H
                have c223b0 : decide (t384 < 0) = false := decide_eq_false c223
                clear c223
                replace H := Option.bind_eq_some_iff.mp H
                obtain ⟨t385, A2240, H⟩ := H
                replace H : (if t385 < 0 then (some false) else (if t385 = t362 then (some true) else (some false))) = some r := H
                have A224 := Aside0.mk A2240
                clear A2240
                by_cases c225 : t385 < 0
                ·
                 rw [if_pos c225] at H
                 have c225b0 : decide (t385 < 0) = true := decide_eq_true c225
                 clear c225
                 exact absurd ((Option.some.inj H).trans hT.out) (by decide)
                ·
                 rw [if_neg c225] at H
                 have c225b0 : decide (t385 < 0) = false := decide_eq_false c225
                 clear c225
                 by_cases c226 : t385 = t362
                 ·
                  rw [if_pos c226] at H
                  have c226b0 : (t385 == t362) = true := beq_iff_eq.mpr c226
                  have c226b1 : (t385 != t362) = false := bne_eq_false_iff_eq.mpr c226
                  clear c226
                  obtain rfl := Option.some.inj H
                  have hnb227 := NB346_331.out
                  have hnc227 := NB331_346.out
                  have hnb228 := NB346_332.out
                  have hnc228 := NB332_346.out
                  have hnb229 := NB346_347.out
                  have hnc229 := NB347_346.out
                  have hnb230 := NB346_379.out
                  have hnc230 := NB379_346.out
                  have hnb231 := NB346_380.out
                  have hnc231 := NB380_346.out
                  have hcz232_0 : wc.cell? ⟨gb346, 0, none⟩ = some (.slice Ao25 t361.length co25) := (blk_cell BK346.out 0).trans rfl
                  have hcz232_1 : wc.cell? ⟨gb346, 1, none⟩ = some (.int .i64 t339) := (blk_cell BK346.out 1).trans rfl
                  have hcz232_2 : wc.cell? ⟨gb346, 2, none⟩ = some (.int .i64 t340) := (blk_cell BK346.out 2).trans rfl
                  have hfz232_0 := blk_frozen BK346.out 0
                  have hfz232_1 := blk_frozen BK346.out 1
                  have hfz232_2 := blk_frozen BK346.out 2
                  go_wp2_with (first | ((with_reducible refine gate_callee (f := 22) rfl ?_); refine goesL_ (some 127) rfl rfl Try.func22 (by kernel_rfl) rfl #[.agg #[.slice Ao25 t361.length co25, .int .i64 t339, .int .i64 t340], .int .i64 1] rfl ul_ ?_; (with_reducible refine (laws_heldRing.calls kj132 _ _ t361 t339 t340 1 t384 _ ?side1 ?side2 A222.out).mono ?_); (case side1 => repeat (first | exact (Kd.R_reads' HO_347000.out).2.2 | (with_reducible refine Kd.C_alloc ?_ _) | (with_reducible refine Kd.C_drewN ?_ _) | (with_reducible refine Kd.C_drew ?_))); (case side2 => exact (Kd.R_reads' HO_347000.out).2.1); rintro e w233 ⟨rfl, hb⟩; refine ⟨_, rfl, ?_⟩; have n0_ := Aside0.mk (Kd.R_below (ur_ HO_11.out) hb); have n1_ := Aside0.mk (Kd.R_below (ur_ HO_332000.out) hb); have n2_ := Aside0.mk (Kd.R_below (ur_ HO_347000.out) hb); have n3_ := Aside0.mk (Kd.R_below (ur_ HO_380000.out) hb); have n4_ := Aside0.mk (blk_below (g := gb331) (o := .cells #[.slice Ao14 t321.length co14, .int .i64 t324, .int .i64 t325] 24 (0, 0)) (ub_ BK331.out) hb); have n5_ := Aside0.mk (blk_below (g := gb332) (o := .cells #[.int .i64 t326, .int .i64 t327] 26 (0, 0)) (ub_ BK332.out) hb); have n6_ := Aside0.mk (blk_below (g := gb346) (o := .cells #[.slice Ao25 t361.length co25, .int .i64 t339, .int .i64 t340] 24 (0, 0)) (ub_ BK346.out) hb); have n7_ := Aside0.mk (blk_below (g := gb347) (o := .cells #[.int .i64 t341, .int .i64 t342] 26 (0, 0)) (ub_ BK347.out) hb); have n8_ := Aside0.mk (blk_below (g := gb379) (o := .cells #[.slice Ao148 t369.length co148, .int .i64 t372, .int .i64 t373] 24 (0, 0)) (ub_ BK379.out) hb); have n9_ := Aside0.mk (blk_below (g := gb380) (o := .cells #[.int .i64 t374, .int .i64 t375] 26 (0, 0)) (ub_ BK380.out) hb); have n10_ := Aside0.mk (below_step (ue_ HB.out) hb); clear HO_11; clear HO_332000; clear HO_347000; clear HO_380000; clear BK331; clear BK332; clear BK346; clear BK347; clear BK379; clear BK380; clear HB; have HO_11 := n0_; have HO_332000 := n1_; have HO_347000 := n2_; have HO_380000 := n3_; have BK331 := n4_; have BK332 := n5_; have BK346 := n6_; have BK347 := n7_; have BK379 := n8_; have BK380 := n9_; have HB := n10_; clear n0_ n1_ n2_ n3_ n4_ n5_ n6_ n7_ n8_ n9_ n10_; (try clear hb); (try clear hb2); (try clear hk); (try clear hi)) | ((with_reducible refine gate_callee (f := 23) rfl ?_); refine goesL_ (some 132) rfl rfl Try.func23 (by kernel_rfl) rfl #[.slice Ao139 t363.length co139, .int .i64 t384] rfl ul_ ?_; (with_reducible refine (laws_heldIntS.calls kj132 _ _ t363 t384 t385 _ ?side1 ?side2 A224.out).mono ?_); (case side1 => repeat (first | exact (Kd.R_reads' HO_11.out).2.2 | (with_reducible refine Kd.C_alloc ?_ _) | (with_reducible refine Kd.C_drewN ?_ _) | (with_reducible refine Kd.C_drew ?_))); (case side2 => exact (Kd.R_reads' HO_11.out).2.1); rintro e w' ⟨rfl, ⟨nd, rfl⟩⟩; refine ⟨_, rfl, ?_⟩))
                  go_ret
                  exact ⟨by first | rfl | (simp [errW_none, errW_some] <;> rfl) | (simp [*, errW_none, errW_some] <;> rfl), ue_ HB.out⟩
                 ·
                  rw [if_neg c226] at H
                  have c226b0 : (t385 == t362) = false := beq_eq_false_iff_ne.mpr c226
                  have c226b1 : (t385 != t362) = true := bne_iff_ne.mpr c226
                  exact absurd ((Option.some.inj H).trans hT.out) (by decide)
           ·
            rw [if_neg c130] at H
            have c130b0 : (t365 == t362) = false := beq_eq_false_iff_ne.mpr c130
            have c130b1 : (t365 != t362) = true := bne_iff_ne.mpr c130
            exact absurd ((Option.some.inj H).trans hT.out) (by decide)
     ·
      replace c77 := Bool.eq_false_iff.mpr c77
      subst c77
      have H1 : (some false) = some r := by rw [if_neg (show ¬ (false = true) by decide)] at H; exact H
      clear H
      have H := H1
      clear H1
      exact absurd ((Option.some.inj H).trans hT.out) (by decide)

/-- THE ONE PURE STATEMENT of laws_FnExactPlayLink: yours. -/
def laws_FnExactPlayLink.Pure : Prop := ∀ (a0 : Int) (l1 : List Int), (Lit.int .i64 a0).wf = true → l1.length ≤ maxLen → l1.length * 8 ≤ 140737488351232 → (∀ x ∈ l1, (Lit.int .i64 x).wf = true) → ∃ k, laws_FnExactPlayLink.f k a0 l1 = some true
theorem laws_FnExactPlayLink.walk (P : laws_FnExactPlayLink.Pure) (a0 : Int) (a1 : Option Addr) (len1 cap1 : Nat) (z1 : List Int) (w : World) (w0 : (Lit.int .i64 a0).wf = true) (w1 : (a1 = none ∧ len1 = 0 ∧ cap1 = 0 ∧ z1 = []) ∨ ∃ x, a1 = some x ∧ len1 ≤ cap1 ∧ cap1 ≤ maxLen ∧ z1.length = cap1 ∧ (∀ i, i < z1.length → w.cell? (x.add i) = some (.int .i64 (z1.getD i 0))) ∧ ∀ n ∈ z1, (Lit.int .i64 n).wf = true) (y1 : len1 * 8 ≤ 140737488351232) :
  Calls Try.prog 3 #[.int .i64 a0, .slice a1 len1 cap1] w fun e w' => e = .returned (.bool true) ∧ Below w.heap.size w w' := by
 obtain ⟨l1, rfl, hr1, hm1, hw1, hc1⟩ := ReadsInt.ofRowC w1
 obtain ⟨k, h⟩ := P a0 l1 w0 hm1 y1 hw1
 refine (laws_FnExactPlayLink.calls k a0 _ _ l1 true w (Kd.C_of_reads (d := (0 : Int)) (h1 := fun _ => rfl) hr1) hc1 (Aside0.mk rfl) h).mono ?_
 rintro e w' ⟨rfl, hd⟩
 exact ⟨rfl, hd⟩

end Go.Proofs.Ytcflalomjehiiaa.QFnExactPlayLink
