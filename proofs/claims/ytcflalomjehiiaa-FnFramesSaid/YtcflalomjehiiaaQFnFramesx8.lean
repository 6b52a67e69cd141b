/- The machine side of a law: Lean functions with the Go functions' answers and the walks that show it. No condition. -/
import Derived.Test.YtcflalomjehiiaaQFnFramesx0
import Derived.Test.YtcflalomjehiiaaQFnFramesx1
import Derived.Test.YtcflalomjehiiaaQFnFramesx2
import Derived.Test.YtcflalomjehiiaaQFnFramesx3
import Derived.Test.YtcflalomjehiiaaQFnFramesx4
import Derived.Test.YtcflalomjehiiaaQFnFramesx5
import Derived.Test.YtcflalomjehiiaaQFnFramesx7
namespace Go.Proofs.Ytcflalomjehiiaa.QFnFrames
open Go.RowKit Go.Proofs.YtcflalomjehiiaaW.PrintWords Go.Proofs.YtcflalomjehiiaaW.PrintLast Go.Proofs.YtcflalomjehiiaaW.PrintMore
attribute [local go_sem] max2_int min2_int max_two min_two max_three min_three max_four min_four   -- for this text's walks alone
set_option linter.unusedVariables false
set_option linter.unusedSimpArgs false

attribute [local go_sem high] eqA61
/-! ### laws_FnFrames: function 7 -/
def laws_FnFrames.j0 : Nat → List Int → List Int → Bool → Int → Int → Int → Int → Option (Bool)
 | 0, _, _, _, _, _, _, _ => none
 | k + 1, x0, x4, x58, x397000, x397001, x397002, x397003 => if x58 = true then (some false) else ((some (([] : List Int) : List Int)).bind fun y422 => (if y422.length + x4.length < 140737488355328 then ((some (y422 ++ x4 : List Int)).bind fun y425 => ((laws_at.f x0 1).bind fun t428 => (if (x4.length : Int) = 0 then (none) else (if 0 ≤ (Int.tmod t428 (x4.length : Int)) then (if (Int.tmod t428 (x4.length : Int)) < (y425.length : Int) then ((laws_at.f x0 2).bind fun t430 => ((impl_TakeFrame.f k (y425.set ((Int.tmod t428 (x4.length : Int)) : Int).toNat (Go.bits .xor .u8 (rd y425 (Int.tmod t428 (x4.length : Int))) ((wrap64 (1 + (Int.tmod t430 255))) % 256)))).bind fun bt432 => (if bt432.2.2.2.2 ≤ 0 then (some true) else (some (!(bt432.1 == x397000) || (!(bt432.2.1 == x397001) || (!(bt432.2.2.1 == x397002) || (!(bt432.2.2.2.1 == x397003))))))))) else (none)) else (none))))) else (none)))
def laws_FnFrames.f (k : Nat) (l0 : List Int) : Option (Bool) := (laws_big.f l0).bind fun t391 => (if t391 = true then (some true) else ((spec_DrawPutFrame.f k l0).bind fun bt392 => ((impl_PutFrame.f k bt392.1 bt392.2.1 bt392.2.2.1 bt392.2.2.2).bind fun t397 => ((spec_PutFrame.f k bt392.1 bt392.2.1 bt392.2.2.1 bt392.2.2.2).bind fun t400 => ((laws_sameBytes.f k t397 t400).bind fun t403 => (if t403 = true then ((spec_FrameOk.f bt392.1 bt392.2.1 bt392.2.2.1 bt392.2.2.2).bind fun t404 => (if t404 = true then ((impl_TakeFrame.f k t397).bind fun bt405 => ((laws_at.f l0 0).bind fun t411 => (if (t397.length : Int) = 0 then (none) else (if 0 ≤ (Int.tmod t411 (t397.length : Int)) then (if (Int.tmod t411 (t397.length : Int)) ≤ (t397.length : Int) then ((impl_TakeFrame.f k (t397.take ((Int.tmod t411 (t397.length : Int)) : Int).toNat)).bind fun bt416 => (if (!(bt405.1 == bt392.1) || (!(bt405.2.1 == bt392.2.1) || (!(bt405.2.2.1 == bt392.2.2.1) || (!(bt405.2.2.2.1 == bt392.2.2.2))))) = true then (laws_FnFrames.j0 k l0 t397 true bt392.1 bt392.2.1 bt392.2.2.1 bt392.2.2.2) else (if bt405.2.2.2.2 = (t397.length : Int) then (laws_FnFrames.j0 k l0 t397 (bt416.2.2.2.2 != 0) bt392.1 bt392.2.1 bt392.2.2.1 bt392.2.2.2) else (laws_FnFrames.j0 k l0 t397 true bt392.1 bt392.2.1 bt392.2.2.1 bt392.2.2.2)))) else (none)) else (none))))) else (some ((t397.length : Int) == 0)))) else (some false)))))))
theorem laws_FnFrames.mono_l : ∀ k, (∀ y0 y1 y2 y3 y4 y5 y6, LeO (laws_FnFrames.j0 k y0 y1 y2 y3 y4 y5 y6) (laws_FnFrames.j0 (k + 1) y0 y1 y2 y3 y4 y5 y6))
 | 0 => fun _ _ _ _ _ _ _ r h => by simp [laws_FnFrames.j0] at h
 | k + 1 => by
  have ih0 := laws_FnFrames.mono_l k
  ·
   intro y0 y1 y2 y3 y4 y5 y6
   unfold laws_FnFrames.j0
   repeat' first
   | (with_reducible exact ih0 _ _ _ _ _ _ _)
   | (with_reducible exact impl_PutFrame.mono _ _ _ _ _)
   | (with_reducible exact impl_TakeFrame.mono _ _)
   | (with_reducible exact laws_sameBytes.mono _ _ _)
   | (with_reducible exact spec_DrawPutFrame.mono _ _)
   | (with_reducible exact spec_PutFrame.mono _ _ _ _ _)
   | (with_reducible exact LeO.refl _)
   | (with_reducible exact LeO.none _)
   | (with_reducible refine LeO.ite ?_ ?_)
   | (with_reducible refine LeO.bind ?_ (fun _ => ?_))
   | exact ih0 _ _ _ _ _ _ _
   | exact impl_PutFrame.mono _ _ _ _ _
   | exact impl_TakeFrame.mono _ _
   | exact laws_sameBytes.mono _ _ _
   | exact spec_DrawPutFrame.mono _ _
   | exact spec_PutFrame.mono _ _ _ _ _
   | exact LeO.none _
   | refine LeO.ite ?_ ?_
   | refine LeO.bind ?_ (fun _ => ?_)
theorem laws_FnFrames.mono : ∀ a0 k, LeO (laws_FnFrames.f k a0) (laws_FnFrames.f (k + 1) a0) := by
 intro a0 k
 have ih0 := laws_FnFrames.mono_l k
 unfold laws_FnFrames.f
 repeat' first
   | (with_reducible exact ih0 _ _ _ _ _ _ _)
   | (with_reducible exact impl_PutFrame.mono _ _ _ _ _)
   | (with_reducible exact impl_TakeFrame.mono _ _)
   | (with_reducible exact laws_sameBytes.mono _ _ _)
   | (with_reducible exact spec_DrawPutFrame.mono _ _)
   | (with_reducible exact spec_PutFrame.mono _ _ _ _ _)
   | (with_reducible exact LeO.refl _)
   | (with_reducible exact LeO.none _)
   | (with_reducible refine LeO.ite ?_ ?_)
   | (with_reducible refine LeO.bind ?_ (fun _ => ?_))
   | exact ih0 _ _ _ _ _ _ _
   | exact impl_PutFrame.mono _ _ _ _ _
   | exact impl_TakeFrame.mono _ _
   | exact laws_sameBytes.mono _ _ _
   | exact spec_DrawPutFrame.mono _ _
   | exact spec_PutFrame.mono _ _ _ _ _
   | exact LeO.none _
   | refine LeO.ite ?_ ?_
   | refine LeO.bind ?_ (fun _ => ?_)
def laws_FnFrames.T15 : Bool × List (List Nat × List Nat) := (true, [([], []), ([], []), ([], []), ([], []), ([2, 3], [2, 3]), ([4], [4]), ([], []), ([6], [6]), ([7], [7]), ([8], [8]), ([9], [9]), ([5, 10], [5, 10]), ([0, 1, 0, 1, 2, 3, 4, 5, 6, 7, 8, 9, 10, 11], [0, 1]), ([12, 11, 7, 0, 1, 2, 3, 4, 5, 6, 7, 8, 9, 10, 11], [11, 12])])
def laws_FnFrames.B15 : List Nat := [0, 0, 0, 0, 12, 28, 0, 64, 192, 448, 960, 2044, 4095, 8191]
theorem laws_FnFrames.tab15 : rtab .any (opsOf Try.f7 15) = laws_FnFrames.T15 := by kernel_rfl
theorem laws_FnFrames.bits15 : waitsOk laws_FnFrames.T15.2 laws_FnFrames.B15 = true := by kernel_rfl
set_option maxHeartbeats 8000000 in
set_option maxRecDepth 100000 in
theorem laws_FnFrames.calls (k : Nat) (A0 : Option Addr) (c0 : Nat) (l0 : List Int) (r : Bool) (w : World) (hr0 : Kd.C (Kd.int .u8) w A0 l0.length l0) (hc0 : l0.length ≤ c0) (hT : Aside0 (r = true)) (h : laws_FnFrames.f k l0 = some r) :
  Calls Try.prog 7 #[.slice A0 l0.length c0] w fun e w' => e = .returned (.bool r) ∧ Below w.heap.size w w' := by
 have hu61 := Try.underlying61
 have HR0 := Aside0.mk hr0
 have HC0 := Aside0.mk hc0
 clear hr0 hc0
 have HB := am_ (Below.refl w.heap.size w)
 have H : ((laws_big.f l0).bind fun t391 => (if t391 = true then (some true) else ((spec_DrawPutFrame.f k l0).bind fun bt392 => ((impl_PutFrame.f k bt392.1 bt392.2.1 bt392.2.2.1 bt392.2.2.2).bind fun t397 => ((spec_PutFrame.f k bt392.1 bt392.2.1 bt392.2.2.1 bt392.2.2.2).bind fun t400 => ((laws_sameBytes.f k t397 t400).bind fun t403 => (if t403 = true then ((spec_FrameOk.f bt392.1 bt392.2.1 bt392.2.2.1 bt392.2.2.2).bind fun t404 => (if t404 = true then ((impl_TakeFrame.f k t397).bind fun bt405 => ((laws_at.f l0 0).bind fun t411 => (if (t397.length : Int) = 0 then (none) else (if 0 ≤ (Int.tmod t411 (t397.length : Int)) then (if (Int.tmod t411 (t397.length : Int)) ≤ (t397.length : Int) then ((impl_TakeFrame.f k (t397.take ((Int.tmod t411 (t397.length : Int)) : Int).toNat)).bind fun bt416 => (if (!(bt405.1 == bt392.1) || (!(bt405.2.1 == bt392.2.1) || (!(bt405.2.2.1 == bt392.2.2.1) || (!(bt405.2.2.2.1 == bt392.2.2.2))))) = true then (laws_FnFrames.j0 k l0 t397 true bt392.1 bt392.2.1 bt392.2.2.1 bt392.2.2.2) else (if bt405.2.2.2.2 = (t397.length : Int) then (laws_FnFrames.j0 k l0 t397 (bt416.2.2.2.2 != 0) bt392.1 bt392.2.1 bt392.2.2.1 bt392.2.2.2) else (laws_FnFrames.j0 k l0 t397 true bt392.1 bt392.2.1 bt392.2.2.1 bt392.2.2.2)))) else (none)) else (none))))) else (some ((t397.length : Int) == 0)))) else (some false)))))))) = some r := h
 clear h
 replace H := Option.bind_eq_some_iff.mp H
 obtain ⟨t391, A20, H⟩ := H
 replace H : (if t391 = true then (some true) else ((spec_DrawPutFrame.f k l0).bind fun bt392 => ((impl_PutFrame.f k bt392.1 bt392.2.1 bt392.2.2.1 bt392.2.2.2).bind fun t397 => ((spec_PutFrame.f k bt392.1 bt392.2.1 bt392.2.2.1 bt392.2.2.2).bind fun t400 => ((laws_sameBytes.f k t397 t400).bind fun t403 => (if t403 = true then ((spec_FrameOk.f bt392.1 bt392.2.1 bt392.2.2.1 bt392.2.2.2).bind fun t404 => (if t404 = true then ((impl_TakeFrame.f k t397).bind fun bt405 => ((laws_at.f l0 0).bind fun t411 => (if (t397.length : Int) = 0 then (none) else (if 0 ≤ (Int.tmod t411 (t397.length : Int)) then (if (Int.tmod t411 (t397.length : Int)) ≤ (t397.length : Int) then ((impl_TakeFrame.f k (t397.take ((Int.tmod t411 (t397.length : Int)) : Int).toNat)).bind fun bt416 => (if (!(bt405.1 == bt392.1) || (!(bt405.2.1 == bt392.2.1) || (!(bt405.2.2.1 == bt392.2.2.1) || (!(bt405.2.2.2.1 == bt392.2.2.2))))) = true then (laws_FnFrames.j0 k l0 t397 true bt392.1 bt392.2.1 bt392.2.2.1 bt392.2.2.2) else (if bt405.2.2.2.2 = (t397.length : Int) then (laws_FnFrames.j0 k l0 t397 (bt416.2.2.2.2 != 0) bt392.1 bt392.2.1 bt392.2.2.1 bt392.2.2.2) else (laws_FnFrames.j0 k l0 t397 true bt392.1 bt392.2.1 bt392.2.2.1 bt392.2.2.2)))) else (none)) else (none))))) else (some ((t397.length : Int) == 0)))) else (some false))))))) = some r := H
 have A2 := Aside0.mk A20
 clear A20
 by_cases c3 : t391 = true
 ·
  subst c3
  have H1 : (some true) = some r := by rw [if_pos rfl] at H; exact H
  clear H
  have H := H1
  clear H1
  obtain rfl := Option.some.inj H
  go_enter Try.func7, Try.ntmps7
  go_wp2_with (first | ((with_reducible refine gate_callee (f := 31) rfl ?_); refine goesL_ (some 14) rfl rfl Try.func31 (by kernel_rfl) rfl #[.slice A0 l0.length c0] rfl ul_ ?_; (with_reducible refine (laws_big.calls _ _ l0 true _ ?side1 ?side2 A2.out).mono ?_); (case side1 => repeat (first | exact HR0.out | (with_reducible refine Kd.C_alloc ?_ _) | (with_reducible refine Kd.C_drewN ?_ _) | (with_reducible refine Kd.C_drew ?_))); (case side2 => exact HC0.out); rintro e w' ⟨rfl, ⟨nd, rfl⟩⟩; refine ⟨_, rfl, ?_⟩))
  go_ret
  exact ⟨ew_, ue_ HB.out⟩
 ·
  replace c3 := Bool.eq_false_iff.mpr c3
  subst c3
  have H1 : ((spec_DrawPutFrame.f k l0).bind fun bt392 => ((impl_PutFrame.f k bt392.1 bt392.2.1 bt392.2.2.1 bt392.2.2.2).bind fun t397 => ((spec_PutFrame.f k bt392.1 bt392.2.1 bt392.2.2.1 bt392.2.2.2).bind fun t400 => ((laws_sameBytes.f k t397 t400).bind fun t403 => (if t403 = true then ((spec_FrameOk.f bt392.1 bt392.2.1 bt392.2.2.1 bt392.2.2.2).bind fun t404 => (if t404 = true then ((impl_TakeFrame.f k t397).bind fun bt405 => ((laws_at.f l0 0).bind fun t411 => (if (t397.length : Int) = 0 then (none) else (if 0 ≤ (Int.tmod t411 (t397.length : Int)) then (if (Int.tmod t411 (t397.length : Int)) ≤ (t397.length : Int) then ((impl_TakeFrame.f k (t397.take ((Int.tmod t411 (t397.length : Int)) : Int).toNat)).bind fun bt416 => (if (!(bt405.1 == bt392.1) || (!(bt405.2.1 == bt392.2.1) || (!(bt405.2.2.1 == bt392.2.2.1) || (!(bt405.2.2.2.1 == bt392.2.2.2))))) = true then (laws_FnFrames.j0 k l0 t397 true bt392.1 bt392.2.1 bt392.2.2.1 bt392.2.2.2) else (if bt405.2.2.2.2 = (t397.length : Int) then (laws_FnFrames.j0 k l0 t397 (bt416.2.2.2.2 != 0) bt392.1 bt392.2.1 bt392.2.2.1 bt392.2.2.2) else (laws_FnFrames.j0 k l0 t397 true bt392.1 bt392.2.1 bt392.2.2.1 bt392.2.2.2)))) else (none)) else (none))))) else (some ((t397.length : Int) == 0)))) else (some false)))))) = some r := by rw [if_neg (show ¬ (false = true) by decide)] at H; exact H
  clear H
  have H := H1
  clear H1
  replace H := Option.bind_eq_some_iff.mp H
  obtain ⟨⟨t392, t393, t394, t395⟩, A40, H⟩ := H
  replace H : ((impl_PutFrame.f k t392 t393 t394 t395).bind fun t397 => ((spec_PutFrame.f k t392 t393 t394 t395).bind fun t400 => ((laws_sameBytes.f k t397 t400).bind fun t403 => (if t403 = true then ((spec_FrameOk.f t392 t393 t394 t395).bind fun t404 => (if t404 = true then ((impl_TakeFrame.f k t397).bind fun bt405 => ((laws_at.f l0 0).bind fun t411 => (if (t397.length : Int) = 0 then (none) else (if 0 ≤ (Int.tmod t411 (t397.length : Int)) then (if (Int.tmod t411 (t397.length : Int)) ≤ (t397.length : Int) then ((impl_TakeFrame.f k (t397.take ((Int.tmod t411 (t397.length : Int)) : Int).toNat)).bind fun bt416 => (if (!(bt405.1 == t392) || (!(bt405.2.1 == t393) || (!(bt405.2.2.1 == t394) || (!(bt405.2.2.2.1 == t395))))) = true then (laws_FnFrames.j0 k l0 t397 true t392 t393 t394 t395) else (if bt405.2.2.2.2 = (t397.length : Int) then (laws_FnFrames.j0 k l0 t397 (bt416.2.2.2.2 != 0) t392 t393 t394 t395) else (laws_FnFrames.j0 k l0 t397 true t392 t393 t394 t395)))) else (none)) else (none))))) else (some ((t397.length : Int) == 0)))) else (some false))))) = some r := H
  have A4 := Aside0.mk A40
  clear A40
  replace H := Option.bind_eq_some_iff.mp H
  obtain ⟨t397, A50, H⟩ := H
  replace H : ((spec_PutFrame.f k t392 t393 t394 t395).bind fun t400 => ((laws_sameBytes.f k t397 t400).bind fun t403 => (if t403 = true then ((spec_FrameOk.f t392 t393 t394 t395).bind fun t404 => (if t404 = true then ((impl_TakeFrame.f k t397).bind fun bt405 => ((laws_at.f l0 0).bind fun t411 => (if (t397.length : Int) = 0 then (none) else (if 0 ≤ (Int.tmod t411 (t397.length : Int)) then (if (Int.tmod t411 (t397.length : Int)) ≤ (t397.length : Int) then ((impl_TakeFrame.f k (t397.take ((Int.tmod t411 (t397.length : Int)) : Int).toNat)).bind fun bt416 => (if (!(bt405.1 == t392) || (!(bt405.2.1 == t393) || (!(bt405.2.2.1 == t394) || (!(bt405.2.2.2.1 == t395))))) = true then (laws_FnFrames.j0 k l0 t397 true t392 t393 t394 t395) else (if bt405.2.2.2.2 = (t397.length : Int) then (laws_FnFrames.j0 k l0 t397 (bt416.2.2.2.2 != 0) t392 t393 t394 t395) else (laws_FnFrames.j0 k l0 t397 true t392 t393 t394 t395)))) else (none)) else (none))))) else (some ((t397.length : Int) == 0)))) else (some false)))) = some r := H
  have A5 := Aside0.mk A50
  clear A50
  replace H := Option.bind_eq_some_iff.mp H
  obtain ⟨t400, A60, H⟩ := H
  replace H : ((laws_sameBytes.f k t397 t400).bind fun t403 => (if t403 = true then ((spec_FrameOk.f t392 t393 t394 t395).bind fun t404 => (if t404 = true then ((impl_TakeFrame.f k t397).bind fun bt405 => ((laws_at.f l0 0).bind fun t411 => (if (t397.length : Int) = 0 then (none) else (if 0 ≤ (Int.tmod t411 (t397.length : Int)) then (if (Int.tmod t411 (t397.length : Int)) ≤ (t397.length : Int) then ((impl_TakeFrame.f k (t397.take ((Int.tmod t411 (t397.length : Int)) : Int).toNat)).bind fun bt416 => (if (!(bt405.1 == t392) || (!(bt405.2.1 == t393) || (!(bt405.2.2.1 == t394) || (!(bt405.2.2.2.1 == t395))))) = true then (laws_FnFrames.j0 k l0 t397 true t392 t393 t394 t395) else (if bt405.2.2.2.2 = (t397.length : Int) then (laws_FnFrames.j0 k l0 t397 (bt416.2.2.2.2 != 0) t392 t393 t394 t395) else (laws_FnFrames.j0 k l0 t397 true t392 t393 t394 t395)))) else (none)) else (none))))) else (some ((t397.length : Int) == 0)))) else (some false))) = some r := H
  have A6 := Aside0.mk A60
  clear A60
  replace H := Option.bind_eq_some_iff.mp H
  obtain ⟨t403, A70, H⟩ := H
  replace H : (if t403 = true then ((spec_FrameOk.f t392 t393 t394 t395).bind fun t404 => (if t404 = true then ((impl_TakeFrame.f k t397).bind fun bt405 => ((laws_at.f l0 0).bind fun t411 => (if (t397.length : Int) = 0 then (none) else (if 0 ≤ (Int.tmod t411 (t397.length : Int)) then (if (Int.tmod t411 (t397.length : Int)) ≤ (t397.length : Int) then ((impl_TakeFrame.f k (t397.take ((Int.tmod t411 (t397.length : Int)) : Int).toNat)).bind fun bt416 => (if (!(bt405.1 == t392) || (!(bt405.2.1 == t393) || (!(bt405.2.2.1 == t394) || (!(bt405.2.2.2.1 == t395))))) = true then (laws_FnFrames.j0 k l0 t397 true t392 t393 t394 t395) else (if bt405.2.2.2.2 = (t397.length : Int) then (laws_FnFrames.j0 k l0 t397 (bt416.2.2.2.2 != 0) t392 t393 t394 t395) else (laws_FnFrames.j0 k l0 t397 true t392 t393 t394 t395)))) else (none)) else (none))))) else (some ((t397.length : Int) == 0)))) else (some false)) = some r := H
  have A7 := Aside0.mk A70
  clear A70
  by_cases c8 : t403 = true
  ·
   subst c8
   have H1 : ((spec_FrameOk.f t392 t393 t394 t395).bind fun t404 => (if t404 = true then ((impl_TakeFrame.f k t397).bind fun bt405 => ((laws_at.f l0 0).bind fun t411 => (if (t397.length : Int) = 0 then (none) else (if 0 ≤ (Int.tmod t411 (t397.length : Int)) then (if (Int.tmod t411 (t397.length : Int)) ≤ (t397.length : Int) then ((impl_TakeFrame.f k (t397.take ((Int.tmod t411 (t397.length : Int)) : Int).toNat)).bind fun bt416 => (if (!(bt405.1 == t392) || (!(bt405.2.1 == t393) || (!(bt405.2.2.1 == t394) || (!(bt405.2.2.2.1 == t395))))) = true then (laws_FnFrames.j0 k l0 t397 true t392 t393 t394 t395) else (if bt405.2.2.2.2 = (t397.length : Int) then (laws_FnFrames.j0 k l0 t397 (bt416.2.2.2.2 != 0) t392 t393 t394 t395) else (laws_FnFrames.j0 k l0 t397 true t392 t393 t394 t395)))) else (none)) else (none))))) else (some ((t397.length : Int) == 0)))) = some r := by rw [if_pos rfl] at H; exact H
   clear H
   have H := H1
   clear H1
   replace H := Option.bind_eq_some_iff.mp H
   obtain ⟨t404, A90, H⟩ := H
   replace H : (if t404 = true then ((impl_TakeFrame.f k t397).bind fun bt405 => ((laws_at.f l0 0).bind fun t411 => (if (t397.length : Int) = 0 then (none) else (if 0 ≤ (Int.tmod t411 (t397.length : Int)) then (if (Int.tmod t411 (t397.length : Int)) ≤ (t397.length : Int) then ((impl_TakeFrame.f k (t397.take ((Int.tmod t411 (t397.length : Int)) : Int).toNat)).bind fun bt416 => (if (!(bt405.1 == t392) || (!(bt405.2.1 == t393) || (!(bt405.2.2.1 == t394) || (!(bt405.2.2.2.1 == t395))))) = true then (laws_FnFrames.j0 k l0 t397 true t392 t393 t394 t395) else (if bt405.2.2.2.2 = (t397.length : Int) then (laws_FnFrames.j0 k l0 t397 (bt416.2.2.2.2 != 0) t392 t393 t394 t395) else (laws_FnFrames.j0 k l0 t397 true t392 t393 t394 t395)))) else (none)) else (none))))) else (some ((t397.length : Int) == 0))) = some r := H
   have A9 := Aside0.mk A90
   clear A90
   by_cases c10 : t404 = true
   ·
    subst c10
    have H1 : ((impl_TakeFrame.f k t397).bind fun bt405 => ((laws_at.f l0 0).bind fun t411 => (if (t397.length : Int) = 0 then (none) else (if 0 ≤ (Int.tmod t411 (t397.length : Int)) then (if (Int.tmod t411 (t397.length : Int)) ≤ (t397.length : Int) then ((impl_TakeFrame.f k (t397.take ((Int.tmod t411 (t397.length : Int)) : Int).toNat)).bind fun bt416 => (if (!(bt405.1 == t392) || (!(bt405.2.1 == t393) || (!(bt405.2.2.1 == t394) || (!(bt405.2.2.2.1 == t395))))) = true then (laws_FnFrames.j0 k l0 t397 true t392 t393 t394 t395) else (if bt405.2.2.2.2 = (t397.length : Int) then (laws_FnFrames.j0 k l0 t397 (bt416.2.2.2.2 != 0) t392 t393 t394 t395) else (laws_FnFrames.j0 k l0 t397 true t392 t393 t394 t395)))) else (none)) else (none))))) = some r := by rw [if_pos rfl] at H; exact H
    clear H
    have H := H1
    clear H1
    replace H := Option.bind_eq_some_iff.mp H
    obtain ⟨⟨t405, t406, t407, t408, t409⟩, A110, H⟩ := H
    replace H : ((laws_at.f l0 0).bind fun t411 => (if (t397.length : Int) = 0 then (none) else (if 0 ≤ (Int.tmod t411 (t397.length : Int)) then (if (Int.tmod t411 (t397.length : Int)) ≤ (t397.length : Int) then ((impl_TakeFrame.f k (t397.take ((Int.tmod t411 (t397.length : Int)) : Int).toNat)).bind fun bt416 => (if (!(t405 == t392) || (!(t406 == t393) || (!(t407 == t394) || (!(t408 == t395))))) = true then (laws_FnFrames.j0 k l0 t397 true t392 t393 t394 t395) else (if t409 = (t397.length : Int) then (laws_FnFrames.j0 k l0 t397 (bt416.2.2.2.2 != 0) t392 t393 t394 t395) else (laws_FnFrames.j0 k l0 t397 true t392 t393 t394 t395)))) else (none)) else (none)))) = some r := H
    have A11 := Aside0.mk A110
    clear A110
    replace H := Option.bind_eq_some_iff.mp H
    obtain ⟨t411, A120, H⟩ := H
    replace H : (if (t397.length : Int) = 0 then (none) else (if 0 ≤ (Int.tmod t411 (t397.length : Int)) then (if (Int.tmod t411 (t397.length : Int)) ≤ (t397.length : Int) then ((impl_TakeFrame.f k (t397.take ((Int.tmod t411 (t397.length : Int)) : Int).toNat)).bind fun bt416 => (if (!(t405 == t392) || (!(t406 == t393) || (!(t407 == t394) || (!(t408 == t395))))) = true then (laws_FnFrames.j0 k l0 t397 true t392 t393 t394 t395) else (if t409 = (t397.length : Int) then (laws_FnFrames.j0 k l0 t397 (bt416.2.2.2.2 != 0) t392 t393 t394 t395) else (laws_FnFrames.j0 k l0 t397 true t392 t393 t394 t395)))) else (none)) else (none))) = some r := H
    have A12 := Aside0.mk A120
    clear A120
    by_cases c13 : (t397.length : Int) = 0
    ·
     rw [if_pos c13] at H
     exact absurd H (by simp)
    ·
     rw [if_neg c13] at H
     have c13b0 : ((t397.length : Int) == 0) = false := beq_eq_false_iff_ne.mpr c13
     have c13b1 : ((t397.length : Int) != 0) = true := bne_iff_ne.mpr c13
     have c13b2 : ¬ (t397 = []) := fun h_ => c13 (by rw [h_]; rfl)
     obtain ⟨ji14, hji14⟩ : ∃ j_ : Int, (Int.tmod t411 (t397.length : Int)) = j_ := ⟨_, rfl⟩
     replace H : (if 0 ≤ (ji14) then (if (ji14) ≤ (t397.length : Int) then ((impl_TakeFrame.f k (t397.take ((ji14) : Int).toNat)).bind fun bt416 => (if (!(t405 == t392) || (!(t406 == t393) || (!(t407 == t394) || (!(t408 == t395))))) = true then (laws_FnFrames.j0 k l0 t397 true t392 t393 t394 t395) else (if t409 = (t397.length : Int) then (laws_FnFrames.j0 k l0 t397 (bt416.2.2.2.2 != 0) t392 t393 t394 t395) else (laws_FnFrames.j0 k l0 t397 true t392 t393 t394 t395)))) else (none)) else (none)) = some r := by first | (rw [hji14] at H; exact H) | (simp only [hji14] at H ⊢; exact H)
     (try rw [hji14] at A2)
     (try rw [hji14] at A4)
     (try rw [hji14] at A5)
     (try rw [hji14] at A6)
     (try rw [hji14] at A7)
     (try rw [hji14] at A9)
     (try rw [hji14] at A11)
     (try rw [hji14] at A12)
     by_cases c15 : 0 ≤ (ji14)
     ·
      rw [if_pos c15] at H
      have c15b0 := eq_true c15
      have c15b1 : decide (0 ≤ (ji14)) = true := decide_eq_true c15
      clear c15
      by_cases c16 : (ji14) ≤ (t397.length : Int)
      ·
       rw [if_pos c16] at H
       have c16b0 := eq_true c16
       have c16b1 : decide ((ji14) ≤ (t397.length : Int)) = true := decide_eq_true c16
       clear c16
       obtain ⟨y412, hy412⟩ : ∃ y_ : List Int, y_ = (t397.take ((ji14) : Int).toNat) := ⟨_, rfl⟩
       replace H : ((impl_TakeFrame.f k y412).bind fun bt416 => (if (!(t405 == t392) || (!(t406 == t393) || (!(t407 == t394) || (!(t408 == t395))))) = true then (laws_FnFrames.j0 k l0 t397 true t392 t393 t394 t395) else (if t409 = (t397.length : Int) then (laws_FnFrames.j0 k l0 t397 (bt416.2.2.2.2 != 0) t392 t393 t394 t395) else (laws_FnFrames.j0 k l0 t397 true t392 t393 t394 t395)))) = some r := by first | (rw [hy412]; with_reducible exact H) | (have H2_ := (Option.bind_some _ _).symm.trans H; rw [hy412]; with_reducible exact H2_) | (have H2_ := (Option.bind_some _ _).symm.trans H; with_reducible exact H2_) | with_reducible exact H | (rw [hy412]; exact H) | exact H
       have Ny412 := Aside0.mk hy412
       clear hy412
       replace H := Option.bind_eq_some_iff.mp H
       obtain ⟨⟨t416, t417, t418, t419, t420⟩, A170, H⟩ := H
       replace H : (if (!(t405 == t392) || (!(t406 == t393) || (!(t407 == t394) || (!(t408 == t395))))) = true then (laws_FnFrames.j0 k l0 t397 true t392 t393 t394 t395) else (if t409 = (t397.length : Int) then (laws_FnFrames.j0 k l0 t397 (t420 != 0) t392 t393 t394 t395) else (laws_FnFrames.j0 k l0 t397 true t392 t393 t394 t395))) = some r := H
       have A17 := Aside0.mk A170
       clear A170
       have HC18 := Aside0.mk H
       clear H
       go_enter Try.func7, Try.ntmps7
       go_upto_region 11 with (first | ((with_reducible refine gate_callee (f := 31) rfl ?_); refine goesL_ (some 14) rfl rfl Try.func31 (by kernel_rfl) rfl #[.slice A0 l0.length c0] rfl ul_ ?_; (with_reducible refine (laws_big.calls _ _ l0 false _ ?side1 ?side2 A2.out).mono ?_); (case side1 => repeat (first | exact HR0.out | (with_reducible refine Kd.C_alloc ?_ _) | (with_reducible refine Kd.C_drewN ?_ _) | (with_reducible refine Kd.C_drew ?_))); (case side2 => exact HC0.out); rintro e w' ⟨rfl, ⟨nd, rfl⟩⟩; refine ⟨_, rfl, ?_⟩) | ((with_reducible refine gate_callee (f := 43) rfl ?_); refine goesL_ (some 16) rfl rfl Try.func43 (by kernel_rfl) rfl #[.slice A0 l0.length c0] rfl ul_ ?_; (with_reducible refine (spec_DrawPutFrame.calls k _ _ l0 t392 t393 t394 t395 _ ?side1 ?side2 A4.out).mono ?_); (case side1 => repeat (first | exact HR0.out | (with_reducible refine Kd.C_alloc ?_ _) | (with_reducible refine Kd.C_drewN ?_ _) | (with_reducible refine Kd.C_drew ?_))); (case side2 => exact HC0.out); rintro e w19 ⟨rfl, hb⟩; refine ⟨_, rfl, ?_⟩; have n0_ := am_ (below_step (ue_ HB.out) hb); clear HB; have HB := n0_; clear n0_; (try clear hb); (try clear hb2); (try clear hk); (try clear hi)) | ((with_reducible refine gate_dst (N := 3) rfl ?_); (try (refine gate_guard (by rfl) ?_; dsimp only)); refine box_event ?hg (N := 3) ?hd (cs := #[.int .i64 0, .int .i64 0, .int .i64 0, .int .i64 0]) (t := 61) ?hr ?_; (case hd => rfl); (case hg => rfl); (case hr => first | (go_simp; done) | (go_simp; rfl)); intro gb396 hg w20 hbox hb; have n0_ := am_ (below_step (ue_ HB.out) hb); have n1_ := am_ (hbox); have n2_ := am_ ((by rw [hg]; exact (below_size (ue_ HB.out)) : w.heap.size ≤ gb396)); have n3_ := am_ ((by rw [hg]; exact (below_size (ue_ HB.out)) : w.heap.size ≤ gb396)); clear HB; have HB := n0_; have BK396 := n1_; have GW396 := n2_; have GE396 := n3_; clear n0_ n1_ n2_ n3_; clear hb hbox hg; obtain ⟨hcz21_0, hcz21_1, hcz21_2, hcz21_3⟩ := cb4_ BK396.out; obtain ⟨hfz21_0, hfz21_1, hfz21_2⟩ := bf3_ BK396.out; have hfz21_3 := blk_frozen BK396.out 3) | ((with_reducible refine gate_store (t := 61) (p := 3) rfl ?_); refine store_event (t := 61) (p := 3) (v := ?vo_w22) (w1 := ((((w20.setCell ⟨gb396, 0, none⟩ (.int .i64 t392)).setCell ⟨gb396, 1, none⟩ (.int .i64 t393)).setCell ⟨gb396, 2, none⟩ (.int .i64 t394)).setCell ⟨gb396, 3, none⟩ (.int .i64 t395))) ?hg ?ho ?hn ?hr ?_; (case ho => rfl); (case hg => rfl); (case hn => rfl); (case hr => first | (go_simp; done) | (go_simp; rfl)); intro w22 hw; have n0_ : Aside0 (w22.heap[gb396]? = some (.cells #[.int .i64 t392, .int .i64 t393, .int .i64 t394, .int .i64 t395] 61 (0, 0))) := ⟨(by rw [hw]; exact (by (with_reducible repeat first|apply bn_|apply bd_|apply ba_); refine blk_put (cs := #[.int .i64 t392, .int .i64 t393, .int .i64 t394, .int .i64 0]) ?_ 3 _ rfl; refine blk_put (cs := #[.int .i64 t392, .int .i64 t393, .int .i64 0, .int .i64 0]) ?_ 2 _ rfl; refine blk_put (cs := #[.int .i64 t392, .int .i64 0, .int .i64 0, .int .i64 0]) ?_ 1 _ rfl; refine blk_put (cs := #[.int .i64 0, .int .i64 0, .int .i64 0, .int .i64 0]) ?_ 0 _ rfl; (with_reducible repeat first|apply bn_|apply bd_|apply ba_); exact BK396.out))⟩; have n1_ : Aside0 (Below w.heap.size w w22) := ⟨(by rw [hw]; exact (ue_ HB.out))⟩; clear hw BK396 HB; have BK396 := n0_; have HB := n1_; clear n0_ n1_; obtain ⟨hcz23_0, hcz23_1, hcz23_2, hcz23_3⟩ := cb4_ BK396.out; obtain ⟨hfz23_0, hfz23_1, hfz23_2⟩ := bf3_ BK396.out; have hfz23_3 := blk_frozen BK396.out 3) | ((with_reducible refine gate_callee (f := 44) rfl ?_); refine goesL_ (some 18) rfl rfl Try.func44 (by kernel_rfl) rfl #[.agg #[.int .i64 t392, .int .i64 t393, .int .i64 t394, .int .i64 t395]] rfl ul_ ?_; (with_reducible refine (impl_PutFrame.calls k t392 t393 t394 t395 t397 _ A5.out).mono ?_); rintro e w24 ⟨v398, rfl, ho0, hb⟩; refine ⟨_, rfl, ?_⟩; have n0_ := am_ (Kd.R_lower ho0 (below_size (ue_ HB.out))); have n1_ := am_ (bb_ BK396.out hb); have n2_ := am_ (below_step (ue_ HB.out) hb); clear BK396 HB; have HO399 := n0_; have BK396 := n1_; have HB := n2_; clear n0_ n1_ n2_; (try clear hb); (try clear hb2); (try clear hk); (try clear hi); (try clear ho0); obtain ⟨hcz25_0, hcz25_1, hcz25_2, hcz25_3⟩ := cb4_ BK396.out; obtain ⟨hfz25_0, hfz25_1, hfz25_2⟩ := bf3_ BK396.out; have hfz25_3 := blk_frozen BK396.out 3) | ((with_reducible refine gate_callee (f := 46) rfl ?_); refine goesL_ (some 21) rfl rfl Try.func46 (by kernel_rfl) rfl #[.agg #[.int .i64 t392, .int .i64 t393, .int .i64 t394, .int .i64 t395]] rfl ul_ ?_; (with_reducible refine (spec_PutFrame.calls k t392 t393 t394 t395 t400 _ A6.out).mono ?_); rintro e w26 ⟨v401, rfl, ho0, hb⟩; refine ⟨_, rfl, ?_⟩; have n0_ := am_ (Kd.R_elder' (ur_ HO399.out) (Kd.R_base ho0) hb); have n1_ := am_ (Kd.R_lower (Kd.R_new' ho0 (Kd.R_lt (ur_ HO399.out))) (below_size (ue_ HB.out))); have n2_ := am_ (bb_ BK396.out hb); have n3_ := am_ (below_step (ue_ HB.out) hb); clear HO399 BK396 HB; have HO399 := n0_; have HO402 := n1_; have BK396 := n2_; have HB := n3_; clear n0_ n1_ n2_ n3_; (try clear hb); (try clear hb2); (try clear hk); (try clear hi); (try clear ho0); obtain ⟨Ao27, co27, eo27⟩ := Kd.R_slice HO399.out; subst eo27; obtain ⟨Ao28, co28, eo28⟩ := Kd.R_slice HO402.out; subst eo28) | ((with_reducible refine gate_callee (f := 45) rfl ?_); refine goesL_ (some 22) rfl rfl Try.func45 (by kernel_rfl) rfl #[.slice Ao27 t397.length co27, .slice Ao28 t400.length co28] rfl ul_ ?_; (with_reducible refine (laws_sameBytes.calls k _ _ t397 _ _ t400 true _ ?side1 ?side2 ?side3 ?side4 A7.out).mono ?_); (case side1 => repeat (first | exact (Kd.R_reads' HO399.out).2.2 | (with_reducible refine Kd.C_alloc ?_ _) | (with_reducible refine Kd.C_drewN ?_ _) | (with_reducible refine Kd.C_drew ?_))); (case side2 => exact (Kd.R_reads' HO399.out).2.1); (case side3 => repeat (first | exact (Kd.R_reads' HO402.out).2.2 | (with_reducible refine Kd.C_alloc ?_ _) | (with_reducible refine Kd.C_drewN ?_ _) | (with_reducible refine Kd.C_drew ?_))); (case side4 => exact (Kd.R_reads' HO402.out).2.1); rintro e w' ⟨rfl, ⟨nd, rfl⟩⟩; refine ⟨_, rfl, ?_⟩; (try (rw [drewN_self w26]; generalize hq_ : World.drewN w26 _ = w26; have n0_ : Aside0 (Kd.R (Kd.int .u8) 5 w26 w.heap.size (fun k_ => some k_ ≠ (.slice Ao28 t400.length co28 : Value).ownBlock) (.slice Ao27 t397.length co27) t397) := ⟨by rw [← hq_]; exact (by (with_reducible repeat (first | apply Kd.R_alloc | apply Kd.R_drewN | apply Kd.R_drew)); exact Kd.R_mono HO399.out (fun _ hk => by first | exact hk.2 | grind))⟩; have n1_ : Aside0 (Kd.R (Kd.int .u8) 5 w26 w.heap.size (fun k_ => some k_ ≠ (.slice Ao27 t397.length co27 : Value).ownBlock) (.slice Ao28 t400.length co28) t400) := ⟨by rw [← hq_]; exact (by (with_reducible repeat (first | apply Kd.R_alloc | apply Kd.R_drewN | apply Kd.R_drew)); exact Kd.R_mono HO402.out (fun _ hk => by first | exact hk.2 | grind))⟩; have n2_ : Aside0 (w26.heap[gb396]? = some (.cells #[.int .i64 t392, .int .i64 t393, .int .i64 t394, .int .i64 t395] 61 (0, 0))) := ⟨by rw [← hq_]; exact (ub_ BK396.out)⟩; have n3_ : Aside0 (Below w.heap.size w w26) := ⟨by rw [← hq_]; exact (ue_ HB.out)⟩; clear HO399 HO402 BK396 HB hq_; have HO399 := n0_; have HO402 := n1_; have BK396 := n2_; have HB := n3_; clear n0_ n1_ n2_ n3_)); obtain ⟨hcz29_0, hcz29_1, hcz29_2, hcz29_3⟩ := cb4_ BK396.out; obtain ⟨hfz29_0, hfz29_1, hfz29_2⟩ := bf3_ BK396.out; have hfz29_3 := blk_frozen BK396.out 3) | ((with_reducible refine gate_callee (f := 47) rfl ?_); refine goesL_ (some 25) rfl rfl Try.func47 (by kernel_rfl) rfl #[.agg #[.int .i64 t392, .int .i64 t393, .int .i64 t394, .int .i64 t395]] rfl ul_ ?_; (with_reducible refine (spec_FrameOk.calls t392 t393 t394 t395 true _ A9.out).mono ?_); rintro e w30 ⟨rfl, hb⟩; refine ⟨_, rfl, ?_⟩; have n0_ := am_ (Kd.R_below (ur_ HO399.out) hb); have n1_ := am_ (Kd.R_below (ur_ HO402.out) hb); have n2_ := am_ (bb_ BK396.out hb); have n3_ := am_ (below_step (ue_ HB.out) hb); clear HO399 HO402 BK396 HB; have HO399 := n0_; have HO402 := n1_; have BK396 := n2_; have HB := n3_; clear n0_ n1_ n2_ n3_; (try clear hb); (try clear hb2); (try clear hk); (try clear hi)) | ((with_reducible refine gate_callee (f := 48) rfl ?_); refine goesL_ (some 32) rfl rfl Try.func48 (by kernel_rfl) rfl #[.slice Ao27 t397.length co27] rfl ul_ ?_; (with_reducible refine (impl_TakeFrame.calls k _ _ t397 t405 t406 t407 t408 t409 _ ?side1 ?side2 A11.out).mono ?_); (case side1 => repeat (first | exact (Kd.R_reads' HO399.out).2.2 | (with_reducible refine Kd.C_alloc ?_ _) | (with_reducible refine Kd.C_drewN ?_ _) | (with_reducible refine Kd.C_drew ?_))); (case side2 => exact (Kd.R_reads' HO399.out).2.1); rintro e w31 ⟨rfl, hb⟩; refine ⟨_, rfl, ?_⟩; have n0_ := am_ (Kd.R_below (ur_ HO399.out) hb); have n1_ := am_ (Kd.R_below (ur_ HO402.out) hb); have n2_ := am_ (bb_ BK396.out hb); have n3_ := am_ (below_step (ue_ HB.out) hb); clear HO399 HO402 BK396 HB; have HO399 := n0_; have HO402 := n1_; have BK396 := n2_; have HB := n3_; clear n0_ n1_ n2_ n3_; (try clear hb); (try clear hb2); (try clear hk); (try clear hi)) | ((with_reducible refine gate_dst (N := 5) rfl ?_); (try (refine gate_guard (by rfl) ?_; dsimp only)); refine box_event ?hg (N := 5) ?hd (cs := #[.int .i64 0, .int .i64 0, .int .i64 0, .int .i64 0]) (t := 61) ?hr ?_; (case hd => rfl); (case hg => rfl); (case hr => first | (go_simp; done) | (go_simp; rfl)); intro gb410 hg w32 hbox hb; have n0_ := am_ (Kd.R_below (ur_ HO399.out) hb); have n1_ := am_ (Kd.R_below (ur_ HO402.out) hb); have n2_ := am_ (bb_ BK396.out hb); have n3_ := am_ (below_step (ue_ HB.out) hb); have n4_ := am_ (hbox); have n5_ := am_ ((by rw [hg]; exact (below_size (ue_ HB.out)) : w.heap.size ≤ gb410)); have n6_ := am_ ((by rw [hg]; exact (below_size (ue_ HB.out)) : w.heap.size ≤ gb410)); have n7_ := am_ ((by rw [hg]; exact Nat.ne_of_lt (bl_ BK396.out) : gb396 ≠ gb410)); have n8_ := am_ ((by rw [hg]; exact Nat.ne_of_gt (bl_ BK396.out) : gb410 ≠ gb396)); clear HO399 HO402 BK396 HB; have HO399 := n0_; have HO402 := n1_; have BK396 := n2_; have HB := n3_; have BK410 := n4_; have GW410 := n5_; have GE410 := n6_; have NB396_410 := n7_; have NB410_396 := n8_; clear n0_ n1_ n2_ n3_ n4_ n5_ n6_ n7_ n8_; clear hb hbox hg; have hnb33 := NB410_396.out; have hnc33 := NB396_410.out; obtain ⟨hcz34_0, hcz34_1, hcz34_2, hcz34_3⟩ := cb4_ BK410.out; obtain ⟨hfz34_0, hfz34_1, hfz34_2⟩ := bf3_ BK410.out; have hfz34_3 := blk_frozen BK410.out 3) | ((with_reducible refine gate_store (t := 61) (p := 5) rfl ?_); refine store_event (t := 61) (p := 5) (v := ?vo_w35) (w1 := ((((w32.setCell ⟨gb410, 0, none⟩ (.int .i64 t405)).setCell ⟨gb410, 1, none⟩ (.int .i64 t406)).setCell ⟨gb410, 2, none⟩ (.int .i64 t407)).setCell ⟨gb410, 3, none⟩ (.int .i64 t408))) ?hg ?ho ?hn ?hr ?_; (case ho => rfl); (case hg => rfl); (case hn => rfl); (case hr => first | (go_simp; done) | (go_simp; rfl)); intro w35 hw; have n0_ : Aside0 (Kd.R (Kd.int .u8) 5 w35 w.heap.size (fun k_ => some k_ ≠ (.slice Ao28 t400.length co28 : Value).ownBlock) (.slice Ao27 t397.length co27) t397) := ⟨(by rw [hw]; exact (by (with_reducible repeat (first | apply Kd.R_alloc | apply Kd.R_drewN | apply Kd.R_drew)); exact Kd.R_mono (Kd.R_far (p := ⟨gb410, 3, none⟩) (Kd.R_far (p := ⟨gb410, 2, none⟩) (Kd.R_far (p := ⟨gb410, 1, none⟩) (Kd.R_far (p := ⟨gb410, 0, none⟩) (Kd.R_types HO399.out BK410.out (by decide)) (fun _ hk => by first | exact hk.2 | grind) (.int .i64 t405)) (fun _ hk => by first | exact hk.2 | grind) (.int .i64 t406)) (fun _ hk => by first | exact hk.2 | grind) (.int .i64 t407)) (fun _ hk => by first | exact hk.2 | grind) (.int .i64 t408)) (fun _ hk => by first | exact hk.1.2 | grind)))⟩; have n1_ : Aside0 (Kd.R (Kd.int .u8) 5 w35 w.heap.size (fun k_ => some k_ ≠ (.slice Ao27 t397.length co27 : Value).ownBlock) (.slice Ao28 t400.length co28) t400) := ⟨(by rw [hw]; exact (by (with_reducible repeat (first | apply Kd.R_alloc | apply Kd.R_drewN | apply Kd.R_drew)); exact Kd.R_mono (Kd.R_far (p := ⟨gb410, 3, none⟩) (Kd.R_far (p := ⟨gb410, 2, none⟩) (Kd.R_far (p := ⟨gb410, 1, none⟩) (Kd.R_far (p := ⟨gb410, 0, none⟩) (Kd.R_types HO402.out BK410.out (by decide)) (fun _ hk => by first | exact hk.2 | grind) (.int .i64 t405)) (fun _ hk => by first | exact hk.2 | grind) (.int .i64 t406)) (fun _ hk => by first | exact hk.2 | grind) (.int .i64 t407)) (fun _ hk => by first | exact hk.2 | grind) (.int .i64 t408)) (fun _ hk => by first | exact hk.1.2 | grind)))⟩; have n2_ : Aside0 (w35.heap[gb396]? = some (.cells #[.int .i64 t392, .int .i64 t393, .int .i64 t394, .int .i64 t395] 61 (0, 0))) := ⟨(by rw [hw]; exact (uf_ BK396.out))⟩; have n3_ : Aside0 (w35.heap[gb410]? = some (.cells #[.int .i64 t405, .int .i64 t406, .int .i64 t407, .int .i64 t408] 61 (0, 0))) := ⟨(by rw [hw]; exact (by (with_reducible repeat first|apply bn_|apply bd_|apply ba_); refine blk_put (cs := #[.int .i64 t405, .int .i64 t406, .int .i64 t407, .int .i64 0]) ?_ 3 _ rfl; refine blk_put (cs := #[.int .i64 t405, .int .i64 t406, .int .i64 0, .int .i64 0]) ?_ 2 _ rfl; refine blk_put (cs := #[.int .i64 t405, .int .i64 0, .int .i64 0, .int .i64 0]) ?_ 1 _ rfl; refine blk_put (cs := #[.int .i64 0, .int .i64 0, .int .i64 0, .int .i64 0]) ?_ 0 _ rfl; (with_reducible repeat first|apply bn_|apply bd_|apply ba_); exact BK410.out))⟩; have n4_ : Aside0 (Below w.heap.size w w35) := ⟨(by rw [hw]; exact (ue_ HB.out))⟩; clear hw HO399 HO402 BK396 BK410 HB; have HO399 := n0_; have HO402 := n1_; have BK396 := n2_; have BK410 := n3_; have HB := n4_; clear n0_ n1_ n2_ n3_ n4_) | ((with_reducible refine gate_callee (f := 49) rfl ?_); refine goesL_ (some 38) rfl rfl Try.func49 (by kernel_rfl) rfl #[.slice A0 l0.length c0, .int .i64 0] rfl ul_ ?_; (with_reducible refine (laws_at.calls _ _ l0 0 t411 _ ?side1 ?side2 A12.out).mono ?_); (case side1 => repeat (first | exact (Kd.C_below HR0.out HB.out) | (with_reducible refine Kd.C_alloc ?_ _) | (with_reducible refine Kd.C_drewN ?_ _) | (with_reducible refine Kd.C_drew ?_))); (case side2 => exact HC0.out); rintro e w' ⟨rfl, ⟨nd, rfl⟩⟩; refine ⟨_, rfl, ?_⟩; (try (rw [drewN_self w35]; generalize hq_ : World.drewN w35 _ = w35; have n0_ : Aside0 (Kd.R (Kd.int .u8) 5 w35 w.heap.size (fun k_ => some k_ ≠ (.slice Ao28 t400.length co28 : Value).ownBlock) (.slice Ao27 t397.length co27) t397) := ⟨by rw [← hq_]; exact (ur_ HO399.out)⟩; have n1_ : Aside0 (Kd.R (Kd.int .u8) 5 w35 w.heap.size (fun k_ => some k_ ≠ (.slice Ao27 t397.length co27 : Value).ownBlock) (.slice Ao28 t400.length co28) t400) := ⟨by rw [← hq_]; exact (ur_ HO402.out)⟩; have n2_ : Aside0 (w35.heap[gb396]? = some (.cells #[.int .i64 t392, .int .i64 t393, .int .i64 t394, .int .i64 t395] 61 (0, 0))) := ⟨by rw [← hq_]; exact (ub_ BK396.out)⟩; have n3_ : Aside0 (w35.heap[gb410]? = some (.cells #[.int .i64 t405, .int .i64 t406, .int .i64 t407, .int .i64 t408] 61 (0, 0))) := ⟨by rw [← hq_]; exact (ub_ BK410.out)⟩; have n4_ : Aside0 (Below w.heap.size w w35) := ⟨by rw [← hq_]; exact (ue_ HB.out)⟩; clear HO399 HO402 BK396 BK410 HB hq_; have HO399 := n0_; have HO402 := n1_; have BK396 := n2_; have BK410 := n3_; have HB := n4_; clear n0_ n1_ n2_ n3_ n4_)); have q36 : ((ji14) : Int) ≤ ((t397.length : Int) : Int) := of_decide_eq_true ua_; obtain ⟨i036, hi036, _, hsz36, _⟩ := info_parts info5; have hroom36 : t397.length ≤ co27 := (Kd.R_reads' HO399.out).2.1; have hC36 : Kd.C (Kd.int .u8) _ Ao27 t397.length t397 := (Kd.R_reads' HO399.out).2.2; have hcut36 := cut_to (P := Try.prog) 49 5 .i64 Try.underlying49 hi036 Ao27 t397.length co27 (ji14) (of_decide_eq_true ua_) q36 hroom36; have hr36 := Kd.C_take (m := ((ji14) : Int).toNat) hC36 (by omega); have hy36 : y412.length = ((ji14) : Int).toNat := (by rw [Ny412.out, List.length_take]; omega); rw [← Ny412.out] at hr36; rw [← hy36] at hcut36; have HR415 := Aside0.mk hr36; have HC415 := am_ (show y412.length ≤ co27 from by omega); clear hr36 hC36 hroom36 hi036 hsz36; have KY36 := Aside0.mk hy36; clear hy36; have KL36 := am_ (show ((ji14) : Int).toNat ≤ t397.length from by omega); replace q36 := eq_true q36) | ((with_reducible refine gate_callee (f := 48) rfl ?_); refine goesL_ (some 43) rfl rfl Try.func48 (by kernel_rfl) rfl #[.slice Ao27 y412.length co27] rfl ul_ ?_; (with_reducible refine (impl_TakeFrame.calls k _ _ y412 t416 t417 t418 t419 t420 _ ?side1 ?side2 A17.out).mono ?_); (case side1 => repeat (first | exact (by repeat (first | (with_reducible exact HR415.out) | (with_reducible refine Kd.C_alloc ?_ _) | (with_reducible refine Kd.C_drewN ?_ _) | (with_reducible refine Kd.C_drew ?_) | exact HR415.out)) | (with_reducible refine Kd.C_alloc ?_ _) | (with_reducible refine Kd.C_drewN ?_ _) | (with_reducible refine Kd.C_drew ?_))); (case side2 => exact HC415.out); rintro e w37 ⟨rfl, hb⟩; refine ⟨_, rfl, ?_⟩; have n0_ := am_ (Kd.R_below (ur_ HO399.out) hb); have n1_ := am_ (Kd.R_below (ur_ HO402.out) hb); have n2_ := am_ (bb_ BK396.out hb); have n3_ := am_ (bb_ BK410.out hb); have n4_ := am_ (Kd.C_below (by repeat (first | (with_reducible exact HR415.out) | (with_reducible refine Kd.C_alloc ?_ _) | (with_reducible refine Kd.C_drewN ?_ _) | (with_reducible refine Kd.C_drew ?_) | exact HR415.out)) hb); have n5_ := am_ (below_step (ue_ HB.out) hb); clear HO399 HO402 BK396 BK410 HR415 HB; have HO399 := n0_; have HO402 := n1_; have BK396 := n2_; have BK410 := n3_; have HR415 := n4_; have HB := n5_; clear n0_ n1_ n2_ n3_ n4_ n5_; (try clear hb); (try clear hb2); (try clear hk); (try clear hi)) | ((with_reducible refine gate_dst (N := 7) rfl ?_); (try (refine gate_guard (by rfl) ?_; dsimp only)); refine box_event ?hg (N := 7) ?hd (cs := #[.int .i64 0, .int .i64 0, .int .i64 0, .int .i64 0]) (t := 61) ?hr ?_; (case hd => rfl); (case hg => rfl); (case hr => first | (go_simp; done) | (go_simp; rfl)); intro gb421 hg w38 hbox hb; have n0_ := am_ (Kd.R_below (ur_ HO399.out) hb); have n1_ := am_ (Kd.R_below (ur_ HO402.out) hb); have n2_ := am_ (bb_ BK396.out hb); have n3_ := am_ (bb_ BK410.out hb); have n4_ := am_ (Kd.C_below (by repeat (first | (with_reducible exact HR415.out) | (with_reducible refine Kd.C_alloc ?_ _) | (with_reducible refine Kd.C_drewN ?_ _) | (with_reducible refine Kd.C_drew ?_) | exact HR415.out)) hb); have n5_ := am_ (below_step (ue_ HB.out) hb); have n6_ := am_ (hbox); have n7_ := am_ ((by rw [hg]; exact (below_size (ue_ HB.out)) : w.heap.size ≤ gb421)); have n8_ := am_ ((by rw [hg]; exact (below_size (ue_ HB.out)) : w.heap.size ≤ gb421)); have n9_ := am_ ((by rw [hg]; exact Nat.ne_of_lt (bl_ BK396.out) : gb396 ≠ gb421)); have n10_ := am_ ((by rw [hg]; exact Nat.ne_of_gt (bl_ BK396.out) : gb421 ≠ gb396)); have n11_ := am_ ((by rw [hg]; exact Nat.ne_of_lt (bl_ BK410.out) : gb410 ≠ gb421)); have n12_ := am_ ((by rw [hg]; exact Nat.ne_of_gt (bl_ BK410.out) : gb421 ≠ gb410)); clear HO399 HO402 BK396 BK410 HR415 HB; have HO399 := n0_; have HO402 := n1_; have BK396 := n2_; have BK410 := n3_; have HR415 := n4_; have HB := n5_; have BK421 := n6_; have GW421 := n7_; have GE421 := n8_; have NB396_421 := n9_; have NB421_396 := n10_; have NB410_421 := n11_; have NB421_410 := n12_; clear n0_ n1_ n2_ n3_ n4_ n5_ n6_ n7_ n8_ n9_ n10_ n11_ n12_; clear hb hbox hg; have hnb39 := NB421_396.out; have hnc39 := NB396_421.out; have hnb40 := NB421_410.out; have hnc40 := NB410_421.out; obtain ⟨hcz41_0, hcz41_1, hcz41_2, hcz41_3⟩ := cb4_ BK421.out; obtain ⟨hfz41_0, hfz41_1, hfz41_2⟩ := bf3_ BK421.out; have hfz41_3 := blk_frozen BK421.out 3))
       (try simp only [Act.put, List.setIfInBounds_toArray, List.set_cons_zero, List.set_cons_succ])
       go_cut [58] (fun v58 wc => ∃ (kq : Nat) (x58_17 : Bool), v58 = .bool x58_17 ∧ Aside0 (laws_FnFrames.j0 kq l0 t397 x58_17 t392 t393 t394 t395 = some r) ∧ Aside0 (kq ≤ k) ∧ Aside0 (Kd.R (Kd.int .u8) 5 wc w.heap.size (fun _ => True) (.slice Ao27 t397.length co27) t397) ∧ Aside0 (wc.heap[gb396]? = some (.cells #[.int .i64 t392, .int .i64 t393, .int .i64 t394, .int .i64 t395] 61 (0, 0))) ∧ Aside0 (wc.heap[gb410]? = some (.cells #[.int .i64 t405, .int .i64 t406, .int .i64 t407, .int .i64 t408] 61 (0, 0))) ∧ Aside0 (wc.heap[gb421]? = some (.cells #[.int .i64 t416, .int .i64 t417, .int .i64 t418, .int .i64 t419] 61 (0, 0))) ∧ Aside0 (Below w.heap.size w wc))
       case first =>
        have H := HC18.out
        clear HC18
        by_cases c42 : (!(t405 == t392) || (!(t406 == t393) || (!(t407 == t394) || (!(t408 == t395))))) = true
        ·
         rw [if_pos c42] at H
         have c42b0 : (!(t405 == t392) || (!(t406 == t393) || (!(t407 == t394) || (!(t408 == t395))))) = true := c42
         clear c42
         (first | rw [c42b0] | (simp only [i64_w, i32_w]; rw [c42b0]) | skip)
         have H' := Aside0.mk H
         clear H
         have hnb43 := NB410_396.out
         have hnc43 := NB396_410.out
         have hnb44 := NB410_421.out
         have hnc44 := NB421_410.out
         have hcz45_0 := cb_ BK410.out 0 rfl
         have hcz45_1 := cb_ BK410.out 1 rfl
         have hcz45_2 := cb_ BK410.out 2 rfl
         have hcz45_3 := cb_ BK410.out 3 rfl
         have hfz45_0 := blk_frozen BK410.out 0
         have hfz45_1 := blk_frozen BK410.out 1
         have hfz45_2 := blk_frozen BK410.out 2
         have hfz45_3 := blk_frozen BK410.out 3
         have hnb46 := NB396_421.out
         have hnc46 := NB421_396.out
         have hcz47_0 := cb_ BK396.out 0 rfl
         have hcz47_1 := cb_ BK396.out 1 rfl
         have hcz47_2 := cb_ BK396.out 2 rfl
         have hcz47_3 := cb_ BK396.out 3 rfl
         have hfz47_0 := blk_frozen BK396.out 0
         have hfz47_1 := blk_frozen BK396.out 1
         have hfz47_2 := blk_frozen BK396.out 2
         have hfz47_3 := blk_frozen BK396.out 3
         go_wp2
         go_meet
         case rel => exact ⟨_, (true), (by first | rfl | (simp; done) | (simp [*]; done)), H', ⟨by first | omega | exact Nat.le_refl _⟩, ⟨by (with_reducible repeat (first | apply Kd.R_alloc | apply Kd.R_drewN | apply Kd.R_drew)); exact Kd.R_mono (Kd.R_far (p := ⟨gb421, 3, none⟩) (Kd.R_far (p := ⟨gb421, 2, none⟩) (Kd.R_far (p := ⟨gb421, 1, none⟩) (Kd.R_far (p := ⟨gb421, 0, none⟩) (Kd.R_types HO399.out BK421.out (by decide)) (fun _ hk => by first | exact hk.2 | grind) (.int .i64 t416)) (fun _ hk => by first | exact hk.2 | grind) (.int .i64 t417)) (fun _ hk => by first | exact hk.2 | grind) (.int .i64 t418)) (fun _ hk => by first | exact hk.2 | grind) (.int .i64 t419)) (fun _ hk => trivial)⟩, ⟨by (with_reducible repeat first|apply bn_|apply bd_|apply ba_); refine blk_far ?_ NB396_421.out _; refine blk_far ?_ NB396_421.out _; refine blk_far ?_ NB396_421.out _; refine blk_far ?_ NB396_421.out _; (with_reducible repeat first|apply bn_|apply bd_|apply ba_); exact BK396.out⟩, ⟨by (with_reducible repeat first|apply bn_|apply bd_|apply ba_); refine blk_far ?_ NB410_421.out _; refine blk_far ?_ NB410_421.out _; refine blk_far ?_ NB410_421.out _; refine blk_far ?_ NB410_421.out _; (with_reducible repeat first|apply bn_|apply bd_|apply ba_); exact BK410.out⟩, ⟨by (with_reducible repeat first|apply bn_|apply bd_|apply ba_); refine blk_put (cs := #[.int .i64 t416, .int .i64 t417, .int .i64 t418, .int .i64 0]) ?_ 3 _ rfl; refine blk_put (cs := #[.int .i64 t416, .int .i64 t417, .int .i64 0, .int .i64 0]) ?_ 2 _ rfl; refine blk_put (cs := #[.int .i64 t416, .int .i64 0, .int .i64 0, .int .i64 0]) ?_ 1 _ rfl; refine blk_put (cs := #[.int .i64 0, .int .i64 0, .int .i64 0, .int .i64 0]) ?_ 0 _ rfl; (with_reducible repeat first|apply bn_|apply bd_|apply ba_); exact BK421.out⟩, ⟨ue_ HB.out⟩⟩
        ·
         rw [if_neg c42] at H
         have c42b0 : (!(t405 == t392) || (!(t406 == t393) || (!(t407 == t394) || (!(t408 == t395))))) = false := by simpa using c42
         clear c42
         (first | rw [c42b0] | (simp only [i64_w, i32_w]; rw [c42b0]) | skip)
         by_cases c48 : t409 = (t397.length : Int)
         ·
          rw [if_pos c48] at H
          have c48b0 : (t409 == (t397.length : Int)) = true := beq_iff_eq.mpr c48
          have c48b1 : (t409 != (t397.length : Int)) = false := bne_eq_false_iff_eq.mpr c48
          clear c48
          have H' := Aside0.mk H
          clear H
          have hnb49 := NB410_396.out
          have hnc49 := NB396_410.out
          have hnb50 := NB410_421.out
          have hnc50 := NB421_410.out
          have hcz51_0 := cb_ BK410.out 0 rfl
          have hcz51_1 := cb_ BK410.out 1 rfl
          have hcz51_2 := cb_ BK410.out 2 rfl
          have hcz51_3 := cb_ BK410.out 3 rfl
          have hfz51_0 := blk_frozen BK410.out 0
          have hfz51_1 := blk_frozen BK410.out 1
          have hfz51_2 := blk_frozen BK410.out 2
          have hfz51_3 := blk_frozen BK410.out 3
          have hnb52 := NB396_421.out
          have hnc52 := NB421_396.out
          have hcz53_0 := cb_ BK396.out 0 rfl
          have hcz53_1 := cb_ BK396.out 1 rfl
          have hcz53_2 := cb_ BK396.out 2 rfl
          have hcz53_3 := cb_ BK396.out 3 rfl
          have hfz53_0 := blk_frozen BK396.out 0
          have hfz53_1 := blk_frozen BK396.out 1
          have hfz53_2 := blk_frozen BK396.out 2
          have hfz53_3 := blk_frozen BK396.out 3
          go_wp2
          go_meet
          case rel => exact ⟨_, ((t420 != 0)), (by first | rfl | (simp; done) | (simp [*]; done)), H', ⟨by first | omega | exact Nat.le_refl _⟩, ⟨by (with_reducible repeat (first | apply Kd.R_alloc | apply Kd.R_drewN | apply Kd.R_drew)); exact Kd.R_mono (Kd.R_far (p := ⟨gb421, 3, none⟩) (Kd.R_far (p := ⟨gb421, 2, none⟩) (Kd.R_far (p := ⟨gb421, 1, none⟩) (Kd.R_far (p := ⟨gb421, 0, none⟩) (Kd.R_types HO399.out BK421.out (by decide)) (fun _ hk => by first | exact hk.2 | grind) (.int .i64 t416)) (fun _ hk => by first | exact hk.2 | grind) (.int .i64 t417)) (fun _ hk => by first | exact hk.2 | grind) (.int .i64 t418)) (fun _ hk => by first | exact hk.2 | grind) (.int .i64 t419)) (fun _ hk => trivial)⟩, ⟨by (with_reducible repeat first|apply bn_|apply bd_|apply ba_); refine blk_far ?_ NB396_421.out _; refine blk_far ?_ NB396_421.out _; refine blk_far ?_ NB396_421.out _; refine blk_far ?_ NB396_421.out _; (with_reducible repeat first|apply bn_|apply bd_|apply ba_); exact BK396.out⟩, ⟨by (with_reducible repeat first|apply bn_|apply bd_|apply ba_); refine blk_far ?_ NB410_421.out _; refine blk_far ?_ NB410_421.out _; refine blk_far ?_ NB410_421.out _; refine blk_far ?_ NB410_421.out _; (with_reducible repeat first|apply bn_|apply bd_|apply ba_); exact BK410.out⟩, ⟨by (with_reducible repeat first|apply bn_|apply bd_|apply ba_); refine blk_put (cs := #[.int .i64 t416, .int .i64 t417, .int .i64 t418, .int .i64 0]) ?_ 3 _ rfl; refine blk_put (cs := #[.int .i64 t416, .int .i64 t417, .int .i64 0, .int .i64 0]) ?_ 2 _ rfl; refine blk_put (cs := #[.int .i64 t416, .int .i64 0, .int .i64 0, .int .i64 0]) ?_ 1 _ rfl; refine blk_put (cs := #[.int .i64 0, .int .i64 0, .int .i64 0, .int .i64 0]) ?_ 0 _ rfl; (with_reducible repeat first|apply bn_|apply bd_|apply ba_); exact BK421.out⟩, ⟨ue_ HB.out⟩⟩
         ·
          rw [if_neg c48] at H
          have c48b0 : (t409 == (t397.length : Int)) = false := beq_eq_false_iff_ne.mpr c48
          have c48b1 : (t409 != (t397.length : Int)) = true := bne_iff_ne.mpr c48
          have H' := Aside0.mk H
          clear H
          have hnb54 := NB410_396.out
          have hnc54 := NB396_410.out
          have hnb55 := NB410_421.out
          have hnc55 := NB421_410.out
          have hcz56_0 := cb_ BK410.out 0 rfl
          have hcz56_1 := cb_ BK410.out 1 rfl
          have hcz56_2 := cb_ BK410.out 2 rfl
          have hcz56_3 := cb_ BK410.out 3 rfl
          have hfz56_0 := blk_frozen BK410.out 0
          have hfz56_1 := blk_frozen BK410.out 1
          have hfz56_2 := blk_frozen BK410.out 2
          have hfz56_3 := blk_frozen BK410.out 3
          have hnb57 := NB396_421.out
          have hnc57 := NB421_396.out
          have hcz58_0 := cb_ BK396.out 0 rfl
          have hcz58_1 := cb_ BK396.out 1 rfl
          have hcz58_2 := cb_ BK396.out 2 rfl
          have hcz58_3 := cb_ BK396.out 3 rfl
          have hfz58_0 := blk_frozen BK396.out 0
          have hfz58_1 := blk_frozen BK396.out 1
          have hfz58_2 := blk_frozen BK396.out 2
          have hfz58_3 := blk_frozen BK396.out 3
          go_wp2
          go_meet
          case rel => exact ⟨_, (true), (by first | rfl | (simp; done) | (simp [*]; done)), H', ⟨by first | omega | exact Nat.le_refl _⟩, ⟨by (with_reducible repeat (first | apply Kd.R_alloc | apply Kd.R_drewN | apply Kd.R_drew)); exact Kd.R_mono (Kd.R_far (p := ⟨gb421, 3, none⟩) (Kd.R_far (p := ⟨gb421, 2, none⟩) (Kd.R_far (p := ⟨gb421, 1, none⟩) (Kd.R_far (p := ⟨gb421, 0, none⟩) (Kd.R_types HO399.out BK421.out (by decide)) (fun _ hk => by first | exact hk.2 | grind) (.int .i64 t416)) (fun _ hk => by first | exact hk.2 | grind) (.int .i64 t417)) (fun _ hk => by first | exact hk.2 | grind) (.int .i64 t418)) (fun _ hk => by first | exact hk.2 | grind) (.int .i64 t419)) (fun _ hk => trivial)⟩, ⟨by (with_reducible repeat first|apply bn_|apply bd_|apply ba_); refine blk_far ?_ NB396_421.out _; refine blk_far ?_ NB396_421.out _; refine blk_far ?_ NB396_421.out _; refine blk_far ?_ NB396_421.out _; (with_reducible repeat first|apply bn_|apply bd_|apply ba_); exact BK396.out⟩, ⟨by (with_reducible repeat first|apply bn_|apply bd_|apply ba_); refine blk_far ?_ NB410_421.out _; refine blk_far ?_ NB410_421.out _; refine blk_far ?_ NB410_421.out _; refine blk_far ?_ NB410_421.out _; (with_reducible repeat first|apply bn_|apply bd_|apply ba_); exact BK410.out⟩, ⟨by (with_reducible repeat first|apply bn_|apply bd_|apply ba_); refine blk_put (cs := #[.int .i64 t416, .int .i64 t417, .int .i64 t418, .int .i64 0]) ?_ 3 _ rfl; refine blk_put (cs := #[.int .i64 t416, .int .i64 t417, .int .i64 0, .int .i64 0]) ?_ 2 _ rfl; refine blk_put (cs := #[.int .i64 t416, .int .i64 0, .int .i64 0, .int .i64 0]) ?_ 1 _ rfl; refine blk_put (cs := #[.int .i64 0, .int .i64 0, .int .i64 0, .int .i64 0]) ?_ 0 _ rfl; (with_reducible repeat first|apply bn_|apply bd_|apply ba_); exact BK421.out⟩, ⟨ue_ HB.out⟩⟩
       case rest =>
        clear HC18
        try clear c1
        try clear p2
        try clear c3
        try clear q3
        try clear c4
        try clear c5
        try clear c7
        try clear c8
        try clear c10
        try clear c13
        try clear c13b0
        try clear c13b1
        try clear c13b2
        try clear c15
        try clear c15b0
        try clear c15b1
        try clear c16
        try clear c16b0
        try clear c16b1
        try clear c31
        try clear c33
        try clear q36
        try clear c39
        try clear c40
        try clear c42
        try clear c42b0
        try clear c43
        try clear c44
        try clear c45
        try clear c46
        try clear c47
        try clear c48
        try clear c48b0
        try clear c48b1
        try clear c49
        try clear c50
        try clear c52
        try clear c54
        try clear c55
        try clear c57
        try clear hcz21_0
        try clear hcz21_1
        try clear hcz21_2
        try clear hcz21_3
        try clear hcz23_0
        try clear hcz23_1
        try clear hcz23_2
        try clear hcz23_3
        try clear hcz25_0
        try clear hcz25_1
        try clear hcz25_2
        try clear hcz25_3
        try clear hcz29_0
        try clear hcz29_1
        try clear hcz29_2
        try clear hcz29_3
        try clear hcz34_0
        try clear hcz34_1
        try clear hcz34_2
        try clear hcz34_3
        try clear hcz41_0
        try clear hcz41_1
        try clear hcz41_2
        try clear hcz41_3
        try clear hcz45_0
        try clear hcz45_1
        try clear hcz45_2
        try clear hcz45_3
        try clear hcz47_0
        try clear hcz47_1
        try clear hcz47_2
        try clear hcz47_3
        try clear hcz51_0
        try clear hcz51_1
        try clear hcz51_2
        try clear hcz51_3
        try clear hcz53_0
        try clear hcz53_1
        try clear hcz53_2
        try clear hcz53_3
        try clear hcz56_0
        try clear hcz56_1
        try clear hcz56_2
        try clear hcz56_3
        try clear hcz58_0
        try clear hcz58_1
        try clear hcz58_2
        try clear hcz58_3
        try clear hfz21_0
        try clear hfz21_1
        try clear hfz21_2
        try clear hfz21_3
        try clear hfz23_0
        try clear hfz23_1
        try clear hfz23_2
        try clear hfz23_3
        try clear hfz25_0
        try clear hfz25_1
        try clear hfz25_2
        try clear hfz25_3
        try clear hfz29_0
        try clear hfz29_1
        try clear hfz29_2
        try clear hfz29_3
        try clear hfz34_0
        try clear hfz34_1
        try clear hfz34_2
        try clear hfz34_3
        try clear hfz41_0
        try clear hfz41_1
        try clear hfz41_2
        try clear hfz41_3
        try clear hfz45_0
        try clear hfz45_1
        try clear hfz45_2
        try clear hfz45_3
        try clear hfz47_0
        try clear hfz47_1
        try clear hfz47_2
        try clear hfz47_3
        try clear hfz51_0
        try clear hfz51_1
        try clear hfz51_2
        try clear hfz51_3
        try clear hfz53_0
        try clear hfz53_1
        try clear hfz53_2
        try clear hfz53_3
        try clear hfz56_0
        try clear hfz56_1
        try clear hfz56_2
        try clear hfz56_3
        try clear hfz58_0
        try clear hfz58_1
        try clear hfz58_2
        try clear hfz58_3
        try clear q36
        obtain ⟨kq, x58_17, rfl, HA, HJ17, HO_4, BK396, BK410, BK421, HB⟩ := hcut
        cases kq with
        | zero => exact absurd HA.out (by simp [laws_FnFrames.j0])
        | succ kj17 =>
         have H := HA.out
         clear HA
         simp only [laws_FnFrames.j0] at H
         by_cases c59 : x58_17 = true
         ·
          subst c59
          have H1 : (some false) = some r := by rw [if_pos rfl] at H; exact H
          clear H
          have H := H1
          clear H1
          exact absurd ((Option.some.inj H).trans hT.out) (by decide)
         ·
          replace c59 := Bool.eq_false_iff.mpr c59
          subst c59
          have H1 : ((some (([] : List Int) : List Int)).bind fun y422 => (if y422.length + t397.length < 140737488355328 then ((some (y422 ++ t397 : List Int)).bind fun y425 => ((laws_at.f l0 1).bind fun t428 => (if (t397.length : Int) = 0 then (none) else (if 0 ≤ (Int.tmod t428 (t397.length : Int)) then (if (Int.tmod t428 (t397.length : Int)) < (y425.length : Int) then ((laws_at.f l0 2).bind fun t430 => ((impl_TakeFrame.f kj17 (y425.set ((Int.tmod t428 (t397.length : Int)) : Int).toNat (Go.bits .xor .u8 (rd y425 (Int.tmod t428 (t397.length : Int))) ((wrap64 (1 + (Int.tmod t430 255))) % 256)))).bind fun bt432 => (if bt432.2.2.2.2 ≤ 0 then (some true) else (some (!(bt432.1 == t392) || (!(bt432.2.1 == t393) || (!(bt432.2.2.1 == t394) || (!(bt432.2.2.2.1 == t395))))))))) else (none)) else (none))))) else (none))) = some r := by rw [if_neg (show ¬ (false = true) by decide)] at H; exact H
          clear H
          have H := H1
          clear H1
          obtain ⟨y422, hy422⟩ : ∃ y_ : List Int, y_ = (([] : List Int)) := ⟨_, rfl⟩
          replace H : (if y422.length + t397.length < 140737488355328 then ((some (y422 ++ t397 : List Int)).bind fun y425 => ((laws_at.f l0 1).bind fun t428 => (if (t397.length : Int) = 0 then (none) else (if 0 ≤ (Int.tmod t428 (t397.length : Int)) then (if (Int.tmod t428 (t397.length : Int)) < (y425.length : Int) then ((laws_at.f l0 2).bind fun t430 => ((impl_TakeFrame.f kj17 (y425.set ((Int.tmod t428 (t397.length : Int)) : Int).toNat (Go.bits .xor .u8 (rd y425 (Int.tmod t428 (t397.length : Int))) ((wrap64 (1 + (Int.tmod t430 255))) % 256)))).bind fun bt432 => (if bt432.2.2.2.2 ≤ 0 then (some true) else (some (!(bt432.1 == t392) || (!(bt432.2.1 == t393) || (!(bt432.2.2.1 == t394) || (!(bt432.2.2.2.1 == t395))))))))) else (none)) else (none))))) else (none)) = some r := by first | (rw [hy422]; with_reducible exact H) | (have H2_ := (Option.bind_some _ _).symm.trans H; rw [hy422]; with_reducible exact H2_) | (have H2_ := (Option.bind_some _ _).symm.trans H; with_reducible exact H2_) | with_reducible exact H | (rw [hy422]; exact H) | exact H
          have Ny422 := Aside0.mk hy422
          clear hy422
          by_cases c60 : y422.length + t397.length < 140737488355328
          ·
           rw [if_pos c60] at H
           have LMc60 := Aside0.mk c60
           clear c60
           obtain ⟨y425, hy425⟩ : ∃ y_ : List Int, y_ = (y422 ++ t397) := ⟨_, rfl⟩
           replace H : ((laws_at.f l0 1).bind fun t428 => (if (t397.length : Int) = 0 then (none) else (if 0 ≤ (Int.tmod t428 (t397.length : Int)) then (if (Int.tmod t428 (t397.length : Int)) < (y425.length : Int) then ((laws_at.f l0 2).bind fun t430 => ((impl_TakeFrame.f kj17 (y425.set ((Int.tmod t428 (t397.length : Int)) : Int).toNat (Go.bits .xor .u8 (rd y425 (Int.tmod t428 (t397.length : Int))) ((wrap64 (1 + (Int.tmod t430 255))) % 256)))).bind fun bt432 => (if bt432.2.2.2.2 ≤ 0 then (some true) else (some (!(bt432.1 == t392) || (!(bt432.2.1 == t393) || (!(bt432.2.2.1 == t394) || (!(bt432.2.2.2.1 == t395))))))))) else (none)) else (none)))) = some r := by first | (rw [hy425]; with_reducible exact H) | (have H2_ := (Option.bind_some _ _).symm.trans H; rw [hy425]; with_reducible exact H2_) | (have H2_ := (Option.bind_some _ _).symm.trans H; with_reducible exact H2_) | with_reducible exact H | (rw [hy425]; exact H) | exact H
           have Ny425 := Aside0.mk hy425
           clear hy425
           replace H := Option.bind_eq_some_iff.mp H
           obtain ⟨t428, A610, H⟩ := H
           replace H : (if (t397.length : Int) = 0 then (none) else (if 0 ≤ (Int.tmod t428 (t397.length : Int)) then (if (Int.tmod t428 (t397.length : Int)) < (y425.length : Int) then ((laws_at.f l0 2).bind fun t430 => ((impl_TakeFrame.f kj17 (y425.set ((Int.tmod t428 (t397.length : Int)) : Int).toNat (Go.bits .xor .u8 (rd y425 (Int.tmod t428 (t397.length : Int))) ((wrap64 (1 + (Int.tmod t430 255))) % 256)))).bind fun bt432 => (if bt432.2.2.2.2 ≤ 0 then (some true) else (some (!(bt432.1 == t392) || (!(bt432.2.1 == t393) || (!(bt432.2.2.1 == t394) || (!(bt432.2.2.2.1 == t395))))))))) else (none)) else (none))) = some r := H
           have A61 := Aside0.mk A610
           clear A610
           by_cases c62 : (t397.length : Int) = 0
           ·
            rw [if_pos c62] at H
            exact absurd H (by simp)
           ·
            rw [if_neg c62] at H
            have c62b0 : ((t397.length : Int) == 0) = false := beq_eq_false_iff_ne.mpr c62
            have c62b1 : ((t397.length : Int) != 0) = true := bne_iff_ne.mpr c62
            have c62b2 : ¬ (t397 = []) := fun h_ => c62 (by rw [h_]; rfl)
            obtain ⟨ji63, hji63⟩ : ∃ j_ : Int, (Int.tmod t428 (t397.length : Int)) = j_ := ⟨_, rfl⟩
            replace H : (if 0 ≤ (ji63) then (if (ji63) < (y425.length : Int) then ((laws_at.f l0 2).bind fun t430 => ((impl_TakeFrame.f kj17 (y425.set ((ji63) : Int).toNat (Go.bits .xor .u8 (rd y425 (ji63)) ((wrap64 (1 + (Int.tmod t430 255))) % 256)))).bind fun bt432 => (if bt432.2.2.2.2 ≤ 0 then (some true) else (some (!(bt432.1 == t392) || (!(bt432.2.1 == t393) || (!(bt432.2.2.1 == t394) || (!(bt432.2.2.2.1 == t395))))))))) else (none)) else (none)) = some r := by first | (rw [hji63] at H; exact H) | (simp only [hji63] at H ⊢; exact H)
            (try rw [hji63] at A61)
            by_cases c64 : 0 ≤ (ji63)
            ·
             rw [if_pos c64] at H
             have c64b0 : decide (0 ≤ (ji63)) = true := decide_eq_true c64
             clear c64
             by_cases c65 : (ji63) < (y425.length : Int)
             ·
              rw [if_pos c65] at H
              have c65b0 : decide ((ji63) < (y425.length : Int)) = true := decide_eq_true c65
              clear c65
              replace H := Option.bind_eq_some_iff.mp H
              obtain ⟨t430, A660, H⟩ := H
              replace H : ((impl_TakeFrame.f kj17 (y425.set ((ji63) : Int).toNat (Go.bits .xor .u8 (rd y425 (ji63)) ((wrap64 (1 + (Int.tmod t430 255))) % 256)))).bind fun bt432 => (if bt432.2.2.2.2 ≤ 0 then (some true) else (some (!(bt432.1 == t392) || (!(bt432.2.1 == t393) || (!(bt432.2.2.1 == t394) || (!(bt432.2.2.2.1 == t395)))))))) = some r := H
              have A66 := Aside0.mk A660
              clear A660
              obtain ⟨y431, hy431⟩ : ∃ y_ : List Int, y_ = (y425.set ((ji63) : Int).toNat (Go.bits .xor .u8 (rd y425 (ji63)) ((wrap64 (1 + (Int.tmod t430 255))) % 256))) := ⟨_, rfl⟩
              replace H : ((impl_TakeFrame.f kj17 y431).bind fun bt432 => (if bt432.2.2.2.2 ≤ 0 then (some true) else (some (!(bt432.1 == t392) || (!(bt432.2.1 == t393) || (!(bt432.2.2.1 == t394) || (!(bt432.2.2.2.1 == t395)))))))) = some r := by first | (rw [hy431]; with_reducible exact H) | (have H2_ := (Option.bind_some _ _).symm.trans H; rw [hy431]; with_reducible exact H2_) | (have H2_ := (Option.bind_some _ _).symm.trans H; with_reducible exact H2_) | with_reducible exact H | (rw [hy431]; exact H) | exact H
              have Ny431 := Aside0.mk hy431
              clear hy431
              replace H := Option.bind_eq_some_iff.mp H
              obtain ⟨⟨t432, t433, t434, t435, t436⟩, A680, H⟩ := H
              replace H : (if t436 ≤ 0 then (some true) else (some (!(t432 == t392) || (!(t433 == t393) || (!(t434 == t394) || (!(t435 == t395))))))) = some r := H
              have A68 := Aside0.mk A680
              clear A680
              by_cases c69 : t436 ≤ 0
              ·
               rw [if_pos c69] at H
               have c69b0 : decide (t436 ≤ 0) = true := decide_eq_true c69
               clear c69
               obtain rfl := Option.some.inj H
               try go_wp2_with (first | ((with_reducible refine gate_dst (N := 59) rfl ?_); (try (refine gate_guard (by rfl) ?_; dsimp only)); refine Kd.R_lit (Kd.int .u8) _ 5 ?hg (N := 59) ?hd (xs := ([] : List Int)) (inner := []) (ok := fun _ => True) (okp := fun _ => True) ?hr ?hp (fun _ hk => hk) trivial (Below.refl _ _) (Nat.le_refl _) (by simp) ?_; (case hd => rfl); (case hg => rfl); (case hr => first | (go_simp; done) | (go_simp; rfl)); (case hp => exact (Reps.none _ _)); intro v423 w70 ho71 hb hg_ hnew_; clear hg_ hnew_; (first | rw [← Ny422.out] at ho71 | (simp only [Int.reduceToNat] at ho71; rw [← Ny422.out] at ho71)); have n0_ := am_ (Kd.R_elder' (ur_ HO_4.out) (Kd.R_base ho71) hb); have n1_ := am_ (Kd.R_lower (Kd.R_new' ho71 (Kd.R_lt (ur_ HO_4.out))) (below_size (ue_ HB.out))); have n2_ := am_ (bb_ BK396.out hb); have n3_ := am_ (bb_ BK410.out hb); have n4_ := am_ (bb_ BK421.out hb); have n5_ := am_ (below_step (ue_ HB.out) hb); clear HO_4 BK396 BK410 BK421 HB; have HO_4 := n0_; have HO424 := n1_; have BK396 := n2_; have BK410 := n3_; have BK421 := n4_; have HB := n5_; clear n0_ n1_ n2_ n3_ n4_ n5_; clear hb ho71) | ((with_reducible refine gate_builtin (b := .append) (xs := #[.tmp 59, .tmp 60]) rfl ?_); (try (refine gate_guard (by rfl) ?_; dsimp only)); at_builtin; refine Kd.R_append_rows (Kd.int .u8) (w0 := w) w.heap.size rfl (.tmp 59) (.tmp 60) 49 5 (.int .u8 0) 1 rfl Try.underlying49 info5 rfl (by decide) (by omega) v423 y422 t397 _ _ _ (fun k_ => some k_ ≠ (.slice Ao27 t397.length co27 : Value).ownBlock) (fun _ => False) rfl rfl ?aO ?aR (fun _ _ h => h) (fun _ h => h.elim) ?aF ?aB ?aS ?aL ?_; (case aR => repeat (first | exact (Kd.R_reads' HO_4.out).2.2 | (with_reducible refine Kd.C_alloc ?_ _) | (with_reducible refine Kd.C_drewN ?_ _) | (with_reducible refine Kd.C_drew ?_))); (case aB => exact (ue_ HB.out)); (case aF => exact (fun k_ hk => Kd.fresh' (Kd.R_lt (ur_ HO_4.out)) k_ hk)); (case aO => exact (by (with_reducible repeat (first | apply Kd.R_alloc | apply Kd.R_drewN | apply Kd.R_drew)); exact Kd.R_mono HO424.out (fun _ hk => by first | exact hk.2 | grind))); (case aS => exact (below_size (ue_ HB.out))); (case aL => have := LMc60.out; omega); intro v426 w72 ho hb hg hat; rw [← Ny425.out] at ho; have n0_ := am_ (Kd.R_after (ok := (fun _ => True)) (ur_ HO_4.out) hg hat); have n1_ := am_ (blk_grown (g := gb396) (o := .cells #[.int .i64 t392, .int .i64 t393, .int .i64 t394, .int .i64 t395] 61 (0, 0)) (ub_ BK396.out) hg (Kd.R_ne HO424.out BK396.out (by decide))); have n2_ := am_ (blk_grown (g := gb410) (o := .cells #[.int .i64 t405, .int .i64 t406, .int .i64 t407, .int .i64 t408] 61 (0, 0)) (ub_ BK410.out) hg (Kd.R_ne HO424.out BK410.out (by decide))); have n3_ := am_ (blk_grown (g := gb421) (o := .cells #[.int .i64 t416, .int .i64 t417, .int .i64 t418, .int .i64 t419] 61 (0, 0)) (ub_ BK421.out) hg (Kd.R_ne HO424.out BK421.out (by decide))); have n4_ := am_ (hb); have n5_ := am_ (ho); clear HO_4 BK396 BK410 BK421 HB HO424; have HO_4 := n0_; have BK396 := n1_; have BK410 := n2_; have BK421 := n3_; have HB := n4_; have HO427 := n5_; clear n0_ n1_ n2_ n3_ n4_ n5_; clear ho hb hg hat) | ((with_reducible refine gate_callee (f := 49) rfl ?_); refine goesL_ (some 63) rfl rfl Try.func49 (by kernel_rfl) rfl #[.slice A0 l0.length c0, .int .i64 1] rfl ul_ ?_; (with_reducible refine (laws_at.calls _ _ l0 1 t428 _ ?side1 ?side2 A61.out).mono ?_); (case side1 => repeat (first | exact (Kd.C_below HR0.out HB.out) | (with_reducible refine Kd.C_alloc ?_ _) | (with_reducible refine Kd.C_drewN ?_ _) | (with_reducible refine Kd.C_drew ?_))); (case side2 => exact HC0.out); rintro e w' ⟨rfl, ⟨nd, rfl⟩⟩; refine ⟨_, rfl, ?_⟩; (try (rw [drewN_self w72]; generalize hq_ : World.drewN w72 _ = w72; have n0_ : Aside0 (Kd.R (Kd.int .u8) 5 w72 w.heap.size (fun k_ => some k_ ≠ (.slice Ao27 t397.length co27 : Value).ownBlock) v426 y425) := ⟨by rw [← hq_]; exact (ur_ HO427.out)⟩; have n1_ : Aside0 (Kd.R (Kd.int .u8) 5 w72 w.heap.size (fun k_ => some k_ ≠ (v426 : Value).ownBlock) (.slice Ao27 t397.length co27) t397) := ⟨by rw [← hq_]; exact (by (with_reducible repeat (first | apply Kd.R_alloc | apply Kd.R_drewN | apply Kd.R_drew)); exact Kd.R_mono HO_4.out (fun _ hk => by first | exact hk.2 | grind))⟩; have n2_ : Aside0 (w72.heap[gb396]? = some (.cells #[.int .i64 t392, .int .i64 t393, .int .i64 t394, .int .i64 t395] 61 (0, 0))) := ⟨by rw [← hq_]; exact (ub_ BK396.out)⟩; have n3_ : Aside0 (w72.heap[gb410]? = some (.cells #[.int .i64 t405, .int .i64 t406, .int .i64 t407, .int .i64 t408] 61 (0, 0))) := ⟨by rw [← hq_]; exact (ub_ BK410.out)⟩; have n4_ : Aside0 (w72.heap[gb421]? = some (.cells #[.int .i64 t416, .int .i64 t417, .int .i64 t418, .int .i64 t419] 61 (0, 0))) := ⟨by rw [← hq_]; exact (ub_ BK421.out)⟩; have n5_ : Aside0 (Below w.heap.size w w72) := ⟨by rw [← hq_]; exact (ue_ HB.out)⟩; clear HO427 HO_4 BK396 BK410 BK421 HB hq_; have HO427 := n0_; have HO_4 := n1_; have BK396 := n2_; have BK410 := n3_; have BK421 := n4_; have HB := n5_; clear n0_ n1_ n2_ n3_ n4_ n5_))))
               have n0_ := am_ (Kd.R_drew HO_4.out)
               have n1_ := am_ (Kd.R_drew HO427.out)
               have n2_ := am_ (blk_drew BK396.out)
               have n3_ := am_ (blk_drew BK410.out)
               have n4_ := am_ (blk_drew BK421.out)
               have n5_ := am_ (below_drew1 HB.out)
               clear HO_4
               clear HO427
               clear BK396
               clear BK410
               clear BK421
               clear HB
               have HO_4 := n0_
               have HO427 := n1_
               have BK396 := n2_
               have BK410 := n3_
               have BK421 := n4_
               have HB := n5_
               clear n0_ n1_ n2_ n3_ n4_ n5_
               obtain ⟨Ao74, co74, eo74⟩ := Kd.R_slice HO427.out
               (first | subst eo74 | (injection eo74 with f1_ f2_ f3_; have f4_ := f1_.symm; have f5_ := f3_.symm; clear f1_ f2_ f3_; subst f4_; subst f5_))
               have p429 : 0 ≤ ((ji63) : Int) := of_decide_eq_true ua_
               have q429 : (ji63) < (y425.length : Int) := of_decide_eq_true ua_
               obtain ⟨ad429, e429, hx429_0⟩ := Kd.at_int (Kd.R_reads' HO427.out).2.2 (ji63) p429 q429
               cases e429
               replace p429 := eq_true p429
               replace q429 := eq_true q429
               refine start_ (n := 14) (S := fun w' => w'.cell? (ad429.add ((ji63)).toNat) = some (.int .u8 (rd y425 (ji63)))) (ds := [13]) #[false, false, false, false, false, false, false, false, false, false, false, false, false, false] (by kernel_rfl) rfl rfl (hx429_0) (fun hHeld => ?_); refine with_tabW laws_FnFrames.tab15 laws_FnFrames.bits15 (fun HT_ HW_ => ?_)
               generalize w72.drew = w73 at HO_4 HO427 BK396 BK410 BK421 HB hx429_0 hHeld ⊢
               refine pure_ (i := 0) (N := some 67) (v := ?_) (a' := ?_) #[true, false, false, false, false, false, false, false, false, false, false, false, false, false] rfl rfl (any_of HT_.out (by kernel_rfl)) (fun _ _ _ h => h) (Or.inl ⟨by rfl, ?_⟩) ?_ ?_
               rotate_left
               ·
                intro w'
                go_simp
                with_reducible rfl
               rotate_left
               ·
                simp only [Act.put, List.setIfInBounds_toArray, List.set_cons_zero, List.set_cons_succ, i64_w, i32_w]
                rfl
               refine pure_ (i := 1) (N := some 68) (v := ?_) (a' := ?_) #[true, true, false, false, false, false, false, false, false, false, false, false, false, false] rfl rfl (any_of HT_.out (by kernel_rfl)) (fun _ _ _ h => h) (Or.inl ⟨by rfl, ?_⟩) ?_ ?_
               rotate_left
               ·
                intro w'
                go_simp
                with_reducible rfl
               rotate_left
               ·
                simp only [Act.put, List.setIfInBounds_toArray, List.set_cons_zero, List.set_cons_succ, i64_w, i32_w]
                rfl
               refine pure_ (i := 2) (N := some 69) (v := ?_) (a' := ?_) #[true, true, true, false, false, false, false, false, false, false, false, false, false, false] rfl rfl (any_of HT_.out (by kernel_rfl)) (fun _ _ _ h => h) (Or.inl ⟨by rfl, ?_⟩) ?_ ?_
               rotate_left
               ·
                intro w'
                go_simp
                with_reducible rfl
               rotate_left
               ·
                simp only [Act.put, List.setIfInBounds_toArray, List.set_cons_zero, List.set_cons_succ, i64_w, i32_w]
                rfl
               refine pure_ (i := 3) (N := some 70) (v := ?_) (a' := ?_) #[true, true, true, true, false, false, false, false, false, false, false, false, false, false] rfl rfl (any_of HT_.out (by kernel_rfl)) (fun _ _ _ h => h) (Or.inl ⟨by rfl, ?_⟩) ?_ ?_
               rotate_left
               ·
                intro w'
                go_simp
                with_reducible rfl
               rotate_left
               ·
                simp only [Act.put, List.setIfInBounds_toArray, List.set_cons_zero, List.set_cons_succ, i64_w, i32_w]
                rfl
               refine pure_ (i := 4) (N := some 71) (v := ?_) (a' := ?_) #[true, true, true, true, true, false, false, false, false, false, false, false, false, false] rfl rfl (any_of HT_.out (by kernel_rfl)) (fun _ _ _ h => h) (Or.inl ⟨by rfl, ?_⟩) ?_ ?_
               rotate_left
               ·
                intro w'
                go_simp
                with_reducible rfl
               rotate_left
               ·
                simp only [Act.put, List.setIfInBounds_toArray, List.set_cons_zero, List.set_cons_succ, i64_w, i32_w]
                rfl
               refine pure_ (i := 6) (N := some 73) (v := ?_) (a' := ?_) #[true, true, true, true, true, false, true, false, false, false, false, false, false, false] rfl rfl (any_of HT_.out (by kernel_rfl)) (fun _ _ _ h => h) (Or.inl ⟨by rfl, ?_⟩) ?_ ?_
               rotate_left
               ·
                intro w'
                go_simp
                with_reducible rfl
               rotate_left
               ·
                simp only [Act.put, List.setIfInBounds_toArray, List.set_cons_zero, List.set_cons_succ, i64_w, i32_w]
                rfl
               refine take_ (i := 5) (N := some 72) (v := ?_) (a' := ?_) #[true, true, true, true, true, true, true, false, false, false, false, false, false, false] rfl rfl (take_ofW HT_.out HW_.out (by kernel_rfl)) (fun _ _ _ h => h) (Or.inl ⟨by rfl, ?_⟩) hHeld ?_ ?_
               rotate_left
               ·
                intro w' s0
                go_simp
                with_reducible rfl
               rotate_left
               ·
                simp only [Act.put, List.setIfInBounds_toArray, List.set_cons_zero, List.set_cons_succ, i64_w, i32_w]
                rfl
               refine one_ (i := 7) (N := some 74) #[true, true, true, true, true, true, true, true, false, false, false, false, false, false] rfl rfl (one_of HT_.out (by kernel_rfl)) (by decide) (fun K hK => ?_)
               refine goes_ Try.func49 (by kernel_rfl) rfl #[.slice A0 l0.length c0, .int .i64 2] (by rfl) rfl rfl ul_ ?_
               with_reducible refine (laws_at.calls _ _ l0 2 t430 _ ?side1 ?side2 A66.out).mono ?_
               (case side1 => repeat (first | exact (Kd.C_below HR0.out HB.out) | (with_reducible refine Kd.C_alloc ?_ _) | (with_reducible refine Kd.C_drewN ?_ _) | (with_reducible refine Kd.C_drew ?_)))
               (case side2 => exact HC0.out)
               rintro e w' ⟨rfl, ⟨nd, rfl⟩⟩
               refine ⟨_, rfl, ?_⟩
               have m0_ := Aside0.mk (Kd.R_drewN HO_4.out nd)
               have m1_ := Aside0.mk (Kd.R_drewN HO427.out nd)
               have m2_ := Aside0.mk (bn_ BK396.out nd)
               have m3_ := Aside0.mk (bn_ BK410.out nd)
               have m4_ := Aside0.mk (bn_ BK421.out nd)
               have m5_ := Aside0.mk (pw_below_drewN HB.out nd)
               replace hHeld := (show World.cell? (World.drewN w73 nd) _ = _ from hHeld)
               clear HO_4 HO427 BK396 BK410 BK421 HB
               generalize World.drewN w73 nd = wq_ at m0_ m1_ m2_ m3_ m4_ m5_ hHeld ⊢
               have HO_4 := m0_
               have HO427 := m1_
               have BK396 := m2_
               have BK410 := m3_
               have BK421 := m4_
               have HB := m5_
               clear m0_ m1_ m2_ m3_ m4_ m5_
               have p67 : 0 ≤ ((ji63) : Int) := of_decide_eq_true ua_
               have q67 : ((ji63) : Int) < ((y425.length : Int) : Int) := of_decide_eq_true ua_
               obtain ⟨go67, co67, eo67, gb67, gl67, cl67, HG67⟩ := Kd.R_form HO427.out (by omega)
               (first | cases eo67 | (injection eo67 with ea_ en_ ec_; (first | subst ea_ | (injection ea_ with ea_; subst ea_)); subst ec_; clear en_))
               have GB67 := Aside0.mk gb67
               have GG67 := Aside0.mk HG67
               clear gb67 gl67 HG67
               (first | simp only [add_plain] at hx429_0 | skip)
               obtain ⟨hx67_0, hf67_0⟩ := Kd.R_celln 0 HO427.out ((ji63) : Int) p67 q67
               replace p67 := eq_true p67
               replace q67 := eq_true q67
               have HP75 := Kd.R_putn HO427.out ((ji63) : Int) (Go.bits .xor .u8 (rd y425 (ji63)) ((wrap64 (1 + (Int.tmod t430 255))) % 256))
               rw [← Ny431.out] at HP75
               have HQ75 := Aside0.mk HP75
               clear HP75
               refine hK.out _ _ (hHeld) (fun hHeld => ?_)
               clear hK K
               refine norm_ (a' := ?_) ?_ ?_
               rotate_left
               ·
                show Act.put _ (some 74) _ = _
                simp only [Act.put, List.setIfInBounds_toArray, List.set_cons_zero, List.set_cons_succ, i64_w, i32_w]
                rfl
               refine pure_ (i := 8) (N := some 75) (v := ?_) (a' := ?_) #[true, true, true, true, true, true, true, true, true, false, false, false, false, false] rfl rfl (any_of HT_.out (by kernel_rfl)) (fun _ _ _ h => h) (Or.inl ⟨by rfl, ?_⟩) ?_ ?_
               rotate_left
               ·
                intro w'
                go_simp
                with_reducible rfl
               rotate_left
               ·
                simp only [Act.put, List.setIfInBounds_toArray, List.set_cons_zero, List.set_cons_succ, i64_w, i32_w]
                rfl
               refine pure_ (i := 9) (N := some 76) (v := ?_) (a' := ?_) #[true, true, true, true, true, true, true, true, true, true, false, false, false, false] rfl rfl (any_of HT_.out (by kernel_rfl)) (fun _ _ _ h => h) (Or.inl ⟨by rfl, ?_⟩) ?_ ?_
               rotate_left
               ·
                intro w'
                go_simp
                with_reducible rfl
               rotate_left
               ·
                simp only [Act.put, List.setIfInBounds_toArray, List.set_cons_zero, List.set_cons_succ, i64_w, i32_w]
                rfl
               refine pure_ (i := 10) (N := some 77) (v := ?_) (a' := ?_) #[true, true, true, true, true, true, true, true, true, true, true, false, false, false] rfl rfl (any_of HT_.out (by kernel_rfl)) (fun _ _ _ h => h) (Or.inl ⟨by rfl, ?_⟩) ?_ ?_
               rotate_left
               ·
                intro w'
                go_simp
                with_reducible rfl
               rotate_left
               ·
                simp only [Act.put, List.setIfInBounds_toArray, List.set_cons_zero, List.set_cons_succ, i64_w, i32_w]
                rfl
               refine pure_ (i := 11) (N := some 78) (v := ?_) (a' := ?_) #[true, true, true, true, true, true, true, true, true, true, true, true, false, false] rfl rfl (any_of HT_.out (by kernel_rfl)) (fun _ _ _ h => h) (Or.inl ⟨by rfl, ?_⟩) ?_ ?_
               rotate_left
               ·
                intro w'
                go_simp
                with_reducible rfl
               rotate_left
               ·
                simp only [Act.put, List.setIfInBounds_toArray, List.set_cons_zero, List.set_cons_succ, i64_w, i32_w]
                rfl
               refine pure_ (i := 12) (N := some 79) (v := ?_) (a' := ?_) #[true, true, true, true, true, true, true, true, true, true, true, true, true, false] rfl rfl (any_of HT_.out (by kernel_rfl)) (fun _ _ _ h => h) (Or.inl ⟨by rfl, ?_⟩) ?_ ?_
               rotate_left
               ·
                intro w'
                go_simp
                with_reducible rfl
               rotate_left
               ·
                simp only [Act.put, List.setIfInBounds_toArray, List.set_cons_zero, List.set_cons_succ, i64_w, i32_w]
                rfl
               refine last_ (i := 13) (N := none) #[true, true, true, true, true, true, true, true, true, true, true, true, true, true] rfl rfl (one_of HT_.out (by kernel_rfl)) (by decide) (fun K hK => ?_)
               refine skip_ (w1 := ?_) (by rfl) rfl ?_ ?_
               rotate_left
               ·
                go_simp
                rfl
               refine hK.out _ _ ?_
               clear hK K
               refine done_ (done_of HT_.out (by kernel_rfl)) ?_
               have n0_ : Aside0 (Kd.R (Kd.int .u8) 5 (wq_.setCell ⟨go67, ((ji63) : Int).toNat, none⟩ (.int .u8 (Go.bits .xor .u8 (rd y425 (ji63)) ((wrap64 (1 + (Int.tmod t430 255))) % 256)))) w.heap.size (fun k_ => some k_ ≠ (.slice (some ⟨go67, 0, none⟩) y425.length co74 : Value).ownBlock) (.slice Ao27 t397.length co27) t397) := ⟨by (with_reducible repeat (first | apply Kd.R_alloc | apply Kd.R_drewN | apply Kd.R_drew)); exact Kd.R_mono (Kd.R_far (p := ⟨go67, ((ji63) : Int).toNat, none⟩) (Kd.R_mono HO_4.out (fun k_ hk => (⟨hk, fun e_ => by first | exact hk.2 (by rw [e_]; rfl) | exact hk (by rw [e_]; rfl)⟩ : _ ∧ k_ ≠ go67))) (fun _ hk => by first | exact hk.2 | grind) (.int .u8 (Go.bits .xor .u8 (rd y425 (ji63)) ((wrap64 (1 + (Int.tmod t430 255))) % 256)))) (fun _ hk => by first | exact hk.1.2 | grind)⟩
               have n1_ : Aside0 (Kd.R (Kd.int .u8) 5 (wq_.setCell ⟨go67, ((ji63) : Int).toNat, none⟩ (.int .u8 (Go.bits .xor .u8 (rd y425 (ji63)) ((wrap64 (1 + (Int.tmod t430 255))) % 256)))) w.heap.size (fun k_ => some k_ ≠ (.slice Ao27 t397.length co27 : Value).ownBlock) (.slice (some ⟨go67, 0, none⟩) y425.length co74) y431) := ⟨by (with_reducible repeat (first | apply Kd.R_alloc | apply Kd.R_drewN | apply Kd.R_drew)); exact HQ75.out⟩
               have n2_ : Aside0 ((wq_.setCell ⟨go67, ((ji63) : Int).toNat, none⟩ (.int .u8 (Go.bits .xor .u8 (rd y425 (ji63)) ((wrap64 (1 + (Int.tmod t430 255))) % 256)))).heap[gb396]? = some (.cells #[.int .i64 t392, .int .i64 t393, .int .i64 t394, .int .i64 t395] 61 (0, 0))) := ⟨by (with_reducible repeat first|apply bn_|apply bd_|apply ba_); refine blk_far ?_ (by have h_ := Kd.R_ne HO427.out BK396.out (by decide); intro e_; exact h_ (by rw [e_]; rfl)) _; (with_reducible repeat first|apply bn_|apply bd_|apply ba_); exact BK396.out⟩
               have n3_ : Aside0 ((wq_.setCell ⟨go67, ((ji63) : Int).toNat, none⟩ (.int .u8 (Go.bits .xor .u8 (rd y425 (ji63)) ((wrap64 (1 + (Int.tmod t430 255))) % 256)))).heap[gb410]? = some (.cells #[.int .i64 t405, .int .i64 t406, .int .i64 t407, .int .i64 t408] 61 (0, 0))) := ⟨by (with_reducible repeat first|apply bn_|apply bd_|apply ba_); refine blk_far ?_ (by have h_ := Kd.R_ne HO427.out BK410.out (by decide); intro e_; exact h_ (by rw [e_]; rfl)) _; (with_reducible repeat first|apply bn_|apply bd_|apply ba_); exact BK410.out⟩
               have n4_ : Aside0 ((wq_.setCell ⟨go67, ((ji63) : Int).toNat, none⟩ (.int .u8 (Go.bits .xor .u8 (rd y425 (ji63)) ((wrap64 (1 + (Int.tmod t430 255))) % 256)))).heap[gb421]? = some (.cells #[.int .i64 t416, .int .i64 t417, .int .i64 t418, .int .i64 t419] 61 (0, 0))) := ⟨by (with_reducible repeat first|apply bn_|apply bd_|apply ba_); refine blk_far ?_ (by have h_ := Kd.R_ne HO427.out BK421.out (by decide); intro e_; exact h_ (by rw [e_]; rfl)) _; (with_reducible repeat first|apply bn_|apply bd_|apply ba_); exact BK421.out⟩
               have n5_ : Aside0 (Below w.heap.size w (wq_.setCell ⟨go67, ((ji63) : Int).toNat, none⟩ (.int .u8 (Go.bits .xor .u8 (rd y425 (ji63)) ((wrap64 (1 + (Int.tmod t430 255))) % 256))))) := ⟨by repeat (first | (with_reducible first | exact HB.out | apply below_alloc | apply pw_below_drewN | apply below_drew1 | refine below_set ?_ GB67.out | refine below_set ?_ GE396.out | refine below_set ?_ GE410.out | refine below_set ?_ GE421.out) | exact HB.out)⟩
               (try clear HO_4)
               (try clear HO427)
               (try clear BK396)
               (try clear BK410)
               (try clear BK421)
               (try clear HB)
               (try rw [IntKind.wrap_u8])
               generalize (wq_.setCell ⟨go67, ((ji63) : Int).toNat, none⟩ (.int .u8 (Go.bits .xor .u8 (rd y425 (ji63)) ((wrap64 (1 + (Int.tmod t430 255))) % 256)))) = w76 at n0_ n1_ n2_ n3_ n4_ n5_ ⊢
               have HO_4 := n0_
               have HO427 := n1_
               have BK396 := n2_
               have BK410 := n3_
               have BK421 := n4_
               have HB := n5_
               clear n0_ n1_ n2_ n3_ n4_ n5_
               try go_wp2_with (first | ((with_reducible refine gate_callee (f := 48) rfl ?_); refine goesL_ (some 82) rfl rfl Try.func48 (by kernel_rfl) rfl #[.slice (some ⟨go67, 0, none⟩) y431.length co74] rfl (by (try simp only [List.map_toArray, List.map_cons, List.map_nil]); first | done | (rw [show y431.length = y425.length from (Kd.R_reads' HO427.out).1.symm] <;> rfl) | rfl | (simp only [List.length_drop, List.length_take]; rfl)) ?_; (with_reducible refine (impl_TakeFrame.calls kj17 _ _ y431 t432 t433 t434 t435 t436 _ ?side1 ?side2 A68.out).mono ?_); (case side1 => repeat (first | exact (Kd.R_reads' HO427.out).2.2 | (with_reducible refine Kd.C_alloc ?_ _) | (with_reducible refine Kd.C_drewN ?_ _) | (with_reducible refine Kd.C_drew ?_))); (case side2 => rw [show y431.length = y425.length from (Kd.R_reads' HO427.out).1.symm]; exact (Kd.R_reads' HO427.out).2.1); rintro e w77 ⟨rfl, hb⟩; refine ⟨_, rfl, ?_⟩; have n0_ := am_ (Kd.R_below (ur_ HO_4.out) hb); have n1_ := am_ (Kd.R_below (ur_ HO427.out) hb); have n2_ := am_ (bb_ BK396.out hb); have n3_ := am_ (bb_ BK410.out hb); have n4_ := am_ (bb_ BK421.out hb); have n5_ := am_ (below_step (ue_ HB.out) hb); clear HO_4 HO427 BK396 BK410 BK421 HB; have HO_4 := n0_; have HO427 := n1_; have BK396 := n2_; have BK410 := n3_; have BK421 := n4_; have HB := n5_; clear n0_ n1_ n2_ n3_ n4_ n5_; (try clear hb); (try clear hb2); (try clear hk); (try clear hi)) | ((with_reducible refine gate_dst (N := 11) rfl ?_); (try (refine gate_guard (by rfl) ?_; dsimp only)); refine box_event ?hg (N := 11) ?hd (cs := #[.int .i64 0, .int .i64 0, .int .i64 0, .int .i64 0]) (t := 61) ?hr ?_; (case hd => rfl); (case hg => rfl); (case hr => first | (go_simp; done) | (go_simp; rfl)); intro gb437 hg w78 hbox hb; have n0_ := am_ (Kd.R_below (ur_ HO_4.out) hb); have n1_ := am_ (Kd.R_below (ur_ HO427.out) hb); have n2_ := am_ (bb_ BK396.out hb); have n3_ := am_ (bb_ BK410.out hb); have n4_ := am_ (bb_ BK421.out hb); have n5_ := am_ (below_step (ue_ HB.out) hb); have n6_ := am_ (hbox); have n7_ := am_ ((by rw [hg]; exact (below_size (ue_ HB.out)) : w.heap.size ≤ gb437)); have n8_ := am_ ((by rw [hg]; exact (below_size (ue_ HB.out)) : w.heap.size ≤ gb437)); have n9_ := am_ ((by rw [hg]; exact Nat.ne_of_lt (bl_ BK396.out) : gb396 ≠ gb437)); have n10_ := am_ ((by rw [hg]; exact Nat.ne_of_gt (bl_ BK396.out) : gb437 ≠ gb396)); have n11_ := am_ ((by rw [hg]; exact Nat.ne_of_lt (bl_ BK410.out) : gb410 ≠ gb437)); have n12_ := am_ ((by rw [hg]; exact Nat.ne_of_gt (bl_ BK410.out) : gb437 ≠ gb410)); have n13_ := am_ ((by rw [hg]; exact Nat.ne_of_lt (bl_ BK421.out) : gb421 ≠ gb437)); have n14_ := am_ ((by rw [hg]; exact Nat.ne_of_gt (bl_ BK421.out) : gb437 ≠ gb421)); clear HO_4 HO427 BK396 BK410 BK421 HB; have HO_4 := n0_; have HO427 := n1_; have BK396 := n2_; have BK410 := n3_; have BK421 := n4_; have HB := n5_; have BK437 := n6_; have GW437 := n7_; have GE437 := n8_; have NB396_437 := n9_; have NB437_396 := n10_; have NB410_437 := n11_; have NB437_410 := n12_; have NB421_437 := n13_; have NB437_421 := n14_; clear n0_ n1_ n2_ n3_ n4_ n5_ n6_ n7_ n8_ n9_ n10_ n11_ n12_ n13_ n14_; clear hb hbox hg; have hnb79 := NB437_396.out; have hnc79 := NB396_437.out; have hnb80 := NB437_410.out; have hnc80 := NB410_437.out; have hnb81 := NB437_421.out; have hnc81 := NB421_437.out; obtain ⟨hcz82_0, hcz82_1, hcz82_2, hcz82_3⟩ := cb4_ BK437.out; obtain ⟨hfz82_0, hfz82_1, hfz82_2⟩ := bf3_ BK437.out; have hfz82_3 := blk_frozen BK437.out 3) | ((with_reducible refine gate_store (t := 61) (p := 11) rfl ?_); refine store_event (t := 61) (p := 11) (v := ?vo_w83) (w1 := ((((w78.setCell ⟨gb437, 0, none⟩ (.int .i64 t432)).setCell ⟨gb437, 1, none⟩ (.int .i64 t433)).setCell ⟨gb437, 2, none⟩ (.int .i64 t434)).setCell ⟨gb437, 3, none⟩ (.int .i64 t435))) ?hg ?ho ?hn ?hr ?_; (case ho => rfl); (case hg => rfl); (case hn => rfl); (case hr => first | (go_simp; done) | (go_simp; rfl)); intro w83 hw; have n0_ : Aside0 (Kd.R (Kd.int .u8) 5 w83 w.heap.size (fun k_ => some k_ ≠ (.slice (some ⟨go67, 0, none⟩) y425.length co74 : Value).ownBlock) (.slice Ao27 t397.length co27) t397) := ⟨(by rw [hw]; exact (by (with_reducible repeat (first | apply Kd.R_alloc | apply Kd.R_drewN | apply Kd.R_drew)); exact Kd.R_mono (Kd.R_far (p := ⟨gb437, 3, none⟩) (Kd.R_far (p := ⟨gb437, 2, none⟩) (Kd.R_far (p := ⟨gb437, 1, none⟩) (Kd.R_far (p := ⟨gb437, 0, none⟩) (Kd.R_types HO_4.out BK437.out (by decide)) (fun _ hk => by first | exact hk.2 | grind) (.int .i64 t432)) (fun _ hk => by first | exact hk.2 | grind) (.int .i64 t433)) (fun _ hk => by first | exact hk.2 | grind) (.int .i64 t434)) (fun _ hk => by first | exact hk.2 | grind) (.int .i64 t435)) (fun _ hk => by first | exact hk.1 | grind)))⟩; have n1_ : Aside0 (Kd.R (Kd.int .u8) 5 w83 w.heap.size (fun k_ => some k_ ≠ (.slice Ao27 t397.length co27 : Value).ownBlock) (.slice (some ⟨go67, 0, none⟩) y425.length co74) y431) := ⟨(by rw [hw]; exact (by (with_reducible repeat (first | apply Kd.R_alloc | apply Kd.R_drewN | apply Kd.R_drew)); exact Kd.R_mono (Kd.R_far (p := ⟨gb437, 3, none⟩) (Kd.R_far (p := ⟨gb437, 2, none⟩) (Kd.R_far (p := ⟨gb437, 1, none⟩) (Kd.R_far (p := ⟨gb437, 0, none⟩) (Kd.R_types HO427.out BK437.out (by decide)) (fun _ hk => by first | exact hk.2 | grind) (.int .i64 t432)) (fun _ hk => by first | exact hk.2 | grind) (.int .i64 t433)) (fun _ hk => by first | exact hk.2 | grind) (.int .i64 t434)) (fun _ hk => by first | exact hk.2 | grind) (.int .i64 t435)) (fun _ hk => by first | exact hk.1 | grind)))⟩; have n2_ : Aside0 (w83.heap[gb396]? = some (.cells #[.int .i64 t392, .int .i64 t393, .int .i64 t394, .int .i64 t395] 61 (0, 0))) := ⟨(by rw [hw]; exact (uf_ BK396.out))⟩; have n3_ : Aside0 (w83.heap[gb410]? = some (.cells #[.int .i64 t405, .int .i64 t406, .int .i64 t407, .int .i64 t408] 61 (0, 0))) := ⟨(by rw [hw]; exact (uf_ BK410.out))⟩; have n4_ : Aside0 (w83.heap[gb421]? = some (.cells #[.int .i64 t416, .int .i64 t417, .int .i64 t418, .int .i64 t419] 61 (0, 0))) := ⟨(by rw [hw]; exact (uf_ BK421.out))⟩; have n5_ : Aside0 (w83.heap[gb437]? = some (.cells #[.int .i64 t432, .int .i64 t433, .int .i64 t434, .int .i64 t435] 61 (0, 0))) := ⟨(by rw [hw]; exact (by (with_reducible repeat first|apply bn_|apply bd_|apply ba_); refine blk_put (cs := #[.int .i64 t432, .int .i64 t433, .int .i64 t434, .int .i64 0]) ?_ 3 _ rfl; refine blk_put (cs := #[.int .i64 t432, .int .i64 t433, .int .i64 0, .int .i64 0]) ?_ 2 _ rfl; refine blk_put (cs := #[.int .i64 t432, .int .i64 0, .int .i64 0, .int .i64 0]) ?_ 1 _ rfl; refine blk_put (cs := #[.int .i64 0, .int .i64 0, .int .i64 0, .int .i64 0]) ?_ 0 _ rfl; (with_reducible repeat first|apply bn_|apply bd_|apply ba_); exact BK437.out))⟩; have n6_ : Aside0 (Below w.heap.size w w83) := ⟨(by rw [hw]; exact (ue_ HB.out))⟩; clear hw HO_4 HO427 BK396 BK410 BK421 BK437 HB; have HO_4 := n0_; have HO427 := n1_; have BK396 := n2_; have BK410 := n3_; have BK421 := n4_; have BK437 := n5_; have HB := n6_; clear n0_ n1_ n2_ n3_ n4_ n5_ n6_))
               go_ret
               exact ⟨by first | rfl | (simp [errW_none, errW_some] <;> rfl) | (simp only [← hji14, ← hji63]; first | rfl | (simp [errW_none, errW_some] <;> rfl)) | (simp [*, errW_none, errW_some] <;> rfl), ue_ HB.out⟩
              ·
               rw [if_neg c69] at H
               have c69b0 : decide (t436 ≤ 0) = false := decide_eq_false c69
               clear c69
               obtain rfl := Option.some.inj H
               try go_wp2_with (first | ((with_reducible refine gate_dst (N := 59) rfl ?_); (try (refine gate_guard (by rfl) ?_; dsimp only)); refine Kd.R_lit (Kd.int .u8) _ 5 ?hg (N := 59) ?hd (xs := ([] : List Int)) (inner := []) (ok := fun _ => True) (okp := fun _ => True) ?hr ?hp (fun _ hk => hk) trivial (Below.refl _ _) (Nat.le_refl _) (by simp) ?_; (case hd => rfl); (case hg => rfl); (case hr => first | (go_simp; done) | (go_simp; rfl)); (case hp => exact (Reps.none _ _)); intro v423 w84 ho85 hb hg_ hnew_; clear hg_ hnew_; (first | rw [← Ny422.out] at ho85 | (simp only [Int.reduceToNat] at ho85; rw [← Ny422.out] at ho85)); have n0_ := am_ (Kd.R_elder' (ur_ HO_4.out) (Kd.R_base ho85) hb); have n1_ := am_ (Kd.R_lower (Kd.R_new' ho85 (Kd.R_lt (ur_ HO_4.out))) (below_size (ue_ HB.out))); have n2_ := am_ (bb_ BK396.out hb); have n3_ := am_ (bb_ BK410.out hb); have n4_ := am_ (bb_ BK421.out hb); have n5_ := am_ (below_step (ue_ HB.out) hb); clear HO_4 BK396 BK410 BK421 HB; have HO_4 := n0_; have HO424 := n1_; have BK396 := n2_; have BK410 := n3_; have BK421 := n4_; have HB := n5_; clear n0_ n1_ n2_ n3_ n4_ n5_; clear hb ho85) | ((with_reducible refine gate_builtin (b := .append) (xs := #[.tmp 59, .tmp 60]) rfl ?_); (try (refine gate_guard (by rfl) ?_; dsimp only)); at_builtin; refine Kd.R_append_rows (Kd.int .u8) (w0 := w) w.heap.size rfl (.tmp 59) (.tmp 60) 49 5 (.int .u8 0) 1 rfl Try.underlying49 info5 rfl (by decide) (by omega) v423 y422 t397 _ _ _ (fun k_ => some k_ ≠ (.slice Ao27 t397.length co27 : Value).ownBlock) (fun _ => False) rfl rfl ?aO ?aR (fun _ _ h => h) (fun _ h => h.elim) ?aF ?aB ?aS ?aL ?_; (case aR => repeat (first | exact (Kd.R_reads' HO_4.out).2.2 | (with_reducible refine Kd.C_alloc ?_ _) | (with_reducible refine Kd.C_drewN ?_ _) | (with_reducible refine Kd.C_drew ?_))); (case aB => exact (ue_ HB.out)); (case aF => exact (fun k_ hk => Kd.fresh' (Kd.R_lt (ur_ HO_4.out)) k_ hk)); (case aO => exact (by (with_reducible repeat (first | apply Kd.R_alloc | apply Kd.R_drewN | apply Kd.R_drew)); exact Kd.R_mono HO424.out (fun _ hk => by first | exact hk.2 | grind))); (case aS => exact (below_size (ue_ HB.out))); (case aL => have := LMc60.out; omega); intro v426 w86 ho hb hg hat; rw [← Ny425.out] at ho; have n0_ := am_ (Kd.R_after (ok := (fun _ => True)) (ur_ HO_4.out) hg hat); have n1_ := am_ (blk_grown (g := gb396) (o := .cells #[.int .i64 t392, .int .i64 t393, .int .i64 t394, .int .i64 t395] 61 (0, 0)) (ub_ BK396.out) hg (Kd.R_ne HO424.out BK396.out (by decide))); have n2_ := am_ (blk_grown (g := gb410) (o := .cells #[.int .i64 t405, .int .i64 t406, .int .i64 t407, .int .i64 t408] 61 (0, 0)) (ub_ BK410.out) hg (Kd.R_ne HO424.out BK410.out (by decide))); have n3_ := am_ (blk_grown (g := gb421) (o := .cells #[.int .i64 t416, .int .i64 t417, .int .i64 t418, .int .i64 t419] 61 (0, 0)) (ub_ BK421.out) hg (Kd.R_ne HO424.out BK421.out (by decide))); have n4_ := am_ (hb); have n5_ := am_ (ho); clear HO_4 BK396 BK410 BK421 HB HO424; have HO_4 := n0_; have BK396 := n1_; have BK410 := n2_; have BK421 := n3_; have HB := n4_; have HO427 := n5_; clear n0_ n1_ n2_ n3_ n4_ n5_; clear ho hb hg hat) | ((with_reducible refine gate_callee (f := 49) rfl ?_); refine goesL_ (some 63) rfl rfl Try.func49 (by kernel_rfl) rfl #[.slice A0 l0.length c0, .int .i64 1] rfl ul_ ?_; (with_reducible refine (laws_at.calls _ _ l0 1 t428 _ ?side1 ?side2 A61.out).mono ?_); (case side1 => repeat (first | exact (Kd.C_below HR0.out HB.out) | (with_reducible refine Kd.C_alloc ?_ _) | (with_reducible refine Kd.C_drewN ?_ _) | (with_reducible refine Kd.C_drew ?_))); (case side2 => exact HC0.out); rintro e w' ⟨rfl, ⟨nd, rfl⟩⟩; refine ⟨_, rfl, ?_⟩; (try (rw [drewN_self w86]; generalize hq_ : World.drewN w86 _ = w86; have n0_ : Aside0 (Kd.R (Kd.int .u8) 5 w86 w.heap.size (fun k_ => some k_ ≠ (.slice Ao27 t397.length co27 : Value).ownBlock) v426 y425) := ⟨by rw [← hq_]; exact (ur_ HO427.out)⟩; have n1_ : Aside0 (Kd.R (Kd.int .u8) 5 w86 w.heap.size (fun k_ => some k_ ≠ (v426 : Value).ownBlock) (.slice Ao27 t397.length co27) t397) := ⟨by rw [← hq_]; exact (by (with_reducible repeat (first | apply Kd.R_alloc | apply Kd.R_drewN | apply Kd.R_drew)); exact Kd.R_mono HO_4.out (fun _ hk => by first | exact hk.2 | grind))⟩; have n2_ : Aside0 (w86.heap[gb396]? = some (.cells #[.int .i64 t392, .int .i64 t393, .int .i64 t394, .int .i64 t395] 61 (0, 0))) := ⟨by rw [← hq_]; exact (ub_ BK396.out)⟩; have n3_ : Aside0 (w86.heap[gb410]? = some (.cells #[.int .i64 t405, .int .i64 t406, .int .i64 t407, .int .i64 t408] 61 (0, 0))) := ⟨by rw [← hq_]; exact (ub_ BK410.out)⟩; have n4_ : Aside0 (w86.heap[gb421]? = some (.cells #[.int .i64 t416, .int .i64 t417, .int .i64 t418, .int .i64 t419] 61 (0, 0))) := ⟨by rw [← hq_]; exact (ub_ BK421.out)⟩; have n5_ : Aside0 (Below w.heap.size w w86) := ⟨by rw [← hq_]; exact (ue_ HB.out)⟩; clear HO427 HO_4 BK396 BK410 BK421 HB hq_; have HO427 := n0_; have HO_4 := n1_; have BK396 := n2_; have BK410 := n3_; have BK421 := n4_; have HB := n5_; clear n0_ n1_ n2_ n3_ n4_ n5_))))
               have n0_ := am_ (Kd.R_drew HO_4.out)
               have n1_ := am_ (Kd.R_drew HO427.out)
               have n2_ := am_ (blk_drew BK396.out)
               have n3_ := am_ (blk_drew BK410.out)
               have n4_ := am_ (blk_drew BK421.out)
               have n5_ := am_ (below_drew1 HB.out)
               clear HO_4
               clear HO427
               clear BK396
               clear BK410
               clear BK421
               clear HB
               have HO_4 := n0_
               have HO427 := n1_
               have BK396 := n2_
               have BK410 := n3_
               have BK421 := n4_
               have HB := n5_
               clear n0_ n1_ n2_ n3_ n4_ n5_
               obtain ⟨Ao88, co88, eo88⟩ := Kd.R_slice HO427.out
               (first | subst eo88 | (injection eo88 with f1_ f2_ f3_; have f4_ := f1_.symm; have f5_ := f3_.symm; clear f1_ f2_ f3_; subst f4_; subst f5_))
               have p429 : 0 ≤ ((ji63) : Int) := of_decide_eq_true ua_
               have q429 : (ji63) < (y425.length : Int) := of_decide_eq_true ua_
               obtain ⟨ad429, e429, hx429_0⟩ := Kd.at_int (Kd.R_reads' HO427.out).2.2 (ji63) p429 q429
               cases e429
               replace p429 := eq_true p429
               replace q429 := eq_true q429
               refine start_ (n := 14) (S := fun w' => w'.cell? (ad429.add ((ji63)).toNat) = some (.int .u8 (rd y425 (ji63)))) (ds := [13]) #[false, false, false, false, false, false, false, false, false, false, false, false, false, false] (by kernel_rfl) rfl rfl (hx429_0) (fun hHeld => ?_); refine with_tabW laws_FnFrames.tab15 laws_FnFrames.bits15 (fun HT_ HW_ => ?_)
               generalize w86.drew = w87 at HO_4 HO427 BK396 BK410 BK421 HB hx429_0 hHeld ⊢
               refine pure_ (i := 0) (N := some 67) (v := ?_) (a' := ?_) #[true, false, false, false, false, false, false, false, false, false, false, false, false, false] rfl rfl (any_of HT_.out (by kernel_rfl)) (fun _ _ _ h => h) (Or.inl ⟨by rfl, ?_⟩) ?_ ?_
               rotate_left
               ·
                intro w'
                go_simp
                with_reducible rfl
               rotate_left
               ·
                simp only [Act.put, List.setIfInBounds_toArray, List.set_cons_zero, List.set_cons_succ, i64_w, i32_w]
                rfl
               refine pure_ (i := 1) (N := some 68) (v := ?_) (a' := ?_) #[true, true, false, false, false, false, false, false, false, false, false, false, false, false] rfl rfl (any_of HT_.out (by kernel_rfl)) (fun _ _ _ h => h) (Or.inl ⟨by rfl, ?_⟩) ?_ ?_
               rotate_left
               ·
                intro w'
                go_simp
                with_reducible rfl
               rotate_left
               ·
                simp only [Act.put, List.setIfInBounds_toArray, List.set_cons_zero, List.set_cons_succ, i64_w, i32_w]
                rfl
               refine pure_ (i := 2) (N := some 69) (v := ?_) (a' := ?_) #[true, true, true, false, false, false, false, false, false, false, false, false, false, false] rfl rfl (any_of HT_.out (by kernel_rfl)) (fun _ _ _ h => h) (Or.inl ⟨by rfl, ?_⟩) ?_ ?_
               rotate_left
               ·
                intro w'
                go_simp
                with_reducible rfl
               rotate_left
               ·
                simp only [Act.put, List.setIfInBounds_toArray, List.set_cons_zero, List.set_cons_succ, i64_w, i32_w]
                rfl
               refine pure_ (i := 3) (N := some 70) (v := ?_) (a' := ?_) #[true, true, true, true, false, false, false, false, false, false, false, false, false, false] rfl rfl (any_of HT_.out (by kernel_rfl)) (fun _ _ _ h => h) (Or.inl ⟨by rfl, ?_⟩) ?_ ?_
               rotate_left
               ·
                intro w'
                go_simp
                with_reducible rfl
               rotate_left
               ·
                simp only [Act.put, List.setIfInBounds_toArray, List.set_cons_zero, List.set_cons_succ, i64_w, i32_w]
                rfl
               refine pure_ (i := 4) (N := some 71) (v := ?_) (a' := ?_) #[true, true, true, true, true, false, false, false, false, false, false, false, false, false] rfl rfl (any_of HT_.out (by kernel_rfl)) (fun _ _ _ h => h) (Or.inl ⟨by rfl, ?_⟩) ?_ ?_
               rotate_left
               ·
                intro w'
                go_simp
                with_reducible rfl
               rotate_left
               ·
                simp only [Act.put, List.setIfInBounds_toArray, List.set_cons_zero, List.set_cons_succ, i64_w, i32_w]
                rfl
               refine pure_ (i := 6) (N := some 73) (v := ?_) (a' := ?_) #[true, true, true, true, true, false, true, false, false, false, false, false, false, false] rfl rfl (any_of HT_.out (by kernel_rfl)) (fun _ _ _ h => h) (Or.inl ⟨by rfl, ?_⟩) ?_ ?_
               rotate_left
               ·
                intro w'
                go_simp
                with_reducible rfl
               rotate_left
               ·
                simp only [Act.put, List.setIfInBounds_toArray, List.set_cons_zero, List.set_cons_succ, i64_w, i32_w]
                rfl
               refine take_ (i := 5) (N := some 72) (v := ?_) (a' := ?_) #[true, true, true, true, true, true, true, false, false, false, false, false, false, false] rfl rfl (take_ofW HT_.out HW_.out (by kernel_rfl)) (fun _ _ _ h => h) (Or.inl ⟨by rfl, ?_⟩) hHeld ?_ ?_
               rotate_left
               ·
                intro w' s0
                go_simp
                with_reducible rfl
               rotate_left
               ·
                simp only [Act.put, List.setIfInBounds_toArray, List.set_cons_zero, List.set_cons_succ, i64_w, i32_w]
                rfl
               refine one_ (i := 7) (N := some 74) #[true, true, true, true, true, true, true, true, false, false, false, false, false, false] rfl rfl (one_of HT_.out (by kernel_rfl)) (by decide) (fun K hK => ?_)
               refine goes_ Try.func49 (by kernel_rfl) rfl #[.slice A0 l0.length c0, .int .i64 2] (by rfl) rfl rfl ul_ ?_
               with_reducible refine (laws_at.calls _ _ l0 2 t430 _ ?side1 ?side2 A66.out).mono ?_
               (case side1 => repeat (first | exact (Kd.C_below HR0.out HB.out) | (with_reducible refine Kd.C_alloc ?_ _) | (with_reducible refine Kd.C_drewN ?_ _) | (with_reducible refine Kd.C_drew ?_)))
               (case side2 => exact HC0.out)
               rintro e w' ⟨rfl, ⟨nd, rfl⟩⟩
               refine ⟨_, rfl, ?_⟩
               have m0_ := Aside0.mk (Kd.R_drewN HO_4.out nd)
               have m1_ := Aside0.mk (Kd.R_drewN HO427.out nd)
               have m2_ := Aside0.mk (bn_ BK396.out nd)
               have m3_ := Aside0.mk (bn_ BK410.out nd)
               have m4_ := Aside0.mk (bn_ BK421.out nd)
               have m5_ := Aside0.mk (pw_below_drewN HB.out nd)
               replace hHeld := (show World.cell? (World.drewN w87 nd) _ = _ from hHeld)
               clear HO_4 HO427 BK396 BK410 BK421 HB
               generalize World.drewN w87 nd = wq_ at m0_ m1_ m2_ m3_ m4_ m5_ hHeld ⊢
               have HO_4 := m0_
               have HO427 := m1_
               have BK396 := m2_
               have BK410 := m3_
               have BK421 := m4_
               have HB := m5_
               clear m0_ m1_ m2_ m3_ m4_ m5_
               have p67 : 0 ≤ ((ji63) : Int) := of_decide_eq_true ua_
               have q67 : ((ji63) : Int) < ((y425.length : Int) : Int) := of_decide_eq_true ua_
               obtain ⟨go67, co67, eo67, gb67, gl67, cl67, HG67⟩ := Kd.R_form HO427.out (by omega)
               (first | cases eo67 | (injection eo67 with ea_ en_ ec_; (first | subst ea_ | (injection ea_ with ea_; subst ea_)); subst ec_; clear en_))
               have GB67 := Aside0.mk gb67
               have GG67 := Aside0.mk HG67
               clear gb67 gl67 HG67
               (first | simp only [add_plain] at hx429_0 | skip)
               obtain ⟨hx67_0, hf67_0⟩ := Kd.R_celln 0 HO427.out ((ji63) : Int) p67 q67
               replace p67 := eq_true p67
               replace q67 := eq_true q67
               have HP89 := Kd.R_putn HO427.out ((ji63) : Int) (Go.bits .xor .u8 (rd y425 (ji63)) ((wrap64 (1 + (Int.tmod t430 255))) % 256))
               rw [← Ny431.out] at HP89
               have HQ89 := Aside0.mk HP89
               clear HP89
               refine hK.out _ _ (hHeld) (fun hHeld => ?_)
               clear hK K
               refine norm_ (a' := ?_) ?_ ?_
               rotate_left
               ·
                show Act.put _ (some 74) _ = _
                simp only [Act.put, List.setIfInBounds_toArray, List.set_cons_zero, List.set_cons_succ, i64_w, i32_w]
                rfl
               refine pure_ (i := 8) (N := some 75) (v := ?_) (a' := ?_) #[true, true, true, true, true, true, true, true, true, false, false, false, false, false] rfl rfl (any_of HT_.out (by kernel_rfl)) (fun _ _ _ h => h) (Or.inl ⟨by rfl, ?_⟩) ?_ ?_
               rotate_left
               ·
                intro w'
                go_simp
                with_reducible rfl
               rotate_left
               ·
                simp only [Act.put, List.setIfInBounds_toArray, List.set_cons_zero, List.set_cons_succ, i64_w, i32_w]
                rfl
               refine pure_ (i := 9) (N := some 76) (v := ?_) (a' := ?_) #[true, true, true, true, true, true, true, true, true, true, false, false, false, false] rfl rfl (any_of HT_.out (by kernel_rfl)) (fun _ _ _ h => h) (Or.inl ⟨by rfl, ?_⟩) ?_ ?_
               rotate_left
               ·
                intro w'
                go_simp
                with_reducible rfl
               rotate_left
               ·
                simp only [Act.put, List.setIfInBounds_toArray, List.set_cons_zero, List.set_cons_succ, i64_w, i32_w]
                rfl
               refine pure_ (i := 10) (N := some 77) (v := ?_) (a' := ?_) #[true, true, true, true, true, true, true, true, true, true, true, false, false, false] rfl rfl (any_of HT_.out (by kernel_rfl)) (fun _ _ _ h => h) (Or.inl ⟨by rfl, ?_⟩) ?_ ?_
               rotate_left
               ·
                intro w'
                go_simp
                with_reducible rfl
               rotate_left
               ·
                simp only [Act.put, List.setIfInBounds_toArray, List.set_cons_zero, List.set_cons_succ, i64_w, i32_w]
                rfl
               refine pure_ (i := 11) (N := some 78) (v := ?_) (a' := ?_) #[true, true, true, true, true, true, true, true, true, true, true, true, false, false] rfl rfl (any_of HT_.out (by kernel_rfl)) (fun _ _ _ h => h) (Or.inl ⟨by rfl, ?_⟩) ?_ ?_
               rotate_left
               ·
                intro w'
                go_simp
                with_reducible rfl
               rotate_left
               ·
                simp only [Act.put, List.setIfInBounds_toArray, List.set_cons_zero, List.set_cons_succ, i64_w, i32_w]
                rfl
               refine pure_ (i := 12) (N := some 79) (v := ?_) (a' := ?_) #[true, true, true, true, true, true, true, true, true, true, true, true, true, false] rfl rfl (any_of HT_.out (by kernel_rfl)) (fun _ _ _ h => h) (Or.inl ⟨by rfl, ?_⟩) ?_ ?_
               rotate_left
               ·
                intro w'
                go_simp
                with_reducible rfl
               rotate_left
               ·
                simp only [Act.put, List.setIfInBounds_toArray, List.set_cons_zero, List.set_cons_succ, i64_w, i32_w]
                rfl
               refine last_ (i := 13) (N := none) #[true, true, true, true, true, true, true, true, true, true, true, true, true, true] rfl rfl (one_of HT_.out (by kernel_rfl)) (by decide) (fun K hK => ?_)
               refine skip_ (w1 := ?_) (by rfl) rfl ?_ ?_
               rotate_left
               ·
                go_simp
                rfl
               refine hK.out _ _ ?_
               clear hK K
               refine done_ (done_of HT_.out (by kernel_rfl)) ?_
               have n0_ : Aside0 (Kd.R (Kd.int .u8) 5 (wq_.setCell ⟨go67, ((ji63) : Int).toNat, none⟩ (.int .u8 (Go.bits .xor .u8 (rd y425 (ji63)) ((wrap64 (1 + (Int.tmod t430 255))) % 256)))) w.heap.size (fun k_ => some k_ ≠ (.slice (some ⟨go67, 0, none⟩) y425.length co88 : Value).ownBlock) (.slice Ao27 t397.length co27) t397) := ⟨by (with_reducible repeat (first | apply Kd.R_alloc | apply Kd.R_drewN | apply Kd.R_drew)); exact Kd.R_mono (Kd.R_far (p := ⟨go67, ((ji63) : Int).toNat, none⟩) (Kd.R_mono HO_4.out (fun k_ hk => (⟨hk, fun e_ => by first | exact hk.2 (by rw [e_]; rfl) | exact hk (by rw [e_]; rfl)⟩ : _ ∧ k_ ≠ go67))) (fun _ hk => by first | exact hk.2 | grind) (.int .u8 (Go.bits .xor .u8 (rd y425 (ji63)) ((wrap64 (1 + (Int.tmod t430 255))) % 256)))) (fun _ hk => by first | exact hk.1.2 | grind)⟩
               have n1_ : Aside0 (Kd.R (Kd.int .u8) 5 (wq_.setCell ⟨go67, ((ji63) : Int).toNat, none⟩ (.int .u8 (Go.bits .xor .u8 (rd y425 (ji63)) ((wrap64 (1 + (Int.tmod t430 255))) % 256)))) w.heap.size (fun k_ => some k_ ≠ (.slice Ao27 t397.length co27 : Value).ownBlock) (.slice (some ⟨go67, 0, none⟩) y425.length co88) y431) := ⟨by (with_reducible repeat (first | apply Kd.R_alloc | apply Kd.R_drewN | apply Kd.R_drew)); exact HQ89.out⟩
               have n2_ : Aside0 ((wq_.setCell ⟨go67, ((ji63) : Int).toNat, none⟩ (.int .u8 (Go.bits .xor .u8 (rd y425 (ji63)) ((wrap64 (1 + (Int.tmod t430 255))) % 256)))).heap[gb396]? = some (.cells #[.int .i64 t392, .int .i64 t393, .int .i64 t394, .int .i64 t395] 61 (0, 0))) := ⟨by (with_reducible repeat first|apply bn_|apply bd_|apply ba_); refine blk_far ?_ (by have h_ := Kd.R_ne HO427.out BK396.out (by decide); intro e_; exact h_ (by rw [e_]; rfl)) _; (with_reducible repeat first|apply bn_|apply bd_|apply ba_); exact BK396.out⟩
               have n3_ : Aside0 ((wq_.setCell ⟨go67, ((ji63) : Int).toNat, none⟩ (.int .u8 (Go.bits .xor .u8 (rd y425 (ji63)) ((wrap64 (1 + (Int.tmod t430 255))) % 256)))).heap[gb410]? = some (.cells #[.int .i64 t405, .int .i64 t406, .int .i64 t407, .int .i64 t408] 61 (0, 0))) := ⟨by (with_reducible repeat first|apply bn_|apply bd_|apply ba_); refine blk_far ?_ (by have h_ := Kd.R_ne HO427.out BK410.out (by decide); intro e_; exact h_ (by rw [e_]; rfl)) _; (with_reducible repeat first|apply bn_|apply bd_|apply ba_); exact BK410.out⟩
               have n4_ : Aside0 ((wq_.setCell ⟨go67, ((ji63) : Int).toNat, none⟩ (.int .u8 (Go.bits .xor .u8 (rd y425 (ji63)) ((wrap64 (1 + (Int.tmod t430 255))) % 256)))).heap[gb421]? = some (.cells #[.int .i64 t416, .int .i64 t417, .int .i64 t418, .int .i64 t419] 61 (0, 0))) := ⟨by (with_reducible repeat first|apply bn_|apply bd_|apply ba_); refine blk_far ?_ (by have h_ := Kd.R_ne HO427.out BK421.out (by decide); intro e_; exact h_ (by rw [e_]; rfl)) _; (with_reducible repeat first|apply bn_|apply bd_|apply ba_); exact BK421.out⟩
               have n5_ : Aside0 (Below w.heap.size w (wq_.setCell ⟨go67, ((ji63) : Int).toNat, none⟩ (.int .u8 (Go.bits .xor .u8 (rd y425 (ji63)) ((wrap64 (1 + (Int.tmod t430 255))) % 256))))) := ⟨by repeat (first | (with_reducible first | exact HB.out | apply below_alloc | apply pw_below_drewN | apply below_drew1 | refine below_set ?_ GB67.out | refine below_set ?_ GE396.out | refine below_set ?_ GE410.out | refine below_set ?_ GE421.out) | exact HB.out)⟩
               (try clear HO_4)
               (try clear HO427)
               (try clear BK396)
               (try clear BK410)
               (try clear BK421)
               (try clear HB)
               (try rw [IntKind.wrap_u8])
               generalize (wq_.setCell ⟨go67, ((ji63) : Int).toNat, none⟩ (.int .u8 (Go.bits .xor .u8 (rd y425 (ji63)) ((wrap64 (1 + (Int.tmod t430 255))) % 256)))) = w90 at n0_ n1_ n2_ n3_ n4_ n5_ ⊢
               have HO_4 := n0_
               have HO427 := n1_
               have BK396 := n2_
               have BK410 := n3_
               have BK421 := n4_
               have HB := n5_
               clear n0_ n1_ n2_ n3_ n4_ n5_
               try go_wp2_with (first | ((with_reducible refine gate_callee (f := 48) rfl ?_); refine goesL_ (some 82) rfl rfl Try.func48 (by kernel_rfl) rfl #[.slice (some ⟨go67, 0, none⟩) y431.length co88] rfl (by (try simp only [List.map_toArray, List.map_cons, List.map_nil]); first | done | (rw [show y431.length = y425.length from (Kd.R_reads' HO427.out).1.symm] <;> rfl) | rfl | (simp only [List.length_drop, List.length_take]; rfl)) ?_; (with_reducible refine (impl_TakeFrame.calls kj17 _ _ y431 t432 t433 t434 t435 t436 _ ?side1 ?side2 A68.out).mono ?_); (case side1 => repeat (first | exact (Kd.R_reads' HO427.out).2.2 | (with_reducible refine Kd.C_alloc ?_ _) | (with_reducible refine Kd.C_drewN ?_ _) | (with_reducible refine Kd.C_drew ?_))); (case side2 => rw [show y431.length = y425.length from (Kd.R_reads' HO427.out).1.symm]; exact (Kd.R_reads' HO427.out).2.1); rintro e w91 ⟨rfl, hb⟩; refine ⟨_, rfl, ?_⟩; have n0_ := am_ (Kd.R_below (ur_ HO_4.out) hb); have n1_ := am_ (Kd.R_below (ur_ HO427.out) hb); have n2_ := am_ (bb_ BK396.out hb); have n3_ := am_ (bb_ BK410.out hb); have n4_ := am_ (bb_ BK421.out hb); have n5_ := am_ (below_step (ue_ HB.out) hb); clear HO_4 HO427 BK396 BK410 BK421 HB; have HO_4 := n0_; have HO427 := n1_; have BK396 := n2_; have BK410 := n3_; have BK421 := n4_; have HB := n5_; clear n0_ n1_ n2_ n3_ n4_ n5_; (try clear hb); (try clear hb2); (try clear hk); (try clear hi)) | ((with_reducible refine gate_dst (N := 11) rfl ?_); (try (refine gate_guard (by rfl) ?_; dsimp only)); refine box_event ?hg (N := 11) ?hd (cs := #[.int .i64 0, .int .i64 0, .int .i64 0, .int .i64 0]) (t := 61) ?hr ?_; (case hd => rfl); (case hg => rfl); (case hr => first | (go_simp; done) | (go_simp; rfl)); intro gb437 hg w92 hbox hb; have n0_ := am_ (Kd.R_below (ur_ HO_4.out) hb); have n1_ := am_ (Kd.R_below (ur_ HO427.out) hb); have n2_ := am_ (bb_ BK396.out hb); have n3_ := am_ (bb_ BK410.out hb); have n4_ := am_ (bb_ BK421.out hb); have n5_ := am_ (below_step (ue_ HB.out) hb); have n6_ := am_ (hbox); have n7_ := am_ ((by rw [hg]; exact (below_size (ue_ HB.out)) : w.heap.size ≤ gb437)); have n8_ := am_ ((by rw [hg]; exact (below_size (ue_ HB.out)) : w.heap.size ≤ gb437)); have n9_ := am_ ((by rw [hg]; exact Nat.ne_of_lt (bl_ BK396.out) : gb396 ≠ gb437)); have n10_ := am_ ((by rw [hg]; exact Nat.ne_of_gt (bl_ BK396.out) : gb437 ≠ gb396)); have n11_ := am_ ((by rw [hg]; exact Nat.ne_of_lt (bl_ BK410.out) : gb410 ≠ gb437)); have n12_ := am_ ((by rw [hg]; exact Nat.ne_of_gt (bl_ BK410.out) : gb437 ≠ gb410)); have n13_ := am_ ((by rw [hg]; exact Nat.ne_of_lt (bl_ BK421.out) : gb421 ≠ gb437)); have n14_ := am_ ((by rw [hg]; exact Nat.ne_of_gt (bl_ BK421.out) : gb437 ≠ gb421)); clear HO_4 HO427 BK396 BK410 BK421 HB; have HO_4 := n0_; have HO427 := n1_; have BK396 := n2_; have BK410 := n3_; have BK421 := n4_; have HB := n5_; have BK437 := n6_; have GW437 := n7_; have GE437 := n8_; have NB396_437 := n9_; have NB437_396 := n10_; have NB410_437 := n11_; have NB437_410 := n12_; have NB421_437 := n13_; have NB437_421 := n14_; clear n0_ n1_ n2_ n3_ n4_ n5_ n6_ n7_ n8_ n9_ n10_ n11_ n12_ n13_ n14_; clear hb hbox hg; have hnb93 := NB437_396.out; have hnc93 := NB396_437.out; have hnb94 := NB437_410.out; have hnc94 := NB410_437.out; have hnb95 := NB437_421.out; have hnc95 := NB421_437.out; obtain ⟨hcz96_0, hcz96_1, hcz96_2, hcz96_3⟩ := cb4_ BK437.out; obtain ⟨hfz96_0, hfz96_1, hfz96_2⟩ := bf3_ BK437.out; have hfz96_3 := blk_frozen BK437.out 3) | ((with_reducible refine gate_store (t := 61) (p := 11) rfl ?_); refine store_event (t := 61) (p := 11) (v := ?vo_w97) (w1 := ((((w92.setCell ⟨gb437, 0, none⟩ (.int .i64 t432)).setCell ⟨gb437, 1, none⟩ (.int .i64 t433)).setCell ⟨gb437, 2, none⟩ (.int .i64 t434)).setCell ⟨gb437, 3, none⟩ (.int .i64 t435))) ?hg ?ho ?hn ?hr ?_; (case ho => rfl); (case hg => rfl); (case hn => rfl); (case hr => first | (go_simp; done) | (go_simp; rfl)); intro w97 hw; have n0_ : Aside0 (Kd.R (Kd.int .u8) 5 w97 w.heap.size (fun k_ => some k_ ≠ (.slice (some ⟨go67, 0, none⟩) y425.length co88 : Value).ownBlock) (.slice Ao27 t397.length co27) t397) := ⟨(by rw [hw]; exact (by (with_reducible repeat (first | apply Kd.R_alloc | apply Kd.R_drewN | apply Kd.R_drew)); exact Kd.R_mono (Kd.R_far (p := ⟨gb437, 3, none⟩) (Kd.R_far (p := ⟨gb437, 2, none⟩) (Kd.R_far (p := ⟨gb437, 1, none⟩) (Kd.R_far (p := ⟨gb437, 0, none⟩) (Kd.R_types HO_4.out BK437.out (by decide)) (fun _ hk => by first | exact hk.2 | grind) (.int .i64 t432)) (fun _ hk => by first | exact hk.2 | grind) (.int .i64 t433)) (fun _ hk => by first | exact hk.2 | grind) (.int .i64 t434)) (fun _ hk => by first | exact hk.2 | grind) (.int .i64 t435)) (fun _ hk => by first | exact hk.1 | grind)))⟩; have n1_ : Aside0 (Kd.R (Kd.int .u8) 5 w97 w.heap.size (fun k_ => some k_ ≠ (.slice Ao27 t397.length co27 : Value).ownBlock) (.slice (some ⟨go67, 0, none⟩) y425.length co88) y431) := ⟨(by rw [hw]; exact (by (with_reducible repeat (first | apply Kd.R_alloc | apply Kd.R_drewN | apply Kd.R_drew)); exact Kd.R_mono (Kd.R_far (p := ⟨gb437, 3, none⟩) (Kd.R_far (p := ⟨gb437, 2, none⟩) (Kd.R_far (p := ⟨gb437, 1, none⟩) (Kd.R_far (p := ⟨gb437, 0, none⟩) (Kd.R_types HO427.out BK437.out (by decide)) (fun _ hk => by first | exact hk.2 | grind) (.int .i64 t432)) (fun _ hk => by first | exact hk.2 | grind) (.int .i64 t433)) (fun _ hk => by first | exact hk.2 | grind) (.int .i64 t434)) (fun _ hk => by first | exact hk.2 | grind) (.int .i64 t435)) (fun _ hk => by first | exact hk.1 | grind)))⟩; have n2_ : Aside0 (w97.heap[gb396]? = some (.cells #[.int .i64 t392, .int .i64 t393, .int .i64 t394, .int .i64 t395] 61 (0, 0))) := ⟨(by rw [hw]; exact (uf_ BK396.out))⟩; have n3_ : Aside0 (w97.heap[gb410]? = some (.cells #[.int .i64 t405, .int .i64 t406, .int .i64 t407, .int .i64 t408] 61 (0, 0))) := ⟨(by rw [hw]; exact (uf_ BK410.out))⟩; have n4_ : Aside0 (w97.heap[gb421]? = some (.cells #[.int .i64 t416, .int .i64 t417, .int .i64 t418, .int .i64 t419] 61 (0, 0))) := ⟨(by rw [hw]; exact (uf_ BK421.out))⟩; have n5_ : Aside0 (w97.heap[gb437]? = some (.cells #[.int .i64 t432, .int .i64 t433, .int .i64 t434, .int .i64 t435] 61 (0, 0))) := ⟨(by rw [hw]; exact (by (with_reducible repeat first|apply bn_|apply bd_|apply ba_); refine blk_put (cs := #[.int .i64 t432, .int .i64 t433, .int .i64 t434, .int .i64 0]) ?_ 3 _ rfl; refine blk_put (cs := #[.int .i64 t432, .int .i64 t433, .int .i64 0, .int .i64 0]) ?_ 2 _ rfl; refine blk_put (cs := #[.int .i64 t432, .int .i64 0, .int .i64 0, .int .i64 0]) ?_ 1 _ rfl; refine blk_put (cs := #[.int .i64 0, .int .i64 0, .int .i64 0, .int .i64 0]) ?_ 0 _ rfl; (with_reducible repeat first|apply bn_|apply bd_|apply ba_); exact BK437.out))⟩; have n6_ : Aside0 (Below w.heap.size w w97) := ⟨(by rw [hw]; exact (ue_ HB.out))⟩; clear hw HO_4 HO427 BK396 BK410 BK421 BK437 HB; have HO_4 := n0_; have HO427 := n1_; have BK396 := n2_; have BK410 := n3_; have BK421 := n4_; have BK437 := n5_; have HB := n6_; clear n0_ n1_ n2_ n3_ n4_ n5_ n6_; obtain ⟨hcz98_0, hcz98_1, hcz98_2, hcz98_3⟩ := cb4_ BK437.out; obtain ⟨hfz98_0, hfz98_1, hfz98_2, hfz98_3⟩ := bf4_ BK437.out; have hnb99 := NB396_410.out; have hnc99 := NB410_396.out; have hnb100 := NB396_421.out; have hnc100 := NB421_396.out; obtain ⟨hcz101_0, hcz101_1, hcz101_2, hcz101_3⟩ := cb4_ BK396.out; obtain ⟨hfz101_0, hfz101_1, hfz101_2⟩ := bf3_ BK396.out; have hfz101_3 := blk_frozen BK396.out 3))
               go_ret
               exact ⟨by first | rfl | (simp [errW_none, errW_some] <;> rfl) | (simp only [← hji14, ← hji63]; first | rfl | (simp [errW_none, errW_some] <;> rfl)) | (simp [*, errW_none, errW_some] <;> rfl), ue_ HB.out⟩
             ·
              rw [if_neg c65] at H
              exact absurd H (by simp)
            ·
             rw [if_neg c64] at H
             exact absurd H (by simp)
          ·
           rw [if_neg c60] at H
           exact absurd H (by simp)
      ·
       rw [if_neg c16] at H
       exact absurd H (by simp)
     ·
      rw [if_neg c15] at H
      exact absurd H (by simp)
   ·
    replace c10 := Bool.eq_false_iff.mpr c10
    subst c10
    have H1 : (some ((t397.length : Int) == 0)) = some r := by rw [if_neg (show ¬ (false = true) by decide)] at H; exact H
    clear H
    have H := H1
    clear H1
    obtain rfl := Option.some.inj H
    go_enter Try.func7, Try.ntmps7
    go_wp2_with (first | ((with_reducible refine gate_callee (f := 31) rfl ?_); refine goesL_ (some 14) rfl rfl Try.func31 (by kernel_rfl) rfl #[.slice A0 l0.length c0] rfl ul_ ?_; (with_reducible refine (laws_big.calls _ _ l0 false _ ?side1 ?side2 A2.out).mono ?_); (case side1 => repeat (first | exact HR0.out | (with_reducible refine Kd.C_alloc ?_ _) | (with_reducible refine Kd.C_drewN ?_ _) | (with_reducible refine Kd.C_drew ?_))); (case side2 => exact HC0.out); rintro e w' ⟨rfl, ⟨nd, rfl⟩⟩; refine ⟨_, rfl, ?_⟩) | ((with_reducible refine gate_callee (f := 43) rfl ?_); refine goesL_ (some 16) rfl rfl Try.func43 (by kernel_rfl) rfl #[.slice A0 l0.length c0] rfl ul_ ?_; (with_reducible refine (spec_DrawPutFrame.calls k _ _ l0 t392 t393 t394 t395 _ ?side1 ?side2 A4.out).mono ?_); (case side1 => repeat (first | exact HR0.out | (with_reducible refine Kd.C_alloc ?_ _) | (with_reducible refine Kd.C_drewN ?_ _) | (with_reducible refine Kd.C_drew ?_))); (case side2 => exact HC0.out); rintro e w102 ⟨rfl, hb⟩; refine ⟨_, rfl, ?_⟩; have n0_ := am_ (below_step (ue_ HB.out) hb); clear HB; have HB := n0_; clear n0_; (try clear hb); (try clear hb2); (try clear hk); (try clear hi)) | ((with_reducible refine gate_dst (N := 3) rfl ?_); (try (refine gate_guard (by rfl) ?_; dsimp only)); refine box_event ?hg (N := 3) ?hd (cs := #[.int .i64 0, .int .i64 0, .int .i64 0, .int .i64 0]) (t := 61) ?hr ?_; (case hd => rfl); (case hg => rfl); (case hr => first | (go_simp; done) | (go_simp; rfl)); intro gb396 hg w103 hbox hb; have n0_ := am_ (below_step (ue_ HB.out) hb); have n1_ := am_ (hbox); have n2_ := am_ ((by rw [hg]; exact (below_size (ue_ HB.out)) : w.heap.size ≤ gb396)); have n3_ := am_ ((by rw [hg]; exact (below_size (ue_ HB.out)) : w.heap.size ≤ gb396)); clear HB; have HB := n0_; have BK396 := n1_; have GW396 := n2_; have GE396 := n3_; clear n0_ n1_ n2_ n3_; clear hb hbox hg; obtain ⟨hcz104_0, hcz104_1, hcz104_2, hcz104_3⟩ := cb4_ BK396.out; obtain ⟨hfz104_0, hfz104_1, hfz104_2⟩ := bf3_ BK396.out; have hfz104_3 := blk_frozen BK396.out 3) | ((with_reducible refine gate_store (t := 61) (p := 3) rfl ?_); refine store_event (t := 61) (p := 3) (v := ?vo_w105) (w1 := ((((w103.setCell ⟨gb396, 0, none⟩ (.int .i64 t392)).setCell ⟨gb396, 1, none⟩ (.int .i64 t393)).setCell ⟨gb396, 2, none⟩ (.int .i64 t394)).setCell ⟨gb396, 3, none⟩ (.int .i64 t395))) ?hg ?ho ?hn ?hr ?_; (case ho => rfl); (case hg => rfl); (case hn => rfl); (case hr => first | (go_simp; done) | (go_simp; rfl)); intro w105 hw; have n0_ : Aside0 (w105.heap[gb396]? = some (.cells #[.int .i64 t392, .int .i64 t393, .int .i64 t394, .int .i64 t395] 61 (0, 0))) := ⟨(by rw [hw]; exact (by (with_reducible repeat first|apply bn_|apply bd_|apply ba_); refine blk_put (cs := #[.int .i64 t392, .int .i64 t393, .int .i64 t394, .int .i64 0]) ?_ 3 _ rfl; refine blk_put (cs := #[.int .i64 t392, .int .i64 t393, .int .i64 0, .int .i64 0]) ?_ 2 _ rfl; refine blk_put (cs := #[.int .i64 t392, .int .i64 0, .int .i64 0, .int .i64 0]) ?_ 1 _ rfl; refine blk_put (cs := #[.int .i64 0, .int .i64 0, .int .i64 0, .int .i64 0]) ?_ 0 _ rfl; (with_reducible repeat first|apply bn_|apply bd_|apply ba_); exact BK396.out))⟩; have n1_ : Aside0 (Below w.heap.size w w105) := ⟨(by rw [hw]; exact (ue_ HB.out))⟩; clear hw BK396 HB; have BK396 := n0_; have HB := n1_; clear n0_ n1_; obtain ⟨hcz106_0, hcz106_1, hcz106_2, hcz106_3⟩ := cb4_ BK396.out; obtain ⟨hfz106_0, hfz106_1, hfz106_2⟩ := bf3_ BK396.out; have hfz106_3 := blk_frozen BK396.out 3) | ((with_reducible refine gate_callee (f := 44) rfl ?_); refine goesL_ (some 18) rfl rfl Try.func44 (by kernel_rfl) rfl #[.agg #[.int .i64 t392, .int .i64 t393, .int .i64 t394, .int .i64 t395]] rfl ul_ ?_; (with_reducible refine (impl_PutFrame.calls k t392 t393 t394 t395 t397 _ A5.out).mono ?_); rintro e w107 ⟨v398, rfl, ho0, hb⟩; refine ⟨_, rfl, ?_⟩; have n0_ := am_ (Kd.R_lower ho0 (below_size (ue_ HB.out))); have n1_ := am_ (bb_ BK396.out hb); have n2_ := am_ (below_step (ue_ HB.out) hb); clear BK396 HB; have HO399 := n0_; have BK396 := n1_; have HB := n2_; clear n0_ n1_ n2_; (try clear hb); (try clear hb2); (try clear hk); (try clear hi); (try clear ho0); obtain ⟨hcz108_0, hcz108_1, hcz108_2, hcz108_3⟩ := cb4_ BK396.out; obtain ⟨hfz108_0, hfz108_1, hfz108_2⟩ := bf3_ BK396.out; have hfz108_3 := blk_frozen BK396.out 3) | ((with_reducible refine gate_callee (f := 46) rfl ?_); refine goesL_ (some 21) rfl rfl Try.func46 (by kernel_rfl) rfl #[.agg #[.int .i64 t392, .int .i64 t393, .int .i64 t394, .int .i64 t395]] rfl ul_ ?_; (with_reducible refine (spec_PutFrame.calls k t392 t393 t394 t395 t400 _ A6.out).mono ?_); rintro e w109 ⟨v401, rfl, ho0, hb⟩; refine ⟨_, rfl, ?_⟩; have n0_ := am_ (Kd.R_elder' (ur_ HO399.out) (Kd.R_base ho0) hb); have n1_ := am_ (Kd.R_lower (Kd.R_new' ho0 (Kd.R_lt (ur_ HO399.out))) (below_size (ue_ HB.out))); have n2_ := am_ (bb_ BK396.out hb); have n3_ := am_ (below_step (ue_ HB.out) hb); clear HO399 BK396 HB; have HO399 := n0_; have HO402 := n1_; have BK396 := n2_; have HB := n3_; clear n0_ n1_ n2_ n3_; (try clear hb); (try clear hb2); (try clear hk); (try clear hi); (try clear ho0); obtain ⟨Ao110, co110, eo110⟩ := Kd.R_slice HO399.out; subst eo110; obtain ⟨Ao111, co111, eo111⟩ := Kd.R_slice HO402.out; subst eo111) | ((with_reducible refine gate_callee (f := 45) rfl ?_); refine goesL_ (some 22) rfl rfl Try.func45 (by kernel_rfl) rfl #[.slice Ao110 t397.length co110, .slice Ao111 t400.length co111] rfl ul_ ?_; (with_reducible refine (laws_sameBytes.calls k _ _ t397 _ _ t400 true _ ?side1 ?side2 ?side3 ?side4 A7.out).mono ?_); (case side1 => repeat (first | exact (Kd.R_reads' HO399.out).2.2 | (with_reducible refine Kd.C_alloc ?_ _) | (with_reducible refine Kd.C_drewN ?_ _) | (with_reducible refine Kd.C_drew ?_))); (case side2 => exact (Kd.R_reads' HO399.out).2.1); (case side3 => repeat (first | exact (Kd.R_reads' HO402.out).2.2 | (with_reducible refine Kd.C_alloc ?_ _) | (with_reducible refine Kd.C_drewN ?_ _) | (with_reducible refine Kd.C_drew ?_))); (case side4 => exact (Kd.R_reads' HO402.out).2.1); rintro e w' ⟨rfl, ⟨nd, rfl⟩⟩; refine ⟨_, rfl, ?_⟩; obtain ⟨hcz112_0, hcz112_1, hcz112_2, hcz112_3⟩ := cb4_ BK396.out; obtain ⟨hfz112_0, hfz112_1, hfz112_2⟩ := bf3_ BK396.out; have hfz112_3 := blk_frozen BK396.out 3) | ((with_reducible refine gate_callee (f := 47) rfl ?_); refine goesL_ (some 25) rfl rfl Try.func47 (by kernel_rfl) rfl #[.agg #[.int .i64 t392, .int .i64 t393, .int .i64 t394, .int .i64 t395]] rfl ul_ ?_; (with_reducible refine (spec_FrameOk.calls t392 t393 t394 t395 false _ A9.out).mono ?_); rintro e w113 ⟨rfl, hb⟩; refine ⟨_, rfl, ?_⟩; have n0_ := am_ (Kd.R_below (ur_ HO399.out) hb); have n1_ := am_ (Kd.R_below (ur_ HO402.out) hb); have n2_ := am_ (bb_ BK396.out hb); have n3_ := am_ (below_step (ue_ HB.out) hb); clear HO399 HO402 BK396 HB; have HO399 := n0_; have HO402 := n1_; have BK396 := n2_; have HB := n3_; clear n0_ n1_ n2_ n3_; (try clear hb); (try clear hb2); (try clear hk); (try clear hi)))
    go_ret
    exact ⟨ew_, ue_ HB.out⟩
  ·
   replace c8 := Bool.eq_false_iff.mpr c8
   subst c8
   have H1 : (some false) = some r := by rw [if_neg (show ¬ (false = true) by decide)] at H; exact H
   clear H
   have H := H1
   clear H1
   exact absurd ((Option.some.inj H).trans hT.out) (by decide)

/-- THE ONE PURE STATEMENT of laws_FnFrames: yours. -/
def laws_FnFrames.Pure : Prop := ∀ (l0 : List Int), l0.length ≤ maxLen → l0.length * 1 ≤ 140737488351232 → (∀ x ∈ l0, (Lit.int .u8 x).wf = true) → ∃ k, laws_FnFrames.f k l0 = some true
theorem laws_FnFrames.walk (P : laws_FnFrames.Pure) (a0 : Option Addr) (len0 cap0 : Nat) (z0 : List Int) (w : World) (w0 : (a0 = none ∧ len0 = 0 ∧ cap0 = 0 ∧ z0 = []) ∨ ∃ x, a0 = some x ∧ len0 ≤ cap0 ∧ cap0 ≤ maxLen ∧ z0.length = cap0 ∧ (∀ i, i < z0.length → w.cell? (x.add i) = some (.int .u8 (z0.getD i 0))) ∧ ∀ n ∈ z0, (Lit.int .u8 n).wf = true) (y0 : len0 * 1 ≤ 140737488351232) :
  Calls Try.prog 7 #[.slice a0 len0 cap0] w fun e w' => e = .returned (.bool true) ∧ Below w.heap.size w w' := by
 obtain ⟨l0, rfl, hr0, hm0, hw0, hc0⟩ := ReadsInt.ofRowC w0
 obtain ⟨k, h⟩ := P l0 hm0 y0 hw0
 refine (laws_FnFrames.calls k _ _ l0 true w (Kd.C_of_reads (d := (0 : Int)) (h1 := fun _ => rfl) hr0) hc0 (Aside0.mk rfl) h).mono ?_
 rintro e w' ⟨rfl, hd⟩
 exact ⟨rfl, hd⟩

end Go.Proofs.Ytcflalomjehiiaa.QFnFrames
