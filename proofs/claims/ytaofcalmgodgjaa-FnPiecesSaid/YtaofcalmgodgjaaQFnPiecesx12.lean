/- The machine side of a law: Lean functions with the Go functions' answers and the walks that show it. No condition. -/
import Derived.Test.YtaofcalmgodgjaaQFnPiecesx0
import Derived.Test.YtaofcalmgodgjaaQFnPiecesx2
import Derived.Test.YtaofcalmgodgjaaQFnPiecesx5
import Derived.Test.YtaofcalmgodgjaaQFnPiecesx7
import Derived.Test.YtaofcalmgodgjaaQFnPiecesx10
import Derived.Test.YtaofcalmgodgjaaQFnPiecesx11
namespace Go.Proofs.Ytaofcalmgodgjaa.QFnPieces
open Go.RowKit Go.Proofs.YtaofcalmgodgjaaW.PrintWords Go.Proofs.YtaofcalmgodgjaaW.PrintLast Go.Proofs.YtaofcalmgodgjaaW.PrintMore
attribute [local go_sem] max2_int min2_int max_two min_two max_three min_three max_four min_four   -- for this text's walks alone
set_option linter.unusedVariables false
set_option linter.unusedSimpArgs false

/-! ### laws_FnPieces: function 4 -/
mutual
def laws_FnPieces.j0 : Nat → List Int → List Int → List (S34) → Bool → Bool → Option (Bool)
 | 0, _, _, _, _, _ => none
 | k + 1, x0, x3, x4, x6, x52 => if x52 = true then (some false) else ((laws_at.f x0 0).bind fun t556 => (if (wrap64 ((x3.length : Int) + 1)) = 0 then (none) else ((laws_at.f x0 1).bind fun t557 => (laws_FnPieces.l0 k x3 x4 x6 (([] : List (S34))) (([Int.tmod (wrap64 (t556 * 3)) (wrap64 ((x3.length : Int) + 1)), Int.tmod (wrap64 (t557 * 3)) (wrap64 ((x3.length : Int) + 1)), (x3.length : Int)] : List Int)) 0 0 ([] : List Int) false))))
def laws_FnPieces.l0 : Nat → List Int → List (S34) → Bool → List (S34) → List Int → Int → Int → List Int → Bool → Option (Bool)
 | 0, _, _, _, _, _, _, _, _, _ => none
 | k + 1, x3, x4, x6, x11, x12, x13, x14, x553000, x553001 => if x14 < 3 then (if 0 ≤ x14 then (if x14 < (x12.length : Int) then (if (rd x12 x14) < x13 then (laws_FnPieces.l0 k x3 x4 x6 x11 x12 x13 (wrap64 (x14 + 1)) x553000 x553001) else (if 0 ≤ x13 then (if x13 ≤ (rd x12 x14) then (if (rd x12 x14) ≤ (x3.length : Int) then ((impl_FeedBytes.f x553000 x553001 ((x3.take ((rd x12 x14) : Int).toNat).drop (x13 : Int).toNat)).bind fun bt569 => (if bt569.2.2 = true then (laws_FnPieces.j2 k x3 x4 x6 x11 x12 x14 bt569.1 bt569.2.1) else (if x553001 = true then (laws_FnPieces.j2 k x3 x4 x6 x11 x12 x14 x553000 x553001) else (some false)))) else (none)) else (none)) else (none))) else (none)) else (none)) else ((laws_sameFrames.f k x11 x4).bind fun t561 => (if t561 = true then (if (x553001 == x6) = true then ((spec_DecoderOk.f x553000 x553001).bind fun t562 => (some t562)) else (some false)) else (some false)))
def laws_FnPieces.j2 : Nat → List Int → List (S34) → Bool → List (S34) → List Int → Int → List Int → Bool → Option (Bool)
 | 0, _, _, _, _, _, _, _, _ => none
 | k + 1, x3, x4, x6, x11, x12, x14, x553000, x553001 => if 0 ≤ x14 then (if x14 < (x12.length : Int) then (laws_FnPieces.l1 k x3 x4 x6 x11 x12 (rd x12 x14) x14 x553000 x553001) else (none)) else (none)
def laws_FnPieces.l1 : Nat → List Int → List (S34) → Bool → List (S34) → List Int → Int → Int → List Int → Bool → Option (Bool)
 | 0, _, _, _, _, _, _, _, _, _ => none
 | k + 1, x3, x4, x6, x11, x12, x13, x14, x553000, x553001 => (impl_TakeNext.f k x553000 x553001).bind fun bt576 => (if bt576.2.2.2.2.2.2 = 0 then (if x11.length < 4398046511104 then (laws_FnPieces.l1 k x3 x4 x6 (x11 ++ [(⟨bt576.2.2.1, bt576.2.2.2.1, bt576.2.2.2.2.1, bt576.2.2.2.2.2.1⟩ : S34)]) x12 x13 x14 bt576.1 bt576.2.1) else (none)) else (laws_FnPieces.l0 k x3 x4 x6 x11 x12 x13 (wrap64 (x14 + 1)) bt576.1 bt576.2.1))
end
def laws_FnPieces.f (k : Nat) (l0 : List Int) : Option (Bool) := (laws_big.f l0).bind fun t537 => (if t537 = true then (some true) else ((spec_DrawAllFrames.f k l0).bind fun t538 => (if (t538.length : Int) > 400 then (some true) else ((spec_AllFrames.f k t538).bind fun bt541 => ((impl_AllFrames.f k t538).bind fun bt546 => ((laws_sameFrames.f k bt546.1 bt541.1).bind fun t551 => (if t551 = true then (if bt546.2.1 = bt541.2.1 then (laws_FnPieces.j0 k l0 t538 bt541.1 bt541.2.2 (bt546.2.2 != bt541.2.2)) else (laws_FnPieces.j0 k l0 t538 bt541.1 bt541.2.2 true)) else (laws_FnPieces.j0 k l0 t538 bt541.1 bt541.2.2 true))))))))
theorem laws_FnPieces.mono_l : ∀ k, (∀ y0 y1 y2 y3 y4, LeO (laws_FnPieces.j0 k y0 y1 y2 y3 y4) (laws_FnPieces.j0 (k + 1) y0 y1 y2 y3 y4)) ∧ (∀ y0 y1 y2 y3 y4 y5 y6 y7 y8, LeO (laws_FnPieces.l0 k y0 y1 y2 y3 y4 y5 y6 y7 y8) (laws_FnPieces.l0 (k + 1) y0 y1 y2 y3 y4 y5 y6 y7 y8)) ∧ (∀ y0 y1 y2 y3 y4 y5 y6 y7, LeO (laws_FnPieces.j2 k y0 y1 y2 y3 y4 y5 y6 y7) (laws_FnPieces.j2 (k + 1) y0 y1 y2 y3 y4 y5 y6 y7)) ∧ (∀ y0 y1 y2 y3 y4 y5 y6 y7 y8, LeO (laws_FnPieces.l1 k y0 y1 y2 y3 y4 y5 y6 y7 y8) (laws_FnPieces.l1 (k + 1) y0 y1 y2 y3 y4 y5 y6 y7 y8))
 | 0 => ⟨fun _ _ _ _ _ r h => by simp [laws_FnPieces.j0] at h, fun _ _ _ _ _ _ _ _ _ r h => by simp [laws_FnPieces.l0] at h, fun _ _ _ _ _ _ _ _ r h => by simp [laws_FnPieces.j2] at h, fun _ _ _ _ _ _ _ _ _ r h => by simp [laws_FnPieces.l1] at h⟩
 | k + 1 => by
  obtain ⟨ih0, ih1, ih2, ih3⟩ := laws_FnPieces.mono_l k
  refine ⟨?_, ?_, ?_, ?_⟩
  ·
   intro y0 y1 y2 y3 y4
   unfold laws_FnPieces.j0
   repeat' first
   | (with_reducible exact ih0 _ _ _ _ _)
   | (with_reducible exact ih1 _ _ _ _ _ _ _ _ _)
   | (with_reducible exact ih2 _ _ _ _ _ _ _ _)
   | (with_reducible exact ih3 _ _ _ _ _ _ _ _ _)
   | (with_reducible exact impl_AllFrames.mono _ _)
   | (with_reducible exact impl_TakeNext.mono _ _ _)
   | (with_reducible exact laws_sameFrames.mono _ _ _)
   | (with_reducible exact spec_AllFrames.mono _ _)
   | (with_reducible exact spec_DrawAllFrames.mono _ _)
   | (with_reducible exact LeO.refl _)
   | (with_reducible exact LeO.none _)
   | (with_reducible refine LeO.ite ?_ ?_)
   | (with_reducible refine LeO.bind ?_ (fun _ => ?_))
   | exact ih0 _ _ _ _ _
   | exact ih1 _ _ _ _ _ _ _ _ _
   | exact ih2 _ _ _ _ _ _ _ _
   | exact ih3 _ _ _ _ _ _ _ _ _
   | exact impl_AllFrames.mono _ _
   | exact impl_TakeNext.mono _ _ _
   | exact laws_sameFrames.mono _ _ _
   | exact spec_AllFrames.mono _ _
   | exact spec_DrawAllFrames.mono _ _
   | exact LeO.none _
   | refine LeO.ite ?_ ?_
   | refine LeO.bind ?_ (fun _ => ?_)
  ·
   intro y0 y1 y2 y3 y4 y5 y6 y7 y8
   unfold laws_FnPieces.l0
   repeat' first
   | (with_reducible exact ih0 _ _ _ _ _)
   | (with_reducible exact ih1 _ _ _ _ _ _ _ _ _)
   | (with_reducible exact ih2 _ _ _ _ _ _ _ _)
   | (with_reducible exact ih3 _ _ _ _ _ _ _ _ _)
   | (with_reducible exact impl_AllFrames.mono _ _)
   | (with_reducible exact impl_TakeNext.mono _ _ _)
   | (with_reducible exact laws_sameFrames.mono _ _ _)
   | (with_reducible exact spec_AllFrames.mono _ _)
   | (with_reducible exact spec_DrawAllFrames.mono _ _)
   | (with_reducible exact LeO.refl _)
   | (with_reducible exact LeO.none _)
   | (with_reducible refine LeO.ite ?_ ?_)
   | (with_reducible refine LeO.bind ?_ (fun _ => ?_))
   | exact ih0 _ _ _ _ _
   | exact ih1 _ _ _ _ _ _ _ _ _
   | exact ih2 _ _ _ _ _ _ _ _
   | exact ih3 _ _ _ _ _ _ _ _ _
   | exact impl_AllFrames.mono _ _
   | exact impl_TakeNext.mono _ _ _
   | exact laws_sameFrames.mono _ _ _
   | exact spec_AllFrames.mono _ _
   | exact spec_DrawAllFrames.mono _ _
   | exact LeO.none _
   | refine LeO.ite ?_ ?_
   | refine LeO.bind ?_ (fun _ => ?_)
  ·
   intro y0 y1 y2 y3 y4 y5 y6 y7
   unfold laws_FnPieces.j2
   repeat' first
   | (with_reducible exact ih0 _ _ _ _ _)
   | (with_reducible exact ih1 _ _ _ _ _ _ _ _ _)
   | (with_reducible exact ih2 _ _ _ _ _ _ _ _)
   | (with_reducible exact ih3 _ _ _ _ _ _ _ _ _)
   | (with_reducible exact impl_AllFrames.mono _ _)
   | (with_reducible exact impl_TakeNext.mono _ _ _)
   | (with_reducible exact laws_sameFrames.mono _ _ _)
   | (with_reducible exact spec_AllFrames.mono _ _)
   | (with_reducible exact spec_DrawAllFrames.mono _ _)
   | (with_reducible exact LeO.refl _)
   | (with_reducible exact LeO.none _)
   | (with_reducible refine LeO.ite ?_ ?_)
   | (with_reducible refine LeO.bind ?_ (fun _ => ?_))
   | exact ih0 _ _ _ _ _
   | exact ih1 _ _ _ _ _ _ _ _ _
   | exact ih2 _ _ _ _ _ _ _ _
   | exact ih3 _ _ _ _ _ _ _ _ _
   | exact impl_AllFrames.mono _ _
   | exact impl_TakeNext.mono _ _ _
   | exact laws_sameFrames.mono _ _ _
   | exact spec_AllFrames.mono _ _
   | exact spec_DrawAllFrames.mono _ _
   | exact LeO.none _
   | refine LeO.ite ?_ ?_
   | refine LeO.bind ?_ (fun _ => ?_)
  intro y0 y1 y2 y3 y4 y5 y6 y7 y8
  unfold laws_FnPieces.l1
  repeat' first
  | (with_reducible exact ih0 _ _ _ _ _)
  | (with_reducible exact ih1 _ _ _ _ _ _ _ _ _)
  | (with_reducible exact ih2 _ _ _ _ _ _ _ _)
  | (with_reducible exact ih3 _ _ _ _ _ _ _ _ _)
  | (with_reducible exact impl_AllFrames.mono _ _)
  | (with_reducible exact impl_TakeNext.mono _ _ _)
  | (with_reducible exact laws_sameFrames.mono _ _ _)
  | (with_reducible exact spec_AllFrames.mono _ _)
  | (with_reducible exact spec_DrawAllFrames.mono _ _)
  | (with_reducible exact LeO.refl _)
  | (with_reducible exact LeO.none _)
  | (with_reducible refine LeO.ite ?_ ?_)
  | (with_reducible refine LeO.bind ?_ (fun _ => ?_))
  | exact ih0 _ _ _ _ _
  | exact ih1 _ _ _ _ _ _ _ _ _
  | exact ih2 _ _ _ _ _ _ _ _
  | exact ih3 _ _ _ _ _ _ _ _ _
  | exact impl_AllFrames.mono _ _
  | exact impl_TakeNext.mono _ _ _
  | exact laws_sameFrames.mono _ _ _
  | exact spec_AllFrames.mono _ _
  | exact spec_DrawAllFrames.mono _ _
  | exact LeO.none _
  | refine LeO.ite ?_ ?_
  | refine LeO.bind ?_ (fun _ => ?_)
theorem laws_FnPieces.mono : ∀ a0 k, LeO (laws_FnPieces.f k a0) (laws_FnPieces.f (k + 1) a0) := by
 intro a0 k
 obtain ⟨ih0, ih1, ih2, ih3⟩ := laws_FnPieces.mono_l k
 unfold laws_FnPieces.f
 repeat' first
   | (with_reducible exact ih0 _ _ _ _ _)
   | (with_reducible exact ih1 _ _ _ _ _ _ _ _ _)
   | (with_reducible exact ih2 _ _ _ _ _ _ _ _)
   | (with_reducible exact ih3 _ _ _ _ _ _ _ _ _)
   | (with_reducible exact impl_AllFrames.mono _ _)
   | (with_reducible exact impl_TakeNext.mono _ _ _)
   | (with_reducible exact laws_sameFrames.mono _ _ _)
   | (with_reducible exact spec_AllFrames.mono _ _)
   | (with_reducible exact spec_DrawAllFrames.mono _ _)
   | (with_reducible exact LeO.refl _)
   | (with_reducible exact LeO.none _)
   | (with_reducible refine LeO.ite ?_ ?_)
   | (with_reducible refine LeO.bind ?_ (fun _ => ?_))
   | exact ih0 _ _ _ _ _
   | exact ih1 _ _ _ _ _ _ _ _ _
   | exact ih2 _ _ _ _ _ _ _ _
   | exact ih3 _ _ _ _ _ _ _ _ _
   | exact impl_AllFrames.mono _ _
   | exact impl_TakeNext.mono _ _ _
   | exact laws_sameFrames.mono _ _ _
   | exact spec_AllFrames.mono _ _
   | exact spec_DrawAllFrames.mono _ _
   | exact LeO.none _
   | refine LeO.ite ?_ ?_
   | refine LeO.bind ?_ (fun _ => ?_)
def laws_FnPieces.T12 : Bool × List (List Nat × List Nat) := (true, [([], []), ([0], [0]), ([1], [1]), ([], []), ([3], [3]), ([4], [4]), ([2, 5], [2, 5]), ([], []), ([7, 1], [7]), ([8], [8]), ([], []), ([10], [10]), ([11], [11]), ([9, 12], [9, 12]), ([], []), ([14], [14]), ([6, 13, 15], [6, 13, 15]), ([16, 8, 0, 1, 2, 3, 4, 5, 6, 7, 8, 9, 10, 11, 12, 13, 14, 15, 16], [16])])
def laws_FnPieces.B12 : List Nat := [0, 1, 3, 0, 8, 24, 63, 0, 131, 387, 0, 1024, 3072, 8067, 0, 16384, 65535, 131071]
theorem laws_FnPieces.tab12 : rtab .any (opsOf Try.f4 12) = laws_FnPieces.T12 := by kernel_rfl
theorem laws_FnPieces.bits12 : waitsOk laws_FnPieces.T12.2 laws_FnPieces.B12 = true := by kernel_rfl
def laws_FnPieces.T18 : Bool × List (List Nat × List Nat) := (true, [([], []), ([], []), ([], []), ([], []), ([], []), ([3, 4], [3, 4]), ([5], [5]), ([1, 2, 6], [1, 2, 6]), ([0, 7], [0, 7]), ([8], [8]), ([9], [9]), ([9], [9]), ([], []), ([12, 10, 8, 0, 1, 2, 3, 4, 5, 6, 7, 8, 9, 10, 12], [10, 12]), ([11, 13, 0, 1, 2, 3, 4, 5, 6, 7, 8, 9, 10, 11, 12, 13], [11])])
def laws_FnPieces.B18 : List Nat := [0, 0, 0, 0, 0, 24, 56, 126, 255, 511, 1023, 1023, 0, 6143, 16383]
theorem laws_FnPieces.tab18 : rtab .any (opsOf Try.f4 18) = laws_FnPieces.T18 := by kernel_rfl
theorem laws_FnPieces.bits18 : waitsOk laws_FnPieces.T18.2 laws_FnPieces.B18 = true := by kernel_rfl
set_option maxHeartbeats 8000000 in
set_option maxRecDepth 100000 in
theorem laws_FnPieces.calls (k : Nat) (A0 : Option Addr) (c0 : Nat) (l0 : List Int) (r : Bool) (w : World) (hr0 : Kd.C (Kd.int .u8) w A0 l0.length l0) (hc0 : l0.length ≤ c0) (hT : Aside0 (r = true)) (h : laws_FnPieces.f k l0 = some r) :
  Calls Try.prog 4 #[.slice A0 l0.length c0] w fun e w' => e = .returned (.bool r) ∧ Below w.heap.size w w' := by
 have hu47 := Try.underlying47
 have hu34 := Try.underlying34
 have HR0 := Aside0.mk hr0
 have HC0 := Aside0.mk hc0
 clear hr0 hc0
 have HB := am_ (Below.refl w.heap.size w)
 have H : ((laws_big.f l0).bind fun t537 => (if t537 = true then (some true) else ((spec_DrawAllFrames.f k l0).bind fun t538 => (if (t538.length : Int) > 400 then (some true) else ((spec_AllFrames.f k t538).bind fun bt541 => ((impl_AllFrames.f k t538).bind fun bt546 => ((laws_sameFrames.f k bt546.1 bt541.1).bind fun t551 => (if t551 = true then (if bt546.2.1 = bt541.2.1 then (laws_FnPieces.j0 k l0 t538 bt541.1 bt541.2.2 (bt546.2.2 != bt541.2.2)) else (laws_FnPieces.j0 k l0 t538 bt541.1 bt541.2.2 true)) else (laws_FnPieces.j0 k l0 t538 bt541.1 bt541.2.2 true))))))))) = some r := h
 clear h
 replace H := Option.bind_eq_some_iff.mp H
 obtain ⟨t537, A20, H⟩ := H
 replace H : (if t537 = true then (some true) else ((spec_DrawAllFrames.f k l0).bind fun t538 => (if (t538.length : Int) > 400 then (some true) else ((spec_AllFrames.f k t538).bind fun bt541 => ((impl_AllFrames.f k t538).bind fun bt546 => ((laws_sameFrames.f k bt546.1 bt541.1).bind fun t551 => (if t551 = true then (if bt546.2.1 = bt541.2.1 then (laws_FnPieces.j0 k l0 t538 bt541.1 bt541.2.2 (bt546.2.2 != bt541.2.2)) else (laws_FnPieces.j0 k l0 t538 bt541.1 bt541.2.2 true)) else (laws_FnPieces.j0 k l0 t538 bt541.1 bt541.2.2 true)))))))) = some r := H
 have A2 := Aside0.mk A20
 clear A20
 by_cases c3 : t537 = true
 ·
  subst c3
  have H1 : (some true) = some r := by rw [if_pos rfl] at H; exact H
  clear H
  have H := H1
  clear H1
  obtain rfl := Option.some.inj H
  go_enter Try.func4, Try.ntmps4
  go_wp2_with (first | ((with_reducible refine gate_callee (f := 13) rfl ?_); refine goesL_ (some 21) rfl rfl Try.func13 (by kernel_rfl) rfl #[.slice A0 l0.length c0] rfl ul_ ?_; (with_reducible refine (laws_big.calls _ _ l0 true _ ?side1 ?side2 A2.out).mono ?_); (case side1 => repeat (first | exact HR0.out | (with_reducible refine Kd.C_alloc ?_ _) | (with_reducible refine Kd.C_drewN ?_ _) | (with_reducible refine Kd.C_drew ?_))); (case side2 => exact HC0.out); rintro e w' ⟨rfl, ⟨nd, rfl⟩⟩; refine ⟨_, rfl, ?_⟩))
  go_ret
  exact ⟨ew_, ue_ HB.out⟩
 replace c3 := Bool.eq_false_iff.mpr c3
 subst c3
 have H1 : ((spec_DrawAllFrames.f k l0).bind fun t538 => (if (t538.length : Int) > 400 then (some true) else ((spec_AllFrames.f k t538).bind fun bt541 => ((impl_AllFrames.f k t538).bind fun bt546 => ((laws_sameFrames.f k bt546.1 bt541.1).bind fun t551 => (if t551 = true then (if bt546.2.1 = bt541.2.1 then (laws_FnPieces.j0 k l0 t538 bt541.1 bt541.2.2 (bt546.2.2 != bt541.2.2)) else (laws_FnPieces.j0 k l0 t538 bt541.1 bt541.2.2 true)) else (laws_FnPieces.j0 k l0 t538 bt541.1 bt541.2.2 true))))))) = some r := by rw [if_neg (show ¬ (false = true) by decide)] at H; exact H
 clear H
 have H := H1
 clear H1
 replace H := Option.bind_eq_some_iff.mp H
 obtain ⟨t538, A40, H⟩ := H
 replace H : (if (t538.length : Int) > 400 then (some true) else ((spec_AllFrames.f k t538).bind fun bt541 => ((impl_AllFrames.f k t538).bind fun bt546 => ((laws_sameFrames.f k bt546.1 bt541.1).bind fun t551 => (if t551 = true then (if bt546.2.1 = bt541.2.1 then (laws_FnPieces.j0 k l0 t538 bt541.1 bt541.2.2 (bt546.2.2 != bt541.2.2)) else (laws_FnPieces.j0 k l0 t538 bt541.1 bt541.2.2 true)) else (laws_FnPieces.j0 k l0 t538 bt541.1 bt541.2.2 true)))))) = some r := H
 have A4 := Aside0.mk A40
 clear A40
 by_cases c5 : (t538.length : Int) > 400
 ·
  rw [if_pos c5] at H
  have c5b0 : decide (400 < (t538.length : Int)) = true := decide_eq_true c5
  have c5b1 : decide (400 < t538.length) = true := decide_eq_true (by omega)
  clear c5
  obtain rfl := Option.some.inj H
  go_enter Try.func4, Try.ntmps4
  go_wp2_with (first | ((with_reducible refine gate_callee (f := 13) rfl ?_); refine goesL_ (some 21) rfl rfl Try.func13 (by kernel_rfl) rfl #[.slice A0 l0.length c0] rfl ul_ ?_; (with_reducible refine (laws_big.calls _ _ l0 false _ ?side1 ?side2 A2.out).mono ?_); (case side1 => repeat (first | exact HR0.out | (with_reducible refine Kd.C_alloc ?_ _) | (with_reducible refine Kd.C_drewN ?_ _) | (with_reducible refine Kd.C_drew ?_))); (case side2 => exact HC0.out); rintro e w' ⟨rfl, ⟨nd, rfl⟩⟩; refine ⟨_, rfl, ?_⟩) | ((with_reducible refine gate_callee (f := 14) rfl ?_); refine goesL_ (some 23) rfl rfl Try.func14 (by kernel_rfl) rfl #[.slice A0 l0.length c0] rfl ul_ ?_; (with_reducible refine (spec_DrawAllFrames.calls k _ _ l0 t538 _ ?side1 ?side2 A4.out).mono ?_); (case side1 => repeat (first | exact HR0.out | (with_reducible refine Kd.C_alloc ?_ _) | (with_reducible refine Kd.C_drewN ?_ _) | (with_reducible refine Kd.C_drew ?_))); (case side2 => exact HC0.out); rintro e w6 ⟨v539, rfl, ho0, hb⟩; refine ⟨_, rfl, ?_⟩; have HO540 := am_ (Kd.R_lower ho0 (below_size (ue_ HB.out))); replace HB := am_ (below_step (ue_ HB.out) hb); (try clear hb); (try clear hb2); (try clear hk); (try clear hi); (try clear ho0); obtain ⟨Ao7, co7, eo7⟩ := Kd.R_slice HO540.out; subst eo7))
  go_ret
  exact ⟨ew_, ue_ HB.out⟩
 rw [if_neg c5] at H
 have c5b0 : decide (400 < (t538.length : Int)) = false := decide_eq_false c5
 have c5b1 : decide (400 < t538.length) = false := decide_eq_false (by omega)
 clear c5
 replace H := Option.bind_eq_some_iff.mp H
 obtain ⟨⟨t541, t542, t543⟩, A80, H⟩ := H
 replace H : ((impl_AllFrames.f k t538).bind fun bt546 => ((laws_sameFrames.f k bt546.1 t541).bind fun t551 => (if t551 = true then (if bt546.2.1 = t542 then (laws_FnPieces.j0 k l0 t538 t541 t543 (bt546.2.2 != t543)) else (laws_FnPieces.j0 k l0 t538 t541 t543 true)) else (laws_FnPieces.j0 k l0 t538 t541 t543 true)))) = some r := H
 have A8 := Aside0.mk A80
 clear A80
 replace H := Option.bind_eq_some_iff.mp H
 obtain ⟨⟨t546, t547, t548⟩, A90, H⟩ := H
 replace H : ((laws_sameFrames.f k t546 t541).bind fun t551 => (if t551 = true then (if t547 = t542 then (laws_FnPieces.j0 k l0 t538 t541 t543 (t548 != t543)) else (laws_FnPieces.j0 k l0 t538 t541 t543 true)) else (laws_FnPieces.j0 k l0 t538 t541 t543 true))) = some r := H
 have A9 := Aside0.mk A90
 clear A90
 have HC10 := Aside0.mk H
 clear H
 go_enter Try.func4, Try.ntmps4
 go_upto_region 8 with (first | ((with_reducible refine gate_callee (f := 13) rfl ?_); refine goesL_ (some 21) rfl rfl Try.func13 (by kernel_rfl) rfl #[.slice A0 l0.length c0] rfl ul_ ?_; (with_reducible refine (laws_big.calls _ _ l0 false _ ?side1 ?side2 A2.out).mono ?_); (case side1 => repeat (first | exact HR0.out | (with_reducible refine Kd.C_alloc ?_ _) | (with_reducible refine Kd.C_drewN ?_ _) | (with_reducible refine Kd.C_drew ?_))); (case side2 => exact HC0.out); rintro e w' ⟨rfl, ⟨nd, rfl⟩⟩; refine ⟨_, rfl, ?_⟩) | ((with_reducible refine gate_callee (f := 14) rfl ?_); refine goesL_ (some 23) rfl rfl Try.func14 (by kernel_rfl) rfl #[.slice A0 l0.length c0] rfl ul_ ?_; (with_reducible refine (spec_DrawAllFrames.calls k _ _ l0 t538 _ ?side1 ?side2 A4.out).mono ?_); (case side1 => repeat (first | exact HR0.out | (with_reducible refine Kd.C_alloc ?_ _) | (with_reducible refine Kd.C_drewN ?_ _) | (with_reducible refine Kd.C_drew ?_))); (case side2 => exact HC0.out); rintro e w11 ⟨v539, rfl, ho0, hb⟩; refine ⟨_, rfl, ?_⟩; have HO540 := am_ (Kd.R_lower ho0 (below_size (ue_ HB.out))); replace HB := am_ (below_step (ue_ HB.out) hb); (try clear hb); (try clear hb2); (try clear hk); (try clear hi); (try clear ho0); obtain ⟨Ao12, co12, eo12⟩ := Kd.R_slice HO540.out; subst eo12) | ((with_reducible refine gate_callee (f := 15) rfl ?_); refine goesL_ (some 29) rfl rfl Try.func15 (by kernel_rfl) rfl #[.slice Ao12 t538.length co12] rfl ul_ ?_; (with_reducible refine (spec_AllFrames.calls k _ _ t538 t541 t542 t543 _ ?side1 ?side2 A8.out).mono ?_); (case side1 => repeat (first | exact (Kd.R_reads' HO540.out).2.2 | (with_reducible refine Kd.C_alloc ?_ _) | (with_reducible refine Kd.C_drewN ?_ _) | (with_reducible refine Kd.C_drew ?_))); (case side2 => exact (Kd.R_reads' HO540.out).2.1); rintro e w13 ⟨v544, rfl, ho0, hb⟩; refine ⟨_, rfl, ?_⟩; replace HO540 := am_ (Kd.R_below (ur_ HO540.out) hb); have HO545 := am_ (Kd.R_lower ho0 (below_size (ue_ HB.out))); replace HB := am_ (below_step (ue_ HB.out) hb); (try clear hb); (try clear hb2); (try clear hk); (try clear hi); (try clear ho0)) | ((with_reducible refine gate_callee (f := 16) rfl ?_); refine goesL_ (some 35) rfl rfl Try.func16 (by kernel_rfl) rfl #[.slice Ao12 t538.length co12] rfl ul_ ?_; (with_reducible refine (impl_AllFrames.calls k _ _ t538 t546 t547 t548 _ ?side1 ?side2 A9.out).mono ?_); (case side1 => repeat (first | exact (Kd.R_reads' HO540.out).2.2 | (with_reducible refine Kd.C_alloc ?_ _) | (with_reducible refine Kd.C_drewN ?_ _) | (with_reducible refine Kd.C_drew ?_))); (case side2 => exact (Kd.R_reads' HO540.out).2.1); rintro e w14 ⟨v549, rfl, ho0, hb⟩; refine ⟨_, rfl, ?_⟩; replace HO540 := am_ (Kd.R_below (ur_ HO540.out) hb); have HO550 := am_ (Kd.R_lower (Kd.R_new' ho0 (Kd.R_lt (ur_ HO545.out))) (below_size (ue_ HB.out))); replace HO545 := am_ (Kd.R_elder' (ur_ HO545.out) (Kd.R_base ho0) hb); replace HB := am_ (below_step (ue_ HB.out) hb); (try clear hb); (try clear hb2); (try clear hk); (try clear hi); (try clear ho0)))
 (try simp only [Act.put, List.setIfInBounds_toArray, List.set_cons_zero, List.set_cons_succ])
 go_cut [52] (fun v52 wc => ∃ (kq : Nat) (x52_9 : Bool), v52 = .bool x52_9 ∧ Aside0 (laws_FnPieces.j0 kq l0 t538 t541 t543 x52_9 = some r) ∧ Aside0 (kq ≤ k) ∧ Aside0 (Kd.R (Kd.int .u8) 5 wc w.heap.size (fun _ => True) (.slice Ao12 t538.length co12) t538) ∧ Aside0 (Kd.R k34 34 wc w.heap.size (fun _ => True) v544 t541) ∧ Aside0 (Below w.heap.size w wc))
 case first =>
  have H := HC10.out
  clear HC10
  replace H := Option.bind_eq_some_iff.mp H
  obtain ⟨t551, A150, H⟩ := H
  replace H : (if t551 = true then (if t547 = t542 then (laws_FnPieces.j0 k l0 t538 t541 t543 (t548 != t543)) else (laws_FnPieces.j0 k l0 t538 t541 t543 true)) else (laws_FnPieces.j0 k l0 t538 t541 t543 true)) = some r := H
  have A15 := Aside0.mk A150
  clear A150
  by_cases c16 : t551 = true
  ·
   subst c16
   have H1 : (if t547 = t542 then (laws_FnPieces.j0 k l0 t538 t541 t543 (t548 != t543)) else (laws_FnPieces.j0 k l0 t538 t541 t543 true)) = some r := by rw [if_pos rfl] at H; exact H
   clear H
   have H := H1
   clear H1
   by_cases c17 : t547 = t542
   ·
    rw [if_pos c17] at H
    have c17b0 : (t547 == t542) = true := beq_iff_eq.mpr c17
    have c17b1 : (t547 != t542) = false := bne_eq_false_iff_eq.mpr c17
    clear c17
    (first | rw [c17b0] | (simp only [i64_w, i32_w]; rw [c17b0]) | skip)
    have H' := Aside0.mk H
    clear H
    obtain ⟨Ao18, co18, eo18⟩ := Kd.R_slice HO550.out
    subst eo18
    obtain ⟨Ao19, co19, eo19⟩ := Kd.R_slice HO545.out
    subst eo19
    go_wp2_with (first | ((with_reducible refine gate_callee (f := 17) rfl ?_); refine goesL_ (some 41) rfl rfl Try.func17 (by kernel_rfl) rfl #[.slice Ao18 t546.length co18, .slice Ao19 t541.length co19] rfl ul_ ?_; (with_reducible refine (laws_sameFrames.calls k _ _ t546 _ _ t541 true _ ?side1 ?side2 ?side3 ?side4 A15.out).mono ?_); (case side1 => repeat (first | exact (Kd.R_reads' HO550.out).2.2 | (with_reducible refine Kd.C_alloc ?_ _) | (with_reducible refine Kd.C_drewN ?_ _) | (with_reducible refine Kd.C_drew ?_))); (case side2 => exact (Kd.R_reads' HO550.out).2.1); (case side3 => repeat (first | exact (Kd.R_reads' HO545.out).2.2 | (with_reducible refine Kd.C_alloc ?_ _) | (with_reducible refine Kd.C_drewN ?_ _) | (with_reducible refine Kd.C_drew ?_))); (case side4 => exact (Kd.R_reads' HO545.out).2.1); rintro e w' ⟨rfl, ⟨nd, rfl⟩⟩; refine ⟨_, rfl, ?_⟩))
    go_meet
    case rel => exact ⟨_, ((t548 != t543)), (by first | rfl | (simp; done) | (simp [*]; done)), H', ⟨by first | omega | exact Nat.le_refl _⟩, ⟨by (with_reducible repeat (first | apply Kd.R_alloc | apply Kd.R_drewN | apply Kd.R_drew)); exact HO540.out⟩, ⟨by (with_reducible repeat (first | apply Kd.R_alloc | apply Kd.R_drewN | apply Kd.R_drew)); exact Kd.R_mono HO545.out (fun _ hk => trivial)⟩, ⟨ue_ HB.out⟩⟩
   rw [if_neg c17] at H
   have c17b0 : (t547 == t542) = false := beq_eq_false_iff_ne.mpr c17
   have c17b1 : (t547 != t542) = true := bne_iff_ne.mpr c17
   (first | rw [c17b0] | (simp only [i64_w, i32_w]; rw [c17b0]) | skip)
   have H' := Aside0.mk H
   clear H
   obtain ⟨Ao20, co20, eo20⟩ := Kd.R_slice HO550.out
   subst eo20
   obtain ⟨Ao21, co21, eo21⟩ := Kd.R_slice HO545.out
   subst eo21
   go_wp2_with (first | ((with_reducible refine gate_callee (f := 17) rfl ?_); refine goesL_ (some 41) rfl rfl Try.func17 (by kernel_rfl) rfl #[.slice Ao20 t546.length co20, .slice Ao21 t541.length co21] rfl ul_ ?_; (with_reducible refine (laws_sameFrames.calls k _ _ t546 _ _ t541 true _ ?side1 ?side2 ?side3 ?side4 A15.out).mono ?_); (case side1 => repeat (first | exact (Kd.R_reads' HO550.out).2.2 | (with_reducible refine Kd.C_alloc ?_ _) | (with_reducible refine Kd.C_drewN ?_ _) | (with_reducible refine Kd.C_drew ?_))); (case side2 => exact (Kd.R_reads' HO550.out).2.1); (case side3 => repeat (first | exact (Kd.R_reads' HO545.out).2.2 | (with_reducible refine Kd.C_alloc ?_ _) | (with_reducible refine Kd.C_drewN ?_ _) | (with_reducible refine Kd.C_drew ?_))); (case side4 => exact (Kd.R_reads' HO545.out).2.1); rintro e w' ⟨rfl, ⟨nd, rfl⟩⟩; refine ⟨_, rfl, ?_⟩))
   go_meet
   case rel => exact ⟨_, (true), (by first | rfl | (simp; done) | (simp [*]; done)), H', ⟨by first | omega | exact Nat.le_refl _⟩, ⟨by (with_reducible repeat (first | apply Kd.R_alloc | apply Kd.R_drewN | apply Kd.R_drew)); exact HO540.out⟩, ⟨by (with_reducible repeat (first | apply Kd.R_alloc | apply Kd.R_drewN | apply Kd.R_drew)); exact Kd.R_mono HO545.out (fun _ hk => trivial)⟩, ⟨ue_ HB.out⟩⟩
  replace c16 := Bool.eq_false_iff.mpr c16
  subst c16
  have H1 : (laws_FnPieces.j0 k l0 t538 t541 t543 true) = some r := by rw [if_neg (show ¬ (false = true) by decide)] at H; exact H
  clear H
  have H := H1
  clear H1
  have H' := Aside0.mk H
  clear H
  obtain ⟨Ao22, co22, eo22⟩ := Kd.R_slice HO550.out
  subst eo22
  obtain ⟨Ao23, co23, eo23⟩ := Kd.R_slice HO545.out
  subst eo23
  go_wp2_with (first | ((with_reducible refine gate_callee (f := 17) rfl ?_); refine goesL_ (some 41) rfl rfl Try.func17 (by kernel_rfl) rfl #[.slice Ao22 t546.length co22, .slice Ao23 t541.length co23] rfl ul_ ?_; (with_reducible refine (laws_sameFrames.calls k _ _ t546 _ _ t541 false _ ?side1 ?side2 ?side3 ?side4 A15.out).mono ?_); (case side1 => repeat (first | exact (Kd.R_reads' HO550.out).2.2 | (with_reducible refine Kd.C_alloc ?_ _) | (with_reducible refine Kd.C_drewN ?_ _) | (with_reducible refine Kd.C_drew ?_))); (case side2 => exact (Kd.R_reads' HO550.out).2.1); (case side3 => repeat (first | exact (Kd.R_reads' HO545.out).2.2 | (with_reducible refine Kd.C_alloc ?_ _) | (with_reducible refine Kd.C_drewN ?_ _) | (with_reducible refine Kd.C_drew ?_))); (case side4 => exact (Kd.R_reads' HO545.out).2.1); rintro e w' ⟨rfl, ⟨nd, rfl⟩⟩; refine ⟨_, rfl, ?_⟩))
  go_meet
  case rel => exact ⟨_, (true), (by first | rfl | (simp; done) | (simp [*]; done)), H', ⟨by first | omega | exact Nat.le_refl _⟩, ⟨by (with_reducible repeat (first | apply Kd.R_alloc | apply Kd.R_drewN | apply Kd.R_drew)); exact HO540.out⟩, ⟨by (with_reducible repeat (first | apply Kd.R_alloc | apply Kd.R_drewN | apply Kd.R_drew)); exact Kd.R_mono HO545.out (fun _ hk => trivial)⟩, ⟨ue_ HB.out⟩⟩
 case rest =>
  clear HC10
  try clear c1
  try clear p2
  try clear c3
  try clear c4
  try clear c5
  try clear c5b0
  try clear c5b1
  try clear c13
  try clear c14
  try clear c15
  try clear c16
  try clear c17
  try clear c17b0
  try clear c17b1
  obtain ⟨kq, x52_9, rfl, HA, HJ9, HO_3, HO_4, HB⟩ := hcut
  cases kq with
  | zero => exact absurd HA.out (by simp [laws_FnPieces.j0])
  | succ kj9 =>
   have H := HA.out
   clear HA
   simp only [laws_FnPieces.j0] at H
   by_cases c24 : x52_9 = true
   ·
    subst c24
    have H1 : (some false) = some r := by rw [if_pos rfl] at H; exact H
    clear H
    have H := H1
    clear H1
    exact absurd ((Option.some.inj H).trans hT.out) (by decide)
   replace c24 := Bool.eq_false_iff.mpr c24
   subst c24
   have H1 : ((laws_at.f l0 0).bind fun t556 => (if (wrap64 ((t538.length : Int) + 1)) = 0 then (none) else ((laws_at.f l0 1).bind fun t557 => (laws_FnPieces.l0 kj9 t538 t541 t543 (([] : List (S34))) (([Int.tmod (wrap64 (t556 * 3)) (wrap64 ((t538.length : Int) + 1)), Int.tmod (wrap64 (t557 * 3)) (wrap64 ((t538.length : Int) + 1)), (t538.length : Int)] : List Int)) 0 0 ([] : List Int) false)))) = some r := by rw [if_neg (show ¬ (false = true) by decide)] at H; exact H
   clear H
   have H := H1
   clear H1
   obtain ⟨y553, hy553⟩ : ∃ y_ : List (S34), y_ = (([] : List (S34))) := ⟨_, rfl⟩
   replace H : ((laws_at.f l0 0).bind fun t556 => (if (wrap64 ((t538.length : Int) + 1)) = 0 then (none) else ((laws_at.f l0 1).bind fun t557 => (laws_FnPieces.l0 kj9 t538 t541 t543 y553 (([Int.tmod (wrap64 (t556 * 3)) (wrap64 ((t538.length : Int) + 1)), Int.tmod (wrap64 (t557 * 3)) (wrap64 ((t538.length : Int) + 1)), (t538.length : Int)] : List Int)) 0 0 ([] : List Int) false)))) = some r := by first | (rw [hy553]; with_reducible exact H) | (have H2_ := (Option.bind_some _ _).symm.trans H; rw [hy553]; with_reducible exact H2_) | (have H2_ := (Option.bind_some _ _).symm.trans H; with_reducible exact H2_) | with_reducible exact H | (rw [hy553]; exact H) | exact H
   have Ny553 := Aside0.mk hy553
   clear hy553
   replace H := Option.bind_eq_some_iff.mp H
   obtain ⟨t556, A250, H⟩ := H
   replace H : (if (wrap64 ((t538.length : Int) + 1)) = 0 then (none) else ((laws_at.f l0 1).bind fun t557 => (laws_FnPieces.l0 kj9 t538 t541 t543 y553 (([Int.tmod (wrap64 (t556 * 3)) (wrap64 ((t538.length : Int) + 1)), Int.tmod (wrap64 (t557 * 3)) (wrap64 ((t538.length : Int) + 1)), (t538.length : Int)] : List Int)) 0 0 ([] : List Int) false))) = some r := H
   have A25 := Aside0.mk A250
   clear A250
   by_cases c26 : (wrap64 ((t538.length : Int) + 1)) = 0
   ·
    rw [if_pos c26] at H
    exact absurd H (by simp)
   rw [if_neg c26] at H
   have c26b0 : ((wrap64 ((t538.length : Int) + 1)) == 0) = false := beq_eq_false_iff_ne.mpr c26
   have c26b1 : ((wrap64 ((t538.length : Int) + 1)) != 0) = true := bne_iff_ne.mpr c26
   replace H := Option.bind_eq_some_iff.mp H
   obtain ⟨t557, A270, H⟩ := H
   replace H : (laws_FnPieces.l0 kj9 t538 t541 t543 y553 (([Int.tmod (wrap64 (t556 * 3)) (wrap64 ((t538.length : Int) + 1)), Int.tmod (wrap64 (t557 * 3)) (wrap64 ((t538.length : Int) + 1)), (t538.length : Int)] : List Int)) 0 0 ([] : List Int) false) = some r := H
   have A27 := Aside0.mk A270
   clear A270
   obtain ⟨y558, hy558⟩ : ∃ y_ : List Int, y_ = (([Int.tmod (wrap64 (t556 * 3)) (wrap64 ((t538.length : Int) + 1)), Int.tmod (wrap64 (t557 * 3)) (wrap64 ((t538.length : Int) + 1)), (t538.length : Int)] : List Int)) := ⟨_, rfl⟩
   replace H : (laws_FnPieces.l0 kj9 t538 t541 t543 y553 y558 0 0 ([] : List Int) false) = some r := by first | (rw [hy558]; with_reducible exact H) | (have H2_ := (Option.bind_some _ _).symm.trans H; rw [hy558]; with_reducible exact H2_) | (have H2_ := (Option.bind_some _ _).symm.trans H; with_reducible exact H2_) | with_reducible exact H | (rw [hy558]; exact H) | exact H
   have Ny558 := Aside0.mk hy558
   clear hy558
   have H' := Aside0.mk H
   clear H
   try go_wp2_with (first | ((with_reducible refine gate_dst (N := 10) rfl ?_); refine bx_ (N := 10) (cs := #[.slice none 0 0, .bool false]) (t := 47) ?_; intro gb552 hg w28 hbox hb; replace HO_3 := am_ (Kd.R_below (ur_ HO_3.out) hb); replace HO_4 := am_ (Kd.R_below (ur_ HO_4.out) hb); have BK552 := am_ (hbox); have GW552 := am_ ((by rw [hg]; exact (below_size (ue_ HB.out)) : w.heap.size ≤ gb552)); have GE552 := am_ ((by rw [hg]; exact (below_size (ue_ HB.out)) : w.heap.size ≤ gb552)); replace HB := am_ (below_step (ue_ HB.out) hb); clear hb hbox hg; obtain ⟨hcz29_0, hcz29_1⟩ := cb2_ BK552.out; have hfz29_0 := blk_frozen BK552.out 0; have hfz29_1 := blk_frozen BK552.out 1) | ((with_reducible refine gate_store (t := 47) (p := 10) rfl ?_); refine st_ (w1 := ((w28.setCell ⟨gb552, 0, none⟩ (.slice none 0 0)).setCell ⟨gb552, 1, none⟩ (.bool false))) ?_; intro w30 hw; replace HO_3 : Aside0 (Kd.R (Kd.int .u8) 5 w30 w.heap.size (fun _ => True) (.slice Ao12 t538.length co12) t538) := ⟨(by rw [hw]; exact (by (with_reducible repeat (first | apply Kd.R_alloc | apply Kd.R_drewN | apply Kd.R_drew)); exact Kd.R_mono (Rf2_ (g := gb552) (Kd.R_types HO_3.out BK552.out (by decide))) (fun _ hk => trivial)))⟩; replace HO_4 : Aside0 (Kd.R k34 34 w30 w.heap.size (fun _ => True) v544 t541) := ⟨(by rw [hw]; exact (by (with_reducible repeat (first | apply Kd.R_alloc | apply Kd.R_drewN | apply Kd.R_drew)); exact Kd.R_mono (Rf2_ (g := gb552) (Kd.R_types HO_4.out BK552.out (by decide))) (fun _ hk => trivial)))⟩; replace BK552 : Aside0 (w30.heap[gb552]? = some (.cells #[.slice none 0 0, .bool false] 47 (0, 0))) := ⟨(by rw [hw]; exact (by (with_reducible repeat first|apply bn_|apply bd_|apply ba_); apply bp2_; (with_reducible repeat first|apply bn_|apply bd_|apply ba_); exact BK552.out))⟩; replace HB : Aside0 (Below w.heap.size w w30) := ⟨(by rw [hw]; exact (ue_ HB.out))⟩; clear hw) | ((with_reducible refine gate_dst (N := 54) rfl ?_); refine Kd.R_lit k34 _ 34 ?hg (N := 54) ?hd (xs := ([] : List (S34))) (inner := []) (ok := fun _ => True) (okp := fun _ => True) ?hr ?hp (fun _ hk => hk) trivial (Below.refl _ _) (Nat.le_refl _) (by simp) ?_; (case hd => rfl); (case hg => rfl); (case hr => first | (go_simp; done) | (go_simp; rfl)); (case hp => exact (Reps.none _ _)); intro v554 w31 ho32 hb hg_ hnew_; clear hg_ hnew_; (first | rw [← Ny553.out] at ho32 | (simp only [Int.reduceToNat] at ho32; rw [← Ny553.out] at ho32)); replace HO_3 := am_ (Kd.R_below (ur_ HO_3.out) hb); have HO555 := am_ (Kd.R_lower (Kd.R_new' ho32 (Kd.R_lt (ur_ HO_4.out))) (below_size (ue_ HB.out))); replace HO_4 := am_ (Kd.R_elder' (ur_ HO_4.out) (Kd.R_base ho32) hb); replace BK552 := am_ (bb_ BK552.out hb); replace HB := am_ (below_step (ue_ HB.out) hb); clear hb ho32))
   have n0_ := am_ (Kd.R_drew HO_3.out)
   have n1_ := am_ (Kd.R_drew HO_4.out)
   have n2_ := am_ (Kd.R_drew HO555.out)
   have n3_ := am_ (blk_drew BK552.out)
   have n4_ := am_ (below_drew1 HB.out)
   clear HO_3
   clear HO_4
   clear HO555
   clear BK552
   clear HB
   have HO_3 := n0_
   have HO_4 := n1_
   have HO555 := n2_
   have BK552 := n3_
   have HB := n4_
   clear n0_ n1_ n2_ n3_ n4_
   refine start_ (n := 18) (S := fun w' => True) (ds := []) #[false, false, false, false, false, false, false, false, false, false, false, false, false, false, false, false, false, false] (by kernel_rfl) rfl rfl trivial (fun hHeld => ?_); refine with_tabW laws_FnPieces.tab12 laws_FnPieces.bits12 (fun HT_ HW_ => ?_)
   generalize w31.drew = w33 at HO_3 HO_4 HO555 BK552 HB hHeld ⊢
   refine pure_ (i := 0) (N := some 55) (v := ?_) (a' := ?_) #[true, false, false, false, false, false, false, false, false, false, false, false, false, false, false, false, false, false] rfl rfl (any_of HT_.out (by kernel_rfl)) (fun _ _ _ h => h) (Or.inl ⟨by rfl, ?_⟩) ?_ ?_
   rotate_left
   ·
    intro w'
    go_simp
    with_reducible rfl
   rotate_left
   ·
    simp only [Act.put, List.setIfInBounds_toArray, List.set_cons_zero, List.set_cons_succ, i64_w, i32_w]
    rfl
   refine pure_ (i := 3) (N := some 58) (v := ?_) (a' := ?_) #[true, false, false, true, false, false, false, false, false, false, false, false, false, false, false, false, false, false] rfl rfl (any_of HT_.out (by kernel_rfl)) (fun _ _ _ h => h) (Or.inl ⟨by rfl, ?_⟩) ?_ ?_
   rotate_left
   ·
    intro w'
    go_simp
    with_reducible rfl
   rotate_left
   ·
    simp only [Act.put, List.setIfInBounds_toArray, List.set_cons_zero, List.set_cons_succ, i64_w, i32_w]
    rfl
   refine pure_ (i := 4) (N := some 59) (v := ?_) (a' := ?_) #[true, false, false, true, true, false, false, false, false, false, false, false, false, false, false, false, false, false] rfl rfl (any_of HT_.out (by kernel_rfl)) (fun _ _ _ h => h) (Or.inl ⟨by rfl, ?_⟩) ?_ ?_
   rotate_left
   ·
    intro w'
    go_simp
    with_reducible rfl
   rotate_left
   ·
    simp only [Act.put, List.setIfInBounds_toArray, List.set_cons_zero, List.set_cons_succ, i64_w, i32_w]
    rfl
   refine pure_ (i := 5) (N := some 60) (v := ?_) (a' := ?_) #[true, false, false, true, true, true, false, false, false, false, false, false, false, false, false, false, false, false] rfl rfl (any_of HT_.out (by kernel_rfl)) (fun _ _ _ h => h) (Or.inl ⟨by rfl, ?_⟩) ?_ ?_
   rotate_left
   ·
    intro w'
    go_simp
    with_reducible rfl
   rotate_left
   ·
    simp only [Act.put, List.setIfInBounds_toArray, List.set_cons_zero, List.set_cons_succ, i64_w, i32_w]
    rfl
   refine pure_ (i := 7) (N := some 62) (v := ?_) (a' := ?_) #[true, false, false, true, true, true, false, true, false, false, false, false, false, false, false, false, false, false] rfl rfl (any_of HT_.out (by kernel_rfl)) (fun _ _ _ h => h) (Or.inl ⟨by rfl, ?_⟩) ?_ ?_
   rotate_left
   ·
    intro w'
    go_simp
    with_reducible rfl
   rotate_left
   ·
    simp only [Act.put, List.setIfInBounds_toArray, List.set_cons_zero, List.set_cons_succ, i64_w, i32_w]
    rfl
   refine pure_ (i := 10) (N := some 65) (v := ?_) (a' := ?_) #[true, false, false, true, true, true, false, true, false, false, true, false, false, false, false, false, false, false] rfl rfl (any_of HT_.out (by kernel_rfl)) (fun _ _ _ h => h) (Or.inl ⟨by rfl, ?_⟩) ?_ ?_
   rotate_left
   ·
    intro w'
    go_simp
    with_reducible rfl
   rotate_left
   ·
    simp only [Act.put, List.setIfInBounds_toArray, List.set_cons_zero, List.set_cons_succ, i64_w, i32_w]
    rfl
   refine pure_ (i := 11) (N := some 66) (v := ?_) (a' := ?_) #[true, false, false, true, true, true, false, true, false, false, true, true, false, false, false, false, false, false] rfl rfl (any_of HT_.out (by kernel_rfl)) (fun _ _ _ h => h) (Or.inl ⟨by rfl, ?_⟩) ?_ ?_
   rotate_left
   ·
    intro w'
    go_simp
    with_reducible rfl
   rotate_left
   ·
    simp only [Act.put, List.setIfInBounds_toArray, List.set_cons_zero, List.set_cons_succ, i64_w, i32_w]
    rfl
   refine pure_ (i := 12) (N := some 67) (v := ?_) (a' := ?_) #[true, false, false, true, true, true, false, true, false, false, true, true, true, false, false, false, false, false] rfl rfl (any_of HT_.out (by kernel_rfl)) (fun _ _ _ h => h) (Or.inl ⟨by rfl, ?_⟩) ?_ ?_
   rotate_left
   ·
    intro w'
    go_simp
    with_reducible rfl
   rotate_left
   ·
    simp only [Act.put, List.setIfInBounds_toArray, List.set_cons_zero, List.set_cons_succ, i64_w, i32_w]
    rfl
   refine pure_ (i := 14) (N := some 69) (v := ?_) (a' := ?_) #[true, false, false, true, true, true, false, true, false, false, true, true, true, false, true, false, false, false] rfl rfl (any_of HT_.out (by kernel_rfl)) (fun _ _ _ h => h) (Or.inl ⟨by rfl, ?_⟩) ?_ ?_
   rotate_left
   ·
    intro w'
    go_simp
    with_reducible rfl
   rotate_left
   ·
    simp only [Act.put, List.setIfInBounds_toArray, List.set_cons_zero, List.set_cons_succ, i64_w, i32_w]
    rfl
   refine pure_ (i := 15) (N := some 70) (v := ?_) (a' := ?_) #[true, false, false, true, true, true, false, true, false, false, true, true, true, false, true, true, false, false] rfl rfl (any_of HT_.out (by kernel_rfl)) (fun _ _ _ h => h) (Or.inl ⟨by rfl, ?_⟩) ?_ ?_
   rotate_left
   ·
    intro w'
    go_simp
    with_reducible rfl
   rotate_left
   ·
    simp only [Act.put, List.setIfInBounds_toArray, List.set_cons_zero, List.set_cons_succ, i64_w, i32_w]
    rfl
   refine one_ (i := 1) (N := some 56) #[true, true, false, true, true, true, false, true, false, false, true, true, true, false, true, true, false, false] rfl rfl (one_of HT_.out (by kernel_rfl)) (by decide) (fun K hK => ?_)
   refine goes_ Try.func18 (by kernel_rfl) rfl #[.slice A0 l0.length c0, .int .i64 0] (by rfl) rfl rfl ul_ ?_
   with_reducible refine (laws_at.calls _ _ l0 0 t556 _ ?side1 ?side2 A25.out).mono ?_
   (case side1 => repeat (first | exact (Kd.C_below HR0.out HB.out) | (with_reducible refine Kd.C_alloc ?_ _) | (with_reducible refine Kd.C_drewN ?_ _) | (with_reducible refine Kd.C_drew ?_)))
   (case side2 => exact HC0.out)
   rintro e w' ⟨rfl, ⟨nd, rfl⟩⟩
   refine ⟨_, rfl, ?_⟩
   refine hK.out _ _ trivial (fun hHeld => ?_)
   clear hK K
   refine norm_ (a' := ?_) ?_ ?_
   rotate_left
   ·
    show Act.put _ (some 56) _ = _
    simp only [Act.put, List.setIfInBounds_toArray, List.set_cons_zero, List.set_cons_succ, i64_w, i32_w]
    rfl
   refine pure_ (i := 2) (N := some 57) (v := ?_) (a' := ?_) #[true, true, true, true, true, true, false, true, false, false, true, true, true, false, true, true, false, false] rfl rfl (any_of HT_.out (by kernel_rfl)) (fun _ _ _ h => h) (Or.inl ⟨by rfl, ?_⟩) ?_ ?_
   rotate_left
   ·
    intro w'
    go_simp
    with_reducible rfl
   rotate_left
   ·
    simp only [Act.put, List.setIfInBounds_toArray, List.set_cons_zero, List.set_cons_succ, i64_w, i32_w]
    rfl
   refine pure_ (i := 6) (N := some 61) (v := ?_) (a' := ?_) #[true, true, true, true, true, true, true, true, false, false, true, true, true, false, true, true, false, false] rfl rfl (any_of HT_.out (by kernel_rfl)) (fun _ _ _ h => h) (Or.inl ⟨by rfl, ?_⟩) ?_ ?_
   rotate_left
   ·
    intro w'
    go_simp
    with_reducible rfl
   rotate_left
   ·
    simp only [Act.put, List.setIfInBounds_toArray, List.set_cons_zero, List.set_cons_succ, i64_w, i32_w]
    rfl
   refine one_ (i := 8) (N := some 63) #[true, true, true, true, true, true, true, true, true, false, true, true, true, false, true, true, false, false] rfl rfl (one_of HT_.out (by kernel_rfl)) (by decide) (fun K hK => ?_)
   refine goes_ Try.func18 (by kernel_rfl) rfl #[.slice A0 l0.length c0, .int .i64 1] (by rfl) rfl rfl ul_ ?_
   with_reducible refine (laws_at.calls _ _ l0 1 t557 _ ?side1 ?side2 A27.out).mono ?_
   (case side1 => repeat (first | exact (Kd.C_below HR0.out (ue_ HB.out)) | (with_reducible refine Kd.C_alloc ?_ _) | (with_reducible refine Kd.C_drewN ?_ _) | (with_reducible refine Kd.C_drew ?_)))
   (case side2 => exact HC0.out)
   rintro e w' ⟨rfl, ⟨nd, rfl⟩⟩
   refine ⟨_, rfl, ?_⟩
   refine hK.out _ _ trivial (fun hHeld => ?_)
   clear hK K
   refine norm_ (a' := ?_) ?_ ?_
   rotate_left
   ·
    show Act.put _ (some 63) _ = _
    simp only [Act.put, List.setIfInBounds_toArray, List.set_cons_zero, List.set_cons_succ, i64_w, i32_w]
    rfl
   refine pure_ (i := 9) (N := some 64) (v := ?_) (a' := ?_) #[true, true, true, true, true, true, true, true, true, true, true, true, true, false, true, true, false, false] rfl rfl (any_of HT_.out (by kernel_rfl)) (fun _ _ _ h => h) (Or.inl ⟨by rfl, ?_⟩) ?_ ?_
   rotate_left
   ·
    intro w'
    go_simp
    with_reducible rfl
   rotate_left
   ·
    simp only [Act.put, List.setIfInBounds_toArray, List.set_cons_zero, List.set_cons_succ, i64_w, i32_w]
    rfl
   refine pure_ (i := 13) (N := some 68) (v := ?_) (a' := ?_) #[true, true, true, true, true, true, true, true, true, true, true, true, true, true, true, true, false, false] rfl rfl (any_of HT_.out (by kernel_rfl)) (fun _ _ _ h => h) (Or.inl ⟨by rfl, ?_⟩) ?_ ?_
   rotate_left
   ·
    intro w'
    go_simp
    with_reducible rfl
   rotate_left
   ·
    simp only [Act.put, List.setIfInBounds_toArray, List.set_cons_zero, List.set_cons_succ, i64_w, i32_w]
    rfl
   refine one_ (i := 16) (N := some 71) #[true, true, true, true, true, true, true, true, true, true, true, true, true, true, true, true, true, false] rfl rfl (one_of HT_.out (by kernel_rfl)) (by decide) (fun K hK => ?_)
   refine Kd.R_lit_step (Kd.int .i64) _ 3 ?hg (N := 71) ?hd (xs := ([Int.tmod (wrap64 (t556 * 3)) (wrap64 ((t538.length : Int) + 1)), Int.tmod (wrap64 (t557 * 3)) (wrap64 ((t538.length : Int) + 1)), (t538.length : Int)] : List Int)) (inner := [.int .i64 (Int.tmod (wrap64 (t556 * 3)) (wrap64 ((t538.length : Int) + 1))), .int .i64 (Int.tmod (wrap64 (t557 * 3)) (wrap64 ((t538.length : Int) + 1))), .int .i64 (t538.length : Int)]) (ok := fun _ => True) (okp := fun _ => True) ?hr ?hp (fun _ hk => hk) trivial (Below.refl _ _) (Nat.le_refl _) (by simp) ?_; (case hd => rfl); (case hg => rfl); (case hr => first | (go_simp; done) | (go_simp; rfl)); (case hp => exact (Reps.one (show Kd.M (Kd.int .i64) _ _ _ (Int.tmod (wrap64 (t556 * 3)) (wrap64 ((t538.length : Int) + 1))) [.int .i64 (Int.tmod (wrap64 (t556 * 3)) (wrap64 ((t538.length : Int) + 1)))] from rfl) (Reps.one (show Kd.M (Kd.int .i64) _ _ _ (Int.tmod (wrap64 (t557 * 3)) (wrap64 ((t538.length : Int) + 1))) [.int .i64 (Int.tmod (wrap64 (t557 * 3)) (wrap64 ((t538.length : Int) + 1)))] from rfl) (Reps.one (show Kd.M (Kd.int .i64) _ _ _ (t538.length : Int) [.int .i64 (t538.length : Int)] from rfl) (Reps.none _ _)))))
   intro v559 w34 ho35 hb hg_ hnew_
   clear hg_ hnew_
   (first | rw [← Ny558.out] at ho35 | (simp only [Int.reduceToNat] at ho35; rw [← Ny558.out] at ho35))
   have n0_ := am_ (Kd.R_below (ur_ HO_3.out) hb)
   have n1_ := am_ (Kd.R_below (ur_ HO_4.out) hb)
   have n2_ := am_ (Kd.R_below (ur_ HO555.out) hb)
   have n3_ := am_ (Kd.R_lower ho35 (below_size (ue_ HB.out)))
   have n4_ := am_ (bb_ BK552.out hb)
   have n5_ := am_ (below_step (ue_ HB.out) hb)
   clear HO_3
   clear HO_4
   clear HO555
   clear BK552
   clear HB
   have HO_3 := n0_
   have HO_4 := n1_
   have HO555 := n2_
   have HO560 := n3_
   have BK552 := n4_
   have HB := n5_
   clear n0_ n1_ n2_ n3_ n4_ n5_
   clear hb ho35
   refine hK.out _ _ trivial (fun hHeld => ?_)
   clear hK K
   refine norm_ (a' := ?_) ?_ ?_
   rotate_left
   ·
    show Act.put _ (some 71) _ = _
    simp only [Act.put, List.setIfInBounds_toArray, List.set_cons_zero, List.set_cons_succ, i64_w, i32_w]
    rfl
   refine pure_ (i := 17) (N := some 12) (v := ?_) (a' := ?_) #[true, true, true, true, true, true, true, true, true, true, true, true, true, true, true, true, true, true] rfl rfl (any_of HT_.out (by kernel_rfl)) (fun _ _ _ h => h) (Or.inl ⟨by rfl, ?_⟩) ?_ ?_
   rotate_left
   ·
    intro w'
    go_simp
    with_reducible rfl
   rotate_left
   ·
    simp only [Act.put, List.setIfInBounds_toArray, List.set_cons_zero, List.set_cons_succ, i64_w, i32_w]
    rfl
   refine done_ (done_of HT_.out (by kernel_rfl)) ?_
   try go_wp2
   (try simp only [Act.put, List.setIfInBounds_toArray, List.set_cons_zero, List.set_cons_succ])
   go_loopg [11, 13, 14] kj9 (fun kq v11 v13 v14 w' => ∃ (x11_2 : List (S34)) (x13_2 : Int) (x14_2 : Int) (x553000_2 : List Int) (x553001_2 : Bool) (u553000 : Value), v13 = .int .i64 x13_2 ∧ v14 = .int .i64 x14_2 ∧ Aside0 (laws_FnPieces.l0 kq t538 t541 t543 x11_2 y558 x13_2 x14_2 x553000_2 x553001_2 = some r) ∧ Aside0 (kq ≤ kj9) ∧ Aside0 (Kd.R (Kd.int .u8) 5 w' w.heap.size (fun k_ => some k_ ≠ (u553000 : Value).ownBlock) (.slice Ao12 t538.length co12) t538) ∧ Aside0 (Kd.R k34 34 w' w.heap.size (fun k_ => some k_ ≠ (v11 : Value).ownBlock) v544 t541) ∧ Aside0 (Kd.R k34 34 w' w.heap.size (fun k_ => some k_ ≠ (v544 : Value).ownBlock) v11 x11_2) ∧ Aside0 (Kd.R (Kd.int .i64) 3 w' w.heap.size (fun _ => True) v559 y558) ∧ Aside0 (Kd.R (Kd.int .u8) 5 w' w.heap.size (fun k_ => some k_ ≠ ((.slice Ao12 t538.length co12) : Value).ownBlock) u553000 x553000_2) ∧ Aside0 (w'.heap[gb552]? = some (.cells #[u553000, .bool x553001_2] 47 (0, 0))) ∧ Aside0 (Below w.heap.size w w'))
   case atStart => exact ⟨(y553), (0), (0), (([] : List Int)), (false), (.slice none 0 0), (by first | rfl | (simp; done) | (simp [*]; done)), (by first | rfl | (simp; done) | (simp [*]; done)), H', ⟨Nat.le_refl _⟩, ⟨by (with_reducible repeat (first | apply Kd.R_alloc | apply Kd.R_drewN | apply Kd.R_drew)); exact Kd.R_mono HO_3.out (fun _ hk => (by simp [Value.ownBlock]))⟩, ⟨by (with_reducible repeat (first | apply Kd.R_alloc | apply Kd.R_drewN | apply Kd.R_drew)); exact Kd.R_mono HO_4.out h2_⟩, ⟨by (with_reducible repeat (first | apply Kd.R_alloc | apply Kd.R_drewN | apply Kd.R_drew)); exact Kd.R_mono HO555.out h2_⟩, ⟨by (with_reducible repeat (first | apply Kd.R_alloc | apply Kd.R_drewN | apply Kd.R_drew)); exact HO560.out⟩, ⟨by first | exact Kd.R_nil _ _ _ _ _ | exact Kd.N_nil _ _ _ _ _ | exact Kd.V_nil _ _ _ _ _ | exact Kd.Q_nil _ _ _ _ _ | exact Kd.S_nil _ _ _ _ _⟩, ⟨by (with_reducible repeat first|apply bn_|apply bd_|apply ba_); exact BK552.out⟩, ⟨ue_ HB.out⟩⟩
   case round =>
    clear H'
    try clear c1
    try clear c2
    try clear p2
    try clear c3
    try clear c4
    try clear c5
    try clear c5b0
    try clear c5b1
    try clear p6
    try clear c13
    try clear c14
    try clear c15
    try clear c16
    try clear c17
    try clear c17b0
    try clear c17b1
    try clear c18
    try clear c24
    try clear c26
    try clear c26b0
    try clear c26b1
    try clear hcz29_0
    try clear hcz29_1
    try clear hfz29_0
    try clear hfz29_1
    try clear p2
    obtain ⟨x11_2, x13_2, x14_2, x553000_2, x553001_2, u553000, rfl, rfl, HA, HK2, HO_3, HO_4, HO_11, HO_12, HO_553000, BK552, HB⟩ := hrel
    cases gk with
    | zero => exact absurd HA.out (by simp [laws_FnPieces.l0])
    | succ k2 =>
     have H := HA.out
     clear HA
     simp only [laws_FnPieces.l0] at H
     by_cases c36 : x14_2 < 3
     ·
      rw [if_pos c36] at H
      have c36b0 : decide (x14_2 < 3) = true := decide_eq_true c36
      clear c36
      by_cases c37 : 0 ≤ x14_2
      ·
       rw [if_pos c37] at H
       have c37b0 : decide (0 ≤ x14_2) = true := decide_eq_true c37
       clear c37
       by_cases c38 : x14_2 < (y558.length : Int)
       ·
        rw [if_pos c38] at H
        have c38b0 : decide (x14_2 < (y558.length : Int)) = true := decide_eq_true c38
        clear c38
        by_cases c39 : (rd y558 x14_2) < x13_2
        ·
         rw [if_pos c39] at H
         have c39b0 : decide ((rd y558 x14_2) < x13_2) = true := decide_eq_true c39
         clear c39
         have H' := Aside0.mk H
         clear H
         obtain ⟨Ao40, co40, eo40⟩ := Kd.R_slice HO_12.out
         subst eo40
         have p563 : 0 ≤ (x14_2 : Int) := of_decide_eq_true ua_
         have q563 : x14_2 < (y558.length : Int) := of_decide_eq_true ua_
         obtain ⟨ad563, e563, hx563_0⟩ := Kd.at_int (Kd.R_reads' HO_12.out).2.2 x14_2 p563 q563
         cases e563
         replace p563 := eq_true p563
         replace q563 := eq_true q563
         go_wp2
         go_roundg k2
         case measure => have := HJ9.out; have := HK2.out; omega
         case rel => exact ⟨(x11_2), (x13_2), (wrap64 (x14_2 + 1)), (x553000_2), (x553001_2), (u553000), (by first | rfl | (simp; done) | (simp [*]; done)), (by first | rfl | (simp; done) | (simp [*]; done)), H', ⟨by have := HJ9.out; have := HK2.out; omega⟩, ⟨by (with_reducible repeat (first | apply Kd.R_alloc | apply Kd.R_drewN | apply Kd.R_drew)); exact HO_3.out⟩, ⟨by (with_reducible repeat (first | apply Kd.R_alloc | apply Kd.R_drewN | apply Kd.R_drew)); exact HO_4.out⟩, ⟨by (with_reducible repeat (first | apply Kd.R_alloc | apply Kd.R_drewN | apply Kd.R_drew)); exact HO_11.out⟩, ⟨by (with_reducible repeat (first | apply Kd.R_alloc | apply Kd.R_drewN | apply Kd.R_drew)); exact HO_12.out⟩, ⟨by (with_reducible repeat (first | apply Kd.R_alloc | apply Kd.R_drewN | apply Kd.R_drew)); exact HO_553000.out⟩, ⟨by (with_reducible repeat first|apply bn_|apply bd_|apply ba_); exact BK552.out⟩, ⟨ue_ HB.out⟩⟩
        rw [if_neg c39] at H
        have c39b0 : decide ((rd y558 x14_2) < x13_2) = false := decide_eq_false c39
        clear c39
        by_cases c41 : 0 ≤ x13_2
        ·
         rw [if_pos c41] at H
         have c41b0 := eq_true c41
         have c41b1 : decide (0 ≤ x13_2) = true := decide_eq_true c41
         clear c41
         by_cases c42 : x13_2 ≤ (rd y558 x14_2)
         ·
          rw [if_pos c42] at H
          have c42b0 := eq_true c42
          have c42b1 : decide (x13_2 ≤ (rd y558 x14_2)) = true := decide_eq_true c42
          clear c42
          by_cases c43 : (rd y558 x14_2) ≤ (t538.length : Int)
          ·
           rw [if_pos c43] at H
           have c43b0 := eq_true c43
           have c43b1 : decide ((rd y558 x14_2) ≤ (t538.length : Int)) = true := decide_eq_true c43
           clear c43
           obtain ⟨y565, hy565⟩ : ∃ y_ : List Int, y_ = ((t538.take ((rd y558 x14_2) : Int).toNat).drop (x13_2 : Int).toNat) := ⟨_, rfl⟩
           replace H : ((impl_FeedBytes.f x553000_2 x553001_2 y565).bind fun bt569 => (if bt569.2.2 = true then (laws_FnPieces.j2 k2 t538 t541 t543 x11_2 y558 x14_2 bt569.1 bt569.2.1) else (if x553001_2 = true then (laws_FnPieces.j2 k2 t538 t541 t543 x11_2 y558 x14_2 x553000_2 x553001_2) else (some false)))) = some r := by first | (rw [hy565]; with_reducible exact H) | (have H2_ := (Option.bind_some _ _).symm.trans H; rw [hy565]; with_reducible exact H2_) | (have H2_ := (Option.bind_some _ _).symm.trans H; with_reducible exact H2_) | with_reducible exact H | (rw [hy565]; exact H) | exact H
           have Ny565 := Aside0.mk hy565
           clear hy565
           replace H := Option.bind_eq_some_iff.mp H
           obtain ⟨⟨t569, t572, t573⟩, A440, H⟩ := H
           replace H : (if t573 = true then (laws_FnPieces.j2 k2 t538 t541 t543 x11_2 y558 x14_2 t569 t572) else (if x553001_2 = true then (laws_FnPieces.j2 k2 t538 t541 t543 x11_2 y558 x14_2 x553000_2 x553001_2) else (some false))) = some r := H
           have A44 := Aside0.mk A440
           clear A440
           have HC45 := Aside0.mk H
           clear H
           obtain ⟨Ao46, co46, eo46⟩ := Kd.R_slice HO_12.out
           subst eo46
           have p563 : 0 ≤ (x14_2 : Int) := of_decide_eq_true ua_
           have q563 : x14_2 < (y558.length : Int) := of_decide_eq_true ua_
           obtain ⟨ad563, e563, hx563_0⟩ := Kd.at_int (Kd.R_reads' HO_12.out).2.2 x14_2 p563 q563
           cases e563
           replace p563 := eq_true p563
           replace q563 := eq_true q563
           obtain ⟨Ao47, co47, eo47⟩ := Kd.R_slice HO_553000.out
           subst eo47
           try go_wp2
           have n0_ := am_ (Kd.R_drew HO_3.out)
           have n1_ := am_ (Kd.R_drew HO_4.out)
           have n2_ := am_ (Kd.R_drew HO_11.out)
           have n3_ := am_ (Kd.R_drew HO_12.out)
           have n4_ := am_ (Kd.R_drew HO_553000.out)
           have n5_ := am_ (blk_drew BK552.out)
           have n6_ := am_ (below_drew1 HB.out)
           clear HO_3
           clear HO_4
           clear HO_11
           clear HO_12
           clear HO_553000
           clear BK552
           clear HB
           have HO_3 := n0_
           have HO_4 := n1_
           have HO_11 := n2_
           have HO_12 := n3_
           have HO_553000 := n4_
           have BK552 := n5_
           have HB := n6_
           clear n0_ n1_ n2_ n3_ n4_ n5_ n6_
           have p564 : 0 ≤ (x14_2 : Int) := of_decide_eq_true ua_
           have q564 : x14_2 < (y558.length : Int) := of_decide_eq_true ua_
           obtain ⟨ad564, e564, hx564_0⟩ := Kd.at_int (Kd.R_reads' HO_12.out).2.2 x14_2 p564 q564
           obtain rfl : ad563 = ad564 := (by injection e564)
           replace p564 := eq_true p564
           replace q564 := eq_true q564
           have q49 : ((rd y558 x14_2) : Int) ≤ ((t538.length : Int) : Int) := of_decide_eq_true ua_
           obtain ⟨i049, hi049, _, hsz49, _⟩ := info_parts info5
           have hroom49 : t538.length ≤ co12 := (Kd.R_reads' HO_3.out).2.1
           have hC49 : Kd.C (Kd.int .u8) _ Ao12 t538.length t538 := (Kd.R_reads' HO_3.out).2.2
           have ql49 : (x13_2 : Int) ≤ ((rd y558 x14_2) : Int) := of_decide_eq_true ua_
           have q049 : (0 : Int) ≤ (x13_2 : Int) := of_decide_eq_true ua_
           have hcut49 := cut_mid (P := Try.prog) 39 5 .i64 .i64 Try.underlying39 hi049 1 hsz49 Ao12 t538.length co12 x13_2 (rd y558 x14_2) q049 ql49 q49 hroom49
           have hr49 := Kd.C_mid (lo := (x13_2 : Int).toNat) (hi := ((rd y558 x14_2) : Int).toNat) (c := co12) hC49 (by omega) (by omega) hroom49
           obtain ⟨A49, hA49⟩ : ∃ A1, A1 = (if co12 = (x13_2 : Int).toNat then Ao12 else (Ao12 : Option Addr).map (·.add ((x13_2 : Int).toNat * 1))) := ⟨_, rfl⟩
           obtain ⟨c49, hc49⟩ : ∃ c1, c1 = co12 - (x13_2 : Int).toNat := ⟨_, rfl⟩
           have hy49 : y565.length = ((rd y558 x14_2) : Int).toNat - (x13_2 : Int).toNat := (by rw [Ny565.out, List.length_drop, List.length_take] <;> omega)
           rw [show ((t538).take ((rd y558 x14_2) : Int).toNat).drop (x13_2 : Int).toNat = y565 from Ny565.out.symm] at hr49
           replace hr49 : Kd.C (Kd.int .u8) _ A49 y565.length y565 := (by rw [hA49]; exact hr49)
           rw [← hy49, ← hA49, ← hc49] at hcut49
           have HR568 := Aside0.mk hr49
           have HC568 := am_ (show y565.length ≤ c49 from by rw [hy49, hc49]; exact Nat.sub_le_sub_right (Nat.le_trans (by omega) hroom49) _)
           clear hr49 hC49 hroom49 hi049 hsz49 hc49
           have KY49 := Aside0.mk hy49
           have KA49 := Aside0.mk hA49
           clear hy49 hA49
           have KL49 := am_ (show ((rd y558 x14_2) : Int).toNat ≤ t538.length from by omega)
           have KM49 := am_ (show (x13_2 : Int).toNat ≤ ((rd y558 x14_2) : Int).toNat from by omega)
           replace q49 := eq_true q49
           refine start_ (n := 15) (S := fun w' => w'.cell? ⟨gb552, 0, none⟩ = some (.slice Ao47 x553000_2.length co47) ∧ w'.cell? ⟨gb552, 1, none⟩ = some (.bool x553001_2) ∧ w'.cell? (ad563.add (x14_2).toNat) = some (.int .i64 (rd y558 x14_2))) (ds := []) #[false, false, false, false, false, false, false, false, false, false, false, false, false, false, false] (by kernel_rfl) rfl rfl ⟨(blk_cell BK552.out 0).trans rfl, (blk_cell BK552.out 1).trans rfl, hx564_0⟩ (fun hHeld => ?_); refine with_tabW laws_FnPieces.tab18 laws_FnPieces.bits18 (fun HT_ HW_ => ?_)
           generalize wr.drew = w48 at HO_3 HO_4 HO_11 HO_12 HO_553000 BK552 HB HR568 hx564_0 hHeld ⊢
           refine pure_ (i := 1) (N := some 84) (v := ?_) (a' := ?_) #[false, true, false, false, false, false, false, false, false, false, false, false, false, false, false] rfl rfl (any_of HT_.out (by kernel_rfl)) (fun _ _ _ h => h) (Or.inl ⟨by rfl, ?_⟩) ?_ ?_
           rotate_left
           ·
            intro w'
            go_simp
            with_reducible rfl
           rotate_left
           ·
            simp only [Act.put, List.setIfInBounds_toArray, List.set_cons_zero, List.set_cons_succ, i64_w, i32_w]
            rfl
           refine pure_ (i := 2) (N := some 85) (v := ?_) (a' := ?_) #[false, true, true, false, false, false, false, false, false, false, false, false, false, false, false] rfl rfl (any_of HT_.out (by kernel_rfl)) (fun _ _ _ h => h) (Or.inl ⟨by rfl, ?_⟩) ?_ ?_
           rotate_left
           ·
            intro w'
            go_simp
            with_reducible rfl
           rotate_left
           ·
            simp only [Act.put, List.setIfInBounds_toArray, List.set_cons_zero, List.set_cons_succ, i64_w, i32_w]
            rfl
           refine pure_ (i := 3) (N := some 86) (v := ?_) (a' := ?_) #[false, true, true, true, false, false, false, false, false, false, false, false, false, false, false] rfl rfl (any_of HT_.out (by kernel_rfl)) (fun _ _ _ h => h) (Or.inl ⟨by rfl, ?_⟩) ?_ ?_
           rotate_left
           ·
            intro w'
            go_simp
            with_reducible rfl
           rotate_left
           ·
            simp only [Act.put, List.setIfInBounds_toArray, List.set_cons_zero, List.set_cons_succ, i64_w, i32_w]
            rfl
           refine pure_ (i := 4) (N := some 87) (v := ?_) (a' := ?_) #[false, true, true, true, true, false, false, false, false, false, false, false, false, false, false] rfl rfl (any_of HT_.out (by kernel_rfl)) (fun _ _ _ h => h) (Or.inl ⟨by rfl, ?_⟩) ?_ ?_
           rotate_left
           ·
            intro w'
            go_simp
            with_reducible rfl
           rotate_left
           ·
            simp only [Act.put, List.setIfInBounds_toArray, List.set_cons_zero, List.set_cons_succ, i64_w, i32_w]
            rfl
           refine pure_ (i := 5) (N := some 88) (v := ?_) (a' := ?_) #[false, true, true, true, true, true, false, false, false, false, false, false, false, false, false] rfl rfl (any_of HT_.out (by kernel_rfl)) (fun _ _ _ h => h) (Or.inl ⟨by rfl, ?_⟩) ?_ ?_
           rotate_left
           ·
            intro w'
            go_simp
            with_reducible rfl
           rotate_left
           ·
            simp only [Act.put, List.setIfInBounds_toArray, List.set_cons_zero, List.set_cons_succ, i64_w, i32_w]
            rfl
           refine take_ (i := 0) (N := some 83) (v := ?_) (a' := ?_) #[true, true, true, true, true, true, false, false, false, false, false, false, false, false, false] rfl rfl (take_ofW HT_.out HW_.out (by kernel_rfl)) (fun _ _ _ h => h) (Or.inl ⟨by rfl, ?_⟩) hHeld ?_ ?_
           rotate_left
           ·
            rintro w' ⟨s0, s1, s2⟩
            go_simp
            with_reducible rfl
           rotate_left
           ·
            simp only [Act.put, List.setIfInBounds_toArray, List.set_cons_zero, List.set_cons_succ, i64_w, i32_w]
            rfl
           refine take_ (i := 6) (N := some 89) (v := ?_) (a' := ?_) #[true, true, true, true, true, true, true, false, false, false, false, false, false, false, false] rfl rfl (take_ofW HT_.out HW_.out (by kernel_rfl)) (fun _ _ _ h => h) (Or.inl ⟨by rfl, ?_⟩) hHeld ?_ ?_
           rotate_left
           ·
            rintro w' ⟨s0, s1, s2⟩
            go_simp
            with_reducible rfl
           rotate_left
           ·
            simp only [Act.put, List.setIfInBounds_toArray, List.set_cons_zero, List.set_cons_succ, i64_w, i32_w]
            rfl
           refine pure_ (i := 7) (N := some 90) (v := ?_) (a' := ?_) #[true, true, true, true, true, true, true, true, false, false, false, false, false, false, false] rfl rfl (any_of HT_.out (by kernel_rfl)) (fun _ _ _ h => h) (Or.inl ⟨by rfl, ?_⟩) ?_ ?_
           rotate_left
           ·
            intro w'
            go_simp
            with_reducible rfl
           rotate_left
           ·
            simp only [Act.put, List.setIfInBounds_toArray, List.set_cons_zero, List.set_cons_succ, i64_w, i32_w]
            rfl
           refine join_ (σ := Value × Nat) 2 #[true, true, true, true, true, true, true, true, true, true, true, true, true, false, false] (fun s_ => [(91, .tuple #[.agg #[s_.1, .bool t572], .bool t573]), (15, .pointer (some ⟨s_.2, 0, none⟩)), (82, .tuple #[.agg #[s_.1, .bool t572], .bool t573]), (92, .agg #[s_.1, .bool t572]), (93, .bool t573)]) (fun s_ w' => (w'.cell? ⟨gb552, 0, none⟩ = some (.slice Ao47 x553000_2.length co47) ∧ w'.cell? ⟨gb552, 1, none⟩ = some (.bool x553001_2) ∧ w'.cell? (ad563.add (x14_2).toNat) = some (.int .i64 (rd y558 x14_2))) ∧ (Kd.R (Kd.int .u8) 5 w' w.heap.size (fun k_ => some k_ ≠ (.slice Ao12 t538.length co12 : Value).ownBlock ∧ some k_ ≠ (.slice Ao47 x553000_2.length co47 : Value).ownBlock) s_.1 t569) ∧ (Kd.R k34 34 w' w.heap.size (fun k_ => some k_ ≠ (v544 : Value).ownBlock) u11 x11_2) ∧ (Kd.R (Kd.int .i64) 3 w' w.heap.size (fun _ => True) (.slice (some ad563) y558.length co46) y558) ∧ (Kd.R (Kd.int .u8) 5 w' w.heap.size (fun k_ => some k_ ≠ (s_.1 : Value).ownBlock ∧ some k_ ≠ (.slice Ao47 x553000_2.length co47 : Value).ownBlock) (.slice Ao12 t538.length co12) t538) ∧ (Kd.R k34 34 w' w.heap.size (fun k_ => some k_ ≠ (u11 : Value).ownBlock) v544 t541) ∧ (Kd.R (Kd.int .u8) 5 w' w.heap.size (fun k_ => some k_ ≠ (s_.1 : Value).ownBlock ∧ some k_ ≠ (.slice Ao12 t538.length co12 : Value).ownBlock) (.slice Ao47 x553000_2.length co47) x553000_2) ∧ (w'.heap[gb552]? = some (.cells #[.slice Ao47 x553000_2.length co47, .bool x553001_2] 47 (0, 0))) ∧ (w'.heap[s_.2]? = some (.cells #[.slice none 0 0, .bool false] 47 (0, 0))) ∧ (w.heap.size ≤ s_.2) ∧ (w.heap.size ≤ s_.2) ∧ (gb552 ≠ s_.2) ∧ (s_.2 ≠ gb552) ∧ (Below w.heap.size w w')) ?_ ?_
           rotate_left
           ·
            intro hCont
            refine two_ (i := 8) (j := 12) (Ni := some 91) (Nj := some 15) #[true, true, true, true, true, true, true, true, true, false, false, false, false, false, false] #[true, true, true, true, true, true, true, true, false, false, false, false, true, false, false] rfl rfl rfl rfl (two_of HT_.out (by kernel_rfl)) (by decide) (by decide) (fun K hK => ?_) (fun K hK => ?_)
            ·
             skip
             refine goes_ Try.func19 (by kernel_rfl) rfl #[.agg #[.slice Ao47 x553000_2.length co47, .bool x553001_2], .slice A49 y565.length c49] (by rfl) rfl rfl ul_ ?_
             with_reducible refine (impl_FeedBytes.calls _ _ x553000_2 x553001_2 _ _ y565 t569 t572 t573 _ ?side1 ?side2 ?side3 ?side4 A44.out).mono ?_
             (case side1 => repeat (first | exact (Kd.R_reads' HO_553000.out).2.2 | (with_reducible refine Kd.C_alloc ?_ _) | (with_reducible refine Kd.C_drewN ?_ _) | (with_reducible refine Kd.C_drew ?_)))
             (case side2 => exact (Kd.R_reads' HO_553000.out).2.1)
             (case side3 => repeat (first | exact (by repeat (first | (with_reducible exact HR568.out) | (with_reducible refine Kd.C_alloc ?_ _) | (with_reducible refine Kd.C_drewN ?_ _) | (with_reducible refine Kd.C_drew ?_) | exact HR568.out)) | (with_reducible refine Kd.C_alloc ?_ _) | (with_reducible refine Kd.C_drewN ?_ _) | (with_reducible refine Kd.C_drew ?_)))
             (case side4 => exact HC568.out)
             rintro e w50 ⟨v570, rfl, ho0, hb⟩
             have HS2_ := (hb.cell (World.block_lt_of_cell? _ _ (hHeld.2.2))).trans (hHeld.2.2)
             refine ⟨_, rfl, ?_⟩
             have n0_ := am_ (Kd.R_elder' (ur_ HO_3.out) (Kd.R_base ho0) hb)
             have n1_ := am_ (Kd.R_below (ur_ HO_4.out) hb)
             have n2_ := am_ (Kd.R_below (ur_ HO_11.out) hb)
             have n3_ := am_ (Kd.R_below (ur_ HO_12.out) hb)
             have n4_ := am_ (Kd.R_elder' (ur_ HO_553000.out) (Kd.R_base ho0) hb)
             have n5_ := am_ (Kd.R_lower (Kd.R_new' (Kd.R_new' ho0 (Kd.R_lt (ur_ HO_3.out))) (Kd.R_lt (ur_ HO_553000.out))) (below_size (ue_ HB.out)))
             have n6_ := am_ (bb_ BK552.out hb)
             have n7_ := am_ (Kd.C_below (by repeat (first | (with_reducible exact HR568.out) | (with_reducible refine Kd.C_alloc ?_ _) | (with_reducible refine Kd.C_drewN ?_ _) | (with_reducible refine Kd.C_drew ?_) | exact HR568.out)) hb)
             have n8_ := am_ (below_step (ue_ HB.out) hb)
             clear HO_3
             clear HO_4
             clear HO_11
             clear HO_12
             clear HO_553000
             clear BK552
             clear HR568
             clear HB
             have HO_3 := n0_
             have HO_4 := n1_
             have HO_11 := n2_
             have HO_12 := n3_
             have HO_553000 := n4_
             have HO571 := n5_
             have BK552 := n6_
             have HR568 := n7_
             have HB := n8_
             clear n0_ n1_ n2_ n3_ n4_ n5_ n6_ n7_ n8_
             (try clear hb)
             (try clear hb2)
             (try clear hk)
             (try clear hi)
             (try clear ho0)
             refine hK.out _ _ ⟨(blk_cell BK552.out 0).trans rfl, (blk_cell BK552.out 1).trans rfl, HS2_⟩ (fun hHeld => ?_)
             clear hK K
             refine norm_ (a' := ?_) ?_ ?_
             rotate_left
             ·
              show Act.put _ (some 91) _ = _
              simp only [Act.put, List.setIfInBounds_toArray, List.set_cons_zero, List.set_cons_succ, i64_w, i32_w]
              rfl
             refine pure_ (i := 9) (N := some 82) (v := ?_) (a' := ?_) #[true, true, true, true, true, true, true, true, true, true, false, false, false, false, false] rfl rfl (any_of HT_.out (by kernel_rfl)) (fun _ _ _ h => h) (Or.inl ⟨by rfl, ?_⟩) ?_ ?_
             rotate_left
             ·
              intro w'
              go_simp
              with_reducible rfl
             rotate_left
             ·
              simp only [Act.put, List.setIfInBounds_toArray, List.set_cons_zero, List.set_cons_succ, i64_w, i32_w]
              rfl
             refine pure_ (i := 10) (N := some 92) (v := ?_) (a' := ?_) #[true, true, true, true, true, true, true, true, true, true, true, false, false, false, false] rfl rfl (any_of HT_.out (by kernel_rfl)) (fun _ _ _ h => h) (Or.inl ⟨by rfl, ?_⟩) ?_ ?_
             rotate_left
             ·
              intro w'
              go_simp
              with_reducible rfl
             rotate_left
             ·
              simp only [Act.put, List.setIfInBounds_toArray, List.set_cons_zero, List.set_cons_succ, i64_w, i32_w]
              rfl
             refine pure_ (i := 11) (N := some 93) (v := ?_) (a' := ?_) #[true, true, true, true, true, true, true, true, true, true, true, true, false, false, false] rfl rfl (any_of HT_.out (by kernel_rfl)) (fun _ _ _ h => h) (Or.inl ⟨by rfl, ?_⟩) ?_ ?_
             rotate_left
             ·
              intro w'
              go_simp
              with_reducible rfl
             rotate_left
             ·
              simp only [Act.put, List.setIfInBounds_toArray, List.set_cons_zero, List.set_cons_succ, i64_w, i32_w]
              rfl
             refine one_ (i := 12) (N := some 15) #[true, true, true, true, true, true, true, true, true, true, true, true, true, false, false] rfl rfl (one_of HT_.out (by kernel_rfl)) (by decide) (fun K hK => ?_)
             refine box_step ?hg (N := 15) ?hd (cs := #[.slice none 0 0, .bool false]) (t := 47) ?hr ?_; (case hd => rfl); (case hg => rfl); (case hr => first | (go_simp; done) | (go_simp; rfl))
             intro gb574 hg w51 hbox hb
             have HS2_ := (hb.cell (World.block_lt_of_cell? _ _ (hHeld.2.2))).trans (hHeld.2.2)
             have n0_ := am_ (Kd.R_below (ur_ HO_3.out) hb)
             have n1_ := am_ (Kd.R_below (ur_ HO_4.out) hb)
             have n2_ := am_ (Kd.R_below (ur_ HO_11.out) hb)
             have n3_ := am_ (Kd.R_below (ur_ HO_12.out) hb)
             have n4_ := am_ (Kd.R_below (ur_ HO_553000.out) hb)
             have n5_ := am_ (Kd.R_below (ur_ HO571.out) hb)
             have n6_ := am_ (bb_ BK552.out hb)
             have n7_ := am_ (Kd.C_below (by repeat (first | (with_reducible exact HR568.out) | (with_reducible refine Kd.C_alloc ?_ _) | (with_reducible refine Kd.C_drewN ?_ _) | (with_reducible refine Kd.C_drew ?_) | exact HR568.out)) hb)
             have n8_ := am_ (below_step (ue_ HB.out) hb)
             have n9_ := am_ (hbox)
             have n10_ := am_ ((by rw [hg]; exact (below_size (ue_ HB.out)) : w.heap.size ≤ gb574))
             have n11_ := am_ ((by rw [hg]; exact (below_size (ue_ HB.out)) : w.heap.size ≤ gb574))
             have n12_ := am_ ((by rw [hg]; exact Nat.ne_of_lt (bl_ BK552.out) : gb552 ≠ gb574))
             have n13_ := am_ ((by rw [hg]; exact Nat.ne_of_gt (bl_ BK552.out) : gb574 ≠ gb552))
             clear HO_3
             clear HO_4
             clear HO_11
             clear HO_12
             clear HO_553000
             clear HO571
             clear BK552
             clear HR568
             clear HB
             have HO_3 := n0_
             have HO_4 := n1_
             have HO_11 := n2_
             have HO_12 := n3_
             have HO_553000 := n4_
             have HO571 := n5_
             have BK552 := n6_
             have HR568 := n7_
             have HB := n8_
             have BK574 := n9_
             have GW574 := n10_
             have GE574 := n11_
             have NB552_574 := n12_
             have NB574_552 := n13_
             clear n0_ n1_ n2_ n3_ n4_ n5_ n6_ n7_ n8_ n9_ n10_ n11_ n12_ n13_
             clear hb hbox hg
             refine hK.out _ _ ⟨(blk_cell BK552.out 0).trans rfl, (blk_cell BK552.out 1).trans rfl, HS2_⟩ (fun hHeld => ?_)
             clear hK K
             refine norm_ (a' := ?_) ?_ ?_
             rotate_left
             ·
              show Act.put _ (some 15) _ = _
              simp only [Act.put, List.setIfInBounds_toArray, List.set_cons_zero, List.set_cons_succ, i64_w, i32_w]
              rfl
             exact norm_ (by simp only [putAll, Act.put, List.setIfInBounds_toArray, List.set_cons_zero, List.set_cons_succ]) (hCont (v570, gb574) _ ⟨hHeld, (by (with_reducible repeat (first | apply Kd.R_alloc | apply Kd.R_drewN | apply Kd.R_drew)); exact Kd.R_mono HO571.out (fun _ hk => by first | exact ⟨hk.1.2, hk.2⟩ | grind)), (ur_ HO_11.out), (ur_ HO_12.out), (by (with_reducible repeat (first | apply Kd.R_alloc | apply Kd.R_drewN | apply Kd.R_drew)); exact Kd.R_mono HO_3.out (fun _ hk => by first | exact ⟨hk.2, hk.1⟩ | grind)), (ur_ HO_4.out), (by (with_reducible repeat (first | apply Kd.R_alloc | apply Kd.R_drewN | apply Kd.R_drew)); exact Kd.R_mono HO_553000.out (fun _ hk => by first | exact ⟨hk.2, hk.1⟩ | grind)), (ub_ BK552.out), (ub_ BK574.out), GW574.out, GE574.out, NB552_574.out, NB574_552.out, (ue_ HB.out)⟩)
            skip
            refine box_step ?hg (N := 15) ?hd (cs := #[.slice none 0 0, .bool false]) (t := 47) ?hr ?_; (case hd => rfl); (case hg => rfl); (case hr => first | (go_simp; done) | (go_simp; rfl))
            intro gb574 hg w50 hbox hb
            have HS2_ := (hb.cell (World.block_lt_of_cell? _ _ (hHeld.2.2))).trans (hHeld.2.2)
            have n0_ := am_ (Kd.R_below (ur_ HO_3.out) hb)
            have n1_ := am_ (Kd.R_below (ur_ HO_4.out) hb)
            have n2_ := am_ (Kd.R_below (ur_ HO_11.out) hb)
            have n3_ := am_ (Kd.R_below (ur_ HO_12.out) hb)
            have n4_ := am_ (Kd.R_below (ur_ HO_553000.out) hb)
            have n5_ := am_ (bb_ BK552.out hb)
            have n6_ := am_ (Kd.C_below (by repeat (first | (with_reducible exact HR568.out) | (with_reducible refine Kd.C_alloc ?_ _) | (with_reducible refine Kd.C_drewN ?_ _) | (with_reducible refine Kd.C_drew ?_) | exact HR568.out)) hb)
            have n7_ := am_ (below_step (ue_ HB.out) hb)
            have n8_ := am_ (hbox)
            have n9_ := am_ ((by rw [hg]; exact (below_size (ue_ HB.out)) : w.heap.size ≤ gb574))
            have n10_ := am_ ((by rw [hg]; exact (below_size (ue_ HB.out)) : w.heap.size ≤ gb574))
            have n11_ := am_ ((by rw [hg]; exact Nat.ne_of_lt (bl_ BK552.out) : gb552 ≠ gb574))
            have n12_ := am_ ((by rw [hg]; exact Nat.ne_of_gt (bl_ BK552.out) : gb574 ≠ gb552))
            clear HO_3
            clear HO_4
            clear HO_11
            clear HO_12
            clear HO_553000
            clear BK552
            clear HR568
            clear HB
            have HO_3 := n0_
            have HO_4 := n1_
            have HO_11 := n2_
            have HO_12 := n3_
            have HO_553000 := n4_
            have BK552 := n5_
            have HR568 := n6_
            have HB := n7_
            have BK574 := n8_
            have GW574 := n9_
            have GE574 := n10_
            have NB552_574 := n11_
            have NB574_552 := n12_
            clear n0_ n1_ n2_ n3_ n4_ n5_ n6_ n7_ n8_ n9_ n10_ n11_ n12_
            clear hb hbox hg
            refine hK.out _ _ ⟨(blk_cell BK552.out 0).trans rfl, (blk_cell BK552.out 1).trans rfl, HS2_⟩ (fun hHeld => ?_)
            clear hK K
            refine norm_ (a' := ?_) ?_ ?_
            rotate_left
            ·
             show Act.put _ (some 15) _ = _
             simp only [Act.put, List.setIfInBounds_toArray, List.set_cons_zero, List.set_cons_succ, i64_w, i32_w]
             rfl
            refine one_ (i := 8) (N := some 91) #[true, true, true, true, true, true, true, true, true, false, false, false, true, false, false] rfl rfl (one_of HT_.out (by kernel_rfl)) (by decide) (fun K hK => ?_)
            refine goes_ Try.func19 (by kernel_rfl) rfl #[.agg #[.slice Ao47 x553000_2.length co47, .bool x553001_2], .slice A49 y565.length c49] (by rfl) rfl rfl ul_ ?_
            with_reducible refine (impl_FeedBytes.calls _ _ x553000_2 x553001_2 _ _ y565 t569 t572 t573 _ ?side1 ?side2 ?side3 ?side4 A44.out).mono ?_
            (case side1 => repeat (first | exact (Kd.R_reads' HO_553000.out).2.2 | (with_reducible refine Kd.C_alloc ?_ _) | (with_reducible refine Kd.C_drewN ?_ _) | (with_reducible refine Kd.C_drew ?_)))
            (case side2 => exact (Kd.R_reads' HO_553000.out).2.1)
            (case side3 => repeat (first | exact (by repeat (first | (with_reducible exact HR568.out) | (with_reducible refine Kd.C_alloc ?_ _) | (with_reducible refine Kd.C_drewN ?_ _) | (with_reducible refine Kd.C_drew ?_) | exact HR568.out)) | (with_reducible refine Kd.C_alloc ?_ _) | (with_reducible refine Kd.C_drewN ?_ _) | (with_reducible refine Kd.C_drew ?_)))
            (case side4 => exact HC568.out)
            rintro e w51 ⟨v570, rfl, ho0, hb⟩
            have HS2_ := (hb.cell (World.block_lt_of_cell? _ _ (hHeld.2.2))).trans (hHeld.2.2)
            refine ⟨_, rfl, ?_⟩
            have n0_ := am_ (Kd.R_elder' (ur_ HO_3.out) (Kd.R_base ho0) hb)
            have n1_ := am_ (Kd.R_below (ur_ HO_4.out) hb)
            have n2_ := am_ (Kd.R_below (ur_ HO_11.out) hb)
            have n3_ := am_ (Kd.R_below (ur_ HO_12.out) hb)
            have n4_ := am_ (Kd.R_elder' (ur_ HO_553000.out) (Kd.R_base ho0) hb)
            have n5_ := am_ (Kd.R_lower (Kd.R_new' (Kd.R_new' ho0 (Kd.R_lt (ur_ HO_3.out))) (Kd.R_lt (ur_ HO_553000.out))) (below_size (ue_ HB.out)))
            have n6_ := am_ (bb_ BK552.out hb)
            have n7_ := am_ (Kd.C_below (by repeat (first | (with_reducible exact HR568.out) | (with_reducible refine Kd.C_alloc ?_ _) | (with_reducible refine Kd.C_drewN ?_ _) | (with_reducible refine Kd.C_drew ?_) | exact HR568.out)) hb)
            have n8_ := am_ (bb_ BK574.out hb)
            have n9_ := am_ (below_step (ue_ HB.out) hb)
            clear HO_3
            clear HO_4
            clear HO_11
            clear HO_12
            clear HO_553000
            clear BK552
            clear HR568
            clear BK574
            clear HB
            have HO_3 := n0_
            have HO_4 := n1_
            have HO_11 := n2_
            have HO_12 := n3_
            have HO_553000 := n4_
            have HO571 := n5_
            have BK552 := n6_
            have HR568 := n7_
            have BK574 := n8_
            have HB := n9_
            clear n0_ n1_ n2_ n3_ n4_ n5_ n6_ n7_ n8_ n9_
            (try clear hb)
            (try clear hb2)
            (try clear hk)
            (try clear hi)
            (try clear ho0)
            refine hK.out _ _ ⟨(blk_cell BK552.out 0).trans rfl, (blk_cell BK552.out 1).trans rfl, HS2_⟩ (fun hHeld => ?_)
            clear hK K
            refine norm_ (a' := ?_) ?_ ?_
            rotate_left
            ·
             show Act.put _ (some 91) _ = _
             simp only [Act.put, List.setIfInBounds_toArray, List.set_cons_zero, List.set_cons_succ, i64_w, i32_w]
             rfl
            refine pure_ (i := 9) (N := some 82) (v := ?_) (a' := ?_) #[true, true, true, true, true, true, true, true, true, true, false, false, true, false, false] rfl rfl (any_of HT_.out (by kernel_rfl)) (fun _ _ _ h => h) (Or.inl ⟨by rfl, ?_⟩) ?_ ?_
            rotate_left
            ·
             intro w'
             go_simp
             with_reducible rfl
            rotate_left
            ·
             simp only [Act.put, List.setIfInBounds_toArray, List.set_cons_zero, List.set_cons_succ, i64_w, i32_w]
             rfl
            refine pure_ (i := 10) (N := some 92) (v := ?_) (a' := ?_) #[true, true, true, true, true, true, true, true, true, true, true, false, true, false, false] rfl rfl (any_of HT_.out (by kernel_rfl)) (fun _ _ _ h => h) (Or.inl ⟨by rfl, ?_⟩) ?_ ?_
            rotate_left
            ·
             intro w'
             go_simp
             with_reducible rfl
            rotate_left
            ·
             simp only [Act.put, List.setIfInBounds_toArray, List.set_cons_zero, List.set_cons_succ, i64_w, i32_w]
             rfl
            refine pure_ (i := 11) (N := some 93) (v := ?_) (a' := ?_) #[true, true, true, true, true, true, true, true, true, true, true, true, true, false, false] rfl rfl (any_of HT_.out (by kernel_rfl)) (fun _ _ _ h => h) (Or.inl ⟨by rfl, ?_⟩) ?_ ?_
            rotate_left
            ·
             intro w'
             go_simp
             with_reducible rfl
            rotate_left
            ·
             simp only [Act.put, List.setIfInBounds_toArray, List.set_cons_zero, List.set_cons_succ, i64_w, i32_w]
             rfl
            exact norm_ (by simp only [putAll, Act.put, List.setIfInBounds_toArray, List.set_cons_zero, List.set_cons_succ]) (hCont (v570, gb574) _ ⟨hHeld, (by (with_reducible repeat (first | apply Kd.R_alloc | apply Kd.R_drewN | apply Kd.R_drew)); exact Kd.R_mono HO571.out (fun _ hk => by first | exact ⟨hk.1.2, hk.2⟩ | grind)), (ur_ HO_11.out), (ur_ HO_12.out), (by (with_reducible repeat (first | apply Kd.R_alloc | apply Kd.R_drewN | apply Kd.R_drew)); exact Kd.R_mono HO_3.out (fun _ hk => by first | exact ⟨hk.2, hk.1⟩ | grind)), (ur_ HO_4.out), (by (with_reducible repeat (first | apply Kd.R_alloc | apply Kd.R_drewN | apply Kd.R_drew)); exact Kd.R_mono HO_553000.out (fun _ hk => by first | exact ⟨hk.2, hk.1⟩ | grind)), (ub_ BK552.out), (ub_ BK574.out), GW574.out, GE574.out, NB552_574.out, NB574_552.out, (ue_ HB.out)⟩)
           rintro ⟨v570, gb574⟩ w52 ⟨hS_, h0_, h1_, h2_, h3_, h4_, h5_, h6_, h7_, h8_, h9_, h10_, h11_, h12_⟩
           have n0_ : Aside0 (Kd.R (Kd.int .u8) 5 w52 w.heap.size (fun k_ => some k_ ≠ (.slice Ao12 t538.length co12 : Value).ownBlock ∧ some k_ ≠ (.slice Ao47 x553000_2.length co47 : Value).ownBlock) v570 t569) := ⟨h0_⟩
           have n1_ : Aside0 (Kd.R k34 34 w52 w.heap.size (fun k_ => some k_ ≠ (v544 : Value).ownBlock) u11 x11_2) := ⟨h1_⟩
           have n2_ : Aside0 (Kd.R (Kd.int .i64) 3 w52 w.heap.size (fun _ => True) (.slice (some ad563) y558.length co46) y558) := ⟨h2_⟩
           have n3_ : Aside0 (Kd.R (Kd.int .u8) 5 w52 w.heap.size (fun k_ => some k_ ≠ (v570 : Value).ownBlock ∧ some k_ ≠ (.slice Ao47 x553000_2.length co47 : Value).ownBlock) (.slice Ao12 t538.length co12) t538) := ⟨h3_⟩
           have n4_ : Aside0 (Kd.R k34 34 w52 w.heap.size (fun k_ => some k_ ≠ (u11 : Value).ownBlock) v544 t541) := ⟨h4_⟩
           have n5_ : Aside0 (Kd.R (Kd.int .u8) 5 w52 w.heap.size (fun k_ => some k_ ≠ (v570 : Value).ownBlock ∧ some k_ ≠ (.slice Ao12 t538.length co12 : Value).ownBlock) (.slice Ao47 x553000_2.length co47) x553000_2) := ⟨h5_⟩
           have n6_ : Aside0 (w52.heap[gb552]? = some (.cells #[.slice Ao47 x553000_2.length co47, .bool x553001_2] 47 (0, 0))) := ⟨h6_⟩
           have n7_ : Aside0 (w52.heap[gb574]? = some (.cells #[.slice none 0 0, .bool false] 47 (0, 0))) := ⟨h7_⟩
           have n8_ : Aside0 (w.heap.size ≤ gb574) := ⟨h8_⟩
           have n9_ : Aside0 (w.heap.size ≤ gb574) := ⟨h9_⟩
           have n10_ : Aside0 (gb552 ≠ gb574) := ⟨h10_⟩
           have n11_ : Aside0 (gb574 ≠ gb552) := ⟨h11_⟩
           have n12_ : Aside0 (Below w.heap.size w w52) := ⟨h12_⟩
           clear HO_3
           clear HO_4
           clear HO_11
           clear HO_12
           clear HO_553000
           clear BK552
           clear HB
           clear h0_ h1_ h2_ h3_ h4_ h5_ h6_ h7_ h8_ h9_ h10_ h11_ h12_
           have HO571 := n0_
           have HO_11 := n1_
           have HO_12 := n2_
           have HO_3 := n3_
           have HO_4 := n4_
           have HO_553000 := n5_
           have BK552 := n6_
           have BK574 := n7_
           have GW574 := n8_
           have GE574 := n9_
           have NB552_574 := n10_
           have NB574_552 := n11_
           have HB := n12_
           clear n0_ n1_ n2_ n3_ n4_ n5_ n6_ n7_ n8_ n9_ n10_ n11_ n12_
           have hHeld : w52.cell? ⟨gb552, 0, none⟩ = some (.slice Ao47 x553000_2.length co47) ∧ w52.cell? ⟨gb552, 1, none⟩ = some (.bool x553001_2) ∧ w52.cell? (ad563.add (x14_2).toNat) = some (.int .i64 (rd y558 x14_2)) := hS_
           obtain ⟨Ao53, co53, eo53⟩ := Kd.R_slice HO571.out
           (first | subst eo53 | (injection eo53 with f1_ f2_ f3_; have f4_ := f1_.symm; have f5_ := f3_.symm; clear f1_ f2_ f3_; subst f4_; subst f5_))
           refine norm_ (a' := ?_) ?_ ?_
           rotate_left
           ·
            simp only [putAll, Act.put, List.setIfInBounds_toArray, List.set_cons_zero, List.set_cons_succ]
            rfl
           refine one_ (i := 13) (N := none) #[true, true, true, true, true, true, true, true, true, true, true, true, true, true, false] rfl rfl (one_of HT_.out (by kernel_rfl)) (by decide) (fun K hK => ?_)
           have hs54 := cb_ BK574.out 0 rfl
           have hfs54 := blk_frozen BK574.out 0
           have hns54_0 := NB552_574.out
           have hms54_0 := NB574_552.out
           have hs55 := cb_ BK574.out 1 rfl
           have hfs55 := blk_frozen BK574.out 1
           have hns55_0 := NB552_574.out
           have hms55_0 := NB574_552.out
           refine skip_ (w1 := ?_) (by rfl) rfl ?_ ?_
           rotate_left
           ·
            go_simp
            rfl
           refine hK.out _ _ ⟨((cell_far (p := ⟨gb574, _, none⟩) NB552_574.out _).trans (((cell_far (p := ⟨gb574, _, none⟩) NB552_574.out _).trans (hHeld.1)))), ((cell_far (p := ⟨gb574, _, none⟩) NB552_574.out _).trans (((cell_far (p := ⟨gb574, _, none⟩) NB552_574.out _).trans (hHeld.2.1)))), ((cell_far (p := ⟨gb574, _, none⟩) (by first | exact Kd.own_blk (Kd.R_ne HO_12.out BK574.out (by decide)) | (rw [add_block]; exact Kd.own_blk (Kd.R_ne HO_12.out BK574.out (by decide))) | (show (Addr.add _ _).block ≠ _; rw [add_block]; exact Kd.own_blk (Kd.R_ne HO_12.out BK574.out (by decide))) | (dsimp only; exact Kd.own_blk (Kd.R_ne HO_12.out BK574.out (by decide)))) _).trans (((cell_far (p := ⟨gb574, _, none⟩) (by first | exact Kd.own_blk (Kd.R_ne HO_12.out BK574.out (by decide)) | (rw [add_block]; exact Kd.own_blk (Kd.R_ne HO_12.out BK574.out (by decide))) | (show (Addr.add _ _).block ≠ _; rw [add_block]; exact Kd.own_blk (Kd.R_ne HO_12.out BK574.out (by decide))) | (dsimp only; exact Kd.own_blk (Kd.R_ne HO_12.out BK574.out (by decide)))) _).trans (hHeld.2.2))))⟩ (fun hHeld => ?_)
           clear hK K
           refine pure_ (i := 14) (N := some 16) (v := ?_) (a' := ?_) #[true, true, true, true, true, true, true, true, true, true, true, true, true, true, true] rfl rfl (any_of HT_.out (by kernel_rfl)) (fun _ _ _ h => h) (Or.inl ⟨by rfl, ?_⟩) ?_ ?_
           rotate_left
           ·
            intro w'
            go_simp
            with_reducible rfl
           rotate_left
           ·
            simp only [Act.put, List.setIfInBounds_toArray, List.set_cons_zero, List.set_cons_succ, i64_w, i32_w]
            rfl
           refine done_ (done_of HT_.out (by kernel_rfl)) ?_
           go_upto_if 94 with (fail)
           go_cut [] (fun wc => ∃ (kq : Nat) (x553000_44 : List Int) (x553001_44 : Bool) (u553000 : Value), Aside0 (laws_FnPieces.j2 kq t538 t541 t543 x11_2 y558 x14_2 x553000_44 x553001_44 = some r) ∧ Aside0 (kq ≤ k2) ∧ Aside0 (Kd.R (Kd.int .u8) 5 wc w.heap.size (fun k_ => some k_ ≠ (u553000 : Value).ownBlock ∧ some k_ ≠ ((.slice Ao53 t569.length co53) : Value).ownBlock) (.slice Ao12 t538.length co12) t538) ∧ Aside0 (Kd.R k34 34 wc w.heap.size (fun k_ => some k_ ≠ (u11 : Value).ownBlock) v544 t541) ∧ Aside0 (Kd.R k34 34 wc w.heap.size (fun k_ => some k_ ≠ (v544 : Value).ownBlock) u11 x11_2) ∧ Aside0 (Kd.R (Kd.int .i64) 3 wc w.heap.size (fun _ => True) (.slice (some ad563) y558.length co46) y558) ∧ Aside0 (Kd.R (Kd.int .u8) 5 wc w.heap.size (fun k_ => some k_ ≠ ((.slice Ao12 t538.length co12) : Value).ownBlock) u553000 x553000_44) ∧ Aside0 (Kd.R (Kd.int .u8) 5 wc w.heap.size (fun k_ => some k_ ≠ ((.slice Ao12 t538.length co12) : Value).ownBlock) (.slice Ao53 t569.length co53) t569) ∧ Aside0 (wc.heap[gb552]? = some (.cells #[u553000, .bool x553001_44] 47 (0, 0))) ∧ Aside0 (wc.heap[gb574]? = some (.cells #[(.slice Ao53 t569.length co53), .bool t572] 47 (0, 0))) ∧ Aside0 (Below w.heap.size w wc))
           case first =>
            have H := HC45.out
            clear HC45
            by_cases c56 : t573 = true
            ·
             subst c56
             have H1 : (laws_FnPieces.j2 k2 t538 t541 t543 x11_2 y558 x14_2 t569 t572) = some r := by rw [if_pos rfl] at H; exact H
             clear H
             have H := H1
             clear H1
             have H' := Aside0.mk H
             clear H
             have hnb57 := NB574_552.out
             have hnc57 := NB552_574.out
             have hcz58_0 := cb_ BK574.out 0 rfl
             have hcz58_1 := cb_ BK574.out 1 rfl
             have hfz58_0 := blk_frozen BK574.out 0
             have hfz58_1 := blk_frozen BK574.out 1
             have hcz59_0 := cb_ BK552.out 0 rfl
             have hcz59_1 := cb_ BK552.out 1 rfl
             have hfz59_0 := blk_frozen BK552.out 0
             have hfz59_1 := blk_frozen BK552.out 1
             go_wp2_with (first | ((with_reducible refine gate_store (t := 47) (p := 10) rfl ?_); refine st_ (w1 := ((((w52.setCell ⟨gb574, 0, none⟩ (.slice Ao53 t569.length co53)).setCell ⟨gb574, 1, none⟩ (.bool t572)).setCell ⟨gb552, 0, none⟩ (.slice Ao53 t569.length co53)).setCell ⟨gb552, 1, none⟩ (.bool t572))) ?_; intro w60 hw; replace HO_3 : Aside0 (Kd.R (Kd.int .u8) 5 w60 w.heap.size (fun k_ => some k_ ≠ (.slice Ao47 x553000_2.length co47 : Value).ownBlock ∧ some k_ ≠ (.slice Ao53 t569.length co53 : Value).ownBlock) (.slice Ao12 t538.length co12) t538) := ⟨(by rw [hw]; exact (by (with_reducible repeat (first | apply Kd.R_alloc | apply Kd.R_drewN | apply Kd.R_drew)); exact Kd.R_mono (Rf2_ (g := gb552) (Kd.R_far (p := ⟨gb574, 1, none⟩) (Kd.R_far (p := ⟨gb574, 0, none⟩) (Kd.R_types (Kd.R_types HO_3.out BK574.out (by decide)) BK552.out (by decide)) (fun _ hk => by first | exact hk.1.2 | grind) (.slice Ao53 t569.length co53)) (fun _ hk => by first | exact hk.1.2 | grind) (.bool t572))) (fun _ hk => by first | exact ⟨hk.1.1.2, hk.1.1.1⟩ | grind)))⟩; replace HO_4 : Aside0 (Kd.R k34 34 w60 w.heap.size (fun k_ => some k_ ≠ (u11 : Value).ownBlock) v544 t541) := ⟨(by rw [hw]; exact (by (with_reducible repeat (first | apply Kd.R_alloc | apply Kd.R_drewN | apply Kd.R_drew)); exact Kd.R_mono (Rf2_ (g := gb552) (Kd.R_far (p := ⟨gb574, 1, none⟩) (Kd.R_far (p := ⟨gb574, 0, none⟩) (Kd.R_types (Kd.R_types HO_4.out BK574.out (by decide)) BK552.out (by decide)) (fun _ hk => by first | exact hk.1.2 | grind) (.slice Ao53 t569.length co53)) (fun _ hk => by first | exact hk.1.2 | grind) (.bool t572))) (fun _ hk => by first | exact hk.1.1 | grind)))⟩; replace HO_11 : Aside0 (Kd.R k34 34 w60 w.heap.size (fun k_ => some k_ ≠ (v544 : Value).ownBlock) u11 x11_2) := ⟨(by rw [hw]; exact (by (with_reducible repeat (first | apply Kd.R_alloc | apply Kd.R_drewN | apply Kd.R_drew)); exact Kd.R_mono (Rf2_ (g := gb552) (Kd.R_far (p := ⟨gb574, 1, none⟩) (Kd.R_far (p := ⟨gb574, 0, none⟩) (Kd.R_types (Kd.R_types HO_11.out BK574.out (by decide)) BK552.out (by decide)) (fun _ hk => by first | exact hk.1.2 | grind) (.slice Ao53 t569.length co53)) (fun _ hk => by first | exact hk.1.2 | grind) (.bool t572))) (fun _ hk => by first | exact hk.1.1 | grind)))⟩; replace HO_12 : Aside0 (Kd.R (Kd.int .i64) 3 w60 w.heap.size (fun _ => True) (.slice (some ad563) y558.length co46) y558) := ⟨(by rw [hw]; exact (by (with_reducible repeat (first | apply Kd.R_alloc | apply Kd.R_drewN | apply Kd.R_drew)); exact Kd.R_mono (Rf2_ (g := gb552) (Kd.R_far (p := ⟨gb574, 1, none⟩) (Kd.R_far (p := ⟨gb574, 0, none⟩) (Kd.R_types (Kd.R_types HO_12.out BK574.out (by decide)) BK552.out (by decide)) (fun _ hk => by first | exact hk.1.2 | grind) (.slice Ao53 t569.length co53)) (fun _ hk => by first | exact hk.1.2 | grind) (.bool t572))) (fun _ hk => trivial)))⟩; replace HO_553000 : Aside0 (Kd.R (Kd.int .u8) 5 w60 w.heap.size (fun k_ => some k_ ≠ (.slice Ao12 t538.length co12 : Value).ownBlock ∧ some k_ ≠ (.slice Ao53 t569.length co53 : Value).ownBlock) (.slice Ao47 x553000_2.length co47) x553000_2) := ⟨(by rw [hw]; exact (by (with_reducible repeat (first | apply Kd.R_alloc | apply Kd.R_drewN | apply Kd.R_drew)); exact Kd.R_mono (Rf2_ (g := gb552) (Kd.R_far (p := ⟨gb574, 1, none⟩) (Kd.R_far (p := ⟨gb574, 0, none⟩) (Kd.R_types (Kd.R_types HO_553000.out BK574.out (by decide)) BK552.out (by decide)) (fun _ hk => by first | exact hk.1.2 | grind) (.slice Ao53 t569.length co53)) (fun _ hk => by first | exact hk.1.2 | grind) (.bool t572))) (fun _ hk => by first | exact ⟨hk.1.1.2, hk.1.1.1⟩ | grind)))⟩; replace HO571 : Aside0 (Kd.R (Kd.int .u8) 5 w60 w.heap.size (fun k_ => some k_ ≠ (.slice Ao12 t538.length co12 : Value).ownBlock ∧ some k_ ≠ (.slice Ao47 x553000_2.length co47 : Value).ownBlock) (.slice Ao53 t569.length co53) t569) := ⟨(by rw [hw]; exact (by (with_reducible repeat (first | apply Kd.R_alloc | apply Kd.R_drewN | apply Kd.R_drew)); exact Kd.R_mono (Rf2_ (g := gb552) (Kd.R_far (p := ⟨gb574, 1, none⟩) (Kd.R_far (p := ⟨gb574, 0, none⟩) (Kd.R_types (Kd.R_types HO571.out BK574.out (by decide)) BK552.out (by decide)) (fun _ hk => by first | exact hk.1.2 | grind) (.slice Ao53 t569.length co53)) (fun _ hk => by first | exact hk.1.2 | grind) (.bool t572))) (fun _ hk => by first | exact ⟨hk.1.1.1, hk.1.1.2⟩ | grind)))⟩; replace BK552 : Aside0 (w60.heap[gb552]? = some (.cells #[.slice Ao53 t569.length co53, .bool t572] 47 (0, 0))) := ⟨(by rw [hw]; exact (by (with_reducible repeat first|apply bn_|apply bd_|apply ba_); apply bp2_; refine blk_far ?_ NB552_574.out _; refine blk_far ?_ NB552_574.out _; (with_reducible repeat first|apply bn_|apply bd_|apply ba_); exact BK552.out))⟩; replace BK574 : Aside0 (w60.heap[gb574]? = some (.cells #[.slice Ao53 t569.length co53, .bool t572] 47 (0, 0))) := ⟨(by rw [hw]; exact (by (with_reducible repeat first|apply bn_|apply bd_|apply ba_); refine blk_far ?_ NB574_552.out _; refine blk_far ?_ NB574_552.out _; apply bp2_; (with_reducible repeat first|apply bn_|apply bd_|apply ba_); exact BK574.out))⟩; replace HB : Aside0 (Below w.heap.size w w60) := ⟨(by rw [hw]; exact (ue_ HB.out))⟩; clear hw))
             go_meet
             case rel => exact ⟨_, (t569), (t572), (.slice Ao53 t569.length co53), H', ⟨by have := HJ9.out; have := HK2.out; first | omega | exact Nat.le_refl _⟩, ⟨by (with_reducible repeat (first | apply Kd.R_alloc | apply Kd.R_drewN | apply Kd.R_drew)); exact Kd.R_mono HO_3.out (fun _ hk => by first | exact ⟨hk.2, hk.2⟩ | grind)⟩, ⟨by (with_reducible repeat (first | apply Kd.R_alloc | apply Kd.R_drewN | apply Kd.R_drew)); exact HO_4.out⟩, ⟨by (with_reducible repeat (first | apply Kd.R_alloc | apply Kd.R_drewN | apply Kd.R_drew)); exact HO_11.out⟩, ⟨by (with_reducible repeat (first | apply Kd.R_alloc | apply Kd.R_drewN | apply Kd.R_drew)); exact HO_12.out⟩, ⟨by (with_reducible repeat (first | apply Kd.R_alloc | apply Kd.R_drewN | apply Kd.R_drew)); exact Kd.R_mono HO571.out (fun _ hk => by first | exact hk.1 | grind)⟩, ⟨by (with_reducible repeat (first | apply Kd.R_alloc | apply Kd.R_drewN | apply Kd.R_drew)); exact Kd.R_mono HO571.out (fun _ hk => by first | exact hk.1 | grind)⟩, ⟨by (with_reducible repeat first|apply bn_|apply bd_|apply ba_); exact BK552.out⟩, ⟨by (with_reducible repeat first|apply bn_|apply bd_|apply ba_); exact BK574.out⟩, ⟨ue_ HB.out⟩⟩
            replace c56 := Bool.eq_false_iff.mpr c56
            subst c56
            have H1 : (if x553001_2 = true then (laws_FnPieces.j2 k2 t538 t541 t543 x11_2 y558 x14_2 x553000_2 x553001_2) else (some false)) = some r := by rw [if_neg (show ¬ (false = true) by decide)] at H; exact H
            clear H
            have H := H1
            clear H1
            by_cases c61 : x553001_2 = true
            ·
             subst c61
             have H1 : (laws_FnPieces.j2 k2 t538 t541 t543 x11_2 y558 x14_2 x553000_2 true) = some r := by rw [if_pos rfl] at H; exact H
             clear H
             have H := H1
             clear H1
             have H' := Aside0.mk H
             clear H
             have hnb62 := NB552_574.out
             have hnc62 := NB574_552.out
             have hcz63_0 := cb_ BK552.out 0 rfl
             have hcz63_1 := cb_ BK552.out 1 rfl
             have hfz63_0 := blk_frozen BK552.out 0
             have hfz63_1 := blk_frozen BK552.out 1
             go_wp2
             go_meet
             case rel => exact ⟨_, (x553000_2), (true), (.slice Ao47 x553000_2.length co47), H', ⟨by have := HJ9.out; have := HK2.out; first | omega | exact Nat.le_refl _⟩, ⟨by (with_reducible repeat (first | apply Kd.R_alloc | apply Kd.R_drewN | apply Kd.R_drew)); exact Kd.R_mono (Rf2_ (g := gb574) (Kd.R_types HO_3.out BK574.out (by decide))) (fun _ hk => by first | exact ⟨hk.1.2, hk.1.1⟩ | grind)⟩, ⟨by (with_reducible repeat (first | apply Kd.R_alloc | apply Kd.R_drewN | apply Kd.R_drew)); exact Kd.R_mono (Rf2_ (g := gb574) (Kd.R_types HO_4.out BK574.out (by decide))) (fun _ hk => by first | exact hk.1 | grind)⟩, ⟨by (with_reducible repeat (first | apply Kd.R_alloc | apply Kd.R_drewN | apply Kd.R_drew)); exact Kd.R_mono (Rf2_ (g := gb574) (Kd.R_types HO_11.out BK574.out (by decide))) (fun _ hk => by first | exact hk.1 | grind)⟩, ⟨by (with_reducible repeat (first | apply Kd.R_alloc | apply Kd.R_drewN | apply Kd.R_drew)); exact Kd.R_mono (Rf2_ (g := gb574) (Kd.R_types HO_12.out BK574.out (by decide))) (fun _ hk => trivial)⟩, ⟨by (with_reducible repeat (first | apply Kd.R_alloc | apply Kd.R_drewN | apply Kd.R_drew)); exact Kd.R_mono (Rf2_ (g := gb574) (Kd.R_types HO_553000.out BK574.out (by decide))) (fun _ hk => by first | exact ⟨hk.1.2, hk.1.1⟩ | grind)⟩, ⟨by (with_reducible repeat (first | apply Kd.R_alloc | apply Kd.R_drewN | apply Kd.R_drew)); exact Kd.R_mono (Rf2_ (g := gb574) (Kd.R_types HO571.out BK574.out (by decide))) (fun _ hk => by first | exact ⟨hk.1.1, hk.1.2⟩ | grind)⟩, ⟨by (with_reducible repeat first|apply bn_|apply bd_|apply ba_); refine blk_far ?_ NB552_574.out _; refine blk_far ?_ NB552_574.out _; (with_reducible repeat first|apply bn_|apply bd_|apply ba_); exact BK552.out⟩, ⟨by (with_reducible repeat first|apply bn_|apply bd_|apply ba_); apply bp2_; (with_reducible repeat first|apply bn_|apply bd_|apply ba_); exact BK574.out⟩, ⟨ue_ HB.out⟩⟩
            replace c61 := Bool.eq_false_iff.mpr c61
            subst c61
            have H1 : (some false) = some r := by rw [if_neg (show ¬ (false = true) by decide)] at H; exact H
            clear H
            have H := H1
            clear H1
            exact absurd ((Option.some.inj H).trans hT.out) (by decide)
           case rest =>
            clear HC45
            try clear c1
            try clear c2
            try clear p2
            try clear c3
            try clear c4
            try clear q4
            try clear c5
            try clear c5b0
            try clear c5b1
            try clear p5
            try clear q5
            try clear hx5
            try clear c6
            try clear p6
            try clear c13
            try clear c14
            try clear c15
            try clear c16
            try clear c17
            try clear c17b0
            try clear c17b1
            try clear c18
            try clear c19
            try clear c24
            try clear c26
            try clear c26b0
            try clear c26b1
            try clear c36
            try clear c36b0
            try clear c37
            try clear c37b0
            try clear c38
            try clear c38b0
            try clear c39
            try clear c39b0
            try clear c41
            try clear c41b0
            try clear c41b1
            try clear c42
            try clear c42b0
            try clear c42b1
            try clear c43
            try clear c43b0
            try clear c43b1
            try clear c49
            try clear q49
            try clear c56
            try clear p56
            try clear q56
            try clear hx56
            try clear c57
            try clear c61
            try clear c62
            try clear hcz29_0
            try clear hcz29_1
            try clear hcz58_0
            try clear hcz58_1
            try clear hcz59_0
            try clear hcz59_1
            try clear hcz63_0
            try clear hcz63_1
            try clear hfz29_0
            try clear hfz29_1
            try clear hfz58_0
            try clear hfz58_1
            try clear hfz59_0
            try clear hfz59_1
            try clear hfz63_0
            try clear hfz63_1
            try clear hx563_0
            try clear hx564_0
            try clear p2
            try clear p563
            try clear p564
            try clear p6
            try clear q049
            try clear q49
            try clear q563
            try clear q564
            obtain ⟨kq, x553000_44, x553001_44, u553000, HA, HJ44, HO_3, HO_4, HO_11, HO_12, HO_553000, HO_575000, BK552, BK574, HB⟩ := hcut
            cases kq with
            | zero => exact absurd HA.out (by simp [laws_FnPieces.j2])
            | succ kj44 =>
             have H := HA.out
             clear HA
             simp only [laws_FnPieces.j2] at H
             by_cases c64 : 0 ≤ x14_2
             ·
              rw [if_pos c64] at H
              have c64b0 : decide (0 ≤ x14_2) = true := decide_eq_true c64
              clear c64
              by_cases c65 : x14_2 < (y558.length : Int)
              ·
               rw [if_pos c65] at H
               have c65b0 : decide (x14_2 < (y558.length : Int)) = true := decide_eq_true c65
               clear c65
               have H' := Aside0.mk H
               clear H
               have p575 : 0 ≤ (x14_2 : Int) := of_decide_eq_true ua_
               have q575 : x14_2 < (y558.length : Int) := of_decide_eq_true ua_
               obtain ⟨ad575, e575, hx575_0⟩ := Kd.at_int (Kd.R_reads' HO_12.out).2.2 x14_2 p575 q575
               obtain rfl : ad563 = ad575 := (by injection e575)
               replace p575 := eq_true p575
               replace q575 := eq_true q575
               go_wp2
               (try simp only [Act.put, List.setIfInBounds_toArray, List.set_cons_zero, List.set_cons_succ])
               go_loopg [11] kj44 (fun kq v11 w' => ∃ (x11_4 : List (S34)) (x553000_4 : List Int) (x553001_4 : Bool) (u553000 : Value), Aside0 (laws_FnPieces.l1 kq t538 t541 t543 x11_4 y558 (rd y558 x14_2) x14_2 x553000_4 x553001_4 = some r) ∧ Aside0 (kq ≤ kj44) ∧ Aside0 (Kd.R (Kd.int .u8) 5 w' w.heap.size (fun k_ => some k_ ≠ (u553000 : Value).ownBlock ∧ some k_ ≠ ((.slice Ao53 t569.length co53) : Value).ownBlock) (.slice Ao12 t538.length co12) t538) ∧ Aside0 (Kd.R k34 34 w' w.heap.size (fun k_ => some k_ ≠ (v11 : Value).ownBlock) v544 t541) ∧ Aside0 (Kd.R k34 34 w' w.heap.size (fun k_ => some k_ ≠ (v544 : Value).ownBlock) v11 x11_4) ∧ Aside0 (Kd.R (Kd.int .i64) 3 w' w.heap.size (fun _ => True) (.slice (some ad563) y558.length co46) y558) ∧ Aside0 (Kd.R (Kd.int .u8) 5 w' w.heap.size (fun k_ => some k_ ≠ ((.slice Ao12 t538.length co12) : Value).ownBlock) u553000 x553000_4) ∧ Aside0 (Kd.R (Kd.int .u8) 5 w' w.heap.size (fun k_ => some k_ ≠ ((.slice Ao12 t538.length co12) : Value).ownBlock) (.slice Ao53 t569.length co53) t569) ∧ Aside0 (w'.heap[gb552]? = some (.cells #[u553000, .bool x553001_4] 47 (0, 0))) ∧ Aside0 (w'.heap[gb574]? = some (.cells #[(.slice Ao53 t569.length co53), .bool t572] 47 (0, 0))) ∧ Aside0 (Below w.heap.size w w'))
               case atStart => exact ⟨(x11_2), (x553000_44), (x553001_44), (u553000), H', ⟨Nat.le_refl _⟩, ⟨by (with_reducible repeat (first | apply Kd.R_alloc | apply Kd.R_drewN | apply Kd.R_drew)); exact HO_3.out⟩, ⟨by (with_reducible repeat (first | apply Kd.R_alloc | apply Kd.R_drewN | apply Kd.R_drew)); exact HO_4.out⟩, ⟨by (with_reducible repeat (first | apply Kd.R_alloc | apply Kd.R_drewN | apply Kd.R_drew)); exact HO_11.out⟩, ⟨by (with_reducible repeat (first | apply Kd.R_alloc | apply Kd.R_drewN | apply Kd.R_drew)); exact HO_12.out⟩, ⟨by (with_reducible repeat (first | apply Kd.R_alloc | apply Kd.R_drewN | apply Kd.R_drew)); exact HO_553000.out⟩, ⟨by (with_reducible repeat (first | apply Kd.R_alloc | apply Kd.R_drewN | apply Kd.R_drew)); exact HO_575000.out⟩, ⟨by (with_reducible repeat first|apply bn_|apply bd_|apply ba_); exact BK552.out⟩, ⟨by (with_reducible repeat first|apply bn_|apply bd_|apply ba_); exact BK574.out⟩, ⟨ue_ HB.out⟩⟩
               case round =>
                clear H'
                try clear c1
                try clear c2
                try clear p2
                try clear c3
                try clear c4
                try clear q4
                try clear c5
                try clear c5b0
                try clear c5b1
                try clear p5
                try clear q5
                try clear hx5
                try clear c6
                try clear p6
                try clear c13
                try clear c14
                try clear c15
                try clear c16
                try clear c17
                try clear c17b0
                try clear c17b1
                try clear c18
                try clear c19
                try clear c24
                try clear c26
                try clear c26b0
                try clear c26b1
                try clear c36
                try clear c36b0
                try clear c37
                try clear c37b0
                try clear c38
                try clear c38b0
                try clear c39
                try clear c39b0
                try clear c41
                try clear c41b0
                try clear c41b1
                try clear c42
                try clear c42b0
                try clear c42b1
                try clear c43
                try clear c43b0
                try clear c43b1
                try clear c49
                try clear q49
                try clear c56
                try clear p56
                try clear q56
                try clear hx56
                try clear c57
                try clear p57
                try clear q57
                try clear hx57
                try clear c61
                try clear c62
                try clear c64
                try clear c64b0
                try clear c65
                try clear c65b0
                try clear hcz29_0
                try clear hcz29_1
                try clear hcz58_0
                try clear hcz58_1
                try clear hcz59_0
                try clear hcz59_1
                try clear hcz63_0
                try clear hcz63_1
                try clear hfz29_0
                try clear hfz29_1
                try clear hfz58_0
                try clear hfz58_1
                try clear hfz59_0
                try clear hfz59_1
                try clear hfz63_0
                try clear hfz63_1
                try clear hx563_0
                try clear hx564_0
                try clear hx575_0
                try clear p2
                try clear p5
                try clear p56
                try clear p563
                try clear p564
                try clear p575
                try clear p6
                try clear q049
                try clear q4
                try clear q49
                try clear q5
                try clear q56
                try clear q563
                try clear q564
                try clear q575
                obtain ⟨x11_4, x553000_4, x553001_4, u553000, HA, HK4, HO_3, HO_4, HO_11, HO_12, HO_553000, HO_575000, BK552, BK574, HB⟩ := hrel
                cases gk with
                | zero => exact absurd HA.out (by simp [laws_FnPieces.l1])
                | succ k4 =>
                 have H := HA.out
                 clear HA
                 simp only [laws_FnPieces.l1] at H
                 replace H := Option.bind_eq_some_iff.mp H
                 obtain ⟨⟨t576, t579, t580, t581, t582, t583, t584⟩, A660, H⟩ := H
                 replace H : (if t584 = 0 then (if x11_4.length < 4398046511104 then (laws_FnPieces.l1 k4 t538 t541 t543 (x11_4 ++ [(⟨t580, t581, t582, t583⟩ : S34)]) y558 (rd y558 x14_2) x14_2 t576 t579) else (none)) else (laws_FnPieces.l0 k4 t538 t541 t543 x11_4 y558 (rd y558 x14_2) (wrap64 (x14_2 + 1)) t576 t579)) = some r := H
                 have A66 := Aside0.mk A660
                 clear A660
                 by_cases c67 : t584 = 0
                 ·
                  rw [if_pos c67] at H
                  have c67b0 : (t584 == 0) = true := beq_iff_eq.mpr c67
                  have c67b1 : (t584 != 0) = false := bne_eq_false_iff_eq.mpr c67
                  clear c67
                  by_cases c68 : x11_4.length < 4398046511104
                  ·
                   rw [if_pos c68] at H
                   have LMc68 := Aside0.mk c68
                   clear c68
                   obtain ⟨y587, hy587⟩ : ∃ y_ : List (S34), y_ = (x11_4 ++ [(⟨t580, t581, t582, t583⟩ : S34)]) := ⟨_, rfl⟩
                   replace H : (laws_FnPieces.l1 k4 t538 t541 t543 y587 y558 (rd y558 x14_2) x14_2 t576 t579) = some r := by first | (rw [hy587]; with_reducible exact H) | (have H2_ := (Option.bind_some _ _).symm.trans H; rw [hy587]; with_reducible exact H2_) | (have H2_ := (Option.bind_some _ _).symm.trans H; with_reducible exact H2_) | with_reducible exact H | (rw [hy587]; exact H) | exact H
                   have Ny587 := Aside0.mk hy587
                   clear hy587
                   have H' := Aside0.mk H
                   clear H
                   have hnb69 := NB552_574.out
                   have hnc69 := NB574_552.out
                   have hcz70_0 := cb_ BK552.out 0 rfl
                   have hcz70_1 := cb_ BK552.out 1 rfl
                   have hfz70_0 := blk_frozen BK552.out 0
                   have hfz70_1 := blk_frozen BK552.out 1
                   obtain ⟨Ao71, co71, eo71⟩ := Kd.R_slice HO_553000.out
                   subst eo71
                   go_wp2_with (first | ((with_reducible refine gate_callee (f := 20) rfl ?_); refine goesL_ (some 105) rfl rfl Try.func20 (by kernel_rfl) rfl #[.agg #[.slice Ao71 x553000_4.length co71, .bool x553001_4]] rfl ul_ ?_; (with_reducible refine (impl_TakeNext.calls k4 _ _ x553000_4 x553001_4 t576 t579 t580 t581 t582 t583 t584 _ ?side1 ?side2 A66.out).mono ?_); (case side1 => repeat (first | exact (Kd.R_reads' HO_553000.out).2.2 | (with_reducible refine Kd.C_alloc ?_ _) | (with_reducible refine Kd.C_drewN ?_ _) | (with_reducible refine Kd.C_drew ?_))); (case side2 => exact (Kd.R_reads' HO_553000.out).2.1); rintro e w72 ⟨v577, rfl, ho0, hb⟩; refine ⟨_, rfl, ?_⟩; replace HO_4 := am_ (Kd.R_below (ur_ HO_4.out) hb); replace HO_11 := am_ (Kd.R_below (ur_ HO_11.out) hb); replace HO_12 := am_ (Kd.R_below (ur_ HO_12.out) hb); have HO578 := am_ (Kd.R_lower (Kd.R_new' (Kd.R_new' (Kd.R_new' ho0 (Kd.R_lt (ur_ HO_3.out))) (Kd.R_lt (ur_ HO_553000.out))) (Kd.R_lt (ur_ HO_575000.out))) (below_size (ue_ HB.out))); replace HO_3 := am_ (Kd.R_elder' (ur_ HO_3.out) (Kd.R_base ho0) hb); replace HO_553000 := am_ (Kd.R_elder' (ur_ HO_553000.out) (Kd.R_base ho0) hb); replace HO_575000 := am_ (Kd.R_elder' (ur_ HO_575000.out) (Kd.R_base ho0) hb); replace BK552 := am_ (bb_ BK552.out hb); replace BK574 := am_ (bb_ BK574.out hb); replace HB := am_ (below_step (ue_ HB.out) hb); (try clear hb); (try clear hb2); (try clear hk); (try clear hi); (try clear ho0)) | ((with_reducible refine gate_dst (N := 17) rfl ?_); refine bx_ (N := 17) (cs := #[.slice none 0 0, .bool false]) (t := 47) ?_; intro gb585 hg w73 hbox hb; replace HO_3 := am_ (Kd.R_below (ur_ HO_3.out) hb); replace HO_4 := am_ (Kd.R_below (ur_ HO_4.out) hb); replace HO_11 := am_ (Kd.R_below (ur_ HO_11.out) hb); replace HO_12 := am_ (Kd.R_below (ur_ HO_12.out) hb); replace HO_553000 := am_ (Kd.R_below (ur_ HO_553000.out) hb); replace HO_575000 := am_ (Kd.R_below (ur_ HO_575000.out) hb); replace HO578 := am_ (Kd.R_below (ur_ HO578.out) hb); have BK585 := am_ (hbox); have GW585 := am_ ((by rw [hg]; exact (below_size (ue_ HB.out)) : w.heap.size ≤ gb585)); have GE585 := am_ ((by rw [hg]; exact (below_size (ue_ HB.out)) : w.heap.size ≤ gb585)); replace HB := am_ (below_step (ue_ HB.out) hb); have NB552_585 := am_ ((by rw [hg]; exact Nat.ne_of_lt (bl_ BK552.out) : gb552 ≠ gb585)); have NB585_552 := am_ ((by rw [hg]; exact Nat.ne_of_gt (bl_ BK552.out) : gb585 ≠ gb552)); replace BK552 := am_ (bb_ BK552.out hb); have NB574_585 := am_ ((by rw [hg]; exact Nat.ne_of_lt (bl_ BK574.out) : gb574 ≠ gb585)); have NB585_574 := am_ ((by rw [hg]; exact Nat.ne_of_gt (bl_ BK574.out) : gb585 ≠ gb574)); replace BK574 := am_ (bb_ BK574.out hb); clear hb hbox hg) | ((with_reducible refine gate_dst (N := 18) rfl ?_); refine bx_ (N := 18) (cs := #[.int .i64 0, .int .i64 0, .int .i64 0, .int .i64 0]) (t := 34) ?_; intro gb586 hg w74 hbox hb; replace HO_3 := am_ (Kd.R_below (ur_ HO_3.out) hb); replace HO_4 := am_ (Kd.R_below (Kd.R_elderB (ur_ HO_4.out) gb586 (Nat.le_of_eq hg.symm)) hb); replace HO_11 := am_ (Kd.R_below (Kd.R_elderB (ur_ HO_11.out) gb586 (Nat.le_of_eq hg.symm)) hb); replace HO_12 := am_ (Kd.R_below (ur_ HO_12.out) hb); replace HO_553000 := am_ (Kd.R_below (ur_ HO_553000.out) hb); replace HO_575000 := am_ (Kd.R_below (ur_ HO_575000.out) hb); replace HO578 := am_ (Kd.R_below (ur_ HO578.out) hb); have BK586 := am_ (hbox); have GW586 := am_ ((by rw [hg]; exact (below_size (ue_ HB.out)) : w.heap.size ≤ gb586)); have GE586 := am_ ((by rw [hg]; exact (below_size (ue_ HB.out)) : w.heap.size ≤ gb586)); replace HB := am_ (below_step (ue_ HB.out) hb); have NB552_586 := am_ ((by rw [hg]; exact Nat.ne_of_lt (bl_ BK552.out) : gb552 ≠ gb586)); have NB586_552 := am_ ((by rw [hg]; exact Nat.ne_of_gt (bl_ BK552.out) : gb586 ≠ gb552)); replace BK552 := am_ (bb_ BK552.out hb); have NB574_586 := am_ ((by rw [hg]; exact Nat.ne_of_lt (bl_ BK574.out) : gb574 ≠ gb586)); have NB586_574 := am_ ((by rw [hg]; exact Nat.ne_of_gt (bl_ BK574.out) : gb586 ≠ gb574)); replace BK574 := am_ (bb_ BK574.out hb); have NB585_586 := am_ ((by rw [hg]; exact Nat.ne_of_lt (bl_ BK585.out) : gb585 ≠ gb586)); have NB586_585 := am_ ((by rw [hg]; exact Nat.ne_of_gt (bl_ BK585.out) : gb586 ≠ gb585)); replace BK585 := am_ (bb_ BK585.out hb); clear hb hbox hg; obtain ⟨Ao75, co75, eo75⟩ := Kd.R_slice HO578.out; subst eo75; have hnb76 := NB585_552.out; have hnc76 := NB552_585.out; have hnb77 := NB585_574.out; have hnc77 := NB574_585.out; have hnb78 := NB585_586.out; have hnc78 := NB586_585.out; obtain ⟨hcz79_0, hcz79_1⟩ := cb2_ BK585.out; have hfz79_0 := blk_frozen BK585.out 0; have hfz79_1 := blk_frozen BK585.out 1) | ((with_reducible refine gate_store (t := 47) (p := 17) rfl ?_); refine st_ (w1 := ((w74.setCell ⟨gb585, 0, none⟩ (.slice Ao75 t576.length co75)).setCell ⟨gb585, 1, none⟩ (.bool t579))) ?_; intro w80 hw; replace HO_3 : Aside0 (Kd.R (Kd.int .u8) 5 w80 w.heap.size (fun k_ => some k_ ≠ (.slice Ao71 x553000_4.length co71 : Value).ownBlock ∧ some k_ ≠ (.slice Ao53 t569.length co53 : Value).ownBlock ∧ some k_ ≠ (.slice Ao75 t576.length co75 : Value).ownBlock) (.slice Ao12 t538.length co12) t538) := ⟨(by rw [hw]; exact (by (with_reducible repeat (first | apply Kd.R_alloc | apply Kd.R_drewN | apply Kd.R_drew)); exact Kd.R_mono (Rf2_ (g := gb585) (Kd.R_types HO_3.out BK585.out (by decide))) (fun _ hk => by first | exact ⟨hk.1.1.1, ⟨hk.1.1.2, hk.1.2⟩⟩ | grind)))⟩; replace HO_4 : Aside0 (Kd.R k34 34 w80 w.heap.size (fun k_ => some k_ ≠ (u11 : Value).ownBlock ∧ k_ ≠ gb586) v544 t541) := ⟨(by rw [hw]; exact (by (with_reducible repeat (first | apply Kd.R_alloc | apply Kd.R_drewN | apply Kd.R_drew)); exact Kd.R_mono (Rf2_ (g := gb585) (Kd.R_types HO_4.out BK585.out (by decide))) (fun _ hk => by first | exact ⟨hk.1.1, hk.1.2⟩ | grind)))⟩; replace HO_11 : Aside0 (Kd.R k34 34 w80 w.heap.size (fun k_ => some k_ ≠ (v544 : Value).ownBlock ∧ k_ ≠ gb586) u11 x11_4) := ⟨(by rw [hw]; exact (by (with_reducible repeat (first | apply Kd.R_alloc | apply Kd.R_drewN | apply Kd.R_drew)); exact Kd.R_mono (Rf2_ (g := gb585) (Kd.R_types HO_11.out BK585.out (by decide))) (fun _ hk => by first | exact ⟨hk.1.1, hk.1.2⟩ | grind)))⟩; replace HO_12 : Aside0 (Kd.R (Kd.int .i64) 3 w80 w.heap.size (fun _ => True) (.slice (some ad563) y558.length co46) y558) := ⟨(by rw [hw]; exact (by (with_reducible repeat (first | apply Kd.R_alloc | apply Kd.R_drewN | apply Kd.R_drew)); exact Kd.R_mono (Rf2_ (g := gb585) (Kd.R_types HO_12.out BK585.out (by decide))) (fun _ hk => trivial)))⟩; replace HO_553000 : Aside0 (Kd.R (Kd.int .u8) 5 w80 w.heap.size (fun k_ => some k_ ≠ (.slice Ao12 t538.length co12 : Value).ownBlock ∧ some k_ ≠ (.slice Ao75 t576.length co75 : Value).ownBlock) (.slice Ao71 x553000_4.length co71) x553000_4) := ⟨(by rw [hw]; exact (by (with_reducible repeat (first | apply Kd.R_alloc | apply Kd.R_drewN | apply Kd.R_drew)); exact Kd.R_mono (Rf2_ (g := gb585) (Kd.R_types HO_553000.out BK585.out (by decide))) (fun _ hk => by first | exact ⟨hk.1.1.1, ⟨hk.1.1.2, hk.1.2⟩⟩ | grind)))⟩; replace HO_575000 : Aside0 (Kd.R (Kd.int .u8) 5 w80 w.heap.size (fun k_ => some k_ ≠ (.slice Ao12 t538.length co12 : Value).ownBlock ∧ some k_ ≠ (.slice Ao75 t576.length co75 : Value).ownBlock) (.slice Ao53 t569.length co53) t569) := ⟨(by rw [hw]; exact (by (with_reducible repeat (first | apply Kd.R_alloc | apply Kd.R_drewN | apply Kd.R_drew)); exact Kd.R_mono (Rf2_ (g := gb585) (Kd.R_types HO_575000.out BK585.out (by decide))) (fun _ hk => by first | exact ⟨hk.1.1.1, ⟨hk.1.1.2, hk.1.2⟩⟩ | grind)))⟩; replace HO578 : Aside0 (Kd.R (Kd.int .u8) 5 w80 w.heap.size (fun k_ => some k_ ≠ (.slice Ao12 t538.length co12 : Value).ownBlock ∧ some k_ ≠ (.slice Ao71 x553000_4.length co71 : Value).ownBlock ∧ some k_ ≠ (.slice Ao53 t569.length co53 : Value).ownBlock) (.slice Ao75 t576.length co75) t576) := ⟨(by rw [hw]; exact (by (with_reducible repeat (first | apply Kd.R_alloc | apply Kd.R_drewN | apply Kd.R_drew)); exact Kd.R_mono (Rf2_ (g := gb585) (Kd.R_types HO578.out BK585.out (by decide))) (fun _ hk => by first | exact ⟨hk.1.1.1.2, ⟨hk.1.1.2, hk.1.2⟩⟩ | grind)))⟩; replace BK552 : Aside0 (w80.heap[gb552]? = some (.cells #[.slice Ao71 x553000_4.length co71, .bool x553001_4] 47 (0, 0))) := ⟨(by rw [hw]; exact (uf_ BK552.out))⟩; replace BK574 : Aside0 (w80.heap[gb574]? = some (.cells #[.slice Ao53 t569.length co53, .bool t572] 47 (0, 0))) := ⟨(by rw [hw]; exact (uf_ BK574.out))⟩; replace BK585 : Aside0 (w80.heap[gb585]? = some (.cells #[.slice Ao75 t576.length co75, .bool t579] 47 (0, 0))) := ⟨(by rw [hw]; exact (by (with_reducible repeat first|apply bn_|apply bd_|apply ba_); apply bp2_; (with_reducible repeat first|apply bn_|apply bd_|apply ba_); exact BK585.out))⟩; replace BK586 : Aside0 (w80.heap[gb586]? = some (.cells #[.int .i64 0, .int .i64 0, .int .i64 0, .int .i64 0] 34 (0, 0))) := ⟨(by rw [hw]; exact (uf_ BK586.out))⟩; replace HB : Aside0 (Below w.heap.size w w80) := ⟨(by rw [hw]; exact (ue_ HB.out))⟩; clear hw; have hnb81 := NB586_552.out; have hnc81 := NB552_586.out; have hnb82 := NB586_574.out; have hnc82 := NB574_586.out; obtain ⟨hcz83_0, hcz83_1, hcz83_2, hcz83_3⟩ := cb4_ BK586.out; obtain ⟨hfz83_0, hfz83_1, hfz83_2⟩ := bf3_ BK586.out; have hfz83_3 := blk_frozen BK586.out 3) | ((with_reducible refine gate_store (t := 34) (p := 18) rfl ?_); refine st_ (w1 := ((((w80.setCell ⟨gb586, 0, none⟩ (.int .i64 t580)).setCell ⟨gb586, 1, none⟩ (.int .i64 t581)).setCell ⟨gb586, 2, none⟩ (.int .i64 t582)).setCell ⟨gb586, 3, none⟩ (.int .i64 t583))) ?_; intro w84 hw; replace HO_3 : Aside0 (Kd.R (Kd.int .u8) 5 w84 w.heap.size (fun k_ => some k_ ≠ (.slice Ao71 x553000_4.length co71 : Value).ownBlock ∧ some k_ ≠ (.slice Ao53 t569.length co53 : Value).ownBlock ∧ some k_ ≠ (.slice Ao75 t576.length co75 : Value).ownBlock) (.slice Ao12 t538.length co12) t538) := ⟨(by rw [hw]; exact (by (with_reducible repeat (first | apply Kd.R_alloc | apply Kd.R_drewN | apply Kd.R_drew)); exact Kd.R_mono (Rf4_ (g := gb586) (Kd.R_types HO_3.out BK586.out (by decide))) (fun _ hk => by first | exact ⟨hk.1.1, ⟨hk.1.2.1, hk.1.2.2⟩⟩ | grind)))⟩; replace HO_4 : Aside0 (Kd.R k34 34 w84 w.heap.size (fun k_ => some k_ ≠ (u11 : Value).ownBlock ∧ k_ ≠ gb586) v544 t541) := ⟨(by rw [hw]; exact (by (with_reducible repeat (first | apply Kd.R_alloc | apply Kd.R_drewN | apply Kd.R_drew)); exact Kd.R_mono (Rf4_ (g := gb586) (Kd.R_mono HO_4.out (fun k_ hk => (⟨hk, (by first | exact hk.2 | grind)⟩ : _ ∧ k_ ≠ gb586)))) (fun _ hk => by first | exact ⟨hk.1.1, hk.1.2⟩ | grind)))⟩; replace HO_11 : Aside0 (Kd.R k34 34 w84 w.heap.size (fun k_ => some k_ ≠ (v544 : Value).ownBlock ∧ k_ ≠ gb586) u11 x11_4) := ⟨(by rw [hw]; exact (by (with_reducible repeat (first | apply Kd.R_alloc | apply Kd.R_drewN | apply Kd.R_drew)); exact Kd.R_mono (Rf4_ (g := gb586) (Kd.R_mono HO_11.out (fun k_ hk => (⟨hk, (by first | exact hk.2 | grind)⟩ : _ ∧ k_ ≠ gb586)))) (fun _ hk => by first | exact ⟨hk.1.1, hk.1.2⟩ | grind)))⟩; replace HO_12 : Aside0 (Kd.R (Kd.int .i64) 3 w84 w.heap.size (fun _ => True) (.slice (some ad563) y558.length co46) y558) := ⟨(by rw [hw]; exact (by (with_reducible repeat (first | apply Kd.R_alloc | apply Kd.R_drewN | apply Kd.R_drew)); exact Kd.R_mono (Rf4_ (g := gb586) (Kd.R_types HO_12.out BK586.out (by decide))) (fun _ hk => trivial)))⟩; replace HO_553000 : Aside0 (Kd.R (Kd.int .u8) 5 w84 w.heap.size (fun k_ => some k_ ≠ (.slice Ao12 t538.length co12 : Value).ownBlock ∧ some k_ ≠ (.slice Ao75 t576.length co75 : Value).ownBlock) (.slice Ao71 x553000_4.length co71) x553000_4) := ⟨(by rw [hw]; exact (by (with_reducible repeat (first | apply Kd.R_alloc | apply Kd.R_drewN | apply Kd.R_drew)); exact Kd.R_mono (Rf4_ (g := gb586) (Kd.R_types HO_553000.out BK586.out (by decide))) (fun _ hk => by first | exact ⟨hk.1.1, ⟨hk.1.2.1, hk.1.2.2⟩⟩ | grind)))⟩; replace HO_575000 : Aside0 (Kd.R (Kd.int .u8) 5 w84 w.heap.size (fun k_ => some k_ ≠ (.slice Ao12 t538.length co12 : Value).ownBlock ∧ some k_ ≠ (.slice Ao75 t576.length co75 : Value).ownBlock) (.slice Ao53 t569.length co53) t569) := ⟨(by rw [hw]; exact (by (with_reducible repeat (first | apply Kd.R_alloc | apply Kd.R_drewN | apply Kd.R_drew)); exact Kd.R_mono (Rf4_ (g := gb586) (Kd.R_types HO_575000.out BK586.out (by decide))) (fun _ hk => by first | exact ⟨hk.1.1, ⟨hk.1.2.1, hk.1.2.2⟩⟩ | grind)))⟩; replace HO578 : Aside0 (Kd.R (Kd.int .u8) 5 w84 w.heap.size (fun k_ => some k_ ≠ (.slice Ao12 t538.length co12 : Value).ownBlock ∧ some k_ ≠ (.slice Ao71 x553000_4.length co71 : Value).ownBlock ∧ some k_ ≠ (.slice Ao53 t569.length co53 : Value).ownBlock) (.slice Ao75 t576.length co75) t576) := ⟨(by rw [hw]; exact (by (with_reducible repeat (first | apply Kd.R_alloc | apply Kd.R_drewN | apply Kd.R_drew)); exact Kd.R_mono (Rf4_ (g := gb586) (Kd.R_types HO578.out BK586.out (by decide))) (fun _ hk => by first | exact ⟨hk.1.1, ⟨hk.1.2.1, hk.1.2.2⟩⟩ | grind)))⟩; replace BK552 : Aside0 (w84.heap[gb552]? = some (.cells #[.slice Ao71 x553000_4.length co71, .bool x553001_4] 47 (0, 0))) := ⟨(by rw [hw]; exact (uf_ BK552.out))⟩; replace BK574 : Aside0 (w84.heap[gb574]? = some (.cells #[.slice Ao53 t569.length co53, .bool t572] 47 (0, 0))) := ⟨(by rw [hw]; exact (uf_ BK574.out))⟩; replace BK585 : Aside0 (w84.heap[gb585]? = some (.cells #[.slice Ao75 t576.length co75, .bool t579] 47 (0, 0))) := ⟨(by rw [hw]; exact (uf_ BK585.out))⟩; replace BK586 : Aside0 (w84.heap[gb586]? = some (.cells #[.int .i64 t580, .int .i64 t581, .int .i64 t582, .int .i64 t583] 34 (0, 0))) := ⟨(by rw [hw]; exact (by (with_reducible repeat first|apply bn_|apply bd_|apply ba_); apply bp4_; (with_reducible repeat first|apply bn_|apply bd_|apply ba_); exact BK586.out))⟩; replace HB : Aside0 (Below w.heap.size w w84) := ⟨(by rw [hw]; exact (ue_ HB.out))⟩; clear hw; obtain ⟨hcz85_0, hcz85_1⟩ := cb2_ BK585.out; obtain ⟨hfz85_0, hfz85_1⟩ := bf2_ BK585.out; obtain ⟨hcz86_0, hcz86_1⟩ := cb2_ BK552.out; have hfz86_0 := blk_frozen BK552.out 0; have hfz86_1 := blk_frozen BK552.out 1) | ((with_reducible refine gate_store (t := 47) (p := 10) rfl ?_); refine st_ (w1 := ((w84.setCell ⟨gb552, 0, none⟩ (.slice Ao75 t576.length co75)).setCell ⟨gb552, 1, none⟩ (.bool t579))) ?_; intro w87 hw; replace HO_3 : Aside0 (Kd.R (Kd.int .u8) 5 w87 w.heap.size (fun k_ => some k_ ≠ (.slice Ao71 x553000_4.length co71 : Value).ownBlock ∧ some k_ ≠ (.slice Ao53 t569.length co53 : Value).ownBlock ∧ some k_ ≠ (.slice Ao75 t576.length co75 : Value).ownBlock) (.slice Ao12 t538.length co12) t538) := ⟨(by rw [hw]; exact (by (with_reducible repeat (first | apply Kd.R_alloc | apply Kd.R_drewN | apply Kd.R_drew)); exact Kd.R_mono (Rf2_ (g := gb552) (Kd.R_types HO_3.out BK552.out (by decide))) (fun _ hk => by first | exact ⟨hk.1.1, ⟨hk.1.2.1, hk.1.2.2⟩⟩ | grind)))⟩; replace HO_4 : Aside0 (Kd.R k34 34 w87 w.heap.size (fun k_ => some k_ ≠ (u11 : Value).ownBlock ∧ k_ ≠ gb586) v544 t541) := ⟨(by rw [hw]; exact (by (with_reducible repeat (first | apply Kd.R_alloc | apply Kd.R_drewN | apply Kd.R_drew)); exact Kd.R_mono (Rf2_ (g := gb552) (Kd.R_types HO_4.out BK552.out (by decide))) (fun _ hk => by first | exact ⟨hk.1.1, hk.1.2⟩ | grind)))⟩; replace HO_11 : Aside0 (Kd.R k34 34 w87 w.heap.size (fun k_ => some k_ ≠ (v544 : Value).ownBlock ∧ k_ ≠ gb586) u11 x11_4) := ⟨(by rw [hw]; exact (by (with_reducible repeat (first | apply Kd.R_alloc | apply Kd.R_drewN | apply Kd.R_drew)); exact Kd.R_mono (Rf2_ (g := gb552) (Kd.R_types HO_11.out BK552.out (by decide))) (fun _ hk => by first | exact ⟨hk.1.1, hk.1.2⟩ | grind)))⟩; replace HO_12 : Aside0 (Kd.R (Kd.int .i64) 3 w87 w.heap.size (fun _ => True) (.slice (some ad563) y558.length co46) y558) := ⟨(by rw [hw]; exact (by (with_reducible repeat (first | apply Kd.R_alloc | apply Kd.R_drewN | apply Kd.R_drew)); exact Kd.R_mono (Rf2_ (g := gb552) (Kd.R_types HO_12.out BK552.out (by decide))) (fun _ hk => trivial)))⟩; replace HO_553000 : Aside0 (Kd.R (Kd.int .u8) 5 w87 w.heap.size (fun k_ => some k_ ≠ (.slice Ao12 t538.length co12 : Value).ownBlock ∧ some k_ ≠ (.slice Ao75 t576.length co75 : Value).ownBlock) (.slice Ao71 x553000_4.length co71) x553000_4) := ⟨(by rw [hw]; exact (by (with_reducible repeat (first | apply Kd.R_alloc | apply Kd.R_drewN | apply Kd.R_drew)); exact Kd.R_mono (Rf2_ (g := gb552) (Kd.R_types HO_553000.out BK552.out (by decide))) (fun _ hk => by first | exact ⟨hk.1.1, ⟨hk.1.2.1, hk.1.2.2⟩⟩ | grind)))⟩; replace HO_575000 : Aside0 (Kd.R (Kd.int .u8) 5 w87 w.heap.size (fun k_ => some k_ ≠ (.slice Ao12 t538.length co12 : Value).ownBlock ∧ some k_ ≠ (.slice Ao75 t576.length co75 : Value).ownBlock) (.slice Ao53 t569.length co53) t569) := ⟨(by rw [hw]; exact (by (with_reducible repeat (first | apply Kd.R_alloc | apply Kd.R_drewN | apply Kd.R_drew)); exact Kd.R_mono (Rf2_ (g := gb552) (Kd.R_types HO_575000.out BK552.out (by decide))) (fun _ hk => by first | exact ⟨hk.1.1, ⟨hk.1.2.1, hk.1.2.2⟩⟩ | grind)))⟩; replace HO578 : Aside0 (Kd.R (Kd.int .u8) 5 w87 w.heap.size (fun k_ => some k_ ≠ (.slice Ao12 t538.length co12 : Value).ownBlock ∧ some k_ ≠ (.slice Ao71 x553000_4.length co71 : Value).ownBlock ∧ some k_ ≠ (.slice Ao53 t569.length co53 : Value).ownBlock) (.slice Ao75 t576.length co75) t576) := ⟨(by rw [hw]; exact (by (with_reducible repeat (first | apply Kd.R_alloc | apply Kd.R_drewN | apply Kd.R_drew)); exact Kd.R_mono (Rf2_ (g := gb552) (Kd.R_types HO578.out BK552.out (by decide))) (fun _ hk => by first | exact ⟨hk.1.1, ⟨hk.1.2.1, hk.1.2.2⟩⟩ | grind)))⟩; replace BK552 : Aside0 (w87.heap[gb552]? = some (.cells #[.slice Ao75 t576.length co75, .bool t579] 47 (0, 0))) := ⟨(by rw [hw]; exact (by (with_reducible repeat first|apply bn_|apply bd_|apply ba_); apply bp2_; (with_reducible repeat first|apply bn_|apply bd_|apply ba_); exact BK552.out))⟩; replace BK574 : Aside0 (w87.heap[gb574]? = some (.cells #[.slice Ao53 t569.length co53, .bool t572] 47 (0, 0))) := ⟨(by rw [hw]; exact (uf_ BK574.out))⟩; replace BK585 : Aside0 (w87.heap[gb585]? = some (.cells #[.slice Ao75 t576.length co75, .bool t579] 47 (0, 0))) := ⟨(by rw [hw]; exact (uf_ BK585.out))⟩; replace BK586 : Aside0 (w87.heap[gb586]? = some (.cells #[.int .i64 t580, .int .i64 t581, .int .i64 t582, .int .i64 t583] 34 (0, 0))) := ⟨(by rw [hw]; exact (uf_ BK586.out))⟩; replace HB : Aside0 (Below w.heap.size w w87) := ⟨(by rw [hw]; exact (ue_ HB.out))⟩; clear hw; obtain ⟨hcz88_0, hcz88_1, hcz88_2, hcz88_3⟩ := cb4_ BK586.out; obtain ⟨hfz88_0, hfz88_1, hfz88_2⟩ := bf3_ BK586.out; have hfz88_3 := blk_frozen BK586.out 3) | ((with_reducible refine gate_builtin (b := .append) (xs := #[.tmp 112, .tmp 114]) rfl ?_); at_builtin; refine Kd.R_append k34 (w0 := w) w.heap.size rfl (.tmp 112) (.tmp 114) 42 34 (.agg #[(.int .i64 0), (.int .i64 0), (.int .i64 0), (.int .i64 0)]) 32 rfl Try.underlying42 info34 rfl (by decide) (by omega) u11 x11_4 (⟨t580, t581, t582, t583⟩ : S34) [.int .i64 t580, .int .i64 t581, .int .i64 t582, .int .i64 t583] (fun k_ => some k_ ≠ (v544 : Value).ownBlock ∧ k_ ≠ gb586) (fun _ => False) rfl rfl ?aP (fun _ hk => hk.elim) ?aF ?aO ?aB ?aS ?aL ?_; (case aP => exact k34_mkM _ _ _ (⟨t580, t581, t582, t583⟩ : S34)); (case aB => exact (ue_ HB.out)); (case aF => exact (fun k_ hk => ⟨Kd.fresh' (Kd.R_lt (ur_ HO_4.out)) k_ hk, Kd.freshB (g := gb586) (o := .cells #[.int .i64 t580, .int .i64 t581, .int .i64 t582, .int .i64 t583] 34 (0, 0)) (ub_ BK586.out) k_ hk⟩)); (case aO => exact (ur_ HO_11.out)); (case aS => exact (below_size (ue_ HB.out))); (case aL => have := LMc68.out; omega); intro v588 w89 ho hb hg hat; rw [← Ny587.out] at ho; replace HO_3 := am_ (Kd.R_over' (ur_ HO_3.out) (Kd.R_typed (ur_ HO_11.out)) (by decide) hg); replace HO_4 := am_ (Kd.R_after (ok := (fun k_ => k_ ≠ gb586)) (by (with_reducible repeat (first | apply Kd.R_alloc | apply Kd.R_drewN | apply Kd.R_drew)); exact Kd.R_mono HO_4.out (fun _ hk => by first | exact ⟨hk.2, hk.1⟩ | grind)) hg hat); replace HO_12 := am_ (Kd.R_over' (ur_ HO_12.out) (Kd.R_typed (ur_ HO_11.out)) (by decide) hg); replace HO_553000 := am_ (Kd.R_over' (ur_ HO_553000.out) (Kd.R_typed (ur_ HO_11.out)) (by decide) hg); replace HO_575000 := am_ (Kd.R_over' (ur_ HO_575000.out) (Kd.R_typed (ur_ HO_11.out)) (by decide) hg); replace BK552 := am_ (blk_grown (g := gb552) (o := .cells #[.slice Ao75 t576.length co75, .bool t579] 47 (0, 0)) (ub_ BK552.out) hg (Kd.R_ne HO_11.out BK552.out (by decide))); replace BK574 := am_ (blk_grown (g := gb574) (o := .cells #[.slice Ao53 t569.length co53, .bool t572] 47 (0, 0)) (ub_ BK574.out) hg (Kd.R_ne HO_11.out BK574.out (by decide))); replace HO578 := am_ (Kd.R_over' (ur_ HO578.out) (Kd.R_typed (ur_ HO_11.out)) (by decide) hg); replace BK585 := am_ (blk_grown (g := gb585) (o := .cells #[.slice Ao75 t576.length co75, .bool t579] 47 (0, 0)) (ub_ BK585.out) hg (Kd.R_ne HO_11.out BK585.out (by decide))); replace BK586 := am_ (blk_grown (g := gb586) (o := .cells #[.int .i64 t580, .int .i64 t581, .int .i64 t582, .int .i64 t583] 34 (0, 0)) (ub_ BK586.out) hg (Kd.R_away HO_11.out h2_)); replace HB := am_ (hb); have HO589 := am_ (ho); clear HO_11; clear ho hb hg hat))
                   go_roundg k4
                   case measure => have := HJ9.out; have := HK2.out; have := HJ44.out; have := HK4.out; omega
                   case rel => exact ⟨(y587), (t576), (t579), (.slice Ao75 t576.length co75), H', ⟨by have := HJ9.out; have := HK2.out; have := HJ44.out; have := HK4.out; omega⟩, ⟨by (with_reducible repeat (first | apply Kd.R_alloc | apply Kd.R_drewN | apply Kd.R_drew)); exact Kd.R_mono HO_3.out (fun _ hk => by first | exact ⟨hk.2.2, hk.2.1⟩ | grind)⟩, ⟨by (with_reducible repeat (first | apply Kd.R_alloc | apply Kd.R_drewN | apply Kd.R_drew)); exact Kd.R_mono HO_4.out h2_⟩, ⟨by (with_reducible repeat (first | apply Kd.R_alloc | apply Kd.R_drewN | apply Kd.R_drew)); exact Kd.R_mono HO589.out (fun _ hk => by first | exact hk.1 | grind)⟩, ⟨by (with_reducible repeat (first | apply Kd.R_alloc | apply Kd.R_drewN | apply Kd.R_drew)); exact HO_12.out⟩, ⟨by (with_reducible repeat (first | apply Kd.R_alloc | apply Kd.R_drewN | apply Kd.R_drew)); exact Kd.R_mono HO578.out (fun _ hk => by first | exact ⟨hk.1, hk.2.2⟩ | grind)⟩, ⟨by (with_reducible repeat (first | apply Kd.R_alloc | apply Kd.R_drewN | apply Kd.R_drew)); exact Kd.R_mono HO_575000.out (fun _ hk => by first | exact ⟨hk.1, hk.2.2⟩ | grind)⟩, ⟨by (with_reducible repeat first|apply bn_|apply bd_|apply ba_); exact BK552.out⟩, ⟨by (with_reducible repeat first|apply bn_|apply bd_|apply ba_); exact BK574.out⟩, ⟨ue_ HB.out⟩⟩
                  rw [if_neg c68] at H
                  exact absurd H (by simp)
                 rw [if_neg c67] at H
                 have c67b0 : (t584 == 0) = false := beq_eq_false_iff_ne.mpr c67
                 have c67b1 : (t584 != 0) = true := bne_iff_ne.mpr c67
                 have H' := Aside0.mk H
                 clear H
                 have hnb90 := NB552_574.out
                 have hnc90 := NB574_552.out
                 have hcz91_0 := cb_ BK552.out 0 rfl
                 have hcz91_1 := cb_ BK552.out 1 rfl
                 have hfz91_0 := blk_frozen BK552.out 0
                 have hfz91_1 := blk_frozen BK552.out 1
                 obtain ⟨Ao92, co92, eo92⟩ := Kd.R_slice HO_553000.out
                 subst eo92
                 go_wp2_with (first | ((with_reducible refine gate_callee (f := 20) rfl ?_); refine goesL_ (some 105) rfl rfl Try.func20 (by kernel_rfl) rfl #[.agg #[.slice Ao92 x553000_4.length co92, .bool x553001_4]] rfl ul_ ?_; (with_reducible refine (impl_TakeNext.calls k4 _ _ x553000_4 x553001_4 t576 t579 t580 t581 t582 t583 t584 _ ?side1 ?side2 A66.out).mono ?_); (case side1 => repeat (first | exact (Kd.R_reads' HO_553000.out).2.2 | (with_reducible refine Kd.C_alloc ?_ _) | (with_reducible refine Kd.C_drewN ?_ _) | (with_reducible refine Kd.C_drew ?_))); (case side2 => exact (Kd.R_reads' HO_553000.out).2.1); rintro e w93 ⟨v577, rfl, ho0, hb⟩; refine ⟨_, rfl, ?_⟩; replace HO_4 := am_ (Kd.R_below (ur_ HO_4.out) hb); replace HO_11 := am_ (Kd.R_below (ur_ HO_11.out) hb); replace HO_12 := am_ (Kd.R_below (ur_ HO_12.out) hb); have HO578 := am_ (Kd.R_lower (Kd.R_new' (Kd.R_new' (Kd.R_new' ho0 (Kd.R_lt (ur_ HO_3.out))) (Kd.R_lt (ur_ HO_553000.out))) (Kd.R_lt (ur_ HO_575000.out))) (below_size (ue_ HB.out))); replace HO_3 := am_ (Kd.R_elder' (ur_ HO_3.out) (Kd.R_base ho0) hb); replace HO_553000 := am_ (Kd.R_elder' (ur_ HO_553000.out) (Kd.R_base ho0) hb); replace HO_575000 := am_ (Kd.R_elder' (ur_ HO_575000.out) (Kd.R_base ho0) hb); replace BK552 := am_ (bb_ BK552.out hb); replace BK574 := am_ (bb_ BK574.out hb); replace HB := am_ (below_step (ue_ HB.out) hb); (try clear hb); (try clear hb2); (try clear hk); (try clear hi); (try clear ho0)) | ((with_reducible refine gate_dst (N := 17) rfl ?_); refine bx_ (N := 17) (cs := #[.slice none 0 0, .bool false]) (t := 47) ?_; intro gb585 hg w94 hbox hb; replace HO_3 := am_ (Kd.R_below (ur_ HO_3.out) hb); replace HO_4 := am_ (Kd.R_below (ur_ HO_4.out) hb); replace HO_11 := am_ (Kd.R_below (ur_ HO_11.out) hb); replace HO_12 := am_ (Kd.R_below (ur_ HO_12.out) hb); replace HO_553000 := am_ (Kd.R_below (ur_ HO_553000.out) hb); replace HO_575000 := am_ (Kd.R_below (ur_ HO_575000.out) hb); replace HO578 := am_ (Kd.R_below (ur_ HO578.out) hb); have BK585 := am_ (hbox); have GW585 := am_ ((by rw [hg]; exact (below_size (ue_ HB.out)) : w.heap.size ≤ gb585)); have GE585 := am_ ((by rw [hg]; exact (below_size (ue_ HB.out)) : w.heap.size ≤ gb585)); replace HB := am_ (below_step (ue_ HB.out) hb); have NB552_585 := am_ ((by rw [hg]; exact Nat.ne_of_lt (bl_ BK552.out) : gb552 ≠ gb585)); have NB585_552 := am_ ((by rw [hg]; exact Nat.ne_of_gt (bl_ BK552.out) : gb585 ≠ gb552)); replace BK552 := am_ (bb_ BK552.out hb); have NB574_585 := am_ ((by rw [hg]; exact Nat.ne_of_lt (bl_ BK574.out) : gb574 ≠ gb585)); have NB585_574 := am_ ((by rw [hg]; exact Nat.ne_of_gt (bl_ BK574.out) : gb585 ≠ gb574)); replace BK574 := am_ (bb_ BK574.out hb); clear hb hbox hg) | ((with_reducible refine gate_dst (N := 18) rfl ?_); refine bx_ (N := 18) (cs := #[.int .i64 0, .int .i64 0, .int .i64 0, .int .i64 0]) (t := 34) ?_; intro gb586 hg w95 hbox hb; replace HO_3 := am_ (Kd.R_below (ur_ HO_3.out) hb); replace HO_4 := am_ (Kd.R_below (Kd.R_elderB (ur_ HO_4.out) gb586 (Nat.le_of_eq hg.symm)) hb); replace HO_11 := am_ (Kd.R_below (Kd.R_elderB (ur_ HO_11.out) gb586 (Nat.le_of_eq hg.symm)) hb); replace HO_12 := am_ (Kd.R_below (ur_ HO_12.out) hb); replace HO_553000 := am_ (Kd.R_below (ur_ HO_553000.out) hb); replace HO_575000 := am_ (Kd.R_below (ur_ HO_575000.out) hb); replace HO578 := am_ (Kd.R_below (ur_ HO578.out) hb); have BK586 := am_ (hbox); have GW586 := am_ ((by rw [hg]; exact (below_size (ue_ HB.out)) : w.heap.size ≤ gb586)); have GE586 := am_ ((by rw [hg]; exact (below_size (ue_ HB.out)) : w.heap.size ≤ gb586)); replace HB := am_ (below_step (ue_ HB.out) hb); have NB552_586 := am_ ((by rw [hg]; exact Nat.ne_of_lt (bl_ BK552.out) : gb552 ≠ gb586)); have NB586_552 := am_ ((by rw [hg]; exact Nat.ne_of_gt (bl_ BK552.out) : gb586 ≠ gb552)); replace BK552 := am_ (bb_ BK552.out hb); have NB574_586 := am_ ((by rw [hg]; exact Nat.ne_of_lt (bl_ BK574.out) : gb574 ≠ gb586)); have NB586_574 := am_ ((by rw [hg]; exact Nat.ne_of_gt (bl_ BK574.out) : gb586 ≠ gb574)); replace BK574 := am_ (bb_ BK574.out hb); have NB585_586 := am_ ((by rw [hg]; exact Nat.ne_of_lt (bl_ BK585.out) : gb585 ≠ gb586)); have NB586_585 := am_ ((by rw [hg]; exact Nat.ne_of_gt (bl_ BK585.out) : gb586 ≠ gb585)); replace BK585 := am_ (bb_ BK585.out hb); clear hb hbox hg; obtain ⟨Ao96, co96, eo96⟩ := Kd.R_slice HO578.out; subst eo96; have hnb97 := NB585_552.out; have hnc97 := NB552_585.out; have hnb98 := NB585_574.out; have hnc98 := NB574_585.out; have hnb99 := NB585_586.out; have hnc99 := NB586_585.out; obtain ⟨hcz100_0, hcz100_1⟩ := cb2_ BK585.out; have hfz100_0 := blk_frozen BK585.out 0; have hfz100_1 := blk_frozen BK585.out 1) | ((with_reducible refine gate_store (t := 47) (p := 17) rfl ?_); refine st_ (w1 := ((w95.setCell ⟨gb585, 0, none⟩ (.slice Ao96 t576.length co96)).setCell ⟨gb585, 1, none⟩ (.bool t579))) ?_; intro w101 hw; replace HO_3 : Aside0 (Kd.R (Kd.int .u8) 5 w101 w.heap.size (fun k_ => some k_ ≠ (.slice Ao92 x553000_4.length co92 : Value).ownBlock ∧ some k_ ≠ (.slice Ao53 t569.length co53 : Value).ownBlock ∧ some k_ ≠ (.slice Ao96 t576.length co96 : Value).ownBlock) (.slice Ao12 t538.length co12) t538) := ⟨(by rw [hw]; exact (by (with_reducible repeat (first | apply Kd.R_alloc | apply Kd.R_drewN | apply Kd.R_drew)); exact Kd.R_mono (Rf2_ (g := gb585) (Kd.R_types HO_3.out BK585.out (by decide))) (fun _ hk => by first | exact ⟨hk.1.1.1, ⟨hk.1.1.2, hk.1.2⟩⟩ | grind)))⟩; replace HO_4 : Aside0 (Kd.R k34 34 w101 w.heap.size (fun k_ => some k_ ≠ (u11 : Value).ownBlock ∧ k_ ≠ gb586) v544 t541) := ⟨(by rw [hw]; exact (by (with_reducible repeat (first | apply Kd.R_alloc | apply Kd.R_drewN | apply Kd.R_drew)); exact Kd.R_mono (Rf2_ (g := gb585) (Kd.R_types HO_4.out BK585.out (by decide))) (fun _ hk => by first | exact ⟨hk.1.1, hk.1.2⟩ | grind)))⟩; replace HO_11 : Aside0 (Kd.R k34 34 w101 w.heap.size (fun k_ => some k_ ≠ (v544 : Value).ownBlock ∧ k_ ≠ gb586) u11 x11_4) := ⟨(by rw [hw]; exact (by (with_reducible repeat (first | apply Kd.R_alloc | apply Kd.R_drewN | apply Kd.R_drew)); exact Kd.R_mono (Rf2_ (g := gb585) (Kd.R_types HO_11.out BK585.out (by decide))) (fun _ hk => by first | exact ⟨hk.1.1, hk.1.2⟩ | grind)))⟩; replace HO_12 : Aside0 (Kd.R (Kd.int .i64) 3 w101 w.heap.size (fun _ => True) (.slice (some ad563) y558.length co46) y558) := ⟨(by rw [hw]; exact (by (with_reducible repeat (first | apply Kd.R_alloc | apply Kd.R_drewN | apply Kd.R_drew)); exact Kd.R_mono (Rf2_ (g := gb585) (Kd.R_types HO_12.out BK585.out (by decide))) (fun _ hk => trivial)))⟩; replace HO_553000 : Aside0 (Kd.R (Kd.int .u8) 5 w101 w.heap.size (fun k_ => some k_ ≠ (.slice Ao12 t538.length co12 : Value).ownBlock ∧ some k_ ≠ (.slice Ao96 t576.length co96 : Value).ownBlock) (.slice Ao92 x553000_4.length co92) x553000_4) := ⟨(by rw [hw]; exact (by (with_reducible repeat (first | apply Kd.R_alloc | apply Kd.R_drewN | apply Kd.R_drew)); exact Kd.R_mono (Rf2_ (g := gb585) (Kd.R_types HO_553000.out BK585.out (by decide))) (fun _ hk => by first | exact ⟨hk.1.1.1, ⟨hk.1.1.2, hk.1.2⟩⟩ | grind)))⟩; replace HO_575000 : Aside0 (Kd.R (Kd.int .u8) 5 w101 w.heap.size (fun k_ => some k_ ≠ (.slice Ao12 t538.length co12 : Value).ownBlock ∧ some k_ ≠ (.slice Ao96 t576.length co96 : Value).ownBlock) (.slice Ao53 t569.length co53) t569) := ⟨(by rw [hw]; exact (by (with_reducible repeat (first | apply Kd.R_alloc | apply Kd.R_drewN | apply Kd.R_drew)); exact Kd.R_mono (Rf2_ (g := gb585) (Kd.R_types HO_575000.out BK585.out (by decide))) (fun _ hk => by first | exact ⟨hk.1.1.1, ⟨hk.1.1.2, hk.1.2⟩⟩ | grind)))⟩; replace HO578 : Aside0 (Kd.R (Kd.int .u8) 5 w101 w.heap.size (fun k_ => some k_ ≠ (.slice Ao12 t538.length co12 : Value).ownBlock ∧ some k_ ≠ (.slice Ao92 x553000_4.length co92 : Value).ownBlock ∧ some k_ ≠ (.slice Ao53 t569.length co53 : Value).ownBlock) (.slice Ao96 t576.length co96) t576) := ⟨(by rw [hw]; exact (by (with_reducible repeat (first | apply Kd.R_alloc | apply Kd.R_drewN | apply Kd.R_drew)); exact Kd.R_mono (Rf2_ (g := gb585) (Kd.R_types HO578.out BK585.out (by decide))) (fun _ hk => by first | exact ⟨hk.1.1.1.2, ⟨hk.1.1.2, hk.1.2⟩⟩ | grind)))⟩; replace BK552 : Aside0 (w101.heap[gb552]? = some (.cells #[.slice Ao92 x553000_4.length co92, .bool x553001_4] 47 (0, 0))) := ⟨(by rw [hw]; exact (uf_ BK552.out))⟩; replace BK574 : Aside0 (w101.heap[gb574]? = some (.cells #[.slice Ao53 t569.length co53, .bool t572] 47 (0, 0))) := ⟨(by rw [hw]; exact (uf_ BK574.out))⟩; replace BK585 : Aside0 (w101.heap[gb585]? = some (.cells #[.slice Ao96 t576.length co96, .bool t579] 47 (0, 0))) := ⟨(by rw [hw]; exact (by (with_reducible repeat first|apply bn_|apply bd_|apply ba_); apply bp2_; (with_reducible repeat first|apply bn_|apply bd_|apply ba_); exact BK585.out))⟩; replace BK586 : Aside0 (w101.heap[gb586]? = some (.cells #[.int .i64 0, .int .i64 0, .int .i64 0, .int .i64 0] 34 (0, 0))) := ⟨(by rw [hw]; exact (uf_ BK586.out))⟩; replace HB : Aside0 (Below w.heap.size w w101) := ⟨(by rw [hw]; exact (ue_ HB.out))⟩; clear hw; have hnb102 := NB586_552.out; have hnc102 := NB552_586.out; have hnb103 := NB586_574.out; have hnc103 := NB574_586.out; obtain ⟨hcz104_0, hcz104_1, hcz104_2, hcz104_3⟩ := cb4_ BK586.out; obtain ⟨hfz104_0, hfz104_1, hfz104_2⟩ := bf3_ BK586.out; have hfz104_3 := blk_frozen BK586.out 3) | ((with_reducible refine gate_store (t := 34) (p := 18) rfl ?_); refine st_ (w1 := ((((w101.setCell ⟨gb586, 0, none⟩ (.int .i64 t580)).setCell ⟨gb586, 1, none⟩ (.int .i64 t581)).setCell ⟨gb586, 2, none⟩ (.int .i64 t582)).setCell ⟨gb586, 3, none⟩ (.int .i64 t583))) ?_; intro w105 hw; replace HO_3 : Aside0 (Kd.R (Kd.int .u8) 5 w105 w.heap.size (fun k_ => some k_ ≠ (.slice Ao92 x553000_4.length co92 : Value).ownBlock ∧ some k_ ≠ (.slice Ao53 t569.length co53 : Value).ownBlock ∧ some k_ ≠ (.slice Ao96 t576.length co96 : Value).ownBlock) (.slice Ao12 t538.length co12) t538) := ⟨(by rw [hw]; exact (by (with_reducible repeat (first | apply Kd.R_alloc | apply Kd.R_drewN | apply Kd.R_drew)); exact Kd.R_mono (Rf4_ (g := gb586) (Kd.R_types HO_3.out BK586.out (by decide))) (fun _ hk => by first | exact ⟨hk.1.1, ⟨hk.1.2.1, hk.1.2.2⟩⟩ | grind)))⟩; replace HO_4 : Aside0 (Kd.R k34 34 w105 w.heap.size (fun k_ => some k_ ≠ (u11 : Value).ownBlock ∧ k_ ≠ gb586) v544 t541) := ⟨(by rw [hw]; exact (by (with_reducible repeat (first | apply Kd.R_alloc | apply Kd.R_drewN | apply Kd.R_drew)); exact Kd.R_mono (Rf4_ (g := gb586) (Kd.R_mono HO_4.out (fun k_ hk => (⟨hk, (by first | exact hk.2 | grind)⟩ : _ ∧ k_ ≠ gb586)))) (fun _ hk => by first | exact ⟨hk.1.1, hk.1.2⟩ | grind)))⟩; replace HO_11 : Aside0 (Kd.R k34 34 w105 w.heap.size (fun k_ => some k_ ≠ (v544 : Value).ownBlock ∧ k_ ≠ gb586) u11 x11_4) := ⟨(by rw [hw]; exact (by (with_reducible repeat (first | apply Kd.R_alloc | apply Kd.R_drewN | apply Kd.R_drew)); exact Kd.R_mono (Rf4_ (g := gb586) (Kd.R_mono HO_11.out (fun k_ hk => (⟨hk, (by first | exact hk.2 | grind)⟩ : _ ∧ k_ ≠ gb586)))) (fun _ hk => by first | exact ⟨hk.1.1, hk.1.2⟩ | grind)))⟩; replace HO_12 : Aside0 (Kd.R (Kd.int .i64) 3 w105 w.heap.size (fun _ => True) (.slice (some ad563) y558.length co46) y558) := ⟨(by rw [hw]; exact (by (with_reducible repeat (first | apply Kd.R_alloc | apply Kd.R_drewN | apply Kd.R_drew)); exact Kd.R_mono (Rf4_ (g := gb586) (Kd.R_types HO_12.out BK586.out (by decide))) (fun _ hk => trivial)))⟩; replace HO_553000 : Aside0 (Kd.R (Kd.int .u8) 5 w105 w.heap.size (fun k_ => some k_ ≠ (.slice Ao12 t538.length co12 : Value).ownBlock ∧ some k_ ≠ (.slice Ao96 t576.length co96 : Value).ownBlock) (.slice Ao92 x553000_4.length co92) x553000_4) := ⟨(by rw [hw]; exact (by (with_reducible repeat (first | apply Kd.R_alloc | apply Kd.R_drewN | apply Kd.R_drew)); exact Kd.R_mono (Rf4_ (g := gb586) (Kd.R_types HO_553000.out BK586.out (by decide))) (fun _ hk => by first | exact ⟨hk.1.1, ⟨hk.1.2.1, hk.1.2.2⟩⟩ | grind)))⟩; replace HO_575000 : Aside0 (Kd.R (Kd.int .u8) 5 w105 w.heap.size (fun k_ => some k_ ≠ (.slice Ao12 t538.length co12 : Value).ownBlock ∧ some k_ ≠ (.slice Ao96 t576.length co96 : Value).ownBlock) (.slice Ao53 t569.length co53) t569) := ⟨(by rw [hw]; exact (by (with_reducible repeat (first | apply Kd.R_alloc | apply Kd.R_drewN | apply Kd.R_drew)); exact Kd.R_mono (Rf4_ (g := gb586) (Kd.R_types HO_575000.out BK586.out (by decide))) (fun _ hk => by first | exact ⟨hk.1.1, ⟨hk.1.2.1, hk.1.2.2⟩⟩ | grind)))⟩; replace HO578 : Aside0 (Kd.R (Kd.int .u8) 5 w105 w.heap.size (fun k_ => some k_ ≠ (.slice Ao12 t538.length co12 : Value).ownBlock ∧ some k_ ≠ (.slice Ao92 x553000_4.length co92 : Value).ownBlock ∧ some k_ ≠ (.slice Ao53 t569.length co53 : Value).ownBlock) (.slice Ao96 t576.length co96) t576) := ⟨(by rw [hw]; exact (by (with_reducible repeat (first | apply Kd.R_alloc | apply Kd.R_drewN | apply Kd.R_drew)); exact Kd.R_mono (Rf4_ (g := gb586) (Kd.R_types HO578.out BK586.out (by decide))) (fun _ hk => by first | exact ⟨hk.1.1, ⟨hk.1.2.1, hk.1.2.2⟩⟩ | grind)))⟩; replace BK552 : Aside0 (w105.heap[gb552]? = some (.cells #[.slice Ao92 x553000_4.length co92, .bool x553001_4] 47 (0, 0))) := ⟨(by rw [hw]; exact (uf_ BK552.out))⟩; replace BK574 : Aside0 (w105.heap[gb574]? = some (.cells #[.slice Ao53 t569.length co53, .bool t572] 47 (0, 0))) := ⟨(by rw [hw]; exact (uf_ BK574.out))⟩; replace BK585 : Aside0 (w105.heap[gb585]? = some (.cells #[.slice Ao96 t576.length co96, .bool t579] 47 (0, 0))) := ⟨(by rw [hw]; exact (uf_ BK585.out))⟩; replace BK586 : Aside0 (w105.heap[gb586]? = some (.cells #[.int .i64 t580, .int .i64 t581, .int .i64 t582, .int .i64 t583] 34 (0, 0))) := ⟨(by rw [hw]; exact (by (with_reducible repeat first|apply bn_|apply bd_|apply ba_); apply bp4_; (with_reducible repeat first|apply bn_|apply bd_|apply ba_); exact BK586.out))⟩; replace HB : Aside0 (Below w.heap.size w w105) := ⟨(by rw [hw]; exact (ue_ HB.out))⟩; clear hw; obtain ⟨hcz106_0, hcz106_1⟩ := cb2_ BK585.out; obtain ⟨hfz106_0, hfz106_1⟩ := bf2_ BK585.out; obtain ⟨hcz107_0, hcz107_1⟩ := cb2_ BK552.out; have hfz107_0 := blk_frozen BK552.out 0; have hfz107_1 := blk_frozen BK552.out 1) | ((with_reducible refine gate_store (t := 47) (p := 10) rfl ?_); refine st_ (w1 := ((w105.setCell ⟨gb552, 0, none⟩ (.slice Ao96 t576.length co96)).setCell ⟨gb552, 1, none⟩ (.bool t579))) ?_; intro w108 hw; replace HO_3 : Aside0 (Kd.R (Kd.int .u8) 5 w108 w.heap.size (fun k_ => some k_ ≠ (.slice Ao92 x553000_4.length co92 : Value).ownBlock ∧ some k_ ≠ (.slice Ao53 t569.length co53 : Value).ownBlock ∧ some k_ ≠ (.slice Ao96 t576.length co96 : Value).ownBlock) (.slice Ao12 t538.length co12) t538) := ⟨(by rw [hw]; exact (by (with_reducible repeat (first | apply Kd.R_alloc | apply Kd.R_drewN | apply Kd.R_drew)); exact Kd.R_mono (Rf2_ (g := gb552) (Kd.R_types HO_3.out BK552.out (by decide))) (fun _ hk => by first | exact ⟨hk.1.1, ⟨hk.1.2.1, hk.1.2.2⟩⟩ | grind)))⟩; replace HO_4 : Aside0 (Kd.R k34 34 w108 w.heap.size (fun k_ => some k_ ≠ (u11 : Value).ownBlock ∧ k_ ≠ gb586) v544 t541) := ⟨(by rw [hw]; exact (by (with_reducible repeat (first | apply Kd.R_alloc | apply Kd.R_drewN | apply Kd.R_drew)); exact Kd.R_mono (Rf2_ (g := gb552) (Kd.R_types HO_4.out BK552.out (by decide))) (fun _ hk => by first | exact ⟨hk.1.1, hk.1.2⟩ | grind)))⟩; replace HO_11 : Aside0 (Kd.R k34 34 w108 w.heap.size (fun k_ => some k_ ≠ (v544 : Value).ownBlock ∧ k_ ≠ gb586) u11 x11_4) := ⟨(by rw [hw]; exact (by (with_reducible repeat (first | apply Kd.R_alloc | apply Kd.R_drewN | apply Kd.R_drew)); exact Kd.R_mono (Rf2_ (g := gb552) (Kd.R_types HO_11.out BK552.out (by decide))) (fun _ hk => by first | exact ⟨hk.1.1, hk.1.2⟩ | grind)))⟩; replace HO_12 : Aside0 (Kd.R (Kd.int .i64) 3 w108 w.heap.size (fun _ => True) (.slice (some ad563) y558.length co46) y558) := ⟨(by rw [hw]; exact (by (with_reducible repeat (first | apply Kd.R_alloc | apply Kd.R_drewN | apply Kd.R_drew)); exact Kd.R_mono (Rf2_ (g := gb552) (Kd.R_types HO_12.out BK552.out (by decide))) (fun _ hk => trivial)))⟩; replace HO_553000 : Aside0 (Kd.R (Kd.int .u8) 5 w108 w.heap.size (fun k_ => some k_ ≠ (.slice Ao12 t538.length co12 : Value).ownBlock ∧ some k_ ≠ (.slice Ao96 t576.length co96 : Value).ownBlock) (.slice Ao92 x553000_4.length co92) x553000_4) := ⟨(by rw [hw]; exact (by (with_reducible repeat (first | apply Kd.R_alloc | apply Kd.R_drewN | apply Kd.R_drew)); exact Kd.R_mono (Rf2_ (g := gb552) (Kd.R_types HO_553000.out BK552.out (by decide))) (fun _ hk => by first | exact ⟨hk.1.1, ⟨hk.1.2.1, hk.1.2.2⟩⟩ | grind)))⟩; replace HO_575000 : Aside0 (Kd.R (Kd.int .u8) 5 w108 w.heap.size (fun k_ => some k_ ≠ (.slice Ao12 t538.length co12 : Value).ownBlock ∧ some k_ ≠ (.slice Ao96 t576.length co96 : Value).ownBlock) (.slice Ao53 t569.length co53) t569) := ⟨(by rw [hw]; exact (by (with_reducible repeat (first | apply Kd.R_alloc | apply Kd.R_drewN | apply Kd.R_drew)); exact Kd.R_mono (Rf2_ (g := gb552) (Kd.R_types HO_575000.out BK552.out (by decide))) (fun _ hk => by first | exact ⟨hk.1.1, ⟨hk.1.2.1, hk.1.2.2⟩⟩ | grind)))⟩; replace HO578 : Aside0 (Kd.R (Kd.int .u8) 5 w108 w.heap.size (fun k_ => some k_ ≠ (.slice Ao12 t538.length co12 : Value).ownBlock ∧ some k_ ≠ (.slice Ao92 x553000_4.length co92 : Value).ownBlock ∧ some k_ ≠ (.slice Ao53 t569.length co53 : Value).ownBlock) (.slice Ao96 t576.length co96) t576) := ⟨(by rw [hw]; exact (by (with_reducible repeat (first | apply Kd.R_alloc | apply Kd.R_drewN | apply Kd.R_drew)); exact Kd.R_mono (Rf2_ (g := gb552) (Kd.R_types HO578.out BK552.out (by decide))) (fun _ hk => by first | exact ⟨hk.1.1, ⟨hk.1.2.1, hk.1.2.2⟩⟩ | grind)))⟩; replace BK552 : Aside0 (w108.heap[gb552]? = some (.cells #[.slice Ao96 t576.length co96, .bool t579] 47 (0, 0))) := ⟨(by rw [hw]; exact (by (with_reducible repeat first|apply bn_|apply bd_|apply ba_); apply bp2_; (with_reducible repeat first|apply bn_|apply bd_|apply ba_); exact BK552.out))⟩; replace BK574 : Aside0 (w108.heap[gb574]? = some (.cells #[.slice Ao53 t569.length co53, .bool t572] 47 (0, 0))) := ⟨(by rw [hw]; exact (uf_ BK574.out))⟩; replace BK585 : Aside0 (w108.heap[gb585]? = some (.cells #[.slice Ao96 t576.length co96, .bool t579] 47 (0, 0))) := ⟨(by rw [hw]; exact (uf_ BK585.out))⟩; replace BK586 : Aside0 (w108.heap[gb586]? = some (.cells #[.int .i64 t580, .int .i64 t581, .int .i64 t582, .int .i64 t583] 34 (0, 0))) := ⟨(by rw [hw]; exact (uf_ BK586.out))⟩; replace HB : Aside0 (Below w.heap.size w w108) := ⟨(by rw [hw]; exact (ue_ HB.out))⟩; clear hw))
                 go_roundg k4
                 case measure => have := HJ9.out; have := HK2.out; have := HJ44.out; have := HK4.out; omega
                 case rel => exact ⟨(x11_4), ((rd y558 x14_2)), (wrap64 (x14_2 + 1)), (t576), (t579), (.slice Ao96 t576.length co96), (by first | rfl | (simp; done) | (simp [*]; done)), (by first | rfl | (simp; done) | (simp [*]; done)), H', ⟨by have := HJ9.out; have := HK2.out; have := HJ44.out; have := HK4.out; omega⟩, ⟨by (with_reducible repeat (first | apply Kd.R_alloc | apply Kd.R_drewN | apply Kd.R_drew)); exact Kd.R_mono HO_3.out (fun _ hk => by first | exact hk.2.2 | grind)⟩, ⟨by (with_reducible repeat (first | apply Kd.R_alloc | apply Kd.R_drewN | apply Kd.R_drew)); exact Kd.R_mono HO_4.out (fun _ hk => by first | exact hk.1 | grind)⟩, ⟨by (with_reducible repeat (first | apply Kd.R_alloc | apply Kd.R_drewN | apply Kd.R_drew)); exact Kd.R_mono HO_11.out (fun _ hk => by first | exact hk.1 | grind)⟩, ⟨by (with_reducible repeat (first | apply Kd.R_alloc | apply Kd.R_drewN | apply Kd.R_drew)); exact HO_12.out⟩, ⟨by (with_reducible repeat (first | apply Kd.R_alloc | apply Kd.R_drewN | apply Kd.R_drew)); exact Kd.R_mono HO578.out (fun _ hk => by first | exact hk.1 | grind)⟩, ⟨by (with_reducible repeat first|apply bn_|apply bd_|apply ba_); exact BK552.out⟩, ⟨ue_ HB.out⟩⟩
              rw [if_neg c65] at H
              exact absurd H (by simp)
             rw [if_neg c64] at H
             exact absurd H (by simp)
          rw [if_neg c43] at H
          exact absurd H (by simp)
         rw [if_neg c42] at H
         exact absurd H (by simp)
        rw [if_neg c41] at H
        exact absurd H (by simp)
       rw [if_neg c38] at H
       exact absurd H (by simp)
      rw [if_neg c37] at H
      exact absurd H (by simp)
     rw [if_neg c36] at H
     have c36b0 : decide (x14_2 < 3) = false := decide_eq_false c36
     clear c36
     replace H := Option.bind_eq_some_iff.mp H
     obtain ⟨t561, A1090, H⟩ := H
     replace H : (if t561 = true then (if (x553001_2 == t543) = true then ((spec_DecoderOk.f x553000_2 x553001_2).bind fun t562 => (some t562)) else (some false)) else (some false)) = some r := H
     have A109 := Aside0.mk A1090
     clear A1090
     by_cases c110 : t561 = true
     ·
      subst c110
      have H1 : (if (x553001_2 == t543) = true then ((spec_DecoderOk.f x553000_2 x553001_2).bind fun t562 => (some t562)) else (some false)) = some r := by rw [if_pos rfl] at H; exact H
      clear H
      have H := H1
      clear H1
      by_cases c111 : (x553001_2 == t543) = true
      ·
       rw [if_pos c111] at H
       have c111b0 : (x553001_2 == t543) = true := c111
       (try (have c111b1 : decide (x553001_2 = t543) = true := by simpa using c111))
       (try (have c111b2 : (x553001_2 == t543) = true := by simpa using c111))
       clear c111
       replace H := Option.bind_eq_some_iff.mp H
       obtain ⟨t562, A1120, H⟩ := H
       replace H : (some t562) = some r := H
       have A112 := Aside0.mk A1120
       clear A1120
       obtain rfl := Option.some.inj H
       obtain ⟨Ao113, co113, eo113⟩ := Kd.R_slice HO_11.out
       subst eo113
       obtain ⟨Ao114, co114, eo114⟩ := Kd.R_slice HO_4.out
       subst eo114
       go_wp2_with (first | ((with_reducible refine gate_callee (f := 17) rfl ?_); refine goesL_ (some 118) rfl rfl Try.func17 (by kernel_rfl) rfl #[.slice Ao113 x11_2.length co113, .slice Ao114 t541.length co114] rfl ul_ ?_; (with_reducible refine (laws_sameFrames.calls k2 _ _ x11_2 _ _ t541 true _ ?side1 ?side2 ?side3 ?side4 A109.out).mono ?_); (case side1 => repeat (first | exact (Kd.R_reads' HO_11.out).2.2 | (with_reducible refine Kd.C_alloc ?_ _) | (with_reducible refine Kd.C_drewN ?_ _) | (with_reducible refine Kd.C_drew ?_))); (case side2 => exact (Kd.R_reads' HO_11.out).2.1); (case side3 => repeat (first | exact (Kd.R_reads' HO_4.out).2.2 | (with_reducible refine Kd.C_alloc ?_ _) | (with_reducible refine Kd.C_drewN ?_ _) | (with_reducible refine Kd.C_drew ?_))); (case side4 => exact (Kd.R_reads' HO_4.out).2.1); rintro e w' ⟨rfl, ⟨nd, rfl⟩⟩; refine ⟨_, rfl, ?_⟩; obtain ⟨hcz115_0, hcz115_1⟩ := cb2_ BK552.out; obtain ⟨hfz115_0, hfz115_1⟩ := bf2_ BK552.out; obtain ⟨Ao116, co116, eo116⟩ := Kd.R_slice HO_553000.out; subst eo116) | (go_at_call 21; (with_reducible refine (spec_DecoderOk.calls _ _ x553000_2 x553001_2 t562 _ ?side1 ?side2 A112.out).mono ?_); (case side1 => repeat (first | exact (Kd.R_reads' HO_553000.out).2.2 | (with_reducible refine Kd.C_alloc ?_ _) | (with_reducible refine Kd.C_drewN ?_ _) | (with_reducible refine Kd.C_drew ?_))); (case side2 => exact (Kd.R_reads' HO_553000.out).2.1); rintro e w117 ⟨rfl, hb⟩; replace HO_3 := am_ (Kd.R_below (ur_ HO_3.out) hb); replace HO_4 := am_ (Kd.R_below (ur_ HO_4.out) hb); replace HO_11 := am_ (Kd.R_below (ur_ HO_11.out) hb); replace HO_12 := am_ (Kd.R_below (ur_ HO_12.out) hb); replace HO_553000 := am_ (Kd.R_below (ur_ HO_553000.out) hb); replace BK552 := am_ (bb_ BK552.out hb); replace HB := am_ (below_step (ue_ HB.out) hb); (try clear hb); (try clear hb2); (try clear hk); (try clear hi)))
       go_ret
       exact ⟨ew_, ue_ HB.out⟩
      rw [if_neg c111] at H
      have c111b0 : (x553001_2 == t543) = false := by simpa using c111
      (try (have c111b1 : decide (x553001_2 = t543) = false := by simpa using c111))
      (try (have c111b2 : (x553001_2 == t543) = false := by simpa using c111))
      (try (have c111b3 : ¬ (x553001_2 = t543) := by simpa using c111))
      clear c111
      exact absurd ((Option.some.inj H).trans hT.out) (by decide)
     replace c110 := Bool.eq_false_iff.mpr c110
     subst c110
     have H1 : (some false) = some r := by rw [if_neg (show ¬ (false = true) by decide)] at H; exact H
     clear H
     have H := H1
     clear H1
     exact absurd ((Option.some.inj H).trans hT.out) (by decide)

/-- THE ONE PURE STATEMENT of laws_FnPieces: yours. -/
def laws_FnPieces.Pure : Prop := ∀ (l0 : List Int), l0.length ≤ maxLen → l0.length * 1 ≤ 140737488351232 → (∀ x ∈ l0, (Lit.int .u8 x).wf = true) → ∃ k, laws_FnPieces.f k l0 = some true
theorem laws_FnPieces.walk (P : laws_FnPieces.Pure) (a0 : Option Addr) (len0 cap0 : Nat) (z0 : List Int) (w : World) (w0 : (a0 = none ∧ len0 = 0 ∧ cap0 = 0 ∧ z0 = []) ∨ ∃ x, a0 = some x ∧ len0 ≤ cap0 ∧ cap0 ≤ maxLen ∧ z0.length = cap0 ∧ (∀ i, i < z0.length → w.cell? (x.add i) = some (.int .u8 (z0.getD i 0))) ∧ ∀ n ∈ z0, (Lit.int .u8 n).wf = true) (y0 : len0 * 1 ≤ 140737488351232) :
  Calls Try.prog 4 #[.slice a0 len0 cap0] w fun e w' => e = .returned (.bool true) ∧ Below w.heap.size w w' := by
 obtain ⟨l0, rfl, hr0, hm0, hw0, hc0⟩ := ReadsInt.ofRowC w0
 obtain ⟨k, h⟩ := P l0 hm0 y0 hw0
 refine (laws_FnPieces.calls k _ _ l0 true w (Kd.C_of_reads (d := (0 : Int)) (h1 := fun _ => rfl) hr0) hc0 (Aside0.mk rfl) h).mono ?_
 rintro e w' ⟨rfl, hd⟩
 exact ⟨rfl, hd⟩

end Go.Proofs.Ytaofcalmgodgjaa.QFnPieces
