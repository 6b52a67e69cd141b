/- The machine side of a law: Lean functions with the Go functions' answers and the walks that show it. No condition. -/
import Derived.Test.YtaofcalmgodgjaaQFnPiecesx0
import Derived.Test.YtaofcalmgodgjaaQFnPiecesx3
import Derived.Test.YtaofcalmgodgjaaQFnPiecesx5
namespace Go.Proofs.Ytaofcalmgodgjaa.QFnPieces
open Go.RowKit Go.Proofs.YtaofcalmgodgjaaW.PrintWords Go.Proofs.YtaofcalmgodgjaaW.PrintLast Go.Proofs.YtaofcalmgodgjaaW.PrintMore
attribute [local go_sem] max2_int min2_int max_two min_two max_three min_three max_four min_four   -- for this text's walks alone
set_option linter.unusedVariables false
set_option linter.unusedSimpArgs false

/-! ### spec_l02Begins: function 79 -/
mutual
def spec_l02Begins.j0 : Nat → List Int → Int → Bool → Option (Bool)
 | 0, _, _, _ => none
 | k + 1, x0, x3, x27 => if x27 = true then (some false) else (if (x0.length : Int) = 1 then (some true) else (if 1 < (x0.length : Int) then ((spec_l02Size.f (wrap64 (rd x0 1))).bind fun t328 => (if t328 = x3 then (spec_l02Begins.l0 k x0 x3 (([] : List Int)) 1) else (some false))) else (none)))
def spec_l02Begins.j2 : Nat → List Int → Int → List Int → Option (Bool)
 | 0, _, _, _ => none
 | k + 1, x0, x3, x4 => spec_l02Begins.l1 k x0 x3 x4 ((x4.length : Int) == x3)
def spec_l02Begins.l1 : Nat → List Int → Int → List Int → Bool → Option (Bool)
 | 0, _, _, _, _ => none
 | k + 1, x0, x3, x4, x6 => if (x4.length : Int) < x3 then (if x4.length < 140737488355328 then (spec_l02Begins.l1 k x0 x3 (x4 ++ [0]) x6) else (none)) else ((spec_l02Body.f k x4).bind fun bt339 => (if bt339.2.2.2.2 = true then (if x6 = true then ((spec_PutFrame.f k bt339.1 bt339.2.1 bt339.2.2.1 bt339.2.2.2.1).bind fun t345 => (spec_l02Begins.l2 k x0 t345 0)) else (some true)) else (some false)))
def spec_l02Begins.l2 : Nat → List Int → List Int → Int → Option (Bool)
 | 0, _, _, _ => none
 | k + 1, x0, x9, x10 => if x10 < (x0.length : Int) then (spec_l02Begins.j5 k x0 x9 x10 (decide (x10 < (x9.length : Int)))) else (spec_l02Begins.j5 k x0 x9 x10 false)
def spec_l02Begins.j5 : Nat → List Int → List Int → Int → Bool → Option (Bool)
 | 0, _, _, _, _ => none
 | k + 1, x0, x9, x10, x88 => if x88 = true then (if 0 ≤ x10 then (if x10 < (x0.length : Int) then (if x10 < (x9.length : Int) then (if (rd x0 x10) = (rd x9 x10) then (spec_l02Begins.l2 k x0 x9 (wrap64 (x10 + 1))) else (some false)) else (none)) else (none)) else (none)) else (some true)
def spec_l02Begins.l0 : Nat → List Int → Int → List Int → Int → Option (Bool)
 | 0, _, _, _, _ => none
 | k + 1, x0, x3, x4, x5 => if x5 < (x0.length : Int) then (if x5 ≤ x3 then (if 0 ≤ x5 then (if x4.length < 140737488355328 then (spec_l02Begins.l0 k x0 x3 (x4 ++ [rd x0 x5]) (wrap64 (x5 + 1))) else (none)) else (none)) else (spec_l02Begins.j2 k x0 x3 x4)) else (spec_l02Begins.j2 k x0 x3 x4)
end
def spec_l02Begins.f (k : Nat) (l0 : List Int) : Option (Bool) := if (l0.length : Int) = 0 then (some true) else (if 0 < (l0.length : Int) then (if (wrap64 (rd l0 0)) = 9 then (spec_l02Begins.j0 k l0 (wrap64 (rd l0 0)) false) else (if (wrap64 (rd l0 0)) = 4 then (spec_l02Begins.j0 k l0 (wrap64 (rd l0 0)) false) else (spec_l02Begins.j0 k l0 (wrap64 (rd l0 0)) ((wrap64 (rd l0 0)) != 1)))) else (none))
theorem spec_l02Begins.mono_l : ∀ k, (∀ y0 y1 y2, LeO (spec_l02Begins.j0 k y0 y1 y2) (spec_l02Begins.j0 (k + 1) y0 y1 y2)) ∧ (∀ y0 y1 y2, LeO (spec_l02Begins.j2 k y0 y1 y2) (spec_l02Begins.j2 (k + 1) y0 y1 y2)) ∧ (∀ y0 y1 y2 y3, LeO (spec_l02Begins.l1 k y0 y1 y2 y3) (spec_l02Begins.l1 (k + 1) y0 y1 y2 y3)) ∧ (∀ y0 y1 y2, LeO (spec_l02Begins.l2 k y0 y1 y2) (spec_l02Begins.l2 (k + 1) y0 y1 y2)) ∧ (∀ y0 y1 y2 y3, LeO (spec_l02Begins.j5 k y0 y1 y2 y3) (spec_l02Begins.j5 (k + 1) y0 y1 y2 y3)) ∧ (∀ y0 y1 y2 y3, LeO (spec_l02Begins.l0 k y0 y1 y2 y3) (spec_l02Begins.l0 (k + 1) y0 y1 y2 y3))
 | 0 => ⟨fun _ _ _ r h => by simp [spec_l02Begins.j0] at h, fun _ _ _ r h => by simp [spec_l02Begins.j2] at h, fun _ _ _ _ r h => by simp [spec_l02Begins.l1] at h, fun _ _ _ r h => by simp [spec_l02Begins.l2] at h, fun _ _ _ _ r h => by simp [spec_l02Begins.j5] at h, fun _ _ _ _ r h => by simp [spec_l02Begins.l0] at h⟩
 | k + 1 => by
  obtain ⟨ih0, ih1, ih2, ih3, ih4, ih5⟩ := spec_l02Begins.mono_l k
  refine ⟨?_, ?_, ?_, ?_, ?_, ?_⟩
  ·
   intro y0 y1 y2
   unfold spec_l02Begins.j0
   repeat' first
   | (with_reducible exact ih0 _ _ _)
   | (with_reducible exact ih1 _ _ _)
   | (with_reducible exact ih2 _ _ _ _)
   | (with_reducible exact ih3 _ _ _)
   | (with_reducible exact ih4 _ _ _ _)
   | (with_reducible exact ih5 _ _ _ _)
   | (with_reducible exact spec_PutFrame.mono _ _ _ _ _)
   | (with_reducible exact spec_l02Body.mono _ _)
   | (with_reducible exact LeO.refl _)
   | (with_reducible exact LeO.none _)
   | (with_reducible refine LeO.ite ?_ ?_)
   | (with_reducible refine LeO.bind ?_ (fun _ => ?_))
   | exact ih0 _ _ _
   | exact ih1 _ _ _
   | exact ih2 _ _ _ _
   | exact ih3 _ _ _
   | exact ih4 _ _ _ _
   | exact ih5 _ _ _ _
   | exact spec_PutFrame.mono _ _ _ _ _
   | exact spec_l02Body.mono _ _
   | exact LeO.none _
   | refine LeO.ite ?_ ?_
   | refine LeO.bind ?_ (fun _ => ?_)
  ·
   intro y0 y1 y2
   unfold spec_l02Begins.j2
   repeat' first
   | (with_reducible exact ih0 _ _ _)
   | (with_reducible exact ih1 _ _ _)
   | (with_reducible exact ih2 _ _ _ _)
   | (with_reducible exact ih3 _ _ _)
   | (with_reducible exact ih4 _ _ _ _)
   | (with_reducible exact ih5 _ _ _ _)
   | (with_reducible exact spec_PutFrame.mono _ _ _ _ _)
   | (with_reducible exact spec_l02Body.mono _ _)
   | (with_reducible exact LeO.refl _)
   | (with_reducible exact LeO.none _)
   | (with_reducible refine LeO.ite ?_ ?_)
   | (with_reducible refine LeO.bind ?_ (fun _ => ?_))
   | exact ih0 _ _ _
   | exact ih1 _ _ _
   | exact ih2 _ _ _ _
   | exact ih3 _ _ _
   | exact ih4 _ _ _ _
   | exact ih5 _ _ _ _
   | exact spec_PutFrame.mono _ _ _ _ _
   | exact spec_l02Body.mono _ _
   | exact LeO.none _
   | refine LeO.ite ?_ ?_
   | refine LeO.bind ?_ (fun _ => ?_)
  ·
   intro y0 y1 y2 y3
   unfold spec_l02Begins.l1
   repeat' first
   | (with_reducible exact ih0 _ _ _)
   | (with_reducible exact ih1 _ _ _)
   | (with_reducible exact ih2 _ _ _ _)
   | (with_reducible exact ih3 _ _ _)
   | (with_reducible exact ih4 _ _ _ _)
   | (with_reducible exact ih5 _ _ _ _)
   | (with_reducible exact spec_PutFrame.mono _ _ _ _ _)
   | (with_reducible exact spec_l02Body.mono _ _)
   | (with_reducible exact LeO.refl _)
   | (with_reducible exact LeO.none _)
   | (with_reducible refine LeO.ite ?_ ?_)
   | (with_reducible refine LeO.bind ?_ (fun _ => ?_))
   | exact ih0 _ _ _
   | exact ih1 _ _ _
   | exact ih2 _ _ _ _
   | exact ih3 _ _ _
   | exact ih4 _ _ _ _
   | exact ih5 _ _ _ _
   | exact spec_PutFrame.mono _ _ _ _ _
   | exact spec_l02Body.mono _ _
   | exact LeO.none _
   | refine LeO.ite ?_ ?_
   | refine LeO.bind ?_ (fun _ => ?_)
  ·
   intro y0 y1 y2
   unfold spec_l02Begins.l2
   repeat' first
   | (with_reducible exact ih0 _ _ _)
   | (with_reducible exact ih1 _ _ _)
   | (with_reducible exact ih2 _ _ _ _)
   | (with_reducible exact ih3 _ _ _)
   | (with_reducible exact ih4 _ _ _ _)
   | (with_reducible exact ih5 _ _ _ _)
   | (with_reducible exact spec_PutFrame.mono _ _ _ _ _)
   | (with_reducible exact spec_l02Body.mono _ _)
   | (with_reducible exact LeO.refl _)
   | (with_reducible exact LeO.none _)
   | (with_reducible refine LeO.ite ?_ ?_)
   | (with_reducible refine LeO.bind ?_ (fun _ => ?_))
   | exact ih0 _ _ _
   | exact ih1 _ _ _
   | exact ih2 _ _ _ _
   | exact ih3 _ _ _
   | exact ih4 _ _ _ _
   | exact ih5 _ _ _ _
   | exact spec_PutFrame.mono _ _ _ _ _
   | exact spec_l02Body.mono _ _
   | exact LeO.none _
   | refine LeO.ite ?_ ?_
   | refine LeO.bind ?_ (fun _ => ?_)
  ·
   intro y0 y1 y2 y3
   unfold spec_l02Begins.j5
   repeat' first
   | (with_reducible exact ih0 _ _ _)
   | (with_reducible exact ih1 _ _ _)
   | (with_reducible exact ih2 _ _ _ _)
   | (with_reducible exact ih3 _ _ _)
   | (with_reducible exact ih4 _ _ _ _)
   | (with_reducible exact ih5 _ _ _ _)
   | (with_reducible exact spec_PutFrame.mono _ _ _ _ _)
   | (with_reducible exact spec_l02Body.mono _ _)
   | (with_reducible exact LeO.refl _)
   | (with_reducible exact LeO.none _)
   | (with_reducible refine LeO.ite ?_ ?_)
   | (with_reducible refine LeO.bind ?_ (fun _ => ?_))
   | exact ih0 _ _ _
   | exact ih1 _ _ _
   | exact ih2 _ _ _ _
   | exact ih3 _ _ _
   | exact ih4 _ _ _ _
   | exact ih5 _ _ _ _
   | exact spec_PutFrame.mono _ _ _ _ _
   | exact spec_l02Body.mono _ _
   | exact LeO.none _
   | refine LeO.ite ?_ ?_
   | refine LeO.bind ?_ (fun _ => ?_)
  intro y0 y1 y2 y3
  unfold spec_l02Begins.l0
  repeat' first
  | (with_reducible exact ih0 _ _ _)
  | (with_reducible exact ih1 _ _ _)
  | (with_reducible exact ih2 _ _ _ _)
  | (with_reducible exact ih3 _ _ _)
  | (with_reducible exact ih4 _ _ _ _)
  | (with_reducible exact ih5 _ _ _ _)
  | (with_reducible exact spec_PutFrame.mono _ _ _ _ _)
  | (with_reducible exact spec_l02Body.mono _ _)
  | (with_reducible exact LeO.refl _)
  | (with_reducible exact LeO.none _)
  | (with_reducible refine LeO.ite ?_ ?_)
  | (with_reducible refine LeO.bind ?_ (fun _ => ?_))
  | exact ih0 _ _ _
  | exact ih1 _ _ _
  | exact ih2 _ _ _ _
  | exact ih3 _ _ _
  | exact ih4 _ _ _ _
  | exact ih5 _ _ _ _
  | exact spec_PutFrame.mono _ _ _ _ _
  | exact spec_l02Body.mono _ _
  | exact LeO.none _
  | refine LeO.ite ?_ ?_
  | refine LeO.bind ?_ (fun _ => ?_)
theorem spec_l02Begins.mono : ∀ a0 k, LeO (spec_l02Begins.f k a0) (spec_l02Begins.f (k + 1) a0) := by
 intro a0 k
 obtain ⟨ih0, ih1, ih2, ih3, ih4, ih5⟩ := spec_l02Begins.mono_l k
 unfold spec_l02Begins.f
 repeat' first
   | (with_reducible exact ih0 _ _ _)
   | (with_reducible exact ih1 _ _ _)
   | (with_reducible exact ih2 _ _ _ _)
   | (with_reducible exact ih3 _ _ _)
   | (with_reducible exact ih4 _ _ _ _)
   | (with_reducible exact ih5 _ _ _ _)
   | (with_reducible exact spec_PutFrame.mono _ _ _ _ _)
   | (with_reducible exact spec_l02Body.mono _ _)
   | (with_reducible exact LeO.refl _)
   | (with_reducible exact LeO.none _)
   | (with_reducible refine LeO.ite ?_ ?_)
   | (with_reducible refine LeO.bind ?_ (fun _ => ?_))
   | exact ih0 _ _ _
   | exact ih1 _ _ _
   | exact ih2 _ _ _ _
   | exact ih3 _ _ _
   | exact ih4 _ _ _ _
   | exact ih5 _ _ _ _
   | exact spec_PutFrame.mono _ _ _ _ _
   | exact spec_l02Body.mono _ _
   | exact LeO.none _
   | refine LeO.ite ?_ ?_
   | refine LeO.bind ?_ (fun _ => ?_)
set_option maxHeartbeats 8000000 in
set_option maxRecDepth 100000 in
theorem spec_l02Begins.calls (k : Nat) (A0 : Option Addr) (c0 : Nat) (l0 : List Int) (r : Bool) (w : World) (hr0 : Kd.C (Kd.int .u8) w A0 l0.length l0) (hc0 : l0.length ≤ c0) (h : spec_l02Begins.f k l0 = some r) :
  Calls Try.prog 79 #[.slice A0 l0.length c0] w fun e w' => e = .returned (.bool r) ∧ Below w.heap.size w w' := by
 have hu34 := Try.underlying34
 have HR0 := Aside0.mk hr0
 have HC0 := Aside0.mk hc0
 clear hr0 hc0
 have HB := am_ (Below.refl w.heap.size w)
 have H : (if (l0.length : Int) = 0 then (some true) else (if 0 < (l0.length : Int) then (if (wrap64 (rd l0 0)) = 9 then (spec_l02Begins.j0 k l0 (wrap64 (rd l0 0)) false) else (if (wrap64 (rd l0 0)) = 4 then (spec_l02Begins.j0 k l0 (wrap64 (rd l0 0)) false) else (spec_l02Begins.j0 k l0 (wrap64 (rd l0 0)) ((wrap64 (rd l0 0)) != 1)))) else (none))) = some r := h
 clear h
 by_cases c2 : (l0.length : Int) = 0
 ·
  rw [if_pos c2] at H
  have c2b0 : ((l0.length : Int) == 0) = true := beq_iff_eq.mpr c2
  have c2b1 : ((l0.length : Int) != 0) = false := bne_eq_false_iff_eq.mpr c2
  clear c2
  obtain rfl := Option.some.inj H
  go_enter Try.func79, Try.ntmps79
  go_wp2
  repeat (go_quiet (fail); try go_wp2)
  go_ret
  exact ⟨ew_, ue_ HB.out⟩
 rw [if_neg c2] at H
 have c2b0 : ((l0.length : Int) == 0) = false := beq_eq_false_iff_ne.mpr c2
 have c2b1 : ((l0.length : Int) != 0) = true := bne_iff_ne.mpr c2
 have c2b2 : ¬ (l0 = []) := fun h_ => c2 (by rw [h_]; rfl)
 by_cases c3 : 0 < (l0.length : Int)
 ·
  rw [if_pos c3] at H
  have c3b0 : decide (0 < (l0.length : Int)) = true := decide_eq_true c3
  have c3b1 : decide (0 < l0.length) = true := decide_eq_true (by omega)
  clear c3
  have HC4 := Aside0.mk H
  clear H
  have p326 : 0 ≤ (0 : Int) := (by omega)
  have q326 : 0 < (l0.length : Int) := of_decide_eq_true ua_
  obtain ⟨ad326, e326, hx326_0⟩ := Kd.at_int HR0.out 0 p326 q326
  cases e326
  have qi326 : (0 < l0.length) = True := eq_true (by omega)
  (try rw [show ((0 : Int)).toNat = 0 from rfl] at hx326_0)
  (try rw [Addr.add_zero'] at hx326_0)
  replace p326 := eq_true p326
  replace q326 := eq_true q326
  go_enter Try.func79, Try.ntmps79
  go_upto_region 4 with (fail)
  repeat (go_quiet (fail); go_upto_region 4 with (fail))
  go_cut [27] (fun v27 wc => ∃ (kq : Nat) (x27_3 : Bool), v27 = .bool x27_3 ∧ Aside0 (spec_l02Begins.j0 kq l0 (wrap64 (rd l0 0)) x27_3 = some r) ∧ Aside0 (kq ≤ k) ∧ Aside0 (Below w.heap.size w wc))
  case first =>
   have H := HC4.out
   clear HC4
   by_cases c5 : (wrap64 (rd l0 0)) = 9
   ·
    rw [if_pos c5] at H
    have c5b0 : ((wrap64 (rd l0 0)) == 9) = true := beq_iff_eq.mpr c5
    have c5b1 : ((wrap64 (rd l0 0)) != 9) = false := bne_eq_false_iff_eq.mpr c5
    clear c5
    (first | rw [c5b0] | (simp only [i64_w, i32_w]; rw [c5b0]) | skip)
    have H' := Aside0.mk H
    clear H
    go_wp2
    repeat (go_quiet (fail); try go_wp2)
    go_meet
    case rel => exact ⟨_, (false), (by first | rfl | (simp; done) | (simp [*]; done)), H', ⟨by first | omega | exact Nat.le_refl _⟩, ⟨ue_ HB.out⟩⟩
   rw [if_neg c5] at H
   have c5b0 : ((wrap64 (rd l0 0)) == 9) = false := beq_eq_false_iff_ne.mpr c5
   have c5b1 : ((wrap64 (rd l0 0)) != 9) = true := bne_iff_ne.mpr c5
   (first | rw [c5b0] | (simp only [i64_w, i32_w]; rw [c5b0]) | skip)
   by_cases c6 : (wrap64 (rd l0 0)) = 4
   ·
    rw [if_pos c6] at H
    have c6b0 : ((wrap64 (rd l0 0)) == 4) = true := beq_iff_eq.mpr c6
    have c6b1 : ((wrap64 (rd l0 0)) != 4) = false := bne_eq_false_iff_eq.mpr c6
    clear c6
    have H' := Aside0.mk H
    clear H
    go_wp2
    repeat (go_quiet (fail); try go_wp2)
    go_meet
    case rel => exact ⟨_, (false), (by first | rfl | (simp; done) | (simp [*]; done)), H', ⟨by first | omega | exact Nat.le_refl _⟩, ⟨ue_ HB.out⟩⟩
   rw [if_neg c6] at H
   have c6b0 : ((wrap64 (rd l0 0)) == 4) = false := beq_eq_false_iff_ne.mpr c6
   have c6b1 : ((wrap64 (rd l0 0)) != 4) = true := bne_iff_ne.mpr c6
   have H' := Aside0.mk H
   clear H
   go_wp2
   repeat (go_quiet (fail); try go_wp2)
   go_meet
   case rel => exact ⟨_, (((wrap64 (rd l0 0)) != 1)), (by first | rfl | (simp; done) | (simp [*]; done)), H', ⟨by first | omega | exact Nat.le_refl _⟩, ⟨ue_ HB.out⟩⟩
  case rest =>
   clear HC4
   try clear c2
   try clear c2b0
   try clear c2b1
   try clear c2b2
   try clear p2
   try clear c3
   try clear c3b0
   try clear c3b1
   try clear p3
   try clear q3
   try clear hx3
   try clear qi3
   try clear c5
   try clear c5b0
   try clear c5b1
   try clear c6
   try clear c6b0
   try clear c6b1
   try clear p6
   try clear hx326_0
   try clear p326
   try clear q326
   obtain ⟨kq, x27_3, rfl, HA, HJ3, HB⟩ := hcut
   cases kq with
   | zero => exact absurd HA.out (by simp [spec_l02Begins.j0])
   | succ kj3 =>
    have H := HA.out
    clear HA
    simp only [spec_l02Begins.j0] at H
    by_cases c7 : x27_3 = true
    ·
     subst c7
     have H1 : (some false) = some r := by rw [if_pos rfl] at H; exact H
     clear H
     have H := H1
     clear H1
     obtain rfl := Option.some.inj H
     go_wp2
     repeat (go_quiet (fail); try go_wp2)
     go_ret
     exact ⟨ew_, ue_ HB.out⟩
    replace c7 := Bool.eq_false_iff.mpr c7
    subst c7
    have H1 : (if (l0.length : Int) = 1 then (some true) else (if 1 < (l0.length : Int) then ((spec_l02Size.f (wrap64 (rd l0 1))).bind fun t328 => (if t328 = (wrap64 (rd l0 0)) then (spec_l02Begins.l0 kj3 l0 (wrap64 (rd l0 0)) (([] : List Int)) 1) else (some false))) else (none))) = some r := by rw [if_neg (show ¬ (false = true) by decide)] at H; exact H
    clear H
    have H := H1
    clear H1
    by_cases c8 : (l0.length : Int) = 1
    ·
     rw [if_pos c8] at H
     have c8b0 : ((l0.length : Int) == 1) = true := beq_iff_eq.mpr c8
     have c8b1 : ((l0.length : Int) != 1) = false := bne_eq_false_iff_eq.mpr c8
     clear c8
     obtain rfl := Option.some.inj H
     go_wp2
     repeat (go_quiet (fail); try go_wp2)
     go_ret
     exact ⟨ew_, ue_ HB.out⟩
    rw [if_neg c8] at H
    have c8b0 : ((l0.length : Int) == 1) = false := beq_eq_false_iff_ne.mpr c8
    have c8b1 : ((l0.length : Int) != 1) = true := bne_iff_ne.mpr c8
    by_cases c9 : 1 < (l0.length : Int)
    ·
     rw [if_pos c9] at H
     have c9b0 : decide (1 < (l0.length : Int)) = true := decide_eq_true c9
     have c9b1 : decide (1 < l0.length) = true := decide_eq_true (by omega)
     clear c9
     replace H := Option.bind_eq_some_iff.mp H
     obtain ⟨t328, A100, H⟩ := H
     replace H : (if t328 = (wrap64 (rd l0 0)) then (spec_l02Begins.l0 kj3 l0 (wrap64 (rd l0 0)) (([] : List Int)) 1) else (some false)) = some r := H
     have A10 := Aside0.mk A100
     clear A100
     by_cases c11 : t328 = (wrap64 (rd l0 0))
     ·
      rw [if_pos c11] at H
      have c11b0 : (t328 == (wrap64 (rd l0 0))) = true := beq_iff_eq.mpr c11
      have c11b1 : (t328 != (wrap64 (rd l0 0))) = false := bne_eq_false_iff_eq.mpr c11
      clear c11
      obtain ⟨y329, hy329⟩ : ∃ y_ : List Int, y_ = (([] : List Int)) := ⟨_, rfl⟩
      replace H : (spec_l02Begins.l0 kj3 l0 (wrap64 (rd l0 0)) y329 1) = some r := by first | (rw [hy329]; with_reducible exact H) | (have H2_ := (Option.bind_some _ _).symm.trans H; rw [hy329]; with_reducible exact H2_) | (have H2_ := (Option.bind_some _ _).symm.trans H; with_reducible exact H2_) | with_reducible exact H | (rw [hy329]; exact H) | exact H
      have Ny329 := Aside0.mk hy329
      clear hy329
      have HC12 := Aside0.mk H
      clear H
      have p327 : 0 ≤ (1 : Int) := (by omega)
      have q327 : 1 < (l0.length : Int) := of_decide_eq_true ua_
      obtain ⟨ad327, e327, hx327_0⟩ := Kd.at_int HR0.out 1 p327 q327
      obtain rfl : ad326 = ad327 := (by injection e327)
      (try simp only [show (1 : Int).toNat = 1 from rfl, Nat.reduceMul, Nat.reduceEqDiff, Go.Addr.add, ↓reduceIte] at hx327_0)
      have qi327 : (1 < l0.length) = True := eq_true (by omega)
      (try rw [show ((1 : Int)).toNat = 1 from rfl] at hx327_0)
      replace hx327_0 := bc_ HB.out hx327_0
      replace p327 := eq_true p327
      replace q327 := eq_true q327
      go_upto_block 0 with (first | (go_at_call 98; (with_reducible refine (spec_l02Size.calls (wrap64 (rd l0 1)) t328 _ A10.out).mono ?_); rintro e w' ⟨rfl, ⟨nd, rfl⟩⟩; (try first | exact ⟨rfl, _, World.drewN_drewN _ _ _⟩ | exact ⟨rfl, _, Eq.trans (World.drewN_drewN _ _ _) (congrArg (World.drewN _) (Nat.add_assoc _ _ _))⟩)) | ((with_reducible refine gate_dst (N := 38) rfl ?_); (try (refine gate_guard (by rfl) ?_; dsimp only)); refine Kd.R_lit (Kd.int .u8) _ 5 ?hg (N := 38) ?hd (xs := ([] : List Int)) (inner := []) (ok := fun _ => True) (okp := fun _ => True) ?hr ?hp (fun _ hk => hk) trivial (Below.refl _ _) (Nat.le_refl _) (by simp) ?_; (case hd => rfl); (case hg => rfl); (case hr => first | (go_simp; done) | (go_simp; rfl)); (case hp => exact (Reps.none _ _)); intro v330 w13 ho14 hb hg_ hnew_; clear hg_ hnew_; (first | rw [← Ny329.out] at ho14 | (simp only [Int.reduceToNat] at ho14; rw [← Ny329.out] at ho14)); have HO331 := am_ (Kd.R_lower ho14 (below_size (ue_ HB.out))); replace HB := am_ (below_step (ue_ HB.out) hb); clear hb ho14))
      repeat (go_quiet (first | (go_at_call 98; (with_reducible refine (spec_l02Size.calls (wrap64 (rd l0 1)) t328 _ A10.out).mono ?_); rintro e w' ⟨rfl, ⟨nd, rfl⟩⟩; (try first | exact ⟨rfl, _, World.drewN_drewN _ _ _⟩ | exact ⟨rfl, _, Eq.trans (World.drewN_drewN _ _ _) (congrArg (World.drewN _) (Nat.add_assoc _ _ _))⟩)) | ((with_reducible refine gate_dst (N := 38) rfl ?_); (try (refine gate_guard (by rfl) ?_; dsimp only)); refine Kd.R_lit (Kd.int .u8) _ 5 ?hg (N := 38) ?hd (xs := ([] : List Int)) (inner := []) (ok := fun _ => True) (okp := fun _ => True) ?hr ?hp (fun _ hk => hk) trivial (Below.refl _ _) (Nat.le_refl _) (by simp) ?_; (case hd => rfl); (case hg => rfl); (case hr => first | (go_simp; done) | (go_simp; rfl)); (case hp => exact (Reps.none _ _)); intro v330 w13 ho14 hb hg_ hnew_; clear hg_ hnew_; (first | rw [← Ny329.out] at ho14 | (simp only [Int.reduceToNat] at ho14; rw [← Ny329.out] at ho14)); have HO331 := am_ (Kd.R_lower ho14 (below_size (ue_ HB.out))); replace HB := am_ (below_step (ue_ HB.out) hb); clear hb ho14)); go_upto_block 0 with (first | (go_at_call 98; (with_reducible refine (spec_l02Size.calls (wrap64 (rd l0 1)) t328 _ A10.out).mono ?_); rintro e w' ⟨rfl, ⟨nd, rfl⟩⟩; (try first | exact ⟨rfl, _, World.drewN_drewN _ _ _⟩ | exact ⟨rfl, _, Eq.trans (World.drewN_drewN _ _ _) (congrArg (World.drewN _) (Nat.add_assoc _ _ _))⟩)) | ((with_reducible refine gate_dst (N := 38) rfl ?_); (try (refine gate_guard (by rfl) ?_; dsimp only)); refine Kd.R_lit (Kd.int .u8) _ 5 ?hg (N := 38) ?hd (xs := ([] : List Int)) (inner := []) (ok := fun _ => True) (okp := fun _ => True) ?hr ?hp (fun _ hk => hk) trivial (Below.refl _ _) (Nat.le_refl _) (by simp) ?_; (case hd => rfl); (case hg => rfl); (case hr => first | (go_simp; done) | (go_simp; rfl)); (case hp => exact (Reps.none _ _)); intro v330 w13 ho14 hb hg_ hnew_; clear hg_ hnew_; (first | rw [← Ny329.out] at ho14 | (simp only [Int.reduceToNat] at ho14; rw [← Ny329.out] at ho14)); have HO331 := am_ (Kd.R_lower ho14 (below_size (ue_ HB.out))); replace HB := am_ (below_step (ue_ HB.out) hb); clear hb ho14)))
      (try simp only [Act.put, List.setIfInBounds_toArray, List.set_cons_zero, List.set_cons_succ])
      go_cut [4] (fun v4 wc => ∃ (kq : Nat) (x4_11 : List Int), Aside0 (spec_l02Begins.j2 kq l0 (wrap64 (rd l0 0)) x4_11 = some r) ∧ Aside0 (kq ≤ kj3) ∧ Aside0 (Kd.R (Kd.int .u8) 5 wc w.heap.size (fun _ => True) v4 x4_11) ∧ Aside0 (Below w.heap.size w wc))
      case first =>
       have H := HC12.out
       clear HC12
       have H' := Aside0.mk H
       clear H
       go_wp2
       repeat (go_quiet (fail); try go_wp2)
       (try simp only [Act.put, List.setIfInBounds_toArray, List.set_cons_zero, List.set_cons_succ])
       go_loopg [4, 5] kj3 (fun kq v4 v5 w' => ∃ (x4_2 : List Int) (x5_2 : Int), v5 = .int .i64 x5_2 ∧ Aside0 (spec_l02Begins.l0 kq l0 (wrap64 (rd l0 0)) x4_2 x5_2 = some r) ∧ Aside0 (kq ≤ kj3) ∧ Aside0 (Kd.R (Kd.int .u8) 5 w' w.heap.size (fun _ => True) v4 x4_2) ∧ Aside0 (Below w.heap.size w w'))
       case atStart => exact ⟨(y329), (1), (by first | rfl | (simp; done) | (simp [*]; done)), H', ⟨Nat.le_refl _⟩, ⟨by (with_reducible repeat (first | apply Kd.R_alloc | apply Kd.R_drewN | apply Kd.R_drew)); exact HO331.out⟩, ⟨ue_ HB.out⟩⟩
       case round =>
        clear H'
        try clear c1
        try clear c2
        try clear c2b0
        try clear c2b1
        try clear c2b2
        try clear p2
        try clear c3
        try clear c3b0
        try clear c3b1
        try clear p3
        try clear q3
        try clear hx3
        try clear qi3
        try clear c5
        try clear c5b0
        try clear c5b1
        try clear c6
        try clear c6b0
        try clear c6b1
        try clear p6
        try clear c7
        try clear c8
        try clear c8b0
        try clear c8b1
        try clear c9
        try clear c9b0
        try clear c9b1
        try clear c11
        try clear c11b0
        try clear c11b1
        try clear hx326_0
        try clear hx327_0
        try clear p2
        try clear p3
        try clear p326
        try clear p327
        try clear p6
        try clear q3
        try clear q326
        try clear q327
        obtain ⟨x4_2, x5_2, rfl, HA, HK2, HO_4, HB⟩ := hrel
        cases gk with
        | zero => exact absurd HA.out (by simp [spec_l02Begins.l0])
        | succ k2 =>
         have H := HA.out
         clear HA
         simp only [spec_l02Begins.l0] at H
         by_cases c15 : x5_2 < (l0.length : Int)
         ·
          rw [if_pos c15] at H
          have c15b0 : decide (x5_2 < (l0.length : Int)) = true := decide_eq_true c15
          clear c15
          (first | rw [c15b0] | (simp only [i64_w, i32_w]; rw [c15b0]) | skip)
          by_cases c16 : x5_2 ≤ (wrap64 (rd l0 0))
          ·
           rw [if_pos c16] at H
           have c16b0 : decide (x5_2 ≤ (wrap64 (rd l0 0))) = true := decide_eq_true c16
           clear c16
           by_cases c17 : 0 ≤ x5_2
           ·
            rw [if_pos c17] at H
            have c17b0 : decide (0 ≤ x5_2) = true := decide_eq_true c17
            clear c17
            by_cases c18 : x4_2.length < 140737488355328
            ·
             rw [if_pos c18] at H
             have LMc18 := Aside0.mk c18
             clear c18
             obtain ⟨y333, hy333⟩ : ∃ y_ : List Int, y_ = (x4_2 ++ [rd l0 x5_2]) := ⟨_, rfl⟩
             replace H : (spec_l02Begins.l0 k2 l0 (wrap64 (rd l0 0)) y333 (wrap64 (x5_2 + 1))) = some r := by first | (rw [hy333]; with_reducible exact H) | (have H2_ := (Option.bind_some _ _).symm.trans H; rw [hy333]; with_reducible exact H2_) | (have H2_ := (Option.bind_some _ _).symm.trans H; with_reducible exact H2_) | with_reducible exact H | (rw [hy333]; exact H) | exact H
             have Ny333 := Aside0.mk hy333
             clear hy333
             have H' := Aside0.mk H
             clear H
             have p332 : 0 ≤ (x5_2 : Int) := of_decide_eq_true ua_
             have q332 : x5_2 < (l0.length : Int) := of_decide_eq_true ua_
             obtain ⟨ad332, e332, hx332_0⟩ := Kd.at_int HR0.out x5_2 p332 q332
             obtain rfl : ad326 = ad332 := (by injection e332)
             replace hx332_0 := bc_ HB.out hx332_0
             replace p332 := eq_true p332
             replace q332 := eq_true q332
             go_wp2_with (first | ((with_reducible refine gate_builtin (b := .append) (xs := #[.tmp 50, .tmp 55]) rfl ?_); (try (refine gate_guard (by rfl) ?_; dsimp only)); at_builtin; refine Kd.R_append (Kd.int .u8) (w0 := w) w.heap.size rfl (.tmp 50) (.tmp 55) 39 5 (.int .u8 0) 1 rfl Try.underlying39 info5 rfl (by decide) (by omega) u4 x4_2 (rd l0 x5_2) [.int .u8 (rd l0 x5_2)] (fun _ => True) (fun _ => False) rfl rfl ?aP (fun _ hk => hk.elim) ?aF ?aO ?aB ?aS ?aL ?_; (case aP => exact rfl); (case aB => exact (ue_ HB.out)); (case aF => exact (fun _ _ => trivial)); (case aO => exact (ur_ HO_4.out)); (case aS => exact (below_size (ue_ HB.out))); (case aL => have := LMc18.out; omega); intro v334 w19 ho hb hg hat; rw [← Ny333.out] at ho; replace HB := am_ (hb); have HO335 := am_ (ho); clear HO_4; clear ho hb hg hat))
             repeat (go_quiet (first | ((with_reducible refine gate_builtin (b := .append) (xs := #[.tmp 50, .tmp 55]) rfl ?_); (try (refine gate_guard (by rfl) ?_; dsimp only)); at_builtin; refine Kd.R_append (Kd.int .u8) (w0 := w) w.heap.size rfl (.tmp 50) (.tmp 55) 39 5 (.int .u8 0) 1 rfl Try.underlying39 info5 rfl (by decide) (by omega) u4 x4_2 (rd l0 x5_2) [.int .u8 (rd l0 x5_2)] (fun _ => True) (fun _ => False) rfl rfl ?aP (fun _ hk => hk.elim) ?aF ?aO ?aB ?aS ?aL ?_; (case aP => exact rfl); (case aB => exact (ue_ HB.out)); (case aF => exact (fun _ _ => trivial)); (case aO => exact (ur_ HO_4.out)); (case aS => exact (below_size (ue_ HB.out))); (case aL => have := LMc18.out; omega); intro v334 w19 ho hb hg hat; rw [← Ny333.out] at ho; replace HB := am_ (hb); have HO335 := am_ (ho); clear HO_4; clear ho hb hg hat)); try go_wp2_with (first | ((with_reducible refine gate_builtin (b := .append) (xs := #[.tmp 50, .tmp 55]) rfl ?_); (try (refine gate_guard (by rfl) ?_; dsimp only)); at_builtin; refine Kd.R_append (Kd.int .u8) (w0 := w) w.heap.size rfl (.tmp 50) (.tmp 55) 39 5 (.int .u8 0) 1 rfl Try.underlying39 info5 rfl (by decide) (by omega) u4 x4_2 (rd l0 x5_2) [.int .u8 (rd l0 x5_2)] (fun _ => True) (fun _ => False) rfl rfl ?aP (fun _ hk => hk.elim) ?aF ?aO ?aB ?aS ?aL ?_; (case aP => exact rfl); (case aB => exact (ue_ HB.out)); (case aF => exact (fun _ _ => trivial)); (case aO => exact (ur_ HO_4.out)); (case aS => exact (below_size (ue_ HB.out))); (case aL => have := LMc18.out; omega); intro v334 w19 ho hb hg hat; rw [← Ny333.out] at ho; replace HB := am_ (hb); have HO335 := am_ (ho); clear HO_4; clear ho hb hg hat)))
             go_roundg k2
             case measure => have := HJ3.out; have := HK2.out; omega
             case rel => exact ⟨(y333), (wrap64 (x5_2 + 1)), (by first | rfl | (simp; done) | (simp [*]; done)), H', ⟨by have := HJ3.out; have := HK2.out; omega⟩, ⟨by (with_reducible repeat (first | apply Kd.R_alloc | apply Kd.R_drewN | apply Kd.R_drew)); exact HO335.out⟩, ⟨ue_ HB.out⟩⟩
            rw [if_neg c18] at H
            exact absurd H (by simp)
           rw [if_neg c17] at H
           exact absurd H (by simp)
          rw [if_neg c16] at H
          have c16b0 : decide (x5_2 ≤ (wrap64 (rd l0 0))) = false := decide_eq_false c16
          clear c16
          have H' := Aside0.mk H
          clear H
          go_wp2
          repeat (go_quiet (fail); try go_wp2)
          go_meet
          case rel => exact ⟨_, (x4_2), H', ⟨by have := HJ3.out; have := HK2.out; first | omega | exact Nat.le_refl _⟩, ⟨by (with_reducible repeat (first | apply Kd.R_alloc | apply Kd.R_drewN | apply Kd.R_drew)); exact HO_4.out⟩, ⟨ue_ HB.out⟩⟩
         rw [if_neg c15] at H
         have c15b0 : decide (x5_2 < (l0.length : Int)) = false := decide_eq_false c15
         clear c15
         (first | rw [c15b0] | (simp only [i64_w, i32_w]; rw [c15b0]) | skip)
         have H' := Aside0.mk H
         clear H
         go_wp2
         repeat (go_quiet (fail); try go_wp2)
         go_meet
         case rel => exact ⟨_, (x4_2), H', ⟨by have := HJ3.out; have := HK2.out; first | omega | exact Nat.le_refl _⟩, ⟨by (with_reducible repeat (first | apply Kd.R_alloc | apply Kd.R_drewN | apply Kd.R_drew)); exact HO_4.out⟩, ⟨ue_ HB.out⟩⟩
      case rest =>
       clear HC12
       try clear c1
       try clear c2
       try clear c2b0
       try clear c2b1
       try clear c2b2
       try clear p2
       try clear c3
       try clear c3b0
       try clear c3b1
       try clear p3
       try clear q3
       try clear hx3
       try clear qi3
       try clear c5
       try clear c5b0
       try clear c5b1
       try clear c6
       try clear c6b0
       try clear c6b1
       try clear p6
       try clear c7
       try clear c8
       try clear c8b0
       try clear c8b1
       try clear c9
       try clear c9b0
       try clear c9b1
       try clear c11
       try clear c11b0
       try clear c11b1
       try clear c15
       try clear c15b0
       try clear c16
       try clear c16b0
       try clear c17
       try clear c17b0
       try clear c18
       try clear hx326_0
       try clear hx327_0
       try clear hx332_0
       try clear p2
       try clear p3
       try clear p326
       try clear p327
       try clear p332
       try clear p6
       try clear q3
       try clear q326
       try clear q327
       try clear q332
       obtain ⟨kq, x4_11, HA, HJ11, HO_4, HB⟩ := hcut
       cases kq with
       | zero => exact absurd HA.out (by simp [spec_l02Begins.j2])
       | succ kj11 =>
        have H := HA.out
        clear HA
        simp only [spec_l02Begins.j2] at H
        have H' := Aside0.mk H
        clear H
        obtain ⟨Ao20, co20, eo20⟩ := Kd.R_slice HO_4.out
        subst eo20
        go_wp2
        repeat (go_quiet (fail); try go_wp2)
        (try simp only [Act.put, List.setIfInBounds_toArray, List.set_cons_zero, List.set_cons_succ])
        go_loopg [4] kj11 (fun kq v4 w' => ∃ (x4_3 : List Int), Aside0 (spec_l02Begins.l1 kq l0 (wrap64 (rd l0 0)) x4_3 ((x4_11.length : Int) == (wrap64 (rd l0 0))) = some r) ∧ Aside0 (kq ≤ kj11) ∧ Aside0 (Kd.R (Kd.int .u8) 5 w' w.heap.size (fun _ => True) v4 x4_3) ∧ Aside0 (Below w.heap.size w w'))
        case atStart => exact ⟨(x4_11), H', ⟨Nat.le_refl _⟩, ⟨by (with_reducible repeat (first | apply Kd.R_alloc | apply Kd.R_drewN | apply Kd.R_drew)); exact HO_4.out⟩, ⟨ue_ HB.out⟩⟩
        case round =>
         clear H'
         try clear c1
         try clear c2
         try clear c2b0
         try clear c2b1
         try clear c2b2
         try clear p2
         try clear c3
         try clear c3b0
         try clear c3b1
         try clear p3
         try clear q3
         try clear hx3
         try clear qi3
         try clear c5
         try clear c5b0
         try clear c5b1
         try clear c6
         try clear c6b0
         try clear c6b1
         try clear p6
         try clear c7
         try clear c8
         try clear c8b0
         try clear c8b1
         try clear c9
         try clear c9b0
         try clear c9b1
         try clear c11
         try clear c11b0
         try clear c11b1
         try clear c15
         try clear c15b0
         try clear c16
         try clear c16b0
         try clear c17
         try clear c17b0
         try clear c18
         try clear hx326_0
         try clear hx327_0
         try clear hx332_0
         try clear p2
         try clear p3
         try clear p326
         try clear p327
         try clear p332
         try clear p6
         try clear q3
         try clear q326
         try clear q327
         try clear q332
         obtain ⟨x4_3, HA, HK3, HO_4, HB⟩ := hrel
         cases gk with
         | zero => exact absurd HA.out (by simp [spec_l02Begins.l1])
         | succ k3 =>
          have H := HA.out
          clear HA
          simp only [spec_l02Begins.l1] at H
          by_cases c21 : (x4_3.length : Int) < (wrap64 (rd l0 0))
          ·
           rw [if_pos c21] at H
           have c21b0 : decide ((x4_3.length : Int) < (wrap64 (rd l0 0))) = true := decide_eq_true c21
           clear c21
           by_cases c22 : x4_3.length < 140737488355328
           ·
            rw [if_pos c22] at H
            have LMc22 := Aside0.mk c22
            clear c22
            obtain ⟨y336, hy336⟩ : ∃ y_ : List Int, y_ = (x4_3 ++ [0]) := ⟨_, rfl⟩
            replace H : (spec_l02Begins.l1 k3 l0 (wrap64 (rd l0 0)) y336 ((x4_11.length : Int) == (wrap64 (rd l0 0)))) = some r := by first | (rw [hy336]; with_reducible exact H) | (have H2_ := (Option.bind_some _ _).symm.trans H; rw [hy336]; with_reducible exact H2_) | (have H2_ := (Option.bind_some _ _).symm.trans H; with_reducible exact H2_) | with_reducible exact H | (rw [hy336]; exact H) | exact H
            have Ny336 := Aside0.mk hy336
            clear hy336
            have H' := Aside0.mk H
            clear H
            obtain ⟨Ao23, co23, eo23⟩ := Kd.R_slice HO_4.out
            subst eo23
            go_wp2_with (first | ((with_reducible refine gate_builtin (b := .append) (xs := #[.tmp 65, .tmp 66]) rfl ?_); (try (refine gate_guard (by rfl) ?_; dsimp only)); at_builtin; refine Kd.R_append (Kd.int .u8) (w0 := w) w.heap.size rfl (.tmp 65) (.tmp 66) 39 5 (.int .u8 0) 1 rfl Try.underlying39 info5 rfl (by decide) (by omega) (.slice Ao23 x4_3.length co23) x4_3 0 [.int .u8 0] (fun _ => True) (fun _ => False) rfl rfl ?aP (fun _ hk => hk.elim) ?aF ?aO ?aB ?aS ?aL ?_; (case aP => exact rfl); (case aB => exact (ue_ HB.out)); (case aF => exact (fun _ _ => trivial)); (case aO => exact (ur_ HO_4.out)); (case aS => exact (below_size (ue_ HB.out))); (case aL => have := LMc22.out; omega); intro v337 w24 ho hb hg hat; rw [← Ny336.out] at ho; replace HB := am_ (hb); have HO338 := am_ (ho); clear HO_4; clear ho hb hg hat))
            repeat (go_quiet (first | ((with_reducible refine gate_builtin (b := .append) (xs := #[.tmp 65, .tmp 66]) rfl ?_); (try (refine gate_guard (by rfl) ?_; dsimp only)); at_builtin; refine Kd.R_append (Kd.int .u8) (w0 := w) w.heap.size rfl (.tmp 65) (.tmp 66) 39 5 (.int .u8 0) 1 rfl Try.underlying39 info5 rfl (by decide) (by omega) (.slice Ao23 x4_3.length co23) x4_3 0 [.int .u8 0] (fun _ => True) (fun _ => False) rfl rfl ?aP (fun _ hk => hk.elim) ?aF ?aO ?aB ?aS ?aL ?_; (case aP => exact rfl); (case aB => exact (ue_ HB.out)); (case aF => exact (fun _ _ => trivial)); (case aO => exact (ur_ HO_4.out)); (case aS => exact (below_size (ue_ HB.out))); (case aL => have := LMc22.out; omega); intro v337 w24 ho hb hg hat; rw [← Ny336.out] at ho; replace HB := am_ (hb); have HO338 := am_ (ho); clear HO_4; clear ho hb hg hat)); try go_wp2_with (first | ((with_reducible refine gate_builtin (b := .append) (xs := #[.tmp 65, .tmp 66]) rfl ?_); (try (refine gate_guard (by rfl) ?_; dsimp only)); at_builtin; refine Kd.R_append (Kd.int .u8) (w0 := w) w.heap.size rfl (.tmp 65) (.tmp 66) 39 5 (.int .u8 0) 1 rfl Try.underlying39 info5 rfl (by decide) (by omega) (.slice Ao23 x4_3.length co23) x4_3 0 [.int .u8 0] (fun _ => True) (fun _ => False) rfl rfl ?aP (fun _ hk => hk.elim) ?aF ?aO ?aB ?aS ?aL ?_; (case aP => exact rfl); (case aB => exact (ue_ HB.out)); (case aF => exact (fun _ _ => trivial)); (case aO => exact (ur_ HO_4.out)); (case aS => exact (below_size (ue_ HB.out))); (case aL => have := LMc22.out; omega); intro v337 w24 ho hb hg hat; rw [← Ny336.out] at ho; replace HB := am_ (hb); have HO338 := am_ (ho); clear HO_4; clear ho hb hg hat)))
            go_roundg k3
            case measure => have := HJ3.out; have := HJ11.out; have := HK3.out; omega
            case rel => exact ⟨(y336), H', ⟨by have := HJ3.out; have := HJ11.out; have := HK3.out; omega⟩, ⟨by (with_reducible repeat (first | apply Kd.R_alloc | apply Kd.R_drewN | apply Kd.R_drew)); exact HO338.out⟩, ⟨ue_ HB.out⟩⟩
           rw [if_neg c22] at H
           exact absurd H (by simp)
          rw [if_neg c21] at H
          have c21b0 : decide ((x4_3.length : Int) < (wrap64 (rd l0 0))) = false := decide_eq_false c21
          clear c21
          replace H := Option.bind_eq_some_iff.mp H
          obtain ⟨⟨t339, t340, t341, t342, t343⟩, A250, H⟩ := H
          replace H : (if t343 = true then (if ((x4_11.length : Int) == (wrap64 (rd l0 0))) = true then ((spec_PutFrame.f k3 t339 t340 t341 t342).bind fun t345 => (spec_l02Begins.l2 k3 l0 t345 0)) else (some true)) else (some false)) = some r := H
          have A25 := Aside0.mk A250
          clear A250
          by_cases c26 : t343 = true
          ·
           subst c26
           have H1 : (if ((x4_11.length : Int) == (wrap64 (rd l0 0))) = true then ((spec_PutFrame.f k3 t339 t340 t341 t342).bind fun t345 => (spec_l02Begins.l2 k3 l0 t345 0)) else (some true)) = some r := by rw [if_pos rfl] at H; exact H
           clear H
           have H := H1
           clear H1
           by_cases c27 : ((x4_11.length : Int) == (wrap64 (rd l0 0))) = true
           ·
            rw [if_pos c27] at H
            have c27b0 : ((x4_11.length : Int) == (wrap64 (rd l0 0))) = true := c27
            (try (have c27b1 : decide ((x4_11.length : Int) = (wrap64 (rd l0 0))) = true := by simpa using c27))
            (try (have c27b2 : ((x4_11.length : Int) == (wrap64 (rd l0 0))) = true := by simpa using c27))
            clear c27
            replace H := Option.bind_eq_some_iff.mp H
            obtain ⟨t345, A280, H⟩ := H
            replace H : (spec_l02Begins.l2 k3 l0 t345 0) = some r := H
            have A28 := Aside0.mk A280
            clear A280
            have H' := Aside0.mk H
            clear H
            obtain ⟨Ao29, co29, eo29⟩ := Kd.R_slice HO_4.out
            subst eo29
            go_wp2_with (first | (go_at_call 80; (with_reducible refine (spec_l02Body.calls k3 _ _ x4_3 t339 t340 t341 t342 true _ ?side1 ?side2 A25.out).mono ?_); (case side1 => repeat (first | exact (Kd.R_reads' HO_4.out).2.2 | (with_reducible refine Kd.C_alloc ?_ _) | (with_reducible refine Kd.C_drewN ?_ _) | (with_reducible refine Kd.C_drew ?_))); (case side2 => exact (Kd.R_reads' HO_4.out).2.1); rintro e w30 ⟨rfl, hb⟩; replace HO_4 := am_ (Kd.R_below (ur_ HO_4.out) hb); replace HB := am_ (below_step (ue_ HB.out) hb); (try clear hb); (try clear hb2); (try clear hk); (try clear hi)) | ((with_reducible refine gate_dst (N := 7) rfl ?_); (try (refine gate_guard (by rfl) ?_; dsimp only)); refine bx_ (N := 7) (cs := #[.int .i64 0, .int .i64 0, .int .i64 0, .int .i64 0]) (t := 34) ?_; intro gb344 hg w31 hbox hb; replace HO_4 := am_ (Kd.R_below (ur_ HO_4.out) hb); have BK344 := am_ (hbox); have GW344 := am_ ((by rw [hg]; exact (below_size (ue_ HB.out)) : w.heap.size ≤ gb344)); have GE344 := am_ ((by rw [hg]; exact (below_size (ue_ HB.out)) : w.heap.size ≤ gb344)); replace HB := am_ (below_step (ue_ HB.out) hb); clear hb hbox hg; obtain ⟨hcz32_0, hcz32_1, hcz32_2, hcz32_3⟩ := cb4_ BK344.out; obtain ⟨hfz32_0, hfz32_1, hfz32_2⟩ := bf3_ BK344.out; have hfz32_3 := blk_frozen BK344.out 3) | ((with_reducible refine gate_store (t := 34) (p := 7) rfl ?_); (try (rw [drewN_self w31]; generalize hq_ : World.drewN w31 _ = w31; replace HO_4 := am_ (Kd.R_at hq_ HO_4.out); replace BK344 := am_ (blk_at hq_ BK344.out); replace HB := am_ (below_at hq_ HB.out); clear hq_)); refine st_ (w1 := ((((w31.setCell ⟨gb344, 0, none⟩ (.int .i64 t339)).setCell ⟨gb344, 1, none⟩ (.int .i64 t340)).setCell ⟨gb344, 2, none⟩ (.int .i64 t341)).setCell ⟨gb344, 3, none⟩ (.int .i64 t342))) ?_; intro w33 hw; replace HO_4 : Aside0 (Kd.R (Kd.int .u8) 5 w33 w.heap.size (fun _ => True) (.slice Ao29 x4_3.length co29) x4_3) := ⟨(by rw [hw]; exact (by (with_reducible repeat (first | apply Kd.R_alloc | apply Kd.R_drewN | apply Kd.R_drew)); exact Kd.R_mono (Rf4_ (g := gb344) (Kd.R_types HO_4.out BK344.out (by decide))) (fun _ hk => trivial)))⟩; replace BK344 : Aside0 (w33.heap[gb344]? = some (.cells #[.int .i64 t339, .int .i64 t340, .int .i64 t341, .int .i64 t342] 34 (0, 0))) := ⟨(by rw [hw]; exact (by (with_reducible repeat first|apply bn_|apply bd_|apply ba_); apply bp4_; (with_reducible repeat first|apply bn_|apply bd_|apply ba_); exact BK344.out))⟩; replace HB : Aside0 (Below w.heap.size w w33) := ⟨(by rw [hw]; exact (ue_ HB.out))⟩; clear hw; obtain ⟨hcz34_0, hcz34_1, hcz34_2, hcz34_3⟩ := cb4_ BK344.out; obtain ⟨hfz34_0, hfz34_1, hfz34_2⟩ := bf3_ BK344.out; have hfz34_3 := blk_frozen BK344.out 3) | (go_at_call 75; (with_reducible refine (spec_PutFrame.calls k3 t339 t340 t341 t342 t345 _ A28.out).mono ?_); rintro e w35 ⟨v346, rfl, ho0, hb⟩; have HO347 := am_ (Kd.R_lower (Kd.R_new' ho0 (Kd.R_lt (ur_ HO_4.out))) (below_size (ue_ HB.out))); replace HO_4 := am_ (Kd.R_elder' (ur_ HO_4.out) (Kd.R_base ho0) hb); replace BK344 := am_ (bb_ BK344.out hb); replace HB := am_ (below_step (ue_ HB.out) hb); (try clear hb); (try clear hb2); (try clear hk); (try clear hi); (try clear ho0)))
            repeat (go_quiet (first | (go_at_call 80; (with_reducible refine (spec_l02Body.calls k3 _ _ x4_3 t339 t340 t341 t342 true _ ?side1 ?side2 A25.out).mono ?_); (case side1 => repeat (first | exact (Kd.R_reads' HO_4.out).2.2 | (with_reducible refine Kd.C_alloc ?_ _) | (with_reducible refine Kd.C_drewN ?_ _) | (with_reducible refine Kd.C_drew ?_))); (case side2 => exact (Kd.R_reads' HO_4.out).2.1); rintro e w30 ⟨rfl, hb⟩; replace HO_4 := am_ (Kd.R_below (ur_ HO_4.out) hb); replace HB := am_ (below_step (ue_ HB.out) hb); (try clear hb); (try clear hb2); (try clear hk); (try clear hi)) | ((with_reducible refine gate_dst (N := 7) rfl ?_); (try (refine gate_guard (by rfl) ?_; dsimp only)); refine bx_ (N := 7) (cs := #[.int .i64 0, .int .i64 0, .int .i64 0, .int .i64 0]) (t := 34) ?_; intro gb344 hg w31 hbox hb; replace HO_4 := am_ (Kd.R_below (ur_ HO_4.out) hb); have BK344 := am_ (hbox); have GW344 := am_ ((by rw [hg]; exact (below_size (ue_ HB.out)) : w.heap.size ≤ gb344)); have GE344 := am_ ((by rw [hg]; exact (below_size (ue_ HB.out)) : w.heap.size ≤ gb344)); replace HB := am_ (below_step (ue_ HB.out) hb); clear hb hbox hg; obtain ⟨hcz32_0, hcz32_1, hcz32_2, hcz32_3⟩ := cb4_ BK344.out; obtain ⟨hfz32_0, hfz32_1, hfz32_2⟩ := bf3_ BK344.out; have hfz32_3 := blk_frozen BK344.out 3) | ((with_reducible refine gate_store (t := 34) (p := 7) rfl ?_); (try (rw [drewN_self w31]; generalize hq_ : World.drewN w31 _ = w31; replace HO_4 := am_ (Kd.R_at hq_ HO_4.out); replace BK344 := am_ (blk_at hq_ BK344.out); replace HB := am_ (below_at hq_ HB.out); clear hq_)); refine st_ (w1 := ((((w31.setCell ⟨gb344, 0, none⟩ (.int .i64 t339)).setCell ⟨gb344, 1, none⟩ (.int .i64 t340)).setCell ⟨gb344, 2, none⟩ (.int .i64 t341)).setCell ⟨gb344, 3, none⟩ (.int .i64 t342))) ?_; intro w33 hw; replace HO_4 : Aside0 (Kd.R (Kd.int .u8) 5 w33 w.heap.size (fun _ => True) (.slice Ao29 x4_3.length co29) x4_3) := ⟨(by rw [hw]; exact (by (with_reducible repeat (first | apply Kd.R_alloc | apply Kd.R_drewN | apply Kd.R_drew)); exact Kd.R_mono (Rf4_ (g := gb344) (Kd.R_types HO_4.out BK344.out (by decide))) (fun _ hk => trivial)))⟩; replace BK344 : Aside0 (w33.heap[gb344]? = some (.cells #[.int .i64 t339, .int .i64 t340, .int .i64 t341, .int .i64 t342] 34 (0, 0))) := ⟨(by rw [hw]; exact (by (with_reducible repeat first|apply bn_|apply bd_|apply ba_); apply bp4_; (with_reducible repeat first|apply bn_|apply bd_|apply ba_); exact BK344.out))⟩; replace HB : Aside0 (Below w.heap.size w w33) := ⟨(by rw [hw]; exact (ue_ HB.out))⟩; clear hw; obtain ⟨hcz34_0, hcz34_1, hcz34_2, hcz34_3⟩ := cb4_ BK344.out; obtain ⟨hfz34_0, hfz34_1, hfz34_2⟩ := bf3_ BK344.out; have hfz34_3 := blk_frozen BK344.out 3) | (go_at_call 75; (with_reducible refine (spec_PutFrame.calls k3 t339 t340 t341 t342 t345 _ A28.out).mono ?_); rintro e w35 ⟨v346, rfl, ho0, hb⟩; have HO347 := am_ (Kd.R_lower (Kd.R_new' ho0 (Kd.R_lt (ur_ HO_4.out))) (below_size (ue_ HB.out))); replace HO_4 := am_ (Kd.R_elder' (ur_ HO_4.out) (Kd.R_base ho0) hb); replace BK344 := am_ (bb_ BK344.out hb); replace HB := am_ (below_step (ue_ HB.out) hb); (try clear hb); (try clear hb2); (try clear hk); (try clear hi); (try clear ho0))); try go_wp2_with (first | (go_at_call 80; (with_reducible refine (spec_l02Body.calls k3 _ _ x4_3 t339 t340 t341 t342 true _ ?side1 ?side2 A25.out).mono ?_); (case side1 => repeat (first | exact (Kd.R_reads' HO_4.out).2.2 | (with_reducible refine Kd.C_alloc ?_ _) | (with_reducible refine Kd.C_drewN ?_ _) | (with_reducible refine Kd.C_drew ?_))); (case side2 => exact (Kd.R_reads' HO_4.out).2.1); rintro e w30 ⟨rfl, hb⟩; replace HO_4 := am_ (Kd.R_below (ur_ HO_4.out) hb); replace HB := am_ (below_step (ue_ HB.out) hb); (try clear hb); (try clear hb2); (try clear hk); (try clear hi)) | ((with_reducible refine gate_dst (N := 7) rfl ?_); (try (refine gate_guard (by rfl) ?_; dsimp only)); refine bx_ (N := 7) (cs := #[.int .i64 0, .int .i64 0, .int .i64 0, .int .i64 0]) (t := 34) ?_; intro gb344 hg w31 hbox hb; replace HO_4 := am_ (Kd.R_below (ur_ HO_4.out) hb); have BK344 := am_ (hbox); have GW344 := am_ ((by rw [hg]; exact (below_size (ue_ HB.out)) : w.heap.size ≤ gb344)); have GE344 := am_ ((by rw [hg]; exact (below_size (ue_ HB.out)) : w.heap.size ≤ gb344)); replace HB := am_ (below_step (ue_ HB.out) hb); clear hb hbox hg; obtain ⟨hcz32_0, hcz32_1, hcz32_2, hcz32_3⟩ := cb4_ BK344.out; obtain ⟨hfz32_0, hfz32_1, hfz32_2⟩ := bf3_ BK344.out; have hfz32_3 := blk_frozen BK344.out 3) | ((with_reducible refine gate_store (t := 34) (p := 7) rfl ?_); (try (rw [drewN_self w31]; generalize hq_ : World.drewN w31 _ = w31; replace HO_4 := am_ (Kd.R_at hq_ HO_4.out); replace BK344 := am_ (blk_at hq_ BK344.out); replace HB := am_ (below_at hq_ HB.out); clear hq_)); refine st_ (w1 := ((((w31.setCell ⟨gb344, 0, none⟩ (.int .i64 t339)).setCell ⟨gb344, 1, none⟩ (.int .i64 t340)).setCell ⟨gb344, 2, none⟩ (.int .i64 t341)).setCell ⟨gb344, 3, none⟩ (.int .i64 t342))) ?_; intro w33 hw; replace HO_4 : Aside0 (Kd.R (Kd.int .u8) 5 w33 w.heap.size (fun _ => True) (.slice Ao29 x4_3.length co29) x4_3) := ⟨(by rw [hw]; exact (by (with_reducible repeat (first | apply Kd.R_alloc | apply Kd.R_drewN | apply Kd.R_drew)); exact Kd.R_mono (Rf4_ (g := gb344) (Kd.R_types HO_4.out BK344.out (by decide))) (fun _ hk => trivial)))⟩; replace BK344 : Aside0 (w33.heap[gb344]? = some (.cells #[.int .i64 t339, .int .i64 t340, .int .i64 t341, .int .i64 t342] 34 (0, 0))) := ⟨(by rw [hw]; exact (by (with_reducible repeat first|apply bn_|apply bd_|apply ba_); apply bp4_; (with_reducible repeat first|apply bn_|apply bd_|apply ba_); exact BK344.out))⟩; replace HB : Aside0 (Below w.heap.size w w33) := ⟨(by rw [hw]; exact (ue_ HB.out))⟩; clear hw; obtain ⟨hcz34_0, hcz34_1, hcz34_2, hcz34_3⟩ := cb4_ BK344.out; obtain ⟨hfz34_0, hfz34_1, hfz34_2⟩ := bf3_ BK344.out; have hfz34_3 := blk_frozen BK344.out 3) | (go_at_call 75; (with_reducible refine (spec_PutFrame.calls k3 t339 t340 t341 t342 t345 _ A28.out).mono ?_); rintro e w35 ⟨v346, rfl, ho0, hb⟩; have HO347 := am_ (Kd.R_lower (Kd.R_new' ho0 (Kd.R_lt (ur_ HO_4.out))) (below_size (ue_ HB.out))); replace HO_4 := am_ (Kd.R_elder' (ur_ HO_4.out) (Kd.R_base ho0) hb); replace BK344 := am_ (bb_ BK344.out hb); replace HB := am_ (below_step (ue_ HB.out) hb); (try clear hb); (try clear hb2); (try clear hk); (try clear hi); (try clear ho0))))
            (try simp only [Act.put, List.setIfInBounds_toArray, List.set_cons_zero, List.set_cons_succ])
            go_loopg [10] k3 (fun kq v10 w' => ∃ (x10_4 : Int), v10 = .int .i64 x10_4 ∧ Aside0 (spec_l02Begins.l2 kq l0 t345 x10_4 = some r) ∧ Aside0 (kq ≤ k3) ∧ Aside0 (Kd.R (Kd.int .u8) 5 w' w.heap.size (fun _ => True) v346 t345) ∧ Aside0 (w'.heap[gb344]? = some (.cells #[.int .i64 t339, .int .i64 t340, .int .i64 t341, .int .i64 t342] 34 (0, 0))) ∧ Aside0 (Below w.heap.size w w'))
            case atStart => exact ⟨(0), (by first | rfl | (simp; done) | (simp [*]; done)), H', ⟨Nat.le_refl _⟩, ⟨by (with_reducible repeat (first | apply Kd.R_alloc | apply Kd.R_drewN | apply Kd.R_drew)); exact Kd.R_mono HO347.out (fun _ hk => trivial)⟩, ⟨by (with_reducible repeat first|apply bn_|apply bd_|apply ba_); exact BK344.out⟩, ⟨ue_ HB.out⟩⟩
            case round =>
             clear H'
             try clear c1
             try clear c2
             try clear c2b0
             try clear c2b1
             try clear c2b2
             try clear p2
             try clear c3
             try clear c3b0
             try clear c3b1
             try clear p3
             try clear q3
             try clear hx3
             try clear qi3
             try clear c5
             try clear c5b0
             try clear c5b1
             try clear c6
             try clear c6b0
             try clear c6b1
             try clear p6
             try clear c7
             try clear c8
             try clear c8b0
             try clear c8b1
             try clear c9
             try clear c9b0
             try clear c9b1
             try clear c11
             try clear c11b0
             try clear c11b1
             try clear c15
             try clear c15b0
             try clear c16
             try clear c16b0
             try clear c17
             try clear c17b0
             try clear c18
             try clear c21
             try clear c21b0
             try clear c22
             try clear c26
             try clear c27
             try clear c27b0
             try clear c27b1
             try clear c27b2
             try clear p32
             try clear q32
             try clear hx32
             try clear qi32
             try clear p33
             try clear q33
             try clear hx33
             try clear hcz32_0
             try clear hcz32_1
             try clear hcz32_2
             try clear hcz32_3
             try clear hcz34_0
             try clear hcz34_1
             try clear hcz34_2
             try clear hcz34_3
             try clear hfz32_0
             try clear hfz32_1
             try clear hfz32_2
             try clear hfz32_3
             try clear hfz34_0
             try clear hfz34_1
             try clear hfz34_2
             try clear hfz34_3
             try clear hx326_0
             try clear hx327_0
             try clear hx332_0
             try clear p2
             try clear p3
             try clear p326
             try clear p327
             try clear p332
             try clear p6
             try clear q3
             try clear q326
             try clear q327
             try clear q332
             obtain ⟨x10_4, rfl, HA, HK4, HO_9, BK344, HB⟩ := hrel
             cases gk with
             | zero => exact absurd HA.out (by simp [spec_l02Begins.l2])
             | succ k4 =>
              have H := HA.out
              clear HA
              simp only [spec_l02Begins.l2] at H
              have HC36 := Aside0.mk H
              clear H
              go_upto_region 25 with (fail)
              repeat (go_quiet (fail); go_upto_region 25 with (fail))
              go_cut [88] (fun v88 wc => ∃ (kq : Nat) (x88_35 : Bool), v88 = .bool x88_35 ∧ Aside0 (spec_l02Begins.j5 kq l0 t345 x10_4 x88_35 = some r) ∧ Aside0 (kq ≤ k4) ∧ Aside0 (Kd.R (Kd.int .u8) 5 wc w.heap.size (fun _ => True) v346 t345) ∧ Aside0 (wc.heap[gb344]? = some (.cells #[.int .i64 t339, .int .i64 t340, .int .i64 t341, .int .i64 t342] 34 (0, 0))) ∧ Aside0 (Below w.heap.size w wc))
              case first =>
               have H := HC36.out
               clear HC36
               by_cases c37 : x10_4 < (l0.length : Int)
               ·
                rw [if_pos c37] at H
                have c37b0 : decide (x10_4 < (l0.length : Int)) = true := decide_eq_true c37
                clear c37
                (first | rw [c37b0] | (simp only [i64_w, i32_w]; rw [c37b0]) | skip)
                have H' := Aside0.mk H
                clear H
                obtain ⟨Ao38, co38, eo38⟩ := Kd.R_slice HO_9.out
                subst eo38
                go_wp2
                repeat (go_quiet (fail); try go_wp2)
                go_meet
                case rel => exact ⟨_, (decide (x10_4 < (t345.length : Int))), (by first | rfl | (simp; done) | (simp [*]; done)), H', ⟨by have := HJ3.out; have := HJ11.out; have := HK3.out; have := HK4.out; first | omega | exact Nat.le_refl _⟩, ⟨by (with_reducible repeat (first | apply Kd.R_alloc | apply Kd.R_drewN | apply Kd.R_drew)); exact HO_9.out⟩, ⟨by (with_reducible repeat first|apply bn_|apply bd_|apply ba_); exact BK344.out⟩, ⟨ue_ HB.out⟩⟩
               rw [if_neg c37] at H
               have c37b0 : decide (x10_4 < (l0.length : Int)) = false := decide_eq_false c37
               clear c37
               (first | rw [c37b0] | (simp only [i64_w, i32_w]; rw [c37b0]) | skip)
               have H' := Aside0.mk H
               clear H
               go_wp2
               repeat (go_quiet (fail); try go_wp2)
               go_meet
               case rel => exact ⟨_, (false), (by first | rfl | (simp; done) | (simp [*]; done)), H', ⟨by have := HJ3.out; have := HJ11.out; have := HK3.out; have := HK4.out; first | omega | exact Nat.le_refl _⟩, ⟨by (with_reducible repeat (first | apply Kd.R_alloc | apply Kd.R_drewN | apply Kd.R_drew)); exact HO_9.out⟩, ⟨by (with_reducible repeat first|apply bn_|apply bd_|apply ba_); exact BK344.out⟩, ⟨ue_ HB.out⟩⟩
              case rest =>
               clear HC36
               try clear c1
               try clear c2
               try clear c2b0
               try clear c2b1
               try clear c2b2
               try clear p2
               try clear c3
               try clear c3b0
               try clear c3b1
               try clear p3
               try clear q3
               try clear hx3
               try clear qi3
               try clear c5
               try clear c5b0
               try clear c5b1
               try clear c6
               try clear c6b0
               try clear c6b1
               try clear p6
               try clear c7
               try clear c8
               try clear c8b0
               try clear c8b1
               try clear c9
               try clear c9b0
               try clear c9b1
               try clear c11
               try clear c11b0
               try clear c11b1
               try clear c15
               try clear c15b0
               try clear c16
               try clear c16b0
               try clear c17
               try clear c17b0
               try clear c18
               try clear c21
               try clear c21b0
               try clear c22
               try clear c26
               try clear c27
               try clear c27b0
               try clear c27b1
               try clear c27b2
               try clear p32
               try clear q32
               try clear hx32
               try clear qi32
               try clear p33
               try clear q33
               try clear hx33
               try clear c37
               try clear c37b0
               try clear hcz32_0
               try clear hcz32_1
               try clear hcz32_2
               try clear hcz32_3
               try clear hcz34_0
               try clear hcz34_1
               try clear hcz34_2
               try clear hcz34_3
               try clear hfz32_0
               try clear hfz32_1
               try clear hfz32_2
               try clear hfz32_3
               try clear hfz34_0
               try clear hfz34_1
               try clear hfz34_2
               try clear hfz34_3
               try clear hx326_0
               try clear hx327_0
               try clear hx332_0
               try clear p2
               try clear p3
               try clear p32
               try clear p326
               try clear p327
               try clear p33
               try clear p332
               try clear p6
               try clear q3
               try clear q32
               try clear q326
               try clear q327
               try clear q33
               try clear q332
               obtain ⟨kq, x88_35, rfl, HA, HJ35, HO_9, BK344, HB⟩ := hcut
               cases kq with
               | zero => exact absurd HA.out (by simp [spec_l02Begins.j5])
               | succ kj35 =>
                have H := HA.out
                clear HA
                simp only [spec_l02Begins.j5] at H
                by_cases c39 : x88_35 = true
                ·
                 subst c39
                 have H1 : (if 0 ≤ x10_4 then (if x10_4 < (l0.length : Int) then (if x10_4 < (t345.length : Int) then (if (rd l0 x10_4) = (rd t345 x10_4) then (spec_l02Begins.l2 kj35 l0 t345 (wrap64 (x10_4 + 1))) else (some false)) else (none)) else (none)) else (none)) = some r := by rw [if_pos rfl] at H; exact H
                 clear H
                 have H := H1
                 clear H1
                 by_cases c40 : 0 ≤ x10_4
                 ·
                  rw [if_pos c40] at H
                  have c40b0 : decide (0 ≤ x10_4) = true := decide_eq_true c40
                  clear c40
                  by_cases c41 : x10_4 < (l0.length : Int)
                  ·
                   rw [if_pos c41] at H
                   have c41b0 : decide (x10_4 < (l0.length : Int)) = true := decide_eq_true c41
                   clear c41
                   by_cases c42 : x10_4 < (t345.length : Int)
                   ·
                    rw [if_pos c42] at H
                    have c42b0 : decide (x10_4 < (t345.length : Int)) = true := decide_eq_true c42
                    clear c42
                    by_cases c43 : (rd l0 x10_4) = (rd t345 x10_4)
                    ·
                     rw [if_pos c43] at H
                     have c43b0 : ((rd l0 x10_4) == (rd t345 x10_4)) = true := beq_iff_eq.mpr c43
                     have c43b1 : ((rd l0 x10_4) != (rd t345 x10_4)) = false := bne_eq_false_iff_eq.mpr c43
                     clear c43
                     have H' := Aside0.mk H
                     clear H
                     have p348 : 0 ≤ (x10_4 : Int) := of_decide_eq_true ua_
                     have q348 : x10_4 < (l0.length : Int) := of_decide_eq_true ua_
                     obtain ⟨ad348, e348, hx348_0⟩ := Kd.at_int HR0.out x10_4 p348 q348
                     obtain rfl : ad326 = ad348 := (by injection e348)
                     replace hx348_0 := bc_ HB.out hx348_0
                     replace p348 := eq_true p348
                     replace q348 := eq_true q348
                     obtain ⟨Ao44, co44, eo44⟩ := Kd.R_slice HO_9.out
                     subst eo44
                     have p349 : 0 ≤ (x10_4 : Int) := of_decide_eq_true ua_
                     have q349 : x10_4 < (t345.length : Int) := of_decide_eq_true ua_
                     obtain ⟨ad349, e349, hx349_0⟩ := Kd.at_int (Kd.R_reads' HO_9.out).2.2 x10_4 p349 q349
                     cases e349
                     replace p349 := eq_true p349
                     replace q349 := eq_true q349
                     go_wp2
                     repeat (go_quiet (fail); try go_wp2)
                     go_roundg kj35
                     case measure => have := HJ3.out; have := HJ11.out; have := HK3.out; have := HK4.out; have := HJ35.out; omega
                     case rel => exact ⟨(wrap64 (x10_4 + 1)), (by first | rfl | (simp; done) | (simp [*]; done)), H', ⟨by have := HJ3.out; have := HJ11.out; have := HK3.out; have := HK4.out; have := HJ35.out; omega⟩, ⟨by (with_reducible repeat (first | apply Kd.R_alloc | apply Kd.R_drewN | apply Kd.R_drew)); exact HO_9.out⟩, ⟨by (with_reducible repeat first|apply bn_|apply bd_|apply ba_); exact BK344.out⟩, ⟨ue_ HB.out⟩⟩
                    rw [if_neg c43] at H
                    have c43b0 : ((rd l0 x10_4) == (rd t345 x10_4)) = false := beq_eq_false_iff_ne.mpr c43
                    have c43b1 : ((rd l0 x10_4) != (rd t345 x10_4)) = true := bne_iff_ne.mpr c43
                    obtain rfl := Option.some.inj H
                    have p348 : 0 ≤ (x10_4 : Int) := of_decide_eq_true ua_
                    have q348 : x10_4 < (l0.length : Int) := of_decide_eq_true ua_
                    obtain ⟨ad348, e348, hx348_0⟩ := Kd.at_int HR0.out x10_4 p348 q348
                    obtain rfl : ad326 = ad348 := (by injection e348)
                    replace hx348_0 := bc_ HB.out hx348_0
                    replace p348 := eq_true p348
                    replace q348 := eq_true q348
                    obtain ⟨Ao45, co45, eo45⟩ := Kd.R_slice HO_9.out
                    subst eo45
                    have p349 : 0 ≤ (x10_4 : Int) := of_decide_eq_true ua_
                    have q349 : x10_4 < (t345.length : Int) := of_decide_eq_true ua_
                    obtain ⟨ad349, e349, hx349_0⟩ := Kd.at_int (Kd.R_reads' HO_9.out).2.2 x10_4 p349 q349
                    cases e349
                    replace p349 := eq_true p349
                    replace q349 := eq_true q349
                    go_wp2
                    repeat (go_quiet (fail); try go_wp2)
                    go_ret
                    exact ⟨ew_, ue_ HB.out⟩
                   rw [if_neg c42] at H
                   exact absurd H (by simp)
                  rw [if_neg c41] at H
                  exact absurd H (by simp)
                 rw [if_neg c40] at H
                 exact absurd H (by simp)
                replace c39 := Bool.eq_false_iff.mpr c39
                subst c39
                have H1 : (some true) = some r := by rw [if_neg (show ¬ (false = true) by decide)] at H; exact H
                clear H
                have H := H1
                clear H1
                obtain rfl := Option.some.inj H
                go_wp2
                repeat (go_quiet (fail); try go_wp2)
                go_ret
                exact ⟨ew_, ue_ HB.out⟩
           rw [if_neg c27] at H
           have c27b0 : ((x4_11.length : Int) == (wrap64 (rd l0 0))) = false := by simpa using c27
           (try (have c27b1 : decide ((x4_11.length : Int) = (wrap64 (rd l0 0))) = false := by simpa using c27))
           (try (have c27b2 : ((x4_11.length : Int) == (wrap64 (rd l0 0))) = false := by simpa using c27))
           (try (have c27b3 : ¬ ((x4_11.length : Int) = (wrap64 (rd l0 0))) := by simpa using c27))
           clear c27
           obtain rfl := Option.some.inj H
           obtain ⟨Ao46, co46, eo46⟩ := Kd.R_slice HO_4.out
           subst eo46
           go_wp2_with (first | (go_at_call 80; (with_reducible refine (spec_l02Body.calls k3 _ _ x4_3 t339 t340 t341 t342 true _ ?side1 ?side2 A25.out).mono ?_); (case side1 => repeat (first | exact (Kd.R_reads' HO_4.out).2.2 | (with_reducible refine Kd.C_alloc ?_ _) | (with_reducible refine Kd.C_drewN ?_ _) | (with_reducible refine Kd.C_drew ?_))); (case side2 => exact (Kd.R_reads' HO_4.out).2.1); rintro e w47 ⟨rfl, hb⟩; replace HO_4 := am_ (Kd.R_below (ur_ HO_4.out) hb); replace HB := am_ (below_step (ue_ HB.out) hb); (try clear hb); (try clear hb2); (try clear hk); (try clear hi)) | ((with_reducible refine gate_dst (N := 7) rfl ?_); (try (refine gate_guard (by rfl) ?_; dsimp only)); refine bx_ (N := 7) (cs := #[.int .i64 0, .int .i64 0, .int .i64 0, .int .i64 0]) (t := 34) ?_; intro gb344 hg w48 hbox hb; replace HO_4 := am_ (Kd.R_below (ur_ HO_4.out) hb); have BK344 := am_ (hbox); have GW344 := am_ ((by rw [hg]; exact (below_size (ue_ HB.out)) : w.heap.size ≤ gb344)); have GE344 := am_ ((by rw [hg]; exact (below_size (ue_ HB.out)) : w.heap.size ≤ gb344)); replace HB := am_ (below_step (ue_ HB.out) hb); clear hb hbox hg; obtain ⟨hcz49_0, hcz49_1, hcz49_2, hcz49_3⟩ := cb4_ BK344.out; obtain ⟨hfz49_0, hfz49_1, hfz49_2⟩ := bf3_ BK344.out; have hfz49_3 := blk_frozen BK344.out 3) | ((with_reducible refine gate_store (t := 34) (p := 7) rfl ?_); (try (rw [drewN_self w48]; generalize hq_ : World.drewN w48 _ = w48; replace HO_4 := am_ (Kd.R_at hq_ HO_4.out); replace BK344 := am_ (blk_at hq_ BK344.out); replace HB := am_ (below_at hq_ HB.out); clear hq_)); refine st_ (w1 := ((((w48.setCell ⟨gb344, 0, none⟩ (.int .i64 t339)).setCell ⟨gb344, 1, none⟩ (.int .i64 t340)).setCell ⟨gb344, 2, none⟩ (.int .i64 t341)).setCell ⟨gb344, 3, none⟩ (.int .i64 t342))) ?_; intro w50 hw; replace HO_4 : Aside0 (Kd.R (Kd.int .u8) 5 w50 w.heap.size (fun _ => True) (.slice Ao46 x4_3.length co46) x4_3) := ⟨(by rw [hw]; exact (by (with_reducible repeat (first | apply Kd.R_alloc | apply Kd.R_drewN | apply Kd.R_drew)); exact Kd.R_mono (Rf4_ (g := gb344) (Kd.R_types HO_4.out BK344.out (by decide))) (fun _ hk => trivial)))⟩; replace BK344 : Aside0 (w50.heap[gb344]? = some (.cells #[.int .i64 t339, .int .i64 t340, .int .i64 t341, .int .i64 t342] 34 (0, 0))) := ⟨(by rw [hw]; exact (by (with_reducible repeat first|apply bn_|apply bd_|apply ba_); apply bp4_; (with_reducible repeat first|apply bn_|apply bd_|apply ba_); exact BK344.out))⟩; replace HB : Aside0 (Below w.heap.size w w50) := ⟨(by rw [hw]; exact (ue_ HB.out))⟩; clear hw))
           repeat (go_quiet (first | (go_at_call 80; (with_reducible refine (spec_l02Body.calls k3 _ _ x4_3 t339 t340 t341 t342 true _ ?side1 ?side2 A25.out).mono ?_); (case side1 => repeat (first | exact (Kd.R_reads' HO_4.out).2.2 | (with_reducible refine Kd.C_alloc ?_ _) | (with_reducible refine Kd.C_drewN ?_ _) | (with_reducible refine Kd.C_drew ?_))); (case side2 => exact (Kd.R_reads' HO_4.out).2.1); rintro e w47 ⟨rfl, hb⟩; replace HO_4 := am_ (Kd.R_below (ur_ HO_4.out) hb); replace HB := am_ (below_step (ue_ HB.out) hb); (try clear hb); (try clear hb2); (try clear hk); (try clear hi)) | ((with_reducible refine gate_dst (N := 7) rfl ?_); (try (refine gate_guard (by rfl) ?_; dsimp only)); refine bx_ (N := 7) (cs := #[.int .i64 0, .int .i64 0, .int .i64 0, .int .i64 0]) (t := 34) ?_; intro gb344 hg w48 hbox hb; replace HO_4 := am_ (Kd.R_below (ur_ HO_4.out) hb); have BK344 := am_ (hbox); have GW344 := am_ ((by rw [hg]; exact (below_size (ue_ HB.out)) : w.heap.size ≤ gb344)); have GE344 := am_ ((by rw [hg]; exact (below_size (ue_ HB.out)) : w.heap.size ≤ gb344)); replace HB := am_ (below_step (ue_ HB.out) hb); clear hb hbox hg; obtain ⟨hcz49_0, hcz49_1, hcz49_2, hcz49_3⟩ := cb4_ BK344.out; obtain ⟨hfz49_0, hfz49_1, hfz49_2⟩ := bf3_ BK344.out; have hfz49_3 := blk_frozen BK344.out 3) | ((with_reducible refine gate_store (t := 34) (p := 7) rfl ?_); (try (rw [drewN_self w48]; generalize hq_ : World.drewN w48 _ = w48; replace HO_4 := am_ (Kd.R_at hq_ HO_4.out); replace BK344 := am_ (blk_at hq_ BK344.out); replace HB := am_ (below_at hq_ HB.out); clear hq_)); refine st_ (w1 := ((((w48.setCell ⟨gb344, 0, none⟩ (.int .i64 t339)).setCell ⟨gb344, 1, none⟩ (.int .i64 t340)).setCell ⟨gb344, 2, none⟩ (.int .i64 t341)).setCell ⟨gb344, 3, none⟩ (.int .i64 t342))) ?_; intro w50 hw; replace HO_4 : Aside0 (Kd.R (Kd.int .u8) 5 w50 w.heap.size (fun _ => True) (.slice Ao46 x4_3.length co46) x4_3) := ⟨(by rw [hw]; exact (by (with_reducible repeat (first | apply Kd.R_alloc | apply Kd.R_drewN | apply Kd.R_drew)); exact Kd.R_mono (Rf4_ (g := gb344) (Kd.R_types HO_4.out BK344.out (by decide))) (fun _ hk => trivial)))⟩; replace BK344 : Aside0 (w50.heap[gb344]? = some (.cells #[.int .i64 t339, .int .i64 t340, .int .i64 t341, .int .i64 t342] 34 (0, 0))) := ⟨(by rw [hw]; exact (by (with_reducible repeat first|apply bn_|apply bd_|apply ba_); apply bp4_; (with_reducible repeat first|apply bn_|apply bd_|apply ba_); exact BK344.out))⟩; replace HB : Aside0 (Below w.heap.size w w50) := ⟨(by rw [hw]; exact (ue_ HB.out))⟩; clear hw)); try go_wp2_with (first | (go_at_call 80; (with_reducible refine (spec_l02Body.calls k3 _ _ x4_3 t339 t340 t341 t342 true _ ?side1 ?side2 A25.out).mono ?_); (case side1 => repeat (first | exact (Kd.R_reads' HO_4.out).2.2 | (with_reducible refine Kd.C_alloc ?_ _) | (with_reducible refine Kd.C_drewN ?_ _) | (with_reducible refine Kd.C_drew ?_))); (case side2 => exact (Kd.R_reads' HO_4.out).2.1); rintro e w47 ⟨rfl, hb⟩; replace HO_4 := am_ (Kd.R_below (ur_ HO_4.out) hb); replace HB := am_ (below_step (ue_ HB.out) hb); (try clear hb); (try clear hb2); (try clear hk); (try clear hi)) | ((with_reducible refine gate_dst (N := 7) rfl ?_); (try (refine gate_guard (by rfl) ?_; dsimp only)); refine bx_ (N := 7) (cs := #[.int .i64 0, .int .i64 0, .int .i64 0, .int .i64 0]) (t := 34) ?_; intro gb344 hg w48 hbox hb; replace HO_4 := am_ (Kd.R_below (ur_ HO_4.out) hb); have BK344 := am_ (hbox); have GW344 := am_ ((by rw [hg]; exact (below_size (ue_ HB.out)) : w.heap.size ≤ gb344)); have GE344 := am_ ((by rw [hg]; exact (below_size (ue_ HB.out)) : w.heap.size ≤ gb344)); replace HB := am_ (below_step (ue_ HB.out) hb); clear hb hbox hg; obtain ⟨hcz49_0, hcz49_1, hcz49_2, hcz49_3⟩ := cb4_ BK344.out; obtain ⟨hfz49_0, hfz49_1, hfz49_2⟩ := bf3_ BK344.out; have hfz49_3 := blk_frozen BK344.out 3) | ((with_reducible refine gate_store (t := 34) (p := 7) rfl ?_); (try (rw [drewN_self w48]; generalize hq_ : World.drewN w48 _ = w48; replace HO_4 := am_ (Kd.R_at hq_ HO_4.out); replace BK344 := am_ (blk_at hq_ BK344.out); replace HB := am_ (below_at hq_ HB.out); clear hq_)); refine st_ (w1 := ((((w48.setCell ⟨gb344, 0, none⟩ (.int .i64 t339)).setCell ⟨gb344, 1, none⟩ (.int .i64 t340)).setCell ⟨gb344, 2, none⟩ (.int .i64 t341)).setCell ⟨gb344, 3, none⟩ (.int .i64 t342))) ?_; intro w50 hw; replace HO_4 : Aside0 (Kd.R (Kd.int .u8) 5 w50 w.heap.size (fun _ => True) (.slice Ao46 x4_3.length co46) x4_3) := ⟨(by rw [hw]; exact (by (with_reducible repeat (first | apply Kd.R_alloc | apply Kd.R_drewN | apply Kd.R_drew)); exact Kd.R_mono (Rf4_ (g := gb344) (Kd.R_types HO_4.out BK344.out (by decide))) (fun _ hk => trivial)))⟩; replace BK344 : Aside0 (w50.heap[gb344]? = some (.cells #[.int .i64 t339, .int .i64 t340, .int .i64 t341, .int .i64 t342] 34 (0, 0))) := ⟨(by rw [hw]; exact (by (with_reducible repeat first|apply bn_|apply bd_|apply ba_); apply bp4_; (with_reducible repeat first|apply bn_|apply bd_|apply ba_); exact BK344.out))⟩; replace HB : Aside0 (Below w.heap.size w w50) := ⟨(by rw [hw]; exact (ue_ HB.out))⟩; clear hw)))
           go_ret
           exact ⟨ew_, ue_ HB.out⟩
          replace c26 := Bool.eq_false_iff.mpr c26
          subst c26
          have H1 : (some false) = some r := by rw [if_neg (show ¬ (false = true) by decide)] at H; exact H
          clear H
          have H := H1
          clear H1
          obtain rfl := Option.some.inj H
          obtain ⟨Ao51, co51, eo51⟩ := Kd.R_slice HO_4.out
          subst eo51
          go_wp2_with (first | (go_at_call 80; (with_reducible refine (spec_l02Body.calls k3 _ _ x4_3 t339 t340 t341 t342 false _ ?side1 ?side2 A25.out).mono ?_); (case side1 => repeat (first | exact (Kd.R_reads' HO_4.out).2.2 | (with_reducible refine Kd.C_alloc ?_ _) | (with_reducible refine Kd.C_drewN ?_ _) | (with_reducible refine Kd.C_drew ?_))); (case side2 => exact (Kd.R_reads' HO_4.out).2.1); rintro e w52 ⟨rfl, hb⟩; replace HO_4 := am_ (Kd.R_below (ur_ HO_4.out) hb); replace HB := am_ (below_step (ue_ HB.out) hb); (try clear hb); (try clear hb2); (try clear hk); (try clear hi)) | ((with_reducible refine gate_dst (N := 7) rfl ?_); (try (refine gate_guard (by rfl) ?_; dsimp only)); refine bx_ (N := 7) (cs := #[.int .i64 0, .int .i64 0, .int .i64 0, .int .i64 0]) (t := 34) ?_; intro gb344 hg w53 hbox hb; replace HO_4 := am_ (Kd.R_below (ur_ HO_4.out) hb); have BK344 := am_ (hbox); have GW344 := am_ ((by rw [hg]; exact (below_size (ue_ HB.out)) : w.heap.size ≤ gb344)); have GE344 := am_ ((by rw [hg]; exact (below_size (ue_ HB.out)) : w.heap.size ≤ gb344)); replace HB := am_ (below_step (ue_ HB.out) hb); clear hb hbox hg; obtain ⟨hcz54_0, hcz54_1, hcz54_2, hcz54_3⟩ := cb4_ BK344.out; obtain ⟨hfz54_0, hfz54_1, hfz54_2⟩ := bf3_ BK344.out; have hfz54_3 := blk_frozen BK344.out 3) | ((with_reducible refine gate_store (t := 34) (p := 7) rfl ?_); (try (rw [drewN_self w53]; generalize hq_ : World.drewN w53 _ = w53; replace HO_4 := am_ (Kd.R_at hq_ HO_4.out); replace BK344 := am_ (blk_at hq_ BK344.out); replace HB := am_ (below_at hq_ HB.out); clear hq_)); refine st_ (w1 := ((((w53.setCell ⟨gb344, 0, none⟩ (.int .i64 t339)).setCell ⟨gb344, 1, none⟩ (.int .i64 t340)).setCell ⟨gb344, 2, none⟩ (.int .i64 t341)).setCell ⟨gb344, 3, none⟩ (.int .i64 t342))) ?_; intro w55 hw; replace HO_4 : Aside0 (Kd.R (Kd.int .u8) 5 w55 w.heap.size (fun _ => True) (.slice Ao51 x4_3.length co51) x4_3) := ⟨(by rw [hw]; exact (by (with_reducible repeat (first | apply Kd.R_alloc | apply Kd.R_drewN | apply Kd.R_drew)); exact Kd.R_mono (Rf4_ (g := gb344) (Kd.R_types HO_4.out BK344.out (by decide))) (fun _ hk => trivial)))⟩; replace BK344 : Aside0 (w55.heap[gb344]? = some (.cells #[.int .i64 t339, .int .i64 t340, .int .i64 t341, .int .i64 t342] 34 (0, 0))) := ⟨(by rw [hw]; exact (by (with_reducible repeat first|apply bn_|apply bd_|apply ba_); apply bp4_; (with_reducible repeat first|apply bn_|apply bd_|apply ba_); exact BK344.out))⟩; replace HB : Aside0 (Below w.heap.size w w55) := ⟨(by rw [hw]; exact (ue_ HB.out))⟩; clear hw))
          repeat (go_quiet (first | (go_at_call 80; (with_reducible refine (spec_l02Body.calls k3 _ _ x4_3 t339 t340 t341 t342 false _ ?side1 ?side2 A25.out).mono ?_); (case side1 => repeat (first | exact (Kd.R_reads' HO_4.out).2.2 | (with_reducible refine Kd.C_alloc ?_ _) | (with_reducible refine Kd.C_drewN ?_ _) | (with_reducible refine Kd.C_drew ?_))); (case side2 => exact (Kd.R_reads' HO_4.out).2.1); rintro e w52 ⟨rfl, hb⟩; replace HO_4 := am_ (Kd.R_below (ur_ HO_4.out) hb); replace HB := am_ (below_step (ue_ HB.out) hb); (try clear hb); (try clear hb2); (try clear hk); (try clear hi)) | ((with_reducible refine gate_dst (N := 7) rfl ?_); (try (refine gate_guard (by rfl) ?_; dsimp only)); refine bx_ (N := 7) (cs := #[.int .i64 0, .int .i64 0, .int .i64 0, .int .i64 0]) (t := 34) ?_; intro gb344 hg w53 hbox hb; replace HO_4 := am_ (Kd.R_below (ur_ HO_4.out) hb); have BK344 := am_ (hbox); have GW344 := am_ ((by rw [hg]; exact (below_size (ue_ HB.out)) : w.heap.size ≤ gb344)); have GE344 := am_ ((by rw [hg]; exact (below_size (ue_ HB.out)) : w.heap.size ≤ gb344)); replace HB := am_ (below_step (ue_ HB.out) hb); clear hb hbox hg; obtain ⟨hcz54_0, hcz54_1, hcz54_2, hcz54_3⟩ := cb4_ BK344.out; obtain ⟨hfz54_0, hfz54_1, hfz54_2⟩ := bf3_ BK344.out; have hfz54_3 := blk_frozen BK344.out 3) | ((with_reducible refine gate_store (t := 34) (p := 7) rfl ?_); (try (rw [drewN_self w53]; generalize hq_ : World.drewN w53 _ = w53; replace HO_4 := am_ (Kd.R_at hq_ HO_4.out); replace BK344 := am_ (blk_at hq_ BK344.out); replace HB := am_ (below_at hq_ HB.out); clear hq_)); refine st_ (w1 := ((((w53.setCell ⟨gb344, 0, none⟩ (.int .i64 t339)).setCell ⟨gb344, 1, none⟩ (.int .i64 t340)).setCell ⟨gb344, 2, none⟩ (.int .i64 t341)).setCell ⟨gb344, 3, none⟩ (.int .i64 t342))) ?_; intro w55 hw; replace HO_4 : Aside0 (Kd.R (Kd.int .u8) 5 w55 w.heap.size (fun _ => True) (.slice Ao51 x4_3.length co51) x4_3) := ⟨(by rw [hw]; exact (by (with_reducible repeat (first | apply Kd.R_alloc | apply Kd.R_drewN | apply Kd.R_drew)); exact Kd.R_mono (Rf4_ (g := gb344) (Kd.R_types HO_4.out BK344.out (by decide))) (fun _ hk => trivial)))⟩; replace BK344 : Aside0 (w55.heap[gb344]? = some (.cells #[.int .i64 t339, .int .i64 t340, .int .i64 t341, .int .i64 t342] 34 (0, 0))) := ⟨(by rw [hw]; exact (by (with_reducible repeat first|apply bn_|apply bd_|apply ba_); apply bp4_; (with_reducible repeat first|apply bn_|apply bd_|apply ba_); exact BK344.out))⟩; replace HB : Aside0 (Below w.heap.size w w55) := ⟨(by rw [hw]; exact (ue_ HB.out))⟩; clear hw)); try go_wp2_with (first | (go_at_call 80; (with_reducible refine (spec_l02Body.calls k3 _ _ x4_3 t339 t340 t341 t342 false _ ?side1 ?side2 A25.out).mono ?_); (case side1 => repeat (first | exact (Kd.R_reads' HO_4.out).2.2 | (with_reducible refine Kd.C_alloc ?_ _) | (with_reducible refine Kd.C_drewN ?_ _) | (with_reducible refine Kd.C_drew ?_))); (case side2 => exact (Kd.R_reads' HO_4.out).2.1); rintro e w52 ⟨rfl, hb⟩; replace HO_4 := am_ (Kd.R_below (ur_ HO_4.out) hb); replace HB := am_ (below_step (ue_ HB.out) hb); (try clear hb); (try clear hb2); (try clear hk); (try clear hi)) | ((with_reducible refine gate_dst (N := 7) rfl ?_); (try (refine gate_guard (by rfl) ?_; dsimp only)); refine bx_ (N := 7) (cs := #[.int .i64 0, .int .i64 0, .int .i64 0, .int .i64 0]) (t := 34) ?_; intro gb344 hg w53 hbox hb; replace HO_4 := am_ (Kd.R_below (ur_ HO_4.out) hb); have BK344 := am_ (hbox); have GW344 := am_ ((by rw [hg]; exact (below_size (ue_ HB.out)) : w.heap.size ≤ gb344)); have GE344 := am_ ((by rw [hg]; exact (below_size (ue_ HB.out)) : w.heap.size ≤ gb344)); replace HB := am_ (below_step (ue_ HB.out) hb); clear hb hbox hg; obtain ⟨hcz54_0, hcz54_1, hcz54_2, hcz54_3⟩ := cb4_ BK344.out; obtain ⟨hfz54_0, hfz54_1, hfz54_2⟩ := bf3_ BK344.out; have hfz54_3 := blk_frozen BK344.out 3) | ((with_reducible refine gate_store (t := 34) (p := 7) rfl ?_); (try (rw [drewN_self w53]; generalize hq_ : World.drewN w53 _ = w53; replace HO_4 := am_ (Kd.R_at hq_ HO_4.out); replace BK344 := am_ (blk_at hq_ BK344.out); replace HB := am_ (below_at hq_ HB.out); clear hq_)); refine st_ (w1 := ((((w53.setCell ⟨gb344, 0, none⟩ (.int .i64 t339)).setCell ⟨gb344, 1, none⟩ (.int .i64 t340)).setCell ⟨gb344, 2, none⟩ (.int .i64 t341)).setCell ⟨gb344, 3, none⟩ (.int .i64 t342))) ?_; intro w55 hw; replace HO_4 : Aside0 (Kd.R (Kd.int .u8) 5 w55 w.heap.size (fun _ => True) (.slice Ao51 x4_3.length co51) x4_3) := ⟨(by rw [hw]; exact (by (with_reducible repeat (first | apply Kd.R_alloc | apply Kd.R_drewN | apply Kd.R_drew)); exact Kd.R_mono (Rf4_ (g := gb344) (Kd.R_types HO_4.out BK344.out (by decide))) (fun _ hk => trivial)))⟩; replace BK344 : Aside0 (w55.heap[gb344]? = some (.cells #[.int .i64 t339, .int .i64 t340, .int .i64 t341, .int .i64 t342] 34 (0, 0))) := ⟨(by rw [hw]; exact (by (with_reducible repeat first|apply bn_|apply bd_|apply ba_); apply bp4_; (with_reducible repeat first|apply bn_|apply bd_|apply ba_); exact BK344.out))⟩; replace HB : Aside0 (Below w.heap.size w w55) := ⟨(by rw [hw]; exact (ue_ HB.out))⟩; clear hw)))
          go_ret
          exact ⟨ew_, ue_ HB.out⟩
     rw [if_neg c11] at H
     have c11b0 : (t328 == (wrap64 (rd l0 0))) = false := beq_eq_false_iff_ne.mpr c11
     have c11b1 : (t328 != (wrap64 (rd l0 0))) = true := bne_iff_ne.mpr c11
     obtain rfl := Option.some.inj H
     have p327 : 0 ≤ (1 : Int) := (by omega)
     have q327 : 1 < (l0.length : Int) := of_decide_eq_true ua_
     obtain ⟨ad327, e327, hx327_0⟩ := Kd.at_int HR0.out 1 p327 q327
     obtain rfl : ad326 = ad327 := (by injection e327)
     (try simp only [show (1 : Int).toNat = 1 from rfl, Nat.reduceMul, Nat.reduceEqDiff, Go.Addr.add, ↓reduceIte] at hx327_0)
     have qi327 : (1 < l0.length) = True := eq_true (by omega)
     (try rw [show ((1 : Int)).toNat = 1 from rfl] at hx327_0)
     replace hx327_0 := bc_ HB.out hx327_0
     replace p327 := eq_true p327
     replace q327 := eq_true q327
     go_wp2_with (first | (go_at_call 98; (with_reducible refine (spec_l02Size.calls (wrap64 (rd l0 1)) t328 _ A10.out).mono ?_); rintro e w' ⟨rfl, ⟨nd, rfl⟩⟩; (try first | exact ⟨rfl, _, World.drewN_drewN _ _ _⟩ | exact ⟨rfl, _, Eq.trans (World.drewN_drewN _ _ _) (congrArg (World.drewN _) (Nat.add_assoc _ _ _))⟩)))
     repeat (go_quiet (first | (go_at_call 98; (with_reducible refine (spec_l02Size.calls (wrap64 (rd l0 1)) t328 _ A10.out).mono ?_); rintro e w' ⟨rfl, ⟨nd, rfl⟩⟩; (try first | exact ⟨rfl, _, World.drewN_drewN _ _ _⟩ | exact ⟨rfl, _, Eq.trans (World.drewN_drewN _ _ _) (congrArg (World.drewN _) (Nat.add_assoc _ _ _))⟩))); try go_wp2_with (first | (go_at_call 98; (with_reducible refine (spec_l02Size.calls (wrap64 (rd l0 1)) t328 _ A10.out).mono ?_); rintro e w' ⟨rfl, ⟨nd, rfl⟩⟩; (try first | exact ⟨rfl, _, World.drewN_drewN _ _ _⟩ | exact ⟨rfl, _, Eq.trans (World.drewN_drewN _ _ _) (congrArg (World.drewN _) (Nat.add_assoc _ _ _))⟩))))
     go_ret
     exact ⟨ew_, ue_ HB.out⟩
    rw [if_neg c9] at H
    exact absurd H (by simp)
 rw [if_neg c3] at H
 exact absurd H (by simp)

end Go.Proofs.Ytaofcalmgodgjaa.QFnPieces
