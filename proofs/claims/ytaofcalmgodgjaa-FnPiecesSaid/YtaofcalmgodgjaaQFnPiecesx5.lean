/- The machine side of a law: Lean functions with the Go functions' answers and the walks that show it. No condition. -/
import Derived.Test.YtaofcalmgodgjaaQFnPiecesx0
import Derived.Test.YtaofcalmgodgjaaQFnPiecesx2
import Derived.Test.YtaofcalmgodgjaaQFnPiecesx3
import Derived.Test.YtaofcalmgodgjaaQFnPiecesx4
namespace Go.Proofs.Ytaofcalmgodgjaa.QFnPieces
open Go.RowKit Go.Proofs.YtaofcalmgodgjaaW.PrintWords Go.Proofs.YtaofcalmgodgjaaW.PrintLast Go.Proofs.YtaofcalmgodgjaaW.PrintMore
attribute [local go_sem] max2_int min2_int max_two min_two max_three min_three max_four min_four   -- for this text's walks alone
set_option linter.unusedVariables false
set_option linter.unusedSimpArgs false

/-! ### spec_DrawAllFrames: function 14 -/
mutual
def spec_DrawAllFrames.j0 : Nat → List Int → List Int → Int → Int → Option (List Int)
 | 0, _, _, _, _ => none
 | k + 1, x4, x284000, x284001, x284002 => (spec_l01Once.f x284000 x284001 x284002 25).bind fun bt301 => (if bt301.1 = true then (spec_DrawAllFrames.l0 k x4 x284000 bt301.2.1 bt301.2.2) else (some x4))
def spec_DrawAllFrames.l0 : Nat → List Int → List Int → Int → Int → Option (List Int)
 | 0, _, _, _, _ => none
 | k + 1, x4, x284000, x284001, x284002 => (spec_l01Below.f x284000 x284001 x284002 3).bind fun bt304 => (if (x4.length : Int) < (wrap64 (399 + bt304.1)) then (if x4.length < 140737488355328 then (spec_DrawAllFrames.l0 k (x4 ++ [0]) x284000 bt304.2.1 bt304.2.2) else (none)) else (some x4))
end
def spec_DrawAllFrames.f (k : Nat) (l0 : List Int) : Option (List Int) := (spec_l01New.f k l0).bind fun bt280 => ((spec_l01Size.f l0 12).bind fun t284 => ((spec_l01Below.f bt280.1 bt280.2.1 bt280.2.2 t284).bind fun bt285 => ((spec_l02DrawStream.f k bt280.1 bt285.2.1 bt285.2.2 bt285.1).bind fun bt288 => ((spec_l01Once.f bt280.1 bt288.2.1 bt288.2.2 3).bind fun bt293 => (if bt293.1 = true then ((spec_l02BendBytes.f bt280.1 bt293.2.1 bt293.2.2 bt288.1).bind fun bt296 => (spec_DrawAllFrames.j0 k bt296.1 bt280.1 bt296.2.1 bt296.2.2)) else (spec_DrawAllFrames.j0 k bt288.1 bt280.1 bt293.2.1 bt293.2.2))))))
theorem spec_DrawAllFrames.mono_l : ∀ k, (∀ y0 y1 y2 y3, LeO (spec_DrawAllFrames.j0 k y0 y1 y2 y3) (spec_DrawAllFrames.j0 (k + 1) y0 y1 y2 y3)) ∧ (∀ y0 y1 y2 y3, LeO (spec_DrawAllFrames.l0 k y0 y1 y2 y3) (spec_DrawAllFrames.l0 (k + 1) y0 y1 y2 y3))
 | 0 => ⟨fun _ _ _ _ r h => by simp [spec_DrawAllFrames.j0] at h, fun _ _ _ _ r h => by simp [spec_DrawAllFrames.l0] at h⟩
 | k + 1 => by
  obtain ⟨ih0, ih1⟩ := spec_DrawAllFrames.mono_l k
  refine ⟨?_, ?_⟩
  ·
   intro y0 y1 y2 y3
   unfold spec_DrawAllFrames.j0
   repeat' first
   | (with_reducible exact ih0 _ _ _ _)
   | (with_reducible exact ih1 _ _ _ _)
   | (with_reducible exact spec_l01New.mono _ _)
   | (with_reducible exact spec_l02DrawStream.mono _ _ _ _ _)
   | (with_reducible exact LeO.refl _)
   | (with_reducible exact LeO.none _)
   | (with_reducible refine LeO.ite ?_ ?_)
   | (with_reducible refine LeO.bind ?_ (fun _ => ?_))
   | exact ih0 _ _ _ _
   | exact ih1 _ _ _ _
   | exact spec_l01New.mono _ _
   | exact spec_l02DrawStream.mono _ _ _ _ _
   | exact LeO.none _
   | refine LeO.ite ?_ ?_
   | refine LeO.bind ?_ (fun _ => ?_)
  intro y0 y1 y2 y3
  unfold spec_DrawAllFrames.l0
  repeat' first
  | (with_reducible exact ih0 _ _ _ _)
  | (with_reducible exact ih1 _ _ _ _)
  | (with_reducible exact spec_l01New.mono _ _)
  | (with_reducible exact spec_l02DrawStream.mono _ _ _ _ _)
  | (with_reducible exact LeO.refl _)
  | (with_reducible exact LeO.none _)
  | (with_reducible refine LeO.ite ?_ ?_)
  | (with_reducible refine LeO.bind ?_ (fun _ => ?_))
  | exact ih0 _ _ _ _
  | exact ih1 _ _ _ _
  | exact spec_l01New.mono _ _
  | exact spec_l02DrawStream.mono _ _ _ _ _
  | exact LeO.none _
  | refine LeO.ite ?_ ?_
  | refine LeO.bind ?_ (fun _ => ?_)
theorem spec_DrawAllFrames.mono : ∀ a0 k, LeO (spec_DrawAllFrames.f k a0) (spec_DrawAllFrames.f (k + 1) a0) := by
 intro a0 k
 obtain ⟨ih0, ih1⟩ := spec_DrawAllFrames.mono_l k
 unfold spec_DrawAllFrames.f
 repeat' first
   | (with_reducible exact ih0 _ _ _ _)
   | (with_reducible exact ih1 _ _ _ _)
   | (with_reducible exact spec_l01New.mono _ _)
   | (with_reducible exact spec_l02DrawStream.mono _ _ _ _ _)
   | (with_reducible exact LeO.refl _)
   | (with_reducible exact LeO.none _)
   | (with_reducible refine LeO.ite ?_ ?_)
   | (with_reducible refine LeO.bind ?_ (fun _ => ?_))
   | exact ih0 _ _ _ _
   | exact ih1 _ _ _ _
   | exact spec_l01New.mono _ _
   | exact spec_l02DrawStream.mono _ _ _ _ _
   | exact LeO.none _
   | refine LeO.ite ?_ ?_
   | refine LeO.bind ?_ (fun _ => ?_)
set_option maxHeartbeats 8000000 in
set_option maxRecDepth 100000 in
theorem spec_DrawAllFrames.calls (k : Nat) (A0 : Option Addr) (c0 : Nat) (l0 : List Int) (r : List Int) (w : World) (hr0 : Kd.C (Kd.int .u8) w A0 l0.length l0) (hc0 : l0.length ≤ c0) (h : spec_DrawAllFrames.f k l0 = some r) :
  Calls Try.prog 14 #[.slice A0 l0.length c0] w fun e w' => ∃ v0_ : Value, e = .returned (v0_) ∧ Kd.R (Kd.int .u8) 5 w' w.heap.size (fun _ => True) v0_ r ∧ Below w.heap.size w w' := by
 have HR0 := Aside0.mk hr0
 have HC0 := Aside0.mk hc0
 clear hr0 hc0
 have HB := am_ (Below.refl w.heap.size w)
 have H : ((spec_l01New.f k l0).bind fun bt280 => ((spec_l01Size.f l0 12).bind fun t284 => ((spec_l01Below.f bt280.1 bt280.2.1 bt280.2.2 t284).bind fun bt285 => ((spec_l02DrawStream.f k bt280.1 bt285.2.1 bt285.2.2 bt285.1).bind fun bt288 => ((spec_l01Once.f bt280.1 bt288.2.1 bt288.2.2 3).bind fun bt293 => (if bt293.1 = true then ((spec_l02BendBytes.f bt280.1 bt293.2.1 bt293.2.2 bt288.1).bind fun bt296 => (spec_DrawAllFrames.j0 k bt296.1 bt280.1 bt296.2.1 bt296.2.2)) else (spec_DrawAllFrames.j0 k bt288.1 bt280.1 bt293.2.1 bt293.2.2))))))) = some r := h
 clear h
 replace H := Option.bind_eq_some_iff.mp H
 obtain ⟨⟨t280, t281, t282⟩, A20, H⟩ := H
 replace H : ((spec_l01Size.f l0 12).bind fun t284 => ((spec_l01Below.f t280 t281 t282 t284).bind fun bt285 => ((spec_l02DrawStream.f k t280 bt285.2.1 bt285.2.2 bt285.1).bind fun bt288 => ((spec_l01Once.f t280 bt288.2.1 bt288.2.2 3).bind fun bt293 => (if bt293.1 = true then ((spec_l02BendBytes.f t280 bt293.2.1 bt293.2.2 bt288.1).bind fun bt296 => (spec_DrawAllFrames.j0 k bt296.1 t280 bt296.2.1 bt296.2.2)) else (spec_DrawAllFrames.j0 k bt288.1 t280 bt293.2.1 bt293.2.2)))))) = some r := H
 have A2 := Aside0.mk A20
 clear A20
 replace H := Option.bind_eq_some_iff.mp H
 obtain ⟨t284, A30, H⟩ := H
 replace H : ((spec_l01Below.f t280 t281 t282 t284).bind fun bt285 => ((spec_l02DrawStream.f k t280 bt285.2.1 bt285.2.2 bt285.1).bind fun bt288 => ((spec_l01Once.f t280 bt288.2.1 bt288.2.2 3).bind fun bt293 => (if bt293.1 = true then ((spec_l02BendBytes.f t280 bt293.2.1 bt293.2.2 bt288.1).bind fun bt296 => (spec_DrawAllFrames.j0 k bt296.1 t280 bt296.2.1 bt296.2.2)) else (spec_DrawAllFrames.j0 k bt288.1 t280 bt293.2.1 bt293.2.2))))) = some r := H
 have A3 := Aside0.mk A30
 clear A30
 replace H := Option.bind_eq_some_iff.mp H
 obtain ⟨⟨t285, t286, t287⟩, A40, H⟩ := H
 replace H : ((spec_l02DrawStream.f k t280 t286 t287 t285).bind fun bt288 => ((spec_l01Once.f t280 bt288.2.1 bt288.2.2 3).bind fun bt293 => (if bt293.1 = true then ((spec_l02BendBytes.f t280 bt293.2.1 bt293.2.2 bt288.1).bind fun bt296 => (spec_DrawAllFrames.j0 k bt296.1 t280 bt296.2.1 bt296.2.2)) else (spec_DrawAllFrames.j0 k bt288.1 t280 bt293.2.1 bt293.2.2)))) = some r := H
 have A4 := Aside0.mk A40
 clear A40
 replace H := Option.bind_eq_some_iff.mp H
 obtain ⟨⟨t288, t291, t292⟩, A50, H⟩ := H
 replace H : ((spec_l01Once.f t280 t291 t292 3).bind fun bt293 => (if bt293.1 = true then ((spec_l02BendBytes.f t280 bt293.2.1 bt293.2.2 t288).bind fun bt296 => (spec_DrawAllFrames.j0 k bt296.1 t280 bt296.2.1 bt296.2.2)) else (spec_DrawAllFrames.j0 k t288 t280 bt293.2.1 bt293.2.2))) = some r := H
 have A5 := Aside0.mk A50
 clear A50
 replace H := Option.bind_eq_some_iff.mp H
 obtain ⟨⟨t293, t294, t295⟩, A60, H⟩ := H
 replace H : (if t293 = true then ((spec_l02BendBytes.f t280 t294 t295 t288).bind fun bt296 => (spec_DrawAllFrames.j0 k bt296.1 t280 bt296.2.1 bt296.2.2)) else (spec_DrawAllFrames.j0 k t288 t280 t294 t295)) = some r := H
 have A6 := Aside0.mk A60
 clear A60
 have HC7 := Aside0.mk H
 clear H
 go_enter Try.func14, Try.ntmps14
 go_upto_if 14 with (first | ((with_reducible refine gate_callee (f := 48) rfl ?_); refine goesL_ (some 6) rfl rfl Try.func48 (by kernel_rfl) rfl #[.slice A0 l0.length c0] rfl ul_ ?_; (with_reducible refine (spec_l01New.calls k _ _ l0 t280 t281 t282 w _ ?side1 ?side2 ?side3 A2.out).mono ?_); (case side1 => repeat (first | (with_reducible first | exact HB.out | apply below_alloc | apply pw_below_drewN | apply below_drew1) | exact HB.out)); (case side2 => exact HR0.out); (case side3 => exact HC0.out); rintro e w8 ⟨g283, rfl, hi, hb, hb2⟩; refine ⟨_, rfl, ?_⟩; replace HB := am_ (hb); have HI283 := am_ (hi); (try clear hb); (try clear hb2); (try clear hk); (try clear hi)) | ((with_reducible refine gate_callee (f := 51) rfl ?_); refine goesL_ (some 10) rfl rfl Try.func51 (by kernel_rfl) rfl #[.slice A0 l0.length c0, .int .i64 12] rfl ul_ ?_; (with_reducible refine (spec_l01Size.calls _ _ l0 12 t284 _ ?side1 ?side2 A3.out).mono ?_); (case side1 => repeat (first | exact (Kd.C_below HR0.out HB.out) | (with_reducible refine Kd.C_alloc ?_ _) | (with_reducible refine Kd.C_drewN ?_ _) | (with_reducible refine Kd.C_drew ?_))); (case side2 => exact HC0.out); rintro e w' ⟨rfl, ⟨nd, rfl⟩⟩; refine ⟨_, rfl, ?_⟩) | ((with_reducible refine gate_callee (f := 50) rfl ?_); refine goesL_ (some 11) rfl rfl Try.func50 (by kernel_rfl) rfl #[.pointer (some ⟨g283, 0, none⟩), .int .i64 t284] rfl ul_ ?_; (with_reducible refine (spec_l01Below.calls g283 t280 t281 t282 t284 t285 t286 t287 w _ ?side1 ?side2 A4.out).mono ?_); (case side1 => exact us0_ HI283.out); (case side2 => repeat (first | (with_reducible first | exact HB.out | apply below_alloc | apply pw_below_drewN | apply below_drew1 | refine below_set ?_ (IsS93.ge HI283.out)) | exact HB.out)); rintro e w9 ⟨rfl, hi, hb, hk⟩; refine ⟨_, rfl, ?_⟩; replace HB := am_ (hb); replace HI283 := am_ (hi); (try clear hb); (try clear hb2); (try clear hk); (try clear hi)) | ((with_reducible refine gate_callee (f := 49) rfl ?_); refine goesL_ (some 12) rfl rfl Try.func49 (by kernel_rfl) rfl #[.pointer (some ⟨g283, 0, none⟩), .int .i64 t285] rfl ul_ ?_; (with_reducible refine (spec_l02DrawStream.calls k g283 t280 t286 t287 t285 t288 t291 t292 w _ ?side1 ?side2 A5.out).mono ?_); (case side1 => exact us0_ HI283.out); (case side2 => repeat (first | (with_reducible first | exact HB.out | apply below_alloc | apply pw_below_drewN | apply below_drew1 | refine below_set ?_ (IsS93.ge HI283.out)) | exact HB.out)); rintro e w10 ⟨v289, rfl, ho0, hi, hb, hk⟩; refine ⟨_, rfl, ?_⟩; have HO290 := am_ (Kd.R_lower ho0 (below_size (by repeat (first | (with_reducible first | exact HB.out | apply below_alloc | apply pw_below_drewN | apply below_drew1 | refine below_set ?_ (IsS93.ge HI283.out)) | exact HB.out)))); replace HB := am_ (hb); replace HI283 := am_ (hi); (try clear hb); (try clear hb2); (try clear hk); (try clear hi); (try clear ho0)) | ((with_reducible refine gate_callee (f := 52) rfl ?_); refine goesL_ (some 14) rfl rfl Try.func52 (by kernel_rfl) rfl #[.pointer (some ⟨g283, 0, none⟩), .int .i64 3] rfl ul_ ?_; (with_reducible refine (spec_l01Once.calls g283 t280 t291 t292 3 t293 t294 t295 w _ ?side1 ?side2 A6.out).mono ?_); (case side1 => exact us0_ HI283.out); (case side2 => repeat (first | (with_reducible first | exact HB.out | apply below_alloc | apply pw_below_drewN | apply below_drew1 | refine below_set ?_ (IsS93.ge HI283.out)) | exact HB.out)); rintro e w11 ⟨rfl, hi, hb, hk⟩; refine ⟨_, rfl, ?_⟩; replace HO290 := am_ (Kd.R_mono (Kd.R_keep (IsS93.apart (show IsS93 w _ g283 t280 t291 t292 from us0_ HI283.out) (ur_ HO290.out) (by decide)) hk (fun _ h => h.2)) (fun _ h => h.1)); replace HB := am_ (hb); replace HI283 := am_ (hi); (try clear hb); (try clear hb2); (try clear hk); (try clear hi)))
 (try simp only [Act.put, List.setIfInBounds_toArray, List.set_cons_zero, List.set_cons_succ])
 go_cut [4] (fun v4 wc => ∃ (kq : Nat) (x4_6 : List Int) (x284001_6 : Int) (x284002_6 : Int), Aside0 (spec_DrawAllFrames.j0 kq x4_6 t280 x284001_6 x284002_6 = some r) ∧ Aside0 (kq ≤ k) ∧ Aside0 (Kd.R (Kd.int .u8) 5 wc w.heap.size (fun _ => True) v4 x4_6) ∧ Aside0 (IsS93 w wc g283 t280 x284001_6 x284002_6) ∧ Aside0 (Below w.heap.size w wc))
 case first =>
  have H := HC7.out
  clear HC7
  by_cases c12 : t293 = true
  ·
   subst c12
   have H1 : ((spec_l02BendBytes.f t280 t294 t295 t288).bind fun bt296 => (spec_DrawAllFrames.j0 k bt296.1 t280 bt296.2.1 bt296.2.2)) = some r := by rw [if_pos rfl] at H; exact H
   clear H
   have H := H1
   clear H1
   replace H := Option.bind_eq_some_iff.mp H
   obtain ⟨⟨t296, t299, t300⟩, A130, H⟩ := H
   replace H : (spec_DrawAllFrames.j0 k t296 t280 t299 t300) = some r := H
   have A13 := Aside0.mk A130
   clear A130
   have H' := Aside0.mk H
   clear H
   obtain ⟨Ao14, co14, eo14⟩ := Kd.R_slice HO290.out
   subst eo14
   go_wp2_with (first | ((with_reducible refine gate_callee (f := 53) rfl ?_); refine goesL_ (some 17) rfl rfl Try.func53 (by kernel_rfl) rfl #[.pointer (some ⟨g283, 0, none⟩), .slice Ao14 t288.length co14] rfl ul_ ?_; (with_reducible refine (spec_l02BendBytes.calls g283 t280 t294 t295 (fun k_ => some k_ = (.slice Ao14 t288.length co14 : Value).ownBlock) (.slice Ao14 t288.length co14) t288 t296 t299 t300 w _ ?side1 ?side2 ?side3 A13.out).mono ?_); (case side1 => exact us0_ HI283.out); (case side2 => repeat (first | (with_reducible first | exact HB.out | apply below_alloc | apply pw_below_drewN | apply below_drew1 | refine below_set ?_ (IsS93.ge HI283.out)) | exact HB.out)); (case side3 => exact Kd.R_tight rfl HO290.out); rintro e w15 ⟨v297, rfl, ho0, hi, hb, hkp⟩; refine ⟨_, rfl, ?_⟩; replace HI283 := am_ (hi); have HO298 := am_ (Kd.R_mono (ok' := fun k_ => True) ho0 (fun k_ hk_ => trivial)); replace HB := am_ (hb); clear HO290; (try clear hb); (try clear hkp); (try clear ho0)))
   go_meet
   case rel => exact ⟨_, (t296), (t299), (t300), H', ⟨by first | omega | exact Nat.le_refl _⟩, ⟨by (with_reducible repeat (first | apply Kd.R_alloc | apply Kd.R_drewN | apply Kd.R_drew)); exact HO298.out⟩, ⟨us0_ HI283.out⟩, ⟨by repeat (first | (with_reducible first | exact HB.out | apply below_alloc | apply pw_below_drewN | apply below_drew1 | refine below_set ?_ (IsS93.ge HI283.out)) | exact HB.out)⟩⟩
  replace c12 := Bool.eq_false_iff.mpr c12
  subst c12
  have H1 : (spec_DrawAllFrames.j0 k t288 t280 t294 t295) = some r := by rw [if_neg (show ¬ (false = true) by decide)] at H; exact H
  clear H
  have H := H1
  clear H1
  have H' := Aside0.mk H
  clear H
  go_wp2
  go_meet
  case rel => exact ⟨_, (t288), (t294), (t295), H', ⟨by first | omega | exact Nat.le_refl _⟩, ⟨by (with_reducible repeat (first | apply Kd.R_alloc | apply Kd.R_drewN | apply Kd.R_drew)); exact HO290.out⟩, ⟨us0_ HI283.out⟩, ⟨by repeat (first | (with_reducible first | exact HB.out | apply below_alloc | apply pw_below_drewN | apply below_drew1 | refine below_set ?_ (IsS93.ge HI283.out)) | exact HB.out)⟩⟩
 case rest =>
  clear HC7
  try clear c1
  try clear p2
  try clear c4
  try clear c5
  try clear c12
  try clear c14
  obtain ⟨kq, x4_6, x284001_6, x284002_6, HA, HJ6, HO_4, HI283, HB⟩ := hcut
  cases kq with
  | zero => exact absurd HA.out (by simp [spec_DrawAllFrames.j0])
  | succ kj6 =>
   have H := HA.out
   clear HA
   simp only [spec_DrawAllFrames.j0] at H
   replace H := Option.bind_eq_some_iff.mp H
   obtain ⟨⟨t301, t302, t303⟩, A160, H⟩ := H
   replace H : (if t301 = true then (spec_DrawAllFrames.l0 kj6 x4_6 t280 t302 t303) else (some x4_6)) = some r := H
   have A16 := Aside0.mk A160
   clear A160
   by_cases c17 : t301 = true
   ·
    subst c17
    have H1 : (spec_DrawAllFrames.l0 kj6 x4_6 t280 t302 t303) = some r := by rw [if_pos rfl] at H; exact H
    clear H
    have H := H1
    clear H1
    have H' := Aside0.mk H
    clear H
    go_wp2_with (first | ((with_reducible refine gate_callee (f := 52) rfl ?_); refine goesL_ (some 19) rfl rfl Try.func52 (by kernel_rfl) rfl #[.pointer (some ⟨g283, 0, none⟩), .int .i64 25] rfl ul_ ?_; (with_reducible refine (spec_l01Once.calls g283 t280 x284001_6 x284002_6 25 true t302 t303 w _ ?side1 ?side2 A16.out).mono ?_); (case side1 => exact us0_ HI283.out); (case side2 => repeat (first | (with_reducible first | exact HB.out | apply below_alloc | apply pw_below_drewN | apply below_drew1 | refine below_set ?_ (IsS93.ge HI283.out)) | exact HB.out)); rintro e w18 ⟨rfl, hi, hb, hk⟩; refine ⟨_, rfl, ?_⟩; replace HO_4 := am_ (Kd.R_mono (Kd.R_keep (IsS93.apart (show IsS93 w _ g283 t280 x284001_6 x284002_6 from us0_ HI283.out) (ur_ HO_4.out) (by decide)) hk (fun _ h => h.2)) (fun _ h => h.1)); replace HB := am_ (hb); replace HI283 := am_ (hi); (try clear hb); (try clear hb2); (try clear hk); (try clear hi)))
    (try simp only [Act.put, List.setIfInBounds_toArray, List.set_cons_zero, List.set_cons_succ])
    go_loopg [4] kj6 (fun kq v4 w' => ∃ (x4_2 : List Int) (x284001_2 : Int) (x284002_2 : Int), Aside0 (spec_DrawAllFrames.l0 kq x4_2 t280 x284001_2 x284002_2 = some r) ∧ Aside0 (kq ≤ kj6) ∧ Aside0 (Kd.R (Kd.int .u8) 5 w' w.heap.size (fun _ => True) v4 x4_2) ∧ Aside0 (IsS93 w w' g283 t280 x284001_2 x284002_2) ∧ Aside0 (Below w.heap.size w w'))
    case atStart => exact ⟨(x4_6), (t302), (t303), H', ⟨Nat.le_refl _⟩, ⟨by (with_reducible repeat (first | apply Kd.R_alloc | apply Kd.R_drewN | apply Kd.R_drew)); exact HO_4.out⟩, ⟨us0_ HI283.out⟩, ⟨by repeat (first | (with_reducible first | exact HB.out | apply below_alloc | apply pw_below_drewN | apply below_drew1 | refine below_set ?_ (IsS93.ge HI283.out)) | exact HB.out)⟩⟩
    case round =>
     clear H'
     try clear c1
     try clear p2
     try clear c4
     try clear c5
     try clear c12
     try clear c14
     try clear c17
     try clear p2
     obtain ⟨x4_2, x284001_2, x284002_2, HA, HK2, HO_4, HI283, HB⟩ := hrel
     cases gk with
     | zero => exact absurd HA.out (by simp [spec_DrawAllFrames.l0])
     | succ k2 =>
      have H := HA.out
      clear HA
      simp only [spec_DrawAllFrames.l0] at H
      replace H := Option.bind_eq_some_iff.mp H
      obtain ⟨⟨t304, t305, t306⟩, A190, H⟩ := H
      replace H : (if (x4_2.length : Int) < (wrap64 (399 + t304)) then (if x4_2.length < 140737488355328 then (spec_DrawAllFrames.l0 k2 (x4_2 ++ [0]) t280 t305 t306) else (none)) else (some x4_2)) = some r := H
      have A19 := Aside0.mk A190
      clear A190
      by_cases c20 : (x4_2.length : Int) < (wrap64 (399 + t304))
      ·
       rw [if_pos c20] at H
       have c20b0 : decide ((x4_2.length : Int) < (wrap64 (399 + t304))) = true := decide_eq_true c20
       clear c20
       by_cases c21 : x4_2.length < 140737488355328
       ·
        rw [if_pos c21] at H
        have LMc21 := Aside0.mk c21
        clear c21
        obtain ⟨y307, hy307⟩ : ∃ y_ : List Int, y_ = (x4_2 ++ [0]) := ⟨_, rfl⟩
        replace H : (spec_DrawAllFrames.l0 k2 y307 t280 t305 t306) = some r := by first | (rw [hy307]; with_reducible exact H) | (have H2_ := (Option.bind_some _ _).symm.trans H; rw [hy307]; with_reducible exact H2_) | (have H2_ := (Option.bind_some _ _).symm.trans H; with_reducible exact H2_) | with_reducible exact H | (rw [hy307]; exact H) | exact H
        have Ny307 := Aside0.mk hy307
        clear hy307
        have H' := Aside0.mk H
        clear H
        obtain ⟨Ao22, co22, eo22⟩ := Kd.R_slice HO_4.out
        subst eo22
        go_wp2_with (first | ((with_reducible refine gate_callee (f := 50) rfl ?_); refine goesL_ (some 23) rfl rfl Try.func50 (by kernel_rfl) rfl #[.pointer (some ⟨g283, 0, none⟩), .int .i64 3] rfl ul_ ?_; (with_reducible refine (spec_l01Below.calls g283 t280 x284001_2 x284002_2 3 t304 t305 t306 w _ ?side1 ?side2 A19.out).mono ?_); (case side1 => exact us0_ HI283.out); (case side2 => repeat (first | (with_reducible first | exact HB.out | apply below_alloc | apply pw_below_drewN | apply below_drew1 | refine below_set ?_ (IsS93.ge HI283.out)) | exact HB.out)); rintro e w23 ⟨rfl, hi, hb, hk⟩; refine ⟨_, rfl, ?_⟩; replace HO_4 := am_ (Kd.R_mono (Kd.R_keep (IsS93.apart (show IsS93 w _ g283 t280 x284001_2 x284002_2 from us0_ HI283.out) (ur_ HO_4.out) (by decide)) hk (fun _ h => h.2)) (fun _ h => h.1)); replace HB := am_ (hb); replace HI283 := am_ (hi); (try clear hb); (try clear hb2); (try clear hk); (try clear hi)) | ((with_reducible refine gate_builtin (b := .append) (xs := #[.tmp 26, .tmp 27]) rfl ?_); at_builtin; refine Kd.R_append (Kd.int .u8) (w0 := w) w.heap.size rfl (.tmp 26) (.tmp 27) 39 5 (.int .u8 0) 1 rfl Try.underlying39 info5 rfl (by decide) (by omega) (.slice Ao22 x4_2.length co22) x4_2 0 [.int .u8 0] (fun _ => True) (fun _ => False) rfl rfl ?aP (fun _ hk => hk.elim) ?aF ?aO ?aB ?aS ?aL ?_; (case aP => exact rfl); (case aB => exact (by repeat (first | (with_reducible first | exact HB.out | apply below_alloc | apply pw_below_drewN | apply below_drew1 | refine below_set ?_ (IsS93.ge HI283.out)) | exact HB.out))); (case aF => exact (fun _ _ => trivial)); (case aO => exact (ur_ HO_4.out)); (case aS => exact (below_size (by repeat (first | (with_reducible first | exact HB.out | apply below_alloc | apply pw_below_drewN | apply below_drew1 | refine below_set ?_ (IsS93.ge HI283.out)) | exact HB.out)))); (case aL => have := LMc21.out; omega); intro v308 w24 ho hb hg hat; rw [← Ny307.out] at ho; replace HI283 := am_ (IsS93.grown (us0_ HI283.out) hg (IsS93.own_ne HI283.out HO_4.out (by decide))); replace HB := am_ (hb); have HO309 := am_ (ho); clear HO_4; clear ho hb hg hat))
        go_roundg k2
        case measure => have := HJ6.out; have := HK2.out; omega
        case rel => exact ⟨(y307), (t305), (t306), H', ⟨by have := HJ6.out; have := HK2.out; omega⟩, ⟨by (with_reducible repeat (first | apply Kd.R_alloc | apply Kd.R_drewN | apply Kd.R_drew)); exact HO309.out⟩, ⟨us0_ HI283.out⟩, ⟨by repeat (first | (with_reducible first | exact HB.out | apply below_alloc | apply pw_below_drewN | apply below_drew1 | refine below_set ?_ (IsS93.ge HI283.out)) | exact HB.out)⟩⟩
       rw [if_neg c21] at H
       exact absurd H (by simp)
      rw [if_neg c20] at H
      have c20b0 : decide ((x4_2.length : Int) < (wrap64 (399 + t304))) = false := decide_eq_false c20
      clear c20
      obtain rfl := Option.some.inj H
      obtain ⟨Ao25, co25, eo25⟩ := Kd.R_slice HO_4.out
      subst eo25
      go_wp2_with (first | ((with_reducible refine gate_callee (f := 50) rfl ?_); refine goesL_ (some 23) rfl rfl Try.func50 (by kernel_rfl) rfl #[.pointer (some ⟨g283, 0, none⟩), .int .i64 3] rfl ul_ ?_; (with_reducible refine (spec_l01Below.calls g283 t280 x284001_2 x284002_2 3 t304 t305 t306 w _ ?side1 ?side2 A19.out).mono ?_); (case side1 => exact us0_ HI283.out); (case side2 => repeat (first | (with_reducible first | exact HB.out | apply below_alloc | apply pw_below_drewN | apply below_drew1 | refine below_set ?_ (IsS93.ge HI283.out)) | exact HB.out)); rintro e w26 ⟨rfl, hi, hb, hk⟩; refine ⟨_, rfl, ?_⟩; replace HO_4 := am_ (Kd.R_mono (Kd.R_keep (IsS93.apart (show IsS93 w _ g283 t280 x284001_2 x284002_2 from us0_ HI283.out) (ur_ HO_4.out) (by decide)) hk (fun _ h => h.2)) (fun _ h => h.1)); replace HB := am_ (hb); replace HI283 := am_ (hi); (try clear hb); (try clear hb2); (try clear hk); (try clear hi)))
      go_ret
      exact ⟨_, ew_, by (with_reducible repeat (first | apply Kd.R_alloc | apply Kd.R_drewN | apply Kd.R_drew)); exact HO_4.out, by repeat (first | (with_reducible first | exact HB.out | apply below_alloc | apply pw_below_drewN | apply below_drew1 | refine below_set ?_ (IsS93.ge HI283.out)) | exact HB.out)⟩
   replace c17 := Bool.eq_false_iff.mpr c17
   subst c17
   have H1 : (some x4_6) = some r := by rw [if_neg (show ¬ (false = true) by decide)] at H; exact H
   clear H
   have H := H1
   clear H1
   obtain rfl := Option.some.inj H
   go_wp2_with (first | ((with_reducible refine gate_callee (f := 52) rfl ?_); refine goesL_ (some 19) rfl rfl Try.func52 (by kernel_rfl) rfl #[.pointer (some ⟨g283, 0, none⟩), .int .i64 25] rfl ul_ ?_; (with_reducible refine (spec_l01Once.calls g283 t280 x284001_6 x284002_6 25 false t302 t303 w _ ?side1 ?side2 A16.out).mono ?_); (case side1 => exact us0_ HI283.out); (case side2 => repeat (first | (with_reducible first | exact HB.out | apply below_alloc | apply pw_below_drewN | apply below_drew1 | refine below_set ?_ (IsS93.ge HI283.out)) | exact HB.out)); rintro e w27 ⟨rfl, hi, hb, hk⟩; refine ⟨_, rfl, ?_⟩; replace HO_4 := am_ (Kd.R_mono (Kd.R_keep (IsS93.apart (show IsS93 w _ g283 t280 x284001_6 x284002_6 from us0_ HI283.out) (ur_ HO_4.out) (by decide)) hk (fun _ h => h.2)) (fun _ h => h.1)); replace HB := am_ (hb); replace HI283 := am_ (hi); (try clear hb); (try clear hb2); (try clear hk); (try clear hi)))
   go_ret
   exact ⟨_, ew_, by (with_reducible repeat (first | apply Kd.R_alloc | apply Kd.R_drewN | apply Kd.R_drew)); exact HO_4.out, by repeat (first | (with_reducible first | exact HB.out | apply below_alloc | apply pw_below_drewN | apply below_drew1 | refine below_set ?_ (IsS93.ge HI283.out)) | exact HB.out)⟩

/-! ### spec_l02Size: function 98 -/
def spec_l02Size.f (a0 : Int) : Option (Int) := if a0 = 1 then (some 9) else (if a0 = 2 then (some 4) else (if a0 = 3 then (some 1) else (some 0)))
set_option maxHeartbeats 8000000 in
set_option maxRecDepth 100000 in
theorem spec_l02Size.calls (a0 : Int) (r : Int) (w : World) (h : spec_l02Size.f a0 = some r) :
  Calls Try.prog 98 #[.int .i64 a0] w fun e w' => e = .returned (.int .i64 r) ∧ Drawn0 w w' := by
 have H : (if a0 = 1 then (some 9) else (if a0 = 2 then (some 4) else (if a0 = 3 then (some 1) else (some 0)))) = some r := h
 clear h
 by_cases c2 : a0 = 1
 ·
  rw [if_pos c2] at H
  have c2b0 : (a0 == 1) = true := beq_iff_eq.mpr c2
  have c2b1 : (a0 != 1) = false := bne_eq_false_iff_eq.mpr c2
  clear c2
  obtain rfl := Option.some.inj H
  go_enter Try.func98, Try.ntmps98
  go_wp2
  go_ret
  exact ⟨by first | rfl | (simp; done) | (simp [*]; done), by repeat (first | exact Drawn0.refl _ | apply Drawn0.step)⟩
 rw [if_neg c2] at H
 have c2b0 : (a0 == 1) = false := beq_eq_false_iff_ne.mpr c2
 have c2b1 : (a0 != 1) = true := bne_iff_ne.mpr c2
 by_cases c3 : a0 = 2
 ·
  rw [if_pos c3] at H
  have c3b0 : (a0 == 2) = true := beq_iff_eq.mpr c3
  have c3b1 : (a0 != 2) = false := bne_eq_false_iff_eq.mpr c3
  clear c3
  obtain rfl := Option.some.inj H
  go_enter Try.func98, Try.ntmps98
  go_wp2
  go_ret
  exact ⟨by first | rfl | (simp; done) | (simp [*]; done), by repeat (first | exact Drawn0.refl _ | apply Drawn0.step)⟩
 rw [if_neg c3] at H
 have c3b0 : (a0 == 2) = false := beq_eq_false_iff_ne.mpr c3
 have c3b1 : (a0 != 2) = true := bne_iff_ne.mpr c3
 by_cases c4 : a0 = 3
 ·
  rw [if_pos c4] at H
  have c4b0 : (a0 == 3) = true := beq_iff_eq.mpr c4
  have c4b1 : (a0 != 3) = false := bne_eq_false_iff_eq.mpr c4
  clear c4
  obtain rfl := Option.some.inj H
  go_enter Try.func98, Try.ntmps98
  go_wp2
  go_ret
  exact ⟨by first | rfl | (simp; done) | (simp [*]; done), by repeat (first | exact Drawn0.refl _ | apply Drawn0.step)⟩
 rw [if_neg c4] at H
 have c4b0 : (a0 == 3) = false := beq_eq_false_iff_ne.mpr c4
 have c4b1 : (a0 != 3) = true := bne_iff_ne.mpr c4
 obtain rfl := Option.some.inj H
 go_enter Try.func98, Try.ntmps98
 go_wp2
 go_ret
 exact ⟨by first | rfl | (simp; done) | (simp [*]; done), by repeat (first | exact Drawn0.refl _ | apply Drawn0.step)⟩

/-! ### spec_l02Read: function 99 -/
def spec_l02Read.l0 : Nat → List Int → Int → Int → Option (Int)
 | 0, _, _, _ => none
 | k + 1, x0, x3, x4 => if x4 < (x0.length : Int) then (if 0 ≤ x4 then (spec_l02Read.l0 k x0 (wrap64 ((wrap64 (256 * x3)) + (wrap64 (rd x0 x4)))) (wrap64 (x4 + 1))) else (none)) else (some x3)
def spec_l02Read.f (k : Nat) (l0 : List Int) : Option (Int) := spec_l02Read.l0 k l0 0 0
theorem spec_l02Read.mono_l : ∀ k, (∀ y0 y1 y2, LeO (spec_l02Read.l0 k y0 y1 y2) (spec_l02Read.l0 (k + 1) y0 y1 y2))
 | 0 => fun _ _ _ r h => by simp [spec_l02Read.l0] at h
 | k + 1 => by
  have ih0 := spec_l02Read.mono_l k
  intro y0 y1 y2
  unfold spec_l02Read.l0
  repeat' first
  | (with_reducible exact ih0 _ _ _)
  | (with_reducible exact LeO.refl _)
  | (with_reducible exact LeO.none _)
  | (with_reducible refine LeO.ite ?_ ?_)
  | (with_reducible refine LeO.bind ?_ (fun _ => ?_))
  | exact ih0 _ _ _
  | exact LeO.none _
  | refine LeO.ite ?_ ?_
  | refine LeO.bind ?_ (fun _ => ?_)
theorem spec_l02Read.mono : ∀ a0 k, LeO (spec_l02Read.f k a0) (spec_l02Read.f (k + 1) a0) := by
 intro a0 k
 have ih0 := spec_l02Read.mono_l k
 unfold spec_l02Read.f
 repeat' first
   | (with_reducible exact ih0 _ _ _)
   | (with_reducible exact LeO.refl _)
   | (with_reducible exact LeO.none _)
   | (with_reducible refine LeO.ite ?_ ?_)
   | (with_reducible refine LeO.bind ?_ (fun _ => ?_))
   | exact ih0 _ _ _
   | exact LeO.none _
   | refine LeO.ite ?_ ?_
   | refine LeO.bind ?_ (fun _ => ?_)
set_option maxHeartbeats 8000000 in
set_option maxRecDepth 100000 in
theorem spec_l02Read.calls (k : Nat) (A0 : Option Addr) (c0 : Nat) (l0 : List Int) (r : Int) (w : World) (hr0 : Kd.C (Kd.int .u8) w A0 l0.length l0) (hc0 : l0.length ≤ c0) (h : spec_l02Read.f k l0 = some r) :
  Calls Try.prog 99 #[.slice A0 l0.length c0] w fun e w' => e = .returned (.int .i64 r) ∧ Drawn0 w w' := by
 have HR0 := Aside0.mk hr0
 have HC0 := Aside0.mk hc0
 clear hr0 hc0
 have H : (spec_l02Read.l0 k l0 0 0) = some r := h
 clear h
 have H' := Aside0.mk H
 clear H
 go_enter Try.func99, Try.ntmps99
 go_wp2
 (try simp only [Act.put, List.setIfInBounds_toArray, List.set_cons_zero, List.set_cons_succ])
 go_loopg [3, 4] k (fun kq v3 v4 w' => ∃ (x3_1 : Int) (x4_1 : Int), v3 = .int .i64 x3_1 ∧ v4 = .int .i64 x4_1 ∧ Aside0 (spec_l02Read.l0 kq l0 x3_1 x4_1 = some r) ∧ Aside0 (kq ≤ k) ∧ Drawn0 w w')
 case atStart => exact ⟨(0), (0), (by first | rfl | (simp; done) | (simp [*]; done)), (by first | rfl | (simp; done) | (simp [*]; done)), H', ⟨Nat.le_refl _⟩, by repeat (first | exact Drawn0.refl _ | apply Drawn0.step)⟩
 case round =>
  clear H'
  obtain ⟨x3_1, x4_1, rfl, rfl, HA, HK1, ⟨m1, rfl⟩⟩ := hrel
  cases gk with
  | zero => exact absurd HA.out (by simp [spec_l02Read.l0])
  | succ k1 =>
   have H := HA.out
   clear HA
   simp only [spec_l02Read.l0] at H
   by_cases c2 : x4_1 < (l0.length : Int)
   ·
    rw [if_pos c2] at H
    have c2b0 : decide (x4_1 < (l0.length : Int)) = true := decide_eq_true c2
    clear c2
    by_cases c3 : 0 ≤ x4_1
    ·
     rw [if_pos c3] at H
     have c3b0 : decide (0 ≤ x4_1) = true := decide_eq_true c3
     clear c3
     have H' := Aside0.mk H
     clear H
     have p310 : 0 ≤ (x4_1 : Int) := of_decide_eq_true ua_
     have q310 : x4_1 < (l0.length : Int) := of_decide_eq_true ua_
     obtain ⟨ad310, e310, hx310_0⟩ := Kd.at_int HR0.out x4_1 p310 q310
     cases e310
     replace p310 := eq_true p310
     replace q310 := eq_true q310
     go_wp2
     go_roundg k1
     case measure => have := HK1.out; omega
     case rel => exact ⟨(wrap64 ((wrap64 (256 * x3_1)) + (wrap64 (rd l0 x4_1)))), (wrap64 (x4_1 + 1)), (by first | rfl | (simp; done) | (simp [*]; done)), (by first | rfl | (simp; done) | (simp [*]; done)), H', ⟨by have := HK1.out; omega⟩, by repeat (first | exact Drawn0.refl _ | apply Drawn0.step)⟩
    rw [if_neg c3] at H
    exact absurd H (by simp)
   rw [if_neg c2] at H
   have c2b0 : decide (x4_1 < (l0.length : Int)) = false := decide_eq_false c2
   clear c2
   obtain rfl := Option.some.inj H
   go_wp2
   go_ret
   exact ⟨by first | rfl | (simp; done) | (simp [*]; done), by repeat (first | exact Drawn0.refl _ | apply Drawn0.step)⟩

/-! ### spec_l02Body: function 80 -/
def spec_l02Body.f (k : Nat) (l0 : List Int) : Option (Int × Int × Int × Int × Bool) := if 0 < (l0.length : Int) then ((spec_l02Size.f (wrap64 (rd l0 0))).bind fun t314 => (if (l0.length : Int) = t314 then (if (wrap64 (rd l0 0)) = 1 then (if 1 ≤ 3 then (if 3 ≤ (l0.length : Int) then ((spec_l02Read.f k ((l0.take 3).drop 1)).bind fun t316 => (if 3 ≤ 6 then (if 6 ≤ (l0.length : Int) then ((spec_l02Read.f k ((l0.take 6).drop 3)).bind fun t318 => (if 6 ≤ 9 then (if 9 ≤ (l0.length : Int) then ((spec_l02Read.f k ((l0.take 9).drop 6)).bind fun t320 => ((spec_FrameOk.f (wrap64 (rd l0 0)) t316 t318 (wrap64 (t320 - 1000000))).bind fun t321 => (if t321 = true then (some (wrap64 (rd l0 0), t316, t318, wrap64 (t320 - 1000000), true)) else (some (0, 0, 0, 0, false))))) else (none)) else (none))) else (none)) else (none))) else (none)) else (none)) else (if (wrap64 (rd l0 0)) = 2 then (if 1 ≤ 4 then (if 4 ≤ (l0.length : Int) then ((spec_l02Read.f k ((l0.take 4).drop 1)).bind fun t323 => ((spec_FrameOk.f (wrap64 (rd l0 0)) 0 t323 0).bind fun t324 => (if t324 = true then (some (wrap64 (rd l0 0), 0, t323, 0, true)) else (some (0, 0, 0, 0, false))))) else (none)) else (none)) else ((spec_FrameOk.f (wrap64 (rd l0 0)) 0 0 0).bind fun t325 => (if t325 = true then (some (wrap64 (rd l0 0), 0, 0, 0, true)) else (some (0, 0, 0, 0, false)))))) else (some (0, 0, 0, 0, false)))) else (none)
theorem spec_l02Body.mono : ∀ a0 k, LeO (spec_l02Body.f k a0) (spec_l02Body.f (k + 1) a0) := by
 intro a0 k
 unfold spec_l02Body.f
 repeat' first
   | (with_reducible exact spec_l02Read.mono _ _)
   | (with_reducible exact LeO.refl _)
   | (with_reducible exact LeO.none _)
   | (with_reducible refine LeO.ite ?_ ?_)
   | (with_reducible refine LeO.bind ?_ (fun _ => ?_))
   | exact spec_l02Read.mono _ _
   | exact LeO.none _
   | refine LeO.ite ?_ ?_
   | refine LeO.bind ?_ (fun _ => ?_)
set_option maxHeartbeats 8000000 in
set_option maxRecDepth 100000 in
theorem spec_l02Body.calls (k : Nat) (A0 : Option Addr) (c0 : Nat) (l0 : List Int) (r1 : Int) (r2 : Int) (r3 : Int) (r4 : Int) (r5 : Bool) (w : World) (hr0 : Kd.C (Kd.int .u8) w A0 l0.length l0) (hc0 : l0.length ≤ c0) (h : spec_l02Body.f k l0 = some (r1, r2, r3, r4, r5)) :
  Calls Try.prog 80 #[.slice A0 l0.length c0] w fun e w' => e = .returned (.tuple #[.agg #[.int .i64 r1, .int .i64 r2, .int .i64 r3, .int .i64 r4], .bool r5]) ∧ Below w.heap.size w w' := by
 have hu34 := Try.underlying34
 have HR0 := Aside0.mk hr0
 have HC0 := Aside0.mk hc0
 clear hr0 hc0
 have HB := am_ (Below.refl w.heap.size w)
 have H : (if 0 < (l0.length : Int) then ((spec_l02Size.f (wrap64 (rd l0 0))).bind fun t314 => (if (l0.length : Int) = t314 then (if (wrap64 (rd l0 0)) = 1 then (if 1 ≤ 3 then (if 3 ≤ (l0.length : Int) then ((spec_l02Read.f k ((l0.take 3).drop 1)).bind fun t316 => (if 3 ≤ 6 then (if 6 ≤ (l0.length : Int) then ((spec_l02Read.f k ((l0.take 6).drop 3)).bind fun t318 => (if 6 ≤ 9 then (if 9 ≤ (l0.length : Int) then ((spec_l02Read.f k ((l0.take 9).drop 6)).bind fun t320 => ((spec_FrameOk.f (wrap64 (rd l0 0)) t316 t318 (wrap64 (t320 - 1000000))).bind fun t321 => (if t321 = true then (some (wrap64 (rd l0 0), t316, t318, wrap64 (t320 - 1000000), true)) else (some (0, 0, 0, 0, false))))) else (none)) else (none))) else (none)) else (none))) else (none)) else (none)) else (if (wrap64 (rd l0 0)) = 2 then (if 1 ≤ 4 then (if 4 ≤ (l0.length : Int) then ((spec_l02Read.f k ((l0.take 4).drop 1)).bind fun t323 => ((spec_FrameOk.f (wrap64 (rd l0 0)) 0 t323 0).bind fun t324 => (if t324 = true then (some (wrap64 (rd l0 0), 0, t323, 0, true)) else (some (0, 0, 0, 0, false))))) else (none)) else (none)) else ((spec_FrameOk.f (wrap64 (rd l0 0)) 0 0 0).bind fun t325 => (if t325 = true then (some (wrap64 (rd l0 0), 0, 0, 0, true)) else (some (0, 0, 0, 0, false)))))) else (some (0, 0, 0, 0, false)))) else (none)) = some (r1, r2, r3, r4, r5) := h
 clear h
 by_cases c2 : 0 < (l0.length : Int)
 ·
  rw [if_pos c2] at H
  have c2b0 : decide (0 < (l0.length : Int)) = true := decide_eq_true c2
  have c2b1 : decide (0 < l0.length) = true := decide_eq_true (by omega)
  clear c2
  replace H := Option.bind_eq_some_iff.mp H
  obtain ⟨t314, A30, H⟩ := H
  replace H : (if (l0.length : Int) = t314 then (if (wrap64 (rd l0 0)) = 1 then (if 1 ≤ 3 then (if 3 ≤ (l0.length : Int) then ((spec_l02Read.f k ((l0.take 3).drop 1)).bind fun t316 => (if 3 ≤ 6 then (if 6 ≤ (l0.length : Int) then ((spec_l02Read.f k ((l0.take 6).drop 3)).bind fun t318 => (if 6 ≤ 9 then (if 9 ≤ (l0.length : Int) then ((spec_l02Read.f k ((l0.take 9).drop 6)).bind fun t320 => ((spec_FrameOk.f (wrap64 (rd l0 0)) t316 t318 (wrap64 (t320 - 1000000))).bind fun t321 => (if t321 = true then (some (wrap64 (rd l0 0), t316, t318, wrap64 (t320 - 1000000), true)) else (some (0, 0, 0, 0, false))))) else (none)) else (none))) else (none)) else (none))) else (none)) else (none)) else (if (wrap64 (rd l0 0)) = 2 then (if 1 ≤ 4 then (if 4 ≤ (l0.length : Int) then ((spec_l02Read.f k ((l0.take 4).drop 1)).bind fun t323 => ((spec_FrameOk.f (wrap64 (rd l0 0)) 0 t323 0).bind fun t324 => (if t324 = true then (some (wrap64 (rd l0 0), 0, t323, 0, true)) else (some (0, 0, 0, 0, false))))) else (none)) else (none)) else ((spec_FrameOk.f (wrap64 (rd l0 0)) 0 0 0).bind fun t325 => (if t325 = true then (some (wrap64 (rd l0 0), 0, 0, 0, true)) else (some (0, 0, 0, 0, false)))))) else (some (0, 0, 0, 0, false))) = some (r1, r2, r3, r4, r5) := H
  have A3 := Aside0.mk A30
  clear A30
  by_cases c4 : (l0.length : Int) = t314
  ·
   rw [if_pos c4] at H
   have c4b0 : ((l0.length : Int) == t314) = true := beq_iff_eq.mpr c4
   have c4b1 : ((l0.length : Int) != t314) = false := bne_eq_false_iff_eq.mpr c4
   clear c4
   by_cases c5 : (wrap64 (rd l0 0)) = 1
   ·
    rw [if_pos c5] at H
    have c5b0 : ((wrap64 (rd l0 0)) == 1) = true := beq_iff_eq.mpr c5
    have c5b1 : ((wrap64 (rd l0 0)) != 1) = false := bne_eq_false_iff_eq.mpr c5
    clear c5
    by_cases c6 : 1 ≤ 3
    ·
     rw [if_pos c6] at H
     have c6b0 := eq_true c6
     have c6b1 : decide (1 ≤ 3) = true := decide_eq_true c6
     clear c6
     by_cases c7 : 3 ≤ (l0.length : Int)
     ·
      rw [if_pos c7] at H
      have c7b0 := eq_true c7
      have c7b1 : decide (3 ≤ (l0.length : Int)) = true := decide_eq_true c7
      clear c7
      replace H := Option.bind_eq_some_iff.mp H
      obtain ⟨t316, A80, H⟩ := H
      replace H : (if 3 ≤ 6 then (if 6 ≤ (l0.length : Int) then ((spec_l02Read.f k ((l0.take 6).drop 3)).bind fun t318 => (if 6 ≤ 9 then (if 9 ≤ (l0.length : Int) then ((spec_l02Read.f k ((l0.take 9).drop 6)).bind fun t320 => ((spec_FrameOk.f (wrap64 (rd l0 0)) t316 t318 (wrap64 (t320 - 1000000))).bind fun t321 => (if t321 = true then (some (wrap64 (rd l0 0), t316, t318, wrap64 (t320 - 1000000), true)) else (some (0, 0, 0, 0, false))))) else (none)) else (none))) else (none)) else (none)) = some (r1, r2, r3, r4, r5) := H
      have A8 := Aside0.mk A80
      clear A80
      by_cases c9 : 3 ≤ 6
      ·
       rw [if_pos c9] at H
       have c9b0 := eq_true c9
       have c9b1 : decide (3 ≤ 6) = true := decide_eq_true c9
       clear c9
       by_cases c10 : 6 ≤ (l0.length : Int)
       ·
        rw [if_pos c10] at H
        have c10b0 := eq_true c10
        have c10b1 : decide (6 ≤ (l0.length : Int)) = true := decide_eq_true c10
        clear c10
        replace H := Option.bind_eq_some_iff.mp H
        obtain ⟨t318, A110, H⟩ := H
        replace H : (if 6 ≤ 9 then (if 9 ≤ (l0.length : Int) then ((spec_l02Read.f k ((l0.take 9).drop 6)).bind fun t320 => ((spec_FrameOk.f (wrap64 (rd l0 0)) t316 t318 (wrap64 (t320 - 1000000))).bind fun t321 => (if t321 = true then (some (wrap64 (rd l0 0), t316, t318, wrap64 (t320 - 1000000), true)) else (some (0, 0, 0, 0, false))))) else (none)) else (none)) = some (r1, r2, r3, r4, r5) := H
        have A11 := Aside0.mk A110
        clear A110
        by_cases c12 : 6 ≤ 9
        ·
         rw [if_pos c12] at H
         have c12b0 := eq_true c12
         have c12b1 : decide (6 ≤ 9) = true := decide_eq_true c12
         clear c12
         by_cases c13 : 9 ≤ (l0.length : Int)
         ·
          rw [if_pos c13] at H
          have c13b0 := eq_true c13
          have c13b1 : decide (9 ≤ (l0.length : Int)) = true := decide_eq_true c13
          clear c13
          replace H := Option.bind_eq_some_iff.mp H
          obtain ⟨t320, A140, H⟩ := H
          replace H : ((spec_FrameOk.f (wrap64 (rd l0 0)) t316 t318 (wrap64 (t320 - 1000000))).bind fun t321 => (if t321 = true then (some (wrap64 (rd l0 0), t316, t318, wrap64 (t320 - 1000000), true)) else (some (0, 0, 0, 0, false)))) = some (r1, r2, r3, r4, r5) := H
          have A14 := Aside0.mk A140
          clear A140
          replace H := Option.bind_eq_some_iff.mp H
          obtain ⟨t321, A150, H⟩ := H
          replace H : (if t321 = true then (some (wrap64 (rd l0 0), t316, t318, wrap64 (t320 - 1000000), true)) else (some (0, 0, 0, 0, false))) = some (r1, r2, r3, r4, r5) := H
          have A15 := Aside0.mk A150
          clear A150
          by_cases c16 : t321 = true
          ·
           subst c16
           have H1 : (some (wrap64 (rd l0 0), t316, t318, wrap64 (t320 - 1000000), true)) = some (r1, r2, r3, r4, r5) := by rw [if_pos rfl] at H; exact H
           clear H
           have H := H1
           clear H1
           simp only [Option.some.injEq, Prod.mk.injEq] at H
           obtain ⟨rfl, rfl, rfl, rfl, rfl⟩ := H
           go_enter Try.func80, Try.ntmps80
           go_wp2_with (first | ((with_reducible refine gate_dst (N := 2) rfl ?_); refine bx_ (N := 2) (cs := #[.int .i64 0, .int .i64 0, .int .i64 0, .int .i64 0]) (t := 34) ?_; intro gb311 hg w17 hbox hb; have BK311 := am_ (hbox); have GW311 := am_ ((by rw [hg]; exact (below_size (ue_ HB.out)) : w.heap.size ≤ gb311)); have GE311 := am_ ((by rw [hg]; exact (below_size (ue_ HB.out)) : w.heap.size ≤ gb311)); replace HB := am_ (below_step (ue_ HB.out) hb); clear hb hbox hg; have p312 : 0 ≤ (0 : Int) := (by omega); have q312 : 0 < (l0.length : Int) := of_decide_eq_true ua_; obtain ⟨ad312, e312, hx312_0⟩ := Kd.at_int HR0.out 0 p312 q312; cases e312; have qi312 : (0 < l0.length) = True := eq_true (by omega); (try rw [show ((0 : Int)).toNat = 0 from rfl] at hx312_0); (try rw [Addr.add_zero'] at hx312_0); replace hx312_0 := bc_ HB.out hx312_0; replace p312 := eq_true p312; replace q312 := eq_true q312) | ((with_reducible refine gate_dst (N := 4) rfl ?_); refine bx_ (N := 4) (cs := #[.int .i64 0, .int .i64 0, .int .i64 0, .int .i64 0]) (t := 34) ?_; intro gb313 hg w18 hbox hb; have BK313 := am_ (hbox); have GW313 := am_ ((by rw [hg]; exact (below_size (ue_ HB.out)) : w.heap.size ≤ gb313)); have GE313 := am_ ((by rw [hg]; exact (below_size (ue_ HB.out)) : w.heap.size ≤ gb313)); replace HB := am_ (below_step (ue_ HB.out) hb); have NB311_313 := am_ ((by rw [hg]; exact Nat.ne_of_lt (bl_ BK311.out) : gb311 ≠ gb313)); have NB313_311 := am_ ((by rw [hg]; exact Nat.ne_of_gt (bl_ BK311.out) : gb313 ≠ gb311)); replace BK311 := am_ (bb_ BK311.out hb); clear hb hbox hg; have hnb19 := NB313_311.out; have hnc19 := NB311_313.out; obtain ⟨hcz20_0, hcz20_1, hcz20_2, hcz20_3⟩ := cb4_ BK313.out; obtain ⟨hfz20_0, hfz20_1, hfz20_2⟩ := bf3_ BK313.out; have hfz20_3 := blk_frozen BK313.out 3) | ((with_reducible refine gate_store (t := 34) (p := 4) rfl ?_); refine st_ (w1 := ((((w18.setCell ⟨gb313, 0, none⟩ (.int .i64 (wrap64 (rd l0 0)))).setCell ⟨gb313, 1, none⟩ (.int .i64 0)).setCell ⟨gb313, 2, none⟩ (.int .i64 0)).setCell ⟨gb313, 3, none⟩ (.int .i64 0))) ?_; intro w21 hw; replace BK311 : Aside0 (w21.heap[gb311]? = some (.cells #[.int .i64 0, .int .i64 0, .int .i64 0, .int .i64 0] 34 (0, 0))) := ⟨(by rw [hw]; exact (uf_ BK311.out))⟩; replace BK313 : Aside0 (w21.heap[gb313]? = some (.cells #[.int .i64 (wrap64 (rd l0 0)), .int .i64 0, .int .i64 0, .int .i64 0] 34 (0, 0))) := ⟨(by rw [hw]; exact (by (with_reducible repeat first|apply bn_|apply bd_|apply ba_); apply bp4_; (with_reducible repeat first|apply bn_|apply bd_|apply ba_); exact BK313.out))⟩; replace HB : Aside0 (Below w.heap.size w w21) := ⟨(by rw [hw]; exact (ue_ HB.out))⟩; clear hw; obtain ⟨hcz22_0, hcz22_1, hcz22_2, hcz22_3⟩ := cb4_ BK313.out; obtain ⟨hfz22_0, hfz22_1, hfz22_2⟩ := bf3_ BK313.out; have hfz22_3 := blk_frozen BK313.out 3) | ((with_reducible refine gate_callee (f := 98) rfl ?_); refine goesL_ (some 14) rfl rfl Try.func98 (by kernel_rfl) rfl #[.int .i64 (wrap64 (rd l0 0))] rfl ul_ ?_; (with_reducible refine (spec_l02Size.calls (wrap64 (rd l0 0)) t314 _ A3.out).mono ?_); rintro e w' ⟨rfl, ⟨nd, rfl⟩⟩; refine ⟨_, rfl, ?_⟩; (try (rw [drewN_self w21]; generalize hq_ : World.drewN w21 _ = w21; replace BK311 : Aside0 (w21.heap[gb311]? = some (.cells #[.int .i64 0, .int .i64 0, .int .i64 0, .int .i64 0] 34 (0, 0))) := ⟨by rw [← hq_]; exact (ub_ BK311.out)⟩; replace BK313 : Aside0 (w21.heap[gb313]? = some (.cells #[.int .i64 (wrap64 (rd l0 0)), .int .i64 0, .int .i64 0, .int .i64 0] 34 (0, 0))) := ⟨by rw [← hq_]; exact (ub_ BK313.out)⟩; replace HB : Aside0 (Below w.heap.size w w21) := ⟨by rw [← hq_]; exact (ue_ HB.out)⟩; clear hq_)); obtain ⟨hcz23_0, hcz23_1, hcz23_2, hcz23_3⟩ := cb4_ BK313.out; obtain ⟨hfz23_0, hfz23_1, hfz23_2, hfz23_3⟩ := bf4_ BK313.out; obtain ⟨i024, hi024, _, hsz24, _⟩ := info_parts info5; obtain ⟨A24, hcut24, hA24, hC24⟩ := print_mid_of (P := Try.prog) (Value.int .u8) 0 39 5 .i64 .i64 Try.underlying39 hi024 hsz24 (some ad312) c0 l0 1 3 (by omega) (by first | omega | exact of_decide_eq_true ua_) (of_decide_eq_true ua_) HC0.out; have HR315 := am_ (Kd.C_of_reads (h1 := fun _ => rfl) (hA24 _ (Kd.reads_of_C HR0.out))); have HC315 := Aside0.mk hC24; clear hA24 hC24 hi024 hsz24) | ((with_reducible refine gate_callee (f := 99) rfl ?_); refine goesL_ (some 23) rfl rfl Try.func99 (by kernel_rfl) rfl #[.slice A24 ((l0.take 3).drop 1).length (c0 - 1)] rfl (by (try simp only [List.map_toArray, List.map_cons, List.map_nil]); first | done | (rw [show ((l0.take 3).drop 1).length = (3 - 1) from (by rw [List.length_drop, List.length_take]; have h_ : (3 : Int) ≤ (l0.length : Int) := of_decide_eq_true ua_; omega)] <;> rfl) | rfl | (simp only [List.length_drop, List.length_take]; rfl)) ?_; (with_reducible refine (spec_l02Read.calls k _ _ ((l0.take 3).drop 1) t316 _ ?side1 ?side2 A8.out).mono ?_); (case side1 => repeat (first | exact (Kd.C_below HR315.out HB.out) | (with_reducible refine Kd.C_alloc ?_ _) | (with_reducible refine Kd.C_drewN ?_ _) | (with_reducible refine Kd.C_drew ?_))); (case side2 => exact HC315.out); rintro e w' ⟨rfl, ⟨nd, rfl⟩⟩; refine ⟨_, rfl, ?_⟩; (try (rw [drewN_self w21]; generalize hq_ : World.drewN w21 _ = w21; replace BK311 : Aside0 (w21.heap[gb311]? = some (.cells #[.int .i64 0, .int .i64 0, .int .i64 0, .int .i64 0] 34 (0, 0))) := ⟨by rw [← hq_]; exact (ub_ BK311.out)⟩; replace BK313 : Aside0 (w21.heap[gb313]? = some (.cells #[.int .i64 (wrap64 (rd l0 0)), .int .i64 0, .int .i64 0, .int .i64 0] 34 (0, 0))) := ⟨by rw [← hq_]; exact (ub_ BK313.out)⟩; replace HB : Aside0 (Below w.heap.size w w21) := ⟨by rw [← hq_]; exact (ue_ HB.out)⟩; clear hq_)); obtain ⟨hcz25_0, hcz25_1, hcz25_2, hcz25_3⟩ := cb4_ BK313.out; obtain ⟨hfz25_0, hfz25_1, hfz25_2⟩ := bf3_ BK313.out; have hfz25_3 := blk_frozen BK313.out 3) | ((with_reducible refine gate_store (t := 3) (p := 24) rfl ?_); refine st_ (w1 := (w21.setCell ⟨gb313, 1, none⟩ (.int .i64 t316))) ?_; intro w26 hw; replace BK311 : Aside0 (w26.heap[gb311]? = some (.cells #[.int .i64 0, .int .i64 0, .int .i64 0, .int .i64 0] 34 (0, 0))) := ⟨(by rw [hw]; exact (uf_ BK311.out))⟩; replace BK313 : Aside0 (w26.heap[gb313]? = some (.cells #[.int .i64 (wrap64 (rd l0 0)), .int .i64 t316, .int .i64 0, .int .i64 0] 34 (0, 0))) := ⟨(by rw [hw]; exact (by (with_reducible repeat first|apply bn_|apply bd_|apply ba_); refine blk_put (cs := #[.int .i64 (wrap64 (rd l0 0)), .int .i64 0, .int .i64 0, .int .i64 0]) ?_ 1 _ rfl; (with_reducible repeat first|apply bn_|apply bd_|apply ba_); exact BK313.out))⟩; replace HB : Aside0 (Below w.heap.size w w26) := ⟨(by rw [hw]; exact (ue_ HB.out))⟩; clear hw; obtain ⟨i027, hi027, _, hsz27, _⟩ := info_parts info5; obtain ⟨A27, hcut27, hA27, hC27⟩ := print_mid_of (P := Try.prog) (Value.int .u8) 0 39 5 .i64 .i64 Try.underlying39 hi027 hsz27 (some ad312) c0 l0 3 6 (by omega) (by first | omega | exact of_decide_eq_true ua_) (of_decide_eq_true ua_) HC0.out; have HR317 := am_ (Kd.C_of_reads (h1 := fun _ => rfl) (hA27 _ (Kd.reads_of_C HR0.out))); have HC317 := Aside0.mk hC27; clear hA27 hC27 hi027 hsz27) | ((with_reducible refine gate_callee (f := 99) rfl ?_); refine goesL_ (some 27) rfl rfl Try.func99 (by kernel_rfl) rfl #[.slice A27 ((l0.take 6).drop 3).length (c0 - 3)] rfl (by (try simp only [List.map_toArray, List.map_cons, List.map_nil]); first | done | (rw [show ((l0.take 6).drop 3).length = (6 - 3) from (by rw [List.length_drop, List.length_take]; have h_ : (6 : Int) ≤ (l0.length : Int) := of_decide_eq_true ua_; omega)] <;> rfl) | rfl | (simp only [List.length_drop, List.length_take]; rfl)) ?_; (with_reducible refine (spec_l02Read.calls k _ _ ((l0.take 6).drop 3) t318 _ ?side1 ?side2 A11.out).mono ?_); (case side1 => repeat (first | exact (Kd.C_below HR317.out HB.out) | (with_reducible refine Kd.C_alloc ?_ _) | (with_reducible refine Kd.C_drewN ?_ _) | (with_reducible refine Kd.C_drew ?_))); (case side2 => exact HC317.out); rintro e w' ⟨rfl, ⟨nd, rfl⟩⟩; refine ⟨_, rfl, ?_⟩; (try (rw [drewN_self w26]; generalize hq_ : World.drewN w26 _ = w26; replace BK311 : Aside0 (w26.heap[gb311]? = some (.cells #[.int .i64 0, .int .i64 0, .int .i64 0, .int .i64 0] 34 (0, 0))) := ⟨by rw [← hq_]; exact (ub_ BK311.out)⟩; replace BK313 : Aside0 (w26.heap[gb313]? = some (.cells #[.int .i64 (wrap64 (rd l0 0)), .int .i64 t316, .int .i64 0, .int .i64 0] 34 (0, 0))) := ⟨by rw [← hq_]; exact (ub_ BK313.out)⟩; replace HB : Aside0 (Below w.heap.size w w26) := ⟨by rw [← hq_]; exact (ue_ HB.out)⟩; clear hq_)); obtain ⟨hcz28_0, hcz28_1, hcz28_2, hcz28_3⟩ := cb4_ BK313.out; obtain ⟨hfz28_0, hfz28_1, hfz28_2⟩ := bf3_ BK313.out; have hfz28_3 := blk_frozen BK313.out 3) | ((with_reducible refine gate_store (t := 3) (p := 28) rfl ?_); refine st_ (w1 := (w26.setCell ⟨gb313, 2, none⟩ (.int .i64 t318))) ?_; intro w29 hw; replace BK311 : Aside0 (w29.heap[gb311]? = some (.cells #[.int .i64 0, .int .i64 0, .int .i64 0, .int .i64 0] 34 (0, 0))) := ⟨(by rw [hw]; exact (uf_ BK311.out))⟩; replace BK313 : Aside0 (w29.heap[gb313]? = some (.cells #[.int .i64 (wrap64 (rd l0 0)), .int .i64 t316, .int .i64 t318, .int .i64 0] 34 (0, 0))) := ⟨(by rw [hw]; exact (by (with_reducible repeat first|apply bn_|apply bd_|apply ba_); refine blk_put (cs := #[.int .i64 (wrap64 (rd l0 0)), .int .i64 t316, .int .i64 0, .int .i64 0]) ?_ 2 _ rfl; (with_reducible repeat first|apply bn_|apply bd_|apply ba_); exact BK313.out))⟩; replace HB : Aside0 (Below w.heap.size w w29) := ⟨(by rw [hw]; exact (ue_ HB.out))⟩; clear hw; obtain ⟨i030, hi030, _, hsz30, _⟩ := info_parts info5; obtain ⟨A30, hcut30, hA30, hC30⟩ := print_mid_of (P := Try.prog) (Value.int .u8) 0 39 5 .i64 .i64 Try.underlying39 hi030 hsz30 (some ad312) c0 l0 6 9 (by omega) (by first | omega | exact of_decide_eq_true ua_) (of_decide_eq_true ua_) HC0.out; have HR319 := am_ (Kd.C_of_reads (h1 := fun _ => rfl) (hA30 _ (Kd.reads_of_C HR0.out))); have HC319 := Aside0.mk hC30; clear hA30 hC30 hi030 hsz30) | ((with_reducible refine gate_callee (f := 99) rfl ?_); refine goesL_ (some 31) rfl rfl Try.func99 (by kernel_rfl) rfl #[.slice A30 ((l0.take 9).drop 6).length (c0 - 6)] rfl (by (try simp only [List.map_toArray, List.map_cons, List.map_nil]); first | done | (rw [show ((l0.take 9).drop 6).length = (9 - 6) from (by rw [List.length_drop, List.length_take]; have h_ : (9 : Int) ≤ (l0.length : Int) := of_decide_eq_true ua_; omega)] <;> rfl) | rfl | (simp only [List.length_drop, List.length_take]; rfl)) ?_; (with_reducible refine (spec_l02Read.calls k _ _ ((l0.take 9).drop 6) t320 _ ?side1 ?side2 A14.out).mono ?_); (case side1 => repeat (first | exact (Kd.C_below HR319.out HB.out) | (with_reducible refine Kd.C_alloc ?_ _) | (with_reducible refine Kd.C_drewN ?_ _) | (with_reducible refine Kd.C_drew ?_))); (case side2 => exact HC319.out); rintro e w' ⟨rfl, ⟨nd, rfl⟩⟩; refine ⟨_, rfl, ?_⟩; (try (rw [drewN_self w29]; generalize hq_ : World.drewN w29 _ = w29; replace BK311 : Aside0 (w29.heap[gb311]? = some (.cells #[.int .i64 0, .int .i64 0, .int .i64 0, .int .i64 0] 34 (0, 0))) := ⟨by rw [← hq_]; exact (ub_ BK311.out)⟩; replace BK313 : Aside0 (w29.heap[gb313]? = some (.cells #[.int .i64 (wrap64 (rd l0 0)), .int .i64 t316, .int .i64 t318, .int .i64 0] 34 (0, 0))) := ⟨by rw [← hq_]; exact (ub_ BK313.out)⟩; replace HB : Aside0 (Below w.heap.size w w29) := ⟨by rw [← hq_]; exact (ue_ HB.out)⟩; clear hq_)); obtain ⟨hcz31_0, hcz31_1, hcz31_2, hcz31_3⟩ := cb4_ BK313.out; obtain ⟨hfz31_0, hfz31_1, hfz31_2⟩ := bf3_ BK313.out; have hfz31_3 := blk_frozen BK313.out 3) | ((with_reducible refine gate_store (t := 3) (p := 33) rfl ?_); refine st_ (w1 := (w29.setCell ⟨gb313, 3, none⟩ (.int .i64 (wrap64 (t320 - 1000000))))) ?_; intro w32 hw; replace BK311 : Aside0 (w32.heap[gb311]? = some (.cells #[.int .i64 0, .int .i64 0, .int .i64 0, .int .i64 0] 34 (0, 0))) := ⟨(by rw [hw]; exact (uf_ BK311.out))⟩; replace BK313 : Aside0 (w32.heap[gb313]? = some (.cells #[.int .i64 (wrap64 (rd l0 0)), .int .i64 t316, .int .i64 t318, .int .i64 (wrap64 (t320 - 1000000))] 34 (0, 0))) := ⟨(by rw [hw]; exact (by (with_reducible repeat first|apply bn_|apply bd_|apply ba_); refine blk_put (cs := #[.int .i64 (wrap64 (rd l0 0)), .int .i64 t316, .int .i64 t318, .int .i64 0]) ?_ 3 _ rfl; (with_reducible repeat first|apply bn_|apply bd_|apply ba_); exact BK313.out))⟩; replace HB : Aside0 (Below w.heap.size w w32) := ⟨(by rw [hw]; exact (ue_ HB.out))⟩; clear hw; obtain ⟨hcz33_0, hcz33_1, hcz33_2, hcz33_3⟩ := cb4_ BK313.out; obtain ⟨hfz33_0, hfz33_1, hfz33_2⟩ := bf3_ BK313.out; have hfz33_3 := blk_frozen BK313.out 3) | ((with_reducible refine gate_callee (f := 26) rfl ?_); refine goesL_ (some 41) rfl rfl Try.func26 (by kernel_rfl) rfl #[.agg #[.int .i64 (wrap64 (rd l0 0)), .int .i64 t316, .int .i64 t318, .int .i64 (wrap64 (t320 - 1000000))]] rfl ul_ ?_; (with_reducible refine (spec_FrameOk.calls (wrap64 (rd l0 0)) t316 t318 (wrap64 (t320 - 1000000)) true _ A15.out).mono ?_); rintro e w34 ⟨rfl, hb⟩; refine ⟨_, rfl, ?_⟩; replace BK311 := am_ (bb_ BK311.out hb); replace BK313 := am_ (bb_ BK313.out hb); replace HB := am_ (below_step (ue_ HB.out) hb); (try clear hb); (try clear hb2); (try clear hk); (try clear hi); obtain ⟨hcz35_0, hcz35_1, hcz35_2, hcz35_3⟩ := cb4_ BK313.out; obtain ⟨hfz35_0, hfz35_1, hfz35_2, hfz35_3⟩ := bf4_ BK313.out; obtain ⟨hcz36_0, hcz36_1, hcz36_2, hcz36_3⟩ := cb4_ BK311.out; obtain ⟨hfz36_0, hfz36_1, hfz36_2⟩ := bf3_ BK311.out; have hfz36_3 := blk_frozen BK311.out 3) | ((with_reducible refine gate_store (t := 34) (p := 2) rfl ?_); refine st_ (w1 := ((((w34.setCell ⟨gb311, 0, none⟩ (.int .i64 (wrap64 (rd l0 0)))).setCell ⟨gb311, 1, none⟩ (.int .i64 t316)).setCell ⟨gb311, 2, none⟩ (.int .i64 t318)).setCell ⟨gb311, 3, none⟩ (.int .i64 (wrap64 (t320 - 1000000))))) ?_; intro w37 hw; replace BK311 : Aside0 (w37.heap[gb311]? = some (.cells #[.int .i64 (wrap64 (rd l0 0)), .int .i64 t316, .int .i64 t318, .int .i64 (wrap64 (t320 - 1000000))] 34 (0, 0))) := ⟨(by rw [hw]; exact (by (with_reducible repeat first|apply bn_|apply bd_|apply ba_); apply bp4_; (with_reducible repeat first|apply bn_|apply bd_|apply ba_); exact BK311.out))⟩; replace BK313 : Aside0 (w37.heap[gb313]? = some (.cells #[.int .i64 (wrap64 (rd l0 0)), .int .i64 t316, .int .i64 t318, .int .i64 (wrap64 (t320 - 1000000))] 34 (0, 0))) := ⟨(by rw [hw]; exact (uf_ BK313.out))⟩; replace HB : Aside0 (Below w.heap.size w w37) := ⟨(by rw [hw]; exact (ue_ HB.out))⟩; clear hw))
           refine bodyPost_ret (results_ct rfl _ _ gb311 34 #[.int .i64 (wrap64 (rd l0 0)), .int .i64 t316, .int .i64 t318, .int .i64 (wrap64 (t320 - 1000000))] (0, 0) _ rfl (ub_ BK311.out) Try.underlying34 rfl (by kernel_rfl)) rfl ?_
           exact ⟨ew_, ue_ HB.out⟩
          replace c16 := Bool.eq_false_iff.mpr c16
          subst c16
          have H1 : (some (0, 0, 0, 0, false)) = some (r1, r2, r3, r4, r5) := by rw [if_neg (show ¬ (false = true) by decide)] at H; exact H
          clear H
          have H := H1
          clear H1
          simp only [Option.some.injEq, Prod.mk.injEq] at H
          obtain ⟨rfl, rfl, rfl, rfl, rfl⟩ := H
          go_enter Try.func80, Try.ntmps80
          go_wp2_with (first | ((with_reducible refine gate_dst (N := 2) rfl ?_); refine bx_ (N := 2) (cs := #[.int .i64 0, .int .i64 0, .int .i64 0, .int .i64 0]) (t := 34) ?_; intro gb311 hg w38 hbox hb; have BK311 := am_ (hbox); have GW311 := am_ ((by rw [hg]; exact (below_size (ue_ HB.out)) : w.heap.size ≤ gb311)); have GE311 := am_ ((by rw [hg]; exact (below_size (ue_ HB.out)) : w.heap.size ≤ gb311)); replace HB := am_ (below_step (ue_ HB.out) hb); clear hb hbox hg; have p312 : 0 ≤ (0 : Int) := (by omega); have q312 : 0 < (l0.length : Int) := of_decide_eq_true ua_; obtain ⟨ad312, e312, hx312_0⟩ := Kd.at_int HR0.out 0 p312 q312; cases e312; have qi312 : (0 < l0.length) = True := eq_true (by omega); (try rw [show ((0 : Int)).toNat = 0 from rfl] at hx312_0); (try rw [Addr.add_zero'] at hx312_0); replace hx312_0 := bc_ HB.out hx312_0; replace p312 := eq_true p312; replace q312 := eq_true q312) | ((with_reducible refine gate_dst (N := 4) rfl ?_); refine bx_ (N := 4) (cs := #[.int .i64 0, .int .i64 0, .int .i64 0, .int .i64 0]) (t := 34) ?_; intro gb313 hg w39 hbox hb; have BK313 := am_ (hbox); have GW313 := am_ ((by rw [hg]; exact (below_size (ue_ HB.out)) : w.heap.size ≤ gb313)); have GE313 := am_ ((by rw [hg]; exact (below_size (ue_ HB.out)) : w.heap.size ≤ gb313)); replace HB := am_ (below_step (ue_ HB.out) hb); have NB311_313 := am_ ((by rw [hg]; exact Nat.ne_of_lt (bl_ BK311.out) : gb311 ≠ gb313)); have NB313_311 := am_ ((by rw [hg]; exact Nat.ne_of_gt (bl_ BK311.out) : gb313 ≠ gb311)); replace BK311 := am_ (bb_ BK311.out hb); clear hb hbox hg; have hnb40 := NB313_311.out; have hnc40 := NB311_313.out; obtain ⟨hcz41_0, hcz41_1, hcz41_2, hcz41_3⟩ := cb4_ BK313.out; obtain ⟨hfz41_0, hfz41_1, hfz41_2⟩ := bf3_ BK313.out; have hfz41_3 := blk_frozen BK313.out 3) | ((with_reducible refine gate_store (t := 34) (p := 4) rfl ?_); refine st_ (w1 := ((((w39.setCell ⟨gb313, 0, none⟩ (.int .i64 (wrap64 (rd l0 0)))).setCell ⟨gb313, 1, none⟩ (.int .i64 0)).setCell ⟨gb313, 2, none⟩ (.int .i64 0)).setCell ⟨gb313, 3, none⟩ (.int .i64 0))) ?_; intro w42 hw; replace BK311 : Aside0 (w42.heap[gb311]? = some (.cells #[.int .i64 0, .int .i64 0, .int .i64 0, .int .i64 0] 34 (0, 0))) := ⟨(by rw [hw]; exact (uf_ BK311.out))⟩; replace BK313 : Aside0 (w42.heap[gb313]? = some (.cells #[.int .i64 (wrap64 (rd l0 0)), .int .i64 0, .int .i64 0, .int .i64 0] 34 (0, 0))) := ⟨(by rw [hw]; exact (by (with_reducible repeat first|apply bn_|apply bd_|apply ba_); apply bp4_; (with_reducible repeat first|apply bn_|apply bd_|apply ba_); exact BK313.out))⟩; replace HB : Aside0 (Below w.heap.size w w42) := ⟨(by rw [hw]; exact (ue_ HB.out))⟩; clear hw; obtain ⟨hcz43_0, hcz43_1, hcz43_2, hcz43_3⟩ := cb4_ BK313.out; obtain ⟨hfz43_0, hfz43_1, hfz43_2⟩ := bf3_ BK313.out; have hfz43_3 := blk_frozen BK313.out 3) | ((with_reducible refine gate_callee (f := 98) rfl ?_); refine goesL_ (some 14) rfl rfl Try.func98 (by kernel_rfl) rfl #[.int .i64 (wrap64 (rd l0 0))] rfl ul_ ?_; (with_reducible refine (spec_l02Size.calls (wrap64 (rd l0 0)) t314 _ A3.out).mono ?_); rintro e w' ⟨rfl, ⟨nd, rfl⟩⟩; refine ⟨_, rfl, ?_⟩; (try (rw [drewN_self w42]; generalize hq_ : World.drewN w42 _ = w42; replace BK311 : Aside0 (w42.heap[gb311]? = some (.cells #[.int .i64 0, .int .i64 0, .int .i64 0, .int .i64 0] 34 (0, 0))) := ⟨by rw [← hq_]; exact (ub_ BK311.out)⟩; replace BK313 : Aside0 (w42.heap[gb313]? = some (.cells #[.int .i64 (wrap64 (rd l0 0)), .int .i64 0, .int .i64 0, .int .i64 0] 34 (0, 0))) := ⟨by rw [← hq_]; exact (ub_ BK313.out)⟩; replace HB : Aside0 (Below w.heap.size w w42) := ⟨by rw [← hq_]; exact (ue_ HB.out)⟩; clear hq_)); obtain ⟨hcz44_0, hcz44_1, hcz44_2, hcz44_3⟩ := cb4_ BK313.out; obtain ⟨hfz44_0, hfz44_1, hfz44_2, hfz44_3⟩ := bf4_ BK313.out; obtain ⟨i045, hi045, _, hsz45, _⟩ := info_parts info5; obtain ⟨A45, hcut45, hA45, hC45⟩ := print_mid_of (P := Try.prog) (Value.int .u8) 0 39 5 .i64 .i64 Try.underlying39 hi045 hsz45 (some ad312) c0 l0 1 3 (by omega) (by first | omega | exact of_decide_eq_true ua_) (of_decide_eq_true ua_) HC0.out; have HR315 := am_ (Kd.C_of_reads (h1 := fun _ => rfl) (hA45 _ (Kd.reads_of_C HR0.out))); have HC315 := Aside0.mk hC45; clear hA45 hC45 hi045 hsz45) | ((with_reducible refine gate_callee (f := 99) rfl ?_); refine goesL_ (some 23) rfl rfl Try.func99 (by kernel_rfl) rfl #[.slice A45 ((l0.take 3).drop 1).length (c0 - 1)] rfl (by (try simp only [List.map_toArray, List.map_cons, List.map_nil]); first | done | (rw [show ((l0.take 3).drop 1).length = (3 - 1) from (by rw [List.length_drop, List.length_take]; have h_ : (3 : Int) ≤ (l0.length : Int) := of_decide_eq_true ua_; omega)] <;> rfl) | rfl | (simp only [List.length_drop, List.length_take]; rfl)) ?_; (with_reducible refine (spec_l02Read.calls k _ _ ((l0.take 3).drop 1) t316 _ ?side1 ?side2 A8.out).mono ?_); (case side1 => repeat (first | exact (Kd.C_below HR315.out HB.out) | (with_reducible refine Kd.C_alloc ?_ _) | (with_reducible refine Kd.C_drewN ?_ _) | (with_reducible refine Kd.C_drew ?_))); (case side2 => exact HC315.out); rintro e w' ⟨rfl, ⟨nd, rfl⟩⟩; refine ⟨_, rfl, ?_⟩; (try (rw [drewN_self w42]; generalize hq_ : World.drewN w42 _ = w42; replace BK311 : Aside0 (w42.heap[gb311]? = some (.cells #[.int .i64 0, .int .i64 0, .int .i64 0, .int .i64 0] 34 (0, 0))) := ⟨by rw [← hq_]; exact (ub_ BK311.out)⟩; replace BK313 : Aside0 (w42.heap[gb313]? = some (.cells #[.int .i64 (wrap64 (rd l0 0)), .int .i64 0, .int .i64 0, .int .i64 0] 34 (0, 0))) := ⟨by rw [← hq_]; exact (ub_ BK313.out)⟩; replace HB : Aside0 (Below w.heap.size w w42) := ⟨by rw [← hq_]; exact (ue_ HB.out)⟩; clear hq_)); obtain ⟨hcz46_0, hcz46_1, hcz46_2, hcz46_3⟩ := cb4_ BK313.out; obtain ⟨hfz46_0, hfz46_1, hfz46_2⟩ := bf3_ BK313.out; have hfz46_3 := blk_frozen BK313.out 3) | ((with_reducible refine gate_store (t := 3) (p := 24) rfl ?_); refine st_ (w1 := (w42.setCell ⟨gb313, 1, none⟩ (.int .i64 t316))) ?_; intro w47 hw; replace BK311 : Aside0 (w47.heap[gb311]? = some (.cells #[.int .i64 0, .int .i64 0, .int .i64 0, .int .i64 0] 34 (0, 0))) := ⟨(by rw [hw]; exact (uf_ BK311.out))⟩; replace BK313 : Aside0 (w47.heap[gb313]? = some (.cells #[.int .i64 (wrap64 (rd l0 0)), .int .i64 t316, .int .i64 0, .int .i64 0] 34 (0, 0))) := ⟨(by rw [hw]; exact (by (with_reducible repeat first|apply bn_|apply bd_|apply ba_); refine blk_put (cs := #[.int .i64 (wrap64 (rd l0 0)), .int .i64 0, .int .i64 0, .int .i64 0]) ?_ 1 _ rfl; (with_reducible repeat first|apply bn_|apply bd_|apply ba_); exact BK313.out))⟩; replace HB : Aside0 (Below w.heap.size w w47) := ⟨(by rw [hw]; exact (ue_ HB.out))⟩; clear hw; obtain ⟨i048, hi048, _, hsz48, _⟩ := info_parts info5; obtain ⟨A48, hcut48, hA48, hC48⟩ := print_mid_of (P := Try.prog) (Value.int .u8) 0 39 5 .i64 .i64 Try.underlying39 hi048 hsz48 (some ad312) c0 l0 3 6 (by omega) (by first | omega | exact of_decide_eq_true ua_) (of_decide_eq_true ua_) HC0.out; have HR317 := am_ (Kd.C_of_reads (h1 := fun _ => rfl) (hA48 _ (Kd.reads_of_C HR0.out))); have HC317 := Aside0.mk hC48; clear hA48 hC48 hi048 hsz48) | ((with_reducible refine gate_callee (f := 99) rfl ?_); refine goesL_ (some 27) rfl rfl Try.func99 (by kernel_rfl) rfl #[.slice A48 ((l0.take 6).drop 3).length (c0 - 3)] rfl (by (try simp only [List.map_toArray, List.map_cons, List.map_nil]); first | done | (rw [show ((l0.take 6).drop 3).length = (6 - 3) from (by rw [List.length_drop, List.length_take]; have h_ : (6 : Int) ≤ (l0.length : Int) := of_decide_eq_true ua_; omega)] <;> rfl) | rfl | (simp only [List.length_drop, List.length_take]; rfl)) ?_; (with_reducible refine (spec_l02Read.calls k _ _ ((l0.take 6).drop 3) t318 _ ?side1 ?side2 A11.out).mono ?_); (case side1 => repeat (first | exact (Kd.C_below HR317.out HB.out) | (with_reducible refine Kd.C_alloc ?_ _) | (with_reducible refine Kd.C_drewN ?_ _) | (with_reducible refine Kd.C_drew ?_))); (case side2 => exact HC317.out); rintro e w' ⟨rfl, ⟨nd, rfl⟩⟩; refine ⟨_, rfl, ?_⟩; (try (rw [drewN_self w47]; generalize hq_ : World.drewN w47 _ = w47; replace BK311 : Aside0 (w47.heap[gb311]? = some (.cells #[.int .i64 0, .int .i64 0, .int .i64 0, .int .i64 0] 34 (0, 0))) := ⟨by rw [← hq_]; exact (ub_ BK311.out)⟩; replace BK313 : Aside0 (w47.heap[gb313]? = some (.cells #[.int .i64 (wrap64 (rd l0 0)), .int .i64 t316, .int .i64 0, .int .i64 0] 34 (0, 0))) := ⟨by rw [← hq_]; exact (ub_ BK313.out)⟩; replace HB : Aside0 (Below w.heap.size w w47) := ⟨by rw [← hq_]; exact (ue_ HB.out)⟩; clear hq_)); obtain ⟨hcz49_0, hcz49_1, hcz49_2, hcz49_3⟩ := cb4_ BK313.out; obtain ⟨hfz49_0, hfz49_1, hfz49_2⟩ := bf3_ BK313.out; have hfz49_3 := blk_frozen BK313.out 3) | ((with_reducible refine gate_store (t := 3) (p := 28) rfl ?_); refine st_ (w1 := (w47.setCell ⟨gb313, 2, none⟩ (.int .i64 t318))) ?_; intro w50 hw; replace BK311 : Aside0 (w50.heap[gb311]? = some (.cells #[.int .i64 0, .int .i64 0, .int .i64 0, .int .i64 0] 34 (0, 0))) := ⟨(by rw [hw]; exact (uf_ BK311.out))⟩; replace BK313 : Aside0 (w50.heap[gb313]? = some (.cells #[.int .i64 (wrap64 (rd l0 0)), .int .i64 t316, .int .i64 t318, .int .i64 0] 34 (0, 0))) := ⟨(by rw [hw]; exact (by (with_reducible repeat first|apply bn_|apply bd_|apply ba_); refine blk_put (cs := #[.int .i64 (wrap64 (rd l0 0)), .int .i64 t316, .int .i64 0, .int .i64 0]) ?_ 2 _ rfl; (with_reducible repeat first|apply bn_|apply bd_|apply ba_); exact BK313.out))⟩; replace HB : Aside0 (Below w.heap.size w w50) := ⟨(by rw [hw]; exact (ue_ HB.out))⟩; clear hw; obtain ⟨i051, hi051, _, hsz51, _⟩ := info_parts info5; obtain ⟨A51, hcut51, hA51, hC51⟩ := print_mid_of (P := Try.prog) (Value.int .u8) 0 39 5 .i64 .i64 Try.underlying39 hi051 hsz51 (some ad312) c0 l0 6 9 (by omega) (by first | omega | exact of_decide_eq_true ua_) (of_decide_eq_true ua_) HC0.out; have HR319 := am_ (Kd.C_of_reads (h1 := fun _ => rfl) (hA51 _ (Kd.reads_of_C HR0.out))); have HC319 := Aside0.mk hC51; clear hA51 hC51 hi051 hsz51) | ((with_reducible refine gate_callee (f := 99) rfl ?_); refine goesL_ (some 31) rfl rfl Try.func99 (by kernel_rfl) rfl #[.slice A51 ((l0.take 9).drop 6).length (c0 - 6)] rfl (by (try simp only [List.map_toArray, List.map_cons, List.map_nil]); first | done | (rw [show ((l0.take 9).drop 6).length = (9 - 6) from (by rw [List.length_drop, List.length_take]; have h_ : (9 : Int) ≤ (l0.length : Int) := of_decide_eq_true ua_; omega)] <;> rfl) | rfl | (simp only [List.length_drop, List.length_take]; rfl)) ?_; (with_reducible refine (spec_l02Read.calls k _ _ ((l0.take 9).drop 6) t320 _ ?side1 ?side2 A14.out).mono ?_); (case side1 => repeat (first | exact (Kd.C_below HR319.out HB.out) | (with_reducible refine Kd.C_alloc ?_ _) | (with_reducible refine Kd.C_drewN ?_ _) | (with_reducible refine Kd.C_drew ?_))); (case side2 => exact HC319.out); rintro e w' ⟨rfl, ⟨nd, rfl⟩⟩; refine ⟨_, rfl, ?_⟩; (try (rw [drewN_self w50]; generalize hq_ : World.drewN w50 _ = w50; replace BK311 : Aside0 (w50.heap[gb311]? = some (.cells #[.int .i64 0, .int .i64 0, .int .i64 0, .int .i64 0] 34 (0, 0))) := ⟨by rw [← hq_]; exact (ub_ BK311.out)⟩; replace BK313 : Aside0 (w50.heap[gb313]? = some (.cells #[.int .i64 (wrap64 (rd l0 0)), .int .i64 t316, .int .i64 t318, .int .i64 0] 34 (0, 0))) := ⟨by rw [← hq_]; exact (ub_ BK313.out)⟩; replace HB : Aside0 (Below w.heap.size w w50) := ⟨by rw [← hq_]; exact (ue_ HB.out)⟩; clear hq_)); obtain ⟨hcz52_0, hcz52_1, hcz52_2, hcz52_3⟩ := cb4_ BK313.out; obtain ⟨hfz52_0, hfz52_1, hfz52_2⟩ := bf3_ BK313.out; have hfz52_3 := blk_frozen BK313.out 3) | ((with_reducible refine gate_store (t := 3) (p := 33) rfl ?_); refine st_ (w1 := (w50.setCell ⟨gb313, 3, none⟩ (.int .i64 (wrap64 (t320 - 1000000))))) ?_; intro w53 hw; replace BK311 : Aside0 (w53.heap[gb311]? = some (.cells #[.int .i64 0, .int .i64 0, .int .i64 0, .int .i64 0] 34 (0, 0))) := ⟨(by rw [hw]; exact (uf_ BK311.out))⟩; replace BK313 : Aside0 (w53.heap[gb313]? = some (.cells #[.int .i64 (wrap64 (rd l0 0)), .int .i64 t316, .int .i64 t318, .int .i64 (wrap64 (t320 - 1000000))] 34 (0, 0))) := ⟨(by rw [hw]; exact (by (with_reducible repeat first|apply bn_|apply bd_|apply ba_); refine blk_put (cs := #[.int .i64 (wrap64 (rd l0 0)), .int .i64 t316, .int .i64 t318, .int .i64 0]) ?_ 3 _ rfl; (with_reducible repeat first|apply bn_|apply bd_|apply ba_); exact BK313.out))⟩; replace HB : Aside0 (Below w.heap.size w w53) := ⟨(by rw [hw]; exact (ue_ HB.out))⟩; clear hw; obtain ⟨hcz54_0, hcz54_1, hcz54_2, hcz54_3⟩ := cb4_ BK313.out; obtain ⟨hfz54_0, hfz54_1, hfz54_2⟩ := bf3_ BK313.out; have hfz54_3 := blk_frozen BK313.out 3) | ((with_reducible refine gate_callee (f := 26) rfl ?_); refine goesL_ (some 41) rfl rfl Try.func26 (by kernel_rfl) rfl #[.agg #[.int .i64 (wrap64 (rd l0 0)), .int .i64 t316, .int .i64 t318, .int .i64 (wrap64 (t320 - 1000000))]] rfl ul_ ?_; (with_reducible refine (spec_FrameOk.calls (wrap64 (rd l0 0)) t316 t318 (wrap64 (t320 - 1000000)) false _ A15.out).mono ?_); rintro e w55 ⟨rfl, hb⟩; refine ⟨_, rfl, ?_⟩; replace BK311 := am_ (bb_ BK311.out hb); replace BK313 := am_ (bb_ BK313.out hb); replace HB := am_ (below_step (ue_ HB.out) hb); (try clear hb); (try clear hb2); (try clear hk); (try clear hi); obtain ⟨hcz56_0, hcz56_1, hcz56_2, hcz56_3⟩ := cb4_ BK311.out; obtain ⟨hfz56_0, hfz56_1, hfz56_2⟩ := bf3_ BK311.out; have hfz56_3 := blk_frozen BK311.out 3) | ((with_reducible refine gate_store (t := 34) (p := 2) rfl ?_); refine st_ (w1 := ((((w55.setCell ⟨gb311, 0, none⟩ (.int .i64 0)).setCell ⟨gb311, 1, none⟩ (.int .i64 0)).setCell ⟨gb311, 2, none⟩ (.int .i64 0)).setCell ⟨gb311, 3, none⟩ (.int .i64 0))) ?_; intro w57 hw; replace BK311 : Aside0 (w57.heap[gb311]? = some (.cells #[.int .i64 0, .int .i64 0, .int .i64 0, .int .i64 0] 34 (0, 0))) := ⟨(by rw [hw]; exact (by (with_reducible repeat first|apply bn_|apply bd_|apply ba_); apply bp4_; (with_reducible repeat first|apply bn_|apply bd_|apply ba_); exact BK311.out))⟩; replace BK313 : Aside0 (w57.heap[gb313]? = some (.cells #[.int .i64 (wrap64 (rd l0 0)), .int .i64 t316, .int .i64 t318, .int .i64 (wrap64 (t320 - 1000000))] 34 (0, 0))) := ⟨(by rw [hw]; exact (uf_ BK313.out))⟩; replace HB : Aside0 (Below w.heap.size w w57) := ⟨(by rw [hw]; exact (ue_ HB.out))⟩; clear hw))
          refine bodyPost_ret (results_ct rfl _ _ gb311 34 #[.int .i64 0, .int .i64 0, .int .i64 0, .int .i64 0] (0, 0) _ rfl (ub_ BK311.out) Try.underlying34 rfl (by kernel_rfl)) rfl ?_
          exact ⟨ew_, ue_ HB.out⟩
         rw [if_neg c13] at H
         exact absurd H (by simp)
        rw [if_neg c12] at H
        exact absurd H (by simp)
       rw [if_neg c10] at H
       exact absurd H (by simp)
      rw [if_neg c9] at H
      exact absurd H (by simp)
     rw [if_neg c7] at H
     exact absurd H (by simp)
    rw [if_neg c6] at H
    exact absurd H (by simp)
   rw [if_neg c5] at H
   have c5b0 : ((wrap64 (rd l0 0)) == 1) = false := beq_eq_false_iff_ne.mpr c5
   have c5b1 : ((wrap64 (rd l0 0)) != 1) = true := bne_iff_ne.mpr c5
   by_cases c58 : (wrap64 (rd l0 0)) = 2
   ·
    rw [if_pos c58] at H
    have c58b0 : ((wrap64 (rd l0 0)) == 2) = true := beq_iff_eq.mpr c58
    have c58b1 : ((wrap64 (rd l0 0)) != 2) = false := bne_eq_false_iff_eq.mpr c58
    clear c58
    by_cases c59 : 1 ≤ 4
    ·
     rw [if_pos c59] at H
     have c59b0 := eq_true c59
     have c59b1 : decide (1 ≤ 4) = true := decide_eq_true c59
     clear c59
     by_cases c60 : 4 ≤ (l0.length : Int)
     ·
      rw [if_pos c60] at H
      have c60b0 := eq_true c60
      have c60b1 : decide (4 ≤ (l0.length : Int)) = true := decide_eq_true c60
      clear c60
      replace H := Option.bind_eq_some_iff.mp H
      obtain ⟨t323, A610, H⟩ := H
      replace H : ((spec_FrameOk.f (wrap64 (rd l0 0)) 0 t323 0).bind fun t324 => (if t324 = true then (some (wrap64 (rd l0 0), 0, t323, 0, true)) else (some (0, 0, 0, 0, false)))) = some (r1, r2, r3, r4, r5) := H
      have A61 := Aside0.mk A610
      clear A610
      replace H := Option.bind_eq_some_iff.mp H
      obtain ⟨t324, A620, H⟩ := H
      replace H : (if t324 = true then (some (wrap64 (rd l0 0), 0, t323, 0, true)) else (some (0, 0, 0, 0, false))) = some (r1, r2, r3, r4, r5) := H
      have A62 := Aside0.mk A620
      clear A620
      by_cases c63 : t324 = true
      ·
       subst c63
       have H1 : (some (wrap64 (rd l0 0), 0, t323, 0, true)) = some (r1, r2, r3, r4, r5) := by rw [if_pos rfl] at H; exact H
       clear H
       have H := H1
       clear H1
       simp only [Option.some.injEq, Prod.mk.injEq] at H
       obtain ⟨rfl, rfl, rfl, rfl, rfl⟩ := H
       go_enter Try.func80, Try.ntmps80
       go_wp2_with (first | ((with_reducible refine gate_dst (N := 2) rfl ?_); refine bx_ (N := 2) (cs := #[.int .i64 0, .int .i64 0, .int .i64 0, .int .i64 0]) (t := 34) ?_; intro gb311 hg w64 hbox hb; have BK311 := am_ (hbox); have GW311 := am_ ((by rw [hg]; exact (below_size (ue_ HB.out)) : w.heap.size ≤ gb311)); have GE311 := am_ ((by rw [hg]; exact (below_size (ue_ HB.out)) : w.heap.size ≤ gb311)); replace HB := am_ (below_step (ue_ HB.out) hb); clear hb hbox hg; have p312 : 0 ≤ (0 : Int) := (by omega); have q312 : 0 < (l0.length : Int) := of_decide_eq_true ua_; obtain ⟨ad312, e312, hx312_0⟩ := Kd.at_int HR0.out 0 p312 q312; cases e312; have qi312 : (0 < l0.length) = True := eq_true (by omega); (try rw [show ((0 : Int)).toNat = 0 from rfl] at hx312_0); (try rw [Addr.add_zero'] at hx312_0); replace hx312_0 := bc_ HB.out hx312_0; replace p312 := eq_true p312; replace q312 := eq_true q312) | ((with_reducible refine gate_dst (N := 4) rfl ?_); refine bx_ (N := 4) (cs := #[.int .i64 0, .int .i64 0, .int .i64 0, .int .i64 0]) (t := 34) ?_; intro gb313 hg w65 hbox hb; have BK313 := am_ (hbox); have GW313 := am_ ((by rw [hg]; exact (below_size (ue_ HB.out)) : w.heap.size ≤ gb313)); have GE313 := am_ ((by rw [hg]; exact (below_size (ue_ HB.out)) : w.heap.size ≤ gb313)); replace HB := am_ (below_step (ue_ HB.out) hb); have NB311_313 := am_ ((by rw [hg]; exact Nat.ne_of_lt (bl_ BK311.out) : gb311 ≠ gb313)); have NB313_311 := am_ ((by rw [hg]; exact Nat.ne_of_gt (bl_ BK311.out) : gb313 ≠ gb311)); replace BK311 := am_ (bb_ BK311.out hb); clear hb hbox hg; have hnb66 := NB313_311.out; have hnc66 := NB311_313.out; obtain ⟨hcz67_0, hcz67_1, hcz67_2, hcz67_3⟩ := cb4_ BK313.out; obtain ⟨hfz67_0, hfz67_1, hfz67_2⟩ := bf3_ BK313.out; have hfz67_3 := blk_frozen BK313.out 3) | ((with_reducible refine gate_store (t := 34) (p := 4) rfl ?_); refine st_ (w1 := ((((w65.setCell ⟨gb313, 0, none⟩ (.int .i64 (wrap64 (rd l0 0)))).setCell ⟨gb313, 1, none⟩ (.int .i64 0)).setCell ⟨gb313, 2, none⟩ (.int .i64 0)).setCell ⟨gb313, 3, none⟩ (.int .i64 0))) ?_; intro w68 hw; replace BK311 : Aside0 (w68.heap[gb311]? = some (.cells #[.int .i64 0, .int .i64 0, .int .i64 0, .int .i64 0] 34 (0, 0))) := ⟨(by rw [hw]; exact (uf_ BK311.out))⟩; replace BK313 : Aside0 (w68.heap[gb313]? = some (.cells #[.int .i64 (wrap64 (rd l0 0)), .int .i64 0, .int .i64 0, .int .i64 0] 34 (0, 0))) := ⟨(by rw [hw]; exact (by (with_reducible repeat first|apply bn_|apply bd_|apply ba_); apply bp4_; (with_reducible repeat first|apply bn_|apply bd_|apply ba_); exact BK313.out))⟩; replace HB : Aside0 (Below w.heap.size w w68) := ⟨(by rw [hw]; exact (ue_ HB.out))⟩; clear hw; obtain ⟨hcz69_0, hcz69_1, hcz69_2, hcz69_3⟩ := cb4_ BK313.out; obtain ⟨hfz69_0, hfz69_1, hfz69_2⟩ := bf3_ BK313.out; have hfz69_3 := blk_frozen BK313.out 3) | ((with_reducible refine gate_callee (f := 98) rfl ?_); refine goesL_ (some 14) rfl rfl Try.func98 (by kernel_rfl) rfl #[.int .i64 (wrap64 (rd l0 0))] rfl ul_ ?_; (with_reducible refine (spec_l02Size.calls (wrap64 (rd l0 0)) t314 _ A3.out).mono ?_); rintro e w' ⟨rfl, ⟨nd, rfl⟩⟩; refine ⟨_, rfl, ?_⟩; (try (rw [drewN_self w68]; generalize hq_ : World.drewN w68 _ = w68; replace BK311 : Aside0 (w68.heap[gb311]? = some (.cells #[.int .i64 0, .int .i64 0, .int .i64 0, .int .i64 0] 34 (0, 0))) := ⟨by rw [← hq_]; exact (ub_ BK311.out)⟩; replace BK313 : Aside0 (w68.heap[gb313]? = some (.cells #[.int .i64 (wrap64 (rd l0 0)), .int .i64 0, .int .i64 0, .int .i64 0] 34 (0, 0))) := ⟨by rw [← hq_]; exact (ub_ BK313.out)⟩; replace HB : Aside0 (Below w.heap.size w w68) := ⟨by rw [← hq_]; exact (ue_ HB.out)⟩; clear hq_)); obtain ⟨hcz70_0, hcz70_1, hcz70_2, hcz70_3⟩ := cb4_ BK313.out; obtain ⟨hfz70_0, hfz70_1, hfz70_2, hfz70_3⟩ := bf4_ BK313.out; obtain ⟨i071, hi071, _, hsz71, _⟩ := info_parts info5; obtain ⟨A71, hcut71, hA71, hC71⟩ := print_mid_of (P := Try.prog) (Value.int .u8) 0 39 5 .i64 .i64 Try.underlying39 hi071 hsz71 (some ad312) c0 l0 1 4 (by omega) (by first | omega | exact of_decide_eq_true ua_) (of_decide_eq_true ua_) HC0.out; have HR322 := am_ (Kd.C_of_reads (h1 := fun _ => rfl) (hA71 _ (Kd.reads_of_C HR0.out))); have HC322 := Aside0.mk hC71; clear hA71 hC71 hi071 hsz71) | ((with_reducible refine gate_callee (f := 99) rfl ?_); refine goesL_ (some 38) rfl rfl Try.func99 (by kernel_rfl) rfl #[.slice A71 ((l0.take 4).drop 1).length (c0 - 1)] rfl (by (try simp only [List.map_toArray, List.map_cons, List.map_nil]); first | done | (rw [show ((l0.take 4).drop 1).length = (4 - 1) from (by rw [List.length_drop, List.length_take]; have h_ : (4 : Int) ≤ (l0.length : Int) := of_decide_eq_true ua_; omega)] <;> rfl) | rfl | (simp only [List.length_drop, List.length_take]; rfl)) ?_; (with_reducible refine (spec_l02Read.calls k _ _ ((l0.take 4).drop 1) t323 _ ?side1 ?side2 A61.out).mono ?_); (case side1 => repeat (first | exact (Kd.C_below HR322.out HB.out) | (with_reducible refine Kd.C_alloc ?_ _) | (with_reducible refine Kd.C_drewN ?_ _) | (with_reducible refine Kd.C_drew ?_))); (case side2 => exact HC322.out); rintro e w' ⟨rfl, ⟨nd, rfl⟩⟩; refine ⟨_, rfl, ?_⟩; (try (rw [drewN_self w68]; generalize hq_ : World.drewN w68 _ = w68; replace BK311 : Aside0 (w68.heap[gb311]? = some (.cells #[.int .i64 0, .int .i64 0, .int .i64 0, .int .i64 0] 34 (0, 0))) := ⟨by rw [← hq_]; exact (ub_ BK311.out)⟩; replace BK313 : Aside0 (w68.heap[gb313]? = some (.cells #[.int .i64 (wrap64 (rd l0 0)), .int .i64 0, .int .i64 0, .int .i64 0] 34 (0, 0))) := ⟨by rw [← hq_]; exact (ub_ BK313.out)⟩; replace HB : Aside0 (Below w.heap.size w w68) := ⟨by rw [← hq_]; exact (ue_ HB.out)⟩; clear hq_)); obtain ⟨hcz72_0, hcz72_1, hcz72_2, hcz72_3⟩ := cb4_ BK313.out; obtain ⟨hfz72_0, hfz72_1, hfz72_2⟩ := bf3_ BK313.out; have hfz72_3 := blk_frozen BK313.out 3) | ((with_reducible refine gate_store (t := 3) (p := 39) rfl ?_); refine st_ (w1 := (w68.setCell ⟨gb313, 2, none⟩ (.int .i64 t323))) ?_; intro w73 hw; replace BK311 : Aside0 (w73.heap[gb311]? = some (.cells #[.int .i64 0, .int .i64 0, .int .i64 0, .int .i64 0] 34 (0, 0))) := ⟨(by rw [hw]; exact (uf_ BK311.out))⟩; replace BK313 : Aside0 (w73.heap[gb313]? = some (.cells #[.int .i64 (wrap64 (rd l0 0)), .int .i64 0, .int .i64 t323, .int .i64 0] 34 (0, 0))) := ⟨(by rw [hw]; exact (by (with_reducible repeat first|apply bn_|apply bd_|apply ba_); refine blk_put (cs := #[.int .i64 (wrap64 (rd l0 0)), .int .i64 0, .int .i64 0, .int .i64 0]) ?_ 2 _ rfl; (with_reducible repeat first|apply bn_|apply bd_|apply ba_); exact BK313.out))⟩; replace HB : Aside0 (Below w.heap.size w w73) := ⟨(by rw [hw]; exact (ue_ HB.out))⟩; clear hw; obtain ⟨hcz74_0, hcz74_1, hcz74_2, hcz74_3⟩ := cb4_ BK313.out; obtain ⟨hfz74_0, hfz74_1, hfz74_2⟩ := bf3_ BK313.out; have hfz74_3 := blk_frozen BK313.out 3) | ((with_reducible refine gate_callee (f := 26) rfl ?_); refine goesL_ (some 41) rfl rfl Try.func26 (by kernel_rfl) rfl #[.agg #[.int .i64 (wrap64 (rd l0 0)), .int .i64 0, .int .i64 t323, .int .i64 0]] rfl ul_ ?_; (with_reducible refine (spec_FrameOk.calls (wrap64 (rd l0 0)) 0 t323 0 true _ A62.out).mono ?_); rintro e w75 ⟨rfl, hb⟩; refine ⟨_, rfl, ?_⟩; replace BK311 := am_ (bb_ BK311.out hb); replace BK313 := am_ (bb_ BK313.out hb); replace HB := am_ (below_step (ue_ HB.out) hb); (try clear hb); (try clear hb2); (try clear hk); (try clear hi); obtain ⟨hcz76_0, hcz76_1, hcz76_2, hcz76_3⟩ := cb4_ BK313.out; obtain ⟨hfz76_0, hfz76_1, hfz76_2, hfz76_3⟩ := bf4_ BK313.out; obtain ⟨hcz77_0, hcz77_1, hcz77_2, hcz77_3⟩ := cb4_ BK311.out; obtain ⟨hfz77_0, hfz77_1, hfz77_2⟩ := bf3_ BK311.out; have hfz77_3 := blk_frozen BK311.out 3) | ((with_reducible refine gate_store (t := 34) (p := 2) rfl ?_); refine st_ (w1 := ((((w75.setCell ⟨gb311, 0, none⟩ (.int .i64 (wrap64 (rd l0 0)))).setCell ⟨gb311, 1, none⟩ (.int .i64 0)).setCell ⟨gb311, 2, none⟩ (.int .i64 t323)).setCell ⟨gb311, 3, none⟩ (.int .i64 0))) ?_; intro w78 hw; replace BK311 : Aside0 (w78.heap[gb311]? = some (.cells #[.int .i64 (wrap64 (rd l0 0)), .int .i64 0, .int .i64 t323, .int .i64 0] 34 (0, 0))) := ⟨(by rw [hw]; exact (by (with_reducible repeat first|apply bn_|apply bd_|apply ba_); apply bp4_; (with_reducible repeat first|apply bn_|apply bd_|apply ba_); exact BK311.out))⟩; replace BK313 : Aside0 (w78.heap[gb313]? = some (.cells #[.int .i64 (wrap64 (rd l0 0)), .int .i64 0, .int .i64 t323, .int .i64 0] 34 (0, 0))) := ⟨(by rw [hw]; exact (uf_ BK313.out))⟩; replace HB : Aside0 (Below w.heap.size w w78) := ⟨(by rw [hw]; exact (ue_ HB.out))⟩; clear hw))
       refine bodyPost_ret (results_ct rfl _ _ gb311 34 #[.int .i64 (wrap64 (rd l0 0)), .int .i64 0, .int .i64 t323, .int .i64 0] (0, 0) _ rfl (ub_ BK311.out) Try.underlying34 rfl (by kernel_rfl)) rfl ?_
       exact ⟨ew_, ue_ HB.out⟩
      replace c63 := Bool.eq_false_iff.mpr c63
      subst c63
      have H1 : (some (0, 0, 0, 0, false)) = some (r1, r2, r3, r4, r5) := by rw [if_neg (show ¬ (false = true) by decide)] at H; exact H
      clear H
      have H := H1
      clear H1
      simp only [Option.some.injEq, Prod.mk.injEq] at H
      obtain ⟨rfl, rfl, rfl, rfl, rfl⟩ := H
      go_enter Try.func80, Try.ntmps80
      go_wp2_with (first | ((with_reducible refine gate_dst (N := 2) rfl ?_); refine bx_ (N := 2) (cs := #[.int .i64 0, .int .i64 0, .int .i64 0, .int .i64 0]) (t := 34) ?_; intro gb311 hg w79 hbox hb; have BK311 := am_ (hbox); have GW311 := am_ ((by rw [hg]; exact (below_size (ue_ HB.out)) : w.heap.size ≤ gb311)); have GE311 := am_ ((by rw [hg]; exact (below_size (ue_ HB.out)) : w.heap.size ≤ gb311)); replace HB := am_ (below_step (ue_ HB.out) hb); clear hb hbox hg; have p312 : 0 ≤ (0 : Int) := (by omega); have q312 : 0 < (l0.length : Int) := of_decide_eq_true ua_; obtain ⟨ad312, e312, hx312_0⟩ := Kd.at_int HR0.out 0 p312 q312; cases e312; have qi312 : (0 < l0.length) = True := eq_true (by omega); (try rw [show ((0 : Int)).toNat = 0 from rfl] at hx312_0); (try rw [Addr.add_zero'] at hx312_0); replace hx312_0 := bc_ HB.out hx312_0; replace p312 := eq_true p312; replace q312 := eq_true q312) | ((with_reducible refine gate_dst (N := 4) rfl ?_); refine bx_ (N := 4) (cs := #[.int .i64 0, .int .i64 0, .int .i64 0, .int .i64 0]) (t := 34) ?_; intro gb313 hg w80 hbox hb; have BK313 := am_ (hbox); have GW313 := am_ ((by rw [hg]; exact (below_size (ue_ HB.out)) : w.heap.size ≤ gb313)); have GE313 := am_ ((by rw [hg]; exact (below_size (ue_ HB.out)) : w.heap.size ≤ gb313)); replace HB := am_ (below_step (ue_ HB.out) hb); have NB311_313 := am_ ((by rw [hg]; exact Nat.ne_of_lt (bl_ BK311.out) : gb311 ≠ gb313)); have NB313_311 := am_ ((by rw [hg]; exact Nat.ne_of_gt (bl_ BK311.out) : gb313 ≠ gb311)); replace BK311 := am_ (bb_ BK311.out hb); clear hb hbox hg; have hnb81 := NB313_311.out; have hnc81 := NB311_313.out; obtain ⟨hcz82_0, hcz82_1, hcz82_2, hcz82_3⟩ := cb4_ BK313.out; obtain ⟨hfz82_0, hfz82_1, hfz82_2⟩ := bf3_ BK313.out; have hfz82_3 := blk_frozen BK313.out 3) | ((with_reducible refine gate_store (t := 34) (p := 4) rfl ?_); refine st_ (w1 := ((((w80.setCell ⟨gb313, 0, none⟩ (.int .i64 (wrap64 (rd l0 0)))).setCell ⟨gb313, 1, none⟩ (.int .i64 0)).setCell ⟨gb313, 2, none⟩ (.int .i64 0)).setCell ⟨gb313, 3, none⟩ (.int .i64 0))) ?_; intro w83 hw; replace BK311 : Aside0 (w83.heap[gb311]? = some (.cells #[.int .i64 0, .int .i64 0, .int .i64 0, .int .i64 0] 34 (0, 0))) := ⟨(by rw [hw]; exact (uf_ BK311.out))⟩; replace BK313 : Aside0 (w83.heap[gb313]? = some (.cells #[.int .i64 (wrap64 (rd l0 0)), .int .i64 0, .int .i64 0, .int .i64 0] 34 (0, 0))) := ⟨(by rw [hw]; exact (by (with_reducible repeat first|apply bn_|apply bd_|apply ba_); apply bp4_; (with_reducible repeat first|apply bn_|apply bd_|apply ba_); exact BK313.out))⟩; replace HB : Aside0 (Below w.heap.size w w83) := ⟨(by rw [hw]; exact (ue_ HB.out))⟩; clear hw; obtain ⟨hcz84_0, hcz84_1, hcz84_2, hcz84_3⟩ := cb4_ BK313.out; obtain ⟨hfz84_0, hfz84_1, hfz84_2⟩ := bf3_ BK313.out; have hfz84_3 := blk_frozen BK313.out 3) | ((with_reducible refine gate_callee (f := 98) rfl ?_); refine goesL_ (some 14) rfl rfl Try.func98 (by kernel_rfl) rfl #[.int .i64 (wrap64 (rd l0 0))] rfl ul_ ?_; (with_reducible refine (spec_l02Size.calls (wrap64 (rd l0 0)) t314 _ A3.out).mono ?_); rintro e w' ⟨rfl, ⟨nd, rfl⟩⟩; refine ⟨_, rfl, ?_⟩; (try (rw [drewN_self w83]; generalize hq_ : World.drewN w83 _ = w83; replace BK311 : Aside0 (w83.heap[gb311]? = some (.cells #[.int .i64 0, .int .i64 0, .int .i64 0, .int .i64 0] 34 (0, 0))) := ⟨by rw [← hq_]; exact (ub_ BK311.out)⟩; replace BK313 : Aside0 (w83.heap[gb313]? = some (.cells #[.int .i64 (wrap64 (rd l0 0)), .int .i64 0, .int .i64 0, .int .i64 0] 34 (0, 0))) := ⟨by rw [← hq_]; exact (ub_ BK313.out)⟩; replace HB : Aside0 (Below w.heap.size w w83) := ⟨by rw [← hq_]; exact (ue_ HB.out)⟩; clear hq_)); obtain ⟨hcz85_0, hcz85_1, hcz85_2, hcz85_3⟩ := cb4_ BK313.out; obtain ⟨hfz85_0, hfz85_1, hfz85_2, hfz85_3⟩ := bf4_ BK313.out; obtain ⟨i086, hi086, _, hsz86, _⟩ := info_parts info5; obtain ⟨A86, hcut86, hA86, hC86⟩ := print_mid_of (P := Try.prog) (Value.int .u8) 0 39 5 .i64 .i64 Try.underlying39 hi086 hsz86 (some ad312) c0 l0 1 4 (by omega) (by first | omega | exact of_decide_eq_true ua_) (of_decide_eq_true ua_) HC0.out; have HR322 := am_ (Kd.C_of_reads (h1 := fun _ => rfl) (hA86 _ (Kd.reads_of_C HR0.out))); have HC322 := Aside0.mk hC86; clear hA86 hC86 hi086 hsz86) | ((with_reducible refine gate_callee (f := 99) rfl ?_); refine goesL_ (some 38) rfl rfl Try.func99 (by kernel_rfl) rfl #[.slice A86 ((l0.take 4).drop 1).length (c0 - 1)] rfl (by (try simp only [List.map_toArray, List.map_cons, List.map_nil]); first | done | (rw [show ((l0.take 4).drop 1).length = (4 - 1) from (by rw [List.length_drop, List.length_take]; have h_ : (4 : Int) ≤ (l0.length : Int) := of_decide_eq_true ua_; omega)] <;> rfl) | rfl | (simp only [List.length_drop, List.length_take]; rfl)) ?_; (with_reducible refine (spec_l02Read.calls k _ _ ((l0.take 4).drop 1) t323 _ ?side1 ?side2 A61.out).mono ?_); (case side1 => repeat (first | exact (Kd.C_below HR322.out HB.out) | (with_reducible refine Kd.C_alloc ?_ _) | (with_reducible refine Kd.C_drewN ?_ _) | (with_reducible refine Kd.C_drew ?_))); (case side2 => exact HC322.out); rintro e w' ⟨rfl, ⟨nd, rfl⟩⟩; refine ⟨_, rfl, ?_⟩; (try (rw [drewN_self w83]; generalize hq_ : World.drewN w83 _ = w83; replace BK311 : Aside0 (w83.heap[gb311]? = some (.cells #[.int .i64 0, .int .i64 0, .int .i64 0, .int .i64 0] 34 (0, 0))) := ⟨by rw [← hq_]; exact (ub_ BK311.out)⟩; replace BK313 : Aside0 (w83.heap[gb313]? = some (.cells #[.int .i64 (wrap64 (rd l0 0)), .int .i64 0, .int .i64 0, .int .i64 0] 34 (0, 0))) := ⟨by rw [← hq_]; exact (ub_ BK313.out)⟩; replace HB : Aside0 (Below w.heap.size w w83) := ⟨by rw [← hq_]; exact (ue_ HB.out)⟩; clear hq_)); obtain ⟨hcz87_0, hcz87_1, hcz87_2, hcz87_3⟩ := cb4_ BK313.out; obtain ⟨hfz87_0, hfz87_1, hfz87_2⟩ := bf3_ BK313.out; have hfz87_3 := blk_frozen BK313.out 3) | ((with_reducible refine gate_store (t := 3) (p := 39) rfl ?_); refine st_ (w1 := (w83.setCell ⟨gb313, 2, none⟩ (.int .i64 t323))) ?_; intro w88 hw; replace BK311 : Aside0 (w88.heap[gb311]? = some (.cells #[.int .i64 0, .int .i64 0, .int .i64 0, .int .i64 0] 34 (0, 0))) := ⟨(by rw [hw]; exact (uf_ BK311.out))⟩; replace BK313 : Aside0 (w88.heap[gb313]? = some (.cells #[.int .i64 (wrap64 (rd l0 0)), .int .i64 0, .int .i64 t323, .int .i64 0] 34 (0, 0))) := ⟨(by rw [hw]; exact (by (with_reducible repeat first|apply bn_|apply bd_|apply ba_); refine blk_put (cs := #[.int .i64 (wrap64 (rd l0 0)), .int .i64 0, .int .i64 0, .int .i64 0]) ?_ 2 _ rfl; (with_reducible repeat first|apply bn_|apply bd_|apply ba_); exact BK313.out))⟩; replace HB : Aside0 (Below w.heap.size w w88) := ⟨(by rw [hw]; exact (ue_ HB.out))⟩; clear hw; obtain ⟨hcz89_0, hcz89_1, hcz89_2, hcz89_3⟩ := cb4_ BK313.out; obtain ⟨hfz89_0, hfz89_1, hfz89_2⟩ := bf3_ BK313.out; have hfz89_3 := blk_frozen BK313.out 3) | ((with_reducible refine gate_callee (f := 26) rfl ?_); refine goesL_ (some 41) rfl rfl Try.func26 (by kernel_rfl) rfl #[.agg #[.int .i64 (wrap64 (rd l0 0)), .int .i64 0, .int .i64 t323, .int .i64 0]] rfl ul_ ?_; (with_reducible refine (spec_FrameOk.calls (wrap64 (rd l0 0)) 0 t323 0 false _ A62.out).mono ?_); rintro e w90 ⟨rfl, hb⟩; refine ⟨_, rfl, ?_⟩; replace BK311 := am_ (bb_ BK311.out hb); replace BK313 := am_ (bb_ BK313.out hb); replace HB := am_ (below_step (ue_ HB.out) hb); (try clear hb); (try clear hb2); (try clear hk); (try clear hi); obtain ⟨hcz91_0, hcz91_1, hcz91_2, hcz91_3⟩ := cb4_ BK311.out; obtain ⟨hfz91_0, hfz91_1, hfz91_2⟩ := bf3_ BK311.out; have hfz91_3 := blk_frozen BK311.out 3) | ((with_reducible refine gate_store (t := 34) (p := 2) rfl ?_); refine st_ (w1 := ((((w90.setCell ⟨gb311, 0, none⟩ (.int .i64 0)).setCell ⟨gb311, 1, none⟩ (.int .i64 0)).setCell ⟨gb311, 2, none⟩ (.int .i64 0)).setCell ⟨gb311, 3, none⟩ (.int .i64 0))) ?_; intro w92 hw; replace BK311 : Aside0 (w92.heap[gb311]? = some (.cells #[.int .i64 0, .int .i64 0, .int .i64 0, .int .i64 0] 34 (0, 0))) := ⟨(by rw [hw]; exact (by (with_reducible repeat first|apply bn_|apply bd_|apply ba_); apply bp4_; (with_reducible repeat first|apply bn_|apply bd_|apply ba_); exact BK311.out))⟩; replace BK313 : Aside0 (w92.heap[gb313]? = some (.cells #[.int .i64 (wrap64 (rd l0 0)), .int .i64 0, .int .i64 t323, .int .i64 0] 34 (0, 0))) := ⟨(by rw [hw]; exact (uf_ BK313.out))⟩; replace HB : Aside0 (Below w.heap.size w w92) := ⟨(by rw [hw]; exact (ue_ HB.out))⟩; clear hw))
      refine bodyPost_ret (results_ct rfl _ _ gb311 34 #[.int .i64 0, .int .i64 0, .int .i64 0, .int .i64 0] (0, 0) _ rfl (ub_ BK311.out) Try.underlying34 rfl (by kernel_rfl)) rfl ?_
      exact ⟨ew_, ue_ HB.out⟩
     rw [if_neg c60] at H
     exact absurd H (by simp)
    rw [if_neg c59] at H
    exact absurd H (by simp)
   rw [if_neg c58] at H
   have c58b0 : ((wrap64 (rd l0 0)) == 2) = false := beq_eq_false_iff_ne.mpr c58
   have c58b1 : ((wrap64 (rd l0 0)) != 2) = true := bne_iff_ne.mpr c58
   replace H := Option.bind_eq_some_iff.mp H
   obtain ⟨t325, A930, H⟩ := H
   replace H : (if t325 = true then (some (wrap64 (rd l0 0), 0, 0, 0, true)) else (some (0, 0, 0, 0, false))) = some (r1, r2, r3, r4, r5) := H
   have A93 := Aside0.mk A930
   clear A930
   by_cases c94 : t325 = true
   ·
    subst c94
    have H1 : (some (wrap64 (rd l0 0), 0, 0, 0, true)) = some (r1, r2, r3, r4, r5) := by rw [if_pos rfl] at H; exact H
    clear H
    have H := H1
    clear H1
    simp only [Option.some.injEq, Prod.mk.injEq] at H
    obtain ⟨rfl, rfl, rfl, rfl, rfl⟩ := H
    go_enter Try.func80, Try.ntmps80
    go_wp2_with (first | ((with_reducible refine gate_dst (N := 2) rfl ?_); refine bx_ (N := 2) (cs := #[.int .i64 0, .int .i64 0, .int .i64 0, .int .i64 0]) (t := 34) ?_; intro gb311 hg w95 hbox hb; have BK311 := am_ (hbox); have GW311 := am_ ((by rw [hg]; exact (below_size (ue_ HB.out)) : w.heap.size ≤ gb311)); have GE311 := am_ ((by rw [hg]; exact (below_size (ue_ HB.out)) : w.heap.size ≤ gb311)); replace HB := am_ (below_step (ue_ HB.out) hb); clear hb hbox hg; have p312 : 0 ≤ (0 : Int) := (by omega); have q312 : 0 < (l0.length : Int) := of_decide_eq_true ua_; obtain ⟨ad312, e312, hx312_0⟩ := Kd.at_int HR0.out 0 p312 q312; cases e312; have qi312 : (0 < l0.length) = True := eq_true (by omega); (try rw [show ((0 : Int)).toNat = 0 from rfl] at hx312_0); (try rw [Addr.add_zero'] at hx312_0); replace hx312_0 := bc_ HB.out hx312_0; replace p312 := eq_true p312; replace q312 := eq_true q312) | ((with_reducible refine gate_dst (N := 4) rfl ?_); refine bx_ (N := 4) (cs := #[.int .i64 0, .int .i64 0, .int .i64 0, .int .i64 0]) (t := 34) ?_; intro gb313 hg w96 hbox hb; have BK313 := am_ (hbox); have GW313 := am_ ((by rw [hg]; exact (below_size (ue_ HB.out)) : w.heap.size ≤ gb313)); have GE313 := am_ ((by rw [hg]; exact (below_size (ue_ HB.out)) : w.heap.size ≤ gb313)); replace HB := am_ (below_step (ue_ HB.out) hb); have NB311_313 := am_ ((by rw [hg]; exact Nat.ne_of_lt (bl_ BK311.out) : gb311 ≠ gb313)); have NB313_311 := am_ ((by rw [hg]; exact Nat.ne_of_gt (bl_ BK311.out) : gb313 ≠ gb311)); replace BK311 := am_ (bb_ BK311.out hb); clear hb hbox hg; have hnb97 := NB313_311.out; have hnc97 := NB311_313.out; obtain ⟨hcz98_0, hcz98_1, hcz98_2, hcz98_3⟩ := cb4_ BK313.out; obtain ⟨hfz98_0, hfz98_1, hfz98_2⟩ := bf3_ BK313.out; have hfz98_3 := blk_frozen BK313.out 3) | ((with_reducible refine gate_store (t := 34) (p := 4) rfl ?_); refine st_ (w1 := ((((w96.setCell ⟨gb313, 0, none⟩ (.int .i64 (wrap64 (rd l0 0)))).setCell ⟨gb313, 1, none⟩ (.int .i64 0)).setCell ⟨gb313, 2, none⟩ (.int .i64 0)).setCell ⟨gb313, 3, none⟩ (.int .i64 0))) ?_; intro w99 hw; replace BK311 : Aside0 (w99.heap[gb311]? = some (.cells #[.int .i64 0, .int .i64 0, .int .i64 0, .int .i64 0] 34 (0, 0))) := ⟨(by rw [hw]; exact (uf_ BK311.out))⟩; replace BK313 : Aside0 (w99.heap[gb313]? = some (.cells #[.int .i64 (wrap64 (rd l0 0)), .int .i64 0, .int .i64 0, .int .i64 0] 34 (0, 0))) := ⟨(by rw [hw]; exact (by (with_reducible repeat first|apply bn_|apply bd_|apply ba_); apply bp4_; (with_reducible repeat first|apply bn_|apply bd_|apply ba_); exact BK313.out))⟩; replace HB : Aside0 (Below w.heap.size w w99) := ⟨(by rw [hw]; exact (ue_ HB.out))⟩; clear hw; obtain ⟨hcz100_0, hcz100_1, hcz100_2, hcz100_3⟩ := cb4_ BK313.out; obtain ⟨hfz100_0, hfz100_1, hfz100_2⟩ := bf3_ BK313.out; have hfz100_3 := blk_frozen BK313.out 3) | ((with_reducible refine gate_callee (f := 98) rfl ?_); refine goesL_ (some 14) rfl rfl Try.func98 (by kernel_rfl) rfl #[.int .i64 (wrap64 (rd l0 0))] rfl ul_ ?_; (with_reducible refine (spec_l02Size.calls (wrap64 (rd l0 0)) t314 _ A3.out).mono ?_); rintro e w' ⟨rfl, ⟨nd, rfl⟩⟩; refine ⟨_, rfl, ?_⟩; (try (rw [drewN_self w99]; generalize hq_ : World.drewN w99 _ = w99; replace BK311 : Aside0 (w99.heap[gb311]? = some (.cells #[.int .i64 0, .int .i64 0, .int .i64 0, .int .i64 0] 34 (0, 0))) := ⟨by rw [← hq_]; exact (ub_ BK311.out)⟩; replace BK313 : Aside0 (w99.heap[gb313]? = some (.cells #[.int .i64 (wrap64 (rd l0 0)), .int .i64 0, .int .i64 0, .int .i64 0] 34 (0, 0))) := ⟨by rw [← hq_]; exact (ub_ BK313.out)⟩; replace HB : Aside0 (Below w.heap.size w w99) := ⟨by rw [← hq_]; exact (ue_ HB.out)⟩; clear hq_)); obtain ⟨hcz101_0, hcz101_1, hcz101_2, hcz101_3⟩ := cb4_ BK313.out; obtain ⟨hfz101_0, hfz101_1, hfz101_2⟩ := bf3_ BK313.out; have hfz101_3 := blk_frozen BK313.out 3) | ((with_reducible refine gate_callee (f := 26) rfl ?_); refine goesL_ (some 41) rfl rfl Try.func26 (by kernel_rfl) rfl #[.agg #[.int .i64 (wrap64 (rd l0 0)), .int .i64 0, .int .i64 0, .int .i64 0]] rfl ul_ ?_; (with_reducible refine (spec_FrameOk.calls (wrap64 (rd l0 0)) 0 0 0 true _ A93.out).mono ?_); rintro e w102 ⟨rfl, hb⟩; refine ⟨_, rfl, ?_⟩; replace BK311 := am_ (bb_ BK311.out hb); replace BK313 := am_ (bb_ BK313.out hb); replace HB := am_ (below_step (ue_ HB.out) hb); (try clear hb); (try clear hb2); (try clear hk); (try clear hi); obtain ⟨hcz103_0, hcz103_1, hcz103_2, hcz103_3⟩ := cb4_ BK313.out; obtain ⟨hfz103_0, hfz103_1, hfz103_2, hfz103_3⟩ := bf4_ BK313.out; obtain ⟨hcz104_0, hcz104_1, hcz104_2, hcz104_3⟩ := cb4_ BK311.out; obtain ⟨hfz104_0, hfz104_1, hfz104_2⟩ := bf3_ BK311.out; have hfz104_3 := blk_frozen BK311.out 3) | ((with_reducible refine gate_store (t := 34) (p := 2) rfl ?_); refine st_ (w1 := ((((w102.setCell ⟨gb311, 0, none⟩ (.int .i64 (wrap64 (rd l0 0)))).setCell ⟨gb311, 1, none⟩ (.int .i64 0)).setCell ⟨gb311, 2, none⟩ (.int .i64 0)).setCell ⟨gb311, 3, none⟩ (.int .i64 0))) ?_; intro w105 hw; replace BK311 : Aside0 (w105.heap[gb311]? = some (.cells #[.int .i64 (wrap64 (rd l0 0)), .int .i64 0, .int .i64 0, .int .i64 0] 34 (0, 0))) := ⟨(by rw [hw]; exact (by (with_reducible repeat first|apply bn_|apply bd_|apply ba_); apply bp4_; (with_reducible repeat first|apply bn_|apply bd_|apply ba_); exact BK311.out))⟩; replace BK313 : Aside0 (w105.heap[gb313]? = some (.cells #[.int .i64 (wrap64 (rd l0 0)), .int .i64 0, .int .i64 0, .int .i64 0] 34 (0, 0))) := ⟨(by rw [hw]; exact (uf_ BK313.out))⟩; replace HB : Aside0 (Below w.heap.size w w105) := ⟨(by rw [hw]; exact (ue_ HB.out))⟩; clear hw))
    refine bodyPost_ret (results_ct rfl _ _ gb311 34 #[.int .i64 (wrap64 (rd l0 0)), .int .i64 0, .int .i64 0, .int .i64 0] (0, 0) _ rfl (ub_ BK311.out) Try.underlying34 rfl (by kernel_rfl)) rfl ?_
    exact ⟨ew_, ue_ HB.out⟩
   replace c94 := Bool.eq_false_iff.mpr c94
   subst c94
   have H1 : (some (0, 0, 0, 0, false)) = some (r1, r2, r3, r4, r5) := by rw [if_neg (show ¬ (false = true) by decide)] at H; exact H
   clear H
   have H := H1
   clear H1
   simp only [Option.some.injEq, Prod.mk.injEq] at H
   obtain ⟨rfl, rfl, rfl, rfl, rfl⟩ := H
   go_enter Try.func80, Try.ntmps80
   go_wp2_with (first | ((with_reducible refine gate_dst (N := 2) rfl ?_); refine bx_ (N := 2) (cs := #[.int .i64 0, .int .i64 0, .int .i64 0, .int .i64 0]) (t := 34) ?_; intro gb311 hg w106 hbox hb; have BK311 := am_ (hbox); have GW311 := am_ ((by rw [hg]; exact (below_size (ue_ HB.out)) : w.heap.size ≤ gb311)); have GE311 := am_ ((by rw [hg]; exact (below_size (ue_ HB.out)) : w.heap.size ≤ gb311)); replace HB := am_ (below_step (ue_ HB.out) hb); clear hb hbox hg; have p312 : 0 ≤ (0 : Int) := (by omega); have q312 : 0 < (l0.length : Int) := of_decide_eq_true ua_; obtain ⟨ad312, e312, hx312_0⟩ := Kd.at_int HR0.out 0 p312 q312; cases e312; have qi312 : (0 < l0.length) = True := eq_true (by omega); (try rw [show ((0 : Int)).toNat = 0 from rfl] at hx312_0); (try rw [Addr.add_zero'] at hx312_0); replace hx312_0 := bc_ HB.out hx312_0; replace p312 := eq_true p312; replace q312 := eq_true q312) | ((with_reducible refine gate_dst (N := 4) rfl ?_); refine bx_ (N := 4) (cs := #[.int .i64 0, .int .i64 0, .int .i64 0, .int .i64 0]) (t := 34) ?_; intro gb313 hg w107 hbox hb; have BK313 := am_ (hbox); have GW313 := am_ ((by rw [hg]; exact (below_size (ue_ HB.out)) : w.heap.size ≤ gb313)); have GE313 := am_ ((by rw [hg]; exact (below_size (ue_ HB.out)) : w.heap.size ≤ gb313)); replace HB := am_ (below_step (ue_ HB.out) hb); have NB311_313 := am_ ((by rw [hg]; exact Nat.ne_of_lt (bl_ BK311.out) : gb311 ≠ gb313)); have NB313_311 := am_ ((by rw [hg]; exact Nat.ne_of_gt (bl_ BK311.out) : gb313 ≠ gb311)); replace BK311 := am_ (bb_ BK311.out hb); clear hb hbox hg; have hnb108 := NB313_311.out; have hnc108 := NB311_313.out; obtain ⟨hcz109_0, hcz109_1, hcz109_2, hcz109_3⟩ := cb4_ BK313.out; obtain ⟨hfz109_0, hfz109_1, hfz109_2⟩ := bf3_ BK313.out; have hfz109_3 := blk_frozen BK313.out 3) | ((with_reducible refine gate_store (t := 34) (p := 4) rfl ?_); refine st_ (w1 := ((((w107.setCell ⟨gb313, 0, none⟩ (.int .i64 (wrap64 (rd l0 0)))).setCell ⟨gb313, 1, none⟩ (.int .i64 0)).setCell ⟨gb313, 2, none⟩ (.int .i64 0)).setCell ⟨gb313, 3, none⟩ (.int .i64 0))) ?_; intro w110 hw; replace BK311 : Aside0 (w110.heap[gb311]? = some (.cells #[.int .i64 0, .int .i64 0, .int .i64 0, .int .i64 0] 34 (0, 0))) := ⟨(by rw [hw]; exact (uf_ BK311.out))⟩; replace BK313 : Aside0 (w110.heap[gb313]? = some (.cells #[.int .i64 (wrap64 (rd l0 0)), .int .i64 0, .int .i64 0, .int .i64 0] 34 (0, 0))) := ⟨(by rw [hw]; exact (by (with_reducible repeat first|apply bn_|apply bd_|apply ba_); apply bp4_; (with_reducible repeat first|apply bn_|apply bd_|apply ba_); exact BK313.out))⟩; replace HB : Aside0 (Below w.heap.size w w110) := ⟨(by rw [hw]; exact (ue_ HB.out))⟩; clear hw; obtain ⟨hcz111_0, hcz111_1, hcz111_2, hcz111_3⟩ := cb4_ BK313.out; obtain ⟨hfz111_0, hfz111_1, hfz111_2⟩ := bf3_ BK313.out; have hfz111_3 := blk_frozen BK313.out 3) | ((with_reducible refine gate_callee (f := 98) rfl ?_); refine goesL_ (some 14) rfl rfl Try.func98 (by kernel_rfl) rfl #[.int .i64 (wrap64 (rd l0 0))] rfl ul_ ?_; (with_reducible refine (spec_l02Size.calls (wrap64 (rd l0 0)) t314 _ A3.out).mono ?_); rintro e w' ⟨rfl, ⟨nd, rfl⟩⟩; refine ⟨_, rfl, ?_⟩; (try (rw [drewN_self w110]; generalize hq_ : World.drewN w110 _ = w110; replace BK311 : Aside0 (w110.heap[gb311]? = some (.cells #[.int .i64 0, .int .i64 0, .int .i64 0, .int .i64 0] 34 (0, 0))) := ⟨by rw [← hq_]; exact (ub_ BK311.out)⟩; replace BK313 : Aside0 (w110.heap[gb313]? = some (.cells #[.int .i64 (wrap64 (rd l0 0)), .int .i64 0, .int .i64 0, .int .i64 0] 34 (0, 0))) := ⟨by rw [← hq_]; exact (ub_ BK313.out)⟩; replace HB : Aside0 (Below w.heap.size w w110) := ⟨by rw [← hq_]; exact (ue_ HB.out)⟩; clear hq_)); obtain ⟨hcz112_0, hcz112_1, hcz112_2, hcz112_3⟩ := cb4_ BK313.out; obtain ⟨hfz112_0, hfz112_1, hfz112_2⟩ := bf3_ BK313.out; have hfz112_3 := blk_frozen BK313.out 3) | ((with_reducible refine gate_callee (f := 26) rfl ?_); refine goesL_ (some 41) rfl rfl Try.func26 (by kernel_rfl) rfl #[.agg #[.int .i64 (wrap64 (rd l0 0)), .int .i64 0, .int .i64 0, .int .i64 0]] rfl ul_ ?_; (with_reducible refine (spec_FrameOk.calls (wrap64 (rd l0 0)) 0 0 0 false _ A93.out).mono ?_); rintro e w113 ⟨rfl, hb⟩; refine ⟨_, rfl, ?_⟩; replace BK311 := am_ (bb_ BK311.out hb); replace BK313 := am_ (bb_ BK313.out hb); replace HB := am_ (below_step (ue_ HB.out) hb); (try clear hb); (try clear hb2); (try clear hk); (try clear hi); obtain ⟨hcz114_0, hcz114_1, hcz114_2, hcz114_3⟩ := cb4_ BK311.out; obtain ⟨hfz114_0, hfz114_1, hfz114_2⟩ := bf3_ BK311.out; have hfz114_3 := blk_frozen BK311.out 3) | ((with_reducible refine gate_store (t := 34) (p := 2) rfl ?_); refine st_ (w1 := ((((w113.setCell ⟨gb311, 0, none⟩ (.int .i64 0)).setCell ⟨gb311, 1, none⟩ (.int .i64 0)).setCell ⟨gb311, 2, none⟩ (.int .i64 0)).setCell ⟨gb311, 3, none⟩ (.int .i64 0))) ?_; intro w115 hw; replace BK311 : Aside0 (w115.heap[gb311]? = some (.cells #[.int .i64 0, .int .i64 0, .int .i64 0, .int .i64 0] 34 (0, 0))) := ⟨(by rw [hw]; exact (by (with_reducible repeat first|apply bn_|apply bd_|apply ba_); apply bp4_; (with_reducible repeat first|apply bn_|apply bd_|apply ba_); exact BK311.out))⟩; replace BK313 : Aside0 (w115.heap[gb313]? = some (.cells #[.int .i64 (wrap64 (rd l0 0)), .int .i64 0, .int .i64 0, .int .i64 0] 34 (0, 0))) := ⟨(by rw [hw]; exact (uf_ BK313.out))⟩; replace HB : Aside0 (Below w.heap.size w w115) := ⟨(by rw [hw]; exact (ue_ HB.out))⟩; clear hw))
   refine bodyPost_ret (results_ct rfl _ _ gb311 34 #[.int .i64 0, .int .i64 0, .int .i64 0, .int .i64 0] (0, 0) _ rfl (ub_ BK311.out) Try.underlying34 rfl (by kernel_rfl)) rfl ?_
   exact ⟨ew_, ue_ HB.out⟩
  rw [if_neg c4] at H
  have c4b0 : ((l0.length : Int) == t314) = false := beq_eq_false_iff_ne.mpr c4
  have c4b1 : ((l0.length : Int) != t314) = true := bne_iff_ne.mpr c4
  simp only [Option.some.injEq, Prod.mk.injEq] at H
  obtain ⟨rfl, rfl, rfl, rfl, rfl⟩ := H
  go_enter Try.func80, Try.ntmps80
  go_wp2_with (first | ((with_reducible refine gate_dst (N := 2) rfl ?_); refine bx_ (N := 2) (cs := #[.int .i64 0, .int .i64 0, .int .i64 0, .int .i64 0]) (t := 34) ?_; intro gb311 hg w116 hbox hb; have BK311 := am_ (hbox); have GW311 := am_ ((by rw [hg]; exact (below_size (ue_ HB.out)) : w.heap.size ≤ gb311)); have GE311 := am_ ((by rw [hg]; exact (below_size (ue_ HB.out)) : w.heap.size ≤ gb311)); replace HB := am_ (below_step (ue_ HB.out) hb); clear hb hbox hg; have p312 : 0 ≤ (0 : Int) := (by omega); have q312 : 0 < (l0.length : Int) := of_decide_eq_true ua_; obtain ⟨ad312, e312, hx312_0⟩ := Kd.at_int HR0.out 0 p312 q312; cases e312; have qi312 : (0 < l0.length) = True := eq_true (by omega); (try rw [show ((0 : Int)).toNat = 0 from rfl] at hx312_0); (try rw [Addr.add_zero'] at hx312_0); replace hx312_0 := bc_ HB.out hx312_0; replace p312 := eq_true p312; replace q312 := eq_true q312) | ((with_reducible refine gate_dst (N := 4) rfl ?_); refine bx_ (N := 4) (cs := #[.int .i64 0, .int .i64 0, .int .i64 0, .int .i64 0]) (t := 34) ?_; intro gb313 hg w117 hbox hb; have BK313 := am_ (hbox); have GW313 := am_ ((by rw [hg]; exact (below_size (ue_ HB.out)) : w.heap.size ≤ gb313)); have GE313 := am_ ((by rw [hg]; exact (below_size (ue_ HB.out)) : w.heap.size ≤ gb313)); replace HB := am_ (below_step (ue_ HB.out) hb); have NB311_313 := am_ ((by rw [hg]; exact Nat.ne_of_lt (bl_ BK311.out) : gb311 ≠ gb313)); have NB313_311 := am_ ((by rw [hg]; exact Nat.ne_of_gt (bl_ BK311.out) : gb313 ≠ gb311)); replace BK311 := am_ (bb_ BK311.out hb); clear hb hbox hg; have hnb118 := NB313_311.out; have hnc118 := NB311_313.out; obtain ⟨hcz119_0, hcz119_1, hcz119_2, hcz119_3⟩ := cb4_ BK313.out; obtain ⟨hfz119_0, hfz119_1, hfz119_2⟩ := bf3_ BK313.out; have hfz119_3 := blk_frozen BK313.out 3) | ((with_reducible refine gate_store (t := 34) (p := 4) rfl ?_); refine st_ (w1 := ((((w117.setCell ⟨gb313, 0, none⟩ (.int .i64 (wrap64 (rd l0 0)))).setCell ⟨gb313, 1, none⟩ (.int .i64 0)).setCell ⟨gb313, 2, none⟩ (.int .i64 0)).setCell ⟨gb313, 3, none⟩ (.int .i64 0))) ?_; intro w120 hw; replace BK311 : Aside0 (w120.heap[gb311]? = some (.cells #[.int .i64 0, .int .i64 0, .int .i64 0, .int .i64 0] 34 (0, 0))) := ⟨(by rw [hw]; exact (uf_ BK311.out))⟩; replace BK313 : Aside0 (w120.heap[gb313]? = some (.cells #[.int .i64 (wrap64 (rd l0 0)), .int .i64 0, .int .i64 0, .int .i64 0] 34 (0, 0))) := ⟨(by rw [hw]; exact (by (with_reducible repeat first|apply bn_|apply bd_|apply ba_); apply bp4_; (with_reducible repeat first|apply bn_|apply bd_|apply ba_); exact BK313.out))⟩; replace HB : Aside0 (Below w.heap.size w w120) := ⟨(by rw [hw]; exact (ue_ HB.out))⟩; clear hw; obtain ⟨hcz121_0, hcz121_1, hcz121_2, hcz121_3⟩ := cb4_ BK313.out; obtain ⟨hfz121_0, hfz121_1, hfz121_2⟩ := bf3_ BK313.out; have hfz121_3 := blk_frozen BK313.out 3) | ((with_reducible refine gate_callee (f := 98) rfl ?_); refine goesL_ (some 14) rfl rfl Try.func98 (by kernel_rfl) rfl #[.int .i64 (wrap64 (rd l0 0))] rfl ul_ ?_; (with_reducible refine (spec_l02Size.calls (wrap64 (rd l0 0)) t314 _ A3.out).mono ?_); rintro e w' ⟨rfl, ⟨nd, rfl⟩⟩; refine ⟨_, rfl, ?_⟩; (try (rw [drewN_self w120]; generalize hq_ : World.drewN w120 _ = w120; replace BK311 : Aside0 (w120.heap[gb311]? = some (.cells #[.int .i64 0, .int .i64 0, .int .i64 0, .int .i64 0] 34 (0, 0))) := ⟨by rw [← hq_]; exact (ub_ BK311.out)⟩; replace BK313 : Aside0 (w120.heap[gb313]? = some (.cells #[.int .i64 (wrap64 (rd l0 0)), .int .i64 0, .int .i64 0, .int .i64 0] 34 (0, 0))) := ⟨by rw [← hq_]; exact (ub_ BK313.out)⟩; replace HB : Aside0 (Below w.heap.size w w120) := ⟨by rw [← hq_]; exact (ue_ HB.out)⟩; clear hq_)); obtain ⟨hcz122_0, hcz122_1, hcz122_2, hcz122_3⟩ := cb4_ BK311.out; obtain ⟨hfz122_0, hfz122_1, hfz122_2⟩ := bf3_ BK311.out; have hfz122_3 := blk_frozen BK311.out 3) | ((with_reducible refine gate_store (t := 34) (p := 2) rfl ?_); refine st_ (w1 := ((((w120.setCell ⟨gb311, 0, none⟩ (.int .i64 0)).setCell ⟨gb311, 1, none⟩ (.int .i64 0)).setCell ⟨gb311, 2, none⟩ (.int .i64 0)).setCell ⟨gb311, 3, none⟩ (.int .i64 0))) ?_; intro w123 hw; replace BK311 : Aside0 (w123.heap[gb311]? = some (.cells #[.int .i64 0, .int .i64 0, .int .i64 0, .int .i64 0] 34 (0, 0))) := ⟨(by rw [hw]; exact (by (with_reducible repeat first|apply bn_|apply bd_|apply ba_); apply bp4_; (with_reducible repeat first|apply bn_|apply bd_|apply ba_); exact BK311.out))⟩; replace BK313 : Aside0 (w123.heap[gb313]? = some (.cells #[.int .i64 (wrap64 (rd l0 0)), .int .i64 0, .int .i64 0, .int .i64 0] 34 (0, 0))) := ⟨(by rw [hw]; exact (uf_ BK313.out))⟩; replace HB : Aside0 (Below w.heap.size w w123) := ⟨(by rw [hw]; exact (ue_ HB.out))⟩; clear hw))
  refine bodyPost_ret (results_ct rfl _ _ gb311 34 #[.int .i64 0, .int .i64 0, .int .i64 0, .int .i64 0] (0, 0) _ rfl (ub_ BK311.out) Try.underlying34 rfl (by kernel_rfl)) rfl ?_
  exact ⟨ew_, ue_ HB.out⟩
 rw [if_neg c2] at H
 exact absurd H (by simp)

end Go.Proofs.Ytaofcalmgodgjaa.QFnPieces
