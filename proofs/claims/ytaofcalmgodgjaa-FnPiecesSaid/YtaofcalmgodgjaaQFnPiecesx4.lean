/- The machine side of a law: Lean functions with the Go functions' answers and the walks that show it. No condition. -/
import Derived.Test.YtaofcalmgodgjaaQFnPiecesx0
import Derived.Test.YtaofcalmgodgjaaQFnPiecesx2
import Derived.Test.YtaofcalmgodgjaaQFnPiecesx3
namespace Go.Proofs.Ytaofcalmgodgjaa.QFnPieces
open Go.RowKit Go.Proofs.YtaofcalmgodgjaaW.PrintWords Go.Proofs.YtaofcalmgodgjaaW.PrintLast Go.Proofs.YtaofcalmgodgjaaW.PrintMore
attribute [local go_sem] max2_int min2_int max_two min_two max_three min_three max_four min_four   -- for this text's walks alone
set_option linter.unusedVariables false
set_option linter.unusedSimpArgs false

/-! ### spec_l02DrawFrame: function 76 -/
def spec_l02DrawFrame.j0 : Nat → List Int → Int → Int → Int → Int → Int → Int → Option (Int × Int × Int × Int × Int × Int)
 | 0, _, _, _, _, _, _, _ => none
 | k + 1, x1000, x1001, x1002, x191000, x191001, x191002, x191003 => if x191000 = 3 then (some (x191000, x191001, x191002, x191003, x1001, x1002)) else ((spec_l01Below.f x1000 x1001 x1002 60).bind fun bt218 => ((spec_l01Below.f x1000 bt218.2.1 bt218.2.2 60).bind fun bt221 => ((spec_l01PickInt.f x1000 bt221.2.1 bt221.2.2 (([bt218.1, bt221.1, 0, 1000000] : List Int))).bind fun bt227 => (some (x191000, x191001, bt227.1, x191003, bt227.2.1, bt227.2.2)))))
def spec_l02DrawFrame.f (k : Nat) (s0_0 : List Int) (s0_1 : Int) (s0_2 : Int) : Option (Int × Int × Int × Int × Int × Int) := (spec_l01PickInt.f s0_0 s0_1 s0_2 (([1, 1, 1, 1, 2, 3] : List Int))).bind fun bt187 => (if bt187.1 = 1 then ((spec_l01Below.f s0_0 bt187.2.1 bt187.2.2 5).bind fun bt191 => ((spec_l01Below.f s0_0 bt191.2.1 bt191.2.2 5).bind fun bt194 => ((spec_l01Below.f s0_0 bt194.2.1 bt194.2.2 65536).bind fun bt197 => ((spec_l01PickInt.f s0_0 bt197.2.1 bt197.2.2 (([bt191.1, bt194.1, bt197.1, 65535] : List Int))).bind fun bt203 => ((spec_l01Below.f s0_0 bt203.2.1 bt203.2.2 20).bind fun bt206 => ((spec_l01Below.f s0_0 bt206.2.1 bt206.2.2 20).bind fun bt209 => ((spec_l01PickInt.f s0_0 bt209.2.1 bt209.2.2 (([wrap64 (bt206.1 - 5), wrap64 (bt209.1 - 5), 1000000, (-1000000)] : List Int))).bind fun bt215 => (spec_l02DrawFrame.j0 k s0_0 bt215.2.1 bt215.2.2 bt187.1 bt203.1 0 bt215.1)))))))) else (spec_l02DrawFrame.j0 k s0_0 bt187.2.1 bt187.2.2 bt187.1 0 0 0))
theorem spec_l02DrawFrame.mono_l : ∀ k, (∀ y0 y1 y2 y3 y4 y5 y6, LeO (spec_l02DrawFrame.j0 k y0 y1 y2 y3 y4 y5 y6) (spec_l02DrawFrame.j0 (k + 1) y0 y1 y2 y3 y4 y5 y6))
 | 0 => fun _ _ _ _ _ _ _ r h => by simp [spec_l02DrawFrame.j0] at h
 | k + 1 => by
  have ih0 := spec_l02DrawFrame.mono_l k
  intro y0 y1 y2 y3 y4 y5 y6
  unfold spec_l02DrawFrame.j0
  repeat' first
  | (with_reducible exact ih0 _ _ _ _ _ _ _)
  | (with_reducible exact LeO.refl _)
  | (with_reducible exact LeO.none _)
  | (with_reducible refine LeO.ite ?_ ?_)
  | (with_reducible refine LeO.bind ?_ (fun _ => ?_))
  | exact ih0 _ _ _ _ _ _ _
  | exact LeO.none _
  | refine LeO.ite ?_ ?_
  | refine LeO.bind ?_ (fun _ => ?_)
theorem spec_l02DrawFrame.mono : ∀ a0 a1 a2 k, LeO (spec_l02DrawFrame.f k a0 a1 a2) (spec_l02DrawFrame.f (k + 1) a0 a1 a2) := by
 intro a0 a1 a2 k
 have ih0 := spec_l02DrawFrame.mono_l k
 unfold spec_l02DrawFrame.f
 repeat' first
   | (with_reducible exact ih0 _ _ _ _ _ _ _)
   | (with_reducible exact LeO.refl _)
   | (with_reducible exact LeO.none _)
   | (with_reducible refine LeO.ite ?_ ?_)
   | (with_reducible refine LeO.bind ?_ (fun _ => ?_))
   | exact ih0 _ _ _ _ _ _ _
   | exact LeO.none _
   | refine LeO.ite ?_ ?_
   | refine LeO.bind ?_ (fun _ => ?_)
set_option maxHeartbeats 8000000 in
set_option maxRecDepth 100000 in
theorem spec_l02DrawFrame.calls (k : Nat) (g : Nat) (s0_0 : List Int) (s0_1 : Int) (s0_2 : Int) (r1 : Int) (r2 : Int) (r3 : Int) (r4 : Int) (r5 : Int) (r6 : Int) (w0 w : World) (hI : IsS93 w0 w g s0_0 s0_1 s0_2) (hB : Below w0.heap.size w0 w) (h : spec_l02DrawFrame.f k s0_0 s0_1 s0_2 = some (r1, r2, r3, r4, r5, r6)) :
  Calls Try.prog 76 #[.pointer (some ⟨g, 0, none⟩)] w fun e w' => e = .returned (.agg #[.int .i64 r1, .int .i64 r2, .int .i64 r3, .int .i64 r4]) ∧ IsS93 w0 w' g s0_0 r5 r6 ∧ Below w0.heap.size w0 w' ∧ KeepBut w w' g none := by
 have hu34 := Try.underlying34
 have HI0 := Aside0.mk hI
 have HK := am_ (KeepBut.refl w g none)
 have HL := Aside0.mk hB.size
 clear hI
 have HW0 := Aside0.mk hB.size
 have HB := Aside0.mk hB
 clear hB
 have H : ((spec_l01PickInt.f s0_0 s0_1 s0_2 (([1, 1, 1, 1, 2, 3] : List Int))).bind fun bt187 => (if bt187.1 = 1 then ((spec_l01Below.f s0_0 bt187.2.1 bt187.2.2 5).bind fun bt191 => ((spec_l01Below.f s0_0 bt191.2.1 bt191.2.2 5).bind fun bt194 => ((spec_l01Below.f s0_0 bt194.2.1 bt194.2.2 65536).bind fun bt197 => ((spec_l01PickInt.f s0_0 bt197.2.1 bt197.2.2 (([bt191.1, bt194.1, bt197.1, 65535] : List Int))).bind fun bt203 => ((spec_l01Below.f s0_0 bt203.2.1 bt203.2.2 20).bind fun bt206 => ((spec_l01Below.f s0_0 bt206.2.1 bt206.2.2 20).bind fun bt209 => ((spec_l01PickInt.f s0_0 bt209.2.1 bt209.2.2 (([wrap64 (bt206.1 - 5), wrap64 (bt209.1 - 5), 1000000, (-1000000)] : List Int))).bind fun bt215 => (spec_l02DrawFrame.j0 k s0_0 bt215.2.1 bt215.2.2 bt187.1 bt203.1 0 bt215.1)))))))) else (spec_l02DrawFrame.j0 k s0_0 bt187.2.1 bt187.2.2 bt187.1 0 0 0))) = some (r1, r2, r3, r4, r5, r6) := h
 clear h
 obtain ⟨y184, hy184⟩ : ∃ y_ : List Int, y_ = (([1, 1, 1, 1, 2, 3] : List Int)) := ⟨_, rfl⟩
 replace H : ((spec_l01PickInt.f s0_0 s0_1 s0_2 y184).bind fun bt187 => (if bt187.1 = 1 then ((spec_l01Below.f s0_0 bt187.2.1 bt187.2.2 5).bind fun bt191 => ((spec_l01Below.f s0_0 bt191.2.1 bt191.2.2 5).bind fun bt194 => ((spec_l01Below.f s0_0 bt194.2.1 bt194.2.2 65536).bind fun bt197 => ((spec_l01PickInt.f s0_0 bt197.2.1 bt197.2.2 (([bt191.1, bt194.1, bt197.1, 65535] : List Int))).bind fun bt203 => ((spec_l01Below.f s0_0 bt203.2.1 bt203.2.2 20).bind fun bt206 => ((spec_l01Below.f s0_0 bt206.2.1 bt206.2.2 20).bind fun bt209 => ((spec_l01PickInt.f s0_0 bt209.2.1 bt209.2.2 (([wrap64 (bt206.1 - 5), wrap64 (bt209.1 - 5), 1000000, (-1000000)] : List Int))).bind fun bt215 => (spec_l02DrawFrame.j0 k s0_0 bt215.2.1 bt215.2.2 bt187.1 bt203.1 0 bt215.1)))))))) else (spec_l02DrawFrame.j0 k s0_0 bt187.2.1 bt187.2.2 bt187.1 0 0 0))) = some (r1, r2, r3, r4, r5, r6) := by first | (rw [hy184]; with_reducible exact H) | (have H2_ := (Option.bind_some _ _).symm.trans H; rw [hy184]; with_reducible exact H2_) | (have H2_ := (Option.bind_some _ _).symm.trans H; with_reducible exact H2_) | with_reducible exact H | (rw [hy184]; exact H) | exact H
 have Ny184 := Aside0.mk hy184
 clear hy184
 replace H := Option.bind_eq_some_iff.mp H
 obtain ⟨⟨t187, t188, t189⟩, A20, H⟩ := H
 replace H : (if t187 = 1 then ((spec_l01Below.f s0_0 t188 t189 5).bind fun bt191 => ((spec_l01Below.f s0_0 bt191.2.1 bt191.2.2 5).bind fun bt194 => ((spec_l01Below.f s0_0 bt194.2.1 bt194.2.2 65536).bind fun bt197 => ((spec_l01PickInt.f s0_0 bt197.2.1 bt197.2.2 (([bt191.1, bt194.1, bt197.1, 65535] : List Int))).bind fun bt203 => ((spec_l01Below.f s0_0 bt203.2.1 bt203.2.2 20).bind fun bt206 => ((spec_l01Below.f s0_0 bt206.2.1 bt206.2.2 20).bind fun bt209 => ((spec_l01PickInt.f s0_0 bt209.2.1 bt209.2.2 (([wrap64 (bt206.1 - 5), wrap64 (bt209.1 - 5), 1000000, (-1000000)] : List Int))).bind fun bt215 => (spec_l02DrawFrame.j0 k s0_0 bt215.2.1 bt215.2.2 t187 bt203.1 0 bt215.1)))))))) else (spec_l02DrawFrame.j0 k s0_0 t188 t189 t187 0 0 0)) = some (r1, r2, r3, r4, r5, r6) := H
 have A2 := Aside0.mk A20
 clear A20
 have HC3 := Aside0.mk H
 clear H
 go_enter Try.func76, Try.ntmps76
 go_upto_if 10 with (first | ((with_reducible refine gate_dst (N := 2) rfl ?_); refine bx_ (N := 2) (cs := #[.int .i64 0, .int .i64 0, .int .i64 0, .int .i64 0]) (t := 34) ?_; intro gb183 hg w4 hbox hb; replace HB := am_ (below_step (by repeat (first | (with_reducible first | exact HB.out | apply below_alloc | apply pw_below_drewN | apply below_drew1 | refine below_set ?_ (IsS93.ge HI0.out)) | exact HB.out)) hb); have BK183 := am_ (hbox); have GW183 := am_ ((by rw [hg]; exact (keep_size (w := w) (g := g) (row := none) (by repeat (first | (with_reducible first | exact HK.out | apply KeepBut.set_ | apply keep_drewN | apply keep_drew | apply keep_alloc) | exact HK.out))) : w.heap.size ≤ gb183)); have GE183 := am_ ((Nat.le_trans HW0.out (by rw [hg]; exact (keep_size (w := w) (g := g) (row := none) (by repeat (first | (with_reducible first | exact HK.out | apply KeepBut.set_ | apply keep_drewN | apply keep_drew | apply keep_alloc) | exact HK.out))) : w.heap.size ≤ gb183) : w0.heap.size ≤ gb183)); replace HK := am_ (KeepBut.trans (by repeat (first | (with_reducible first | exact HK.out | apply KeepBut.set_ | apply keep_drewN | apply keep_drew | apply keep_alloc) | exact HK.out)) (KeepBut.of_below hb g none) (.inl rfl)); have NB0_183 := am_ ((by rw [hg]; exact Nat.ne_of_lt (IsS93.lt (show IsS93 w0 _ g s0_0 s0_1 s0_2 from us0_ HI0.out)) : g ≠ gb183)); have NB183_0 := am_ ((by rw [hg]; exact Nat.ne_of_gt (IsS93.lt (show IsS93 w0 _ g s0_0 s0_1 s0_2 from us0_ HI0.out)) : gb183 ≠ g)); replace HI0 := am_ (IsS93.below (us0_ HI0.out) hb); clear hb hbox hg) | ((with_reducible refine gate_dst (N := 5) rfl ?_); refine Kd.R_lit (Kd.int .i64) _ 3 ?hg (N := 5) ?hd (xs := ([1, 1, 1, 1, 2, 3] : List Int)) (inner := [.int .i64 1, .int .i64 1, .int .i64 1, .int .i64 1, .int .i64 2, .int .i64 3]) (ok := fun _ => True) (okp := fun _ => True) ?hr ?hp (fun _ hk => hk) trivial (Below.refl _ _) (Nat.le_refl _) (by simp) ?_; (case hd => rfl); (case hg => rfl); (case hr => first | (go_simp; done) | (go_simp; rfl)); (case hp => exact (Reps.one (show Kd.M (Kd.int .i64) _ _ _ 1 [.int .i64 1] from rfl) (Reps.one (show Kd.M (Kd.int .i64) _ _ _ 1 [.int .i64 1] from rfl) (Reps.one (show Kd.M (Kd.int .i64) _ _ _ 1 [.int .i64 1] from rfl) (Reps.one (show Kd.M (Kd.int .i64) _ _ _ 1 [.int .i64 1] from rfl) (Reps.one (show Kd.M (Kd.int .i64) _ _ _ 2 [.int .i64 2] from rfl) (Reps.one (show Kd.M (Kd.int .i64) _ _ _ 3 [.int .i64 3] from rfl) (Reps.none _ _)))))))); intro v185 w5 ho6 hb hg_ hnew_; clear hg_ hnew_; (first | rw [← Ny184.out] at ho6 | (simp only [Int.reduceToNat] at ho6; rw [← Ny184.out] at ho6)); have HO186 := am_ (Kd.R_lower ho6 (keep_size (w := w) (g := g) (row := none) (by repeat (first | (with_reducible first | exact HK.out | apply KeepBut.set_ | apply keep_drewN | apply keep_drew | apply keep_alloc | refine keep_far ?_ GW183.out _) | exact HK.out)))); replace BK183 := am_ (bb_ BK183.out hb); replace HK := am_ (KeepBut.trans (by repeat (first | (with_reducible first | exact HK.out | apply KeepBut.set_ | apply keep_drewN | apply keep_drew | apply keep_alloc | refine keep_far ?_ GW183.out _) | exact HK.out)) (KeepBut.of_below hb g none) (.inl rfl)); replace HB := am_ (below_step (by repeat (first | (with_reducible first | exact HB.out | apply below_alloc | apply pw_below_drewN | apply below_drew1 | refine below_set ?_ (IsS93.ge HI0.out) | refine below_set ?_ GE183.out) | exact HB.out)) hb); replace HI0 := am_ (IsS93.below (us0_ HI0.out) hb); clear hb ho6; obtain ⟨Ao7, co7, eo7⟩ := Kd.R_slice HO186.out; subst eo7) | ((with_reducible refine gate_callee (f := 78) rfl ?_); refine goesL_ (some 6) rfl rfl Try.func78 (by kernel_rfl) rfl #[.pointer (some ⟨g, 0, none⟩), .slice Ao7 y184.length co7] rfl ul_ ?_; (with_reducible refine (spec_l01PickInt.calls g s0_0 s0_1 s0_2 _ _ y184 t187 t188 t189 w0 _ ?side1 ?side2 ?side3 ?side4 ?side5 A2.out).mono ?_); (case side1 => exact us0_ HI0.out); (case side2 => repeat (first | (with_reducible first | exact HB.out | apply below_alloc | apply pw_below_drewN | apply below_drew1 | refine below_set ?_ (IsS93.ge HI0.out) | refine below_set ?_ GE183.out) | exact HB.out)); (case side3 => repeat (first | exact (Kd.R_reads' HO186.out).2.2 | (with_reducible refine Kd.C_alloc ?_ _) | (with_reducible refine Kd.C_drewN ?_ _) | (with_reducible refine Kd.C_drew ?_))); (case side4 => exact (Kd.R_reads' HO186.out).2.1); (case side5 => exact far_slice (IsS93.own_ne HI0.out HO186.out (by decide))); rintro e w8 ⟨rfl, hi, hb, hk⟩; refine ⟨_, rfl, ?_⟩; replace BK183 := am_ (KeepBut.blk hk (g' := gb183) (o := .cells #[.int .i64 0, .int .i64 0, .int .i64 0, .int .i64 0] 34 (0, 0)) (ub_ BK183.out) NB183_0.out (by simp)); replace HO186 := am_ (Kd.R_mono (Kd.R_keep (IsS93.apart (show IsS93 w0 _ g s0_0 s0_1 s0_2 from us0_ HI0.out) (ur_ HO186.out) (by decide)) hk (fun _ h => h.2)) (fun _ h => h.1)); replace HK := am_ (KeepBut.trans (by repeat (first | (with_reducible first | exact HK.out | apply KeepBut.set_ | apply keep_drewN | apply keep_drew | apply keep_alloc | refine keep_far ?_ GW183.out _) | exact HK.out)) hk (.inl rfl)); replace HB := am_ (hb); replace HI0 := am_ (hi); (try clear hb); (try clear hb2); (try clear hk); (try clear hi)) | ((with_reducible refine gate_dst (N := 3) rfl ?_); refine bx_ (N := 3) (cs := #[.int .i64 0, .int .i64 0, .int .i64 0, .int .i64 0]) (t := 34) ?_; intro gb190 hg w9 hbox hb; replace HO186 := am_ (Kd.R_below (ur_ HO186.out) hb); replace HB := am_ (below_step (by repeat (first | (with_reducible first | exact HB.out | apply below_alloc | apply pw_below_drewN | apply below_drew1 | refine below_set ?_ (IsS93.ge HI0.out) | refine below_set ?_ GE183.out) | exact HB.out)) hb); have BK190 := am_ (hbox); have GW190 := am_ ((by rw [hg]; exact (keep_size (w := w) (g := g) (row := none) (by repeat (first | (with_reducible first | exact HK.out | apply KeepBut.set_ | apply keep_drewN | apply keep_drew | apply keep_alloc | refine keep_far ?_ GW183.out _) | exact HK.out))) : w.heap.size ≤ gb190)); have GE190 := am_ ((Nat.le_trans HW0.out (by rw [hg]; exact (keep_size (w := w) (g := g) (row := none) (by repeat (first | (with_reducible first | exact HK.out | apply KeepBut.set_ | apply keep_drewN | apply keep_drew | apply keep_alloc | refine keep_far ?_ GW183.out _) | exact HK.out))) : w.heap.size ≤ gb190) : w0.heap.size ≤ gb190)); replace HK := am_ (KeepBut.trans (by repeat (first | (with_reducible first | exact HK.out | apply KeepBut.set_ | apply keep_drewN | apply keep_drew | apply keep_alloc | refine keep_far ?_ GW183.out _) | exact HK.out)) (KeepBut.of_below hb g none) (.inl rfl)); have NB183_190 := am_ ((by rw [hg]; exact Nat.ne_of_lt (bl_ BK183.out) : gb183 ≠ gb190)); have NB190_183 := am_ ((by rw [hg]; exact Nat.ne_of_gt (bl_ BK183.out) : gb190 ≠ gb183)); replace BK183 := am_ (bb_ BK183.out hb); have NB0_190 := am_ ((by rw [hg]; exact Nat.ne_of_lt (IsS93.lt (show IsS93 w0 _ g s0_0 t188 t189 from us0_ HI0.out)) : g ≠ gb190)); have NB190_0 := am_ ((by rw [hg]; exact Nat.ne_of_gt (IsS93.lt (show IsS93 w0 _ g s0_0 t188 t189 from us0_ HI0.out)) : gb190 ≠ g)); replace HI0 := am_ (IsS93.below (us0_ HI0.out) hb); clear hb hbox hg; have hnb10 := NB190_183.out; have hnc10 := NB183_190.out; have hnb11 := NB190_0.out; have hnc11 := NB0_190.out; obtain ⟨hcz12_0, hcz12_1, hcz12_2, hcz12_3⟩ := cb4_ BK190.out; obtain ⟨hfz12_0, hfz12_1, hfz12_2⟩ := bf3_ BK190.out; have hfz12_3 := blk_frozen BK190.out 3) | ((with_reducible refine gate_store (t := 34) (p := 3) rfl ?_); refine st_ (w1 := ((((w9.setCell ⟨gb190, 0, none⟩ (.int .i64 t187)).setCell ⟨gb190, 1, none⟩ (.int .i64 0)).setCell ⟨gb190, 2, none⟩ (.int .i64 0)).setCell ⟨gb190, 3, none⟩ (.int .i64 0))) ?_; intro w13 hw; replace HO186 : Aside0 (Kd.R (Kd.int .i64) 3 w13 w.heap.size (fun _ => True) (.slice Ao7 y184.length co7) y184) := ⟨(by rw [hw]; exact (by (with_reducible repeat (first | apply Kd.R_alloc | apply Kd.R_drewN | apply Kd.R_drew)); exact Kd.R_mono (Rf4_ (g := gb190) (Kd.R_types HO186.out BK190.out (by decide))) (fun _ hk => trivial)))⟩; replace BK183 : Aside0 (w13.heap[gb183]? = some (.cells #[.int .i64 0, .int .i64 0, .int .i64 0, .int .i64 0] 34 (0, 0))) := ⟨(by rw [hw]; exact (uf_ BK183.out))⟩; replace BK190 : Aside0 (w13.heap[gb190]? = some (.cells #[.int .i64 t187, .int .i64 0, .int .i64 0, .int .i64 0] 34 (0, 0))) := ⟨(by rw [hw]; exact (by (with_reducible repeat first|apply bn_|apply bd_|apply ba_); apply bp4_; (with_reducible repeat first|apply bn_|apply bd_|apply ba_); exact BK190.out))⟩; replace HK : Aside0 (KeepBut w w13 g none) := ⟨(by rw [hw]; exact (by repeat (first | (with_reducible first | exact HK.out | apply KeepBut.set_ | apply keep_drewN | apply keep_drew | apply keep_alloc | refine keep_far ?_ GW183.out _ | refine keep_far ?_ GW190.out _) | exact HK.out)))⟩; replace HB : Aside0 (Below w0.heap.size w0 w13) := ⟨(by rw [hw]; exact (by repeat (first | (with_reducible first | exact HB.out | apply below_alloc | apply pw_below_drewN | apply below_drew1 | refine below_set ?_ (IsS93.ge HI0.out) | refine below_set ?_ GE183.out | refine below_set ?_ GE190.out) | exact HB.out)))⟩; replace HI0 : Aside0 (IsS93 w0 w13 g s0_0 t188 t189) := ⟨(by rw [hw]; exact (us0_ HI0.out))⟩; clear hw; obtain ⟨hcz14_0, hcz14_1, hcz14_2, hcz14_3⟩ := cb4_ BK190.out; obtain ⟨hfz14_0, hfz14_1, hfz14_2⟩ := bf3_ BK190.out; have hfz14_3 := blk_frozen BK190.out 3))
 (try simp only [Act.put, List.setIfInBounds_toArray, List.set_cons_zero, List.set_cons_succ])
 go_cut [] (fun wc => ∃ (kq : Nat) (x1001_2 : Int) (x1002_2 : Int) (x191001_2 : Int) (x191003_2 : Int), Aside0 (spec_l02DrawFrame.j0 kq s0_0 x1001_2 x1002_2 t187 x191001_2 0 x191003_2 = some (r1, r2, r3, r4, r5, r6)) ∧ Aside0 (kq ≤ k) ∧ Aside0 (wc.heap[gb183]? = some (.cells #[.int .i64 0, .int .i64 0, .int .i64 0, .int .i64 0] 34 (0, 0))) ∧ Aside0 (wc.heap[gb190]? = some (.cells #[.int .i64 t187, .int .i64 x191001_2, .int .i64 0, .int .i64 x191003_2] 34 (0, 0))) ∧ Aside0 (IsS93 w0 wc g s0_0 x1001_2 x1002_2) ∧ Aside0 (KeepBut w wc g none) ∧ Aside0 (Below w0.heap.size w0 wc))
 case first =>
  have H := HC3.out
  clear HC3
  by_cases c15 : t187 = 1
  ·
   rw [if_pos c15] at H
   have c15b0 : (t187 == 1) = true := beq_iff_eq.mpr c15
   have c15b1 : (t187 != 1) = false := bne_eq_false_iff_eq.mpr c15
   clear c15
   (first | rw [c15b0] | (simp only [i64_w, i32_w]; rw [c15b0]) | skip)
   replace H := Option.bind_eq_some_iff.mp H
   obtain ⟨⟨t191, t192, t193⟩, A160, H⟩ := H
   replace H : ((spec_l01Below.f s0_0 t192 t193 5).bind fun bt194 => ((spec_l01Below.f s0_0 bt194.2.1 bt194.2.2 65536).bind fun bt197 => ((spec_l01PickInt.f s0_0 bt197.2.1 bt197.2.2 (([t191, bt194.1, bt197.1, 65535] : List Int))).bind fun bt203 => ((spec_l01Below.f s0_0 bt203.2.1 bt203.2.2 20).bind fun bt206 => ((spec_l01Below.f s0_0 bt206.2.1 bt206.2.2 20).bind fun bt209 => ((spec_l01PickInt.f s0_0 bt209.2.1 bt209.2.2 (([wrap64 (bt206.1 - 5), wrap64 (bt209.1 - 5), 1000000, (-1000000)] : List Int))).bind fun bt215 => (spec_l02DrawFrame.j0 k s0_0 bt215.2.1 bt215.2.2 t187 bt203.1 0 bt215.1))))))) = some (r1, r2, r3, r4, r5, r6) := H
   have A16 := Aside0.mk A160
   clear A160
   replace H := Option.bind_eq_some_iff.mp H
   obtain ⟨⟨t194, t195, t196⟩, A170, H⟩ := H
   replace H : ((spec_l01Below.f s0_0 t195 t196 65536).bind fun bt197 => ((spec_l01PickInt.f s0_0 bt197.2.1 bt197.2.2 (([t191, t194, bt197.1, 65535] : List Int))).bind fun bt203 => ((spec_l01Below.f s0_0 bt203.2.1 bt203.2.2 20).bind fun bt206 => ((spec_l01Below.f s0_0 bt206.2.1 bt206.2.2 20).bind fun bt209 => ((spec_l01PickInt.f s0_0 bt209.2.1 bt209.2.2 (([wrap64 (bt206.1 - 5), wrap64 (bt209.1 - 5), 1000000, (-1000000)] : List Int))).bind fun bt215 => (spec_l02DrawFrame.j0 k s0_0 bt215.2.1 bt215.2.2 t187 bt203.1 0 bt215.1)))))) = some (r1, r2, r3, r4, r5, r6) := H
   have A17 := Aside0.mk A170
   clear A170
   replace H := Option.bind_eq_some_iff.mp H
   obtain ⟨⟨t197, t198, t199⟩, A180, H⟩ := H
   replace H : ((spec_l01PickInt.f s0_0 t198 t199 (([t191, t194, t197, 65535] : List Int))).bind fun bt203 => ((spec_l01Below.f s0_0 bt203.2.1 bt203.2.2 20).bind fun bt206 => ((spec_l01Below.f s0_0 bt206.2.1 bt206.2.2 20).bind fun bt209 => ((spec_l01PickInt.f s0_0 bt209.2.1 bt209.2.2 (([wrap64 (bt206.1 - 5), wrap64 (bt209.1 - 5), 1000000, (-1000000)] : List Int))).bind fun bt215 => (spec_l02DrawFrame.j0 k s0_0 bt215.2.1 bt215.2.2 t187 bt203.1 0 bt215.1))))) = some (r1, r2, r3, r4, r5, r6) := H
   have A18 := Aside0.mk A180
   clear A180
   obtain ⟨y200, hy200⟩ : ∃ y_ : List Int, y_ = (([t191, t194, t197, 65535] : List Int)) := ⟨_, rfl⟩
   replace H : ((spec_l01PickInt.f s0_0 t198 t199 y200).bind fun bt203 => ((spec_l01Below.f s0_0 bt203.2.1 bt203.2.2 20).bind fun bt206 => ((spec_l01Below.f s0_0 bt206.2.1 bt206.2.2 20).bind fun bt209 => ((spec_l01PickInt.f s0_0 bt209.2.1 bt209.2.2 (([wrap64 (bt206.1 - 5), wrap64 (bt209.1 - 5), 1000000, (-1000000)] : List Int))).bind fun bt215 => (spec_l02DrawFrame.j0 k s0_0 bt215.2.1 bt215.2.2 t187 bt203.1 0 bt215.1))))) = some (r1, r2, r3, r4, r5, r6) := by first | (rw [hy200]; with_reducible exact H) | (have H2_ := (Option.bind_some _ _).symm.trans H; rw [hy200]; with_reducible exact H2_) | (have H2_ := (Option.bind_some _ _).symm.trans H; with_reducible exact H2_) | with_reducible exact H | (rw [hy200]; exact H) | exact H
   have Ny200 := Aside0.mk hy200
   clear hy200
   replace H := Option.bind_eq_some_iff.mp H
   obtain ⟨⟨t203, t204, t205⟩, A190, H⟩ := H
   replace H : ((spec_l01Below.f s0_0 t204 t205 20).bind fun bt206 => ((spec_l01Below.f s0_0 bt206.2.1 bt206.2.2 20).bind fun bt209 => ((spec_l01PickInt.f s0_0 bt209.2.1 bt209.2.2 (([wrap64 (bt206.1 - 5), wrap64 (bt209.1 - 5), 1000000, (-1000000)] : List Int))).bind fun bt215 => (spec_l02DrawFrame.j0 k s0_0 bt215.2.1 bt215.2.2 t187 t203 0 bt215.1)))) = some (r1, r2, r3, r4, r5, r6) := H
   have A19 := Aside0.mk A190
   clear A190
   replace H := Option.bind_eq_some_iff.mp H
   obtain ⟨⟨t206, t207, t208⟩, A200, H⟩ := H
   replace H : ((spec_l01Below.f s0_0 t207 t208 20).bind fun bt209 => ((spec_l01PickInt.f s0_0 bt209.2.1 bt209.2.2 (([wrap64 (t206 - 5), wrap64 (bt209.1 - 5), 1000000, (-1000000)] : List Int))).bind fun bt215 => (spec_l02DrawFrame.j0 k s0_0 bt215.2.1 bt215.2.2 t187 t203 0 bt215.1))) = some (r1, r2, r3, r4, r5, r6) := H
   have A20 := Aside0.mk A200
   clear A200
   replace H := Option.bind_eq_some_iff.mp H
   obtain ⟨⟨t209, t210, t211⟩, A210, H⟩ := H
   replace H : ((spec_l01PickInt.f s0_0 t210 t211 (([wrap64 (t206 - 5), wrap64 (t209 - 5), 1000000, (-1000000)] : List Int))).bind fun bt215 => (spec_l02DrawFrame.j0 k s0_0 bt215.2.1 bt215.2.2 t187 t203 0 bt215.1)) = some (r1, r2, r3, r4, r5, r6) := H
   have A21 := Aside0.mk A210
   clear A210
   obtain ⟨y212, hy212⟩ : ∃ y_ : List Int, y_ = (([wrap64 (t206 - 5), wrap64 (t209 - 5), 1000000, (-1000000)] : List Int)) := ⟨_, rfl⟩
   replace H : ((spec_l01PickInt.f s0_0 t210 t211 y212).bind fun bt215 => (spec_l02DrawFrame.j0 k s0_0 bt215.2.1 bt215.2.2 t187 t203 0 bt215.1)) = some (r1, r2, r3, r4, r5, r6) := by first | (rw [hy212]; with_reducible exact H) | (have H2_ := (Option.bind_some _ _).symm.trans H; rw [hy212]; with_reducible exact H2_) | (have H2_ := (Option.bind_some _ _).symm.trans H; with_reducible exact H2_) | with_reducible exact H | (rw [hy212]; exact H) | exact H
   have Ny212 := Aside0.mk hy212
   clear hy212
   replace H := Option.bind_eq_some_iff.mp H
   obtain ⟨⟨t215, t216, t217⟩, A220, H⟩ := H
   replace H : (spec_l02DrawFrame.j0 k s0_0 t216 t217 t187 t203 0 t215) = some (r1, r2, r3, r4, r5, r6) := H
   have A22 := Aside0.mk A220
   clear A220
   have H' := Aside0.mk H
   clear H
   go_wp2_with (first | ((with_reducible refine gate_callee (f := 50) rfl ?_); refine goesL_ (some 13) rfl rfl Try.func50 (by kernel_rfl) rfl #[.pointer (some ⟨g, 0, none⟩), .int .i64 5] rfl ul_ ?_; (with_reducible refine (spec_l01Below.calls g s0_0 t188 t189 5 t191 t192 t193 w0 _ ?side1 ?side2 A16.out).mono ?_); (case side1 => exact us0_ HI0.out); (case side2 => repeat (first | (with_reducible first | exact HB.out | apply below_alloc | apply pw_below_drewN | apply below_drew1 | refine below_set ?_ (IsS93.ge HI0.out) | refine below_set ?_ GE183.out | refine below_set ?_ GE190.out) | exact HB.out)); rintro e w23 ⟨rfl, hi, hb, hk⟩; refine ⟨_, rfl, ?_⟩; replace BK183 := am_ (KeepBut.blk hk (g' := gb183) (o := .cells #[.int .i64 0, .int .i64 0, .int .i64 0, .int .i64 0] 34 (0, 0)) (ub_ BK183.out) NB183_0.out (by simp)); replace HO186 := am_ (Kd.R_mono (Kd.R_keep (IsS93.apart (show IsS93 w0 _ g s0_0 t188 t189 from us0_ HI0.out) (ur_ HO186.out) (by decide)) hk (fun _ h => h.2)) (fun _ h => h.1)); replace BK190 := am_ (KeepBut.blk hk (g' := gb190) (o := .cells #[.int .i64 t187, .int .i64 0, .int .i64 0, .int .i64 0] 34 (0, 0)) (ub_ BK190.out) NB190_0.out (by simp)); replace HK := am_ (KeepBut.trans (by repeat (first | (with_reducible first | exact HK.out | apply KeepBut.set_ | apply keep_drewN | apply keep_drew | apply keep_alloc | refine keep_far ?_ GW183.out _ | refine keep_far ?_ GW190.out _) | exact HK.out)) hk (.inl rfl)); replace HB := am_ (hb); replace HI0 := am_ (hi); (try clear hb); (try clear hb2); (try clear hk); (try clear hi)) | ((with_reducible refine gate_callee (f := 50) rfl ?_); refine goesL_ (some 15) rfl rfl Try.func50 (by kernel_rfl) rfl #[.pointer (some ⟨g, 0, none⟩), .int .i64 5] rfl ul_ ?_; (with_reducible refine (spec_l01Below.calls g s0_0 t192 t193 5 t194 t195 t196 w0 _ ?side1 ?side2 A17.out).mono ?_); (case side1 => exact us0_ HI0.out); (case side2 => repeat (first | (with_reducible first | exact HB.out | apply below_alloc | apply pw_below_drewN | apply below_drew1 | refine below_set ?_ (IsS93.ge HI0.out) | refine below_set ?_ GE183.out | refine below_set ?_ GE190.out) | exact HB.out)); rintro e w24 ⟨rfl, hi, hb, hk⟩; refine ⟨_, rfl, ?_⟩; replace BK183 := am_ (KeepBut.blk hk (g' := gb183) (o := .cells #[.int .i64 0, .int .i64 0, .int .i64 0, .int .i64 0] 34 (0, 0)) (ub_ BK183.out) NB183_0.out (by simp)); replace HO186 := am_ (Kd.R_mono (Kd.R_keep (IsS93.apart (show IsS93 w0 _ g s0_0 t192 t193 from us0_ HI0.out) (ur_ HO186.out) (by decide)) hk (fun _ h => h.2)) (fun _ h => h.1)); replace BK190 := am_ (KeepBut.blk hk (g' := gb190) (o := .cells #[.int .i64 t187, .int .i64 0, .int .i64 0, .int .i64 0] 34 (0, 0)) (ub_ BK190.out) NB190_0.out (by simp)); replace HK := am_ (KeepBut.trans (by repeat (first | (with_reducible first | exact HK.out | apply KeepBut.set_ | apply keep_drewN | apply keep_drew | apply keep_alloc | refine keep_far ?_ GW183.out _ | refine keep_far ?_ GW190.out _) | exact HK.out)) hk (.inl rfl)); replace HB := am_ (hb); replace HI0 := am_ (hi); (try clear hb); (try clear hb2); (try clear hk); (try clear hi)) | ((with_reducible refine gate_callee (f := 50) rfl ?_); refine goesL_ (some 17) rfl rfl Try.func50 (by kernel_rfl) rfl #[.pointer (some ⟨g, 0, none⟩), .int .i64 65536] rfl ul_ ?_; (with_reducible refine (spec_l01Below.calls g s0_0 t195 t196 65536 t197 t198 t199 w0 _ ?side1 ?side2 A18.out).mono ?_); (case side1 => exact us0_ HI0.out); (case side2 => repeat (first | (with_reducible first | exact HB.out | apply below_alloc | apply pw_below_drewN | apply below_drew1 | refine below_set ?_ (IsS93.ge HI0.out) | refine below_set ?_ GE183.out | refine below_set ?_ GE190.out) | exact HB.out)); rintro e w25 ⟨rfl, hi, hb, hk⟩; refine ⟨_, rfl, ?_⟩; replace BK183 := am_ (KeepBut.blk hk (g' := gb183) (o := .cells #[.int .i64 0, .int .i64 0, .int .i64 0, .int .i64 0] 34 (0, 0)) (ub_ BK183.out) NB183_0.out (by simp)); replace HO186 := am_ (Kd.R_mono (Kd.R_keep (IsS93.apart (show IsS93 w0 _ g s0_0 t195 t196 from us0_ HI0.out) (ur_ HO186.out) (by decide)) hk (fun _ h => h.2)) (fun _ h => h.1)); replace BK190 := am_ (KeepBut.blk hk (g' := gb190) (o := .cells #[.int .i64 t187, .int .i64 0, .int .i64 0, .int .i64 0] 34 (0, 0)) (ub_ BK190.out) NB190_0.out (by simp)); replace HK := am_ (KeepBut.trans (by repeat (first | (with_reducible first | exact HK.out | apply KeepBut.set_ | apply keep_drewN | apply keep_drew | apply keep_alloc | refine keep_far ?_ GW183.out _ | refine keep_far ?_ GW190.out _) | exact HK.out)) hk (.inl rfl)); replace HB := am_ (hb); replace HI0 := am_ (hi); (try clear hb); (try clear hb2); (try clear hk); (try clear hi)) | ((with_reducible refine gate_dst (N := 18) rfl ?_); refine Kd.R_lit (Kd.int .i64) _ 3 ?hg (N := 18) ?hd (xs := ([t191, t194, t197, 65535] : List Int)) (inner := [.int .i64 t191, .int .i64 t194, .int .i64 t197, .int .i64 65535]) (ok := fun _ => True) (okp := fun _ => True) ?hr ?hp (fun _ hk => hk) trivial (Below.refl _ _) (Nat.le_refl _) (by simp) ?_; (case hd => rfl); (case hg => rfl); (case hr => first | (go_simp; done) | (go_simp; rfl)); (case hp => exact (Reps.one (show Kd.M (Kd.int .i64) _ _ _ t191 [.int .i64 t191] from rfl) (Reps.one (show Kd.M (Kd.int .i64) _ _ _ t194 [.int .i64 t194] from rfl) (Reps.one (show Kd.M (Kd.int .i64) _ _ _ t197 [.int .i64 t197] from rfl) (Reps.one (show Kd.M (Kd.int .i64) _ _ _ 65535 [.int .i64 65535] from rfl) (Reps.none _ _)))))); intro v201 w26 ho27 hb hg_ hnew_; clear hg_ hnew_; (first | rw [← Ny200.out] at ho27 | (simp only [Int.reduceToNat] at ho27; rw [← Ny200.out] at ho27)); have HO202 := am_ (Kd.R_lower (Kd.R_new' ho27 (Kd.R_lt (ur_ HO186.out))) (keep_size (w := w) (g := g) (row := none) (by repeat (first | (with_reducible first | exact HK.out | apply KeepBut.set_ | apply keep_drewN | apply keep_drew | apply keep_alloc | refine keep_far ?_ GW183.out _ | refine keep_far ?_ GW190.out _) | exact HK.out)))); replace HO186 := am_ (Kd.R_elder' (ur_ HO186.out) (Kd.R_base ho27) hb); replace BK183 := am_ (bb_ BK183.out hb); replace BK190 := am_ (bb_ BK190.out hb); replace HK := am_ (KeepBut.trans (by repeat (first | (with_reducible first | exact HK.out | apply KeepBut.set_ | apply keep_drewN | apply keep_drew | apply keep_alloc | refine keep_far ?_ GW183.out _ | refine keep_far ?_ GW190.out _) | exact HK.out)) (KeepBut.of_below hb g none) (.inl rfl)); replace HB := am_ (below_step (by repeat (first | (with_reducible first | exact HB.out | apply below_alloc | apply pw_below_drewN | apply below_drew1 | refine below_set ?_ (IsS93.ge HI0.out) | refine below_set ?_ GE183.out | refine below_set ?_ GE190.out) | exact HB.out)) hb); replace HI0 := am_ (IsS93.below (us0_ HI0.out) hb); clear hb ho27; obtain ⟨Ao28, co28, eo28⟩ := Kd.R_slice HO202.out; subst eo28) | ((with_reducible refine gate_callee (f := 78) rfl ?_); refine goesL_ (some 19) rfl rfl Try.func78 (by kernel_rfl) rfl #[.pointer (some ⟨g, 0, none⟩), .slice Ao28 y200.length co28] rfl ul_ ?_; (with_reducible refine (spec_l01PickInt.calls g s0_0 t198 t199 _ _ y200 t203 t204 t205 w0 _ ?side1 ?side2 ?side3 ?side4 ?side5 A19.out).mono ?_); (case side1 => exact us0_ HI0.out); (case side2 => repeat (first | (with_reducible first | exact HB.out | apply below_alloc | apply pw_below_drewN | apply below_drew1 | refine below_set ?_ (IsS93.ge HI0.out) | refine below_set ?_ GE183.out | refine below_set ?_ GE190.out) | exact HB.out)); (case side3 => repeat (first | exact (Kd.R_reads' HO202.out).2.2 | (with_reducible refine Kd.C_alloc ?_ _) | (with_reducible refine Kd.C_drewN ?_ _) | (with_reducible refine Kd.C_drew ?_))); (case side4 => exact (Kd.R_reads' HO202.out).2.1); (case side5 => exact far_slice (IsS93.own_ne HI0.out HO202.out (by decide))); rintro e w29 ⟨rfl, hi, hb, hk⟩; refine ⟨_, rfl, ?_⟩; replace BK183 := am_ (KeepBut.blk hk (g' := gb183) (o := .cells #[.int .i64 0, .int .i64 0, .int .i64 0, .int .i64 0] 34 (0, 0)) (ub_ BK183.out) NB183_0.out (by simp)); replace HO186 := am_ (Kd.R_mono (Kd.R_keep (IsS93.apart (show IsS93 w0 _ g s0_0 t198 t199 from us0_ HI0.out) (ur_ HO186.out) (by decide)) hk (fun _ h => h.2)) (fun _ h => h.1)); replace BK190 := am_ (KeepBut.blk hk (g' := gb190) (o := .cells #[.int .i64 t187, .int .i64 0, .int .i64 0, .int .i64 0] 34 (0, 0)) (ub_ BK190.out) NB190_0.out (by simp)); replace HO202 := am_ (Kd.R_mono (Kd.R_keep (IsS93.apart (show IsS93 w0 _ g s0_0 t198 t199 from us0_ HI0.out) (ur_ HO202.out) (by decide)) hk (fun _ h => h.2)) (fun _ h => h.1)); replace HK := am_ (KeepBut.trans (by repeat (first | (with_reducible first | exact HK.out | apply KeepBut.set_ | apply keep_drewN | apply keep_drew | apply keep_alloc | refine keep_far ?_ GW183.out _ | refine keep_far ?_ GW190.out _) | exact HK.out)) hk (.inl rfl)); replace HB := am_ (hb); replace HI0 := am_ (hi); (try clear hb); (try clear hb2); (try clear hk); (try clear hi); have hnb30 := NB190_183.out; have hnc30 := NB183_190.out; have hnb31 := NB190_0.out; have hnc31 := NB0_190.out; obtain ⟨hcz32_0, hcz32_1, hcz32_2, hcz32_3⟩ := cb4_ BK190.out; obtain ⟨hfz32_0, hfz32_1, hfz32_2⟩ := bf3_ BK190.out; have hfz32_3 := blk_frozen BK190.out 3) | ((with_reducible refine gate_store (t := 3) (p := 20) rfl ?_); refine st_ (w1 := (w29.setCell ⟨gb190, 1, none⟩ (.int .i64 t203))) ?_; intro w33 hw; replace HO186 : Aside0 (Kd.R (Kd.int .i64) 3 w33 w.heap.size (fun k_ => some k_ ≠ (.slice Ao28 y200.length co28 : Value).ownBlock) (.slice Ao7 y184.length co7) y184) := ⟨(by rw [hw]; exact (by (with_reducible repeat (first | apply Kd.R_alloc | apply Kd.R_drewN | apply Kd.R_drew)); exact Kd.R_mono (Kd.R_far (p := ⟨gb190, 1, none⟩) (Kd.R_types HO186.out BK190.out (by decide)) h2_ (.int .i64 t203)) (fun _ hk => by first | exact hk.1.2 | grind)))⟩; replace HO202 : Aside0 (Kd.R (Kd.int .i64) 3 w33 w.heap.size (fun k_ => some k_ ≠ (.slice Ao7 y184.length co7 : Value).ownBlock) (.slice Ao28 y200.length co28) y200) := ⟨(by rw [hw]; exact (by (with_reducible repeat (first | apply Kd.R_alloc | apply Kd.R_drewN | apply Kd.R_drew)); exact Kd.R_mono (Kd.R_far (p := ⟨gb190, 1, none⟩) (Kd.R_types HO202.out BK190.out (by decide)) h2_ (.int .i64 t203)) (fun _ hk => by first | exact hk.1.2 | grind)))⟩; replace BK183 : Aside0 (w33.heap[gb183]? = some (.cells #[.int .i64 0, .int .i64 0, .int .i64 0, .int .i64 0] 34 (0, 0))) := ⟨(by rw [hw]; exact (uf_ BK183.out))⟩; replace BK190 : Aside0 (w33.heap[gb190]? = some (.cells #[.int .i64 t187, .int .i64 t203, .int .i64 0, .int .i64 0] 34 (0, 0))) := ⟨(by rw [hw]; exact (by (with_reducible repeat first|apply bn_|apply bd_|apply ba_); refine blk_put (cs := #[.int .i64 t187, .int .i64 0, .int .i64 0, .int .i64 0]) ?_ 1 _ rfl; (with_reducible repeat first|apply bn_|apply bd_|apply ba_); exact BK190.out))⟩; replace HK : Aside0 (KeepBut w w33 g none) := ⟨(by rw [hw]; exact (by repeat (first | (with_reducible first | exact HK.out | apply KeepBut.set_ | apply keep_drewN | apply keep_drew | apply keep_alloc | refine keep_far ?_ GW183.out _ | refine keep_far ?_ GW190.out _) | exact HK.out)))⟩; replace HB : Aside0 (Below w0.heap.size w0 w33) := ⟨(by rw [hw]; exact (by repeat (first | (with_reducible first | exact HB.out | apply below_alloc | apply pw_below_drewN | apply below_drew1 | refine below_set ?_ (IsS93.ge HI0.out) | refine below_set ?_ GE183.out | refine below_set ?_ GE190.out) | exact HB.out)))⟩; replace HI0 : Aside0 (IsS93 w0 w33 g s0_0 t204 t205) := ⟨(by rw [hw]; exact (us0_ HI0.out))⟩; clear hw) | ((with_reducible refine gate_callee (f := 50) rfl ?_); refine goesL_ (some 23) rfl rfl Try.func50 (by kernel_rfl) rfl #[.pointer (some ⟨g, 0, none⟩), .int .i64 20] rfl ul_ ?_; (with_reducible refine (spec_l01Below.calls g s0_0 t204 t205 20 t206 t207 t208 w0 _ ?side1 ?side2 A20.out).mono ?_); (case side1 => exact us0_ HI0.out); (case side2 => repeat (first | (with_reducible first | exact HB.out | apply below_alloc | apply pw_below_drewN | apply below_drew1 | refine below_set ?_ (IsS93.ge HI0.out) | refine below_set ?_ GE183.out | refine below_set ?_ GE190.out) | exact HB.out)); rintro e w34 ⟨rfl, hi, hb, hk⟩; refine ⟨_, rfl, ?_⟩; replace BK183 := am_ (KeepBut.blk hk (g' := gb183) (o := .cells #[.int .i64 0, .int .i64 0, .int .i64 0, .int .i64 0] 34 (0, 0)) (ub_ BK183.out) NB183_0.out (by simp)); replace HO186 := am_ (Kd.R_mono (Kd.R_keep (IsS93.apart (show IsS93 w0 _ g s0_0 t204 t205 from us0_ HI0.out) (ur_ HO186.out) (by decide)) hk (fun _ h => h.2)) (fun _ h => h.1)); replace BK190 := am_ (KeepBut.blk hk (g' := gb190) (o := .cells #[.int .i64 t187, .int .i64 t203, .int .i64 0, .int .i64 0] 34 (0, 0)) (ub_ BK190.out) NB190_0.out (by simp)); replace HO202 := am_ (Kd.R_mono (Kd.R_keep (IsS93.apart (show IsS93 w0 _ g s0_0 t204 t205 from us0_ HI0.out) (ur_ HO202.out) (by decide)) hk (fun _ h => h.2)) (fun _ h => h.1)); replace HK := am_ (KeepBut.trans (by repeat (first | (with_reducible first | exact HK.out | apply KeepBut.set_ | apply keep_drewN | apply keep_drew | apply keep_alloc | refine keep_far ?_ GW183.out _ | refine keep_far ?_ GW190.out _) | exact HK.out)) hk (.inl rfl)); replace HB := am_ (hb); replace HI0 := am_ (hi); (try clear hb); (try clear hb2); (try clear hk); (try clear hi)) | ((with_reducible refine gate_callee (f := 50) rfl ?_); refine goesL_ (some 26) rfl rfl Try.func50 (by kernel_rfl) rfl #[.pointer (some ⟨g, 0, none⟩), .int .i64 20] rfl ul_ ?_; (with_reducible refine (spec_l01Below.calls g s0_0 t207 t208 20 t209 t210 t211 w0 _ ?side1 ?side2 A21.out).mono ?_); (case side1 => exact us0_ HI0.out); (case side2 => repeat (first | (with_reducible first | exact HB.out | apply below_alloc | apply pw_below_drewN | apply below_drew1 | refine below_set ?_ (IsS93.ge HI0.out) | refine below_set ?_ GE183.out | refine below_set ?_ GE190.out) | exact HB.out)); rintro e w35 ⟨rfl, hi, hb, hk⟩; refine ⟨_, rfl, ?_⟩; replace BK183 := am_ (KeepBut.blk hk (g' := gb183) (o := .cells #[.int .i64 0, .int .i64 0, .int .i64 0, .int .i64 0] 34 (0, 0)) (ub_ BK183.out) NB183_0.out (by simp)); replace HO186 := am_ (Kd.R_mono (Kd.R_keep (IsS93.apart (show IsS93 w0 _ g s0_0 t207 t208 from us0_ HI0.out) (ur_ HO186.out) (by decide)) hk (fun _ h => h.2)) (fun _ h => h.1)); replace BK190 := am_ (KeepBut.blk hk (g' := gb190) (o := .cells #[.int .i64 t187, .int .i64 t203, .int .i64 0, .int .i64 0] 34 (0, 0)) (ub_ BK190.out) NB190_0.out (by simp)); replace HO202 := am_ (Kd.R_mono (Kd.R_keep (IsS93.apart (show IsS93 w0 _ g s0_0 t207 t208 from us0_ HI0.out) (ur_ HO202.out) (by decide)) hk (fun _ h => h.2)) (fun _ h => h.1)); replace HK := am_ (KeepBut.trans (by repeat (first | (with_reducible first | exact HK.out | apply KeepBut.set_ | apply keep_drewN | apply keep_drew | apply keep_alloc | refine keep_far ?_ GW183.out _ | refine keep_far ?_ GW190.out _) | exact HK.out)) hk (.inl rfl)); replace HB := am_ (hb); replace HI0 := am_ (hi); (try clear hb); (try clear hb2); (try clear hk); (try clear hi)) | ((with_reducible refine gate_dst (N := 28) rfl ?_); refine Kd.R_lit (Kd.int .i64) _ 3 ?hg (N := 28) ?hd (xs := ([wrap64 (t206 - 5), wrap64 (t209 - 5), 1000000, (-1000000)] : List Int)) (inner := [.int .i64 (wrap64 (t206 - 5)), .int .i64 (wrap64 (t209 - 5)), .int .i64 1000000, .int .i64 (-1000000)]) (ok := fun _ => True) (okp := fun _ => True) ?hr ?hp (fun _ hk => hk) trivial (Below.refl _ _) (Nat.le_refl _) (by simp) ?_; (case hd => rfl); (case hg => rfl); (case hr => first | (go_simp; done) | (go_simp; rfl)); (case hp => exact (Reps.one (show Kd.M (Kd.int .i64) _ _ _ (wrap64 (t206 - 5)) [.int .i64 (wrap64 (t206 - 5))] from rfl) (Reps.one (show Kd.M (Kd.int .i64) _ _ _ (wrap64 (t209 - 5)) [.int .i64 (wrap64 (t209 - 5))] from rfl) (Reps.one (show Kd.M (Kd.int .i64) _ _ _ 1000000 [.int .i64 1000000] from rfl) (Reps.one (show Kd.M (Kd.int .i64) _ _ _ (-1000000) [.int .i64 (-1000000)] from rfl) (Reps.none _ _)))))); intro v213 w36 ho37 hb hg_ hnew_; clear hg_ hnew_; (first | rw [← Ny212.out] at ho37 | (simp only [Int.reduceToNat] at ho37; rw [← Ny212.out] at ho37)); have HO214 := am_ (Kd.R_lower (Kd.R_new' (Kd.R_new' ho37 (Kd.R_lt (ur_ HO186.out))) (Kd.R_lt (ur_ HO202.out))) (keep_size (w := w) (g := g) (row := none) (by repeat (first | (with_reducible first | exact HK.out | apply KeepBut.set_ | apply keep_drewN | apply keep_drew | apply keep_alloc | refine keep_far ?_ GW183.out _ | refine keep_far ?_ GW190.out _) | exact HK.out)))); replace HO186 := am_ (Kd.R_elder' (ur_ HO186.out) (Kd.R_base ho37) hb); replace HO202 := am_ (Kd.R_elder' (ur_ HO202.out) (Kd.R_base ho37) hb); replace BK183 := am_ (bb_ BK183.out hb); replace BK190 := am_ (bb_ BK190.out hb); replace HK := am_ (KeepBut.trans (by repeat (first | (with_reducible first | exact HK.out | apply KeepBut.set_ | apply keep_drewN | apply keep_drew | apply keep_alloc | refine keep_far ?_ GW183.out _ | refine keep_far ?_ GW190.out _) | exact HK.out)) (KeepBut.of_below hb g none) (.inl rfl)); replace HB := am_ (below_step (by repeat (first | (with_reducible first | exact HB.out | apply below_alloc | apply pw_below_drewN | apply below_drew1 | refine below_set ?_ (IsS93.ge HI0.out) | refine below_set ?_ GE183.out | refine below_set ?_ GE190.out) | exact HB.out)) hb); replace HI0 := am_ (IsS93.below (us0_ HI0.out) hb); clear hb ho37; obtain ⟨Ao38, co38, eo38⟩ := Kd.R_slice HO214.out; subst eo38) | ((with_reducible refine gate_callee (f := 78) rfl ?_); refine goesL_ (some 29) rfl rfl Try.func78 (by kernel_rfl) rfl #[.pointer (some ⟨g, 0, none⟩), .slice Ao38 y212.length co38] rfl ul_ ?_; (with_reducible refine (spec_l01PickInt.calls g s0_0 t210 t211 _ _ y212 t215 t216 t217 w0 _ ?side1 ?side2 ?side3 ?side4 ?side5 A22.out).mono ?_); (case side1 => exact us0_ HI0.out); (case side2 => repeat (first | (with_reducible first | exact HB.out | apply below_alloc | apply pw_below_drewN | apply below_drew1 | refine below_set ?_ (IsS93.ge HI0.out) | refine below_set ?_ GE183.out | refine below_set ?_ GE190.out) | exact HB.out)); (case side3 => repeat (first | exact (Kd.R_reads' HO214.out).2.2 | (with_reducible refine Kd.C_alloc ?_ _) | (with_reducible refine Kd.C_drewN ?_ _) | (with_reducible refine Kd.C_drew ?_))); (case side4 => exact (Kd.R_reads' HO214.out).2.1); (case side5 => exact far_slice (IsS93.own_ne HI0.out HO214.out (by decide))); rintro e w39 ⟨rfl, hi, hb, hk⟩; refine ⟨_, rfl, ?_⟩; replace BK183 := am_ (KeepBut.blk hk (g' := gb183) (o := .cells #[.int .i64 0, .int .i64 0, .int .i64 0, .int .i64 0] 34 (0, 0)) (ub_ BK183.out) NB183_0.out (by simp)); replace HO186 := am_ (Kd.R_mono (Kd.R_keep (IsS93.apart (show IsS93 w0 _ g s0_0 t210 t211 from us0_ HI0.out) (ur_ HO186.out) (by decide)) hk (fun _ h => h.2)) (fun _ h => h.1)); replace BK190 := am_ (KeepBut.blk hk (g' := gb190) (o := .cells #[.int .i64 t187, .int .i64 t203, .int .i64 0, .int .i64 0] 34 (0, 0)) (ub_ BK190.out) NB190_0.out (by simp)); replace HO202 := am_ (Kd.R_mono (Kd.R_keep (IsS93.apart (show IsS93 w0 _ g s0_0 t210 t211 from us0_ HI0.out) (ur_ HO202.out) (by decide)) hk (fun _ h => h.2)) (fun _ h => h.1)); replace HO214 := am_ (Kd.R_mono (Kd.R_keep (IsS93.apart (show IsS93 w0 _ g s0_0 t210 t211 from us0_ HI0.out) (ur_ HO214.out) (by decide)) hk (fun _ h => h.2)) (fun _ h => h.1)); replace HK := am_ (KeepBut.trans (by repeat (first | (with_reducible first | exact HK.out | apply KeepBut.set_ | apply keep_drewN | apply keep_drew | apply keep_alloc | refine keep_far ?_ GW183.out _ | refine keep_far ?_ GW190.out _) | exact HK.out)) hk (.inl rfl)); replace HB := am_ (hb); replace HI0 := am_ (hi); (try clear hb); (try clear hb2); (try clear hk); (try clear hi); obtain ⟨hcz40_0, hcz40_1, hcz40_2, hcz40_3⟩ := cb4_ BK190.out; obtain ⟨hfz40_0, hfz40_1, hfz40_2⟩ := bf3_ BK190.out; have hfz40_3 := blk_frozen BK190.out 3) | ((with_reducible refine gate_store (t := 3) (p := 30) rfl ?_); refine st_ (w1 := (w39.setCell ⟨gb190, 3, none⟩ (.int .i64 t215))) ?_; intro w41 hw; replace HO186 : Aside0 (Kd.R (Kd.int .i64) 3 w41 w.heap.size (fun k_ => some k_ ≠ (.slice Ao28 y200.length co28 : Value).ownBlock ∧ some k_ ≠ (.slice Ao38 y212.length co38 : Value).ownBlock) (.slice Ao7 y184.length co7) y184) := ⟨(by rw [hw]; exact (by (with_reducible repeat (first | apply Kd.R_alloc | apply Kd.R_drewN | apply Kd.R_drew)); exact Kd.R_mono (Kd.R_far (p := ⟨gb190, 3, none⟩) (Kd.R_types HO186.out BK190.out (by decide)) h2_ (.int .i64 t215)) (fun _ hk => by first | exact ⟨hk.1.1, hk.1.2⟩ | grind)))⟩; replace HO202 : Aside0 (Kd.R (Kd.int .i64) 3 w41 w.heap.size (fun k_ => some k_ ≠ (.slice Ao7 y184.length co7 : Value).ownBlock ∧ some k_ ≠ (.slice Ao38 y212.length co38 : Value).ownBlock) (.slice Ao28 y200.length co28) y200) := ⟨(by rw [hw]; exact (by (with_reducible repeat (first | apply Kd.R_alloc | apply Kd.R_drewN | apply Kd.R_drew)); exact Kd.R_mono (Kd.R_far (p := ⟨gb190, 3, none⟩) (Kd.R_types HO202.out BK190.out (by decide)) h2_ (.int .i64 t215)) (fun _ hk => by first | exact ⟨hk.1.1, hk.1.2⟩ | grind)))⟩; replace HO214 : Aside0 (Kd.R (Kd.int .i64) 3 w41 w.heap.size (fun k_ => some k_ ≠ (.slice Ao7 y184.length co7 : Value).ownBlock ∧ some k_ ≠ (.slice Ao28 y200.length co28 : Value).ownBlock) (.slice Ao38 y212.length co38) y212) := ⟨(by rw [hw]; exact (by (with_reducible repeat (first | apply Kd.R_alloc | apply Kd.R_drewN | apply Kd.R_drew)); exact Kd.R_mono (Kd.R_far (p := ⟨gb190, 3, none⟩) (Kd.R_types HO214.out BK190.out (by decide)) h2_ (.int .i64 t215)) (fun _ hk => by first | exact ⟨hk.1.1.2, hk.1.2⟩ | grind)))⟩; replace BK183 : Aside0 (w41.heap[gb183]? = some (.cells #[.int .i64 0, .int .i64 0, .int .i64 0, .int .i64 0] 34 (0, 0))) := ⟨(by rw [hw]; exact (uf_ BK183.out))⟩; replace BK190 : Aside0 (w41.heap[gb190]? = some (.cells #[.int .i64 t187, .int .i64 t203, .int .i64 0, .int .i64 t215] 34 (0, 0))) := ⟨(by rw [hw]; exact (by (with_reducible repeat first|apply bn_|apply bd_|apply ba_); refine blk_put (cs := #[.int .i64 t187, .int .i64 t203, .int .i64 0, .int .i64 0]) ?_ 3 _ rfl; (with_reducible repeat first|apply bn_|apply bd_|apply ba_); exact BK190.out))⟩; replace HK : Aside0 (KeepBut w w41 g none) := ⟨(by rw [hw]; exact (by repeat (first | (with_reducible first | exact HK.out | apply KeepBut.set_ | apply keep_drewN | apply keep_drew | apply keep_alloc | refine keep_far ?_ GW183.out _ | refine keep_far ?_ GW190.out _) | exact HK.out)))⟩; replace HB : Aside0 (Below w0.heap.size w0 w41) := ⟨(by rw [hw]; exact (by repeat (first | (with_reducible first | exact HB.out | apply below_alloc | apply pw_below_drewN | apply below_drew1 | refine below_set ?_ (IsS93.ge HI0.out) | refine below_set ?_ GE183.out | refine below_set ?_ GE190.out) | exact HB.out)))⟩; replace HI0 : Aside0 (IsS93 w0 w41 g s0_0 t216 t217) := ⟨(by rw [hw]; exact (us0_ HI0.out))⟩; clear hw))
   go_meet
   case rel => exact ⟨_, (t216), (t217), (t203), (t215), H', ⟨by first | omega | exact Nat.le_refl _⟩, ⟨by (with_reducible repeat first|apply bn_|apply bd_|apply ba_); exact BK183.out⟩, ⟨by (with_reducible repeat first|apply bn_|apply bd_|apply ba_); exact BK190.out⟩, ⟨us0_ HI0.out⟩, ⟨by repeat (first | (with_reducible first | exact HK.out | apply KeepBut.set_ | apply keep_drewN | apply keep_drew | apply keep_alloc | refine keep_far ?_ GW183.out _ | refine keep_far ?_ GW190.out _) | exact HK.out)⟩, ⟨by repeat (first | (with_reducible first | exact HB.out | apply below_alloc | apply pw_below_drewN | apply below_drew1 | refine below_set ?_ (IsS93.ge HI0.out) | refine below_set ?_ GE183.out | refine below_set ?_ GE190.out) | exact HB.out)⟩⟩
  rw [if_neg c15] at H
  have c15b0 : (t187 == 1) = false := beq_eq_false_iff_ne.mpr c15
  have c15b1 : (t187 != 1) = true := bne_iff_ne.mpr c15
  (first | rw [c15b0] | (simp only [i64_w, i32_w]; rw [c15b0]) | skip)
  have H' := Aside0.mk H
  clear H
  go_wp2
  go_meet
  case rel => exact ⟨_, (t188), (t189), (0), (0), H', ⟨by first | omega | exact Nat.le_refl _⟩, ⟨by (with_reducible repeat first|apply bn_|apply bd_|apply ba_); exact BK183.out⟩, ⟨by (with_reducible repeat first|apply bn_|apply bd_|apply ba_); exact BK190.out⟩, ⟨us0_ HI0.out⟩, ⟨by repeat (first | (with_reducible first | exact HK.out | apply KeepBut.set_ | apply keep_drewN | apply keep_drew | apply keep_alloc | refine keep_far ?_ GW183.out _ | refine keep_far ?_ GW190.out _) | exact HK.out)⟩, ⟨by repeat (first | (with_reducible first | exact HB.out | apply below_alloc | apply pw_below_drewN | apply below_drew1 | refine below_set ?_ (IsS93.ge HI0.out) | refine below_set ?_ GE183.out | refine below_set ?_ GE190.out) | exact HB.out)⟩⟩
 case rest =>
  clear HC3
  try clear c1
  try clear p2
  try clear c3
  try clear c5
  try clear p6
  try clear c7
  try clear c10
  try clear c11
  try clear c15
  try clear c15b0
  try clear c15b1
  try clear c30
  try clear c31
  try clear hcz12_0
  try clear hcz12_1
  try clear hcz12_2
  try clear hcz12_3
  try clear hcz14_0
  try clear hcz14_1
  try clear hcz14_2
  try clear hcz14_3
  try clear hcz32_0
  try clear hcz32_1
  try clear hcz32_2
  try clear hcz32_3
  try clear hcz40_0
  try clear hcz40_1
  try clear hcz40_2
  try clear hcz40_3
  try clear hfz12_0
  try clear hfz12_1
  try clear hfz12_2
  try clear hfz12_3
  try clear hfz14_0
  try clear hfz14_1
  try clear hfz14_2
  try clear hfz14_3
  try clear hfz32_0
  try clear hfz32_1
  try clear hfz32_2
  try clear hfz32_3
  try clear hfz40_0
  try clear hfz40_1
  try clear hfz40_2
  try clear hfz40_3
  obtain ⟨kq, x1001_2, x1002_2, x191001_2, x191003_2, HA, HJ2, BK183, BK190, HI0, HK, HB⟩ := hcut
  cases kq with
  | zero => exact absurd HA.out (by simp [spec_l02DrawFrame.j0])
  | succ kj2 =>
   have H := HA.out
   clear HA
   simp only [spec_l02DrawFrame.j0] at H
   by_cases c42 : t187 = 3
   ·
    rw [if_pos c42] at H
    have c42b0 : (t187 == 3) = true := beq_iff_eq.mpr c42
    have c42b1 : (t187 != 3) = false := bne_eq_false_iff_eq.mpr c42
    clear c42
    simp only [Option.some.injEq, Prod.mk.injEq] at H
    obtain ⟨rfl, rfl, rfl, rfl, rfl, rfl⟩ := H
    have hnb43 := NB190_183.out
    have hnc43 := NB183_190.out
    have hnb44 := NB190_0.out
    have hnc44 := NB0_190.out
    have hcz45_0 := cb_ BK190.out 0 rfl
    have hcz45_1 := cb_ BK190.out 1 rfl
    have hcz45_2 := cb_ BK190.out 2 rfl
    have hcz45_3 := cb_ BK190.out 3 rfl
    have hfz45_0 := blk_frozen BK190.out 0
    have hfz45_1 := blk_frozen BK190.out 1
    have hfz45_2 := blk_frozen BK190.out 2
    have hfz45_3 := blk_frozen BK190.out 3
    have hnb46 := NB183_0.out
    have hnc46 := NB0_183.out
    have hcz47_0 := cb_ BK183.out 0 rfl
    have hcz47_1 := cb_ BK183.out 1 rfl
    have hcz47_2 := cb_ BK183.out 2 rfl
    have hcz47_3 := cb_ BK183.out 3 rfl
    have hfz47_0 := blk_frozen BK183.out 0
    have hfz47_1 := blk_frozen BK183.out 1
    have hfz47_2 := blk_frozen BK183.out 2
    have hfz47_3 := blk_frozen BK183.out 3
    go_wp2_with (first | ((with_reducible refine gate_store (t := 34) (p := 2) rfl ?_); refine st_ (w1 := ((((wc.setCell ⟨gb183, 0, none⟩ (.int .i64 t187)).setCell ⟨gb183, 1, none⟩ (.int .i64 x191001_2)).setCell ⟨gb183, 2, none⟩ (.int .i64 0)).setCell ⟨gb183, 3, none⟩ (.int .i64 x191003_2))) ?_; intro w48 hw; replace BK183 : Aside0 (w48.heap[gb183]? = some (.cells #[.int .i64 t187, .int .i64 x191001_2, .int .i64 0, .int .i64 x191003_2] 34 (0, 0))) := ⟨(by rw [hw]; exact (by (with_reducible repeat first|apply bn_|apply bd_|apply ba_); apply bp4_; (with_reducible repeat first|apply bn_|apply bd_|apply ba_); exact BK183.out))⟩; replace BK190 : Aside0 (w48.heap[gb190]? = some (.cells #[.int .i64 t187, .int .i64 x191001_2, .int .i64 0, .int .i64 x191003_2] 34 (0, 0))) := ⟨(by rw [hw]; exact (uf_ BK190.out))⟩; replace HK : Aside0 (KeepBut w w48 g none) := ⟨(by rw [hw]; exact (by repeat (first | (with_reducible first | exact HK.out | apply KeepBut.set_ | apply keep_drewN | apply keep_drew | apply keep_alloc | refine keep_far ?_ GW183.out _ | refine keep_far ?_ GW190.out _) | exact HK.out)))⟩; replace HB : Aside0 (Below w0.heap.size w0 w48) := ⟨(by rw [hw]; exact (by repeat (first | (with_reducible first | exact HB.out | apply below_alloc | apply pw_below_drewN | apply below_drew1 | refine below_set ?_ (IsS93.ge HI0.out) | refine below_set ?_ GE183.out | refine below_set ?_ GE190.out) | exact HB.out)))⟩; replace HI0 : Aside0 (IsS93 w0 w48 g s0_0 x1001_2 x1002_2) := ⟨(by rw [hw]; exact (us0_ HI0.out))⟩; clear hw))
    refine bodyPost_ret (results_cell_row rfl _ _ gb183 34 #[.int .i64 t187, .int .i64 x191001_2, .int .i64 0, .int .i64 x191003_2] (0, 0) _ rfl (ub_ BK183.out) Try.underlying34 rfl (by kernel_rfl)) rfl ?_
    exact ⟨ew_, us0_ HI0.out, by repeat (first | (with_reducible first | exact HB.out | apply below_alloc | apply pw_below_drewN | apply below_drew1 | refine below_set ?_ (IsS93.ge HI0.out) | refine below_set ?_ GE183.out | refine below_set ?_ GE190.out) | exact HB.out), by repeat (first | (with_reducible first | exact HK.out | apply KeepBut.set_ | apply keep_drewN | apply keep_drew | apply keep_alloc | refine keep_far ?_ GW183.out _ | refine keep_far ?_ GW190.out _) | exact HK.out)⟩
   rw [if_neg c42] at H
   have c42b0 : (t187 == 3) = false := beq_eq_false_iff_ne.mpr c42
   have c42b1 : (t187 != 3) = true := bne_iff_ne.mpr c42
   replace H := Option.bind_eq_some_iff.mp H
   obtain ⟨⟨t218, t219, t220⟩, A490, H⟩ := H
   replace H : ((spec_l01Below.f s0_0 t219 t220 60).bind fun bt221 => ((spec_l01PickInt.f s0_0 bt221.2.1 bt221.2.2 (([t218, bt221.1, 0, 1000000] : List Int))).bind fun bt227 => (some (t187, x191001_2, bt227.1, x191003_2, bt227.2.1, bt227.2.2)))) = some (r1, r2, r3, r4, r5, r6) := H
   have A49 := Aside0.mk A490
   clear A490
   replace H := Option.bind_eq_some_iff.mp H
   obtain ⟨⟨t221, t222, t223⟩, A500, H⟩ := H
   replace H : ((spec_l01PickInt.f s0_0 t222 t223 (([t218, t221, 0, 1000000] : List Int))).bind fun bt227 => (some (t187, x191001_2, bt227.1, x191003_2, bt227.2.1, bt227.2.2))) = some (r1, r2, r3, r4, r5, r6) := H
   have A50 := Aside0.mk A500
   clear A500
   obtain ⟨y224, hy224⟩ : ∃ y_ : List Int, y_ = (([t218, t221, 0, 1000000] : List Int)) := ⟨_, rfl⟩
   replace H : ((spec_l01PickInt.f s0_0 t222 t223 y224).bind fun bt227 => (some (t187, x191001_2, bt227.1, x191003_2, bt227.2.1, bt227.2.2))) = some (r1, r2, r3, r4, r5, r6) := by first | (rw [hy224]; with_reducible exact H) | (have H2_ := (Option.bind_some _ _).symm.trans H; rw [hy224]; with_reducible exact H2_) | (have H2_ := (Option.bind_some _ _).symm.trans H; with_reducible exact H2_) | with_reducible exact H | (rw [hy224]; exact H) | exact H
   have Ny224 := Aside0.mk hy224
   clear hy224
   replace H := Option.bind_eq_some_iff.mp H
   obtain ⟨⟨t227, t228, t229⟩, A510, H⟩ := H
   replace H : (some (t187, x191001_2, t227, x191003_2, t228, t229)) = some (r1, r2, r3, r4, r5, r6) := H
   have A51 := Aside0.mk A510
   clear A510
   simp only [Option.some.injEq, Prod.mk.injEq] at H
   obtain ⟨rfl, rfl, rfl, rfl, rfl, rfl⟩ := H
   have hnb52 := NB190_183.out
   have hnc52 := NB183_190.out
   have hnb53 := NB190_0.out
   have hnc53 := NB0_190.out
   have hcz54_0 := cb_ BK190.out 0 rfl
   have hcz54_1 := cb_ BK190.out 1 rfl
   have hcz54_2 := cb_ BK190.out 2 rfl
   have hcz54_3 := cb_ BK190.out 3 rfl
   have hfz54_0 := blk_frozen BK190.out 0
   have hfz54_1 := blk_frozen BK190.out 1
   have hfz54_2 := blk_frozen BK190.out 2
   have hfz54_3 := blk_frozen BK190.out 3
   go_wp2_with (first | ((with_reducible refine gate_callee (f := 50) rfl ?_); refine goesL_ (some 36) rfl rfl Try.func50 (by kernel_rfl) rfl #[.pointer (some ⟨g, 0, none⟩), .int .i64 60] rfl ul_ ?_; (with_reducible refine (spec_l01Below.calls g s0_0 x1001_2 x1002_2 60 t218 t219 t220 w0 _ ?side1 ?side2 A49.out).mono ?_); (case side1 => exact us0_ HI0.out); (case side2 => repeat (first | (with_reducible first | exact HB.out | apply below_alloc | apply pw_below_drewN | apply below_drew1 | refine below_set ?_ (IsS93.ge HI0.out) | refine below_set ?_ GE183.out | refine below_set ?_ GE190.out) | exact HB.out)); rintro e w55 ⟨rfl, hi, hb, hk⟩; refine ⟨_, rfl, ?_⟩; replace BK183 := am_ (KeepBut.blk hk (g' := gb183) (o := .cells #[.int .i64 0, .int .i64 0, .int .i64 0, .int .i64 0] 34 (0, 0)) (ub_ BK183.out) NB183_0.out (by simp)); replace BK190 := am_ (KeepBut.blk hk (g' := gb190) (o := .cells #[.int .i64 t187, .int .i64 x191001_2, .int .i64 0, .int .i64 x191003_2] 34 (0, 0)) (ub_ BK190.out) NB190_0.out (by simp)); replace HK := am_ (KeepBut.trans (by repeat (first | (with_reducible first | exact HK.out | apply KeepBut.set_ | apply keep_drewN | apply keep_drew | apply keep_alloc | refine keep_far ?_ GW183.out _ | refine keep_far ?_ GW190.out _) | exact HK.out)) hk (.inl rfl)); replace HB := am_ (hb); replace HI0 := am_ (hi); (try clear hb); (try clear hb2); (try clear hk); (try clear hi)) | ((with_reducible refine gate_callee (f := 50) rfl ?_); refine goesL_ (some 38) rfl rfl Try.func50 (by kernel_rfl) rfl #[.pointer (some ⟨g, 0, none⟩), .int .i64 60] rfl ul_ ?_; (with_reducible refine (spec_l01Below.calls g s0_0 t219 t220 60 t221 t222 t223 w0 _ ?side1 ?side2 A50.out).mono ?_); (case side1 => exact us0_ HI0.out); (case side2 => repeat (first | (with_reducible first | exact HB.out | apply below_alloc | apply pw_below_drewN | apply below_drew1 | refine below_set ?_ (IsS93.ge HI0.out) | refine below_set ?_ GE183.out | refine below_set ?_ GE190.out) | exact HB.out)); rintro e w56 ⟨rfl, hi, hb, hk⟩; refine ⟨_, rfl, ?_⟩; replace BK183 := am_ (KeepBut.blk hk (g' := gb183) (o := .cells #[.int .i64 0, .int .i64 0, .int .i64 0, .int .i64 0] 34 (0, 0)) (ub_ BK183.out) NB183_0.out (by simp)); replace BK190 := am_ (KeepBut.blk hk (g' := gb190) (o := .cells #[.int .i64 t187, .int .i64 x191001_2, .int .i64 0, .int .i64 x191003_2] 34 (0, 0)) (ub_ BK190.out) NB190_0.out (by simp)); replace HK := am_ (KeepBut.trans (by repeat (first | (with_reducible first | exact HK.out | apply KeepBut.set_ | apply keep_drewN | apply keep_drew | apply keep_alloc | refine keep_far ?_ GW183.out _ | refine keep_far ?_ GW190.out _) | exact HK.out)) hk (.inl rfl)); replace HB := am_ (hb); replace HI0 := am_ (hi); (try clear hb); (try clear hb2); (try clear hk); (try clear hi)) | ((with_reducible refine gate_dst (N := 39) rfl ?_); refine Kd.R_lit (Kd.int .i64) _ 3 ?hg (N := 39) ?hd (xs := ([t218, t221, 0, 1000000] : List Int)) (inner := [.int .i64 t218, .int .i64 t221, .int .i64 0, .int .i64 1000000]) (ok := fun _ => True) (okp := fun _ => True) ?hr ?hp (fun _ hk => hk) trivial (Below.refl _ _) (Nat.le_refl _) (by simp) ?_; (case hd => rfl); (case hg => rfl); (case hr => first | (go_simp; done) | (go_simp; rfl)); (case hp => exact (Reps.one (show Kd.M (Kd.int .i64) _ _ _ t218 [.int .i64 t218] from rfl) (Reps.one (show Kd.M (Kd.int .i64) _ _ _ t221 [.int .i64 t221] from rfl) (Reps.one (show Kd.M (Kd.int .i64) _ _ _ 0 [.int .i64 0] from rfl) (Reps.one (show Kd.M (Kd.int .i64) _ _ _ 1000000 [.int .i64 1000000] from rfl) (Reps.none _ _)))))); intro v225 w57 ho58 hb hg_ hnew_; clear hg_ hnew_; (first | rw [← Ny224.out] at ho58 | (simp only [Int.reduceToNat] at ho58; rw [← Ny224.out] at ho58)); have HO226 := am_ (Kd.R_lower ho58 (keep_size (w := w) (g := g) (row := none) (by repeat (first | (with_reducible first | exact HK.out | apply KeepBut.set_ | apply keep_drewN | apply keep_drew | apply keep_alloc | refine keep_far ?_ GW183.out _ | refine keep_far ?_ GW190.out _) | exact HK.out)))); replace BK183 := am_ (bb_ BK183.out hb); replace BK190 := am_ (bb_ BK190.out hb); replace HK := am_ (KeepBut.trans (by repeat (first | (with_reducible first | exact HK.out | apply KeepBut.set_ | apply keep_drewN | apply keep_drew | apply keep_alloc | refine keep_far ?_ GW183.out _ | refine keep_far ?_ GW190.out _) | exact HK.out)) (KeepBut.of_below hb g none) (.inl rfl)); replace HB := am_ (below_step (by repeat (first | (with_reducible first | exact HB.out | apply below_alloc | apply pw_below_drewN | apply below_drew1 | refine below_set ?_ (IsS93.ge HI0.out) | refine below_set ?_ GE183.out | refine below_set ?_ GE190.out) | exact HB.out)) hb); replace HI0 := am_ (IsS93.below (us0_ HI0.out) hb); clear hb ho58; obtain ⟨Ao59, co59, eo59⟩ := Kd.R_slice HO226.out; subst eo59) | ((with_reducible refine gate_callee (f := 78) rfl ?_); refine goesL_ (some 40) rfl rfl Try.func78 (by kernel_rfl) rfl #[.pointer (some ⟨g, 0, none⟩), .slice Ao59 y224.length co59] rfl ul_ ?_; (with_reducible refine (spec_l01PickInt.calls g s0_0 t222 t223 _ _ y224 t227 t228 t229 w0 _ ?side1 ?side2 ?side3 ?side4 ?side5 A51.out).mono ?_); (case side1 => exact us0_ HI0.out); (case side2 => repeat (first | (with_reducible first | exact HB.out | apply below_alloc | apply pw_below_drewN | apply below_drew1 | refine below_set ?_ (IsS93.ge HI0.out) | refine below_set ?_ GE183.out | refine below_set ?_ GE190.out) | exact HB.out)); (case side3 => repeat (first | exact (Kd.R_reads' HO226.out).2.2 | (with_reducible refine Kd.C_alloc ?_ _) | (with_reducible refine Kd.C_drewN ?_ _) | (with_reducible refine Kd.C_drew ?_))); (case side4 => exact (Kd.R_reads' HO226.out).2.1); (case side5 => exact far_slice (IsS93.own_ne HI0.out HO226.out (by decide))); rintro e w60 ⟨rfl, hi, hb, hk⟩; refine ⟨_, rfl, ?_⟩; replace BK183 := am_ (KeepBut.blk hk (g' := gb183) (o := .cells #[.int .i64 0, .int .i64 0, .int .i64 0, .int .i64 0] 34 (0, 0)) (ub_ BK183.out) NB183_0.out (by simp)); replace BK190 := am_ (KeepBut.blk hk (g' := gb190) (o := .cells #[.int .i64 t187, .int .i64 x191001_2, .int .i64 0, .int .i64 x191003_2] 34 (0, 0)) (ub_ BK190.out) NB190_0.out (by simp)); replace HO226 := am_ (Kd.R_mono (Kd.R_keep (IsS93.apart (show IsS93 w0 _ g s0_0 t222 t223 from us0_ HI0.out) (ur_ HO226.out) (by decide)) hk (fun _ h => h.2)) (fun _ h => h.1)); replace HK := am_ (KeepBut.trans (by repeat (first | (with_reducible first | exact HK.out | apply KeepBut.set_ | apply keep_drewN | apply keep_drew | apply keep_alloc | refine keep_far ?_ GW183.out _ | refine keep_far ?_ GW190.out _) | exact HK.out)) hk (.inl rfl)); replace HB := am_ (hb); replace HI0 := am_ (hi); (try clear hb); (try clear hb2); (try clear hk); (try clear hi); obtain ⟨hcz61_0, hcz61_1, hcz61_2, hcz61_3⟩ := cb4_ BK190.out; obtain ⟨hfz61_0, hfz61_1, hfz61_2⟩ := bf3_ BK190.out; have hfz61_3 := blk_frozen BK190.out 3) | ((with_reducible refine gate_store (t := 3) (p := 41) rfl ?_); refine st_ (w1 := (w60.setCell ⟨gb190, 2, none⟩ (.int .i64 t227))) ?_; intro w62 hw; replace HO226 : Aside0 (Kd.R (Kd.int .i64) 3 w62 w.heap.size (fun _ => True) (.slice Ao59 y224.length co59) y224) := ⟨(by rw [hw]; exact (by (with_reducible repeat (first | apply Kd.R_alloc | apply Kd.R_drewN | apply Kd.R_drew)); exact Kd.R_mono (Kd.R_far (p := ⟨gb190, 2, none⟩) (Kd.R_types HO226.out BK190.out (by decide)) h2_ (.int .i64 t227)) (fun _ hk => trivial)))⟩; replace BK183 : Aside0 (w62.heap[gb183]? = some (.cells #[.int .i64 0, .int .i64 0, .int .i64 0, .int .i64 0] 34 (0, 0))) := ⟨(by rw [hw]; exact (uf_ BK183.out))⟩; replace BK190 : Aside0 (w62.heap[gb190]? = some (.cells #[.int .i64 t187, .int .i64 x191001_2, .int .i64 t227, .int .i64 x191003_2] 34 (0, 0))) := ⟨(by rw [hw]; exact (by (with_reducible repeat first|apply bn_|apply bd_|apply ba_); refine blk_put (cs := #[.int .i64 t187, .int .i64 x191001_2, .int .i64 0, .int .i64 x191003_2]) ?_ 2 _ rfl; (with_reducible repeat first|apply bn_|apply bd_|apply ba_); exact BK190.out))⟩; replace HK : Aside0 (KeepBut w w62 g none) := ⟨(by rw [hw]; exact (by repeat (first | (with_reducible first | exact HK.out | apply KeepBut.set_ | apply keep_drewN | apply keep_drew | apply keep_alloc | refine keep_far ?_ GW183.out _ | refine keep_far ?_ GW190.out _) | exact HK.out)))⟩; replace HB : Aside0 (Below w0.heap.size w0 w62) := ⟨(by rw [hw]; exact (by repeat (first | (with_reducible first | exact HB.out | apply below_alloc | apply pw_below_drewN | apply below_drew1 | refine below_set ?_ (IsS93.ge HI0.out) | refine below_set ?_ GE183.out | refine below_set ?_ GE190.out) | exact HB.out)))⟩; replace HI0 : Aside0 (IsS93 w0 w62 g s0_0 t228 t229) := ⟨(by rw [hw]; exact (us0_ HI0.out))⟩; clear hw; obtain ⟨hcz63_0, hcz63_1, hcz63_2, hcz63_3⟩ := cb4_ BK190.out; obtain ⟨hfz63_0, hfz63_1, hfz63_2, hfz63_3⟩ := bf4_ BK190.out; have hnb64 := NB183_0.out; have hnc64 := NB0_183.out; obtain ⟨hcz65_0, hcz65_1, hcz65_2, hcz65_3⟩ := cb4_ BK183.out; obtain ⟨hfz65_0, hfz65_1, hfz65_2⟩ := bf3_ BK183.out; have hfz65_3 := blk_frozen BK183.out 3) | ((with_reducible refine gate_store (t := 34) (p := 2) rfl ?_); refine st_ (w1 := ((((w62.setCell ⟨gb183, 0, none⟩ (.int .i64 t187)).setCell ⟨gb183, 1, none⟩ (.int .i64 x191001_2)).setCell ⟨gb183, 2, none⟩ (.int .i64 t227)).setCell ⟨gb183, 3, none⟩ (.int .i64 x191003_2))) ?_; intro w66 hw; replace HO226 : Aside0 (Kd.R (Kd.int .i64) 3 w66 w.heap.size (fun _ => True) (.slice Ao59 y224.length co59) y224) := ⟨(by rw [hw]; exact (by (with_reducible repeat (first | apply Kd.R_alloc | apply Kd.R_drewN | apply Kd.R_drew)); exact Kd.R_mono (Rf4_ (g := gb183) (Kd.R_types HO226.out BK183.out (by decide))) (fun _ hk => trivial)))⟩; replace BK183 : Aside0 (w66.heap[gb183]? = some (.cells #[.int .i64 t187, .int .i64 x191001_2, .int .i64 t227, .int .i64 x191003_2] 34 (0, 0))) := ⟨(by rw [hw]; exact (by (with_reducible repeat first|apply bn_|apply bd_|apply ba_); apply bp4_; (with_reducible repeat first|apply bn_|apply bd_|apply ba_); exact BK183.out))⟩; replace BK190 : Aside0 (w66.heap[gb190]? = some (.cells #[.int .i64 t187, .int .i64 x191001_2, .int .i64 t227, .int .i64 x191003_2] 34 (0, 0))) := ⟨(by rw [hw]; exact (uf_ BK190.out))⟩; replace HK : Aside0 (KeepBut w w66 g none) := ⟨(by rw [hw]; exact (by repeat (first | (with_reducible first | exact HK.out | apply KeepBut.set_ | apply keep_drewN | apply keep_drew | apply keep_alloc | refine keep_far ?_ GW183.out _ | refine keep_far ?_ GW190.out _) | exact HK.out)))⟩; replace HB : Aside0 (Below w0.heap.size w0 w66) := ⟨(by rw [hw]; exact (by repeat (first | (with_reducible first | exact HB.out | apply below_alloc | apply pw_below_drewN | apply below_drew1 | refine below_set ?_ (IsS93.ge HI0.out) | refine below_set ?_ GE183.out | refine below_set ?_ GE190.out) | exact HB.out)))⟩; replace HI0 : Aside0 (IsS93 w0 w66 g s0_0 t228 t229) := ⟨(by rw [hw]; exact (us0_ HI0.out))⟩; clear hw))
   refine bodyPost_ret (results_cell_row rfl _ _ gb183 34 #[.int .i64 t187, .int .i64 x191001_2, .int .i64 t227, .int .i64 x191003_2] (0, 0) _ rfl (ub_ BK183.out) Try.underlying34 rfl (by kernel_rfl)) rfl ?_
   exact ⟨ew_, us0_ HI0.out, by repeat (first | (with_reducible first | exact HB.out | apply below_alloc | apply pw_below_drewN | apply below_drew1 | refine below_set ?_ (IsS93.ge HI0.out) | refine below_set ?_ GE183.out | refine below_set ?_ GE190.out) | exact HB.out), by repeat (first | (with_reducible first | exact HK.out | apply KeepBut.set_ | apply keep_drewN | apply keep_drew | apply keep_alloc | refine keep_far ?_ GW183.out _ | refine keep_far ?_ GW190.out _) | exact HK.out)⟩

/-! ### spec_l02DrawStream: function 49 -/
def spec_l02DrawStream.l0 : Nat → Int → List Int → Int → List Int → Int → Int → Option (List Int × Int × Int)
 | 0, _, _, _, _, _, _ => none
 | k + 1, x1, x5, x6, x1000, x1001, x1002 => if x6 < x1 then ((spec_l02DrawFrame.f k x1000 x1001 x1002).bind fun bt233 => ((spec_PutFrame.f k bt233.1 bt233.2.1 bt233.2.2.1 bt233.2.2.2.1).bind fun t239 => ((spec_l01Join.f k x5 t239).bind fun t242 => (spec_l02DrawStream.l0 k x1 t242 (wrap64 (x6 + 1)) x1000 bt233.2.2.2.2.1 bt233.2.2.2.2.2)))) else (some (x5, x1001, x1002))
def spec_l02DrawStream.f (k : Nat) (s0_0 : List Int) (s0_1 : Int) (s0_2 : Int) (a1 : Int) : Option (List Int × Int × Int) := spec_l02DrawStream.l0 k a1 (([] : List Int)) 0 s0_0 s0_1 s0_2
theorem spec_l02DrawStream.mono_l : ∀ k, (∀ y0 y1 y2 y3 y4 y5, LeO (spec_l02DrawStream.l0 k y0 y1 y2 y3 y4 y5) (spec_l02DrawStream.l0 (k + 1) y0 y1 y2 y3 y4 y5))
 | 0 => fun _ _ _ _ _ _ r h => by simp [spec_l02DrawStream.l0] at h
 | k + 1 => by
  have ih0 := spec_l02DrawStream.mono_l k
  intro y0 y1 y2 y3 y4 y5
  unfold spec_l02DrawStream.l0
  repeat' first
  | (with_reducible exact ih0 _ _ _ _ _ _)
  | (with_reducible exact spec_PutFrame.mono _ _ _ _ _)
  | (with_reducible exact spec_l01Join.mono _ _ _)
  | (with_reducible exact spec_l02DrawFrame.mono _ _ _ _)
  | (with_reducible exact LeO.refl _)
  | (with_reducible exact LeO.none _)
  | (with_reducible refine LeO.ite ?_ ?_)
  | (with_reducible refine LeO.bind ?_ (fun _ => ?_))
  | exact ih0 _ _ _ _ _ _
  | exact spec_PutFrame.mono _ _ _ _ _
  | exact spec_l01Join.mono _ _ _
  | exact spec_l02DrawFrame.mono _ _ _ _
  | exact LeO.none _
  | refine LeO.ite ?_ ?_
  | refine LeO.bind ?_ (fun _ => ?_)
theorem spec_l02DrawStream.mono : ∀ a0 a1 a2 a3 k, LeO (spec_l02DrawStream.f k a0 a1 a2 a3) (spec_l02DrawStream.f (k + 1) a0 a1 a2 a3) := by
 intro a0 a1 a2 a3 k
 have ih0 := spec_l02DrawStream.mono_l k
 unfold spec_l02DrawStream.f
 repeat' first
   | (with_reducible exact ih0 _ _ _ _ _ _)
   | (with_reducible exact spec_PutFrame.mono _ _ _ _ _)
   | (with_reducible exact spec_l01Join.mono _ _ _)
   | (with_reducible exact spec_l02DrawFrame.mono _ _ _ _)
   | (with_reducible exact LeO.refl _)
   | (with_reducible exact LeO.none _)
   | (with_reducible refine LeO.ite ?_ ?_)
   | (with_reducible refine LeO.bind ?_ (fun _ => ?_))
   | exact ih0 _ _ _ _ _ _
   | exact spec_PutFrame.mono _ _ _ _ _
   | exact spec_l01Join.mono _ _ _
   | exact spec_l02DrawFrame.mono _ _ _ _
   | exact LeO.none _
   | refine LeO.ite ?_ ?_
   | refine LeO.bind ?_ (fun _ => ?_)
set_option maxHeartbeats 8000000 in
set_option maxRecDepth 100000 in
theorem spec_l02DrawStream.calls (k : Nat) (g : Nat) (s0_0 : List Int) (s0_1 : Int) (s0_2 : Int) (a1 : Int) (r1 : List Int) (r2 : Int) (r3 : Int) (w0 w : World) (hI : IsS93 w0 w g s0_0 s0_1 s0_2) (hB : Below w0.heap.size w0 w) (h : spec_l02DrawStream.f k s0_0 s0_1 s0_2 a1 = some (r1, r2, r3)) :
  Calls Try.prog 49 #[.pointer (some ⟨g, 0, none⟩), .int .i64 a1] w fun e w' => ∃ v0_ : Value, e = .returned (v0_) ∧ Kd.R (Kd.int .u8) 5 w' w.heap.size (fun _ => True) v0_ r1 ∧ IsS93 w0 w' g s0_0 r2 r3 ∧ Below w0.heap.size w0 w' ∧ KeepBut w w' g none := by
 have HI0 := Aside0.mk hI
 have HK := am_ (KeepBut.refl w g none)
 have HL := Aside0.mk hB.size
 clear hI
 have HW0 := Aside0.mk hB.size
 have HB := Aside0.mk hB
 clear hB
 have H : (spec_l02DrawStream.l0 k a1 (([] : List Int)) 0 s0_0 s0_1 s0_2) = some (r1, r2, r3) := h
 clear h
 obtain ⟨y230, hy230⟩ : ∃ y_ : List Int, y_ = (([] : List Int)) := ⟨_, rfl⟩
 replace H : (spec_l02DrawStream.l0 k a1 y230 0 s0_0 s0_1 s0_2) = some (r1, r2, r3) := by first | (rw [hy230]; with_reducible exact H) | (have H2_ := (Option.bind_some _ _).symm.trans H; rw [hy230]; with_reducible exact H2_) | (have H2_ := (Option.bind_some _ _).symm.trans H; with_reducible exact H2_) | with_reducible exact H | (rw [hy230]; exact H) | exact H
 have Ny230 := Aside0.mk hy230
 clear hy230
 have H' := Aside0.mk H
 clear H
 go_enter Try.func49, Try.ntmps49
 go_wp2_with (first | ((with_reducible refine gate_dst (N := 7) rfl ?_); refine Kd.R_lit (Kd.int .u8) _ 5 ?hg (N := 7) ?hd (xs := ([] : List Int)) (inner := []) (ok := fun _ => True) (okp := fun _ => True) ?hr ?hp (fun _ hk => hk) trivial (Below.refl _ _) (Nat.le_refl _) (by simp) ?_; (case hd => rfl); (case hg => rfl); (case hr => first | (go_simp; done) | (go_simp; rfl)); (case hp => exact (Reps.none _ _)); intro v231 w3 ho4 hb hg_ hnew_; clear hg_ hnew_; (first | rw [← Ny230.out] at ho4 | (simp only [Int.reduceToNat] at ho4; rw [← Ny230.out] at ho4)); have HO232 := am_ (Kd.R_lower ho4 (keep_size (w := w) (g := g) (row := none) (by repeat (first | (with_reducible first | exact HK.out | apply KeepBut.set_ | apply keep_drewN | apply keep_drew | apply keep_alloc) | exact HK.out)))); replace HK := am_ (KeepBut.trans (by repeat (first | (with_reducible first | exact HK.out | apply KeepBut.set_ | apply keep_drewN | apply keep_drew | apply keep_alloc) | exact HK.out)) (KeepBut.of_below hb g none) (.inl rfl)); replace HB := am_ (below_step (by repeat (first | (with_reducible first | exact HB.out | apply below_alloc | apply pw_below_drewN | apply below_drew1 | refine below_set ?_ (IsS93.ge HI0.out)) | exact HB.out)) hb); replace HI0 := am_ (IsS93.below (us0_ HI0.out) hb); clear hb ho4))
 (try simp only [Act.put, List.setIfInBounds_toArray, List.set_cons_zero, List.set_cons_succ])
 go_loopg [5, 6] k (fun kq v5 v6 w' => ∃ (x5_1 : List Int) (x6_1 : Int) (x1001_1 : Int) (x1002_1 : Int), v6 = .int .i64 x6_1 ∧ Aside0 (spec_l02DrawStream.l0 kq a1 x5_1 x6_1 s0_0 x1001_1 x1002_1 = some (r1, r2, r3)) ∧ Aside0 (kq ≤ k) ∧ Aside0 (Kd.R (Kd.int .u8) 5 w' w.heap.size (fun _ => True) v5 x5_1) ∧ Aside0 (IsS93 w0 w' g s0_0 x1001_1 x1002_1) ∧ Aside0 (KeepBut w w' g none) ∧ Aside0 (Below w0.heap.size w0 w'))
 case atStart => exact ⟨(y230), (0), (s0_1), (s0_2), (by first | rfl | (simp; done) | (simp [*]; done)), H', ⟨Nat.le_refl _⟩, ⟨by (with_reducible repeat (first | apply Kd.R_alloc | apply Kd.R_drewN | apply Kd.R_drew)); exact HO232.out⟩, ⟨us0_ HI0.out⟩, ⟨by repeat (first | (with_reducible first | exact HK.out | apply KeepBut.set_ | apply keep_drewN | apply keep_drew | apply keep_alloc) | exact HK.out)⟩, ⟨by repeat (first | (with_reducible first | exact HB.out | apply below_alloc | apply pw_below_drewN | apply below_drew1 | refine below_set ?_ (IsS93.ge HI0.out)) | exact HB.out)⟩⟩
 case round =>
  clear H'
  try clear p2
  try clear c4
  obtain ⟨x5_1, x6_1, x1001_1, x1002_1, rfl, HA, HK1, HO_5, HI0, HK, HB⟩ := hrel
  cases gk with
  | zero => exact absurd HA.out (by simp [spec_l02DrawStream.l0])
  | succ k1 =>
   have H := HA.out
   clear HA
   simp only [spec_l02DrawStream.l0] at H
   by_cases c5 : x6_1 < a1
   ·
    rw [if_pos c5] at H
    have c5b0 : decide (x6_1 < a1) = true := decide_eq_true c5
    clear c5
    replace H := Option.bind_eq_some_iff.mp H
    obtain ⟨⟨t233, t234, t235, t236, t237, t238⟩, A60, H⟩ := H
    replace H : ((spec_PutFrame.f k1 t233 t234 t235 t236).bind fun t239 => ((spec_l01Join.f k1 x5_1 t239).bind fun t242 => (spec_l02DrawStream.l0 k1 a1 t242 (wrap64 (x6_1 + 1)) s0_0 t237 t238))) = some (r1, r2, r3) := H
    have A6 := Aside0.mk A60
    clear A60
    replace H := Option.bind_eq_some_iff.mp H
    obtain ⟨t239, A70, H⟩ := H
    replace H : ((spec_l01Join.f k1 x5_1 t239).bind fun t242 => (spec_l02DrawStream.l0 k1 a1 t242 (wrap64 (x6_1 + 1)) s0_0 t237 t238)) = some (r1, r2, r3) := H
    have A7 := Aside0.mk A70
    clear A70
    replace H := Option.bind_eq_some_iff.mp H
    obtain ⟨t242, A80, H⟩ := H
    replace H : (spec_l02DrawStream.l0 k1 a1 t242 (wrap64 (x6_1 + 1)) s0_0 t237 t238) = some (r1, r2, r3) := H
    have A8 := Aside0.mk A80
    clear A80
    have H' := Aside0.mk H
    clear H
    go_wp2_with (first | ((with_reducible refine gate_callee (f := 76) rfl ?_); refine goesL_ (some 15) rfl rfl Try.func76 (by kernel_rfl) rfl #[.pointer (some ⟨g, 0, none⟩)] rfl ul_ ?_; (with_reducible refine (spec_l02DrawFrame.calls k1 g s0_0 x1001_1 x1002_1 t233 t234 t235 t236 t237 t238 w0 _ ?side1 ?side2 A6.out).mono ?_); (case side1 => exact us0_ HI0.out); (case side2 => repeat (first | (with_reducible first | exact HB.out | apply below_alloc | apply pw_below_drewN | apply below_drew1 | refine below_set ?_ (IsS93.ge HI0.out)) | exact HB.out)); rintro e w9 ⟨rfl, hi, hb, hk⟩; refine ⟨_, rfl, ?_⟩; replace HO_5 := am_ (Kd.R_mono (Kd.R_keep (IsS93.apart (show IsS93 w0 _ g s0_0 x1001_1 x1002_1 from us0_ HI0.out) (ur_ HO_5.out) (by decide)) hk (fun _ h => h.2)) (fun _ h => h.1)); replace HK := am_ (KeepBut.trans (by repeat (first | (with_reducible first | exact HK.out | apply KeepBut.set_ | apply keep_drewN | apply keep_drew | apply keep_alloc) | exact HK.out)) hk (.inl rfl)); replace HB := am_ (hb); replace HI0 := am_ (hi); (try clear hb); (try clear hb2); (try clear hk); (try clear hi)) | ((with_reducible refine gate_callee (f := 75) rfl ?_); refine goesL_ (some 16) rfl rfl Try.func75 (by kernel_rfl) rfl #[.agg #[.int .i64 t233, .int .i64 t234, .int .i64 t235, .int .i64 t236]] rfl ul_ ?_; (with_reducible refine (spec_PutFrame.calls k1 t233 t234 t235 t236 t239 _ A7.out).mono ?_); rintro e w10 ⟨v240, rfl, ho0, hb⟩; refine ⟨_, rfl, ?_⟩; have HO241 := am_ (Kd.R_lower (Kd.R_new' ho0 (Kd.R_lt (ur_ HO_5.out))) (keep_size (w := w) (g := g) (row := none) (by repeat (first | (with_reducible first | exact HK.out | apply KeepBut.set_ | apply keep_drewN | apply keep_drew | apply keep_alloc) | exact HK.out)))); replace HO_5 := am_ (Kd.R_elder' (ur_ HO_5.out) (Kd.R_base ho0) hb); replace HK := am_ (KeepBut.trans (by repeat (first | (with_reducible first | exact HK.out | apply KeepBut.set_ | apply keep_drewN | apply keep_drew | apply keep_alloc) | exact HK.out)) (KeepBut.of_below hb g none) (.inl rfl)); replace HB := am_ (below_step (by repeat (first | (with_reducible first | exact HB.out | apply below_alloc | apply pw_below_drewN | apply below_drew1 | refine below_set ?_ (IsS93.ge HI0.out)) | exact HB.out)) hb); replace HI0 := am_ (IsS93.below (us0_ HI0.out) hb); (try clear hb); (try clear hb2); (try clear hk); (try clear hi); (try clear ho0); obtain ⟨Ao11, co11, eo11⟩ := Kd.R_slice HO_5.out; subst eo11; obtain ⟨Ao12, co12, eo12⟩ := Kd.R_slice HO241.out; subst eo12) | ((with_reducible refine gate_callee (f := 74) rfl ?_); refine goesL_ (some 17) rfl rfl Try.func74 (by kernel_rfl) rfl #[.slice Ao11 x5_1.length co11, .slice Ao12 t239.length co12] rfl ul_ ?_; (with_reducible refine (spec_l01Join.calls k1 _ _ x5_1 _ _ t239 t242 _ ?side1 ?side2 ?side3 ?side4 A8.out).mono ?_); (case side1 => repeat (first | exact (Kd.R_reads' HO_5.out).2.2 | (with_reducible refine Kd.C_alloc ?_ _) | (with_reducible refine Kd.C_drewN ?_ _) | (with_reducible refine Kd.C_drew ?_))); (case side2 => exact (Kd.R_reads' HO_5.out).2.1); (case side3 => repeat (first | exact (Kd.R_reads' HO241.out).2.2 | (with_reducible refine Kd.C_alloc ?_ _) | (with_reducible refine Kd.C_drewN ?_ _) | (with_reducible refine Kd.C_drew ?_))); (case side4 => exact (Kd.R_reads' HO241.out).2.1); rintro e w13 ⟨v243, rfl, ho0, hb⟩; refine ⟨_, rfl, ?_⟩; have HO244 := am_ (Kd.R_lower (Kd.R_new' (Kd.R_new' ho0 (Kd.R_lt (ur_ HO_5.out))) (Kd.R_lt (ur_ HO241.out))) (keep_size (w := w) (g := g) (row := none) (by repeat (first | (with_reducible first | exact HK.out | apply KeepBut.set_ | apply keep_drewN | apply keep_drew | apply keep_alloc) | exact HK.out)))); replace HO_5 := am_ (Kd.R_elder' (ur_ HO_5.out) (Kd.R_base ho0) hb); replace HO241 := am_ (Kd.R_elder' (ur_ HO241.out) (Kd.R_base ho0) hb); replace HK := am_ (KeepBut.trans (by repeat (first | (with_reducible first | exact HK.out | apply KeepBut.set_ | apply keep_drewN | apply keep_drew | apply keep_alloc) | exact HK.out)) (KeepBut.of_below hb g none) (.inl rfl)); replace HB := am_ (below_step (by repeat (first | (with_reducible first | exact HB.out | apply below_alloc | apply pw_below_drewN | apply below_drew1 | refine below_set ?_ (IsS93.ge HI0.out)) | exact HB.out)) hb); replace HI0 := am_ (IsS93.below (us0_ HI0.out) hb); (try clear hb); (try clear hb2); (try clear hk); (try clear hi); (try clear ho0)))
    go_roundg k1
    case measure => have := HK1.out; omega
    case rel => exact ⟨(t242), (wrap64 (x6_1 + 1)), (t237), (t238), (by first | rfl | (simp; done) | (simp [*]; done)), H', ⟨by have := HK1.out; omega⟩, ⟨by (with_reducible repeat (first | apply Kd.R_alloc | apply Kd.R_drewN | apply Kd.R_drew)); exact Kd.R_mono HO244.out (fun _ hk => trivial)⟩, ⟨us0_ HI0.out⟩, ⟨by repeat (first | (with_reducible first | exact HK.out | apply KeepBut.set_ | apply keep_drewN | apply keep_drew | apply keep_alloc) | exact HK.out)⟩, ⟨by repeat (first | (with_reducible first | exact HB.out | apply below_alloc | apply pw_below_drewN | apply below_drew1 | refine below_set ?_ (IsS93.ge HI0.out)) | exact HB.out)⟩⟩
   rw [if_neg c5] at H
   have c5b0 : decide (x6_1 < a1) = false := decide_eq_false c5
   clear c5
   simp only [Option.some.injEq, Prod.mk.injEq] at H
   obtain ⟨rfl, rfl, rfl⟩ := H
   go_wp2
   go_ret
   exact ⟨_, ew_, by (with_reducible repeat (first | apply Kd.R_alloc | apply Kd.R_drewN | apply Kd.R_drew)); exact HO_5.out, us0_ HI0.out, by repeat (first | (with_reducible first | exact HB.out | apply below_alloc | apply pw_below_drewN | apply below_drew1 | refine below_set ?_ (IsS93.ge HI0.out)) | exact HB.out), by repeat (first | (with_reducible first | exact HK.out | apply KeepBut.set_ | apply keep_drewN | apply keep_drew | apply keep_alloc) | exact HK.out)⟩

/-! ### spec_l01Size: function 51 -/
def spec_l01Size.f (l0 : List Int) (a1 : Int) : Option (Int) := if (wrap64 (2 + (wrap64 ((l0.length : Int) / 16)))) > a1 then (some a1) else (some (wrap64 (2 + (wrap64 ((l0.length : Int) / 16)))))
set_option maxHeartbeats 8000000 in
set_option maxRecDepth 100000 in
theorem spec_l01Size.calls (A0 : Option Addr) (c0 : Nat) (l0 : List Int) (a1 : Int) (r : Int) (w : World) (hr0 : Kd.C (Kd.int .u8) w A0 l0.length l0) (hc0 : l0.length ≤ c0) (h : spec_l01Size.f l0 a1 = some r) :
  Calls Try.prog 51 #[.slice A0 l0.length c0, .int .i64 a1] w fun e w' => e = .returned (.int .i64 r) ∧ Drawn0 w w' := by
 have HR0 := Aside0.mk hr0
 have HC0 := Aside0.mk hc0
 clear hr0 hc0
 have H : (if (wrap64 (2 + (wrap64 ((l0.length : Int) / 16)))) > a1 then (some a1) else (some (wrap64 (2 + (wrap64 ((l0.length : Int) / 16)))))) = some r := h
 clear h
 by_cases c3 : (wrap64 (2 + (wrap64 ((l0.length : Int) / 16)))) > a1
 ·
  rw [if_pos c3] at H
  have c3b0 : decide (a1 < (wrap64 (2 + (wrap64 ((l0.length : Int) / 16))))) = true := decide_eq_true c3
  clear c3
  obtain rfl := Option.some.inj H
  go_enter Try.func51, Try.ntmps51
  go_wp2
  go_ret
  exact ⟨by first | rfl | (simp; done) | (simp [*]; done), by repeat (first | exact Drawn0.refl _ | apply Drawn0.step)⟩
 rw [if_neg c3] at H
 have c3b0 : decide (a1 < (wrap64 (2 + (wrap64 ((l0.length : Int) / 16))))) = false := decide_eq_false c3
 clear c3
 obtain rfl := Option.some.inj H
 go_enter Try.func51, Try.ntmps51
 go_wp2
 go_ret
 exact ⟨by first | rfl | (simp; done) | (simp [*]; done), by repeat (first | exact Drawn0.refl _ | apply Drawn0.step)⟩

/-! ### spec_l01Once: function 52 -/
def spec_l01Once.f (s0_0 : List Int) (s0_1 : Int) (s0_2 : Int) (a1 : Int) : Option (Bool × Int × Int) := (spec_l01Below.f s0_0 s0_1 s0_2 a1).bind fun bt245 => (some ((bt245.1 == 0), bt245.2.1, bt245.2.2))
set_option maxHeartbeats 8000000 in
set_option maxRecDepth 100000 in
theorem spec_l01Once.calls (g : Nat) (s0_0 : List Int) (s0_1 : Int) (s0_2 : Int) (a1 : Int) (r1 : Bool) (r2 : Int) (r3 : Int) (w0 w : World) (hI : IsS93 w0 w g s0_0 s0_1 s0_2) (hB : Below w0.heap.size w0 w) (h : spec_l01Once.f s0_0 s0_1 s0_2 a1 = some (r1, r2, r3)) :
  Calls Try.prog 52 #[.pointer (some ⟨g, 0, none⟩), .int .i64 a1] w fun e w' => e = .returned (.bool r1) ∧ IsS93 w0 w' g s0_0 r2 r3 ∧ Below w0.heap.size w0 w' ∧ KeepBut w w' g none := by
 have HI0 := Aside0.mk hI
 have HK := am_ (KeepBut.refl w g none)
 have HL := Aside0.mk hB.size
 clear hI
 have HW0 := Aside0.mk hB.size
 have HB := Aside0.mk hB
 clear hB
 have H : ((spec_l01Below.f s0_0 s0_1 s0_2 a1).bind fun bt245 => (some ((bt245.1 == 0), bt245.2.1, bt245.2.2))) = some (r1, r2, r3) := h
 clear h
 replace H := Option.bind_eq_some_iff.mp H
 obtain ⟨⟨t245, t246, t247⟩, A30, H⟩ := H
 replace H : (some ((t245 == 0), t246, t247)) = some (r1, r2, r3) := H
 have A3 := Aside0.mk A30
 clear A30
 simp only [Option.some.injEq, Prod.mk.injEq] at H
 obtain ⟨rfl, rfl, rfl⟩ := H
 go_enter Try.func52, Try.ntmps52
 go_wp2_with (first | ((with_reducible refine gate_callee (f := 50) rfl ?_); refine goesL_ (some 7) rfl rfl Try.func50 (by kernel_rfl) rfl #[.pointer (some ⟨g, 0, none⟩), .int .i64 a1] rfl ul_ ?_; (with_reducible refine (spec_l01Below.calls g s0_0 s0_1 s0_2 a1 t245 t246 t247 w0 _ ?side1 ?side2 A3.out).mono ?_); (case side1 => exact us0_ HI0.out); (case side2 => repeat (first | (with_reducible first | exact HB.out | apply below_alloc | apply pw_below_drewN | apply below_drew1 | refine below_set ?_ (IsS93.ge HI0.out)) | exact HB.out)); rintro e w4 ⟨rfl, hi, hb, hk⟩; refine ⟨_, rfl, ?_⟩; replace HK := am_ (KeepBut.trans (by repeat (first | (with_reducible first | exact HK.out | apply KeepBut.set_ | apply keep_drewN | apply keep_drew | apply keep_alloc) | exact HK.out)) hk (.inl rfl)); replace HB := am_ (hb); replace HI0 := am_ (hi); (try clear hb); (try clear hb2); (try clear hk); (try clear hi)))
 go_ret
 exact ⟨ew_, us0_ HI0.out, by repeat (first | (with_reducible first | exact HB.out | apply below_alloc | apply pw_below_drewN | apply below_drew1 | refine below_set ?_ (IsS93.ge HI0.out)) | exact HB.out), by repeat (first | (with_reducible first | exact HK.out | apply KeepBut.set_ | apply keep_drewN | apply keep_drew | apply keep_alloc) | exact HK.out)⟩

/-! ### spec_l02BendBytes: function 53 -/
def spec_l02BendBytes.f (s0_0 : List Int) (s0_1 : Int) (s0_2 : Int) (l1 : List Int) : Option (List Int × Int × Int) := if (l1.length : Int) = 0 then ((spec_l01Below.f s0_0 s0_1 s0_2 256).bind fun bt248 => (some ((([(bt248.1) % 256] : List Int)), bt248.2.1, bt248.2.2))) else ((spec_l01Below.f s0_0 s0_1 s0_2 3).bind fun bt254 => (if bt254.1 = 0 then ((spec_l01Below.f s0_0 bt254.2.1 bt254.2.2 (l1.length : Int)).bind fun bt257 => (if 0 ≤ bt257.1 then (if bt257.1 ≤ (l1.length : Int) then (some ((l1.take (bt257.1 : Int).toNat), bt257.2.1, bt257.2.2)) else (none)) else (none))) else (if bt254.1 = 1 then ((spec_l01Below.f s0_0 bt254.2.1 bt254.2.2 (l1.length : Int)).bind fun bt263 => (if 0 ≤ bt263.1 then (if bt263.1 < (l1.length : Int) then ((spec_l01Below.f s0_0 bt263.2.1 bt263.2.2 255).bind fun bt267 => (some ((l1.set (bt263.1 : Int).toNat (Go.bits .xor .u8 (rd l1 bt263.1) ((wrap64 (1 + bt267.1)) % 256))), bt267.2.1, bt267.2.2))) else (none)) else (none))) else (if bt254.1 = 2 then ((spec_l01PickInt.f s0_0 bt254.2.1 bt254.2.2 (([0, 1, 4, 9, 200] : List Int))).bind fun bt274 => (if l1.length < 140737488355328 then (some ((l1 ++ [(bt274.1) % 256]), bt274.2.1, bt274.2.2)) else (none))) else (some (l1, bt254.2.1, bt254.2.2))))))
def spec_l02BendBytes.T8 : Bool × List (List Nat × List Nat) := (true, [([], []), ([], []), ([], []), ([], []), ([2, 3], [2, 3]), ([4], [4]), ([], []), ([6], [6]), ([7], [7]), ([8], [8]), ([5, 9], [5, 9]), ([0, 1, 0, 1, 2, 3, 4, 5, 6, 7, 8, 9, 10], [0, 1]), ([11, 10, 7, 0, 1, 2, 3, 4, 5, 6, 7, 8, 9, 10], [10, 11])])
def spec_l02BendBytes.B8 : List Nat := [0, 0, 0, 0, 12, 28, 0, 64, 192, 448, 1020, 2047, 4095]
theorem spec_l02BendBytes.tab8 : rtab .any (opsOf Try.f53 8) = spec_l02BendBytes.T8 := by kernel_rfl
theorem spec_l02BendBytes.bits8 : waitsOk spec_l02BendBytes.T8.2 spec_l02BendBytes.B8 = true := by kernel_rfl
set_option maxHeartbeats 8000000 in
set_option maxRecDepth 100000 in
theorem spec_l02BendBytes.calls (g : Nat) (s0_0 : List Int) (s0_1 : Int) (s0_2 : Int) (P1_ : Nat → Prop) (u9000_ : Value) (l1 : List Int) (r1 : List Int) (r2 : Int) (r3 : Int) (w0 w : World) (hI : IsS93 w0 w g s0_0 s0_1 s0_2) (hB : Below w0.heap.size w0 w) (ho1 : Kd.R (Kd.int .u8) 5 w w0.heap.size P1_ u9000_ l1) (h : spec_l02BendBytes.f s0_0 s0_1 s0_2 l1 = some (r1, r2, r3)) :
  Calls Try.prog 53 #[.pointer (some ⟨g, 0, none⟩), u9000_] w fun e w' => ∃ v0_ : Value, e = .returned (v0_) ∧ Kd.R (Kd.int .u8) 5 w' w0.heap.size (fun k_ => (P1_ k_ ∨ w.heap.size ≤ k_)) v0_ r1 ∧ IsS93 w0 w' g s0_0 r2 r3 ∧ Below w0.heap.size w0 w' ∧ Kept w w' (fun k_ => (P1_ k_) ∨ k_ = g) := by
 have HO1 := am_ (show Kd.R (Kd.int .u8) 5 w w0.heap.size (fun k_ => (P1_ k_ ∨ w.heap.size ≤ k_)) u9000_ l1 from Kd.R_mono ho1 (fun k_ hk => (.inl hk)))
 have HI0 := Aside0.mk hI
 have HL := Aside0.mk hB.size
 clear hI
 have HK := am_ (Kept.refl w (fun k_ => (P1_ k_) ∨ k_ = g))
 have HW0 := Aside0.mk hB.size
 have HB := Aside0.mk hB
 clear hB
 have H : (if (l1.length : Int) = 0 then ((spec_l01Below.f s0_0 s0_1 s0_2 256).bind fun bt248 => (some ((([(bt248.1) % 256] : List Int)), bt248.2.1, bt248.2.2))) else ((spec_l01Below.f s0_0 s0_1 s0_2 3).bind fun bt254 => (if bt254.1 = 0 then ((spec_l01Below.f s0_0 bt254.2.1 bt254.2.2 (l1.length : Int)).bind fun bt257 => (if 0 ≤ bt257.1 then (if bt257.1 ≤ (l1.length : Int) then (some ((l1.take (bt257.1 : Int).toNat), bt257.2.1, bt257.2.2)) else (none)) else (none))) else (if bt254.1 = 1 then ((spec_l01Below.f s0_0 bt254.2.1 bt254.2.2 (l1.length : Int)).bind fun bt263 => (if 0 ≤ bt263.1 then (if bt263.1 < (l1.length : Int) then ((spec_l01Below.f s0_0 bt263.2.1 bt263.2.2 255).bind fun bt267 => (some ((l1.set (bt263.1 : Int).toNat (Go.bits .xor .u8 (rd l1 bt263.1) ((wrap64 (1 + bt267.1)) % 256))), bt267.2.1, bt267.2.2))) else (none)) else (none))) else (if bt254.1 = 2 then ((spec_l01PickInt.f s0_0 bt254.2.1 bt254.2.2 (([0, 1, 4, 9, 200] : List Int))).bind fun bt274 => (if l1.length < 140737488355328 then (some ((l1 ++ [(bt274.1) % 256]), bt274.2.1, bt274.2.2)) else (none))) else (some (l1, bt254.2.1, bt254.2.2))))))) = some (r1, r2, r3) := h
 clear h
 by_cases c3 : (l1.length : Int) = 0
 ·
  rw [if_pos c3] at H
  have c3b0 : ((l1.length : Int) == 0) = true := beq_iff_eq.mpr c3
  have c3b1 : ((l1.length : Int) != 0) = false := bne_eq_false_iff_eq.mpr c3
  clear c3
  replace H := Option.bind_eq_some_iff.mp H
  obtain ⟨⟨t248, t249, t250⟩, A40, H⟩ := H
  replace H : (some ((([(t248) % 256] : List Int)), t249, t250)) = some (r1, r2, r3) := H
  have A4 := Aside0.mk A40
  clear A40
  obtain ⟨y251, hy251⟩ : ∃ y_ : List Int, y_ = (([(t248) % 256] : List Int)) := ⟨_, rfl⟩
  replace H : (some (y251, t249, t250)) = some (r1, r2, r3) := by first | (rw [hy251]; with_reducible exact H) | (have H2_ := (Option.bind_some _ _).symm.trans H; rw [hy251]; with_reducible exact H2_) | (have H2_ := (Option.bind_some _ _).symm.trans H; with_reducible exact H2_) | with_reducible exact H | (rw [hy251]; exact H) | exact H
  have Ny251 := Aside0.mk hy251
  clear hy251
  simp only [Option.some.injEq, Prod.mk.injEq] at H
  obtain ⟨rfl, rfl, rfl⟩ := H
  obtain ⟨Ao5, co5, eo5⟩ := Kd.R_slice HO1.out
  subst eo5
  go_enter Try.func53, Try.ntmps53
  go_wp2_with (first | ((with_reducible refine gate_callee (f := 50) rfl ?_); refine goesL_ (some 10) rfl rfl Try.func50 (by kernel_rfl) rfl #[.pointer (some ⟨g, 0, none⟩), .int .i64 256] rfl ul_ ?_; (with_reducible refine (spec_l01Below.calls g s0_0 s0_1 s0_2 256 t248 t249 t250 w0 _ ?side1 ?side2 A4.out).mono ?_); (case side1 => exact us0_ HI0.out); (case side2 => repeat (first | (with_reducible first | exact HB.out | apply below_alloc | apply pw_below_drewN | apply below_drew1 | refine below_set ?_ (IsS93.ge HI0.out)) | exact HB.out)); rintro e w6 ⟨rfl, hi, hb, hk⟩; refine ⟨_, rfl, ?_⟩; replace HO1 := am_ (Kd.R_mono (Kd.R_keep (IsS93.apart (show IsS93 w0 _ g s0_0 s0_1 s0_2 from us0_ HI0.out) (ur_ HO1.out) (by decide)) hk (fun _ h => h.2)) (fun _ h => h.1)); replace HK := am_ (Kept.of_keep (S := (fun k_ => (P1_ k_) ∨ k_ = g)) (by repeat (first | (with_reducible first | exact HK.out | apply Kept.alloc | apply Kept.drewN | apply Kept.drew | refine Kept.setCell ?_ (.inl (.inr rfl)) _) | exact HK.out)) hk (.inl (.inr rfl))); replace HB := am_ (hb); replace HI0 := am_ (hi); (try clear hb); (try clear hb2); (try clear hk); (try clear hi)) | ((with_reducible refine gate_dst (N := 12) rfl ?_); refine Kd.R_lit (Kd.int .u8) _ 5 ?hg (N := 12) ?hd (xs := ([(t248) % 256] : List Int)) (inner := [.int .u8 ((t248) % 256)]) (ok := fun _ => True) (okp := fun _ => True) ?hr ?hp (fun _ hk => hk) trivial (Below.refl _ _) (Nat.le_refl _) (by simp) ?_; (case hd => rfl); (case hg => rfl); (case hr => first | (go_simp; done) | (go_simp; rfl)); (case hp => exact (Reps.one (show Kd.M (Kd.int .u8) _ _ _ ((t248) % 256) [.int .u8 ((t248) % 256)] from rfl) (Reps.none _ _))); intro v252 w7 ho8 hb hg_ hnew_; clear hg_ hnew_; (first | rw [← Ny251.out] at ho8 | (simp only [Int.reduceToNat] at ho8; rw [← Ny251.out] at ho8)); have HO253 := am_ (Kd.R_lower (Kd.R_new' (Kd.R_newM (M := fun k_ => (P1_ k_ ∨ w.heap.size ≤ k_)) ho8 (by first | exact HK.out.1 | exact (show Kept w _ (fun k_ => (P1_ k_) ∨ k_ = g) from by repeat (first | (with_reducible first | exact HK.out | apply Kept.alloc | apply Kept.drewN | apply Kept.drew | refine Kept.setCell ?_ (.inl (.inr rfl)) _) | exact HK.out)).1) (fun k_ h_ => .inr h_)) (Kd.R_lt (ur_ HO1.out))) (below_size (by repeat (first | (with_reducible first | exact HB.out | apply below_alloc | apply pw_below_drewN | apply below_drew1 | refine below_set ?_ (IsS93.ge HI0.out)) | exact HB.out)))); replace HO1 := am_ (Kd.R_elder' (ur_ HO1.out) (Kd.R_base ho8) hb); replace HK := am_ (Kept.below (S := (fun k_ => (P1_ k_) ∨ k_ = g)) (by repeat (first | (with_reducible first | exact HK.out | apply Kept.alloc | apply Kept.drewN | apply Kept.drew | refine Kept.setCell ?_ (.inl (.inr rfl)) _) | exact HK.out)) hb); replace HB := am_ (below_step (by repeat (first | (with_reducible first | exact HB.out | apply below_alloc | apply pw_below_drewN | apply below_drew1 | refine below_set ?_ (IsS93.ge HI0.out)) | exact HB.out)) hb); replace HI0 := am_ (IsS93.below (us0_ HI0.out) hb); clear hb ho8))
  go_ret
  exact ⟨_, ew_, by (with_reducible repeat (first | apply Kd.R_alloc | apply Kd.R_drewN | apply Kd.R_drew)); exact Kd.R_mono HO253.out (fun _ hk => by first | exact hk.1.1 | grind), us0_ HI0.out, by repeat (first | (with_reducible first | exact HB.out | apply below_alloc | apply pw_below_drewN | apply below_drew1 | refine below_set ?_ (IsS93.ge HI0.out)) | exact HB.out), by repeat (first | (with_reducible first | exact HK.out | apply Kept.alloc | apply Kept.drewN | apply Kept.drew | refine Kept.setCell ?_ (.inl (.inr rfl)) _) | exact HK.out)⟩
 rw [if_neg c3] at H
 have c3b0 : ((l1.length : Int) == 0) = false := beq_eq_false_iff_ne.mpr c3
 have c3b1 : ((l1.length : Int) != 0) = true := bne_iff_ne.mpr c3
 have c3b2 : ¬ (l1 = []) := fun h_ => c3 (by rw [h_]; rfl)
 replace H := Option.bind_eq_some_iff.mp H
 obtain ⟨⟨t254, t255, t256⟩, A90, H⟩ := H
 replace H : (if t254 = 0 then ((spec_l01Below.f s0_0 t255 t256 (l1.length : Int)).bind fun bt257 => (if 0 ≤ bt257.1 then (if bt257.1 ≤ (l1.length : Int) then (some ((l1.take (bt257.1 : Int).toNat), bt257.2.1, bt257.2.2)) else (none)) else (none))) else (if t254 = 1 then ((spec_l01Below.f s0_0 t255 t256 (l1.length : Int)).bind fun bt263 => (if 0 ≤ bt263.1 then (if bt263.1 < (l1.length : Int) then ((spec_l01Below.f s0_0 bt263.2.1 bt263.2.2 255).bind fun bt267 => (some ((l1.set (bt263.1 : Int).toNat (Go.bits .xor .u8 (rd l1 bt263.1) ((wrap64 (1 + bt267.1)) % 256))), bt267.2.1, bt267.2.2))) else (none)) else (none))) else (if t254 = 2 then ((spec_l01PickInt.f s0_0 t255 t256 (([0, 1, 4, 9, 200] : List Int))).bind fun bt274 => (if l1.length < 140737488355328 then (some ((l1 ++ [(bt274.1) % 256]), bt274.2.1, bt274.2.2)) else (none))) else (some (l1, t255, t256))))) = some (r1, r2, r3) := H
 have A9 := Aside0.mk A90
 clear A90
 by_cases c10 : t254 = 0
 ·
  rw [if_pos c10] at H
  have c10b0 : (t254 == 0) = true := beq_iff_eq.mpr c10
  have c10b1 : (t254 != 0) = false := bne_eq_false_iff_eq.mpr c10
  clear c10
  replace H := Option.bind_eq_some_iff.mp H
  obtain ⟨⟨t257, t258, t259⟩, A110, H⟩ := H
  replace H : (if 0 ≤ t257 then (if t257 ≤ (l1.length : Int) then (some ((l1.take (t257 : Int).toNat), t258, t259)) else (none)) else (none)) = some (r1, r2, r3) := H
  have A11 := Aside0.mk A110
  clear A110
  by_cases c12 : 0 ≤ t257
  ·
   rw [if_pos c12] at H
   have c12b0 := eq_true c12
   have c12b1 : decide (0 ≤ t257) = true := decide_eq_true c12
   clear c12
   by_cases c13 : t257 ≤ (l1.length : Int)
   ·
    rw [if_pos c13] at H
    have c13b0 := eq_true c13
    have c13b1 : decide (t257 ≤ (l1.length : Int)) = true := decide_eq_true c13
    clear c13
    obtain ⟨y260, hy260⟩ : ∃ y_ : List Int, y_ = (l1.take (t257 : Int).toNat) := ⟨_, rfl⟩
    replace H : (some (y260, t258, t259)) = some (r1, r2, r3) := by first | (rw [hy260]; with_reducible exact H) | (have H2_ := (Option.bind_some _ _).symm.trans H; rw [hy260]; with_reducible exact H2_) | (have H2_ := (Option.bind_some _ _).symm.trans H; with_reducible exact H2_) | with_reducible exact H | (rw [hy260]; exact H) | exact H
    have Ny260 := Aside0.mk hy260
    clear hy260
    simp only [Option.some.injEq, Prod.mk.injEq] at H
    obtain ⟨rfl, rfl, rfl⟩ := H
    obtain ⟨Ao14, co14, eo14⟩ := Kd.R_slice HO1.out
    subst eo14
    go_enter Try.func53, Try.ntmps53
    go_wp2_with (first | ((with_reducible refine gate_callee (f := 50) rfl ?_); refine goesL_ (some 14) rfl rfl Try.func50 (by kernel_rfl) rfl #[.pointer (some ⟨g, 0, none⟩), .int .i64 3] rfl ul_ ?_; (with_reducible refine (spec_l01Below.calls g s0_0 s0_1 s0_2 3 t254 t255 t256 w0 _ ?side1 ?side2 A9.out).mono ?_); (case side1 => exact us0_ HI0.out); (case side2 => repeat (first | (with_reducible first | exact HB.out | apply below_alloc | apply pw_below_drewN | apply below_drew1 | refine below_set ?_ (IsS93.ge HI0.out)) | exact HB.out)); rintro e w15 ⟨rfl, hi, hb, hk⟩; refine ⟨_, rfl, ?_⟩; replace HO1 := am_ (Kd.R_mono (Kd.R_keep (IsS93.apart (show IsS93 w0 _ g s0_0 s0_1 s0_2 from us0_ HI0.out) (ur_ HO1.out) (by decide)) hk (fun _ h => h.2)) (fun _ h => h.1)); replace HK := am_ (Kept.of_keep (S := (fun k_ => (P1_ k_) ∨ k_ = g)) (by repeat (first | (with_reducible first | exact HK.out | apply Kept.alloc | apply Kept.drewN | apply Kept.drew | refine Kept.setCell ?_ (.inl (.inr rfl)) _) | exact HK.out)) hk (.inl (.inr rfl))); replace HB := am_ (hb); replace HI0 := am_ (hi); (try clear hb); (try clear hb2); (try clear hk); (try clear hi)) | ((with_reducible refine gate_callee (f := 50) rfl ?_); refine goesL_ (some 21) rfl rfl Try.func50 (by kernel_rfl) rfl #[.pointer (some ⟨g, 0, none⟩), .int .i64 (l1.length : Int)] rfl ul_ ?_; (with_reducible refine (spec_l01Below.calls g s0_0 t255 t256 (l1.length : Int) t257 t258 t259 w0 _ ?side1 ?side2 A11.out).mono ?_); (case side1 => exact us0_ HI0.out); (case side2 => repeat (first | (with_reducible first | exact HB.out | apply below_alloc | apply pw_below_drewN | apply below_drew1 | refine below_set ?_ (IsS93.ge HI0.out)) | exact HB.out)); rintro e w16 ⟨rfl, hi, hb, hk⟩; refine ⟨_, rfl, ?_⟩; replace HO1 := am_ (Kd.R_mono (Kd.R_keep (IsS93.apart (show IsS93 w0 _ g s0_0 t255 t256 from us0_ HI0.out) (ur_ HO1.out) (by decide)) hk (fun _ h => h.2)) (fun _ h => h.1)); replace HK := am_ (Kept.of_keep (S := (fun k_ => (P1_ k_) ∨ k_ = g)) (by repeat (first | (with_reducible first | exact HK.out | apply Kept.alloc | apply Kept.drewN | apply Kept.drew | refine Kept.setCell ?_ (.inl (.inr rfl)) _) | exact HK.out)) hk (.inl (.inr rfl))); replace HB := am_ (hb); replace HI0 := am_ (hi); (try clear hb); (try clear hb2); (try clear hk); (try clear hi); have q17 : (t257 : Int) ≤ ((l1.length : Int) : Int) := of_decide_eq_true ua_; obtain ⟨i017, hi017, _, hsz17, _⟩ := info_parts info5; have hcut17 := cut_to (P := Try.prog) 39 5 .i64 Try.underlying39 hi017 Ao14 l1.length co14 t257 (of_decide_eq_true ua_) q17 (Kd.R_reads' HO1.out).2.1; have hr17 := Kd.R_take (m := (t257 : Int).toNat) HO1.out (by omega); have hy17 : y260.length = (t257 : Int).toNat := (by rw [Ny260.out, List.length_take]; omega); rw [← Ny260.out] at hr17; rw [← hy17] at hr17 hcut17; clear hy17 hi017 hsz17 HO1; have HO262 := Aside0.mk hr17; clear hr17; replace q17 := eq_true q17))
    go_ret
    exact ⟨_, ew_, by (with_reducible repeat (first | apply Kd.R_alloc | apply Kd.R_drewN | apply Kd.R_drew)); exact HO262.out, us0_ HI0.out, by repeat (first | (with_reducible first | exact HB.out | apply below_alloc | apply pw_below_drewN | apply below_drew1 | refine below_set ?_ (IsS93.ge HI0.out)) | exact HB.out), by repeat (first | (with_reducible first | exact HK.out | apply Kept.alloc | apply Kept.drewN | apply Kept.drew | refine Kept.setCell ?_ (.inl (.inr rfl)) _) | exact HK.out)⟩
   rw [if_neg c13] at H
   exact absurd H (by simp)
  rw [if_neg c12] at H
  exact absurd H (by simp)
 rw [if_neg c10] at H
 have c10b0 : (t254 == 0) = false := beq_eq_false_iff_ne.mpr c10
 have c10b1 : (t254 != 0) = true := bne_iff_ne.mpr c10
 by_cases c18 : t254 = 1
 ·
  rw [if_pos c18] at H
  have c18b0 : (t254 == 1) = true := beq_iff_eq.mpr c18
  have c18b1 : (t254 != 1) = false := bne_eq_false_iff_eq.mpr c18
  clear c18
  replace H := Option.bind_eq_some_iff.mp H
  obtain ⟨⟨t263, t264, t265⟩, A190, H⟩ := H
  replace H : (if 0 ≤ t263 then (if t263 < (l1.length : Int) then ((spec_l01Below.f s0_0 t264 t265 255).bind fun bt267 => (some ((l1.set (t263 : Int).toNat (Go.bits .xor .u8 (rd l1 t263) ((wrap64 (1 + bt267.1)) % 256))), bt267.2.1, bt267.2.2))) else (none)) else (none)) = some (r1, r2, r3) := H
  have A19 := Aside0.mk A190
  clear A190
  by_cases c20 : 0 ≤ t263
  ·
   rw [if_pos c20] at H
   have c20b0 : decide (0 ≤ t263) = true := decide_eq_true c20
   clear c20
   by_cases c21 : t263 < (l1.length : Int)
   ·
    rw [if_pos c21] at H
    have c21b0 : decide (t263 < (l1.length : Int)) = true := decide_eq_true c21
    clear c21
    replace H := Option.bind_eq_some_iff.mp H
    obtain ⟨⟨t267, t268, t269⟩, A220, H⟩ := H
    replace H : (some ((l1.set (t263 : Int).toNat (Go.bits .xor .u8 (rd l1 t263) ((wrap64 (1 + t267)) % 256))), t268, t269)) = some (r1, r2, r3) := H
    have A22 := Aside0.mk A220
    clear A220
    obtain ⟨y270, hy270⟩ : ∃ y_ : List Int, y_ = (l1.set (t263 : Int).toNat (Go.bits .xor .u8 (rd l1 t263) ((wrap64 (1 + t267)) % 256))) := ⟨_, rfl⟩
    replace H : (some (y270, t268, t269)) = some (r1, r2, r3) := by first | (rw [hy270]; with_reducible exact H) | (have H2_ := (Option.bind_some _ _).symm.trans H; rw [hy270]; with_reducible exact H2_) | (have H2_ := (Option.bind_some _ _).symm.trans H; with_reducible exact H2_) | with_reducible exact H | (rw [hy270]; exact H) | exact H
    have Ny270 := Aside0.mk hy270
    clear hy270
    simp only [Option.some.injEq, Prod.mk.injEq] at H
    obtain ⟨rfl, rfl, rfl⟩ := H
    obtain ⟨Ao24, co24, eo24⟩ := Kd.R_slice HO1.out
    subst eo24
    go_enter Try.func53, Try.ntmps53
    try go_wp2_with (first | ((with_reducible refine gate_callee (f := 50) rfl ?_); refine goesL_ (some 14) rfl rfl Try.func50 (by kernel_rfl) rfl #[.pointer (some ⟨g, 0, none⟩), .int .i64 3] rfl ul_ ?_; (with_reducible refine (spec_l01Below.calls g s0_0 s0_1 s0_2 3 t254 t255 t256 w0 _ ?side1 ?side2 A9.out).mono ?_); (case side1 => exact us0_ HI0.out); (case side2 => repeat (first | (with_reducible first | exact HB.out | apply below_alloc | apply pw_below_drewN | apply below_drew1 | refine below_set ?_ (IsS93.ge HI0.out)) | exact HB.out)); rintro e w25 ⟨rfl, hi, hb, hk⟩; refine ⟨_, rfl, ?_⟩; replace HO1 := am_ (Kd.R_mono (Kd.R_keep (IsS93.apart (show IsS93 w0 _ g s0_0 s0_1 s0_2 from us0_ HI0.out) (ur_ HO1.out) (by decide)) hk (fun _ h => h.2)) (fun _ h => h.1)); replace HK := am_ (Kept.of_keep (S := (fun k_ => (P1_ k_) ∨ k_ = g)) (by repeat (first | (with_reducible first | exact HK.out | apply Kept.alloc | apply Kept.drewN | apply Kept.drew | refine Kept.setCell ?_ (.inl (.inr rfl)) _) | exact HK.out)) hk (.inl (.inr rfl))); replace HB := am_ (hb); replace HI0 := am_ (hi); (try clear hb); (try clear hb2); (try clear hk); (try clear hi)) | ((with_reducible refine gate_callee (f := 50) rfl ?_); refine goesL_ (some 28) rfl rfl Try.func50 (by kernel_rfl) rfl #[.pointer (some ⟨g, 0, none⟩), .int .i64 (l1.length : Int)] rfl ul_ ?_; (with_reducible refine (spec_l01Below.calls g s0_0 t255 t256 (l1.length : Int) t263 t264 t265 w0 _ ?side1 ?side2 A19.out).mono ?_); (case side1 => exact us0_ HI0.out); (case side2 => repeat (first | (with_reducible first | exact HB.out | apply below_alloc | apply pw_below_drewN | apply below_drew1 | refine below_set ?_ (IsS93.ge HI0.out)) | exact HB.out)); rintro e w26 ⟨rfl, hi, hb, hk⟩; refine ⟨_, rfl, ?_⟩; replace HO1 := am_ (Kd.R_mono (Kd.R_keep (IsS93.apart (show IsS93 w0 _ g s0_0 t255 t256 from us0_ HI0.out) (ur_ HO1.out) (by decide)) hk (fun _ h => h.2)) (fun _ h => h.1)); replace HK := am_ (Kept.of_keep (S := (fun k_ => (P1_ k_) ∨ k_ = g)) (by repeat (first | (with_reducible first | exact HK.out | apply Kept.alloc | apply Kept.drewN | apply Kept.drew | refine Kept.setCell ?_ (.inl (.inr rfl)) _) | exact HK.out)) hk (.inl (.inr rfl))); replace HB := am_ (hb); replace HI0 := am_ (hi); (try clear hb); (try clear hb2); (try clear hk); (try clear hi)))
    have n0_ := am_ (Kd.R_drew HO1.out)
    have n1_ := am_ (IsS93.drew HI0.out)
    have n2_ := am_ (Kept.drew HK.out)
    have n3_ := am_ (below_drew1 HB.out)
    clear HO1
    clear HI0
    clear HK
    clear HB
    have HO1 := n0_
    have HI0 := n1_
    have HK := n2_
    have HB := n3_
    clear n0_ n1_ n2_ n3_
    have p266 : 0 ≤ (t263 : Int) := of_decide_eq_true ua_
    have q266 : t263 < (l1.length : Int) := of_decide_eq_true ua_
    obtain ⟨ad266, e266, hx266_0⟩ := Kd.at_int (Kd.R_reads' HO1.out).2.2 t263 p266 q266
    cases e266
    replace p266 := eq_true p266
    replace q266 := eq_true q266
    refine start_ (n := 13) (S := fun w' => w'.cell? (ad266.add (t263).toNat) = some (.int .u8 (rd l1 t263))) (ds := [12]) #[false, false, false, false, false, false, false, false, false, false, false, false, false] (by kernel_rfl) rfl rfl (hx266_0) (fun hHeld => ?_); refine with_tabW spec_l02BendBytes.tab8 spec_l02BendBytes.bits8 (fun HT_ HW_ => ?_)
    generalize w26.drew = w27 at HO1 HI0 HK HB hx266_0 hHeld ⊢
    refine pure_ (i := 0) (N := some 29) (v := ?_) (a' := ?_) #[true, false, false, false, false, false, false, false, false, false, false, false, false] rfl rfl (any_of HT_.out (by kernel_rfl)) (fun _ _ _ h => h) (Or.inl ⟨by rfl, ?_⟩) ?_ ?_
    rotate_left
    ·
     intro w'
     go_simp
     with_reducible rfl
    rotate_left
    ·
     simp only [Act.put, List.setIfInBounds_toArray, List.set_cons_zero, List.set_cons_succ, i64_w, i32_w]
     rfl
    refine pure_ (i := 1) (N := some 30) (v := ?_) (a' := ?_) #[true, true, false, false, false, false, false, false, false, false, false, false, false] rfl rfl (any_of HT_.out (by kernel_rfl)) (fun _ _ _ h => h) (Or.inl ⟨by rfl, ?_⟩) ?_ ?_
    rotate_left
    ·
     intro w'
     go_simp
     with_reducible rfl
    rotate_left
    ·
     simp only [Act.put, List.setIfInBounds_toArray, List.set_cons_zero, List.set_cons_succ, i64_w, i32_w]
     rfl
    refine pure_ (i := 2) (N := some 31) (v := ?_) (a' := ?_) #[true, true, true, false, false, false, false, false, false, false, false, false, false] rfl rfl (any_of HT_.out (by kernel_rfl)) (fun _ _ _ h => h) (Or.inl ⟨by rfl, ?_⟩) ?_ ?_
    rotate_left
    ·
     intro w'
     go_simp
     with_reducible rfl
    rotate_left
    ·
     simp only [Act.put, List.setIfInBounds_toArray, List.set_cons_zero, List.set_cons_succ, i64_w, i32_w]
     rfl
    refine pure_ (i := 3) (N := some 32) (v := ?_) (a' := ?_) #[true, true, true, true, false, false, false, false, false, false, false, false, false] rfl rfl (any_of HT_.out (by kernel_rfl)) (fun _ _ _ h => h) (Or.inl ⟨by rfl, ?_⟩) ?_ ?_
    rotate_left
    ·
     intro w'
     go_simp
     with_reducible rfl
    rotate_left
    ·
     simp only [Act.put, List.setIfInBounds_toArray, List.set_cons_zero, List.set_cons_succ, i64_w, i32_w]
     rfl
    refine pure_ (i := 4) (N := some 33) (v := ?_) (a' := ?_) #[true, true, true, true, true, false, false, false, false, false, false, false, false] rfl rfl (any_of HT_.out (by kernel_rfl)) (fun _ _ _ h => h) (Or.inl ⟨by rfl, ?_⟩) ?_ ?_
    rotate_left
    ·
     intro w'
     go_simp
     with_reducible rfl
    rotate_left
    ·
     simp only [Act.put, List.setIfInBounds_toArray, List.set_cons_zero, List.set_cons_succ, i64_w, i32_w]
     rfl
    refine pure_ (i := 6) (N := some 35) (v := ?_) (a' := ?_) #[true, true, true, true, true, false, true, false, false, false, false, false, false] rfl rfl (any_of HT_.out (by kernel_rfl)) (fun _ _ _ h => h) (Or.inl ⟨by rfl, ?_⟩) ?_ ?_
    rotate_left
    ·
     intro w'
     go_simp
     with_reducible rfl
    rotate_left
    ·
     simp only [Act.put, List.setIfInBounds_toArray, List.set_cons_zero, List.set_cons_succ, i64_w, i32_w]
     rfl
    refine take_ (i := 5) (N := some 34) (v := ?_) (a' := ?_) #[true, true, true, true, true, true, true, false, false, false, false, false, false] rfl rfl (take_ofW HT_.out HW_.out (by kernel_rfl)) (fun _ _ _ h => h) (Or.inl ⟨by rfl, ?_⟩) hHeld ?_ ?_
    rotate_left
    ·
     intro w' s0
     go_simp
     with_reducible rfl
    rotate_left
    ·
     simp only [Act.put, List.setIfInBounds_toArray, List.set_cons_zero, List.set_cons_succ, i64_w, i32_w]
     rfl
    refine one_ (i := 7) (N := some 36) #[true, true, true, true, true, true, true, true, false, false, false, false, false] rfl rfl (one_of HT_.out (by kernel_rfl)) (by decide) (fun K hK => ?_)
    refine goes_ Try.func50 (by kernel_rfl) rfl #[.pointer (some ⟨g, 0, none⟩), .int .i64 255] (by rfl) rfl rfl ul_ ?_
    with_reducible refine (spec_l01Below.calls g s0_0 t264 t265 255 t267 t268 t269 w0 _ ?side1 ?side2 A22.out).mono ?_
    (case side1 => exact us0_ HI0.out)
    (case side2 => repeat (first | (with_reducible first | exact HB.out | apply below_alloc | apply pw_below_drewN | apply below_drew1 | refine below_set ?_ (IsS93.ge HI0.out)) | exact HB.out))
    rintro e w28 ⟨rfl, hi, hb, hk⟩
    have HS0_ := keep_cell hk (hHeld) (by first | (rw [add_block]; exact Kd.own_blk (IsS93.own_ne HI0.out HO1.out (by decide))) | (show (Addr.add _ _).block ≠ _; rw [add_block]; exact Kd.own_blk (IsS93.own_ne HI0.out HO1.out (by decide))) | exact Kd.own_blk (IsS93.own_ne HI0.out HO1.out (by decide)))
    refine ⟨_, rfl, ?_⟩
    have n0_ := am_ (Kd.R_mono (Kd.R_keep (IsS93.apart (show IsS93 w0 _ g s0_0 t264 t265 from us0_ HI0.out) (ur_ HO1.out) (by decide)) hk (fun _ h => h.2)) (fun _ h => h.1))
    have n1_ := am_ (Kept.of_keep (S := (fun k_ => (P1_ k_) ∨ k_ = g)) (by repeat (first | (with_reducible first | exact HK.out | apply Kept.alloc | apply Kept.drewN | apply Kept.drew | refine Kept.setCell ?_ (.inl (.inr rfl)) _) | exact HK.out)) hk (.inl (.inr rfl)))
    have n2_ := am_ (hb)
    have n3_ := am_ (hi)
    clear HO1
    clear HK
    clear HB
    clear HI0
    have HO1 := n0_
    have HK := n1_
    have HB := n2_
    have HI0 := n3_
    clear n0_ n1_ n2_ n3_
    (try clear hb)
    (try clear hb2)
    (try clear hk)
    (try clear hi)
    have p23 : 0 ≤ (t263 : Int) := of_decide_eq_true ua_
    have q23 : (t263 : Int) < ((l1.length : Int) : Int) := of_decide_eq_true ua_
    obtain ⟨go23, co23, eo23, gb23, gl23, cl23, HG23⟩ := Kd.R_form HO1.out (by omega)
    (first | cases eo23 | (injection eo23 with ea_ en_ ec_; (first | subst ea_ | (injection ea_ with ea_; subst ea_)); subst ec_; clear en_))
    have GB23 := Aside0.mk gb23
    have GG23 := Aside0.mk HG23
    clear gb23 gl23 HG23
    have HMgo23 := am_ (show (P1_ go23 ∨ w.heap.size ≤ go23) from (HO1.out.1 _ rfl))
    (first | simp only [add_plain] at hx266_0 | skip)
    obtain ⟨hx23_0, hf23_0⟩ := Kd.R_celln 0 HO1.out (t263 : Int) p23 q23
    replace p23 := eq_true p23
    replace q23 := eq_true q23
    have HN0_go23 := am_ (show g ≠ go23 from by have h_ := IsS93.own_ne HI0.out HO1.out (by decide); intro e_; exact h_ (by rw [e_]; rfl))
    have HP29 := Kd.R_putn HO1.out (t263 : Int) (Go.bits .xor .u8 (rd l1 t263) ((wrap64 (1 + t267)) % 256))
    rw [← Ny270.out] at HP29
    have HQ29 := Aside0.mk HP29
    clear HP29
    refine hK.out _ _ (HS0_) (fun hHeld => ?_)
    clear hK K
    refine norm_ (a' := ?_) ?_ ?_
    rotate_left
    ·
     show Act.put _ (some 36) _ = _
     simp only [Act.put, List.setIfInBounds_toArray, List.set_cons_zero, List.set_cons_succ, i64_w, i32_w]
     rfl
    refine pure_ (i := 8) (N := some 37) (v := ?_) (a' := ?_) #[true, true, true, true, true, true, true, true, true, false, false, false, false] rfl rfl (any_of HT_.out (by kernel_rfl)) (fun _ _ _ h => h) (Or.inl ⟨by rfl, ?_⟩) ?_ ?_
    rotate_left
    ·
     intro w'
     go_simp
     with_reducible rfl
    rotate_left
    ·
     simp only [Act.put, List.setIfInBounds_toArray, List.set_cons_zero, List.set_cons_succ, i64_w, i32_w]
     rfl
    refine pure_ (i := 9) (N := some 38) (v := ?_) (a' := ?_) #[true, true, true, true, true, true, true, true, true, true, false, false, false] rfl rfl (any_of HT_.out (by kernel_rfl)) (fun _ _ _ h => h) (Or.inl ⟨by rfl, ?_⟩) ?_ ?_
    rotate_left
    ·
     intro w'
     go_simp
     with_reducible rfl
    rotate_left
    ·
     simp only [Act.put, List.setIfInBounds_toArray, List.set_cons_zero, List.set_cons_succ, i64_w, i32_w]
     rfl
    refine pure_ (i := 10) (N := some 39) (v := ?_) (a' := ?_) #[true, true, true, true, true, true, true, true, true, true, true, false, false] rfl rfl (any_of HT_.out (by kernel_rfl)) (fun _ _ _ h => h) (Or.inl ⟨by rfl, ?_⟩) ?_ ?_
    rotate_left
    ·
     intro w'
     go_simp
     with_reducible rfl
    rotate_left
    ·
     simp only [Act.put, List.setIfInBounds_toArray, List.set_cons_zero, List.set_cons_succ, i64_w, i32_w]
     rfl
    refine pure_ (i := 11) (N := some 40) (v := ?_) (a' := ?_) #[true, true, true, true, true, true, true, true, true, true, true, true, false] rfl rfl (any_of HT_.out (by kernel_rfl)) (fun _ _ _ h => h) (Or.inl ⟨by rfl, ?_⟩) ?_ ?_
    rotate_left
    ·
     intro w'
     go_simp
     with_reducible rfl
    rotate_left
    ·
     simp only [Act.put, List.setIfInBounds_toArray, List.set_cons_zero, List.set_cons_succ, i64_w, i32_w]
     rfl
    refine last_ (i := 12) (N := none) #[true, true, true, true, true, true, true, true, true, true, true, true, true] rfl rfl (one_of HT_.out (by kernel_rfl)) (by decide) (fun K hK => ?_)
    refine skip_ (w1 := ?_) (by rfl) rfl ?_ ?_
    rotate_left
    ·
     go_simp
     rfl
    refine hK.out _ _ ?_
    clear hK K
    refine done_ (done_of HT_.out (by kernel_rfl)) ?_
    try go_wp2
    go_ret
    exact ⟨_, ew_, by (with_reducible repeat (first | apply Kd.R_alloc | apply Kd.R_drewN | apply Kd.R_drew)); exact HQ29.out, by repeat (first | (with_reducible first | exact HI0.out | apply IsS93.alloc | apply IsS93.drewN | apply IsS93.drew | apply IsS93.set_1 | apply IsS93.set_2 | refine IsS93.far ?_ HN0_go23.out _) | exact HI0.out), by repeat (first | (with_reducible first | exact HB.out | apply below_alloc | apply pw_below_drewN | apply below_drew1 | refine below_set ?_ GB23.out | refine below_set ?_ (IsS93.ge HI0.out)) | exact HB.out), by repeat (first | (with_reducible first | exact HK.out | apply Kept.alloc | apply Kept.drewN | apply Kept.drew | refine Kept.setCell ?_ (Or.imp_left Or.inl HMgo23.out) _ | refine Kept.setCell ?_ (.inl (.inr rfl)) _) | exact HK.out)⟩
   rw [if_neg c21] at H
   exact absurd H (by simp)
  rw [if_neg c20] at H
  exact absurd H (by simp)
 rw [if_neg c18] at H
 have c18b0 : (t254 == 1) = false := beq_eq_false_iff_ne.mpr c18
 have c18b1 : (t254 != 1) = true := bne_iff_ne.mpr c18
 by_cases c30 : t254 = 2
 ·
  rw [if_pos c30] at H
  have c30b0 : (t254 == 2) = true := beq_iff_eq.mpr c30
  have c30b1 : (t254 != 2) = false := bne_eq_false_iff_eq.mpr c30
  clear c30
  obtain ⟨y271, hy271⟩ : ∃ y_ : List Int, y_ = (([0, 1, 4, 9, 200] : List Int)) := ⟨_, rfl⟩
  replace H : ((spec_l01PickInt.f s0_0 t255 t256 y271).bind fun bt274 => (if l1.length < 140737488355328 then (some ((l1 ++ [(bt274.1) % 256]), bt274.2.1, bt274.2.2)) else (none))) = some (r1, r2, r3) := by first | (rw [hy271]; with_reducible exact H) | (have H2_ := (Option.bind_some _ _).symm.trans H; rw [hy271]; with_reducible exact H2_) | (have H2_ := (Option.bind_some _ _).symm.trans H; with_reducible exact H2_) | with_reducible exact H | (rw [hy271]; exact H) | exact H
  have Ny271 := Aside0.mk hy271
  clear hy271
  replace H := Option.bind_eq_some_iff.mp H
  obtain ⟨⟨t274, t275, t276⟩, A310, H⟩ := H
  replace H : (if l1.length < 140737488355328 then (some ((l1 ++ [(t274) % 256]), t275, t276)) else (none)) = some (r1, r2, r3) := H
  have A31 := Aside0.mk A310
  clear A310
  by_cases c32 : l1.length < 140737488355328
  ·
   rw [if_pos c32] at H
   have LMc32 := Aside0.mk c32
   clear c32
   obtain ⟨y277, hy277⟩ : ∃ y_ : List Int, y_ = (l1 ++ [(t274) % 256]) := ⟨_, rfl⟩
   replace H : (some (y277, t275, t276)) = some (r1, r2, r3) := by first | (rw [hy277]; with_reducible exact H) | (have H2_ := (Option.bind_some _ _).symm.trans H; rw [hy277]; with_reducible exact H2_) | (have H2_ := (Option.bind_some _ _).symm.trans H; with_reducible exact H2_) | with_reducible exact H | (rw [hy277]; exact H) | exact H
   have Ny277 := Aside0.mk hy277
   clear hy277
   simp only [Option.some.injEq, Prod.mk.injEq] at H
   obtain ⟨rfl, rfl, rfl⟩ := H
   obtain ⟨Ao33, co33, eo33⟩ := Kd.R_slice HO1.out
   subst eo33
   go_enter Try.func53, Try.ntmps53
   go_wp2_with (first | ((with_reducible refine gate_callee (f := 50) rfl ?_); refine goesL_ (some 14) rfl rfl Try.func50 (by kernel_rfl) rfl #[.pointer (some ⟨g, 0, none⟩), .int .i64 3] rfl ul_ ?_; (with_reducible refine (spec_l01Below.calls g s0_0 s0_1 s0_2 3 t254 t255 t256 w0 _ ?side1 ?side2 A9.out).mono ?_); (case side1 => exact us0_ HI0.out); (case side2 => repeat (first | (with_reducible first | exact HB.out | apply below_alloc | apply pw_below_drewN | apply below_drew1 | refine below_set ?_ (IsS93.ge HI0.out)) | exact HB.out)); rintro e w34 ⟨rfl, hi, hb, hk⟩; refine ⟨_, rfl, ?_⟩; replace HO1 := am_ (Kd.R_mono (Kd.R_keep (IsS93.apart (show IsS93 w0 _ g s0_0 s0_1 s0_2 from us0_ HI0.out) (ur_ HO1.out) (by decide)) hk (fun _ h => h.2)) (fun _ h => h.1)); replace HK := am_ (Kept.of_keep (S := (fun k_ => (P1_ k_) ∨ k_ = g)) (by repeat (first | (with_reducible first | exact HK.out | apply Kept.alloc | apply Kept.drewN | apply Kept.drew | refine Kept.setCell ?_ (.inl (.inr rfl)) _) | exact HK.out)) hk (.inl (.inr rfl))); replace HB := am_ (hb); replace HI0 := am_ (hi); (try clear hb); (try clear hb2); (try clear hk); (try clear hi)) | ((with_reducible refine gate_dst (N := 45) rfl ?_); refine Kd.R_lit (Kd.int .i64) _ 3 ?hg (N := 45) ?hd (xs := ([0, 1, 4, 9, 200] : List Int)) (inner := [.int .i64 0, .int .i64 1, .int .i64 4, .int .i64 9, .int .i64 200]) (ok := fun _ => True) (okp := fun _ => True) ?hr ?hp (fun _ hk => hk) trivial (Below.refl _ _) (Nat.le_refl _) (by simp) ?_; (case hd => rfl); (case hg => rfl); (case hr => first | (go_simp; done) | (go_simp; rfl)); (case hp => exact (Reps.one (show Kd.M (Kd.int .i64) _ _ _ 0 [.int .i64 0] from rfl) (Reps.one (show Kd.M (Kd.int .i64) _ _ _ 1 [.int .i64 1] from rfl) (Reps.one (show Kd.M (Kd.int .i64) _ _ _ 4 [.int .i64 4] from rfl) (Reps.one (show Kd.M (Kd.int .i64) _ _ _ 9 [.int .i64 9] from rfl) (Reps.one (show Kd.M (Kd.int .i64) _ _ _ 200 [.int .i64 200] from rfl) (Reps.none _ _))))))); intro v272 w35 ho36 hb hg_ hnew_; clear hg_ hnew_; (first | rw [← Ny271.out] at ho36 | (simp only [Int.reduceToNat] at ho36; rw [← Ny271.out] at ho36)); replace HO1 := am_ (Kd.R_below (ur_ HO1.out) hb); have HO273 := am_ (Kd.R_lower (Kd.R_newM (M := fun k_ => (P1_ k_ ∨ w.heap.size ≤ k_)) ho36 (by first | exact HK.out.1 | exact (show Kept w _ (fun k_ => (P1_ k_) ∨ k_ = g) from by repeat (first | (with_reducible first | exact HK.out | apply Kept.alloc | apply Kept.drewN | apply Kept.drew | refine Kept.setCell ?_ (.inl (.inr rfl)) _) | exact HK.out)).1) (fun k_ h_ => .inr h_)) (below_size (by repeat (first | (with_reducible first | exact HB.out | apply below_alloc | apply pw_below_drewN | apply below_drew1 | refine below_set ?_ (IsS93.ge HI0.out)) | exact HB.out)))); replace HK := am_ (Kept.below (S := (fun k_ => (P1_ k_) ∨ k_ = g)) (by repeat (first | (with_reducible first | exact HK.out | apply Kept.alloc | apply Kept.drewN | apply Kept.drew | refine Kept.setCell ?_ (.inl (.inr rfl)) _) | exact HK.out)) hb); replace HB := am_ (below_step (by repeat (first | (with_reducible first | exact HB.out | apply below_alloc | apply pw_below_drewN | apply below_drew1 | refine below_set ?_ (IsS93.ge HI0.out)) | exact HB.out)) hb); replace HI0 := am_ (IsS93.below (us0_ HI0.out) hb); clear hb ho36; obtain ⟨Ao37, co37, eo37⟩ := Kd.R_slice HO273.out; subst eo37) | ((with_reducible refine gate_callee (f := 78) rfl ?_); refine goesL_ (some 46) rfl rfl Try.func78 (by kernel_rfl) rfl #[.pointer (some ⟨g, 0, none⟩), .slice Ao37 y271.length co37] rfl ul_ ?_; (with_reducible refine (spec_l01PickInt.calls g s0_0 t255 t256 _ _ y271 t274 t275 t276 w0 _ ?side1 ?side2 ?side3 ?side4 ?side5 A31.out).mono ?_); (case side1 => exact us0_ HI0.out); (case side2 => repeat (first | (with_reducible first | exact HB.out | apply below_alloc | apply pw_below_drewN | apply below_drew1 | refine below_set ?_ (IsS93.ge HI0.out)) | exact HB.out)); (case side3 => repeat (first | exact (Kd.R_reads' HO273.out).2.2 | (with_reducible refine Kd.C_alloc ?_ _) | (with_reducible refine Kd.C_drewN ?_ _) | (with_reducible refine Kd.C_drew ?_))); (case side4 => exact (Kd.R_reads' HO273.out).2.1); (case side5 => exact far_slice (IsS93.own_ne HI0.out HO273.out (by decide))); rintro e w38 ⟨rfl, hi, hb, hk⟩; refine ⟨_, rfl, ?_⟩; replace HO1 := am_ (Kd.R_mono (Kd.R_keep (IsS93.apart (show IsS93 w0 _ g s0_0 t255 t256 from us0_ HI0.out) (ur_ HO1.out) (by decide)) hk (fun _ h => h.2)) (fun _ h => h.1)); replace HO273 := am_ (Kd.R_mono (Kd.R_keep (IsS93.apart (show IsS93 w0 _ g s0_0 t255 t256 from us0_ HI0.out) (ur_ HO273.out) (by decide)) hk (fun _ h => h.2)) (fun _ h => h.1)); replace HK := am_ (Kept.of_keep (S := (fun k_ => (P1_ k_) ∨ k_ = g)) (by repeat (first | (with_reducible first | exact HK.out | apply Kept.alloc | apply Kept.drewN | apply Kept.drew | refine Kept.setCell ?_ (.inl (.inr rfl)) _) | exact HK.out)) hk (.inl (.inr rfl))); replace HB := am_ (hb); replace HI0 := am_ (hi); (try clear hb); (try clear hb2); (try clear hk); (try clear hi)) | ((with_reducible refine gate_builtin (b := .append) (xs := #[.tmp 43, .tmp 48]) rfl ?_); at_builtin; refine Kd.R_append (Kd.int .u8) (w0 := w0) w0.heap.size rfl (.tmp 43) (.tmp 48) 39 5 (.int .u8 0) 1 rfl Try.underlying39 info5 rfl (by decide) (by omega) (.slice Ao33 l1.length co33) l1 ((t274) % 256) [.int .u8 ((t274) % 256)] (fun k_ => (P1_ k_ ∨ w.heap.size ≤ k_)) (fun _ => False) rfl rfl ?aP (fun _ hk => hk.elim) ?aF ?aO ?aB ?aS ?aL ?_; (case aP => exact rfl); (case aB => exact (by repeat (first | (with_reducible first | exact HB.out | apply below_alloc | apply pw_below_drewN | apply below_drew1 | refine below_set ?_ (IsS93.ge HI0.out)) | exact HB.out))); (case aF => exact (fun k_ hk => (.inr (Nat.le_trans (by first | exact HK.out.1 | exact (show Kept w _ (fun k_ => (P1_ k_) ∨ k_ = g) from by repeat (first | (with_reducible first | exact HK.out | apply Kept.alloc | apply Kept.drewN | apply Kept.drew | refine Kept.setCell ?_ (.inl (.inr rfl)) _) | exact HK.out)).1) hk)))); (case aO => exact (ur_ HO1.out)); (case aS => exact (below_size (by repeat (first | (with_reducible first | exact HB.out | apply below_alloc | apply pw_below_drewN | apply below_drew1 | refine below_set ?_ (IsS93.ge HI0.out)) | exact HB.out)))); (case aL => have := LMc32.out; omega); intro v278 w39 ho hb hg hat; rw [← Ny277.out] at ho; replace HI0 := am_ (IsS93.grown (us0_ HI0.out) hg (IsS93.own_ne HI0.out HO1.out (by decide))); replace HO273 := am_ (Kd.R_over' (ur_ HO273.out) (Kd.R_typed (ur_ HO1.out)) (by decide) hg); replace HB := am_ (hb); replace HK := am_ (Kept.of_grown (S := (fun k_ => (P1_ k_) ∨ k_ = g)) hg (by repeat (first | (with_reducible first | exact HK.out | apply Kept.alloc | apply Kept.drewN | apply Kept.drew | refine Kept.setCell ?_ (.inl (.inr rfl)) _) | exact HK.out)) (fun k_ e_ => Or.imp_left Or.inl ((HO1.out.1 k_ e_)))); have HO279 := am_ (ho); clear HO1; clear ho hb hg hat))
   go_ret
   exact ⟨_, ew_, by (with_reducible repeat (first | apply Kd.R_alloc | apply Kd.R_drewN | apply Kd.R_drew)); exact HO279.out, us0_ HI0.out, by repeat (first | (with_reducible first | exact HB.out | apply below_alloc | apply pw_below_drewN | apply below_drew1 | refine below_set ?_ (IsS93.ge HI0.out)) | exact HB.out), by repeat (first | (with_reducible first | exact HK.out | apply Kept.alloc | apply Kept.drewN | apply Kept.drew | refine Kept.setCell ?_ (.inl (.inr rfl)) _) | exact HK.out)⟩
  rw [if_neg c32] at H
  exact absurd H (by simp)
 rw [if_neg c30] at H
 have c30b0 : (t254 == 2) = false := beq_eq_false_iff_ne.mpr c30
 have c30b1 : (t254 != 2) = true := bne_iff_ne.mpr c30
 simp only [Option.some.injEq, Prod.mk.injEq] at H
 obtain ⟨rfl, rfl, rfl⟩ := H
 obtain ⟨Ao40, co40, eo40⟩ := Kd.R_slice HO1.out
 subst eo40
 go_enter Try.func53, Try.ntmps53
 go_wp2_with (first | ((with_reducible refine gate_callee (f := 50) rfl ?_); refine goesL_ (some 14) rfl rfl Try.func50 (by kernel_rfl) rfl #[.pointer (some ⟨g, 0, none⟩), .int .i64 3] rfl ul_ ?_; (with_reducible refine (spec_l01Below.calls g s0_0 s0_1 s0_2 3 t254 t255 t256 w0 _ ?side1 ?side2 A9.out).mono ?_); (case side1 => exact us0_ HI0.out); (case side2 => repeat (first | (with_reducible first | exact HB.out | apply below_alloc | apply pw_below_drewN | apply below_drew1 | refine below_set ?_ (IsS93.ge HI0.out)) | exact HB.out)); rintro e w41 ⟨rfl, hi, hb, hk⟩; refine ⟨_, rfl, ?_⟩; replace HO1 := am_ (Kd.R_mono (Kd.R_keep (IsS93.apart (show IsS93 w0 _ g s0_0 s0_1 s0_2 from us0_ HI0.out) (ur_ HO1.out) (by decide)) hk (fun _ h => h.2)) (fun _ h => h.1)); replace HK := am_ (Kept.of_keep (S := (fun k_ => (P1_ k_) ∨ k_ = g)) (by repeat (first | (with_reducible first | exact HK.out | apply Kept.alloc | apply Kept.drewN | apply Kept.drew | refine Kept.setCell ?_ (.inl (.inr rfl)) _) | exact HK.out)) hk (.inl (.inr rfl))); replace HB := am_ (hb); replace HI0 := am_ (hi); (try clear hb); (try clear hb2); (try clear hk); (try clear hi)))
 go_ret
 exact ⟨_, ew_, by (with_reducible repeat (first | apply Kd.R_alloc | apply Kd.R_drewN | apply Kd.R_drew)); exact HO1.out, us0_ HI0.out, by repeat (first | (with_reducible first | exact HB.out | apply below_alloc | apply pw_below_drewN | apply below_drew1 | refine below_set ?_ (IsS93.ge HI0.out)) | exact HB.out), by repeat (first | (with_reducible first | exact HK.out | apply Kept.alloc | apply Kept.drewN | apply Kept.drew | refine Kept.setCell ?_ (.inl (.inr rfl)) _) | exact HK.out)⟩

end Go.Proofs.Ytaofcalmgodgjaa.QFnPieces
