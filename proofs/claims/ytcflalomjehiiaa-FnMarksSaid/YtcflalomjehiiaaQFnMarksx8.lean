/- The machine side of a law: Lean functions with the Go functions' answers and the walks that show it. No condition. -/
import Derived.Test.YtcflalomjehiiaaQFnMarksx0
import Derived.Test.YtcflalomjehiiaaQFnMarksx7
namespace Go.Proofs.Ytcflalomjehiiaa.QFnMarks
open Go.RowKit Go.Proofs.YtcflalomjehiiaaW.PrintWords Go.Proofs.YtcflalomjehiiaaW.PrintLast Go.Proofs.YtcflalomjehiiaaW.PrintMore
attribute [local go_sem] max2_int min2_int max_two min_two max_three min_three max_four min_four   -- for this text's walks alone
set_option linter.unusedVariables false
set_option linter.unusedSimpArgs false

/-! ### spec_l04DrawSource: function 145 -/
def spec_l04DrawSource.j0 : Nat → List Int → Int → Int → Int → Int → Int → Bool → Bool → Option (Int × Int × Int × Bool × Bool × Int × Int)
 | 0, _, _, _, _, _, _, _, _ => none
 | k + 1, x1000, x1001, x1002, x459000, x459001, x459002, x459003, x459004 => (spec_l01Once.f x1000 x1001 x1002 15).bind fun bt462 => (if bt462.1 = true then ((spec_l01Below.f x1000 bt462.2.1 bt462.2.2 3).bind fun bt465 => (if bt465.1 = 0 then ((spec_l01PickInt.f x1000 bt465.2.1 bt465.2.2 (([(-2), 1000000, 1000001] : List Int))).bind fun bt471 => (some (bt471.1, x459001, x459002, x459003, x459004, bt471.2.1, bt471.2.2))) else (if bt465.1 = 1 then ((spec_l01PickInt.f x1000 bt465.2.1 bt465.2.2 (([(-2), 1000000, 1000001] : List Int))).bind fun bt477 => (some (x459000, bt477.1, x459002, x459003, x459004, bt477.2.1, bt477.2.2))) else (if bt465.1 = 2 then ((spec_l01PickInt.f x1000 bt465.2.1 bt465.2.2 (([(-1), 1000000000, 1000000001] : List Int))).bind fun bt483 => (some (x459000, x459001, bt483.1, x459003, x459004, bt483.2.1, bt483.2.2))) else (some (x459000, x459001, x459002, x459003, x459004, bt465.2.1, bt465.2.2)))))) else (some (x459000, x459001, x459002, x459003, x459004, bt462.2.1, bt462.2.2)))
def spec_l04DrawSource.f (k : Nat) (s0_0 : List Int) (s0_1 : Int) (s0_2 : Int) : Option (Int × Int × Int × Bool × Bool × Int × Int) := (spec_l01Below.f s0_0 s0_1 s0_2 60).bind fun bt446 => ((spec_l01Below.f s0_0 bt446.2.1 bt446.2.2 50).bind fun bt449 => ((spec_l01Once.f s0_0 bt449.2.1 bt449.2.2 4).bind fun bt452 => ((spec_l01Once.f s0_0 bt452.2.1 bt452.2.2 6).bind fun bt455 => ((spec_l01Below.f s0_0 bt455.2.1 bt455.2.2 10).bind fun bt459 => (if (wrap64 ((wrap64 (bt446.1 - 1)) - bt459.1)) < (-1) then (spec_l04DrawSource.j0 k s0_0 bt459.2.1 bt459.2.2 (wrap64 (bt446.1 - 1)) (-1) bt449.1 bt452.1 (!bt455.1)) else (spec_l04DrawSource.j0 k s0_0 bt459.2.1 bt459.2.2 (wrap64 (bt446.1 - 1)) (wrap64 ((wrap64 (bt446.1 - 1)) - bt459.1)) bt449.1 bt452.1 (!bt455.1)))))))
theorem spec_l04DrawSource.mono_l : ∀ k, (∀ y0 y1 y2 y3 y4 y5 y6 y7, LeO (spec_l04DrawSource.j0 k y0 y1 y2 y3 y4 y5 y6 y7) (spec_l04DrawSource.j0 (k + 1) y0 y1 y2 y3 y4 y5 y6 y7))
 | 0 => fun _ _ _ _ _ _ _ _ r h => by simp [spec_l04DrawSource.j0] at h
 | k + 1 => by
  have ih0 := spec_l04DrawSource.mono_l k
  ·
   intro y0 y1 y2 y3 y4 y5 y6 y7
   unfold spec_l04DrawSource.j0
   repeat' first
   | (with_reducible exact ih0 _ _ _ _ _ _ _ _)
   | (with_reducible exact LeO.refl _)
   | (with_reducible exact LeO.none _)
   | (with_reducible refine LeO.ite ?_ ?_)
   | (with_reducible refine LeO.bind ?_ (fun _ => ?_))
   | exact ih0 _ _ _ _ _ _ _ _
   | exact LeO.none _
   | refine LeO.ite ?_ ?_
   | refine LeO.bind ?_ (fun _ => ?_)
theorem spec_l04DrawSource.mono : ∀ a0 a1 a2 k, LeO (spec_l04DrawSource.f k a0 a1 a2) (spec_l04DrawSource.f (k + 1) a0 a1 a2) := by
 intro a0 a1 a2 k
 have ih0 := spec_l04DrawSource.mono_l k
 unfold spec_l04DrawSource.f
 repeat' first
   | (with_reducible exact ih0 _ _ _ _ _ _ _ _)
   | (with_reducible exact LeO.refl _)
   | (with_reducible exact LeO.none _)
   | (with_reducible refine LeO.ite ?_ ?_)
   | (with_reducible refine LeO.bind ?_ (fun _ => ?_))
   | exact ih0 _ _ _ _ _ _ _ _
   | exact LeO.none _
   | refine LeO.ite ?_ ?_
   | refine LeO.bind ?_ (fun _ => ?_)
set_option maxHeartbeats 8000000 in
set_option maxRecDepth 100000 in
theorem spec_l04DrawSource.calls (k : Nat) (g : Nat) (s0_0 : List Int) (s0_1 : Int) (s0_2 : Int) (r1 : Int) (r2 : Int) (r3 : Int) (r4 : Bool) (r5 : Bool) (r6 : Int) (r7 : Int) (w0 w : World) (hI : IsS155 w0 w g s0_0 s0_1 s0_2) (hB : Below w0.heap.size w0 w) (h : spec_l04DrawSource.f k s0_0 s0_1 s0_2 = some (r1, r2, r3, r4, r5, r6, r7)) :
  Calls Try.prog 145 #[.pointer (some ⟨g, 0, none⟩)] w fun e w' => e = .returned (.agg #[.int .i64 r1, .int .i64 r2, .int .i64 r3, .bool r4, .bool r5]) ∧ IsS155 w0 w' g s0_0 r6 r7 ∧ Below w0.heap.size w0 w' ∧ KeepBut w w' g none := by
 have hu72 := Try.underlying72
 have HI0 := Aside0.mk hI
 have HK := am_ (KeepBut.refl w g none)
 have HL := Aside0.mk hB.size
 clear hI
 have HW0 := Aside0.mk hB.size
 have HB := Aside0.mk hB
 clear hB
 have H : ((spec_l01Below.f s0_0 s0_1 s0_2 60).bind fun bt446 => ((spec_l01Below.f s0_0 bt446.2.1 bt446.2.2 50).bind fun bt449 => ((spec_l01Once.f s0_0 bt449.2.1 bt449.2.2 4).bind fun bt452 => ((spec_l01Once.f s0_0 bt452.2.1 bt452.2.2 6).bind fun bt455 => ((spec_l01Below.f s0_0 bt455.2.1 bt455.2.2 10).bind fun bt459 => (if (wrap64 ((wrap64 (bt446.1 - 1)) - bt459.1)) < (-1) then (spec_l04DrawSource.j0 k s0_0 bt459.2.1 bt459.2.2 (wrap64 (bt446.1 - 1)) (-1) bt449.1 bt452.1 (!bt455.1)) else (spec_l04DrawSource.j0 k s0_0 bt459.2.1 bt459.2.2 (wrap64 (bt446.1 - 1)) (wrap64 ((wrap64 (bt446.1 - 1)) - bt459.1)) bt449.1 bt452.1 (!bt455.1)))))))) = some (r1, r2, r3, r4, r5, r6, r7) := h
 clear h
 replace H := Option.bind_eq_some_iff.mp H
 obtain ⟨⟨t446, t447, t448⟩, A20, H⟩ := H
 replace H : ((spec_l01Below.f s0_0 t447 t448 50).bind fun bt449 => ((spec_l01Once.f s0_0 bt449.2.1 bt449.2.2 4).bind fun bt452 => ((spec_l01Once.f s0_0 bt452.2.1 bt452.2.2 6).bind fun bt455 => ((spec_l01Below.f s0_0 bt455.2.1 bt455.2.2 10).bind fun bt459 => (if (wrap64 ((wrap64 (t446 - 1)) - bt459.1)) < (-1) then (spec_l04DrawSource.j0 k s0_0 bt459.2.1 bt459.2.2 (wrap64 (t446 - 1)) (-1) bt449.1 bt452.1 (!bt455.1)) else (spec_l04DrawSource.j0 k s0_0 bt459.2.1 bt459.2.2 (wrap64 (t446 - 1)) (wrap64 ((wrap64 (t446 - 1)) - bt459.1)) bt449.1 bt452.1 (!bt455.1))))))) = some (r1, r2, r3, r4, r5, r6, r7) := H
 have A2 := Aside0.mk A20
 clear A20
 replace H := Option.bind_eq_some_iff.mp H
 obtain ⟨⟨t449, t450, t451⟩, A30, H⟩ := H
 replace H : ((spec_l01Once.f s0_0 t450 t451 4).bind fun bt452 => ((spec_l01Once.f s0_0 bt452.2.1 bt452.2.2 6).bind fun bt455 => ((spec_l01Below.f s0_0 bt455.2.1 bt455.2.2 10).bind fun bt459 => (if (wrap64 ((wrap64 (t446 - 1)) - bt459.1)) < (-1) then (spec_l04DrawSource.j0 k s0_0 bt459.2.1 bt459.2.2 (wrap64 (t446 - 1)) (-1) t449 bt452.1 (!bt455.1)) else (spec_l04DrawSource.j0 k s0_0 bt459.2.1 bt459.2.2 (wrap64 (t446 - 1)) (wrap64 ((wrap64 (t446 - 1)) - bt459.1)) t449 bt452.1 (!bt455.1)))))) = some (r1, r2, r3, r4, r5, r6, r7) := H
 have A3 := Aside0.mk A30
 clear A30
 replace H := Option.bind_eq_some_iff.mp H
 obtain ⟨⟨t452, t453, t454⟩, A40, H⟩ := H
 replace H : ((spec_l01Once.f s0_0 t453 t454 6).bind fun bt455 => ((spec_l01Below.f s0_0 bt455.2.1 bt455.2.2 10).bind fun bt459 => (if (wrap64 ((wrap64 (t446 - 1)) - bt459.1)) < (-1) then (spec_l04DrawSource.j0 k s0_0 bt459.2.1 bt459.2.2 (wrap64 (t446 - 1)) (-1) t449 t452 (!bt455.1)) else (spec_l04DrawSource.j0 k s0_0 bt459.2.1 bt459.2.2 (wrap64 (t446 - 1)) (wrap64 ((wrap64 (t446 - 1)) - bt459.1)) t449 t452 (!bt455.1))))) = some (r1, r2, r3, r4, r5, r6, r7) := H
 have A4 := Aside0.mk A40
 clear A40
 replace H := Option.bind_eq_some_iff.mp H
 obtain ⟨⟨t455, t456, t457⟩, A50, H⟩ := H
 replace H : ((spec_l01Below.f s0_0 t456 t457 10).bind fun bt459 => (if (wrap64 ((wrap64 (t446 - 1)) - bt459.1)) < (-1) then (spec_l04DrawSource.j0 k s0_0 bt459.2.1 bt459.2.2 (wrap64 (t446 - 1)) (-1) t449 t452 (!t455)) else (spec_l04DrawSource.j0 k s0_0 bt459.2.1 bt459.2.2 (wrap64 (t446 - 1)) (wrap64 ((wrap64 (t446 - 1)) - bt459.1)) t449 t452 (!t455)))) = some (r1, r2, r3, r4, r5, r6, r7) := H
 have A5 := Aside0.mk A50
 clear A50
 replace H := Option.bind_eq_some_iff.mp H
 obtain ⟨⟨t459, t460, t461⟩, A60, H⟩ := H
 replace H : (if (wrap64 ((wrap64 (t446 - 1)) - t459)) < (-1) then (spec_l04DrawSource.j0 k s0_0 t460 t461 (wrap64 (t446 - 1)) (-1) t449 t452 (!t455)) else (spec_l04DrawSource.j0 k s0_0 t460 t461 (wrap64 (t446 - 1)) (wrap64 ((wrap64 (t446 - 1)) - t459)) t449 t452 (!t455))) = some (r1, r2, r3, r4, r5, r6, r7) := H
 have A6 := Aside0.mk A60
 clear A60
 have HC7 := Aside0.mk H
 clear H
 go_enter Try.func145, Try.ntmps145
 try go_wp2_with (first | ((with_reducible refine gate_dst (N := 2) rfl ?_); refine box_event ?hg (N := 2) ?hd (cs := #[.int .i64 0, .int .i64 0, .int .i64 0, .bool false, .bool false]) (t := 72) ?hr ?_; (case hd => rfl); (case hg => rfl); (case hr => first | (go_simp; done) | (go_simp; rfl)); intro gb445 hg w8 hbox hb; have n0_ := am_ (IsS155.below (us1_ HI0.out) hb); have n1_ := am_ (KeepBut.trans (by repeat (first | (with_reducible first | exact HK.out | apply KeepBut.set_ | apply keep_drewN | apply keep_drew | apply keep_alloc) | exact HK.out)) (KeepBut.of_below hb g none) (.inl rfl)); have n2_ := am_ (below_step (by repeat (first | (with_reducible first | exact HB.out | apply below_alloc | apply pw_below_drewN | apply below_drew1 | refine below_set ?_ (IsS155.ge HI0.out)) | exact HB.out)) hb); have n3_ := am_ (hbox); have n4_ := am_ ((by rw [hg]; exact (keep_size (w := w) (g := g) (row := none) (by repeat (first | (with_reducible first | exact HK.out | apply KeepBut.set_ | apply keep_drewN | apply keep_drew | apply keep_alloc) | exact HK.out))) : w.heap.size ≤ gb445)); have n5_ := am_ ((Nat.le_trans HW0.out (by rw [hg]; exact (keep_size (w := w) (g := g) (row := none) (by repeat (first | (with_reducible first | exact HK.out | apply KeepBut.set_ | apply keep_drewN | apply keep_drew | apply keep_alloc) | exact HK.out))) : w.heap.size ≤ gb445) : w0.heap.size ≤ gb445)); have n6_ := am_ ((by rw [hg]; exact Nat.ne_of_lt (IsS155.lt (show IsS155 w0 _ g s0_0 s0_1 s0_2 from us1_ HI0.out)) : g ≠ gb445)); have n7_ := am_ ((by rw [hg]; exact Nat.ne_of_gt (IsS155.lt (show IsS155 w0 _ g s0_0 s0_1 s0_2 from us1_ HI0.out)) : gb445 ≠ g)); clear HI0 HK HB; have HI0 := n0_; have HK := n1_; have HB := n2_; have BK445 := n3_; have GW445 := n4_; have GE445 := n5_; have NB0_445 := n6_; have NB445_0 := n7_; clear n0_ n1_ n2_ n3_ n4_ n5_ n6_ n7_; clear hb hbox hg) | ((with_reducible refine gate_callee (f := 101) rfl ?_); refine goesL_ (some 5) rfl rfl Try.func101 (by kernel_rfl) rfl #[.pointer (some ⟨g, 0, none⟩), .int .i64 60] rfl ul_ ?_; (with_reducible refine (spec_l01Below.calls g s0_0 s0_1 s0_2 60 t446 t447 t448 w0 _ ?side1 ?side2 A2.out).mono ?_); (case side1 => exact us1_ HI0.out); (case side2 => repeat (first | (with_reducible first | exact HB.out | apply below_alloc | apply pw_below_drewN | apply below_drew1 | refine below_set ?_ (IsS155.ge HI0.out) | refine below_set ?_ GE445.out) | exact HB.out)); rintro e w9 ⟨rfl, hi, hb, hk⟩; refine ⟨_, rfl, ?_⟩; have n0_ := am_ (KeepBut.blk hk (g' := gb445) (o := .cells #[.int .i64 0, .int .i64 0, .int .i64 0, .bool false, .bool false] 72 (0, 0)) (ub_ BK445.out) NB445_0.out (by simp)); have n1_ := am_ (KeepBut.trans (by repeat (first | (with_reducible first | exact HK.out | apply KeepBut.set_ | apply keep_drewN | apply keep_drew | apply keep_alloc | refine keep_far ?_ GW445.out _) | exact HK.out)) hk (.inl rfl)); have n2_ := am_ (hb); have n3_ := am_ (hi); clear BK445 HK HB HI0; have BK445 := n0_; have HK := n1_; have HB := n2_; have HI0 := n3_; clear n0_ n1_ n2_ n3_; (try clear hb); (try clear hb2); (try clear hk); (try clear hi)) | ((with_reducible refine gate_callee (f := 101) rfl ?_); refine goesL_ (some 8) rfl rfl Try.func101 (by kernel_rfl) rfl #[.pointer (some ⟨g, 0, none⟩), .int .i64 50] rfl ul_ ?_; (with_reducible refine (spec_l01Below.calls g s0_0 t447 t448 50 t449 t450 t451 w0 _ ?side1 ?side2 A3.out).mono ?_); (case side1 => exact us1_ HI0.out); (case side2 => repeat (first | (with_reducible first | exact HB.out | apply below_alloc | apply pw_below_drewN | apply below_drew1 | refine below_set ?_ (IsS155.ge HI0.out) | refine below_set ?_ GE445.out) | exact HB.out)); rintro e w10 ⟨rfl, hi, hb, hk⟩; refine ⟨_, rfl, ?_⟩; have n0_ := am_ (KeepBut.blk hk (g' := gb445) (o := .cells #[.int .i64 0, .int .i64 0, .int .i64 0, .bool false, .bool false] 72 (0, 0)) (ub_ BK445.out) NB445_0.out (by simp)); have n1_ := am_ (KeepBut.trans (by repeat (first | (with_reducible first | exact HK.out | apply KeepBut.set_ | apply keep_drewN | apply keep_drew | apply keep_alloc | refine keep_far ?_ GW445.out _) | exact HK.out)) hk (.inl rfl)); have n2_ := am_ (hb); have n3_ := am_ (hi); clear BK445 HK HB HI0; have BK445 := n0_; have HK := n1_; have HB := n2_; have HI0 := n3_; clear n0_ n1_ n2_ n3_; (try clear hb); (try clear hb2); (try clear hk); (try clear hi)) | ((with_reducible refine gate_callee (f := 103) rfl ?_); refine goesL_ (some 10) rfl rfl Try.func103 (by kernel_rfl) rfl #[.pointer (some ⟨g, 0, none⟩), .int .i64 4] rfl ul_ ?_; (with_reducible refine (spec_l01Once.calls g s0_0 t450 t451 4 t452 t453 t454 w0 _ ?side1 ?side2 A4.out).mono ?_); (case side1 => exact us1_ HI0.out); (case side2 => repeat (first | (with_reducible first | exact HB.out | apply below_alloc | apply pw_below_drewN | apply below_drew1 | refine below_set ?_ (IsS155.ge HI0.out) | refine below_set ?_ GE445.out) | exact HB.out)); rintro e w11 ⟨rfl, hi, hb, hk⟩; refine ⟨_, rfl, ?_⟩; have n0_ := am_ (KeepBut.blk hk (g' := gb445) (o := .cells #[.int .i64 0, .int .i64 0, .int .i64 0, .bool false, .bool false] 72 (0, 0)) (ub_ BK445.out) NB445_0.out (by simp)); have n1_ := am_ (KeepBut.trans (by repeat (first | (with_reducible first | exact HK.out | apply KeepBut.set_ | apply keep_drewN | apply keep_drew | apply keep_alloc | refine keep_far ?_ GW445.out _) | exact HK.out)) hk (.inl rfl)); have n2_ := am_ (hb); have n3_ := am_ (hi); clear BK445 HK HB HI0; have BK445 := n0_; have HK := n1_; have HB := n2_; have HI0 := n3_; clear n0_ n1_ n2_ n3_; (try clear hb); (try clear hb2); (try clear hk); (try clear hi)) | ((with_reducible refine gate_callee (f := 103) rfl ?_); refine goesL_ (some 12) rfl rfl Try.func103 (by kernel_rfl) rfl #[.pointer (some ⟨g, 0, none⟩), .int .i64 6] rfl ul_ ?_; (with_reducible refine (spec_l01Once.calls g s0_0 t453 t454 6 t455 t456 t457 w0 _ ?side1 ?side2 A5.out).mono ?_); (case side1 => exact us1_ HI0.out); (case side2 => repeat (first | (with_reducible first | exact HB.out | apply below_alloc | apply pw_below_drewN | apply below_drew1 | refine below_set ?_ (IsS155.ge HI0.out) | refine below_set ?_ GE445.out) | exact HB.out)); rintro e w12 ⟨rfl, hi, hb, hk⟩; refine ⟨_, rfl, ?_⟩; have n0_ := am_ (KeepBut.blk hk (g' := gb445) (o := .cells #[.int .i64 0, .int .i64 0, .int .i64 0, .bool false, .bool false] 72 (0, 0)) (ub_ BK445.out) NB445_0.out (by simp)); have n1_ := am_ (KeepBut.trans (by repeat (first | (with_reducible first | exact HK.out | apply KeepBut.set_ | apply keep_drewN | apply keep_drew | apply keep_alloc | refine keep_far ?_ GW445.out _) | exact HK.out)) hk (.inl rfl)); have n2_ := am_ (hb); have n3_ := am_ (hi); clear BK445 HK HB HI0; have BK445 := n0_; have HK := n1_; have HB := n2_; have HI0 := n3_; clear n0_ n1_ n2_ n3_; (try clear hb); (try clear hb2); (try clear hk); (try clear hi)) | ((with_reducible refine gate_dst (N := 3) rfl ?_); refine box_event ?hg (N := 3) ?hd (cs := #[.int .i64 0, .int .i64 0, .int .i64 0, .bool false, .bool false]) (t := 72) ?hr ?_; (case hd => rfl); (case hg => rfl); (case hr => first | (go_simp; done) | (go_simp; rfl)); intro gb458 hg w13 hbox hb; have n0_ := am_ (IsS155.below (us1_ HI0.out) hb); have n1_ := am_ (bb_ BK445.out hb); have n2_ := am_ (KeepBut.trans (by repeat (first | (with_reducible first | exact HK.out | apply KeepBut.set_ | apply keep_drewN | apply keep_drew | apply keep_alloc | refine keep_far ?_ GW445.out _) | exact HK.out)) (KeepBut.of_below hb g none) (.inl rfl)); have n3_ := am_ (below_step (by repeat (first | (with_reducible first | exact HB.out | apply below_alloc | apply pw_below_drewN | apply below_drew1 | refine below_set ?_ (IsS155.ge HI0.out) | refine below_set ?_ GE445.out) | exact HB.out)) hb); have n4_ := am_ (hbox); have n5_ := am_ ((by rw [hg]; exact (keep_size (w := w) (g := g) (row := none) (by repeat (first | (with_reducible first | exact HK.out | apply KeepBut.set_ | apply keep_drewN | apply keep_drew | apply keep_alloc | refine keep_far ?_ GW445.out _) | exact HK.out))) : w.heap.size ≤ gb458)); have n6_ := am_ ((Nat.le_trans HW0.out (by rw [hg]; exact (keep_size (w := w) (g := g) (row := none) (by repeat (first | (with_reducible first | exact HK.out | apply KeepBut.set_ | apply keep_drewN | apply keep_drew | apply keep_alloc | refine keep_far ?_ GW445.out _) | exact HK.out))) : w.heap.size ≤ gb458) : w0.heap.size ≤ gb458)); have n7_ := am_ ((by rw [hg]; exact Nat.ne_of_lt (bl_ BK445.out) : gb445 ≠ gb458)); have n8_ := am_ ((by rw [hg]; exact Nat.ne_of_gt (bl_ BK445.out) : gb458 ≠ gb445)); have n9_ := am_ ((by rw [hg]; exact Nat.ne_of_lt (IsS155.lt (show IsS155 w0 _ g s0_0 t456 t457 from us1_ HI0.out)) : g ≠ gb458)); have n10_ := am_ ((by rw [hg]; exact Nat.ne_of_gt (IsS155.lt (show IsS155 w0 _ g s0_0 t456 t457 from us1_ HI0.out)) : gb458 ≠ g)); clear HI0 BK445 HK HB; have HI0 := n0_; have BK445 := n1_; have HK := n2_; have HB := n3_; have BK458 := n4_; have GW458 := n5_; have GE458 := n6_; have NB445_458 := n7_; have NB458_445 := n8_; have NB0_458 := n9_; have NB458_0 := n10_; clear n0_ n1_ n2_ n3_ n4_ n5_ n6_ n7_ n8_ n9_ n10_; clear hb hbox hg; have hnb14 := NB458_445.out; have hnc14 := NB445_458.out; have hnb15 := NB458_0.out; have hnc15 := NB0_458.out; obtain ⟨hcz16_0, hcz16_1, hcz16_2, hcz16_3, hcz16_4⟩ := cb5_ BK458.out; obtain ⟨hfz16_0, hfz16_1, hfz16_2, hfz16_3⟩ := bf4_ BK458.out; have hfz16_4 := blk_frozen BK458.out 4) | ((with_reducible refine gate_store (t := 72) (p := 3) rfl ?_); refine store_event (t := 72) (p := 3) (v := ?vo_w17) (w1 := (((((w13.setCell ⟨gb458, 0, none⟩ (.int .i64 (wrap64 (t446 - 1)))).setCell ⟨gb458, 1, none⟩ (.int .i64 0)).setCell ⟨gb458, 2, none⟩ (.int .i64 t449)).setCell ⟨gb458, 3, none⟩ (.bool t452)).setCell ⟨gb458, 4, none⟩ (.bool (!t455)))) ?hg ?ho ?hn ?hr ?_; (case ho => rfl); (case hg => rfl); (case hn => rfl); (case hr => first | (go_simp; done) | (go_simp; rfl)); intro w17 hw; have n0_ : Aside0 (w17.heap[gb445]? = some (.cells #[.int .i64 0, .int .i64 0, .int .i64 0, .bool false, .bool false] 72 (0, 0))) := ⟨(by rw [hw]; exact (uf_ BK445.out))⟩; have n1_ : Aside0 (w17.heap[gb458]? = some (.cells #[.int .i64 (wrap64 (t446 - 1)), .int .i64 0, .int .i64 t449, .bool t452, .bool (!t455)] 72 (0, 0))) := ⟨(by rw [hw]; exact (by (with_reducible repeat first|apply bn_|apply bd_|apply ba_); refine blk_put (cs := #[.int .i64 (wrap64 (t446 - 1)), .int .i64 0, .int .i64 t449, .bool t452, .bool false]) ?_ 4 _ rfl; refine blk_put (cs := #[.int .i64 (wrap64 (t446 - 1)), .int .i64 0, .int .i64 t449, .bool false, .bool false]) ?_ 3 _ rfl; refine blk_put (cs := #[.int .i64 (wrap64 (t446 - 1)), .int .i64 0, .int .i64 0, .bool false, .bool false]) ?_ 2 _ rfl; refine blk_put (cs := #[.int .i64 (wrap64 (t446 - 1)), .int .i64 0, .int .i64 0, .bool false, .bool false]) ?_ 1 _ rfl; refine blk_put (cs := #[.int .i64 0, .int .i64 0, .int .i64 0, .bool false, .bool false]) ?_ 0 _ rfl; (with_reducible repeat first|apply bn_|apply bd_|apply ba_); exact BK458.out))⟩; have n2_ : Aside0 (IsS155 w0 w17 g s0_0 t456 t457) := ⟨(by rw [hw]; exact (us1_ HI0.out))⟩; have n3_ : Aside0 (KeepBut w w17 g none) := ⟨(by rw [hw]; exact (by repeat (first | (with_reducible first | exact HK.out | apply KeepBut.set_ | apply keep_drewN | apply keep_drew | apply keep_alloc | refine keep_far ?_ GW445.out _ | refine keep_far ?_ GW458.out _) | exact HK.out)))⟩; have n4_ : Aside0 (Below w0.heap.size w0 w17) := ⟨(by rw [hw]; exact (by repeat (first | (with_reducible first | exact HB.out | apply below_alloc | apply pw_below_drewN | apply below_drew1 | refine below_set ?_ (IsS155.ge HI0.out) | refine below_set ?_ GE445.out | refine below_set ?_ GE458.out) | exact HB.out)))⟩; clear hw BK445 BK458 HI0 HK HB; have BK445 := n0_; have BK458 := n1_; have HI0 := n2_; have HK := n3_; have HB := n4_; clear n0_ n1_ n2_ n3_ n4_))
 have n0_ := am_ (blk_drew BK445.out)
 have n1_ := am_ (blk_drew BK458.out)
 have n2_ := am_ (IsS155.drew HI0.out)
 have n3_ := am_ (keep_drew HK.out)
 have n4_ := am_ (below_drew1 HB.out)
 clear BK445
 clear BK458
 clear HI0
 clear HK
 clear HB
 have BK445 := n0_
 have BK458 := n1_
 have HI0 := n2_
 have HK := n3_
 have HB := n4_
 clear n0_ n1_ n2_ n3_ n4_
 refine start_ (n := 7) (S := fun w' => w'.cell? ⟨gb458, 0, none⟩ = some (.int .i64 (wrap64 (t446 - 1))) ∧ w'.cell? ⟨gb458, 1, none⟩ = some (.int .i64 0) ∧ w'.cell? ⟨gb458, 2, none⟩ = some (.int .i64 t449) ∧ w'.cell? ⟨gb458, 3, none⟩ = some (.bool t452) ∧ w'.cell? ⟨gb458, 4, none⟩ = some (.bool (!t455))) (ds := [6]) #[false, false, false, false, false, false, false] (by kernel_rfl) rfl rfl ⟨(blk_cell BK458.out 0).trans rfl, (blk_cell BK458.out 1).trans rfl, (blk_cell BK458.out 2).trans rfl, (blk_cell BK458.out 3).trans rfl, (blk_cell BK458.out 4).trans rfl⟩ (fun hHeld => ?_)
 generalize w17.drew = w18 at BK445 BK458 HI0 HK HB hHeld ⊢
 refine pure_ (i := 0) (N := some 15) (v := ?_) (a' := ?_) #[true, false, false, false, false, false, false] rfl rfl (by kernel_rfl) (fun _ _ _ h => h) (Or.inl ⟨by rfl, ?_⟩) ?_ ?_
 rotate_left
 ·
  intro w'
  go_simp
  with_reducible rfl
 rotate_left
 ·
  simp only [Act.put, List.setIfInBounds_toArray, List.set_cons_zero, List.set_cons_succ, i64_w, i32_w]
  rfl
 refine pure_ (i := 2) (N := some 17) (v := ?_) (a' := ?_) #[true, false, true, false, false, false, false] rfl rfl (by kernel_rfl) (fun _ _ _ h => h) (Or.inl ⟨by rfl, ?_⟩) ?_ ?_
 rotate_left
 ·
  intro w'
  go_simp
  with_reducible rfl
 rotate_left
 ·
  simp only [Act.put, List.setIfInBounds_toArray, List.set_cons_zero, List.set_cons_succ, i64_w, i32_w]
  rfl
 refine take_ (i := 1) (N := some 16) (v := ?_) (a' := ?_) #[true, true, true, false, false, false, false] rfl rfl (by kernel_rfl) (fun _ _ _ h => h) (Or.inl ⟨by rfl, ?_⟩) hHeld ?_ ?_
 rotate_left
 ·
  rintro w' ⟨s0, s1, s2, s3, s4⟩
  go_simp
  with_reducible rfl
 rotate_left
 ·
  simp only [Act.put, List.setIfInBounds_toArray, List.set_cons_zero, List.set_cons_succ, i64_w, i32_w]
  rfl
 refine one_ (i := 3) (N := some 18) #[true, true, true, true, false, false, false] rfl rfl (by kernel_rfl) (by decide) (fun K hK => ?_)
 refine goes_ Try.func101 (by kernel_rfl) rfl #[.pointer (some ⟨g, 0, none⟩), .int .i64 10] (by rfl) rfl rfl ul_ ?_
 with_reducible refine (spec_l01Below.calls g s0_0 t456 t457 10 t459 t460 t461 w0 _ ?side1 ?side2 A6.out).mono ?_
 (case side1 => exact us1_ HI0.out)
 (case side2 => repeat (first | (with_reducible first | exact HB.out | apply below_alloc | apply pw_below_drewN | apply below_drew1 | refine below_set ?_ (IsS155.ge HI0.out) | refine below_set ?_ GE445.out | refine below_set ?_ GE458.out) | exact HB.out))
 rintro e w19 ⟨rfl, hi, hb, hk⟩
 refine ⟨_, rfl, ?_⟩
 have n0_ := am_ (KeepBut.blk hk (g' := gb445) (o := .cells #[.int .i64 0, .int .i64 0, .int .i64 0, .bool false, .bool false] 72 (0, 0)) (ub_ BK445.out) NB445_0.out (by simp))
 have n1_ := am_ (KeepBut.blk hk (g' := gb458) (o := .cells #[.int .i64 (wrap64 (t446 - 1)), .int .i64 0, .int .i64 t449, .bool t452, .bool (!t455)] 72 (0, 0)) (ub_ BK458.out) NB458_0.out (by simp))
 have n2_ := am_ (KeepBut.trans (by repeat (first | (with_reducible first | exact HK.out | apply KeepBut.set_ | apply keep_drewN | apply keep_drew | apply keep_alloc | refine keep_far ?_ GW445.out _ | refine keep_far ?_ GW458.out _) | exact HK.out)) hk (.inl rfl))
 have n3_ := am_ (hb)
 have n4_ := am_ (hi)
 clear BK445
 clear BK458
 clear HK
 clear HB
 clear HI0
 have BK445 := n0_
 have BK458 := n1_
 have HK := n2_
 have HB := n3_
 have HI0 := n4_
 clear n0_ n1_ n2_ n3_ n4_
 (try clear hb)
 (try clear hb2)
 (try clear hk)
 (try clear hi)
 refine hK.out _ _ ⟨(blk_cell BK458.out 0).trans rfl, (blk_cell BK458.out 1).trans rfl, (blk_cell BK458.out 2).trans rfl, (blk_cell BK458.out 3).trans rfl, (blk_cell BK458.out 4).trans rfl⟩ (fun hHeld => ?_)
 clear hK K
 refine norm_ (a' := ?_) ?_ ?_
 rotate_left
 ·
  show Act.put _ (some 18) _ = _
  simp only [Act.put, List.setIfInBounds_toArray, List.set_cons_zero, List.set_cons_succ, i64_w, i32_w]
  rfl
 refine pure_ (i := 4) (N := some 19) (v := ?_) (a' := ?_) #[true, true, true, true, true, false, false] rfl rfl (by kernel_rfl) (fun _ _ _ h => h) (Or.inl ⟨by rfl, ?_⟩) ?_ ?_
 rotate_left
 ·
  intro w'
  go_simp
  with_reducible rfl
 rotate_left
 ·
  simp only [Act.put, List.setIfInBounds_toArray, List.set_cons_zero, List.set_cons_succ, i64_w, i32_w]
  rfl
 refine pure_ (i := 5) (N := some 20) (v := ?_) (a' := ?_) #[true, true, true, true, true, true, false] rfl rfl (by kernel_rfl) (fun _ _ _ h => h) (Or.inl ⟨by rfl, ?_⟩) ?_ ?_
 rotate_left
 ·
  intro w'
  go_simp
  with_reducible rfl
 rotate_left
 ·
  simp only [Act.put, List.setIfInBounds_toArray, List.set_cons_zero, List.set_cons_succ, i64_w, i32_w]
  rfl
 refine last_ (i := 6) (N := none) #[true, true, true, true, true, true, true] rfl rfl (by kernel_rfl) (by decide) (fun K hK => ?_)
 have hs20 := cb_ BK458.out 1 rfl
 have hfs20 := blk_frozen BK458.out 1
 have hns20_0 := NB445_458.out
 have hms20_0 := NB458_445.out
 refine skip_ (w1 := ?_) (by rfl) rfl ?_ ?_
 rotate_left
 ·
  go_simp
  rfl
 refine hK.out _ _ ?_
 clear hK K
 refine done_ (by kernel_rfl) ?_
 have hcz21_0 := cb_ BK458.out 0 rfl
 have hcz21_1 := cb_ BK458.out 1 rfl
 have hcz21_2 := cb_ BK458.out 2 rfl
 have hcz21_3 := cb_ BK458.out 3 rfl
 have hcz21_4 := cb_ BK458.out 4 rfl
 have hfz21_0 := blk_frozen BK458.out 0
 have hfz21_1 := blk_frozen BK458.out 1
 have hfz21_2 := blk_frozen BK458.out 2
 have hfz21_3 := blk_frozen BK458.out 3
 have hfz21_4 := blk_frozen BK458.out 4
 go_upto_if 23 with (fail)
 go_cut [] (fun wc => ∃ (kq : Nat) (x459001_6 : Int), Aside0 (spec_l04DrawSource.j0 kq s0_0 t460 t461 (wrap64 (t446 - 1)) x459001_6 t449 t452 (!t455) = some (r1, r2, r3, r4, r5, r6, r7)) ∧ Aside0 (kq ≤ k) ∧ Aside0 (wc.heap[gb445]? = some (.cells #[.int .i64 0, .int .i64 0, .int .i64 0, .bool false, .bool false] 72 (0, 0))) ∧ Aside0 (wc.heap[gb458]? = some (.cells #[.int .i64 (wrap64 (t446 - 1)), .int .i64 x459001_6, .int .i64 t449, .bool t452, .bool (!t455)] 72 (0, 0))) ∧ Aside0 (IsS155 w0 wc g s0_0 t460 t461) ∧ Aside0 (KeepBut w wc g none) ∧ Aside0 (Below w0.heap.size w0 wc))
 case first =>
  have H := HC7.out
  clear HC7
  by_cases c22 : (wrap64 ((wrap64 (t446 - 1)) - t459)) < (-1)
  ·
   rw [if_pos c22] at H
   have c22b0 : decide ((wrap64 ((wrap64 (t446 - 1)) - t459)) < (-1)) = true := decide_eq_true c22
   clear c22
   (first | rw [c22b0] | (simp only [i64_w, i32_w]; rw [c22b0]) | skip)
   have H' := Aside0.mk H
   clear H
   have hnb23 := NB458_445.out
   have hnc23 := NB445_458.out
   have hnb24 := NB458_0.out
   have hnc24 := NB0_458.out
   have hcz25_0 := cb_ BK458.out 0 rfl
   have hcz25_1 := cb_ BK458.out 1 rfl
   have hcz25_2 := cb_ BK458.out 2 rfl
   have hcz25_3 := cb_ BK458.out 3 rfl
   have hcz25_4 := cb_ BK458.out 4 rfl
   have hfz25_0 := blk_frozen BK458.out 0
   have hfz25_1 := blk_frozen BK458.out 1
   have hfz25_2 := blk_frozen BK458.out 2
   have hfz25_3 := blk_frozen BK458.out 3
   have hfz25_4 := blk_frozen BK458.out 4
   go_wp2_with (first | ((with_reducible refine gate_store (t := 3) (p := 24) rfl ?_); refine store_event (t := 3) (p := 24) (v := ?vo_w26) (w1 := ((w19.setCell ⟨gb458, 1, none⟩ (.int .i64 (wrap64 ((wrap64 (t446 - 1)) - t459)))).setCell ⟨gb458, 1, none⟩ (.int .i64 (-1)))) ?hg ?ho ?hn ?hr ?_; (case ho => rfl); (case hg => rfl); (case hn => rfl); (case hr => first | (go_simp; done) | (go_simp; rfl)); intro w26 hw; have n0_ : Aside0 (w26.heap[gb445]? = some (.cells #[.int .i64 0, .int .i64 0, .int .i64 0, .bool false, .bool false] 72 (0, 0))) := ⟨(by rw [hw]; exact (uf_ BK445.out))⟩; have n1_ : Aside0 (w26.heap[gb458]? = some (.cells #[.int .i64 (wrap64 (t446 - 1)), .int .i64 (-1), .int .i64 t449, .bool t452, .bool (!t455)] 72 (0, 0))) := ⟨(by rw [hw]; exact (by (with_reducible repeat first|apply bn_|apply bd_|apply ba_); refine blk_put (cs := #[.int .i64 (wrap64 (t446 - 1)), .int .i64 (wrap64 ((wrap64 (t446 - 1)) - t459)), .int .i64 t449, .bool t452, .bool (!t455)]) ?_ 1 _ rfl; refine blk_put (cs := #[.int .i64 (wrap64 (t446 - 1)), .int .i64 0, .int .i64 t449, .bool t452, .bool (!t455)]) ?_ 1 _ rfl; (with_reducible repeat first|apply bn_|apply bd_|apply ba_); exact BK458.out))⟩; have n2_ : Aside0 (IsS155 w0 w26 g s0_0 t460 t461) := ⟨(by rw [hw]; exact (us1_ HI0.out))⟩; have n3_ : Aside0 (KeepBut w w26 g none) := ⟨(by rw [hw]; exact (by repeat (first | (with_reducible first | exact HK.out | apply KeepBut.set_ | apply keep_drewN | apply keep_drew | apply keep_alloc | refine keep_far ?_ GW445.out _ | refine keep_far ?_ GW458.out _) | exact HK.out)))⟩; have n4_ : Aside0 (Below w0.heap.size w0 w26) := ⟨(by rw [hw]; exact (by repeat (first | (with_reducible first | exact HB.out | apply below_alloc | apply pw_below_drewN | apply below_drew1 | refine below_set ?_ (IsS155.ge HI0.out) | refine below_set ?_ GE445.out | refine below_set ?_ GE458.out) | exact HB.out)))⟩; clear hw BK445 BK458 HI0 HK HB; have BK445 := n0_; have BK458 := n1_; have HI0 := n2_; have HK := n3_; have HB := n4_; clear n0_ n1_ n2_ n3_ n4_))
   go_meet
   case rel => exact ⟨_, ((-1)), H', ⟨by first | omega | exact Nat.le_refl _⟩, ⟨by (with_reducible repeat first|apply bn_|apply bd_|apply ba_); exact BK445.out⟩, ⟨by (with_reducible repeat first|apply bn_|apply bd_|apply ba_); exact BK458.out⟩, ⟨us1_ HI0.out⟩, ⟨by repeat (first | (with_reducible first | exact HK.out | apply KeepBut.set_ | apply keep_drewN | apply keep_drew | apply keep_alloc | refine keep_far ?_ GW445.out _ | refine keep_far ?_ GW458.out _) | exact HK.out)⟩, ⟨by repeat (first | (with_reducible first | exact HB.out | apply below_alloc | apply pw_below_drewN | apply below_drew1 | refine below_set ?_ (IsS155.ge HI0.out) | refine below_set ?_ GE445.out | refine below_set ?_ GE458.out) | exact HB.out)⟩⟩
  ·
   rw [if_neg c22] at H
   have c22b0 : decide ((wrap64 ((wrap64 (t446 - 1)) - t459)) < (-1)) = false := decide_eq_false c22
   clear c22
   (first | rw [c22b0] | (simp only [i64_w, i32_w]; rw [c22b0]) | skip)
   have H' := Aside0.mk H
   clear H
   go_wp2
   go_meet
   case rel => exact ⟨_, (wrap64 ((wrap64 (t446 - 1)) - t459)), H', ⟨by first | omega | exact Nat.le_refl _⟩, ⟨by (with_reducible repeat first|apply bn_|apply bd_|apply ba_); refine blk_far ?_ NB445_458.out _; (with_reducible repeat first|apply bn_|apply bd_|apply ba_); exact BK445.out⟩, ⟨by (with_reducible repeat first|apply bn_|apply bd_|apply ba_); refine blk_put (cs := #[.int .i64 (wrap64 (t446 - 1)), .int .i64 0, .int .i64 t449, .bool t452, .bool (!t455)]) ?_ 1 _ rfl; (with_reducible repeat first|apply bn_|apply bd_|apply ba_); exact BK458.out⟩, ⟨us1_ HI0.out⟩, ⟨by repeat (first | (with_reducible first | exact HK.out | apply KeepBut.set_ | apply keep_drewN | apply keep_drew | apply keep_alloc | refine keep_far ?_ GW445.out _ | refine keep_far ?_ GW458.out _) | exact HK.out)⟩, ⟨by repeat (first | (with_reducible first | exact HB.out | apply below_alloc | apply pw_below_drewN | apply below_drew1 | refine below_set ?_ (IsS155.ge HI0.out) | refine below_set ?_ GE445.out | refine below_set ?_ GE458.out) | exact HB.out)⟩⟩
 case rest =>
  clear HC7
  try clear c1
  try clear c2
  try clear p2
  try clear p6
  try clear c10
  try clear c14
  try clear c15
  try clear c22
  try clear c22b0
  try clear c23
  try clear c24
  try clear hcz16_0
  try clear hcz16_1
  try clear hcz16_2
  try clear hcz16_3
  try clear hcz16_4
  try clear hcz21_0
  try clear hcz21_1
  try clear hcz21_2
  try clear hcz21_3
  try clear hcz21_4
  try clear hcz25_0
  try clear hcz25_1
  try clear hcz25_2
  try clear hcz25_3
  try clear hcz25_4
  try clear hfz16_0
  try clear hfz16_1
  try clear hfz16_2
  try clear hfz16_3
  try clear hfz16_4
  try clear hfz21_0
  try clear hfz21_1
  try clear hfz21_2
  try clear hfz21_3
  try clear hfz21_4
  try clear hfz25_0
  try clear hfz25_1
  try clear hfz25_2
  try clear hfz25_3
  try clear hfz25_4
  obtain ⟨kq, x459001_6, HA, HJ6, BK445, BK458, HI0, HK, HB⟩ := hcut
  cases kq with
  | zero => exact absurd HA.out (by simp [spec_l04DrawSource.j0])
  | succ kj6 =>
   have H := HA.out
   clear HA
   simp only [spec_l04DrawSource.j0] at H
   replace H := Option.bind_eq_some_iff.mp H
   obtain ⟨⟨t462, t463, t464⟩, A270, H⟩ := H
   replace H : (if t462 = true then ((spec_l01Below.f s0_0 t463 t464 3).bind fun bt465 => (if bt465.1 = 0 then ((spec_l01PickInt.f s0_0 bt465.2.1 bt465.2.2 (([(-2), 1000000, 1000001] : List Int))).bind fun bt471 => (some (bt471.1, x459001_6, t449, t452, (!t455), bt471.2.1, bt471.2.2))) else (if bt465.1 = 1 then ((spec_l01PickInt.f s0_0 bt465.2.1 bt465.2.2 (([(-2), 1000000, 1000001] : List Int))).bind fun bt477 => (some ((wrap64 (t446 - 1)), bt477.1, t449, t452, (!t455), bt477.2.1, bt477.2.2))) else (if bt465.1 = 2 then ((spec_l01PickInt.f s0_0 bt465.2.1 bt465.2.2 (([(-1), 1000000000, 1000000001] : List Int))).bind fun bt483 => (some ((wrap64 (t446 - 1)), x459001_6, bt483.1, t452, (!t455), bt483.2.1, bt483.2.2))) else (some ((wrap64 (t446 - 1)), x459001_6, t449, t452, (!t455), bt465.2.1, bt465.2.2)))))) else (some ((wrap64 (t446 - 1)), x459001_6, t449, t452, (!t455), t463, t464))) = some (r1, r2, r3, r4, r5, r6, r7) := H
   have A27 := Aside0.mk A270
   clear A270
   by_cases c28 : t462 = true
   ·
    subst c28
    have H1 : ((spec_l01Below.f s0_0 t463 t464 3).bind fun bt465 => (if bt465.1 = 0 then ((spec_l01PickInt.f s0_0 bt465.2.1 bt465.2.2 (([(-2), 1000000, 1000001] : List Int))).bind fun bt471 => (some (bt471.1, x459001_6, t449, t452, (!t455), bt471.2.1, bt471.2.2))) else (if bt465.1 = 1 then ((spec_l01PickInt.f s0_0 bt465.2.1 bt465.2.2 (([(-2), 1000000, 1000001] : List Int))).bind fun bt477 => (some ((wrap64 (t446 - 1)), bt477.1, t449, t452, (!t455), bt477.2.1, bt477.2.2))) else (if bt465.1 = 2 then ((spec_l01PickInt.f s0_0 bt465.2.1 bt465.2.2 (([(-1), 1000000000, 1000000001] : List Int))).bind fun bt483 => (some ((wrap64 (t446 - 1)), x459001_6, bt483.1, t452, (!t455), bt483.2.1, bt483.2.2))) else (some ((wrap64 (t446 - 1)), x459001_6, t449, t452, (!t455), bt465.2.1, bt465.2.2)))))) = some (r1, r2, r3, r4, r5, r6, r7) := by rw [if_pos rfl] at H; exact H
    clear H
    have H := H1
    clear H1
    replace H := Option.bind_eq_some_iff.mp H
    obtain ⟨⟨t465, t466, t467⟩, A290, H⟩ := H
    replace H : (if t465 = 0 then ((spec_l01PickInt.f s0_0 t466 t467 (([(-2), 1000000, 1000001] : List Int))).bind fun bt471 => (some (bt471.1, x459001_6, t449, t452, (!t455), bt471.2.1, bt471.2.2))) else (if t465 = 1 then ((spec_l01PickInt.f s0_0 t466 t467 (([(-2), 1000000, 1000001] : List Int))).bind fun bt477 => (some ((wrap64 (t446 - 1)), bt477.1, t449, t452, (!t455), bt477.2.1, bt477.2.2))) else (if t465 = 2 then ((spec_l01PickInt.f s0_0 t466 t467 (([(-1), 1000000000, 1000000001] : List Int))).bind fun bt483 => (some ((wrap64 (t446 - 1)), x459001_6, bt483.1, t452, (!t455), bt483.2.1, bt483.2.2))) else (some ((wrap64 (t446 - 1)), x459001_6, t449, t452, (!t455), t466, t467))))) = some (r1, r2, r3, r4, r5, r6, r7) := H
    have A29 := Aside0.mk A290
    clear A290
    by_cases c30 : t465 = 0
    ·
     rw [if_pos c30] at H
     have c30b0 : (t465 == 0) = true := beq_iff_eq.mpr c30
     have c30b1 : (t465 != 0) = false := bne_eq_false_iff_eq.mpr c30
     clear c30
     obtain ⟨y468, hy468⟩ : ∃ y_ : List Int, y_ = (([(-2), 1000000, 1000001] : List Int)) := ⟨_, rfl⟩
     replace H : ((spec_l01PickInt.f s0_0 t466 t467 y468).bind fun bt471 => (some (bt471.1, x459001_6, t449, t452, (!t455), bt471.2.1, bt471.2.2))) = some (r1, r2, r3, r4, r5, r6, r7) := by first | (rw [hy468]; with_reducible exact H) | (have H2_ := (Option.bind_some _ _).symm.trans H; rw [hy468]; with_reducible exact H2_) | (have H2_ := (Option.bind_some _ _).symm.trans H; with_reducible exact H2_) | with_reducible exact H | (rw [hy468]; exact H) | exact H
     have Ny468 := Aside0.mk hy468
     clear hy468
     replace H := Option.bind_eq_some_iff.mp H
     obtain ⟨⟨t471, t472, t473⟩, A310, H⟩ := H
     replace H : (some (t471, x459001_6, t449, t452, (!t455), t472, t473)) = some (r1, r2, r3, r4, r5, r6, r7) := H
     have A31 := Aside0.mk A310
     clear A310
     simp only [Option.some.injEq, Prod.mk.injEq] at H
     obtain ⟨rfl, rfl, rfl, rfl, rfl, rfl, rfl⟩ := H
     go_wp2_with (first | ((with_reducible refine gate_callee (f := 103) rfl ?_); refine goesL_ (some 26) rfl rfl Try.func103 (by kernel_rfl) rfl #[.pointer (some ⟨g, 0, none⟩), .int .i64 15] rfl ul_ ?_; (with_reducible refine (spec_l01Once.calls g s0_0 t460 t461 15 true t463 t464 w0 _ ?side1 ?side2 A27.out).mono ?_); (case side1 => exact us1_ HI0.out); (case side2 => repeat (first | (with_reducible first | exact HB.out | apply below_alloc | apply pw_below_drewN | apply below_drew1 | refine below_set ?_ (IsS155.ge HI0.out) | refine below_set ?_ GE445.out | refine below_set ?_ GE458.out) | exact HB.out)); rintro e w32 ⟨rfl, hi, hb, hk⟩; refine ⟨_, rfl, ?_⟩; have n0_ := am_ (KeepBut.blk hk (g' := gb445) (o := .cells #[.int .i64 0, .int .i64 0, .int .i64 0, .bool false, .bool false] 72 (0, 0)) (ub_ BK445.out) NB445_0.out (by simp)); have n1_ := am_ (KeepBut.blk hk (g' := gb458) (o := .cells #[.int .i64 (wrap64 (t446 - 1)), .int .i64 x459001_6, .int .i64 t449, .bool t452, .bool (!t455)] 72 (0, 0)) (ub_ BK458.out) NB458_0.out (by simp)); have n2_ := am_ (KeepBut.trans (by repeat (first | (with_reducible first | exact HK.out | apply KeepBut.set_ | apply keep_drewN | apply keep_drew | apply keep_alloc | refine keep_far ?_ GW445.out _ | refine keep_far ?_ GW458.out _) | exact HK.out)) hk (.inl rfl)); have n3_ := am_ (hb); have n4_ := am_ (hi); clear BK445 BK458 HK HB HI0; have BK445 := n0_; have BK458 := n1_; have HK := n2_; have HB := n3_; have HI0 := n4_; clear n0_ n1_ n2_ n3_ n4_; (try clear hb); (try clear hb2); (try clear hk); (try clear hi)) | ((with_reducible refine gate_callee (f := 101) rfl ?_); refine goesL_ (some 28) rfl rfl Try.func101 (by kernel_rfl) rfl #[.pointer (some ⟨g, 0, none⟩), .int .i64 3] rfl ul_ ?_; (with_reducible refine (spec_l01Below.calls g s0_0 t463 t464 3 t465 t466 t467 w0 _ ?side1 ?side2 A29.out).mono ?_); (case side1 => exact us1_ HI0.out); (case side2 => repeat (first | (with_reducible first | exact HB.out | apply below_alloc | apply pw_below_drewN | apply below_drew1 | refine below_set ?_ (IsS155.ge HI0.out) | refine below_set ?_ GE445.out | refine below_set ?_ GE458.out) | exact HB.out)); rintro e w33 ⟨rfl, hi, hb, hk⟩; refine ⟨_, rfl, ?_⟩; have n0_ := am_ (KeepBut.blk hk (g' := gb445) (o := .cells #[.int .i64 0, .int .i64 0, .int .i64 0, .bool false, .bool false] 72 (0, 0)) (ub_ BK445.out) NB445_0.out (by simp)); have n1_ := am_ (KeepBut.blk hk (g' := gb458) (o := .cells #[.int .i64 (wrap64 (t446 - 1)), .int .i64 x459001_6, .int .i64 t449, .bool t452, .bool (!t455)] 72 (0, 0)) (ub_ BK458.out) NB458_0.out (by simp)); have n2_ := am_ (KeepBut.trans (by repeat (first | (with_reducible first | exact HK.out | apply KeepBut.set_ | apply keep_drewN | apply keep_drew | apply keep_alloc | refine keep_far ?_ GW445.out _ | refine keep_far ?_ GW458.out _) | exact HK.out)) hk (.inl rfl)); have n3_ := am_ (hb); have n4_ := am_ (hi); clear BK445 BK458 HK HB HI0; have BK445 := n0_; have BK458 := n1_; have HK := n2_; have HB := n3_; have HI0 := n4_; clear n0_ n1_ n2_ n3_ n4_; (try clear hb); (try clear hb2); (try clear hk); (try clear hi)) | ((with_reducible refine gate_dst (N := 32) rfl ?_); refine Kd.R_lit (Kd.int .i64) _ 3 ?hg (N := 32) ?hd (xs := ([(-2), 1000000, 1000001] : List Int)) (inner := [.int .i64 (-2), .int .i64 1000000, .int .i64 1000001]) (ok := fun _ => True) (okp := fun _ => True) ?hr ?hp (fun _ hk => hk) trivial (Below.refl _ _) (Nat.le_refl _) (by simp) ?_; (case hd => rfl); (case hg => rfl); (case hr => first | (go_simp; done) | (go_simp; rfl)); (case hp => exact (Reps.one (show Kd.M (Kd.int .i64) _ _ _ (-2) [.int .i64 (-2)] from rfl) (Reps.one (show Kd.M (Kd.int .i64) _ _ _ 1000000 [.int .i64 1000000] from rfl) (Reps.one (show Kd.M (Kd.int .i64) _ _ _ 1000001 [.int .i64 1000001] from rfl) (Reps.none _ _))))); intro v469 w34 ho35 hb hg_ hnew_; clear hg_ hnew_; (first | rw [← Ny468.out] at ho35 | (simp only [Int.reduceToNat] at ho35; rw [← Ny468.out] at ho35)); have n0_ := am_ (Kd.R_lower ho35 (keep_size (w := w) (g := g) (row := none) (by repeat (first | (with_reducible first | exact HK.out | apply KeepBut.set_ | apply keep_drewN | apply keep_drew | apply keep_alloc | refine keep_far ?_ GW445.out _ | refine keep_far ?_ GW458.out _) | exact HK.out)))); have n1_ := am_ (bb_ BK445.out hb); have n2_ := am_ (bb_ BK458.out hb); have n3_ := am_ (IsS155.below (us1_ HI0.out) hb); have n4_ := am_ (KeepBut.trans (by repeat (first | (with_reducible first | exact HK.out | apply KeepBut.set_ | apply keep_drewN | apply keep_drew | apply keep_alloc | refine keep_far ?_ GW445.out _ | refine keep_far ?_ GW458.out _) | exact HK.out)) (KeepBut.of_below hb g none) (.inl rfl)); have n5_ := am_ (below_step (by repeat (first | (with_reducible first | exact HB.out | apply below_alloc | apply pw_below_drewN | apply below_drew1 | refine below_set ?_ (IsS155.ge HI0.out) | refine below_set ?_ GE445.out | refine below_set ?_ GE458.out) | exact HB.out)) hb); clear BK445 BK458 HI0 HK HB; have HO470 := n0_; have BK445 := n1_; have BK458 := n2_; have HI0 := n3_; have HK := n4_; have HB := n5_; clear n0_ n1_ n2_ n3_ n4_ n5_; clear hb ho35; obtain ⟨Ao36, co36, eo36⟩ := Kd.R_slice HO470.out; subst eo36) | ((with_reducible refine gate_callee (f := 104) rfl ?_); refine goesL_ (some 33) rfl rfl Try.func104 (by kernel_rfl) rfl #[.pointer (some ⟨g, 0, none⟩), .slice Ao36 y468.length co36] rfl ul_ ?_; (with_reducible refine (spec_l01PickInt.calls g s0_0 t466 t467 _ _ y468 t471 t472 t473 w0 _ ?side1 ?side2 ?side3 ?side4 ?side5 A31.out).mono ?_); (case side1 => exact us1_ HI0.out); (case side2 => repeat (first | (with_reducible first | exact HB.out | apply below_alloc | apply pw_below_drewN | apply below_drew1 | refine below_set ?_ (IsS155.ge HI0.out) | refine below_set ?_ GE445.out | refine below_set ?_ GE458.out) | exact HB.out)); (case side3 => repeat (first | exact (Kd.R_reads' HO470.out).2.2 | (with_reducible refine Kd.C_alloc ?_ _) | (with_reducible refine Kd.C_drewN ?_ _) | (with_reducible refine Kd.C_drew ?_))); (case side4 => exact (Kd.R_reads' HO470.out).2.1); (case side5 => exact far_slice (IsS155.own_ne HI0.out HO470.out (by decide))); rintro e w37 ⟨rfl, hi, hb, hk⟩; refine ⟨_, rfl, ?_⟩; have n0_ := am_ (KeepBut.blk hk (g' := gb445) (o := .cells #[.int .i64 0, .int .i64 0, .int .i64 0, .bool false, .bool false] 72 (0, 0)) (ub_ BK445.out) NB445_0.out (by simp)); have n1_ := am_ (KeepBut.blk hk (g' := gb458) (o := .cells #[.int .i64 (wrap64 (t446 - 1)), .int .i64 x459001_6, .int .i64 t449, .bool t452, .bool (!t455)] 72 (0, 0)) (ub_ BK458.out) NB458_0.out (by simp)); have n2_ := am_ (Kd.R_mono (Kd.R_keep (IsS155.apart (show IsS155 w0 _ g s0_0 t466 t467 from us1_ HI0.out) (ur_ HO470.out) (by decide)) hk (fun _ h => h.2)) (fun _ h => h.1)); have n3_ := am_ (KeepBut.trans (by repeat (first | (with_reducible first | exact HK.out | apply KeepBut.set_ | apply keep_drewN | apply keep_drew | apply keep_alloc | refine keep_far ?_ GW445.out _ | refine keep_far ?_ GW458.out _) | exact HK.out)) hk (.inl rfl)); have n4_ := am_ (hb); have n5_ := am_ (hi); clear BK445 BK458 HO470 HK HB HI0; have BK445 := n0_; have BK458 := n1_; have HO470 := n2_; have HK := n3_; have HB := n4_; have HI0 := n5_; clear n0_ n1_ n2_ n3_ n4_ n5_; (try clear hb); (try clear hb2); (try clear hk); (try clear hi); have hnb38 := NB458_445.out; have hnc38 := NB445_458.out; have hnb39 := NB458_0.out; have hnc39 := NB0_458.out; obtain ⟨hcz40_0, hcz40_1, hcz40_2, hcz40_3, hcz40_4⟩ := cb5_ BK458.out; obtain ⟨hfz40_0, hfz40_1, hfz40_2, hfz40_3⟩ := bf4_ BK458.out; have hfz40_4 := blk_frozen BK458.out 4) | ((with_reducible refine gate_store (t := 3) (p := 34) rfl ?_); refine store_event (t := 3) (p := 34) (v := ?vo_w41) (w1 := (w37.setCell ⟨gb458, 0, none⟩ (.int .i64 t471))) ?hg ?ho ?hn ?hr ?_; (case ho => rfl); (case hg => rfl); (case hn => rfl); (case hr => first | (go_simp; done) | (go_simp; rfl)); intro w41 hw; have n0_ : Aside0 (Kd.R (Kd.int .i64) 3 w41 w.heap.size (fun _ => True) (.slice Ao36 y468.length co36) y468) := ⟨(by rw [hw]; exact (by (with_reducible repeat (first | apply Kd.R_alloc | apply Kd.R_drewN | apply Kd.R_drew)); exact Kd.R_mono (Kd.R_far (p := ⟨gb458, 0, none⟩) (Kd.R_types HO470.out BK458.out (by decide)) (fun _ hk => by first | exact hk.2 | grind) (.int .i64 t471)) (fun _ hk => trivial)))⟩; have n1_ : Aside0 (w41.heap[gb445]? = some (.cells #[.int .i64 0, .int .i64 0, .int .i64 0, .bool false, .bool false] 72 (0, 0))) := ⟨(by rw [hw]; exact (uf_ BK445.out))⟩; have n2_ : Aside0 (w41.heap[gb458]? = some (.cells #[.int .i64 t471, .int .i64 x459001_6, .int .i64 t449, .bool t452, .bool (!t455)] 72 (0, 0))) := ⟨(by rw [hw]; exact (by (with_reducible repeat first|apply bn_|apply bd_|apply ba_); refine blk_put (cs := #[.int .i64 (wrap64 (t446 - 1)), .int .i64 x459001_6, .int .i64 t449, .bool t452, .bool (!t455)]) ?_ 0 _ rfl; (with_reducible repeat first|apply bn_|apply bd_|apply ba_); exact BK458.out))⟩; have n3_ : Aside0 (IsS155 w0 w41 g s0_0 t472 t473) := ⟨(by rw [hw]; exact (us1_ HI0.out))⟩; have n4_ : Aside0 (KeepBut w w41 g none) := ⟨(by rw [hw]; exact (by repeat (first | (with_reducible first | exact HK.out | apply KeepBut.set_ | apply keep_drewN | apply keep_drew | apply keep_alloc | refine keep_far ?_ GW445.out _ | refine keep_far ?_ GW458.out _) | exact HK.out)))⟩; have n5_ : Aside0 (Below w0.heap.size w0 w41) := ⟨(by rw [hw]; exact (by repeat (first | (with_reducible first | exact HB.out | apply below_alloc | apply pw_below_drewN | apply below_drew1 | refine below_set ?_ (IsS155.ge HI0.out) | refine below_set ?_ GE445.out | refine below_set ?_ GE458.out) | exact HB.out)))⟩; clear hw HO470 BK445 BK458 HI0 HK HB; have HO470 := n0_; have BK445 := n1_; have BK458 := n2_; have HI0 := n3_; have HK := n4_; have HB := n5_; clear n0_ n1_ n2_ n3_ n4_ n5_; obtain ⟨hcz42_0, hcz42_1, hcz42_2, hcz42_3, hcz42_4⟩ := cb5_ BK458.out; obtain ⟨hfz42_0, hfz42_1, hfz42_2, hfz42_3, hfz42_4⟩ := bf5_ BK458.out; have hnb43 := NB445_0.out; have hnc43 := NB0_445.out; obtain ⟨hcz44_0, hcz44_1, hcz44_2, hcz44_3, hcz44_4⟩ := cb5_ BK445.out; obtain ⟨hfz44_0, hfz44_1, hfz44_2, hfz44_3⟩ := bf4_ BK445.out; have hfz44_4 := blk_frozen BK445.out 4) | ((with_reducible refine gate_store (t := 72) (p := 2) rfl ?_); refine store_event (t := 72) (p := 2) (v := ?vo_w45) (w1 := (((((w41.setCell ⟨gb445, 0, none⟩ (.int .i64 t471)).setCell ⟨gb445, 1, none⟩ (.int .i64 x459001_6)).setCell ⟨gb445, 2, none⟩ (.int .i64 t449)).setCell ⟨gb445, 3, none⟩ (.bool t452)).setCell ⟨gb445, 4, none⟩ (.bool (!t455)))) ?hg ?ho ?hn ?hr ?_; (case ho => rfl); (case hg => rfl); (case hn => rfl); (case hr => first | (go_simp; done) | (go_simp; rfl)); intro w45 hw; have n0_ : Aside0 (Kd.R (Kd.int .i64) 3 w45 w.heap.size (fun _ => True) (.slice Ao36 y468.length co36) y468) := ⟨(by rw [hw]; exact (by (with_reducible repeat (first | apply Kd.R_alloc | apply Kd.R_drewN | apply Kd.R_drew)); exact Kd.R_mono (Kd.R_far (p := ⟨gb445, 4, none⟩) (Kd.R_far (p := ⟨gb445, 3, none⟩) (Kd.R_far (p := ⟨gb445, 2, none⟩) (Kd.R_far (p := ⟨gb445, 1, none⟩) (Kd.R_far (p := ⟨gb445, 0, none⟩) (Kd.R_types HO470.out BK445.out (by decide)) (fun _ hk => by first | exact hk.2 | grind) (.int .i64 t471)) (fun _ hk => by first | exact hk.2 | grind) (.int .i64 x459001_6)) (fun _ hk => by first | exact hk.2 | grind) (.int .i64 t449)) (fun _ hk => by first | exact hk.2 | grind) (.bool t452)) (fun _ hk => by first | exact hk.2 | grind) (.bool (!t455))) (fun _ hk => trivial)))⟩; have n1_ : Aside0 (w45.heap[gb445]? = some (.cells #[.int .i64 t471, .int .i64 x459001_6, .int .i64 t449, .bool t452, .bool (!t455)] 72 (0, 0))) := ⟨(by rw [hw]; exact (by (with_reducible repeat first|apply bn_|apply bd_|apply ba_); refine blk_put (cs := #[.int .i64 t471, .int .i64 x459001_6, .int .i64 t449, .bool t452, .bool false]) ?_ 4 _ rfl; refine blk_put (cs := #[.int .i64 t471, .int .i64 x459001_6, .int .i64 t449, .bool false, .bool false]) ?_ 3 _ rfl; refine blk_put (cs := #[.int .i64 t471, .int .i64 x459001_6, .int .i64 0, .bool false, .bool false]) ?_ 2 _ rfl; refine blk_put (cs := #[.int .i64 t471, .int .i64 0, .int .i64 0, .bool false, .bool false]) ?_ 1 _ rfl; refine blk_put (cs := #[.int .i64 0, .int .i64 0, .int .i64 0, .bool false, .bool false]) ?_ 0 _ rfl; (with_reducible repeat first|apply bn_|apply bd_|apply ba_); exact BK445.out))⟩; have n2_ : Aside0 (w45.heap[gb458]? = some (.cells #[.int .i64 t471, .int .i64 x459001_6, .int .i64 t449, .bool t452, .bool (!t455)] 72 (0, 0))) := ⟨(by rw [hw]; exact (uf_ BK458.out))⟩; have n3_ : Aside0 (IsS155 w0 w45 g s0_0 t472 t473) := ⟨(by rw [hw]; exact (us1_ HI0.out))⟩; have n4_ : Aside0 (KeepBut w w45 g none) := ⟨(by rw [hw]; exact (by repeat (first | (with_reducible first | exact HK.out | apply KeepBut.set_ | apply keep_drewN | apply keep_drew | apply keep_alloc | refine keep_far ?_ GW445.out _ | refine keep_far ?_ GW458.out _) | exact HK.out)))⟩; have n5_ : Aside0 (Below w0.heap.size w0 w45) := ⟨(by rw [hw]; exact (by repeat (first | (with_reducible first | exact HB.out | apply below_alloc | apply pw_below_drewN | apply below_drew1 | refine below_set ?_ (IsS155.ge HI0.out) | refine below_set ?_ GE445.out | refine below_set ?_ GE458.out) | exact HB.out)))⟩; clear hw HO470 BK445 BK458 HI0 HK HB; have HO470 := n0_; have BK445 := n1_; have BK458 := n2_; have HI0 := n3_; have HK := n4_; have HB := n5_; clear n0_ n1_ n2_ n3_ n4_ n5_))
     refine bodyPost_ret (results_cell_row rfl _ _ gb445 72 #[.int .i64 t471, .int .i64 x459001_6, .int .i64 t449, .bool t452, .bool (!t455)] (0, 0) _ rfl (ub_ BK445.out) Try.underlying72 rfl (by kernel_rfl)) rfl ?_
     exact ⟨ew_, us1_ HI0.out, by repeat (first | (with_reducible first | exact HB.out | apply below_alloc | apply pw_below_drewN | apply below_drew1 | refine below_set ?_ (IsS155.ge HI0.out) | refine below_set ?_ GE445.out | refine below_set ?_ GE458.out) | exact HB.out), by repeat (first | (with_reducible first | exact HK.out | apply KeepBut.set_ | apply keep_drewN | apply keep_drew | apply keep_alloc | refine keep_far ?_ GW445.out _ | refine keep_far ?_ GW458.out _) | exact HK.out)⟩
    ·
     rw [if_neg c30] at H
     have c30b0 : (t465 == 0) = false := beq_eq_false_iff_ne.mpr c30
     have c30b1 : (t465 != 0) = true := bne_iff_ne.mpr c30
     by_cases c46 : t465 = 1
     ·
      rw [if_pos c46] at H
      have c46b0 : (t465 == 1) = true := beq_iff_eq.mpr c46
      have c46b1 : (t465 != 1) = false := bne_eq_false_iff_eq.mpr c46
      clear c46
      obtain ⟨y474, hy474⟩ : ∃ y_ : List Int, y_ = (([(-2), 1000000, 1000001] : List Int)) := ⟨_, rfl⟩
      replace H : ((spec_l01PickInt.f s0_0 t466 t467 y474).bind fun bt477 => (some ((wrap64 (t446 - 1)), bt477.1, t449, t452, (!t455), bt477.2.1, bt477.2.2))) = some (r1, r2, r3, r4, r5, r6, r7) := by first | (rw [hy474]; with_reducible exact H) | (have H2_ := (Option.bind_some _ _).symm.trans H; rw [hy474]; with_reducible exact H2_) | (have H2_ := (Option.bind_some _ _).symm.trans H; with_reducible exact H2_) | with_reducible exact H | (rw [hy474]; exact H) | exact H
      have Ny474 := Aside0.mk hy474
      clear hy474
      replace H := Option.bind_eq_some_iff.mp H
      obtain ⟨⟨t477, t478, t479⟩, A470, H⟩ := H
      replace H : (some ((wrap64 (t446 - 1)), t477, t449, t452, (!t455), t478, t479)) = some (r1, r2, r3, r4, r5, r6, r7) := H
      have A47 := Aside0.mk A470
      clear A470
      simp only [Option.some.injEq, Prod.mk.injEq] at H
      obtain ⟨rfl, rfl, rfl, rfl, rfl, rfl, rfl⟩ := H
      go_wp2_with (first | ((with_reducible refine gate_callee (f := 103) rfl ?_); refine goesL_ (some 26) rfl rfl Try.func103 (by kernel_rfl) rfl #[.pointer (some ⟨g, 0, none⟩), .int .i64 15] rfl ul_ ?_; (with_reducible refine (spec_l01Once.calls g s0_0 t460 t461 15 true t463 t464 w0 _ ?side1 ?side2 A27.out).mono ?_); (case side1 => exact us1_ HI0.out); (case side2 => repeat (first | (with_reducible first | exact HB.out | apply below_alloc | apply pw_below_drewN | apply below_drew1 | refine below_set ?_ (IsS155.ge HI0.out) | refine below_set ?_ GE445.out | refine below_set ?_ GE458.out) | exact HB.out)); rintro e w48 ⟨rfl, hi, hb, hk⟩; refine ⟨_, rfl, ?_⟩; have n0_ := am_ (KeepBut.blk hk (g' := gb445) (o := .cells #[.int .i64 0, .int .i64 0, .int .i64 0, .bool false, .bool false] 72 (0, 0)) (ub_ BK445.out) NB445_0.out (by simp)); have n1_ := am_ (KeepBut.blk hk (g' := gb458) (o := .cells #[.int .i64 (wrap64 (t446 - 1)), .int .i64 x459001_6, .int .i64 t449, .bool t452, .bool (!t455)] 72 (0, 0)) (ub_ BK458.out) NB458_0.out (by simp)); have n2_ := am_ (KeepBut.trans (by repeat (first | (with_reducible first | exact HK.out | apply KeepBut.set_ | apply keep_drewN | apply keep_drew | apply keep_alloc | refine keep_far ?_ GW445.out _ | refine keep_far ?_ GW458.out _) | exact HK.out)) hk (.inl rfl)); have n3_ := am_ (hb); have n4_ := am_ (hi); clear BK445 BK458 HK HB HI0; have BK445 := n0_; have BK458 := n1_; have HK := n2_; have HB := n3_; have HI0 := n4_; clear n0_ n1_ n2_ n3_ n4_; (try clear hb); (try clear hb2); (try clear hk); (try clear hi)) | ((with_reducible refine gate_callee (f := 101) rfl ?_); refine goesL_ (some 28) rfl rfl Try.func101 (by kernel_rfl) rfl #[.pointer (some ⟨g, 0, none⟩), .int .i64 3] rfl ul_ ?_; (with_reducible refine (spec_l01Below.calls g s0_0 t463 t464 3 t465 t466 t467 w0 _ ?side1 ?side2 A29.out).mono ?_); (case side1 => exact us1_ HI0.out); (case side2 => repeat (first | (with_reducible first | exact HB.out | apply below_alloc | apply pw_below_drewN | apply below_drew1 | refine below_set ?_ (IsS155.ge HI0.out) | refine below_set ?_ GE445.out | refine below_set ?_ GE458.out) | exact HB.out)); rintro e w49 ⟨rfl, hi, hb, hk⟩; refine ⟨_, rfl, ?_⟩; have n0_ := am_ (KeepBut.blk hk (g' := gb445) (o := .cells #[.int .i64 0, .int .i64 0, .int .i64 0, .bool false, .bool false] 72 (0, 0)) (ub_ BK445.out) NB445_0.out (by simp)); have n1_ := am_ (KeepBut.blk hk (g' := gb458) (o := .cells #[.int .i64 (wrap64 (t446 - 1)), .int .i64 x459001_6, .int .i64 t449, .bool t452, .bool (!t455)] 72 (0, 0)) (ub_ BK458.out) NB458_0.out (by simp)); have n2_ := am_ (KeepBut.trans (by repeat (first | (with_reducible first | exact HK.out | apply KeepBut.set_ | apply keep_drewN | apply keep_drew | apply keep_alloc | refine keep_far ?_ GW445.out _ | refine keep_far ?_ GW458.out _) | exact HK.out)) hk (.inl rfl)); have n3_ := am_ (hb); have n4_ := am_ (hi); clear BK445 BK458 HK HB HI0; have BK445 := n0_; have BK458 := n1_; have HK := n2_; have HB := n3_; have HI0 := n4_; clear n0_ n1_ n2_ n3_ n4_; (try clear hb); (try clear hb2); (try clear hk); (try clear hi)) | ((with_reducible refine gate_dst (N := 38) rfl ?_); refine Kd.R_lit (Kd.int .i64) _ 3 ?hg (N := 38) ?hd (xs := ([(-2), 1000000, 1000001] : List Int)) (inner := [.int .i64 (-2), .int .i64 1000000, .int .i64 1000001]) (ok := fun _ => True) (okp := fun _ => True) ?hr ?hp (fun _ hk => hk) trivial (Below.refl _ _) (Nat.le_refl _) (by simp) ?_; (case hd => rfl); (case hg => rfl); (case hr => first | (go_simp; done) | (go_simp; rfl)); (case hp => exact (Reps.one (show Kd.M (Kd.int .i64) _ _ _ (-2) [.int .i64 (-2)] from rfl) (Reps.one (show Kd.M (Kd.int .i64) _ _ _ 1000000 [.int .i64 1000000] from rfl) (Reps.one (show Kd.M (Kd.int .i64) _ _ _ 1000001 [.int .i64 1000001] from rfl) (Reps.none _ _))))); intro v475 w50 ho51 hb hg_ hnew_; clear hg_ hnew_; (first | rw [← Ny474.out] at ho51 | (simp only [Int.reduceToNat] at ho51; rw [← Ny474.out] at ho51)); have n0_ := am_ (Kd.R_lower ho51 (keep_size (w := w) (g := g) (row := none) (by repeat (first | (with_reducible first | exact HK.out | apply KeepBut.set_ | apply keep_drewN | apply keep_drew | apply keep_alloc | refine keep_far ?_ GW445.out _ | refine keep_far ?_ GW458.out _) | exact HK.out)))); have n1_ := am_ (bb_ BK445.out hb); have n2_ := am_ (bb_ BK458.out hb); have n3_ := am_ (IsS155.below (us1_ HI0.out) hb); have n4_ := am_ (KeepBut.trans (by repeat (first | (with_reducible first | exact HK.out | apply KeepBut.set_ | apply keep_drewN | apply keep_drew | apply keep_alloc | refine keep_far ?_ GW445.out _ | refine keep_far ?_ GW458.out _) | exact HK.out)) (KeepBut.of_below hb g none) (.inl rfl)); have n5_ := am_ (below_step (by repeat (first | (with_reducible first | exact HB.out | apply below_alloc | apply pw_below_drewN | apply below_drew1 | refine below_set ?_ (IsS155.ge HI0.out) | refine below_set ?_ GE445.out | refine below_set ?_ GE458.out) | exact HB.out)) hb); clear BK445 BK458 HI0 HK HB; have HO476 := n0_; have BK445 := n1_; have BK458 := n2_; have HI0 := n3_; have HK := n4_; have HB := n5_; clear n0_ n1_ n2_ n3_ n4_ n5_; clear hb ho51; obtain ⟨Ao52, co52, eo52⟩ := Kd.R_slice HO476.out; subst eo52) | ((with_reducible refine gate_callee (f := 104) rfl ?_); refine goesL_ (some 39) rfl rfl Try.func104 (by kernel_rfl) rfl #[.pointer (some ⟨g, 0, none⟩), .slice Ao52 y474.length co52] rfl ul_ ?_; (with_reducible refine (spec_l01PickInt.calls g s0_0 t466 t467 _ _ y474 t477 t478 t479 w0 _ ?side1 ?side2 ?side3 ?side4 ?side5 A47.out).mono ?_); (case side1 => exact us1_ HI0.out); (case side2 => repeat (first | (with_reducible first | exact HB.out | apply below_alloc | apply pw_below_drewN | apply below_drew1 | refine below_set ?_ (IsS155.ge HI0.out) | refine below_set ?_ GE445.out | refine below_set ?_ GE458.out) | exact HB.out)); (case side3 => repeat (first | exact (Kd.R_reads' HO476.out).2.2 | (with_reducible refine Kd.C_alloc ?_ _) | (with_reducible refine Kd.C_drewN ?_ _) | (with_reducible refine Kd.C_drew ?_))); (case side4 => exact (Kd.R_reads' HO476.out).2.1); (case side5 => exact far_slice (IsS155.own_ne HI0.out HO476.out (by decide))); rintro e w53 ⟨rfl, hi, hb, hk⟩; refine ⟨_, rfl, ?_⟩; have n0_ := am_ (KeepBut.blk hk (g' := gb445) (o := .cells #[.int .i64 0, .int .i64 0, .int .i64 0, .bool false, .bool false] 72 (0, 0)) (ub_ BK445.out) NB445_0.out (by simp)); have n1_ := am_ (KeepBut.blk hk (g' := gb458) (o := .cells #[.int .i64 (wrap64 (t446 - 1)), .int .i64 x459001_6, .int .i64 t449, .bool t452, .bool (!t455)] 72 (0, 0)) (ub_ BK458.out) NB458_0.out (by simp)); have n2_ := am_ (Kd.R_mono (Kd.R_keep (IsS155.apart (show IsS155 w0 _ g s0_0 t466 t467 from us1_ HI0.out) (ur_ HO476.out) (by decide)) hk (fun _ h => h.2)) (fun _ h => h.1)); have n3_ := am_ (KeepBut.trans (by repeat (first | (with_reducible first | exact HK.out | apply KeepBut.set_ | apply keep_drewN | apply keep_drew | apply keep_alloc | refine keep_far ?_ GW445.out _ | refine keep_far ?_ GW458.out _) | exact HK.out)) hk (.inl rfl)); have n4_ := am_ (hb); have n5_ := am_ (hi); clear BK445 BK458 HO476 HK HB HI0; have BK445 := n0_; have BK458 := n1_; have HO476 := n2_; have HK := n3_; have HB := n4_; have HI0 := n5_; clear n0_ n1_ n2_ n3_ n4_ n5_; (try clear hb); (try clear hb2); (try clear hk); (try clear hi); have hnb54 := NB458_445.out; have hnc54 := NB445_458.out; have hnb55 := NB458_0.out; have hnc55 := NB0_458.out; obtain ⟨hcz56_0, hcz56_1, hcz56_2, hcz56_3, hcz56_4⟩ := cb5_ BK458.out; obtain ⟨hfz56_0, hfz56_1, hfz56_2, hfz56_3⟩ := bf4_ BK458.out; have hfz56_4 := blk_frozen BK458.out 4) | ((with_reducible refine gate_store (t := 3) (p := 40) rfl ?_); refine store_event (t := 3) (p := 40) (v := ?vo_w57) (w1 := (w53.setCell ⟨gb458, 1, none⟩ (.int .i64 t477))) ?hg ?ho ?hn ?hr ?_; (case ho => rfl); (case hg => rfl); (case hn => rfl); (case hr => first | (go_simp; done) | (go_simp; rfl)); intro w57 hw; have n0_ : Aside0 (Kd.R (Kd.int .i64) 3 w57 w.heap.size (fun _ => True) (.slice Ao52 y474.length co52) y474) := ⟨(by rw [hw]; exact (by (with_reducible repeat (first | apply Kd.R_alloc | apply Kd.R_drewN | apply Kd.R_drew)); exact Kd.R_mono (Kd.R_far (p := ⟨gb458, 1, none⟩) (Kd.R_types HO476.out BK458.out (by decide)) (fun _ hk => by first | exact hk.2 | grind) (.int .i64 t477)) (fun _ hk => trivial)))⟩; have n1_ : Aside0 (w57.heap[gb445]? = some (.cells #[.int .i64 0, .int .i64 0, .int .i64 0, .bool false, .bool false] 72 (0, 0))) := ⟨(by rw [hw]; exact (uf_ BK445.out))⟩; have n2_ : Aside0 (w57.heap[gb458]? = some (.cells #[.int .i64 (wrap64 (t446 - 1)), .int .i64 t477, .int .i64 t449, .bool t452, .bool (!t455)] 72 (0, 0))) := ⟨(by rw [hw]; exact (by (with_reducible repeat first|apply bn_|apply bd_|apply ba_); refine blk_put (cs := #[.int .i64 (wrap64 (t446 - 1)), .int .i64 x459001_6, .int .i64 t449, .bool t452, .bool (!t455)]) ?_ 1 _ rfl; (with_reducible repeat first|apply bn_|apply bd_|apply ba_); exact BK458.out))⟩; have n3_ : Aside0 (IsS155 w0 w57 g s0_0 t478 t479) := ⟨(by rw [hw]; exact (us1_ HI0.out))⟩; have n4_ : Aside0 (KeepBut w w57 g none) := ⟨(by rw [hw]; exact (by repeat (first | (with_reducible first | exact HK.out | apply KeepBut.set_ | apply keep_drewN | apply keep_drew | apply keep_alloc | refine keep_far ?_ GW445.out _ | refine keep_far ?_ GW458.out _) | exact HK.out)))⟩; have n5_ : Aside0 (Below w0.heap.size w0 w57) := ⟨(by rw [hw]; exact (by repeat (first | (with_reducible first | exact HB.out | apply below_alloc | apply pw_below_drewN | apply below_drew1 | refine below_set ?_ (IsS155.ge HI0.out) | refine below_set ?_ GE445.out | refine below_set ?_ GE458.out) | exact HB.out)))⟩; clear hw HO476 BK445 BK458 HI0 HK HB; have HO476 := n0_; have BK445 := n1_; have BK458 := n2_; have HI0 := n3_; have HK := n4_; have HB := n5_; clear n0_ n1_ n2_ n3_ n4_ n5_; obtain ⟨hcz58_0, hcz58_1, hcz58_2, hcz58_3, hcz58_4⟩ := cb5_ BK458.out; obtain ⟨hfz58_0, hfz58_1, hfz58_2, hfz58_3, hfz58_4⟩ := bf5_ BK458.out; have hnb59 := NB445_0.out; have hnc59 := NB0_445.out; obtain ⟨hcz60_0, hcz60_1, hcz60_2, hcz60_3, hcz60_4⟩ := cb5_ BK445.out; obtain ⟨hfz60_0, hfz60_1, hfz60_2, hfz60_3⟩ := bf4_ BK445.out; have hfz60_4 := blk_frozen BK445.out 4) | ((with_reducible refine gate_store (t := 72) (p := 2) rfl ?_); refine store_event (t := 72) (p := 2) (v := ?vo_w61) (w1 := (((((w57.setCell ⟨gb445, 0, none⟩ (.int .i64 (wrap64 (t446 - 1)))).setCell ⟨gb445, 1, none⟩ (.int .i64 t477)).setCell ⟨gb445, 2, none⟩ (.int .i64 t449)).setCell ⟨gb445, 3, none⟩ (.bool t452)).setCell ⟨gb445, 4, none⟩ (.bool (!t455)))) ?hg ?ho ?hn ?hr ?_; (case ho => rfl); (case hg => rfl); (case hn => rfl); (case hr => first | (go_simp; done) | (go_simp; rfl)); intro w61 hw; have n0_ : Aside0 (Kd.R (Kd.int .i64) 3 w61 w.heap.size (fun _ => True) (.slice Ao52 y474.length co52) y474) := ⟨(by rw [hw]; exact (by (with_reducible repeat (first | apply Kd.R_alloc | apply Kd.R_drewN | apply Kd.R_drew)); exact Kd.R_mono (Kd.R_far (p := ⟨gb445, 4, none⟩) (Kd.R_far (p := ⟨gb445, 3, none⟩) (Kd.R_far (p := ⟨gb445, 2, none⟩) (Kd.R_far (p := ⟨gb445, 1, none⟩) (Kd.R_far (p := ⟨gb445, 0, none⟩) (Kd.R_types HO476.out BK445.out (by decide)) (fun _ hk => by first | exact hk.2 | grind) (.int .i64 (wrap64 (t446 - 1)))) (fun _ hk => by first | exact hk.2 | grind) (.int .i64 t477)) (fun _ hk => by first | exact hk.2 | grind) (.int .i64 t449)) (fun _ hk => by first | exact hk.2 | grind) (.bool t452)) (fun _ hk => by first | exact hk.2 | grind) (.bool (!t455))) (fun _ hk => trivial)))⟩; have n1_ : Aside0 (w61.heap[gb445]? = some (.cells #[.int .i64 (wrap64 (t446 - 1)), .int .i64 t477, .int .i64 t449, .bool t452, .bool (!t455)] 72 (0, 0))) := ⟨(by rw [hw]; exact (by (with_reducible repeat first|apply bn_|apply bd_|apply ba_); refine blk_put (cs := #[.int .i64 (wrap64 (t446 - 1)), .int .i64 t477, .int .i64 t449, .bool t452, .bool false]) ?_ 4 _ rfl; refine blk_put (cs := #[.int .i64 (wrap64 (t446 - 1)), .int .i64 t477, .int .i64 t449, .bool false, .bool false]) ?_ 3 _ rfl; refine blk_put (cs := #[.int .i64 (wrap64 (t446 - 1)), .int .i64 t477, .int .i64 0, .bool false, .bool false]) ?_ 2 _ rfl; refine blk_put (cs := #[.int .i64 (wrap64 (t446 - 1)), .int .i64 0, .int .i64 0, .bool false, .bool false]) ?_ 1 _ rfl; refine blk_put (cs := #[.int .i64 0, .int .i64 0, .int .i64 0, .bool false, .bool false]) ?_ 0 _ rfl; (with_reducible repeat first|apply bn_|apply bd_|apply ba_); exact BK445.out))⟩; have n2_ : Aside0 (w61.heap[gb458]? = some (.cells #[.int .i64 (wrap64 (t446 - 1)), .int .i64 t477, .int .i64 t449, .bool t452, .bool (!t455)] 72 (0, 0))) := ⟨(by rw [hw]; exact (uf_ BK458.out))⟩; have n3_ : Aside0 (IsS155 w0 w61 g s0_0 t478 t479) := ⟨(by rw [hw]; exact (us1_ HI0.out))⟩; have n4_ : Aside0 (KeepBut w w61 g none) := ⟨(by rw [hw]; exact (by repeat (first | (with_reducible first | exact HK.out | apply KeepBut.set_ | apply keep_drewN | apply keep_drew | apply keep_alloc | refine keep_far ?_ GW445.out _ | refine keep_far ?_ GW458.out _) | exact HK.out)))⟩; have n5_ : Aside0 (Below w0.heap.size w0 w61) := ⟨(by rw [hw]; exact (by repeat (first | (with_reducible first | exact HB.out | apply below_alloc | apply pw_below_drewN | apply below_drew1 | refine below_set ?_ (IsS155.ge HI0.out) | refine below_set ?_ GE445.out | refine below_set ?_ GE458.out) | exact HB.out)))⟩; clear hw HO476 BK445 BK458 HI0 HK HB; have HO476 := n0_; have BK445 := n1_; have BK458 := n2_; have HI0 := n3_; have HK := n4_; have HB := n5_; clear n0_ n1_ n2_ n3_ n4_ n5_))
      refine bodyPost_ret (results_cell_row rfl _ _ gb445 72 #[.int .i64 (wrap64 (t446 - 1)), .int .i64 t477, .int .i64 t449, .bool t452, .bool (!t455)] (0, 0) _ rfl (ub_ BK445.out) Try.underlying72 rfl (by kernel_rfl)) rfl ?_
      exact ⟨ew_, us1_ HI0.out, by repeat (first | (with_reducible first | exact HB.out | apply below_alloc | apply pw_below_drewN | apply below_drew1 | refine below_set ?_ (IsS155.ge HI0.out) | refine below_set ?_ GE445.out | refine below_set ?_ GE458.out) | exact HB.out), by repeat (first | (with_reducible first | exact HK.out | apply KeepBut.set_ | apply keep_drewN | apply keep_drew | apply keep_alloc | refine keep_far ?_ GW445.out _ | refine keep_far ?_ GW458.out _) | exact HK.out)⟩
     ·
      rw [if_neg c46] at H
      have c46b0 : (t465 == 1) = false := beq_eq_false_iff_ne.mpr c46
      have c46b1 : (t465 != 1) = true := bne_iff_ne.mpr c46
      by_cases c62 : t465 = 2
      ·
       rw [if_pos c62] at H
       have c62b0 : (t465 == 2) = true := beq_iff_eq.mpr c62
       have c62b1 : (t465 != 2) = false := bne_eq_false_iff_eq.mpr c62
       clear c62
       obtain ⟨y480, hy480⟩ : ∃ y_ : List Int, y_ = (([(-1), 1000000000, 1000000001] : List Int)) := ⟨_, rfl⟩
       replace H : ((spec_l01PickInt.f s0_0 t466 t467 y480).bind fun bt483 => (some ((wrap64 (t446 - 1)), x459001_6, bt483.1, t452, (!t455), bt483.2.1, bt483.2.2))) = some (r1, r2, r3, r4, r5, r6, r7) := by first | (rw [hy480]; with_reducible exact H) | (have H2_ := (Option.bind_some _ _).symm.trans H; rw [hy480]; with_reducible exact H2_) | (have H2_ := (Option.bind_some _ _).symm.trans H; with_reducible exact H2_) | with_reducible exact H | (rw [hy480]; exact H) | exact H
       have Ny480 := Aside0.mk hy480
       clear hy480
       replace H := Option.bind_eq_some_iff.mp H
       obtain ⟨⟨t483, t484, t485⟩, A630, H⟩ := H
       replace H : (some ((wrap64 (t446 - 1)), x459001_6, t483, t452, (!t455), t484, t485)) = some (r1, r2, r3, r4, r5, r6, r7) := H
       have A63 := Aside0.mk A630
       clear A630
       simp only [Option.some.injEq, Prod.mk.injEq] at H
       obtain ⟨rfl, rfl, rfl, rfl, rfl, rfl, rfl⟩ := H
       go_wp2_with (first | ((with_reducible refine gate_callee (f := 103) rfl ?_); refine goesL_ (some 26) rfl rfl Try.func103 (by kernel_rfl) rfl #[.pointer (some ⟨g, 0, none⟩), .int .i64 15] rfl ul_ ?_; (with_reducible refine (spec_l01Once.calls g s0_0 t460 t461 15 true t463 t464 w0 _ ?side1 ?side2 A27.out).mono ?_); (case side1 => exact us1_ HI0.out); (case side2 => repeat (first | (with_reducible first | exact HB.out | apply below_alloc | apply pw_below_drewN | apply below_drew1 | refine below_set ?_ (IsS155.ge HI0.out) | refine below_set ?_ GE445.out | refine below_set ?_ GE458.out) | exact HB.out)); rintro e w64 ⟨rfl, hi, hb, hk⟩; refine ⟨_, rfl, ?_⟩; have n0_ := am_ (KeepBut.blk hk (g' := gb445) (o := .cells #[.int .i64 0, .int .i64 0, .int .i64 0, .bool false, .bool false] 72 (0, 0)) (ub_ BK445.out) NB445_0.out (by simp)); have n1_ := am_ (KeepBut.blk hk (g' := gb458) (o := .cells #[.int .i64 (wrap64 (t446 - 1)), .int .i64 x459001_6, .int .i64 t449, .bool t452, .bool (!t455)] 72 (0, 0)) (ub_ BK458.out) NB458_0.out (by simp)); have n2_ := am_ (KeepBut.trans (by repeat (first | (with_reducible first | exact HK.out | apply KeepBut.set_ | apply keep_drewN | apply keep_drew | apply keep_alloc | refine keep_far ?_ GW445.out _ | refine keep_far ?_ GW458.out _) | exact HK.out)) hk (.inl rfl)); have n3_ := am_ (hb); have n4_ := am_ (hi); clear BK445 BK458 HK HB HI0; have BK445 := n0_; have BK458 := n1_; have HK := n2_; have HB := n3_; have HI0 := n4_; clear n0_ n1_ n2_ n3_ n4_; (try clear hb); (try clear hb2); (try clear hk); (try clear hi)) | ((with_reducible refine gate_callee (f := 101) rfl ?_); refine goesL_ (some 28) rfl rfl Try.func101 (by kernel_rfl) rfl #[.pointer (some ⟨g, 0, none⟩), .int .i64 3] rfl ul_ ?_; (with_reducible refine (spec_l01Below.calls g s0_0 t463 t464 3 t465 t466 t467 w0 _ ?side1 ?side2 A29.out).mono ?_); (case side1 => exact us1_ HI0.out); (case side2 => repeat (first | (with_reducible first | exact HB.out | apply below_alloc | apply pw_below_drewN | apply below_drew1 | refine below_set ?_ (IsS155.ge HI0.out) | refine below_set ?_ GE445.out | refine below_set ?_ GE458.out) | exact HB.out)); rintro e w65 ⟨rfl, hi, hb, hk⟩; refine ⟨_, rfl, ?_⟩; have n0_ := am_ (KeepBut.blk hk (g' := gb445) (o := .cells #[.int .i64 0, .int .i64 0, .int .i64 0, .bool false, .bool false] 72 (0, 0)) (ub_ BK445.out) NB445_0.out (by simp)); have n1_ := am_ (KeepBut.blk hk (g' := gb458) (o := .cells #[.int .i64 (wrap64 (t446 - 1)), .int .i64 x459001_6, .int .i64 t449, .bool t452, .bool (!t455)] 72 (0, 0)) (ub_ BK458.out) NB458_0.out (by simp)); have n2_ := am_ (KeepBut.trans (by repeat (first | (with_reducible first | exact HK.out | apply KeepBut.set_ | apply keep_drewN | apply keep_drew | apply keep_alloc | refine keep_far ?_ GW445.out _ | refine keep_far ?_ GW458.out _) | exact HK.out)) hk (.inl rfl)); have n3_ := am_ (hb); have n4_ := am_ (hi); clear BK445 BK458 HK HB HI0; have BK445 := n0_; have BK458 := n1_; have HK := n2_; have HB := n3_; have HI0 := n4_; clear n0_ n1_ n2_ n3_ n4_; (try clear hb); (try clear hb2); (try clear hk); (try clear hi)) | ((with_reducible refine gate_dst (N := 44) rfl ?_); refine Kd.R_lit (Kd.int .i64) _ 3 ?hg (N := 44) ?hd (xs := ([(-1), 1000000000, 1000000001] : List Int)) (inner := [.int .i64 (-1), .int .i64 1000000000, .int .i64 1000000001]) (ok := fun _ => True) (okp := fun _ => True) ?hr ?hp (fun _ hk => hk) trivial (Below.refl _ _) (Nat.le_refl _) (by simp) ?_; (case hd => rfl); (case hg => rfl); (case hr => first | (go_simp; done) | (go_simp; rfl)); (case hp => exact (Reps.one (show Kd.M (Kd.int .i64) _ _ _ (-1) [.int .i64 (-1)] from rfl) (Reps.one (show Kd.M (Kd.int .i64) _ _ _ 1000000000 [.int .i64 1000000000] from rfl) (Reps.one (show Kd.M (Kd.int .i64) _ _ _ 1000000001 [.int .i64 1000000001] from rfl) (Reps.none _ _))))); intro v481 w66 ho67 hb hg_ hnew_; clear hg_ hnew_; (first | rw [← Ny480.out] at ho67 | (simp only [Int.reduceToNat] at ho67; rw [← Ny480.out] at ho67)); have n0_ := am_ (Kd.R_lower ho67 (keep_size (w := w) (g := g) (row := none) (by repeat (first | (with_reducible first | exact HK.out | apply KeepBut.set_ | apply keep_drewN | apply keep_drew | apply keep_alloc | refine keep_far ?_ GW445.out _ | refine keep_far ?_ GW458.out _) | exact HK.out)))); have n1_ := am_ (bb_ BK445.out hb); have n2_ := am_ (bb_ BK458.out hb); have n3_ := am_ (IsS155.below (us1_ HI0.out) hb); have n4_ := am_ (KeepBut.trans (by repeat (first | (with_reducible first | exact HK.out | apply KeepBut.set_ | apply keep_drewN | apply keep_drew | apply keep_alloc | refine keep_far ?_ GW445.out _ | refine keep_far ?_ GW458.out _) | exact HK.out)) (KeepBut.of_below hb g none) (.inl rfl)); have n5_ := am_ (below_step (by repeat (first | (with_reducible first | exact HB.out | apply below_alloc | apply pw_below_drewN | apply below_drew1 | refine below_set ?_ (IsS155.ge HI0.out) | refine below_set ?_ GE445.out | refine below_set ?_ GE458.out) | exact HB.out)) hb); clear BK445 BK458 HI0 HK HB; have HO482 := n0_; have BK445 := n1_; have BK458 := n2_; have HI0 := n3_; have HK := n4_; have HB := n5_; clear n0_ n1_ n2_ n3_ n4_ n5_; clear hb ho67; obtain ⟨Ao68, co68, eo68⟩ := Kd.R_slice HO482.out; subst eo68) | ((with_reducible refine gate_callee (f := 104) rfl ?_); refine goesL_ (some 45) rfl rfl Try.func104 (by kernel_rfl) rfl #[.pointer (some ⟨g, 0, none⟩), .slice Ao68 y480.length co68] rfl ul_ ?_; (with_reducible refine (spec_l01PickInt.calls g s0_0 t466 t467 _ _ y480 t483 t484 t485 w0 _ ?side1 ?side2 ?side3 ?side4 ?side5 A63.out).mono ?_); (case side1 => exact us1_ HI0.out); (case side2 => repeat (first | (with_reducible first | exact HB.out | apply below_alloc | apply pw_below_drewN | apply below_drew1 | refine below_set ?_ (IsS155.ge HI0.out) | refine below_set ?_ GE445.out | refine below_set ?_ GE458.out) | exact HB.out)); (case side3 => repeat (first | exact (Kd.R_reads' HO482.out).2.2 | (with_reducible refine Kd.C_alloc ?_ _) | (with_reducible refine Kd.C_drewN ?_ _) | (with_reducible refine Kd.C_drew ?_))); (case side4 => exact (Kd.R_reads' HO482.out).2.1); (case side5 => exact far_slice (IsS155.own_ne HI0.out HO482.out (by decide))); rintro e w69 ⟨rfl, hi, hb, hk⟩; refine ⟨_, rfl, ?_⟩; have n0_ := am_ (KeepBut.blk hk (g' := gb445) (o := .cells #[.int .i64 0, .int .i64 0, .int .i64 0, .bool false, .bool false] 72 (0, 0)) (ub_ BK445.out) NB445_0.out (by simp)); have n1_ := am_ (KeepBut.blk hk (g' := gb458) (o := .cells #[.int .i64 (wrap64 (t446 - 1)), .int .i64 x459001_6, .int .i64 t449, .bool t452, .bool (!t455)] 72 (0, 0)) (ub_ BK458.out) NB458_0.out (by simp)); have n2_ := am_ (Kd.R_mono (Kd.R_keep (IsS155.apart (show IsS155 w0 _ g s0_0 t466 t467 from us1_ HI0.out) (ur_ HO482.out) (by decide)) hk (fun _ h => h.2)) (fun _ h => h.1)); have n3_ := am_ (KeepBut.trans (by repeat (first | (with_reducible first | exact HK.out | apply KeepBut.set_ | apply keep_drewN | apply keep_drew | apply keep_alloc | refine keep_far ?_ GW445.out _ | refine keep_far ?_ GW458.out _) | exact HK.out)) hk (.inl rfl)); have n4_ := am_ (hb); have n5_ := am_ (hi); clear BK445 BK458 HO482 HK HB HI0; have BK445 := n0_; have BK458 := n1_; have HO482 := n2_; have HK := n3_; have HB := n4_; have HI0 := n5_; clear n0_ n1_ n2_ n3_ n4_ n5_; (try clear hb); (try clear hb2); (try clear hk); (try clear hi); have hnb70 := NB458_445.out; have hnc70 := NB445_458.out; have hnb71 := NB458_0.out; have hnc71 := NB0_458.out; obtain ⟨hcz72_0, hcz72_1, hcz72_2, hcz72_3, hcz72_4⟩ := cb5_ BK458.out; obtain ⟨hfz72_0, hfz72_1, hfz72_2, hfz72_3⟩ := bf4_ BK458.out; have hfz72_4 := blk_frozen BK458.out 4) | ((with_reducible refine gate_store (t := 3) (p := 46) rfl ?_); refine store_event (t := 3) (p := 46) (v := ?vo_w73) (w1 := (w69.setCell ⟨gb458, 2, none⟩ (.int .i64 t483))) ?hg ?ho ?hn ?hr ?_; (case ho => rfl); (case hg => rfl); (case hn => rfl); (case hr => first | (go_simp; done) | (go_simp; rfl)); intro w73 hw; have n0_ : Aside0 (Kd.R (Kd.int .i64) 3 w73 w.heap.size (fun _ => True) (.slice Ao68 y480.length co68) y480) := ⟨(by rw [hw]; exact (by (with_reducible repeat (first | apply Kd.R_alloc | apply Kd.R_drewN | apply Kd.R_drew)); exact Kd.R_mono (Kd.R_far (p := ⟨gb458, 2, none⟩) (Kd.R_types HO482.out BK458.out (by decide)) (fun _ hk => by first | exact hk.2 | grind) (.int .i64 t483)) (fun _ hk => trivial)))⟩; have n1_ : Aside0 (w73.heap[gb445]? = some (.cells #[.int .i64 0, .int .i64 0, .int .i64 0, .bool false, .bool false] 72 (0, 0))) := ⟨(by rw [hw]; exact (uf_ BK445.out))⟩; have n2_ : Aside0 (w73.heap[gb458]? = some (.cells #[.int .i64 (wrap64 (t446 - 1)), .int .i64 x459001_6, .int .i64 t483, .bool t452, .bool (!t455)] 72 (0, 0))) := ⟨(by rw [hw]; exact (by (with_reducible repeat first|apply bn_|apply bd_|apply ba_); refine blk_put (cs := #[.int .i64 (wrap64 (t446 - 1)), .int .i64 x459001_6, .int .i64 t449, .bool t452, .bool (!t455)]) ?_ 2 _ rfl; (with_reducible repeat first|apply bn_|apply bd_|apply ba_); exact BK458.out))⟩; have n3_ : Aside0 (IsS155 w0 w73 g s0_0 t484 t485) := ⟨(by rw [hw]; exact (us1_ HI0.out))⟩; have n4_ : Aside0 (KeepBut w w73 g none) := ⟨(by rw [hw]; exact (by repeat (first | (with_reducible first | exact HK.out | apply KeepBut.set_ | apply keep_drewN | apply keep_drew | apply keep_alloc | refine keep_far ?_ GW445.out _ | refine keep_far ?_ GW458.out _) | exact HK.out)))⟩; have n5_ : Aside0 (Below w0.heap.size w0 w73) := ⟨(by rw [hw]; exact (by repeat (first | (with_reducible first | exact HB.out | apply below_alloc | apply pw_below_drewN | apply below_drew1 | refine below_set ?_ (IsS155.ge HI0.out) | refine below_set ?_ GE445.out | refine below_set ?_ GE458.out) | exact HB.out)))⟩; clear hw HO482 BK445 BK458 HI0 HK HB; have HO482 := n0_; have BK445 := n1_; have BK458 := n2_; have HI0 := n3_; have HK := n4_; have HB := n5_; clear n0_ n1_ n2_ n3_ n4_ n5_; obtain ⟨hcz74_0, hcz74_1, hcz74_2, hcz74_3, hcz74_4⟩ := cb5_ BK458.out; obtain ⟨hfz74_0, hfz74_1, hfz74_2, hfz74_3, hfz74_4⟩ := bf5_ BK458.out; have hnb75 := NB445_0.out; have hnc75 := NB0_445.out; obtain ⟨hcz76_0, hcz76_1, hcz76_2, hcz76_3, hcz76_4⟩ := cb5_ BK445.out; obtain ⟨hfz76_0, hfz76_1, hfz76_2, hfz76_3⟩ := bf4_ BK445.out; have hfz76_4 := blk_frozen BK445.out 4) | ((with_reducible refine gate_store (t := 72) (p := 2) rfl ?_); refine store_event (t := 72) (p := 2) (v := ?vo_w77) (w1 := (((((w73.setCell ⟨gb445, 0, none⟩ (.int .i64 (wrap64 (t446 - 1)))).setCell ⟨gb445, 1, none⟩ (.int .i64 x459001_6)).setCell ⟨gb445, 2, none⟩ (.int .i64 t483)).setCell ⟨gb445, 3, none⟩ (.bool t452)).setCell ⟨gb445, 4, none⟩ (.bool (!t455)))) ?hg ?ho ?hn ?hr ?_; (case ho => rfl); (case hg => rfl); (case hn => rfl); (case hr => first | (go_simp; done) | (go_simp; rfl)); intro w77 hw; have n0_ : Aside0 (Kd.R (Kd.int .i64) 3 w77 w.heap.size (fun _ => True) (.slice Ao68 y480.length co68) y480) := ⟨(by rw [hw]; exact (by (with_reducible repeat (first | apply Kd.R_alloc | apply Kd.R_drewN | apply Kd.R_drew)); exact Kd.R_mono (Kd.R_far (p := ⟨gb445, 4, none⟩) (Kd.R_far (p := ⟨gb445, 3, none⟩) (Kd.R_far (p := ⟨gb445, 2, none⟩) (Kd.R_far (p := ⟨gb445, 1, none⟩) (Kd.R_far (p := ⟨gb445, 0, none⟩) (Kd.R_types HO482.out BK445.out (by decide)) (fun _ hk => by first | exact hk.2 | grind) (.int .i64 (wrap64 (t446 - 1)))) (fun _ hk => by first | exact hk.2 | grind) (.int .i64 x459001_6)) (fun _ hk => by first | exact hk.2 | grind) (.int .i64 t483)) (fun _ hk => by first | exact hk.2 | grind) (.bool t452)) (fun _ hk => by first | exact hk.2 | grind) (.bool (!t455))) (fun _ hk => trivial)))⟩; have n1_ : Aside0 (w77.heap[gb445]? = some (.cells #[.int .i64 (wrap64 (t446 - 1)), .int .i64 x459001_6, .int .i64 t483, .bool t452, .bool (!t455)] 72 (0, 0))) := ⟨(by rw [hw]; exact (by (with_reducible repeat first|apply bn_|apply bd_|apply ba_); refine blk_put (cs := #[.int .i64 (wrap64 (t446 - 1)), .int .i64 x459001_6, .int .i64 t483, .bool t452, .bool false]) ?_ 4 _ rfl; refine blk_put (cs := #[.int .i64 (wrap64 (t446 - 1)), .int .i64 x459001_6, .int .i64 t483, .bool false, .bool false]) ?_ 3 _ rfl; refine blk_put (cs := #[.int .i64 (wrap64 (t446 - 1)), .int .i64 x459001_6, .int .i64 0, .bool false, .bool false]) ?_ 2 _ rfl; refine blk_put (cs := #[.int .i64 (wrap64 (t446 - 1)), .int .i64 0, .int .i64 0, .bool false, .bool false]) ?_ 1 _ rfl; refine blk_put (cs := #[.int .i64 0, .int .i64 0, .int .i64 0, .bool false, .bool false]) ?_ 0 _ rfl; (with_reducible repeat first|apply bn_|apply bd_|apply ba_); exact BK445.out))⟩; have n2_ : Aside0 (w77.heap[gb458]? = some (.cells #[.int .i64 (wrap64 (t446 - 1)), .int .i64 x459001_6, .int .i64 t483, .bool t452, .bool (!t455)] 72 (0, 0))) := ⟨(by rw [hw]; exact (uf_ BK458.out))⟩; have n3_ : Aside0 (IsS155 w0 w77 g s0_0 t484 t485) := ⟨(by rw [hw]; exact (us1_ HI0.out))⟩; have n4_ : Aside0 (KeepBut w w77 g none) := ⟨(by rw [hw]; exact (by repeat (first | (with_reducible first | exact HK.out | apply KeepBut.set_ | apply keep_drewN | apply keep_drew | apply keep_alloc | refine keep_far ?_ GW445.out _ | refine keep_far ?_ GW458.out _) | exact HK.out)))⟩; have n5_ : Aside0 (Below w0.heap.size w0 w77) := ⟨(by rw [hw]; exact (by repeat (first | (with_reducible first | exact HB.out | apply below_alloc | apply pw_below_drewN | apply below_drew1 | refine below_set ?_ (IsS155.ge HI0.out) | refine below_set ?_ GE445.out | refine below_set ?_ GE458.out) | exact HB.out)))⟩; clear hw HO482 BK445 BK458 HI0 HK HB; have HO482 := n0_; have BK445 := n1_; have BK458 := n2_; have HI0 := n3_; have HK := n4_; have HB := n5_; clear n0_ n1_ n2_ n3_ n4_ n5_))
       refine bodyPost_ret (results_cell_row rfl _ _ gb445 72 #[.int .i64 (wrap64 (t446 - 1)), .int .i64 x459001_6, .int .i64 t483, .bool t452, .bool (!t455)] (0, 0) _ rfl (ub_ BK445.out) Try.underlying72 rfl (by kernel_rfl)) rfl ?_
       exact ⟨ew_, us1_ HI0.out, by repeat (first | (with_reducible first | exact HB.out | apply below_alloc | apply pw_below_drewN | apply below_drew1 | refine below_set ?_ (IsS155.ge HI0.out) | refine below_set ?_ GE445.out | refine below_set ?_ GE458.out) | exact HB.out), by repeat (first | (with_reducible first | exact HK.out | apply KeepBut.set_ | apply keep_drewN | apply keep_drew | apply keep_alloc | refine keep_far ?_ GW445.out _ | refine keep_far ?_ GW458.out _) | exact HK.out)⟩
      ·
       rw [if_neg c62] at H
       have c62b0 : (t465 == 2) = false := beq_eq_false_iff_ne.mpr c62
       have c62b1 : (t465 != 2) = true := bne_iff_ne.mpr c62
       simp only [Option.some.injEq, Prod.mk.injEq] at H
       obtain ⟨rfl, rfl, rfl, rfl, rfl, rfl, rfl⟩ := H
       go_wp2_with (first | ((with_reducible refine gate_callee (f := 103) rfl ?_); refine goesL_ (some 26) rfl rfl Try.func103 (by kernel_rfl) rfl #[.pointer (some ⟨g, 0, none⟩), .int .i64 15] rfl ul_ ?_; (with_reducible refine (spec_l01Once.calls g s0_0 t460 t461 15 true t463 t464 w0 _ ?side1 ?side2 A27.out).mono ?_); (case side1 => exact us1_ HI0.out); (case side2 => repeat (first | (with_reducible first | exact HB.out | apply below_alloc | apply pw_below_drewN | apply below_drew1 | refine below_set ?_ (IsS155.ge HI0.out) | refine below_set ?_ GE445.out | refine below_set ?_ GE458.out) | exact HB.out)); rintro e w78 ⟨rfl, hi, hb, hk⟩; refine ⟨_, rfl, ?_⟩; have n0_ := am_ (KeepBut.blk hk (g' := gb445) (o := .cells #[.int .i64 0, .int .i64 0, .int .i64 0, .bool false, .bool false] 72 (0, 0)) (ub_ BK445.out) NB445_0.out (by simp)); have n1_ := am_ (KeepBut.blk hk (g' := gb458) (o := .cells #[.int .i64 (wrap64 (t446 - 1)), .int .i64 x459001_6, .int .i64 t449, .bool t452, .bool (!t455)] 72 (0, 0)) (ub_ BK458.out) NB458_0.out (by simp)); have n2_ := am_ (KeepBut.trans (by repeat (first | (with_reducible first | exact HK.out | apply KeepBut.set_ | apply keep_drewN | apply keep_drew | apply keep_alloc | refine keep_far ?_ GW445.out _ | refine keep_far ?_ GW458.out _) | exact HK.out)) hk (.inl rfl)); have n3_ := am_ (hb); have n4_ := am_ (hi); clear BK445 BK458 HK HB HI0; have BK445 := n0_; have BK458 := n1_; have HK := n2_; have HB := n3_; have HI0 := n4_; clear n0_ n1_ n2_ n3_ n4_; (try clear hb); (try clear hb2); (try clear hk); (try clear hi)) | ((with_reducible refine gate_callee (f := 101) rfl ?_); refine goesL_ (some 28) rfl rfl Try.func101 (by kernel_rfl) rfl #[.pointer (some ⟨g, 0, none⟩), .int .i64 3] rfl ul_ ?_; (with_reducible refine (spec_l01Below.calls g s0_0 t463 t464 3 t465 t466 t467 w0 _ ?side1 ?side2 A29.out).mono ?_); (case side1 => exact us1_ HI0.out); (case side2 => repeat (first | (with_reducible first | exact HB.out | apply below_alloc | apply pw_below_drewN | apply below_drew1 | refine below_set ?_ (IsS155.ge HI0.out) | refine below_set ?_ GE445.out | refine below_set ?_ GE458.out) | exact HB.out)); rintro e w79 ⟨rfl, hi, hb, hk⟩; refine ⟨_, rfl, ?_⟩; have n0_ := am_ (KeepBut.blk hk (g' := gb445) (o := .cells #[.int .i64 0, .int .i64 0, .int .i64 0, .bool false, .bool false] 72 (0, 0)) (ub_ BK445.out) NB445_0.out (by simp)); have n1_ := am_ (KeepBut.blk hk (g' := gb458) (o := .cells #[.int .i64 (wrap64 (t446 - 1)), .int .i64 x459001_6, .int .i64 t449, .bool t452, .bool (!t455)] 72 (0, 0)) (ub_ BK458.out) NB458_0.out (by simp)); have n2_ := am_ (KeepBut.trans (by repeat (first | (with_reducible first | exact HK.out | apply KeepBut.set_ | apply keep_drewN | apply keep_drew | apply keep_alloc | refine keep_far ?_ GW445.out _ | refine keep_far ?_ GW458.out _) | exact HK.out)) hk (.inl rfl)); have n3_ := am_ (hb); have n4_ := am_ (hi); clear BK445 BK458 HK HB HI0; have BK445 := n0_; have BK458 := n1_; have HK := n2_; have HB := n3_; have HI0 := n4_; clear n0_ n1_ n2_ n3_ n4_; (try clear hb); (try clear hb2); (try clear hk); (try clear hi); have hnb80 := NB458_445.out; have hnc80 := NB445_458.out; have hnb81 := NB458_0.out; have hnc81 := NB0_458.out; obtain ⟨hcz82_0, hcz82_1, hcz82_2, hcz82_3, hcz82_4⟩ := cb5_ BK458.out; obtain ⟨hfz82_0, hfz82_1, hfz82_2, hfz82_3, hfz82_4⟩ := bf5_ BK458.out; have hnb83 := NB445_0.out; have hnc83 := NB0_445.out; obtain ⟨hcz84_0, hcz84_1, hcz84_2, hcz84_3, hcz84_4⟩ := cb5_ BK445.out; obtain ⟨hfz84_0, hfz84_1, hfz84_2, hfz84_3⟩ := bf4_ BK445.out; have hfz84_4 := blk_frozen BK445.out 4) | ((with_reducible refine gate_store (t := 72) (p := 2) rfl ?_); refine store_event (t := 72) (p := 2) (v := ?vo_w85) (w1 := (((((w79.setCell ⟨gb445, 0, none⟩ (.int .i64 (wrap64 (t446 - 1)))).setCell ⟨gb445, 1, none⟩ (.int .i64 x459001_6)).setCell ⟨gb445, 2, none⟩ (.int .i64 t449)).setCell ⟨gb445, 3, none⟩ (.bool t452)).setCell ⟨gb445, 4, none⟩ (.bool (!t455)))) ?hg ?ho ?hn ?hr ?_; (case ho => rfl); (case hg => rfl); (case hn => rfl); (case hr => first | (go_simp; done) | (go_simp; rfl)); intro w85 hw; have n0_ : Aside0 (w85.heap[gb445]? = some (.cells #[.int .i64 (wrap64 (t446 - 1)), .int .i64 x459001_6, .int .i64 t449, .bool t452, .bool (!t455)] 72 (0, 0))) := ⟨(by rw [hw]; exact (by (with_reducible repeat first|apply bn_|apply bd_|apply ba_); refine blk_put (cs := #[.int .i64 (wrap64 (t446 - 1)), .int .i64 x459001_6, .int .i64 t449, .bool t452, .bool false]) ?_ 4 _ rfl; refine blk_put (cs := #[.int .i64 (wrap64 (t446 - 1)), .int .i64 x459001_6, .int .i64 t449, .bool false, .bool false]) ?_ 3 _ rfl; refine blk_put (cs := #[.int .i64 (wrap64 (t446 - 1)), .int .i64 x459001_6, .int .i64 0, .bool false, .bool false]) ?_ 2 _ rfl; refine blk_put (cs := #[.int .i64 (wrap64 (t446 - 1)), .int .i64 0, .int .i64 0, .bool false, .bool false]) ?_ 1 _ rfl; refine blk_put (cs := #[.int .i64 0, .int .i64 0, .int .i64 0, .bool false, .bool false]) ?_ 0 _ rfl; (with_reducible repeat first|apply bn_|apply bd_|apply ba_); exact BK445.out))⟩; have n1_ : Aside0 (w85.heap[gb458]? = some (.cells #[.int .i64 (wrap64 (t446 - 1)), .int .i64 x459001_6, .int .i64 t449, .bool t452, .bool (!t455)] 72 (0, 0))) := ⟨(by rw [hw]; exact (uf_ BK458.out))⟩; have n2_ : Aside0 (IsS155 w0 w85 g s0_0 t466 t467) := ⟨(by rw [hw]; exact (us1_ HI0.out))⟩; have n3_ : Aside0 (KeepBut w w85 g none) := ⟨(by rw [hw]; exact (by repeat (first | (with_reducible first | exact HK.out | apply KeepBut.set_ | apply keep_drewN | apply keep_drew | apply keep_alloc | refine keep_far ?_ GW445.out _ | refine keep_far ?_ GW458.out _) | exact HK.out)))⟩; have n4_ : Aside0 (Below w0.heap.size w0 w85) := ⟨(by rw [hw]; exact (by repeat (first | (with_reducible first | exact HB.out | apply below_alloc | apply pw_below_drewN | apply below_drew1 | refine below_set ?_ (IsS155.ge HI0.out) | refine below_set ?_ GE445.out | refine below_set ?_ GE458.out) | exact HB.out)))⟩; clear hw BK445 BK458 HI0 HK HB; have BK445 := n0_; have BK458 := n1_; have HI0 := n2_; have HK := n3_; have HB := n4_; clear n0_ n1_ n2_ n3_ n4_))
       refine bodyPost_ret (results_cell_row rfl _ _ gb445 72 #[.int .i64 (wrap64 (t446 - 1)), .int .i64 x459001_6, .int .i64 t449, .bool t452, .bool (!t455)] (0, 0) _ rfl (ub_ BK445.out) Try.underlying72 rfl (by kernel_rfl)) rfl ?_
       exact ⟨ew_, us1_ HI0.out, by repeat (first | (with_reducible first | exact HB.out | apply below_alloc | apply pw_below_drewN | apply below_drew1 | refine below_set ?_ (IsS155.ge HI0.out) | refine below_set ?_ GE445.out | refine below_set ?_ GE458.out) | exact HB.out), by repeat (first | (with_reducible first | exact HK.out | apply KeepBut.set_ | apply keep_drewN | apply keep_drew | apply keep_alloc | refine keep_far ?_ GW445.out _ | refine keep_far ?_ GW458.out _) | exact HK.out)⟩
   ·
    replace c28 := Bool.eq_false_iff.mpr c28
    subst c28
    have H1 : (some ((wrap64 (t446 - 1)), x459001_6, t449, t452, (!t455), t463, t464)) = some (r1, r2, r3, r4, r5, r6, r7) := by rw [if_neg (show ¬ (false = true) by decide)] at H; exact H
    clear H
    have H := H1
    clear H1
    simp only [Option.some.injEq, Prod.mk.injEq] at H
    obtain ⟨rfl, rfl, rfl, rfl, rfl, rfl, rfl⟩ := H
    go_wp2_with (first | ((with_reducible refine gate_callee (f := 103) rfl ?_); refine goesL_ (some 26) rfl rfl Try.func103 (by kernel_rfl) rfl #[.pointer (some ⟨g, 0, none⟩), .int .i64 15] rfl ul_ ?_; (with_reducible refine (spec_l01Once.calls g s0_0 t460 t461 15 false t463 t464 w0 _ ?side1 ?side2 A27.out).mono ?_); (case side1 => exact us1_ HI0.out); (case side2 => repeat (first | (with_reducible first | exact HB.out | apply below_alloc | apply pw_below_drewN | apply below_drew1 | refine below_set ?_ (IsS155.ge HI0.out) | refine below_set ?_ GE445.out | refine below_set ?_ GE458.out) | exact HB.out)); rintro e w86 ⟨rfl, hi, hb, hk⟩; refine ⟨_, rfl, ?_⟩; have n0_ := am_ (KeepBut.blk hk (g' := gb445) (o := .cells #[.int .i64 0, .int .i64 0, .int .i64 0, .bool false, .bool false] 72 (0, 0)) (ub_ BK445.out) NB445_0.out (by simp)); have n1_ := am_ (KeepBut.blk hk (g' := gb458) (o := .cells #[.int .i64 (wrap64 (t446 - 1)), .int .i64 x459001_6, .int .i64 t449, .bool t452, .bool (!t455)] 72 (0, 0)) (ub_ BK458.out) NB458_0.out (by simp)); have n2_ := am_ (KeepBut.trans (by repeat (first | (with_reducible first | exact HK.out | apply KeepBut.set_ | apply keep_drewN | apply keep_drew | apply keep_alloc | refine keep_far ?_ GW445.out _ | refine keep_far ?_ GW458.out _) | exact HK.out)) hk (.inl rfl)); have n3_ := am_ (hb); have n4_ := am_ (hi); clear BK445 BK458 HK HB HI0; have BK445 := n0_; have BK458 := n1_; have HK := n2_; have HB := n3_; have HI0 := n4_; clear n0_ n1_ n2_ n3_ n4_; (try clear hb); (try clear hb2); (try clear hk); (try clear hi); have hnb87 := NB458_445.out; have hnc87 := NB445_458.out; have hnb88 := NB458_0.out; have hnc88 := NB0_458.out; obtain ⟨hcz89_0, hcz89_1, hcz89_2, hcz89_3, hcz89_4⟩ := cb5_ BK458.out; obtain ⟨hfz89_0, hfz89_1, hfz89_2, hfz89_3, hfz89_4⟩ := bf5_ BK458.out; have hnb90 := NB445_0.out; have hnc90 := NB0_445.out; obtain ⟨hcz91_0, hcz91_1, hcz91_2, hcz91_3, hcz91_4⟩ := cb5_ BK445.out; obtain ⟨hfz91_0, hfz91_1, hfz91_2, hfz91_3⟩ := bf4_ BK445.out; have hfz91_4 := blk_frozen BK445.out 4) | ((with_reducible refine gate_store (t := 72) (p := 2) rfl ?_); refine store_event (t := 72) (p := 2) (v := ?vo_w92) (w1 := (((((w86.setCell ⟨gb445, 0, none⟩ (.int .i64 (wrap64 (t446 - 1)))).setCell ⟨gb445, 1, none⟩ (.int .i64 x459001_6)).setCell ⟨gb445, 2, none⟩ (.int .i64 t449)).setCell ⟨gb445, 3, none⟩ (.bool t452)).setCell ⟨gb445, 4, none⟩ (.bool (!t455)))) ?hg ?ho ?hn ?hr ?_; (case ho => rfl); (case hg => rfl); (case hn => rfl); (case hr => first | (go_simp; done) | (go_simp; rfl)); intro w92 hw; have n0_ : Aside0 (w92.heap[gb445]? = some (.cells #[.int .i64 (wrap64 (t446 - 1)), .int .i64 x459001_6, .int .i64 t449, .bool t452, .bool (!t455)] 72 (0, 0))) := ⟨(by rw [hw]; exact (by (with_reducible repeat first|apply bn_|apply bd_|apply ba_); refine blk_put (cs := #[.int .i64 (wrap64 (t446 - 1)), .int .i64 x459001_6, .int .i64 t449, .bool t452, .bool false]) ?_ 4 _ rfl; refine blk_put (cs := #[.int .i64 (wrap64 (t446 - 1)), .int .i64 x459001_6, .int .i64 t449, .bool false, .bool false]) ?_ 3 _ rfl; refine blk_put (cs := #[.int .i64 (wrap64 (t446 - 1)), .int .i64 x459001_6, .int .i64 0, .bool false, .bool false]) ?_ 2 _ rfl; refine blk_put (cs := #[.int .i64 (wrap64 (t446 - 1)), .int .i64 0, .int .i64 0, .bool false, .bool false]) ?_ 1 _ rfl; refine blk_put (cs := #[.int .i64 0, .int .i64 0, .int .i64 0, .bool false, .bool false]) ?_ 0 _ rfl; (with_reducible repeat first|apply bn_|apply bd_|apply ba_); exact BK445.out))⟩; have n1_ : Aside0 (w92.heap[gb458]? = some (.cells #[.int .i64 (wrap64 (t446 - 1)), .int .i64 x459001_6, .int .i64 t449, .bool t452, .bool (!t455)] 72 (0, 0))) := ⟨(by rw [hw]; exact (uf_ BK458.out))⟩; have n2_ : Aside0 (IsS155 w0 w92 g s0_0 t463 t464) := ⟨(by rw [hw]; exact (us1_ HI0.out))⟩; have n3_ : Aside0 (KeepBut w w92 g none) := ⟨(by rw [hw]; exact (by repeat (first | (with_reducible first | exact HK.out | apply KeepBut.set_ | apply keep_drewN | apply keep_drew | apply keep_alloc | refine keep_far ?_ GW445.out _ | refine keep_far ?_ GW458.out _) | exact HK.out)))⟩; have n4_ : Aside0 (Below w0.heap.size w0 w92) := ⟨(by rw [hw]; exact (by repeat (first | (with_reducible first | exact HB.out | apply below_alloc | apply pw_below_drewN | apply below_drew1 | refine below_set ?_ (IsS155.ge HI0.out) | refine below_set ?_ GE445.out | refine below_set ?_ GE458.out) | exact HB.out)))⟩; clear hw BK445 BK458 HI0 HK HB; have BK445 := n0_; have BK458 := n1_; have HI0 := n2_; have HK := n3_; have HB := n4_; clear n0_ n1_ n2_ n3_ n4_))
    refine bodyPost_ret (results_cell_row rfl _ _ gb445 72 #[.int .i64 (wrap64 (t446 - 1)), .int .i64 x459001_6, .int .i64 t449, .bool t452, .bool (!t455)] (0, 0) _ rfl (ub_ BK445.out) Try.underlying72 rfl (by kernel_rfl)) rfl ?_
    exact ⟨ew_, us1_ HI0.out, by repeat (first | (with_reducible first | exact HB.out | apply below_alloc | apply pw_below_drewN | apply below_drew1 | refine below_set ?_ (IsS155.ge HI0.out) | refine below_set ?_ GE445.out | refine below_set ?_ GE458.out) | exact HB.out), by repeat (first | (with_reducible first | exact HK.out | apply KeepBut.set_ | apply keep_drewN | apply keep_drew | apply keep_alloc | refine keep_far ?_ GW445.out _ | refine keep_far ?_ GW458.out _) | exact HK.out)⟩

/-! ### spec_DrawAllMarks: function 65 -/
mutual
def spec_DrawAllMarks.l0 : Nat → List (S72) → Int → List Int → Int → Int → Option ((List (S72)) × Int)
 | 0, _, _, _, _, _ => none
 | k + 1, x5, x6, x490000, x490001, x490002 => if x6 > 0 then ((spec_l04DrawSource.f k x490000 x490001 x490002).bind fun bt496 => (if x5.length < 4398046511104 then (spec_DrawAllMarks.l0 k (x5 ++ [(⟨bt496.1, bt496.2.1, bt496.2.2.1, bt496.2.2.2.1, bt496.2.2.2.2.1⟩ : S72)]) (wrap64 (x6 - 1)) x490000 bt496.2.2.2.2.2.1 bt496.2.2.2.2.2.2) else (none))) else ((spec_l01Once.f x490000 x490001 x490002 40).bind fun bt506 => (if bt506.1 = true then (spec_DrawAllMarks.l1 k x5 x490000 bt506.2.1 bt506.2.2) else ((spec_l01Below.f x490000 bt506.2.1 bt506.2.2 40).bind fun bt524 => ((spec_l01PickInt.f x490000 bt524.2.1 bt524.2.2 (([(-1), 0, bt524.1, 1000000, 1000001, (-2)] : List Int))).bind fun bt530 => (some (x5, bt530.1))))))
def spec_DrawAllMarks.l1 : Nat → List (S72) → List Int → Int → Int → Option ((List (S72)) × Int)
 | 0, _, _, _, _ => none
 | k + 1, x5, x490000, x490001, x490002 => (spec_l01Below.f x490000 x490001 x490002 2).bind fun bt509 => (if (x5.length : Int) < (wrap64 (300 + bt509.1)) then (if x5.length < 4398046511104 then (spec_DrawAllMarks.l1 k (x5 ++ [(⟨0, 5, 0, false, true⟩ : S72)]) x490000 bt509.2.1 bt509.2.2) else (none)) else ((spec_l01Below.f x490000 bt509.2.1 bt509.2.2 40).bind fun bt515 => ((spec_l01PickInt.f x490000 bt515.2.1 bt515.2.2 (([(-1), 0, bt515.1, 1000000, 1000001, (-2)] : List Int))).bind fun bt521 => (some (x5, bt521.1)))))
end
def spec_DrawAllMarks.f (k : Nat) (l0 : List Int) : Option ((List (S72)) × Int) := (spec_l01New.f k l0).bind fun bt486 => ((spec_l01Below.f bt486.1 bt486.2.1 bt486.2.2 5).bind fun bt493 => (spec_DrawAllMarks.l0 k (([] : List (S72))) bt493.1 bt486.1 bt493.2.1 bt493.2.2))
theorem spec_DrawAllMarks.mono_l : ∀ k, (∀ y0 y1 y2 y3 y4, LeO (spec_DrawAllMarks.l0 k y0 y1 y2 y3 y4) (spec_DrawAllMarks.l0 (k + 1) y0 y1 y2 y3 y4)) ∧ (∀ y0 y1 y2 y3, LeO (spec_DrawAllMarks.l1 k y0 y1 y2 y3) (spec_DrawAllMarks.l1 (k + 1) y0 y1 y2 y3))
 | 0 => ⟨fun _ _ _ _ _ r h => by simp [spec_DrawAllMarks.l0] at h, fun _ _ _ _ r h => by simp [spec_DrawAllMarks.l1] at h⟩
 | k + 1 => by
  obtain ⟨ih0, ih1⟩ := spec_DrawAllMarks.mono_l k
  refine ⟨?_, ?_⟩
  ·
   intro y0 y1 y2 y3 y4
   unfold spec_DrawAllMarks.l0
   repeat' first
   | (with_reducible exact ih0 _ _ _ _ _)
   | (with_reducible exact ih1 _ _ _ _)
   | (with_reducible exact spec_l01New.mono _ _)
   | (with_reducible exact spec_l04DrawSource.mono _ _ _ _)
   | (with_reducible exact LeO.refl _)
   | (with_reducible exact LeO.none _)
   | (with_reducible refine LeO.ite ?_ ?_)
   | (with_reducible refine LeO.bind ?_ (fun _ => ?_))
   | exact ih0 _ _ _ _ _
   | exact ih1 _ _ _ _
   | exact spec_l01New.mono _ _
   | exact spec_l04DrawSource.mono _ _ _ _
   | exact LeO.none _
   | refine LeO.ite ?_ ?_
   | refine LeO.bind ?_ (fun _ => ?_)
  ·
   intro y0 y1 y2 y3
   unfold spec_DrawAllMarks.l1
   repeat' first
   | (with_reducible exact ih0 _ _ _ _ _)
   | (with_reducible exact ih1 _ _ _ _)
   | (with_reducible exact spec_l01New.mono _ _)
   | (with_reducible exact spec_l04DrawSource.mono _ _ _ _)
   | (with_reducible exact LeO.refl _)
   | (with_reducible exact LeO.none _)
   | (with_reducible refine LeO.ite ?_ ?_)
   | (with_reducible refine LeO.bind ?_ (fun _ => ?_))
   | exact ih0 _ _ _ _ _
   | exact ih1 _ _ _ _
   | exact spec_l01New.mono _ _
   | exact spec_l04DrawSource.mono _ _ _ _
   | exact LeO.none _
   | refine LeO.ite ?_ ?_
   | refine LeO.bind ?_ (fun _ => ?_)
theorem spec_DrawAllMarks.mono : ∀ a0 k, LeO (spec_DrawAllMarks.f k a0) (spec_DrawAllMarks.f (k + 1) a0) := by
 intro a0 k
 obtain ⟨ih0, ih1⟩ := spec_DrawAllMarks.mono_l k
 unfold spec_DrawAllMarks.f
 repeat' first
   | (with_reducible exact ih0 _ _ _ _ _)
   | (with_reducible exact ih1 _ _ _ _)
   | (with_reducible exact spec_l01New.mono _ _)
   | (with_reducible exact spec_l04DrawSource.mono _ _ _ _)
   | (with_reducible exact LeO.refl _)
   | (with_reducible exact LeO.none _)
   | (with_reducible refine LeO.ite ?_ ?_)
   | (with_reducible refine LeO.bind ?_ (fun _ => ?_))
   | exact ih0 _ _ _ _ _
   | exact ih1 _ _ _ _
   | exact spec_l01New.mono _ _
   | exact spec_l04DrawSource.mono _ _ _ _
   | exact LeO.none _
   | refine LeO.ite ?_ ?_
   | refine LeO.bind ?_ (fun _ => ?_)
set_option maxHeartbeats 8000000 in
set_option maxRecDepth 100000 in
theorem spec_DrawAllMarks.calls (k : Nat) (A0 : Option Addr) (c0 : Nat) (l0 : List Int) (r1 : List (S72)) (r2 : Int) (w : World) (hr0 : Kd.C (Kd.int .u8) w A0 l0.length l0) (hc0 : l0.length ≤ c0) (h : spec_DrawAllMarks.f k l0 = some (r1, r2)) :
  Calls Try.prog 65 #[.slice A0 l0.length c0] w fun e w' => ∃ v0_ : Value, e = .returned (.tuple #[v0_, .int .i64 r2]) ∧ Kd.R k72 72 w' w.heap.size (fun _ => True) v0_ r1 ∧ Below w.heap.size w w' := by
 have hu72 := Try.underlying72
 have HR0 := Aside0.mk hr0
 have HC0 := Aside0.mk hc0
 clear hr0 hc0
 have HB := am_ (Below.refl w.heap.size w)
 have H : ((spec_l01New.f k l0).bind fun bt486 => ((spec_l01Below.f bt486.1 bt486.2.1 bt486.2.2 5).bind fun bt493 => (spec_DrawAllMarks.l0 k (([] : List (S72))) bt493.1 bt486.1 bt493.2.1 bt493.2.2))) = some (r1, r2) := h
 clear h
 replace H := Option.bind_eq_some_iff.mp H
 obtain ⟨⟨t486, t487, t488⟩, A20, H⟩ := H
 replace H : ((spec_l01Below.f t486 t487 t488 5).bind fun bt493 => (spec_DrawAllMarks.l0 k (([] : List (S72))) bt493.1 t486 bt493.2.1 bt493.2.2)) = some (r1, r2) := H
 have A2 := Aside0.mk A20
 clear A20
 obtain ⟨y490, hy490⟩ : ∃ y_ : List (S72), y_ = (([] : List (S72))) := ⟨_, rfl⟩
 replace H : ((spec_l01Below.f t486 t487 t488 5).bind fun bt493 => (spec_DrawAllMarks.l0 k y490 bt493.1 t486 bt493.2.1 bt493.2.2)) = some (r1, r2) := by first | (rw [hy490]; with_reducible exact H) | (have H2_ := (Option.bind_some _ _).symm.trans H; rw [hy490]; with_reducible exact H2_) | (have H2_ := (Option.bind_some _ _).symm.trans H; with_reducible exact H2_) | with_reducible exact H | (rw [hy490]; exact H) | exact H
 have Ny490 := Aside0.mk hy490
 clear hy490
 replace H := Option.bind_eq_some_iff.mp H
 obtain ⟨⟨t493, t494, t495⟩, A30, H⟩ := H
 replace H : (spec_DrawAllMarks.l0 k y490 t493 t486 t494 t495) = some (r1, r2) := H
 have A3 := Aside0.mk A30
 clear A30
 have H' := Aside0.mk H
 clear H
 go_enter Try.func65, Try.ntmps65
 go_wp2_with (first | ((with_reducible refine gate_callee (f := 100) rfl ?_); refine goesL_ (some 8) rfl rfl Try.func100 (by kernel_rfl) rfl #[.slice A0 l0.length c0] rfl ul_ ?_; (with_reducible refine (spec_l01New.calls k _ _ l0 t486 t487 t488 w _ ?side1 ?side2 ?side3 A2.out).mono ?_); (case side1 => repeat (first | (with_reducible first | exact HB.out | apply below_alloc | apply pw_below_drewN | apply below_drew1) | exact HB.out)); (case side2 => exact HR0.out); (case side3 => exact HC0.out); rintro e w4 ⟨g489, rfl, hi, hb, hb2⟩; refine ⟨_, rfl, ?_⟩; have n0_ := am_ (hb); have n1_ := am_ (hi); clear HB; have HB := n0_; have HI489 := n1_; clear n0_ n1_; (try clear hb); (try clear hb2); (try clear hk); (try clear hi)) | ((with_reducible refine gate_dst (N := 9) rfl ?_); refine Kd.R_lit k72 _ 72 ?hg (N := 9) ?hd (xs := ([] : List (S72))) (inner := []) (ok := fun _ => True) (okp := fun _ => True) ?hr ?hp (fun _ hk => hk) trivial (Below.refl _ _) (Nat.le_refl _) (by simp) ?_; (case hd => rfl); (case hg => rfl); (case hr => first | (go_simp; done) | (go_simp; rfl)); (case hp => exact (Reps.none _ _)); intro v491 w5 ho6 hb hg_ hnew_; clear hg_ hnew_; (first | rw [← Ny490.out] at ho6 | (simp only [Int.reduceToNat] at ho6; rw [← Ny490.out] at ho6)); have n0_ := am_ (Kd.R_lower ho6 (below_size (by repeat (first | (with_reducible first | exact HB.out | apply below_alloc | apply pw_below_drewN | apply below_drew1 | refine below_set ?_ (IsS155.ge HI489.out)) | exact HB.out)))); have n1_ := am_ (IsS155.below (us1_ HI489.out) hb); have n2_ := am_ (below_step (by repeat (first | (with_reducible first | exact HB.out | apply below_alloc | apply pw_below_drewN | apply below_drew1 | refine below_set ?_ (IsS155.ge HI489.out)) | exact HB.out)) hb); clear HI489 HB; have HO492 := n0_; have HI489 := n1_; have HB := n2_; clear n0_ n1_ n2_; clear hb ho6) | ((with_reducible refine gate_callee (f := 101) rfl ?_); refine goesL_ (some 11) rfl rfl Try.func101 (by kernel_rfl) rfl #[.pointer (some ⟨g489, 0, none⟩), .int .i64 5] rfl ul_ ?_; (with_reducible refine (spec_l01Below.calls g489 t486 t487 t488 5 t493 t494 t495 w _ ?side1 ?side2 A3.out).mono ?_); (case side1 => exact us1_ HI489.out); (case side2 => repeat (first | (with_reducible first | exact HB.out | apply below_alloc | apply pw_below_drewN | apply below_drew1 | refine below_set ?_ (IsS155.ge HI489.out)) | exact HB.out)); rintro e w7 ⟨rfl, hi, hb, hk⟩; refine ⟨_, rfl, ?_⟩; have n0_ := am_ (Kd.R_mono (Kd.R_keep (IsS155.apart (show IsS155 w _ g489 t486 t487 t488 from us1_ HI489.out) (ur_ HO492.out) (by decide)) hk (fun _ h => h.2)) (fun _ h => h.1)); have n1_ := am_ (hb); have n2_ := am_ (hi); clear HO492 HB HI489; have HO492 := n0_; have HB := n1_; have HI489 := n2_; clear n0_ n1_ n2_; (try clear hb); (try clear hb2); (try clear hk); (try clear hi)))
 (try simp only [Act.put, List.setIfInBounds_toArray, List.set_cons_zero, List.set_cons_succ])
 go_loopg [5, 6] k (fun kq v5 v6 w' => ∃ (x5_1 : List (S72)) (x6_1 : Int) (x490001_1 : Int) (x490002_1 : Int), v6 = .int .i64 x6_1 ∧ Aside0 (spec_DrawAllMarks.l0 kq x5_1 x6_1 t486 x490001_1 x490002_1 = some (r1, r2)) ∧ Aside0 (kq ≤ k) ∧ Aside0 (Kd.R k72 72 w' w.heap.size (fun _ => True) v5 x5_1) ∧ Aside0 (IsS155 w w' g489 t486 x490001_1 x490002_1) ∧ Aside0 (Below w.heap.size w w'))
 case atStart => exact ⟨(y490), (t493), (t494), (t495), (by first | rfl | (simp; done) | (simp [*]; done)), H', ⟨Nat.le_refl _⟩, ⟨by (with_reducible repeat (first | apply Kd.R_alloc | apply Kd.R_drewN | apply Kd.R_drew)); exact HO492.out⟩, ⟨us1_ HI489.out⟩, ⟨by repeat (first | (with_reducible first | exact HB.out | apply below_alloc | apply pw_below_drewN | apply below_drew1 | refine below_set ?_ (IsS155.ge HI489.out)) | exact HB.out)⟩⟩
 case round =>
  clear H'
  try clear c1
  try clear p2
  try clear c6
  obtain ⟨x5_1, x6_1, x490001_1, x490002_1, rfl, HA, HK1, HO_5, HI489, HB⟩ := hrel
  cases gk with
  | zero => exact absurd HA.out (by simp [spec_DrawAllMarks.l0])
  | succ k1 =>
   have H := HA.out
   clear HA
   simp only [spec_DrawAllMarks.l0] at H
   by_cases c8 : x6_1 > 0
   ·
    rw [if_pos c8] at H
    have c8b0 : decide (0 < x6_1) = true := decide_eq_true c8
    clear c8
    replace H := Option.bind_eq_some_iff.mp H
    obtain ⟨⟨t496, t497, t498, t499, t500, t501, t502⟩, A90, H⟩ := H
    replace H : (if x5_1.length < 4398046511104 then (spec_DrawAllMarks.l0 k1 (x5_1 ++ [(⟨t496, t497, t498, t499, t500⟩ : S72)]) (wrap64 (x6_1 - 1)) t486 t501 t502) else (none)) = some (r1, r2) := H
    have A9 := Aside0.mk A90
    clear A90
    by_cases c10 : x5_1.length < 4398046511104
    ·
     rw [if_pos c10] at H
     have LMc10 := Aside0.mk c10
     clear c10
     obtain ⟨y503, hy503⟩ : ∃ y_ : List (S72), y_ = (x5_1 ++ [(⟨t496, t497, t498, t499, t500⟩ : S72)]) := ⟨_, rfl⟩
     replace H : (spec_DrawAllMarks.l0 k1 y503 (wrap64 (x6_1 - 1)) t486 t501 t502) = some (r1, r2) := by first | (rw [hy503]; with_reducible exact H) | (have H2_ := (Option.bind_some _ _).symm.trans H; rw [hy503]; with_reducible exact H2_) | (have H2_ := (Option.bind_some _ _).symm.trans H; with_reducible exact H2_) | with_reducible exact H | (rw [hy503]; exact H) | exact H
     have Ny503 := Aside0.mk hy503
     clear hy503
     have H' := Aside0.mk H
     clear H
     go_wp2_with (first | ((with_reducible refine gate_callee (f := 145) rfl ?_); refine goesL_ (some 18) rfl rfl Try.func145 (by kernel_rfl) rfl #[.pointer (some ⟨g489, 0, none⟩)] rfl ul_ ?_; (with_reducible refine (spec_l04DrawSource.calls k1 g489 t486 x490001_1 x490002_1 t496 t497 t498 t499 t500 t501 t502 w _ ?side1 ?side2 A9.out).mono ?_); (case side1 => exact us1_ HI489.out); (case side2 => repeat (first | (with_reducible first | exact HB.out | apply below_alloc | apply pw_below_drewN | apply below_drew1 | refine below_set ?_ (IsS155.ge HI489.out)) | exact HB.out)); rintro e w11 ⟨rfl, hi, hb, hk⟩; refine ⟨_, rfl, ?_⟩; have n0_ := am_ (Kd.R_mono (Kd.R_keep (IsS155.apart (show IsS155 w _ g489 t486 x490001_1 x490002_1 from us1_ HI489.out) (ur_ HO_5.out) (by decide)) hk (fun _ h => h.2)) (fun _ h => h.1)); have n1_ := am_ (hb); have n2_ := am_ (hi); clear HO_5 HB HI489; have HO_5 := n0_; have HB := n1_; have HI489 := n2_; clear n0_ n1_ n2_; (try clear hb); (try clear hb2); (try clear hk); (try clear hi)) | ((with_reducible refine gate_builtin (b := .append) (xs := #[.tmp 16, .tmp 19]) rfl ?_); at_builtin; refine Kd.R_append k72 (w0 := w) w.heap.size rfl (.tmp 16) (.tmp 19) 89 72 (.agg #[(.int .i64 0), (.int .i64 0), (.int .i64 0), (.bool false), (.bool false)]) 32 rfl Try.underlying89 info72 rfl (by decide) (by omega) u5 x5_1 (⟨t496, t497, t498, t499, t500⟩ : S72) [.int .i64 t496, .int .i64 t497, .int .i64 t498, .bool t499, .bool t500] (fun _ => True) (fun _ => False) rfl rfl ?aP (fun _ hk => hk.elim) ?aF ?aO ?aB ?aS ?aL ?_; (case aP => exact k72_mkM _ _ _ (⟨t496, t497, t498, t499, t500⟩ : S72)); (case aB => exact (by repeat (first | (with_reducible first | exact HB.out | apply below_alloc | apply pw_below_drewN | apply below_drew1 | refine below_set ?_ (IsS155.ge HI489.out)) | exact HB.out))); (case aF => exact (fun _ _ => trivial)); (case aO => exact (ur_ HO_5.out)); (case aS => exact (below_size (by repeat (first | (with_reducible first | exact HB.out | apply below_alloc | apply pw_below_drewN | apply below_drew1 | refine below_set ?_ (IsS155.ge HI489.out)) | exact HB.out)))); (case aL => have := LMc10.out; omega); intro v504 w12 ho hb hg hat; rw [← Ny503.out] at ho; have n0_ := am_ (IsS155.grown (us1_ HI489.out) hg (IsS155.own_ne HI489.out HO_5.out (by decide))); have n1_ := am_ (hb); have n2_ := am_ (ho); clear HI489 HB HO_5; have HI489 := n0_; have HB := n1_; have HO505 := n2_; clear n0_ n1_ n2_; clear ho hb hg hat))
     go_roundg k1
     case measure => have := HK1.out; omega
     case rel => exact ⟨(y503), (wrap64 (x6_1 - 1)), (t501), (t502), (by first | rfl | (simp; done) | (simp [*]; done)), H', ⟨by have := HK1.out; omega⟩, ⟨by (with_reducible repeat (first | apply Kd.R_alloc | apply Kd.R_drewN | apply Kd.R_drew)); exact HO505.out⟩, ⟨us1_ HI489.out⟩, ⟨by repeat (first | (with_reducible first | exact HB.out | apply below_alloc | apply pw_below_drewN | apply below_drew1 | refine below_set ?_ (IsS155.ge HI489.out)) | exact HB.out)⟩⟩
    ·
     rw [if_neg c10] at H
     exact absurd H (by simp)
   ·
    rw [if_neg c8] at H
    have c8b0 : decide (0 < x6_1) = false := decide_eq_false c8
    clear c8
    replace H := Option.bind_eq_some_iff.mp H
    obtain ⟨⟨t506, t507, t508⟩, A130, H⟩ := H
    replace H : (if t506 = true then (spec_DrawAllMarks.l1 k1 x5_1 t486 t507 t508) else ((spec_l01Below.f t486 t507 t508 40).bind fun bt524 => ((spec_l01PickInt.f t486 bt524.2.1 bt524.2.2 (([(-1), 0, bt524.1, 1000000, 1000001, (-2)] : List Int))).bind fun bt530 => (some (x5_1, bt530.1))))) = some (r1, r2) := H
    have A13 := Aside0.mk A130
    clear A130
    by_cases c14 : t506 = true
    ·
     subst c14
     have H1 : (spec_DrawAllMarks.l1 k1 x5_1 t486 t507 t508) = some (r1, r2) := by rw [if_pos rfl] at H; exact H
     clear H
     have H := H1
     clear H1
     have H' := Aside0.mk H
     clear H
     go_wp2_with (first | ((with_reducible refine gate_callee (f := 103) rfl ?_); refine goesL_ (some 22) rfl rfl Try.func103 (by kernel_rfl) rfl #[.pointer (some ⟨g489, 0, none⟩), .int .i64 40] rfl ul_ ?_; (with_reducible refine (spec_l01Once.calls g489 t486 x490001_1 x490002_1 40 true t507 t508 w _ ?side1 ?side2 A13.out).mono ?_); (case side1 => exact us1_ HI489.out); (case side2 => repeat (first | (with_reducible first | exact HB.out | apply below_alloc | apply pw_below_drewN | apply below_drew1 | refine below_set ?_ (IsS155.ge HI489.out)) | exact HB.out)); rintro e w15 ⟨rfl, hi, hb, hk⟩; refine ⟨_, rfl, ?_⟩; have n0_ := am_ (Kd.R_mono (Kd.R_keep (IsS155.apart (show IsS155 w _ g489 t486 x490001_1 x490002_1 from us1_ HI489.out) (ur_ HO_5.out) (by decide)) hk (fun _ h => h.2)) (fun _ h => h.1)); have n1_ := am_ (hb); have n2_ := am_ (hi); clear HO_5 HB HI489; have HO_5 := n0_; have HB := n1_; have HI489 := n2_; clear n0_ n1_ n2_; (try clear hb); (try clear hb2); (try clear hk); (try clear hi)))
     (try simp only [Act.put, List.setIfInBounds_toArray, List.set_cons_zero, List.set_cons_succ])
     go_loopg [5] k1 (fun kq v5 w' => ∃ (x5_2 : List (S72)) (x490001_2 : Int) (x490002_2 : Int), Aside0 (spec_DrawAllMarks.l1 kq x5_2 t486 x490001_2 x490002_2 = some (r1, r2)) ∧ Aside0 (kq ≤ k1) ∧ Aside0 (Kd.R k72 72 w' w.heap.size (fun _ => True) v5 x5_2) ∧ Aside0 (IsS155 w w' g489 t486 x490001_2 x490002_2) ∧ Aside0 (Below w.heap.size w w'))
     case atStart => exact ⟨(x5_1), (t507), (t508), H', ⟨Nat.le_refl _⟩, ⟨by (with_reducible repeat (first | apply Kd.R_alloc | apply Kd.R_drewN | apply Kd.R_drew)); exact HO_5.out⟩, ⟨us1_ HI489.out⟩, ⟨by repeat (first | (with_reducible first | exact HB.out | apply below_alloc | apply pw_below_drewN | apply below_drew1 | refine below_set ?_ (IsS155.ge HI489.out)) | exact HB.out)⟩⟩
     case round =>
      clear H'
      try clear c1
      try clear p2
      try clear c6
      try clear p6
      try clear c8
      try clear c8b0
      try clear c10
      try clear c14
      try clear p2
      obtain ⟨x5_2, x490001_2, x490002_2, HA, HK2, HO_5, HI489, HB⟩ := hrel
      cases gk with
      | zero => exact absurd HA.out (by simp [spec_DrawAllMarks.l1])
      | succ k2 =>
       have H := HA.out
       clear HA
       simp only [spec_DrawAllMarks.l1] at H
       replace H := Option.bind_eq_some_iff.mp H
       obtain ⟨⟨t509, t510, t511⟩, A160, H⟩ := H
       replace H : (if (x5_2.length : Int) < (wrap64 (300 + t509)) then (if x5_2.length < 4398046511104 then (spec_DrawAllMarks.l1 k2 (x5_2 ++ [(⟨0, 5, 0, false, true⟩ : S72)]) t486 t510 t511) else (none)) else ((spec_l01Below.f t486 t510 t511 40).bind fun bt515 => ((spec_l01PickInt.f t486 bt515.2.1 bt515.2.2 (([(-1), 0, bt515.1, 1000000, 1000001, (-2)] : List Int))).bind fun bt521 => (some (x5_2, bt521.1))))) = some (r1, r2) := H
       have A16 := Aside0.mk A160
       clear A160
       by_cases c17 : (x5_2.length : Int) < (wrap64 (300 + t509))
       ·
        rw [if_pos c17] at H
        have c17b0 : decide ((x5_2.length : Int) < (wrap64 (300 + t509))) = true := decide_eq_true c17
        clear c17
        by_cases c18 : x5_2.length < 4398046511104
        ·
         rw [if_pos c18] at H
         have LMc18 := Aside0.mk c18
         clear c18
         obtain ⟨y512, hy512⟩ : ∃ y_ : List (S72), y_ = (x5_2 ++ [(⟨0, 5, 0, false, true⟩ : S72)]) := ⟨_, rfl⟩
         replace H : (spec_DrawAllMarks.l1 k2 y512 t486 t510 t511) = some (r1, r2) := by first | (rw [hy512]; with_reducible exact H) | (have H2_ := (Option.bind_some _ _).symm.trans H; rw [hy512]; with_reducible exact H2_) | (have H2_ := (Option.bind_some _ _).symm.trans H; with_reducible exact H2_) | with_reducible exact H | (rw [hy512]; exact H) | exact H
         have Ny512 := Aside0.mk hy512
         clear hy512
         have H' := Aside0.mk H
         clear H
         obtain ⟨Ao19, co19, eo19⟩ := Kd.R_slice HO_5.out
         subst eo19
         go_wp2_with (first | ((with_reducible refine gate_callee (f := 101) rfl ?_); refine goesL_ (some 26) rfl rfl Try.func101 (by kernel_rfl) rfl #[.pointer (some ⟨g489, 0, none⟩), .int .i64 2] rfl ul_ ?_; (with_reducible refine (spec_l01Below.calls g489 t486 x490001_2 x490002_2 2 t509 t510 t511 w _ ?side1 ?side2 A16.out).mono ?_); (case side1 => exact us1_ HI489.out); (case side2 => repeat (first | (with_reducible first | exact HB.out | apply below_alloc | apply pw_below_drewN | apply below_drew1 | refine below_set ?_ (IsS155.ge HI489.out)) | exact HB.out)); rintro e w20 ⟨rfl, hi, hb, hk⟩; refine ⟨_, rfl, ?_⟩; have n0_ := am_ (Kd.R_mono (Kd.R_keep (IsS155.apart (show IsS155 w _ g489 t486 x490001_2 x490002_2 from us1_ HI489.out) (ur_ HO_5.out) (by decide)) hk (fun _ h => h.2)) (fun _ h => h.1)); have n1_ := am_ (hb); have n2_ := am_ (hi); clear HO_5 HB HI489; have HO_5 := n0_; have HB := n1_; have HI489 := n2_; clear n0_ n1_ n2_; (try clear hb); (try clear hb2); (try clear hk); (try clear hi)) | ((with_reducible refine gate_builtin (b := .append) (xs := #[.tmp 29, .tmp 31]) rfl ?_); at_builtin; refine Kd.R_append k72 (w0 := w) w.heap.size rfl (.tmp 29) (.tmp 31) 89 72 (.agg #[(.int .i64 0), (.int .i64 0), (.int .i64 0), (.bool false), (.bool false)]) 32 rfl Try.underlying89 info72 rfl (by decide) (by omega) (.slice Ao19 x5_2.length co19) x5_2 (⟨0, 5, 0, false, true⟩ : S72) [.int .i64 0, .int .i64 5, .int .i64 0, .bool false, .bool true] (fun _ => True) (fun _ => False) rfl rfl ?aP (fun _ hk => hk.elim) ?aF ?aO ?aB ?aS ?aL ?_; (case aP => exact k72_mkM _ _ _ (⟨0, 5, 0, false, true⟩ : S72)); (case aB => exact (by repeat (first | (with_reducible first | exact HB.out | apply below_alloc | apply pw_below_drewN | apply below_drew1 | refine below_set ?_ (IsS155.ge HI489.out)) | exact HB.out))); (case aF => exact (fun _ _ => trivial)); (case aO => exact (ur_ HO_5.out)); (case aS => exact (below_size (by repeat (first | (with_reducible first | exact HB.out | apply below_alloc | apply pw_below_drewN | apply below_drew1 | refine below_set ?_ (IsS155.ge HI489.out)) | exact HB.out)))); (case aL => have := LMc18.out; omega); intro v513 w21 ho hb hg hat; rw [← Ny512.out] at ho; have n0_ := am_ (IsS155.grown (us1_ HI489.out) hg (IsS155.own_ne HI489.out HO_5.out (by decide))); have n1_ := am_ (hb); have n2_ := am_ (ho); clear HI489 HB HO_5; have HI489 := n0_; have HB := n1_; have HO514 := n2_; clear n0_ n1_ n2_; clear ho hb hg hat))
         go_roundg k2
         case measure => have := HK1.out; have := HK2.out; omega
         case rel => exact ⟨(y512), (t510), (t511), H', ⟨by have := HK1.out; have := HK2.out; omega⟩, ⟨by (with_reducible repeat (first | apply Kd.R_alloc | apply Kd.R_drewN | apply Kd.R_drew)); exact HO514.out⟩, ⟨us1_ HI489.out⟩, ⟨by repeat (first | (with_reducible first | exact HB.out | apply below_alloc | apply pw_below_drewN | apply below_drew1 | refine below_set ?_ (IsS155.ge HI489.out)) | exact HB.out)⟩⟩
        ·
         rw [if_neg c18] at H
         exact absurd H (by simp)
       ·
        rw [if_neg c17] at H
        have c17b0 : decide ((x5_2.length : Int) < (wrap64 (300 + t509))) = false := decide_eq_false c17
        clear c17
        replace H := Option.bind_eq_some_iff.mp H
        obtain ⟨⟨t515, t516, t517⟩, A220, H⟩ := H
        replace H : ((spec_l01PickInt.f t486 t516 t517 (([(-1), 0, t515, 1000000, 1000001, (-2)] : List Int))).bind fun bt521 => (some (x5_2, bt521.1))) = some (r1, r2) := H
        have A22 := Aside0.mk A220
        clear A220
        obtain ⟨y518, hy518⟩ : ∃ y_ : List Int, y_ = (([(-1), 0, t515, 1000000, 1000001, (-2)] : List Int)) := ⟨_, rfl⟩
        replace H : ((spec_l01PickInt.f t486 t516 t517 y518).bind fun bt521 => (some (x5_2, bt521.1))) = some (r1, r2) := by first | (rw [hy518]; with_reducible exact H) | (have H2_ := (Option.bind_some _ _).symm.trans H; rw [hy518]; with_reducible exact H2_) | (have H2_ := (Option.bind_some _ _).symm.trans H; with_reducible exact H2_) | with_reducible exact H | (rw [hy518]; exact H) | exact H
        have Ny518 := Aside0.mk hy518
        clear hy518
        replace H := Option.bind_eq_some_iff.mp H
        obtain ⟨⟨t521, t522, t523⟩, A230, H⟩ := H
        replace H : (some (x5_2, t521)) = some (r1, r2) := H
        have A23 := Aside0.mk A230
        clear A230
        simp only [Option.some.injEq, Prod.mk.injEq] at H
        obtain ⟨rfl, rfl⟩ := H
        obtain ⟨Ao24, co24, eo24⟩ := Kd.R_slice HO_5.out
        subst eo24
        go_wp2_with (first | ((with_reducible refine gate_callee (f := 101) rfl ?_); refine goesL_ (some 26) rfl rfl Try.func101 (by kernel_rfl) rfl #[.pointer (some ⟨g489, 0, none⟩), .int .i64 2] rfl ul_ ?_; (with_reducible refine (spec_l01Below.calls g489 t486 x490001_2 x490002_2 2 t509 t510 t511 w _ ?side1 ?side2 A16.out).mono ?_); (case side1 => exact us1_ HI489.out); (case side2 => repeat (first | (with_reducible first | exact HB.out | apply below_alloc | apply pw_below_drewN | apply below_drew1 | refine below_set ?_ (IsS155.ge HI489.out)) | exact HB.out)); rintro e w25 ⟨rfl, hi, hb, hk⟩; refine ⟨_, rfl, ?_⟩; have n0_ := am_ (Kd.R_mono (Kd.R_keep (IsS155.apart (show IsS155 w _ g489 t486 x490001_2 x490002_2 from us1_ HI489.out) (ur_ HO_5.out) (by decide)) hk (fun _ h => h.2)) (fun _ h => h.1)); have n1_ := am_ (hb); have n2_ := am_ (hi); clear HO_5 HB HI489; have HO_5 := n0_; have HB := n1_; have HI489 := n2_; clear n0_ n1_ n2_; (try clear hb); (try clear hb2); (try clear hk); (try clear hi)) | ((with_reducible refine gate_callee (f := 101) rfl ?_); refine goesL_ (some 36) rfl rfl Try.func101 (by kernel_rfl) rfl #[.pointer (some ⟨g489, 0, none⟩), .int .i64 40] rfl ul_ ?_; (with_reducible refine (spec_l01Below.calls g489 t486 t510 t511 40 t515 t516 t517 w _ ?side1 ?side2 A22.out).mono ?_); (case side1 => exact us1_ HI489.out); (case side2 => repeat (first | (with_reducible first | exact HB.out | apply below_alloc | apply pw_below_drewN | apply below_drew1 | refine below_set ?_ (IsS155.ge HI489.out)) | exact HB.out)); rintro e w26 ⟨rfl, hi, hb, hk⟩; refine ⟨_, rfl, ?_⟩; have n0_ := am_ (Kd.R_mono (Kd.R_keep (IsS155.apart (show IsS155 w _ g489 t486 t510 t511 from us1_ HI489.out) (ur_ HO_5.out) (by decide)) hk (fun _ h => h.2)) (fun _ h => h.1)); have n1_ := am_ (hb); have n2_ := am_ (hi); clear HO_5 HB HI489; have HO_5 := n0_; have HB := n1_; have HI489 := n2_; clear n0_ n1_ n2_; (try clear hb); (try clear hb2); (try clear hk); (try clear hi)) | ((with_reducible refine gate_dst (N := 37) rfl ?_); refine Kd.R_lit (Kd.int .i64) _ 3 ?hg (N := 37) ?hd (xs := ([(-1), 0, t515, 1000000, 1000001, (-2)] : List Int)) (inner := [.int .i64 (-1), .int .i64 0, .int .i64 t515, .int .i64 1000000, .int .i64 1000001, .int .i64 (-2)]) (ok := fun _ => True) (okp := fun _ => True) ?hr ?hp (fun _ hk => hk) trivial (Below.refl _ _) (Nat.le_refl _) (by simp) ?_; (case hd => rfl); (case hg => rfl); (case hr => first | (go_simp; done) | (go_simp; rfl)); (case hp => exact (Reps.one (show Kd.M (Kd.int .i64) _ _ _ (-1) [.int .i64 (-1)] from rfl) (Reps.one (show Kd.M (Kd.int .i64) _ _ _ 0 [.int .i64 0] from rfl) (Reps.one (show Kd.M (Kd.int .i64) _ _ _ t515 [.int .i64 t515] from rfl) (Reps.one (show Kd.M (Kd.int .i64) _ _ _ 1000000 [.int .i64 1000000] from rfl) (Reps.one (show Kd.M (Kd.int .i64) _ _ _ 1000001 [.int .i64 1000001] from rfl) (Reps.one (show Kd.M (Kd.int .i64) _ _ _ (-2) [.int .i64 (-2)] from rfl) (Reps.none _ _)))))))); intro v519 w27 ho28 hb hg_ hnew_; clear hg_ hnew_; (first | rw [← Ny518.out] at ho28 | (simp only [Int.reduceToNat] at ho28; rw [← Ny518.out] at ho28)); have n0_ := am_ (Kd.R_below (ur_ HO_5.out) hb); have n1_ := am_ (Kd.R_lower ho28 (below_size (by repeat (first | (with_reducible first | exact HB.out | apply below_alloc | apply pw_below_drewN | apply below_drew1 | refine below_set ?_ (IsS155.ge HI489.out)) | exact HB.out)))); have n2_ := am_ (IsS155.below (us1_ HI489.out) hb); have n3_ := am_ (below_step (by repeat (first | (with_reducible first | exact HB.out | apply below_alloc | apply pw_below_drewN | apply below_drew1 | refine below_set ?_ (IsS155.ge HI489.out)) | exact HB.out)) hb); clear HO_5 HI489 HB; have HO_5 := n0_; have HO520 := n1_; have HI489 := n2_; have HB := n3_; clear n0_ n1_ n2_ n3_; clear hb ho28; obtain ⟨Ao29, co29, eo29⟩ := Kd.R_slice HO520.out; subst eo29) | ((with_reducible refine gate_callee (f := 104) rfl ?_); refine goesL_ (some 38) rfl rfl Try.func104 (by kernel_rfl) rfl #[.pointer (some ⟨g489, 0, none⟩), .slice Ao29 y518.length co29] rfl ul_ ?_; (with_reducible refine (spec_l01PickInt.calls g489 t486 t516 t517 _ _ y518 t521 t522 t523 w _ ?side1 ?side2 ?side3 ?side4 ?side5 A23.out).mono ?_); (case side1 => exact us1_ HI489.out); (case side2 => repeat (first | (with_reducible first | exact HB.out | apply below_alloc | apply pw_below_drewN | apply below_drew1 | refine below_set ?_ (IsS155.ge HI489.out)) | exact HB.out)); (case side3 => repeat (first | exact (Kd.R_reads' HO520.out).2.2 | (with_reducible refine Kd.C_alloc ?_ _) | (with_reducible refine Kd.C_drewN ?_ _) | (with_reducible refine Kd.C_drew ?_))); (case side4 => exact (Kd.R_reads' HO520.out).2.1); (case side5 => exact far_slice (IsS155.own_ne HI489.out HO520.out (by decide))); rintro e w30 ⟨rfl, hi, hb, hk⟩; refine ⟨_, rfl, ?_⟩; have n0_ := am_ (Kd.R_mono (Kd.R_keep (IsS155.apart (show IsS155 w _ g489 t486 t516 t517 from us1_ HI489.out) (ur_ HO_5.out) (by decide)) hk (fun _ h => h.2)) (fun _ h => h.1)); have n1_ := am_ (Kd.R_mono (Kd.R_keep (IsS155.apart (show IsS155 w _ g489 t486 t516 t517 from us1_ HI489.out) (ur_ HO520.out) (by decide)) hk (fun _ h => h.2)) (fun _ h => h.1)); have n2_ := am_ (hb); have n3_ := am_ (hi); clear HO_5 HO520 HB HI489; have HO_5 := n0_; have HO520 := n1_; have HB := n2_; have HI489 := n3_; clear n0_ n1_ n2_ n3_; (try clear hb); (try clear hb2); (try clear hk); (try clear hi)))
        go_ret2
        exact ⟨_, ew_, by (with_reducible repeat (first | apply Kd.R_alloc | apply Kd.R_drewN | apply Kd.R_drew)); exact HO_5.out, by repeat (first | (with_reducible first | exact HB.out | apply below_alloc | apply pw_below_drewN | apply below_drew1 | refine below_set ?_ (IsS155.ge HI489.out)) | exact HB.out)⟩
    ·
     replace c14 := Bool.eq_false_iff.mpr c14
     subst c14
     have H1 : ((spec_l01Below.f t486 t507 t508 40).bind fun bt524 => ((spec_l01PickInt.f t486 bt524.2.1 bt524.2.2 (([(-1), 0, bt524.1, 1000000, 1000001, (-2)] : List Int))).bind fun bt530 => (some (x5_1, bt530.1)))) = some (r1, r2) := by rw [if_neg (show ¬ (false = true) by decide)] at H; exact H
     clear H
     have H := H1
     clear H1
     replace H := Option.bind_eq_some_iff.mp H
     obtain ⟨⟨t524, t525, t526⟩, A310, H⟩ := H
     replace H : ((spec_l01PickInt.f t486 t525 t526 (([(-1), 0, t524, 1000000, 1000001, (-2)] : List Int))).bind fun bt530 => (some (x5_1, bt530.1))) = some (r1, r2) := H
     have A31 := Aside0.mk A310
     clear A310
     obtain ⟨y527, hy527⟩ : ∃ y_ : List Int, y_ = (([(-1), 0, t524, 1000000, 1000001, (-2)] : List Int)) := ⟨_, rfl⟩
     replace H : ((spec_l01PickInt.f t486 t525 t526 y527).bind fun bt530 => (some (x5_1, bt530.1))) = some (r1, r2) := by first | (rw [hy527]; with_reducible exact H) | (have H2_ := (Option.bind_some _ _).symm.trans H; rw [hy527]; with_reducible exact H2_) | (have H2_ := (Option.bind_some _ _).symm.trans H; with_reducible exact H2_) | with_reducible exact H | (rw [hy527]; exact H) | exact H
     have Ny527 := Aside0.mk hy527
     clear hy527
     replace H := Option.bind_eq_some_iff.mp H
     obtain ⟨⟨t530, t531, t532⟩, A320, H⟩ := H
     replace H : (some (x5_1, t530)) = some (r1, r2) := H
     have A32 := Aside0.mk A320
     clear A320
     simp only [Option.some.injEq, Prod.mk.injEq] at H
     obtain ⟨rfl, rfl⟩ := H
     go_wp2_with (first | ((with_reducible refine gate_callee (f := 103) rfl ?_); refine goesL_ (some 22) rfl rfl Try.func103 (by kernel_rfl) rfl #[.pointer (some ⟨g489, 0, none⟩), .int .i64 40] rfl ul_ ?_; (with_reducible refine (spec_l01Once.calls g489 t486 x490001_1 x490002_1 40 false t507 t508 w _ ?side1 ?side2 A13.out).mono ?_); (case side1 => exact us1_ HI489.out); (case side2 => repeat (first | (with_reducible first | exact HB.out | apply below_alloc | apply pw_below_drewN | apply below_drew1 | refine below_set ?_ (IsS155.ge HI489.out)) | exact HB.out)); rintro e w33 ⟨rfl, hi, hb, hk⟩; refine ⟨_, rfl, ?_⟩; have n0_ := am_ (Kd.R_mono (Kd.R_keep (IsS155.apart (show IsS155 w _ g489 t486 x490001_1 x490002_1 from us1_ HI489.out) (ur_ HO_5.out) (by decide)) hk (fun _ h => h.2)) (fun _ h => h.1)); have n1_ := am_ (hb); have n2_ := am_ (hi); clear HO_5 HB HI489; have HO_5 := n0_; have HB := n1_; have HI489 := n2_; clear n0_ n1_ n2_; (try clear hb); (try clear hb2); (try clear hk); (try clear hi)) | ((with_reducible refine gate_callee (f := 101) rfl ?_); refine goesL_ (some 36) rfl rfl Try.func101 (by kernel_rfl) rfl #[.pointer (some ⟨g489, 0, none⟩), .int .i64 40] rfl ul_ ?_; (with_reducible refine (spec_l01Below.calls g489 t486 t507 t508 40 t524 t525 t526 w _ ?side1 ?side2 A31.out).mono ?_); (case side1 => exact us1_ HI489.out); (case side2 => repeat (first | (with_reducible first | exact HB.out | apply below_alloc | apply pw_below_drewN | apply below_drew1 | refine below_set ?_ (IsS155.ge HI489.out)) | exact HB.out)); rintro e w34 ⟨rfl, hi, hb, hk⟩; refine ⟨_, rfl, ?_⟩; have n0_ := am_ (Kd.R_mono (Kd.R_keep (IsS155.apart (show IsS155 w _ g489 t486 t507 t508 from us1_ HI489.out) (ur_ HO_5.out) (by decide)) hk (fun _ h => h.2)) (fun _ h => h.1)); have n1_ := am_ (hb); have n2_ := am_ (hi); clear HO_5 HB HI489; have HO_5 := n0_; have HB := n1_; have HI489 := n2_; clear n0_ n1_ n2_; (try clear hb); (try clear hb2); (try clear hk); (try clear hi)) | ((with_reducible refine gate_dst (N := 37) rfl ?_); refine Kd.R_lit (Kd.int .i64) _ 3 ?hg (N := 37) ?hd (xs := ([(-1), 0, t524, 1000000, 1000001, (-2)] : List Int)) (inner := [.int .i64 (-1), .int .i64 0, .int .i64 t524, .int .i64 1000000, .int .i64 1000001, .int .i64 (-2)]) (ok := fun _ => True) (okp := fun _ => True) ?hr ?hp (fun _ hk => hk) trivial (Below.refl _ _) (Nat.le_refl _) (by simp) ?_; (case hd => rfl); (case hg => rfl); (case hr => first | (go_simp; done) | (go_simp; rfl)); (case hp => exact (Reps.one (show Kd.M (Kd.int .i64) _ _ _ (-1) [.int .i64 (-1)] from rfl) (Reps.one (show Kd.M (Kd.int .i64) _ _ _ 0 [.int .i64 0] from rfl) (Reps.one (show Kd.M (Kd.int .i64) _ _ _ t524 [.int .i64 t524] from rfl) (Reps.one (show Kd.M (Kd.int .i64) _ _ _ 1000000 [.int .i64 1000000] from rfl) (Reps.one (show Kd.M (Kd.int .i64) _ _ _ 1000001 [.int .i64 1000001] from rfl) (Reps.one (show Kd.M (Kd.int .i64) _ _ _ (-2) [.int .i64 (-2)] from rfl) (Reps.none _ _)))))))); intro v528 w35 ho36 hb hg_ hnew_; clear hg_ hnew_; (first | rw [← Ny527.out] at ho36 | (simp only [Int.reduceToNat] at ho36; rw [← Ny527.out] at ho36)); have n0_ := am_ (Kd.R_below (ur_ HO_5.out) hb); have n1_ := am_ (Kd.R_lower ho36 (below_size (by repeat (first | (with_reducible first | exact HB.out | apply below_alloc | apply pw_below_drewN | apply below_drew1 | refine below_set ?_ (IsS155.ge HI489.out)) | exact HB.out)))); have n2_ := am_ (IsS155.below (us1_ HI489.out) hb); have n3_ := am_ (below_step (by repeat (first | (with_reducible first | exact HB.out | apply below_alloc | apply pw_below_drewN | apply below_drew1 | refine below_set ?_ (IsS155.ge HI489.out)) | exact HB.out)) hb); clear HO_5 HI489 HB; have HO_5 := n0_; have HO529 := n1_; have HI489 := n2_; have HB := n3_; clear n0_ n1_ n2_ n3_; clear hb ho36; obtain ⟨Ao37, co37, eo37⟩ := Kd.R_slice HO529.out; subst eo37) | ((with_reducible refine gate_callee (f := 104) rfl ?_); refine goesL_ (some 38) rfl rfl Try.func104 (by kernel_rfl) rfl #[.pointer (some ⟨g489, 0, none⟩), .slice Ao37 y527.length co37] rfl ul_ ?_; (with_reducible refine (spec_l01PickInt.calls g489 t486 t525 t526 _ _ y527 t530 t531 t532 w _ ?side1 ?side2 ?side3 ?side4 ?side5 A32.out).mono ?_); (case side1 => exact us1_ HI489.out); (case side2 => repeat (first | (with_reducible first | exact HB.out | apply below_alloc | apply pw_below_drewN | apply below_drew1 | refine below_set ?_ (IsS155.ge HI489.out)) | exact HB.out)); (case side3 => repeat (first | exact (Kd.R_reads' HO529.out).2.2 | (with_reducible refine Kd.C_alloc ?_ _) | (with_reducible refine Kd.C_drewN ?_ _) | (with_reducible refine Kd.C_drew ?_))); (case side4 => exact (Kd.R_reads' HO529.out).2.1); (case side5 => exact far_slice (IsS155.own_ne HI489.out HO529.out (by decide))); rintro e w38 ⟨rfl, hi, hb, hk⟩; refine ⟨_, rfl, ?_⟩; have n0_ := am_ (Kd.R_mono (Kd.R_keep (IsS155.apart (show IsS155 w _ g489 t486 t525 t526 from us1_ HI489.out) (ur_ HO_5.out) (by decide)) hk (fun _ h => h.2)) (fun _ h => h.1)); have n1_ := am_ (Kd.R_mono (Kd.R_keep (IsS155.apart (show IsS155 w _ g489 t486 t525 t526 from us1_ HI489.out) (ur_ HO529.out) (by decide)) hk (fun _ h => h.2)) (fun _ h => h.1)); have n2_ := am_ (hb); have n3_ := am_ (hi); clear HO_5 HO529 HB HI489; have HO_5 := n0_; have HO529 := n1_; have HB := n2_; have HI489 := n3_; clear n0_ n1_ n2_ n3_; (try clear hb); (try clear hb2); (try clear hk); (try clear hi)))
     go_ret2
     exact ⟨_, ew_, by (with_reducible repeat (first | apply Kd.R_alloc | apply Kd.R_drewN | apply Kd.R_drew)); exact HO_5.out, by repeat (first | (with_reducible first | exact HB.out | apply below_alloc | apply pw_below_drewN | apply below_drew1 | refine below_set ?_ (IsS155.ge HI489.out)) | exact HB.out)⟩

/-! ### laws_alt: function 66 -/
def laws_alt.l0 : Nat → List Int → List Int → Int → Option (List Int)
 | 0, _, _, _ => none
 | k + 1, x0, x5, x6 => if x6 < (x0.length : Int) then (if x6 < 3000 then (if 0 ≤ x6 then (if x5.length < 140737488355328 then (laws_alt.l0 k x0 (x5 ++ [rd x0 x6]) (wrap64 (x6 + 1))) else (none)) else (none)) else (some x5)) else (some x5)
def laws_alt.f (k : Nat) (l0 : List Int) (a1 : Int) : Option (List Int) := laws_alt.l0 k l0 (([(a1) % 256] : List Int)) 0
theorem laws_alt.mono_l : ∀ k, (∀ y0 y1 y2, LeO (laws_alt.l0 k y0 y1 y2) (laws_alt.l0 (k + 1) y0 y1 y2))
 | 0 => fun _ _ _ r h => by simp [laws_alt.l0] at h
 | k + 1 => by
  have ih0 := laws_alt.mono_l k
  ·
   intro y0 y1 y2
   unfold laws_alt.l0
   repeat' first
   | (with_reducible exact ih0 _ _ _)
   | (with_reducible exact LeO.refl _)
   | (with_reducible exact LeO.none _)
   | (with_reducible refine LeO.ite ?_ ?_)
   | (with_reducible refine LeO.bind ?_ (fun _ => ?_))
   | exact ih0 _ _ _
   | exact LeO.none _
   | refine LeO.ite ?_ ?_
   | refine LeO.bind ?_ (fun _ => ?_)
theorem laws_alt.mono : ∀ a0 a1 k, LeO (laws_alt.f k a0 a1) (laws_alt.f (k + 1) a0 a1) := by
 intro a0 a1 k
 have ih0 := laws_alt.mono_l k
 unfold laws_alt.f
 repeat' first
   | (with_reducible exact ih0 _ _ _)
   | (with_reducible exact LeO.refl _)
   | (with_reducible exact LeO.none _)
   | (with_reducible refine LeO.ite ?_ ?_)
   | (with_reducible refine LeO.bind ?_ (fun _ => ?_))
   | exact ih0 _ _ _
   | exact LeO.none _
   | refine LeO.ite ?_ ?_
   | refine LeO.bind ?_ (fun _ => ?_)
set_option maxHeartbeats 8000000 in
set_option maxRecDepth 100000 in
theorem laws_alt.calls (k : Nat) (A0 : Option Addr) (c0 : Nat) (l0 : List Int) (a1 : Int) (r : List Int) (w : World) (hr0 : Kd.C (Kd.int .u8) w A0 l0.length l0) (hc0 : l0.length ≤ c0) (h : laws_alt.f k l0 a1 = some r) :
  Calls Try.prog 66 #[.slice A0 l0.length c0, .int .i64 a1] w fun e w' => ∃ v0_ : Value, e = .returned (v0_) ∧ Kd.R (Kd.int .u8) 5 w' w.heap.size (fun _ => True) v0_ r ∧ Below w.heap.size w w' := by
 have HR0 := Aside0.mk hr0
 have HC0 := Aside0.mk hc0
 clear hr0 hc0
 have HB := am_ (Below.refl w.heap.size w)
 have H : (laws_alt.l0 k l0 (([(a1) % 256] : List Int)) 0) = some r := h
 clear h
 obtain ⟨y533, hy533⟩ : ∃ y_ : List Int, y_ = (([(a1) % 256] : List Int)) := ⟨_, rfl⟩
 replace H : (laws_alt.l0 k l0 y533 0) = some r := by first | (rw [hy533]; with_reducible exact H) | (have H2_ := (Option.bind_some _ _).symm.trans H; rw [hy533]; with_reducible exact H2_) | (have H2_ := (Option.bind_some _ _).symm.trans H; with_reducible exact H2_) | with_reducible exact H | (rw [hy533]; exact H) | exact H
 have Ny533 := Aside0.mk hy533
 clear hy533
 have H' := Aside0.mk H
 clear H
 go_enter Try.func66, Try.ntmps66
 go_wp2_with (first | ((with_reducible refine gate_dst (N := 9) rfl ?_); refine Kd.R_lit (Kd.int .u8) _ 5 ?hg (N := 9) ?hd (xs := ([(a1) % 256] : List Int)) (inner := [.int .u8 ((a1) % 256)]) (ok := fun _ => True) (okp := fun _ => True) ?hr ?hp (fun _ hk => hk) trivial (Below.refl _ _) (Nat.le_refl _) (by simp) ?_; (case hd => rfl); (case hg => rfl); (case hr => first | (go_simp; done) | (go_simp; rfl)); (case hp => exact (Reps.one (show Kd.M (Kd.int .u8) _ _ _ ((a1) % 256) [.int .u8 ((a1) % 256)] from rfl) (Reps.none _ _))); intro v534 w3 ho4 hb hg_ hnew_; clear hg_ hnew_; (first | rw [← Ny533.out] at ho4 | (simp only [Int.reduceToNat] at ho4; rw [← Ny533.out] at ho4)); have n0_ := am_ (Kd.R_lower ho4 (below_size (ue_ HB.out))); have n1_ := am_ (below_step (ue_ HB.out) hb); clear HB; have HO535 := n0_; have HB := n1_; clear n0_ n1_; clear hb ho4))
 (try simp only [Act.put, List.setIfInBounds_toArray, List.set_cons_zero, List.set_cons_succ])
 go_loopg [5, 6] k (fun kq v5 v6 w' => ∃ (x5_1 : List Int) (x6_1 : Int), v6 = .int .i64 x6_1 ∧ Aside0 (laws_alt.l0 kq l0 x5_1 x6_1 = some r) ∧ Aside0 (kq ≤ k) ∧ Aside0 (Kd.R (Kd.int .u8) 5 w' w.heap.size (fun _ => True) v5 x5_1) ∧ Aside0 (Below w.heap.size w w'))
 case atStart => exact ⟨(y533), (0), (by first | rfl | (simp; done) | (simp [*]; done)), H', ⟨Nat.le_refl _⟩, ⟨by (with_reducible repeat (first | apply Kd.R_alloc | apply Kd.R_drewN | apply Kd.R_drew)); exact HO535.out⟩, ⟨ue_ HB.out⟩⟩
 case round =>
  clear H'
  try clear p2
  obtain ⟨x5_1, x6_1, rfl, HA, HK1, HO_5, HB⟩ := hrel
  cases gk with
  | zero => exact absurd HA.out (by simp [laws_alt.l0])
  | succ k1 =>
   have H := HA.out
   clear HA
   simp only [laws_alt.l0] at H
   by_cases c5 : x6_1 < (l0.length : Int)
   ·
    rw [if_pos c5] at H
    have c5b0 : decide (x6_1 < (l0.length : Int)) = true := decide_eq_true c5
    clear c5
    by_cases c6 : x6_1 < 3000
    ·
     rw [if_pos c6] at H
     have c6b0 : decide (x6_1 < 3000) = true := decide_eq_true c6
     clear c6
     by_cases c7 : 0 ≤ x6_1
     ·
      rw [if_pos c7] at H
      have c7b0 : decide (0 ≤ x6_1) = true := decide_eq_true c7
      clear c7
      by_cases c8 : x5_1.length < 140737488355328
      ·
       rw [if_pos c8] at H
       have LMc8 := Aside0.mk c8
       clear c8
       obtain ⟨y537, hy537⟩ : ∃ y_ : List Int, y_ = (x5_1 ++ [rd l0 x6_1]) := ⟨_, rfl⟩
       replace H : (laws_alt.l0 k1 l0 y537 (wrap64 (x6_1 + 1))) = some r := by first | (rw [hy537]; with_reducible exact H) | (have H2_ := (Option.bind_some _ _).symm.trans H; rw [hy537]; with_reducible exact H2_) | (have H2_ := (Option.bind_some _ _).symm.trans H; with_reducible exact H2_) | with_reducible exact H | (rw [hy537]; exact H) | exact H
       have Ny537 := Aside0.mk hy537
       clear hy537
       have H' := Aside0.mk H
       clear H
       have p536 : 0 ≤ (x6_1 : Int) := of_decide_eq_true ua_
       have q536 : x6_1 < (l0.length : Int) := of_decide_eq_true ua_
       obtain ⟨ad536, e536, hx536_0⟩ := Kd.at_int HR0.out x6_1 p536 q536
       cases e536
       replace hx536_0 := bc_ HB.out hx536_0
       replace p536 := eq_true p536
       replace q536 := eq_true q536
       go_wp2_with (first | ((with_reducible refine gate_builtin (b := .append) (xs := #[.tmp 20, .tmp 25]) rfl ?_); at_builtin; refine Kd.R_append (Kd.int .u8) (w0 := w) w.heap.size rfl (.tmp 20) (.tmp 25) 49 5 (.int .u8 0) 1 rfl Try.underlying49 info5 rfl (by decide) (by omega) u5 x5_1 (rd l0 x6_1) [.int .u8 (rd l0 x6_1)] (fun _ => True) (fun _ => False) rfl rfl ?aP (fun _ hk => hk.elim) ?aF ?aO ?aB ?aS ?aL ?_; (case aP => exact rfl); (case aB => exact (ue_ HB.out)); (case aF => exact (fun _ _ => trivial)); (case aO => exact (ur_ HO_5.out)); (case aS => exact (below_size (ue_ HB.out))); (case aL => have := LMc8.out; omega); intro v538 w9 ho hb hg hat; rw [← Ny537.out] at ho; have n0_ := am_ (hb); have n1_ := am_ (ho); clear HB HO_5; have HB := n0_; have HO539 := n1_; clear n0_ n1_; clear ho hb hg hat))
       go_roundg k1
       case measure => have := HK1.out; omega
       case rel => exact ⟨(y537), (wrap64 (x6_1 + 1)), (by first | rfl | (simp; done) | (simp [*]; done)), H', ⟨by have := HK1.out; omega⟩, ⟨by (with_reducible repeat (first | apply Kd.R_alloc | apply Kd.R_drewN | apply Kd.R_drew)); exact HO539.out⟩, ⟨ue_ HB.out⟩⟩
      ·
       rw [if_neg c8] at H
       exact absurd H (by simp)
     ·
      rw [if_neg c7] at H
      exact absurd H (by simp)
    ·
     rw [if_neg c6] at H
     have c6b0 : decide (x6_1 < 3000) = false := decide_eq_false c6
     clear c6
     obtain rfl := Option.some.inj H
     go_wp2
     go_ret
     exact ⟨_, ew_, by (with_reducible repeat (first | apply Kd.R_alloc | apply Kd.R_drewN | apply Kd.R_drew)); exact HO_5.out, ue_ HB.out⟩
   ·
    rw [if_neg c5] at H
    have c5b0 : decide (x6_1 < (l0.length : Int)) = false := decide_eq_false c5
    clear c5
    obtain rfl := Option.some.inj H
    go_wp2
    go_ret
    exact ⟨_, ew_, by (with_reducible repeat (first | apply Kd.R_alloc | apply Kd.R_drewN | apply Kd.R_drew)); exact HO_5.out, ue_ HB.out⟩

end Go.Proofs.Ytcflalomjehiiaa.QFnMarks
