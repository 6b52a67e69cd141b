/- The machine side of a law: Lean functions with the Go functions' answers and the walks that show it. No condition. -/
import Derived.Test.YtcflalomjehiiaaQFnRingsx0
import Derived.Test.YtcflalomjehiiaaQFnRingsx3
import Derived.Test.YtcflalomjehiiaaQFnRingsx4
namespace Go.Proofs.Ytcflalomjehiiaa.QFnRings
open Go.RowKit Go.Proofs.YtcflalomjehiiaaW.PrintWords Go.Proofs.YtcflalomjehiiaaW.PrintLast Go.Proofs.YtcflalomjehiiaaW.PrintMore
attribute [local go_sem] max2_int min2_int max_two min_two max_three min_three max_four min_four   -- for this text's walks alone
set_option linter.unusedVariables false
set_option linter.unusedSimpArgs false

/-! ### impl_PushRing: function 91 -/
def impl_PushRing.f (k : Nat) (l0_0 : List Int) (a0_1 : Int) (a0_2 : Int) (a1 : Int) : Option (List Int × Int × Int × Bool) := (impl_ownRing.f l0_0 a0_1 a0_2).bind fun bt244 => ((impl_RingOk.f k l0_0 a0_1 a0_2).bind fun t250 => (if t250 = true then (if a0_2 = (l0_0.length : Int) then (some (bt244.1, bt244.2.1, bt244.2.2, false)) else (if (l0_0.length : Int) = 0 then (none) else (if 0 ≤ (Int.tmod (wrap64 (a0_1 + a0_2)) (l0_0.length : Int)) then (if (Int.tmod (wrap64 (a0_1 + a0_2)) (l0_0.length : Int)) < (bt244.1.length : Int) then (some ((bt244.1.set ((Int.tmod (wrap64 (a0_1 + a0_2)) (l0_0.length : Int)) : Int).toNat a1), bt244.2.1, wrap64 (bt244.2.2 + 1), true)) else (none)) else (none)))) else (some (bt244.1, bt244.2.1, bt244.2.2, false))))
theorem impl_PushRing.mono : ∀ a0 a1 a2 a3 k, LeO (impl_PushRing.f k a0 a1 a2 a3) (impl_PushRing.f (k + 1) a0 a1 a2 a3) := by
 intro a0 a1 a2 a3 k
 unfold impl_PushRing.f
 repeat' first
   | (with_reducible exact impl_RingOk.mono _ _ _ _)
   | (with_reducible exact LeO.refl _)
   | (with_reducible exact LeO.none _)
   | (with_reducible refine LeO.ite ?_ ?_)
   | (with_reducible refine LeO.bind ?_ (fun _ => ?_))
   | exact impl_RingOk.mono _ _ _ _
   | exact LeO.none _
   | refine LeO.ite ?_ ?_
   | refine LeO.bind ?_ (fun _ => ?_)
def impl_PushRing.T4 : Bool × List (List Nat × List Nat) := (true, [([], []), ([0], [0]), ([], []), ([2], [2]), ([], []), ([4], [4]), ([3, 5], [3, 5]), ([], []), ([7], [7]), ([8], [8]), ([6, 9], [6, 9]), ([], []), ([1, 10, 0, 1, 2, 3, 4, 5, 6, 7, 8, 9, 10, 11], [1, 10]), ([12, 11, 0, 1, 2, 3, 4, 5, 6, 7, 8, 9, 10, 11], [11, 12])])
def impl_PushRing.B4 : List Nat := [0, 1, 0, 4, 0, 16, 60, 0, 128, 384, 1020, 0, 4095, 8191]
theorem impl_PushRing.tab4 : rtab .any (opsOf Try.f91 4) = impl_PushRing.T4 := by kernel_rfl
theorem impl_PushRing.bits4 : waitsOk impl_PushRing.T4.2 impl_PushRing.B4 = true := by kernel_rfl
set_option maxHeartbeats 8000000 in
set_option maxRecDepth 100000 in
theorem impl_PushRing.calls (k : Nat) (A0_0 : Option Addr) (c0_0 : Nat) (l0_0 : List Int) (a0_1 : Int) (a0_2 : Int) (a1 : Int) (r1 : List Int) (r2 : Int) (r3 : Int) (r4 : Bool) (w : World) (hr0_0 : Kd.C (Kd.int .i64) w A0_0 l0_0.length l0_0) (hc0_0 : l0_0.length ≤ c0_0) (h : impl_PushRing.f k l0_0 a0_1 a0_2 a1 = some (r1, r2, r3, r4)) :
  Calls Try.prog 91 #[.agg #[.slice A0_0 l0_0.length c0_0, .int .i64 a0_1, .int .i64 a0_2], .int .i64 a1] w fun e w' => ∃ v0_ : Value, e = .returned (.tuple #[.agg #[v0_, .int .i64 r2, .int .i64 r3], .bool r4]) ∧ Kd.R (Kd.int .i64) 3 w' w.heap.size (fun _ => True) v0_ r1 ∧ Below w.heap.size w w' := by
 have hu24 := Try.underlying24
 have HR0_0 := Aside0.mk hr0_0
 have HC0_0 := Aside0.mk hc0_0
 clear hr0_0 hc0_0
 have HB := am_ (Below.refl w.heap.size w)
 have H : ((impl_ownRing.f l0_0 a0_1 a0_2).bind fun bt244 => ((impl_RingOk.f k l0_0 a0_1 a0_2).bind fun t250 => (if t250 = true then (if a0_2 = (l0_0.length : Int) then (some (bt244.1, bt244.2.1, bt244.2.2, false)) else (if (l0_0.length : Int) = 0 then (none) else (if 0 ≤ (Int.tmod (wrap64 (a0_1 + a0_2)) (l0_0.length : Int)) then (if (Int.tmod (wrap64 (a0_1 + a0_2)) (l0_0.length : Int)) < (bt244.1.length : Int) then (some ((bt244.1.set ((Int.tmod (wrap64 (a0_1 + a0_2)) (l0_0.length : Int)) : Int).toNat a1), bt244.2.1, wrap64 (bt244.2.2 + 1), true)) else (none)) else (none)))) else (some (bt244.1, bt244.2.1, bt244.2.2, false))))) = some (r1, r2, r3, r4) := h
 clear h
 replace H := Option.bind_eq_some_iff.mp H
 obtain ⟨⟨t244, t247, t248⟩, A30, H⟩ := H
 replace H : ((impl_RingOk.f k l0_0 a0_1 a0_2).bind fun t250 => (if t250 = true then (if a0_2 = (l0_0.length : Int) then (some (t244, t247, t248, false)) else (if (l0_0.length : Int) = 0 then (none) else (if 0 ≤ (Int.tmod (wrap64 (a0_1 + a0_2)) (l0_0.length : Int)) then (if (Int.tmod (wrap64 (a0_1 + a0_2)) (l0_0.length : Int)) < (t244.length : Int) then (some ((t244.set ((Int.tmod (wrap64 (a0_1 + a0_2)) (l0_0.length : Int)) : Int).toNat a1), t247, wrap64 (t248 + 1), true)) else (none)) else (none)))) else (some (t244, t247, t248, false)))) = some (r1, r2, r3, r4) := H
 have A3 := Aside0.mk A30
 clear A30
 replace H := Option.bind_eq_some_iff.mp H
 obtain ⟨t250, A40, H⟩ := H
 replace H : (if t250 = true then (if a0_2 = (l0_0.length : Int) then (some (t244, t247, t248, false)) else (if (l0_0.length : Int) = 0 then (none) else (if 0 ≤ (Int.tmod (wrap64 (a0_1 + a0_2)) (l0_0.length : Int)) then (if (Int.tmod (wrap64 (a0_1 + a0_2)) (l0_0.length : Int)) < (t244.length : Int) then (some ((t244.set ((Int.tmod (wrap64 (a0_1 + a0_2)) (l0_0.length : Int)) : Int).toNat a1), t247, wrap64 (t248 + 1), true)) else (none)) else (none)))) else (some (t244, t247, t248, false))) = some (r1, r2, r3, r4) := H
 have A4 := Aside0.mk A40
 clear A40
 by_cases c5 : t250 = true
 ·
  subst c5
  have H1 : (if a0_2 = (l0_0.length : Int) then (some (t244, t247, t248, false)) else (if (l0_0.length : Int) = 0 then (none) else (if 0 ≤ (Int.tmod (wrap64 (a0_1 + a0_2)) (l0_0.length : Int)) then (if (Int.tmod (wrap64 (a0_1 + a0_2)) (l0_0.length : Int)) < (t244.length : Int) then (some ((t244.set ((Int.tmod (wrap64 (a0_1 + a0_2)) (l0_0.length : Int)) : Int).toNat a1), t247, wrap64 (t248 + 1), true)) else (none)) else (none)))) = some (r1, r2, r3, r4) := by rw [if_pos rfl] at H; exact H
  clear H
  have H := H1
  clear H1
  by_cases c6 : a0_2 = (l0_0.length : Int)
  ·
   rw [if_pos c6] at H
   have c6b0 : (a0_2 == (l0_0.length : Int)) = true := beq_iff_eq.mpr c6
   have c6b1 : (a0_2 != (l0_0.length : Int)) = false := bne_eq_false_iff_eq.mpr c6
   clear c6
   simp only [Option.some.injEq, Prod.mk.injEq] at H
   obtain ⟨rfl, rfl, rfl, rfl⟩ := H
   go_enter Try.func91, Try.ntmps91
   go_wp2_with (first | ((with_reducible refine gate_dst (N := 2) rfl ?_); (try (refine gate_guard (by rfl) ?_; dsimp only)); refine box_event ?hg (N := 2) ?hd (cs := #[.slice A0_0 l0_0.length c0_0, .int .i64 a0_1, .int .i64 a0_2]) (t := 24) ?hr ?_; (case hd => rfl); (case hg => rfl); (case hr => first | (go_simp; done) | (go_simp; rfl)); intro gb242 hg w7 hbox hb; have n0_ := am_ (below_step (ue_ HB.out) hb); have n1_ := am_ (hbox); have n2_ := am_ ((by rw [hg]; exact (below_size (ue_ HB.out)) : w.heap.size ≤ gb242)); have n3_ := am_ ((by rw [hg]; exact (below_size (ue_ HB.out)) : w.heap.size ≤ gb242)); clear HB; have HB := n0_; have BK242 := n1_; have GW242 := n2_; have GE242 := n3_; clear n0_ n1_ n2_ n3_; clear hb hbox hg) | ((with_reducible refine gate_dst (N := 4) rfl ?_); (try (refine gate_guard (by rfl) ?_; dsimp only)); refine box_event ?hg (N := 4) ?hd (cs := #[.slice none 0 0, .int .i64 0, .int .i64 0]) (t := 24) ?hr ?_; (case hd => rfl); (case hg => rfl); (case hr => first | (go_simp; done) | (go_simp; rfl)); intro gb243 hg w8 hbox hb; have n0_ := am_ (bb_ BK242.out hb); have n1_ := am_ (below_step (ue_ HB.out) hb); have n2_ := am_ (hbox); have n3_ := am_ ((by rw [hg]; exact (below_size (ue_ HB.out)) : w.heap.size ≤ gb243)); have n4_ := am_ ((by rw [hg]; exact (below_size (ue_ HB.out)) : w.heap.size ≤ gb243)); have n5_ := am_ ((by rw [hg]; exact Nat.ne_of_lt (bl_ BK242.out) : gb242 ≠ gb243)); have n6_ := am_ ((by rw [hg]; exact Nat.ne_of_gt (bl_ BK242.out) : gb243 ≠ gb242)); clear BK242 HB; have BK242 := n0_; have HB := n1_; have BK243 := n2_; have GW243 := n3_; have GE243 := n4_; have NB242_243 := n5_; have NB243_242 := n6_; clear n0_ n1_ n2_ n3_ n4_ n5_ n6_; clear hb hbox hg; have hnb9 := NB242_243.out; have hnc9 := NB243_242.out; obtain ⟨hcz10_0, hcz10_1, hcz10_2⟩ := cb3_ BK242.out; obtain ⟨hfz10_0, hfz10_1⟩ := bf2_ BK242.out; have hfz10_2 := blk_frozen BK242.out 2) | ((with_reducible refine gate_callee (f := 107) rfl ?_); refine goesL_ (some 8) rfl rfl Try.func107 (by kernel_rfl) rfl #[.agg #[.slice A0_0 l0_0.length c0_0, .int .i64 a0_1, .int .i64 a0_2]] rfl ul_ ?_; (with_reducible refine (impl_ownRing.calls _ _ l0_0 a0_1 a0_2 t244 t247 t248 _ ?side1 ?side2 A3.out).mono ?_); (case side1 => repeat (first | exact (Kd.C_below HR0_0.out HB.out) | (with_reducible refine Kd.C_alloc ?_ _) | (with_reducible refine Kd.C_drewN ?_ _) | (with_reducible refine Kd.C_drew ?_))); (case side2 => exact HC0_0.out); rintro e w11 ⟨v245, rfl, ho0, hb⟩; refine ⟨_, rfl, ?_⟩; have n0_ := am_ (Kd.R_lower ho0 (below_size (ue_ HB.out))); have n1_ := am_ (bb_ BK242.out hb); have n2_ := am_ (bb_ BK243.out hb); have n3_ := am_ (below_step (ue_ HB.out) hb); clear BK242 BK243 HB; have HO246 := n0_; have BK242 := n1_; have BK243 := n2_; have HB := n3_; clear n0_ n1_ n2_ n3_; (try clear hb); (try clear hb2); (try clear hk); (try clear hi); (try clear ho0)) | ((with_reducible refine gate_dst (N := 6) rfl ?_); (try (refine gate_guard (by rfl) ?_; dsimp only)); refine box_event ?hg (N := 6) ?hd (cs := #[.slice none 0 0, .int .i64 0, .int .i64 0]) (t := 24) ?hr ?_; (case hd => rfl); (case hg => rfl); (case hr => first | (go_simp; done) | (go_simp; rfl)); intro gb249 hg w12 hbox hb; have n0_ := am_ (Kd.R_below (ur_ HO246.out) hb); have n1_ := am_ (bb_ BK242.out hb); have n2_ := am_ (bb_ BK243.out hb); have n3_ := am_ (below_step (ue_ HB.out) hb); have n4_ := am_ (hbox); have n5_ := am_ ((by rw [hg]; exact (below_size (ue_ HB.out)) : w.heap.size ≤ gb249)); have n6_ := am_ ((by rw [hg]; exact (below_size (ue_ HB.out)) : w.heap.size ≤ gb249)); have n7_ := am_ ((by rw [hg]; exact Nat.ne_of_lt (bl_ BK242.out) : gb242 ≠ gb249)); have n8_ := am_ ((by rw [hg]; exact Nat.ne_of_gt (bl_ BK242.out) : gb249 ≠ gb242)); have n9_ := am_ ((by rw [hg]; exact Nat.ne_of_lt (bl_ BK243.out) : gb243 ≠ gb249)); have n10_ := am_ ((by rw [hg]; exact Nat.ne_of_gt (bl_ BK243.out) : gb249 ≠ gb243)); clear HO246 BK242 BK243 HB; have HO246 := n0_; have BK242 := n1_; have BK243 := n2_; have HB := n3_; have BK249 := n4_; have GW249 := n5_; have GE249 := n6_; have NB242_249 := n7_; have NB249_242 := n8_; have NB243_249 := n9_; have NB249_243 := n10_; clear n0_ n1_ n2_ n3_ n4_ n5_ n6_ n7_ n8_ n9_ n10_; clear hb hbox hg; obtain ⟨Ao13, co13, eo13⟩ := Kd.R_slice HO246.out; subst eo13; have hnb14 := NB249_242.out; have hnc14 := NB242_249.out; have hnb15 := NB249_243.out; have hnc15 := NB243_249.out; obtain ⟨hcz16_0, hcz16_1, hcz16_2⟩ := cb3_ BK249.out; obtain ⟨hfz16_0, hfz16_1⟩ := bf2_ BK249.out; have hfz16_2 := blk_frozen BK249.out 2) | ((with_reducible refine gate_store (t := 24) (p := 6) rfl ?_); refine store_event (t := 24) (p := 6) (v := ?vo_w17) (w1 := (((w12.setCell ⟨gb249, 0, none⟩ (.slice Ao13 t244.length co13)).setCell ⟨gb249, 1, none⟩ (.int .i64 t247)).setCell ⟨gb249, 2, none⟩ (.int .i64 t248))) ?hg ?ho ?hn ?hr ?_; (case ho => rfl); (case hg => rfl); (case hn => rfl); (case hr => first | (go_simp; done) | (go_simp; rfl)); intro w17 hw; have n0_ : Aside0 (Kd.R (Kd.int .i64) 3 w17 w.heap.size (fun _ => True) (.slice Ao13 t244.length co13) t244) := ⟨(by rw [hw]; exact (by (with_reducible repeat (first | apply Kd.R_alloc | apply Kd.R_drewN | apply Kd.R_drew)); exact Kd.R_mono (Kd.R_far (p := ⟨gb249, 2, none⟩) (Kd.R_far (p := ⟨gb249, 1, none⟩) (Kd.R_far (p := ⟨gb249, 0, none⟩) (Kd.R_types HO246.out BK249.out (by decide)) (fun _ hk => by first | exact hk.2 | grind) (.slice Ao13 t244.length co13)) (fun _ hk => by first | exact hk.2 | grind) (.int .i64 t247)) (fun _ hk => by first | exact hk.2 | grind) (.int .i64 t248)) (fun _ hk => trivial)))⟩; have n1_ : Aside0 (w17.heap[gb242]? = some (.cells #[.slice A0_0 l0_0.length c0_0, .int .i64 a0_1, .int .i64 a0_2] 24 (0, 0))) := ⟨(by rw [hw]; exact (uf_ BK242.out))⟩; have n2_ : Aside0 (w17.heap[gb243]? = some (.cells #[.slice none 0 0, .int .i64 0, .int .i64 0] 24 (0, 0))) := ⟨(by rw [hw]; exact (uf_ BK243.out))⟩; have n3_ : Aside0 (w17.heap[gb249]? = some (.cells #[.slice Ao13 t244.length co13, .int .i64 t247, .int .i64 t248] 24 (0, 0))) := ⟨(by rw [hw]; exact (by (with_reducible repeat first|apply bn_|apply bd_|apply ba_); refine blk_put (cs := #[.slice Ao13 t244.length co13, .int .i64 t247, .int .i64 0]) ?_ 2 _ rfl; refine blk_put (cs := #[.slice Ao13 t244.length co13, .int .i64 0, .int .i64 0]) ?_ 1 _ rfl; refine blk_put (cs := #[.slice none 0 0, .int .i64 0, .int .i64 0]) ?_ 0 _ rfl; (with_reducible repeat first|apply bn_|apply bd_|apply ba_); exact BK249.out))⟩; have n4_ : Aside0 (Below w.heap.size w w17) := ⟨(by rw [hw]; exact (ue_ HB.out))⟩; clear hw HO246 BK242 BK243 BK249 HB; have HO246 := n0_; have BK242 := n1_; have BK243 := n2_; have BK249 := n3_; have HB := n4_; clear n0_ n1_ n2_ n3_ n4_; obtain ⟨hcz18_0, hcz18_1, hcz18_2⟩ := cb3_ BK242.out; obtain ⟨hfz18_0, hfz18_1⟩ := bf2_ BK242.out; have hfz18_2 := blk_frozen BK242.out 2) | ((with_reducible refine gate_callee (f := 105) rfl ?_); refine goesL_ (some 10) rfl rfl Try.func105 (by kernel_rfl) rfl #[.agg #[.slice A0_0 l0_0.length c0_0, .int .i64 a0_1, .int .i64 a0_2]] rfl ul_ ?_; (with_reducible refine (impl_RingOk.calls k _ _ l0_0 a0_1 a0_2 true _ ?side1 ?side2 A4.out).mono ?_); (case side1 => repeat (first | exact (Kd.C_below HR0_0.out HB.out) | (with_reducible refine Kd.C_alloc ?_ _) | (with_reducible refine Kd.C_drewN ?_ _) | (with_reducible refine Kd.C_drew ?_))); (case side2 => exact HC0_0.out); rintro e w19 ⟨rfl, hb⟩; refine ⟨_, rfl, ?_⟩; have n0_ := am_ (Kd.R_below (ur_ HO246.out) hb); have n1_ := am_ (bb_ BK242.out hb); have n2_ := am_ (bb_ BK243.out hb); have n3_ := am_ (bb_ BK249.out hb); have n4_ := am_ (below_step (ue_ HB.out) hb); clear HO246 BK242 BK243 BK249 HB; have HO246 := n0_; have BK242 := n1_; have BK243 := n2_; have BK249 := n3_; have HB := n4_; clear n0_ n1_ n2_ n3_ n4_; (try clear hb); (try clear hb2); (try clear hk); (try clear hi); obtain ⟨hcz20_0, hcz20_1, hcz20_2⟩ := cb3_ BK242.out; obtain ⟨hfz20_0, hfz20_1, hfz20_2⟩ := bf3_ BK242.out; obtain ⟨hcz21_0, hcz21_1, hcz21_2⟩ := cb3_ BK249.out; obtain ⟨hfz21_0, hfz21_1, hfz21_2⟩ := bf3_ BK249.out; obtain ⟨hcz22_0, hcz22_1, hcz22_2⟩ := cb3_ BK243.out; obtain ⟨hfz22_0, hfz22_1⟩ := bf2_ BK243.out; have hfz22_2 := blk_frozen BK243.out 2) | ((with_reducible refine gate_store (t := 24) (p := 4) rfl ?_); refine store_event (t := 24) (p := 4) (v := ?vo_w23) (w1 := (((w19.setCell ⟨gb243, 0, none⟩ (.slice Ao13 t244.length co13)).setCell ⟨gb243, 1, none⟩ (.int .i64 t247)).setCell ⟨gb243, 2, none⟩ (.int .i64 t248))) ?hg ?ho ?hn ?hr ?_; (case ho => rfl); (case hg => rfl); (case hn => rfl); (case hr => first | (go_simp; done) | (go_simp; rfl)); intro w23 hw; have n0_ : Aside0 (Kd.R (Kd.int .i64) 3 w23 w.heap.size (fun _ => True) (.slice Ao13 t244.length co13) t244) := ⟨(by rw [hw]; exact (by (with_reducible repeat (first | apply Kd.R_alloc | apply Kd.R_drewN | apply Kd.R_drew)); exact Kd.R_mono (Kd.R_far (p := ⟨gb243, 2, none⟩) (Kd.R_far (p := ⟨gb243, 1, none⟩) (Kd.R_far (p := ⟨gb243, 0, none⟩) (Kd.R_types HO246.out BK243.out (by decide)) (fun _ hk => by first | exact hk.2 | grind) (.slice Ao13 t244.length co13)) (fun _ hk => by first | exact hk.2 | grind) (.int .i64 t247)) (fun _ hk => by first | exact hk.2 | grind) (.int .i64 t248)) (fun _ hk => trivial)))⟩; have n1_ : Aside0 (w23.heap[gb242]? = some (.cells #[.slice A0_0 l0_0.length c0_0, .int .i64 a0_1, .int .i64 a0_2] 24 (0, 0))) := ⟨(by rw [hw]; exact (uf_ BK242.out))⟩; have n2_ : Aside0 (w23.heap[gb243]? = some (.cells #[.slice Ao13 t244.length co13, .int .i64 t247, .int .i64 t248] 24 (0, 0))) := ⟨(by rw [hw]; exact (by (with_reducible repeat first|apply bn_|apply bd_|apply ba_); refine blk_put (cs := #[.slice Ao13 t244.length co13, .int .i64 t247, .int .i64 0]) ?_ 2 _ rfl; refine blk_put (cs := #[.slice Ao13 t244.length co13, .int .i64 0, .int .i64 0]) ?_ 1 _ rfl; refine blk_put (cs := #[.slice none 0 0, .int .i64 0, .int .i64 0]) ?_ 0 _ rfl; (with_reducible repeat first|apply bn_|apply bd_|apply ba_); exact BK243.out))⟩; have n3_ : Aside0 (w23.heap[gb249]? = some (.cells #[.slice Ao13 t244.length co13, .int .i64 t247, .int .i64 t248] 24 (0, 0))) := ⟨(by rw [hw]; exact (uf_ BK249.out))⟩; have n4_ : Aside0 (Below w.heap.size w w23) := ⟨(by rw [hw]; exact (ue_ HB.out))⟩; clear hw HO246 BK242 BK243 BK249 HB; have HO246 := n0_; have BK242 := n1_; have BK243 := n2_; have BK249 := n3_; have HB := n4_; clear n0_ n1_ n2_ n3_ n4_))
   refine bodyPost_ret (results_ct rfl _ _ gb243 24 #[.slice Ao13 t244.length co13, .int .i64 t247, .int .i64 t248] (0, 0) _ rfl (ub_ BK243.out) Try.underlying24 rfl (by kernel_rfl)) rfl ?_
   exact ⟨_, ew_, by (with_reducible repeat (first | apply Kd.R_alloc | apply Kd.R_drewN | apply Kd.R_drew)); exact HO246.out, ue_ HB.out⟩
  ·
   rw [if_neg c6] at H
   have c6b0 : (a0_2 == (l0_0.length : Int)) = false := beq_eq_false_iff_ne.mpr c6
   have c6b1 : (a0_2 != (l0_0.length : Int)) = true := bne_iff_ne.mpr c6
   by_cases c24 : (l0_0.length : Int) = 0
   ·
    rw [if_pos c24] at H
    exact absurd H (by simp)
   ·
    rw [if_neg c24] at H
    have c24b0 : ((l0_0.length : Int) == 0) = false := beq_eq_false_iff_ne.mpr c24
    have c24b1 : ((l0_0.length : Int) != 0) = true := bne_iff_ne.mpr c24
    have c24b2 : ¬ (l0_0 = []) := fun h_ => c24 (by rw [h_]; rfl)
    obtain ⟨ji25, hji25⟩ : ∃ j_ : Int, (Int.tmod (wrap64 (a0_1 + a0_2)) (l0_0.length : Int)) = j_ := ⟨_, rfl⟩
    replace H : (if 0 ≤ (ji25) then (if (ji25) < (t244.length : Int) then (some ((t244.set ((ji25) : Int).toNat a1), t247, wrap64 (t248 + 1), true)) else (none)) else (none)) = some (r1, r2, r3, r4) := by first | (rw [hji25] at H; exact H) | (simp only [hji25] at H ⊢; exact H)
    (try rw [hji25] at A3)
    (try rw [hji25] at A4)
    by_cases c26 : 0 ≤ (ji25)
    ·
     rw [if_pos c26] at H
     have c26b0 : decide (0 ≤ (ji25)) = true := decide_eq_true c26
     clear c26
     by_cases c27 : (ji25) < (t244.length : Int)
     ·
      rw [if_pos c27] at H
      have c27b0 : decide ((ji25) < (t244.length : Int)) = true := decide_eq_true c27
      clear c27
      obtain ⟨y251, hy251⟩ : ∃ y_ : List Int, y_ = (t244.set ((ji25) : Int).toNat a1) := ⟨_, rfl⟩
      replace H : (some (y251, t247, wrap64 (t248 + 1), true)) = some (r1, r2, r3, r4) := by first | (rw [hy251]; with_reducible exact H) | (have H2_ := (Option.bind_some _ _).symm.trans H; rw [hy251]; with_reducible exact H2_) | (have H2_ := (Option.bind_some _ _).symm.trans H; with_reducible exact H2_) | with_reducible exact H | (rw [hy251]; exact H) | exact H
      have Ny251 := Aside0.mk hy251
      clear hy251
      simp only [Option.some.injEq, Prod.mk.injEq] at H
      obtain ⟨rfl, rfl, rfl, rfl⟩ := H
      go_enter Try.func91, Try.ntmps91
      try go_wp2_with (first | ((with_reducible refine gate_dst (N := 2) rfl ?_); (try (refine gate_guard (by rfl) ?_; dsimp only)); refine box_event ?hg (N := 2) ?hd (cs := #[.slice A0_0 l0_0.length c0_0, .int .i64 a0_1, .int .i64 a0_2]) (t := 24) ?hr ?_; (case hd => rfl); (case hg => rfl); (case hr => first | (go_simp; done) | (go_simp; rfl)); intro gb242 hg w29 hbox hb; have n0_ := am_ (below_step (ue_ HB.out) hb); have n1_ := am_ (hbox); have n2_ := am_ ((by rw [hg]; exact (below_size (ue_ HB.out)) : w.heap.size ≤ gb242)); have n3_ := am_ ((by rw [hg]; exact (below_size (ue_ HB.out)) : w.heap.size ≤ gb242)); clear HB; have HB := n0_; have BK242 := n1_; have GW242 := n2_; have GE242 := n3_; clear n0_ n1_ n2_ n3_; clear hb hbox hg) | ((with_reducible refine gate_dst (N := 4) rfl ?_); (try (refine gate_guard (by rfl) ?_; dsimp only)); refine box_event ?hg (N := 4) ?hd (cs := #[.slice none 0 0, .int .i64 0, .int .i64 0]) (t := 24) ?hr ?_; (case hd => rfl); (case hg => rfl); (case hr => first | (go_simp; done) | (go_simp; rfl)); intro gb243 hg w30 hbox hb; have n0_ := am_ (bb_ BK242.out hb); have n1_ := am_ (below_step (ue_ HB.out) hb); have n2_ := am_ (hbox); have n3_ := am_ ((by rw [hg]; exact (below_size (ue_ HB.out)) : w.heap.size ≤ gb243)); have n4_ := am_ ((by rw [hg]; exact (below_size (ue_ HB.out)) : w.heap.size ≤ gb243)); have n5_ := am_ ((by rw [hg]; exact Nat.ne_of_lt (bl_ BK242.out) : gb242 ≠ gb243)); have n6_ := am_ ((by rw [hg]; exact Nat.ne_of_gt (bl_ BK242.out) : gb243 ≠ gb242)); clear BK242 HB; have BK242 := n0_; have HB := n1_; have BK243 := n2_; have GW243 := n3_; have GE243 := n4_; have NB242_243 := n5_; have NB243_242 := n6_; clear n0_ n1_ n2_ n3_ n4_ n5_ n6_; clear hb hbox hg; have hnb31 := NB242_243.out; have hnc31 := NB243_242.out; obtain ⟨hcz32_0, hcz32_1, hcz32_2⟩ := cb3_ BK242.out; obtain ⟨hfz32_0, hfz32_1⟩ := bf2_ BK242.out; have hfz32_2 := blk_frozen BK242.out 2) | ((with_reducible refine gate_callee (f := 107) rfl ?_); refine goesL_ (some 8) rfl rfl Try.func107 (by kernel_rfl) rfl #[.agg #[.slice A0_0 l0_0.length c0_0, .int .i64 a0_1, .int .i64 a0_2]] rfl ul_ ?_; (with_reducible refine (impl_ownRing.calls _ _ l0_0 a0_1 a0_2 t244 t247 t248 _ ?side1 ?side2 A3.out).mono ?_); (case side1 => repeat (first | exact (Kd.C_below HR0_0.out HB.out) | (with_reducible refine Kd.C_alloc ?_ _) | (with_reducible refine Kd.C_drewN ?_ _) | (with_reducible refine Kd.C_drew ?_))); (case side2 => exact HC0_0.out); rintro e w33 ⟨v245, rfl, ho0, hb⟩; refine ⟨_, rfl, ?_⟩; have n0_ := am_ (Kd.R_lower ho0 (below_size (ue_ HB.out))); have n1_ := am_ (bb_ BK242.out hb); have n2_ := am_ (bb_ BK243.out hb); have n3_ := am_ (below_step (ue_ HB.out) hb); clear BK242 BK243 HB; have HO246 := n0_; have BK242 := n1_; have BK243 := n2_; have HB := n3_; clear n0_ n1_ n2_ n3_; (try clear hb); (try clear hb2); (try clear hk); (try clear hi); (try clear ho0)) | ((with_reducible refine gate_dst (N := 6) rfl ?_); (try (refine gate_guard (by rfl) ?_; dsimp only)); refine box_event ?hg (N := 6) ?hd (cs := #[.slice none 0 0, .int .i64 0, .int .i64 0]) (t := 24) ?hr ?_; (case hd => rfl); (case hg => rfl); (case hr => first | (go_simp; done) | (go_simp; rfl)); intro gb249 hg w34 hbox hb; have n0_ := am_ (Kd.R_below (ur_ HO246.out) hb); have n1_ := am_ (bb_ BK242.out hb); have n2_ := am_ (bb_ BK243.out hb); have n3_ := am_ (below_step (ue_ HB.out) hb); have n4_ := am_ (hbox); have n5_ := am_ ((by rw [hg]; exact (below_size (ue_ HB.out)) : w.heap.size ≤ gb249)); have n6_ := am_ ((by rw [hg]; exact (below_size (ue_ HB.out)) : w.heap.size ≤ gb249)); have n7_ := am_ ((by rw [hg]; exact Nat.ne_of_lt (bl_ BK242.out) : gb242 ≠ gb249)); have n8_ := am_ ((by rw [hg]; exact Nat.ne_of_gt (bl_ BK242.out) : gb249 ≠ gb242)); have n9_ := am_ ((by rw [hg]; exact Nat.ne_of_lt (bl_ BK243.out) : gb243 ≠ gb249)); have n10_ := am_ ((by rw [hg]; exact Nat.ne_of_gt (bl_ BK243.out) : gb249 ≠ gb243)); clear HO246 BK242 BK243 HB; have HO246 := n0_; have BK242 := n1_; have BK243 := n2_; have HB := n3_; have BK249 := n4_; have GW249 := n5_; have GE249 := n6_; have NB242_249 := n7_; have NB249_242 := n8_; have NB243_249 := n9_; have NB249_243 := n10_; clear n0_ n1_ n2_ n3_ n4_ n5_ n6_ n7_ n8_ n9_ n10_; clear hb hbox hg; obtain ⟨Ao35, co35, eo35⟩ := Kd.R_slice HO246.out; subst eo35; have hnb36 := NB249_242.out; have hnc36 := NB242_249.out; have hnb37 := NB249_243.out; have hnc37 := NB243_249.out; obtain ⟨hcz38_0, hcz38_1, hcz38_2⟩ := cb3_ BK249.out; obtain ⟨hfz38_0, hfz38_1⟩ := bf2_ BK249.out; have hfz38_2 := blk_frozen BK249.out 2) | ((with_reducible refine gate_store (t := 24) (p := 6) rfl ?_); refine store_event (t := 24) (p := 6) (v := ?vo_w39) (w1 := (((w34.setCell ⟨gb249, 0, none⟩ (.slice Ao35 t244.length co35)).setCell ⟨gb249, 1, none⟩ (.int .i64 t247)).setCell ⟨gb249, 2, none⟩ (.int .i64 t248))) ?hg ?ho ?hn ?hr ?_; (case ho => rfl); (case hg => rfl); (case hn => rfl); (case hr => first | (go_simp; done) | (go_simp; rfl)); intro w39 hw; have n0_ : Aside0 (Kd.R (Kd.int .i64) 3 w39 w.heap.size (fun _ => True) (.slice Ao35 t244.length co35) t244) := ⟨(by rw [hw]; exact (by (with_reducible repeat (first | apply Kd.R_alloc | apply Kd.R_drewN | apply Kd.R_drew)); exact Kd.R_mono (Kd.R_far (p := ⟨gb249, 2, none⟩) (Kd.R_far (p := ⟨gb249, 1, none⟩) (Kd.R_far (p := ⟨gb249, 0, none⟩) (Kd.R_types HO246.out BK249.out (by decide)) (fun _ hk => by first | exact hk.2 | grind) (.slice Ao35 t244.length co35)) (fun _ hk => by first | exact hk.2 | grind) (.int .i64 t247)) (fun _ hk => by first | exact hk.2 | grind) (.int .i64 t248)) (fun _ hk => trivial)))⟩; have n1_ : Aside0 (w39.heap[gb242]? = some (.cells #[.slice A0_0 l0_0.length c0_0, .int .i64 a0_1, .int .i64 a0_2] 24 (0, 0))) := ⟨(by rw [hw]; exact (uf_ BK242.out))⟩; have n2_ : Aside0 (w39.heap[gb243]? = some (.cells #[.slice none 0 0, .int .i64 0, .int .i64 0] 24 (0, 0))) := ⟨(by rw [hw]; exact (uf_ BK243.out))⟩; have n3_ : Aside0 (w39.heap[gb249]? = some (.cells #[.slice Ao35 t244.length co35, .int .i64 t247, .int .i64 t248] 24 (0, 0))) := ⟨(by rw [hw]; exact (by (with_reducible repeat first|apply bn_|apply bd_|apply ba_); refine blk_put (cs := #[.slice Ao35 t244.length co35, .int .i64 t247, .int .i64 0]) ?_ 2 _ rfl; refine blk_put (cs := #[.slice Ao35 t244.length co35, .int .i64 0, .int .i64 0]) ?_ 1 _ rfl; refine blk_put (cs := #[.slice none 0 0, .int .i64 0, .int .i64 0]) ?_ 0 _ rfl; (with_reducible repeat first|apply bn_|apply bd_|apply ba_); exact BK249.out))⟩; have n4_ : Aside0 (Below w.heap.size w w39) := ⟨(by rw [hw]; exact (ue_ HB.out))⟩; clear hw HO246 BK242 BK243 BK249 HB; have HO246 := n0_; have BK242 := n1_; have BK243 := n2_; have BK249 := n3_; have HB := n4_; clear n0_ n1_ n2_ n3_ n4_; obtain ⟨hcz40_0, hcz40_1, hcz40_2⟩ := cb3_ BK242.out; obtain ⟨hfz40_0, hfz40_1⟩ := bf2_ BK242.out; have hfz40_2 := blk_frozen BK242.out 2) | ((with_reducible refine gate_callee (f := 105) rfl ?_); refine goesL_ (some 10) rfl rfl Try.func105 (by kernel_rfl) rfl #[.agg #[.slice A0_0 l0_0.length c0_0, .int .i64 a0_1, .int .i64 a0_2]] rfl ul_ ?_; (with_reducible refine (impl_RingOk.calls k _ _ l0_0 a0_1 a0_2 true _ ?side1 ?side2 A4.out).mono ?_); (case side1 => repeat (first | exact (Kd.C_below HR0_0.out HB.out) | (with_reducible refine Kd.C_alloc ?_ _) | (with_reducible refine Kd.C_drewN ?_ _) | (with_reducible refine Kd.C_drew ?_))); (case side2 => exact HC0_0.out); rintro e w41 ⟨rfl, hb⟩; refine ⟨_, rfl, ?_⟩; have n0_ := am_ (Kd.R_below (ur_ HO246.out) hb); have n1_ := am_ (bb_ BK242.out hb); have n2_ := am_ (bb_ BK243.out hb); have n3_ := am_ (bb_ BK249.out hb); have n4_ := am_ (below_step (ue_ HB.out) hb); clear HO246 BK242 BK243 BK249 HB; have HO246 := n0_; have BK242 := n1_; have BK243 := n2_; have BK249 := n3_; have HB := n4_; clear n0_ n1_ n2_ n3_ n4_; (try clear hb); (try clear hb2); (try clear hk); (try clear hi); obtain ⟨hcz42_0, hcz42_1, hcz42_2⟩ := cb3_ BK242.out; obtain ⟨hfz42_0, hfz42_1⟩ := bf2_ BK242.out; have hfz42_2 := blk_frozen BK242.out 2))
      have n0_ := am_ (Kd.R_drew HO246.out)
      have n1_ := am_ (blk_drew BK242.out)
      have n2_ := am_ (blk_drew BK243.out)
      have n3_ := am_ (blk_drew BK249.out)
      have n4_ := am_ (below_drew1 HB.out)
      clear HO246
      clear BK242
      clear BK243
      clear BK249
      clear HB
      have HO246 := n0_
      have BK242 := n1_
      have BK243 := n2_
      have BK249 := n3_
      have HB := n4_
      clear n0_ n1_ n2_ n3_ n4_
      have p28 : 0 ≤ ((ji25) : Int) := of_decide_eq_true ua_
      have q28 : ((ji25) : Int) < ((t244.length : Int) : Int) := of_decide_eq_true ua_
      obtain ⟨go28, co28, eo28, gb28, gl28, cl28, HG28⟩ := Kd.R_form HO246.out (by omega)
      (first | cases eo28 | (injection eo28 with ea_ en_ ec_; (first | subst ea_ | (injection ea_ with ea_; subst ea_)); subst ec_; clear en_))
      have GB28 := Aside0.mk gb28
      have GG28 := Aside0.mk HG28
      clear gb28 gl28 HG28
      obtain ⟨hx28_0, hf28_0⟩ := Kd.R_celln 0 HO246.out ((ji25) : Int) p28 q28
      replace p28 := eq_true p28
      replace q28 := eq_true q28
      have HP44 := Kd.R_putn HO246.out ((ji25) : Int) a1
      rw [← Ny251.out] at HP44
      have HQ44 := Aside0.mk HP44
      clear HP44
      refine start_ (n := 14) (S := fun w' => w'.cell? ⟨gb249, 0, none⟩ = some (.slice (some ⟨go28, 0, none⟩) t244.length co35) ∧ w'.cell? ⟨gb249, 1, none⟩ = some (.int .i64 t247) ∧ w'.cell? ⟨gb249, 2, none⟩ = some (.int .i64 t248) ∧ w'.cell? ⟨gb242, 0, none⟩ = some (.slice A0_0 l0_0.length c0_0) ∧ w'.cell? ⟨gb242, 1, none⟩ = some (.int .i64 a0_1) ∧ w'.cell? ⟨gb242, 2, none⟩ = some (.int .i64 a0_2)) (ds := [13]) #[false, false, false, false, false, false, false, false, false, false, false, false, false, false] (by kernel_rfl) rfl rfl ⟨(blk_cell BK249.out 0).trans rfl, (blk_cell BK249.out 1).trans rfl, (blk_cell BK249.out 2).trans rfl, (blk_cell BK242.out 0).trans rfl, (blk_cell BK242.out 1).trans rfl, (blk_cell BK242.out 2).trans rfl⟩ (fun hHeld => ?_); refine with_tabW impl_PushRing.tab4 impl_PushRing.bits4 (fun HT_ HW_ => ?_)
      generalize w41.drew = w43 at HO246 BK242 BK243 BK249 HB GG28 HQ44 hf28_0 hx28_0 hHeld ⊢
      refine pure_ (i := 0) (N := some 21) (v := ?_) (a' := ?_) #[true, false, false, false, false, false, false, false, false, false, false, false, false, false] rfl rfl (any_of HT_.out (by kernel_rfl)) (fun _ _ _ h => h) (Or.inl ⟨by rfl, ?_⟩) ?_ ?_
      rotate_left
      ·
       intro w'
       go_simp
       with_reducible rfl
      rotate_left
      ·
       simp only [Act.put, List.setIfInBounds_toArray, List.set_cons_zero, List.set_cons_succ, i64_w, i32_w]
       rfl
      refine pure_ (i := 2) (N := some 23) (v := ?_) (a' := ?_) #[true, false, true, false, false, false, false, false, false, false, false, false, false, false] rfl rfl (any_of HT_.out (by kernel_rfl)) (fun _ _ _ h => h) (Or.inl ⟨by rfl, ?_⟩) ?_ ?_
      rotate_left
      ·
       intro w'
       go_simp
       with_reducible rfl
      rotate_left
      ·
       simp only [Act.put, List.setIfInBounds_toArray, List.set_cons_zero, List.set_cons_succ, i64_w, i32_w]
       rfl
      refine pure_ (i := 4) (N := some 25) (v := ?_) (a' := ?_) #[true, false, true, false, true, false, false, false, false, false, false, false, false, false] rfl rfl (any_of HT_.out (by kernel_rfl)) (fun _ _ _ h => h) (Or.inl ⟨by rfl, ?_⟩) ?_ ?_
      rotate_left
      ·
       intro w'
       go_simp
       with_reducible rfl
      rotate_left
      ·
       simp only [Act.put, List.setIfInBounds_toArray, List.set_cons_zero, List.set_cons_succ, i64_w, i32_w]
       rfl
      refine pure_ (i := 7) (N := some 28) (v := ?_) (a' := ?_) #[true, false, true, false, true, false, false, true, false, false, false, false, false, false] rfl rfl (any_of HT_.out (by kernel_rfl)) (fun _ _ _ h => h) (Or.inl ⟨by rfl, ?_⟩) ?_ ?_
      rotate_left
      ·
       intro w'
       go_simp
       with_reducible rfl
      rotate_left
      ·
       simp only [Act.put, List.setIfInBounds_toArray, List.set_cons_zero, List.set_cons_succ, i64_w, i32_w]
       rfl
      refine pure_ (i := 11) (N := some 32) (v := ?_) (a' := ?_) #[true, false, true, false, true, false, false, true, false, false, false, true, false, false] rfl rfl (any_of HT_.out (by kernel_rfl)) (fun _ _ _ h => h) (Or.inl ⟨by rfl, ?_⟩) ?_ ?_
      rotate_left
      ·
       intro w'
       go_simp
       with_reducible rfl
      rotate_left
      ·
       simp only [Act.put, List.setIfInBounds_toArray, List.set_cons_zero, List.set_cons_succ, i64_w, i32_w]
       rfl
      refine take_ (i := 1) (N := some 22) (v := ?_) (a' := ?_) #[true, true, true, false, true, false, false, true, false, false, false, true, false, false] rfl rfl (take_ofW HT_.out HW_.out (by kernel_rfl)) (fun _ _ _ h => h) (Or.inl ⟨by rfl, ?_⟩) hHeld ?_ ?_
      rotate_left
      ·
       rintro w' ⟨s0, s1, s2, s3, s4, s5⟩
       go_simp
       with_reducible rfl
      rotate_left
      ·
       simp only [Act.put, List.setIfInBounds_toArray, List.set_cons_zero, List.set_cons_succ, i64_w, i32_w]
       rfl
      refine take_ (i := 3) (N := some 24) (v := ?_) (a' := ?_) #[true, true, true, true, true, false, false, true, false, false, false, true, false, false] rfl rfl (take_ofW HT_.out HW_.out (by kernel_rfl)) (fun _ _ _ h => h) (Or.inl ⟨by rfl, ?_⟩) hHeld ?_ ?_
      rotate_left
      ·
       rintro w' ⟨s0, s1, s2, s3, s4, s5⟩
       go_simp
       with_reducible rfl
      rotate_left
      ·
       simp only [Act.put, List.setIfInBounds_toArray, List.set_cons_zero, List.set_cons_succ, i64_w, i32_w]
       rfl
      refine take_ (i := 5) (N := some 26) (v := ?_) (a' := ?_) #[true, true, true, true, true, true, false, true, false, false, false, true, false, false] rfl rfl (take_ofW HT_.out HW_.out (by kernel_rfl)) (fun _ _ _ h => h) (Or.inl ⟨by rfl, ?_⟩) hHeld ?_ ?_
      rotate_left
      ·
       rintro w' ⟨s0, s1, s2, s3, s4, s5⟩
       go_simp
       with_reducible rfl
      rotate_left
      ·
       simp only [Act.put, List.setIfInBounds_toArray, List.set_cons_zero, List.set_cons_succ, i64_w, i32_w]
       rfl
      refine pure_ (i := 6) (N := some 27) (v := ?_) (a' := ?_) #[true, true, true, true, true, true, true, true, false, false, false, true, false, false] rfl rfl (any_of HT_.out (by kernel_rfl)) (fun _ _ _ h => h) (Or.inl ⟨by rfl, ?_⟩) ?_ ?_
      rotate_left
      ·
       intro w'
       go_simp
       with_reducible rfl
      rotate_left
      ·
       simp only [Act.put, List.setIfInBounds_toArray, List.set_cons_zero, List.set_cons_succ, i64_w, i32_w]
       rfl
      refine take_ (i := 8) (N := some 29) (v := ?_) (a' := ?_) #[true, true, true, true, true, true, true, true, true, false, false, true, false, false] rfl rfl (take_ofW HT_.out HW_.out (by kernel_rfl)) (fun _ _ _ h => h) (Or.inl ⟨by rfl, ?_⟩) hHeld ?_ ?_
      rotate_left
      ·
       rintro w' ⟨s0, s1, s2, s3, s4, s5⟩
       go_simp
       with_reducible rfl
      rotate_left
      ·
       simp only [Act.put, List.setIfInBounds_toArray, List.set_cons_zero, List.set_cons_succ, i64_w, i32_w]
       rfl
      refine pure_ (i := 9) (N := some 30) (v := ?_) (a' := ?_) #[true, true, true, true, true, true, true, true, true, true, false, true, false, false] rfl rfl (any_of HT_.out (by kernel_rfl)) (fun _ _ _ h => h) (Or.inl ⟨by rfl, ?_⟩) ?_ ?_
      rotate_left
      ·
       intro w'
       go_simp
       with_reducible rfl
      rotate_left
      ·
       simp only [Act.put, List.setIfInBounds_toArray, List.set_cons_zero, List.set_cons_succ, i64_w, i32_w]
       rfl
      refine pure_ (i := 10) (N := some 31) (v := ?_) (a' := ?_) #[true, true, true, true, true, true, true, true, true, true, true, true, false, false] rfl rfl (any_of HT_.out (by kernel_rfl)) (fun _ _ _ h => h) (Or.inl ⟨by rfl, ?_⟩) ?_ ?_
      rotate_left
      ·
       intro w'
       go_simp
       with_reducible rfl
      rotate_left
      ·
       simp only [Act.put, List.setIfInBounds_toArray, List.set_cons_zero, List.set_cons_succ, i64_w, i32_w]
       rfl
      refine pure_ (i := 12) (N := some 33) (v := ?_) (a' := ?_) #[true, true, true, true, true, true, true, true, true, true, true, true, true, false] rfl rfl (any_of HT_.out (by kernel_rfl)) (fun _ _ _ h => h) (Or.inl ⟨by rfl, ?_⟩) ?_ ?_
      rotate_left
      ·
       intro w'
       go_simp
       with_reducible rfl
      rotate_left
      ·
       simp only [Act.put, List.setIfInBounds_toArray, List.set_cons_zero, List.set_cons_succ, i64_w, i32_w]
       rfl
      refine last_ (i := 13) (N := none) #[true, true, true, true, true, true, true, true, true, true, true, true, true, true] rfl rfl (one_of HT_.out (by kernel_rfl)) (by decide) (fun K hK => ?_)
      refine skip_ (w1 := ?_) (by rfl) rfl ?_ ?_
      rotate_left
      ·
       go_simp
       rfl
      refine hK.out _ _ ?_
      clear hK K
      refine done_ (done_of HT_.out (by kernel_rfl)) ?_
      have n0_ : Aside0 (Kd.R (Kd.int .i64) 3 (w43.setCell ⟨go28, ((ji25) : Int).toNat, none⟩ (.int .i64 a1)) w.heap.size (fun _ => True) (.slice (some ⟨go28, 0, none⟩) t244.length co35) y251) := ⟨by (with_reducible repeat (first | apply Kd.R_alloc | apply Kd.R_drewN | apply Kd.R_drew)); exact HQ44.out⟩
      have n1_ : Aside0 ((w43.setCell ⟨go28, ((ji25) : Int).toNat, none⟩ (.int .i64 a1)).heap[gb242]? = some (.cells #[.slice A0_0 l0_0.length c0_0, .int .i64 a0_1, .int .i64 a0_2] 24 (0, 0))) := ⟨by (with_reducible repeat first|apply bn_|apply bd_|apply ba_); refine blk_far ?_ (by have h_ := Kd.R_ne HO246.out BK242.out (by decide); intro e_; exact h_ (by rw [e_]; rfl)) _; (with_reducible repeat first|apply bn_|apply bd_|apply ba_); exact BK242.out⟩
      have n2_ : Aside0 ((w43.setCell ⟨go28, ((ji25) : Int).toNat, none⟩ (.int .i64 a1)).heap[gb243]? = some (.cells #[.slice none 0 0, .int .i64 0, .int .i64 0] 24 (0, 0))) := ⟨by (with_reducible repeat first|apply bn_|apply bd_|apply ba_); refine blk_far ?_ (by have h_ := Kd.R_ne HO246.out BK243.out (by decide); intro e_; exact h_ (by rw [e_]; rfl)) _; (with_reducible repeat first|apply bn_|apply bd_|apply ba_); exact BK243.out⟩
      have n3_ : Aside0 ((w43.setCell ⟨go28, ((ji25) : Int).toNat, none⟩ (.int .i64 a1)).heap[gb249]? = some (.cells #[.slice (some ⟨go28, 0, none⟩) t244.length co35, .int .i64 t247, .int .i64 t248] 24 (0, 0))) := ⟨by (with_reducible repeat first|apply bn_|apply bd_|apply ba_); refine blk_far ?_ (by have h_ := Kd.R_ne HO246.out BK249.out (by decide); intro e_; exact h_ (by rw [e_]; rfl)) _; (with_reducible repeat first|apply bn_|apply bd_|apply ba_); exact BK249.out⟩
      have n4_ : Aside0 (Below w.heap.size w (w43.setCell ⟨go28, ((ji25) : Int).toNat, none⟩ (.int .i64 a1))) := ⟨by repeat (first | (with_reducible first | exact HB.out | apply below_alloc | apply pw_below_drewN | apply below_drew1 | refine below_set ?_ GB28.out | refine below_set ?_ GE242.out | refine below_set ?_ GE243.out | refine below_set ?_ GE249.out) | exact HB.out)⟩
      (try clear HO246)
      (try clear BK242)
      (try clear BK243)
      (try clear BK249)
      (try clear HB)
      generalize (w43.setCell ⟨go28, ((ji25) : Int).toNat, none⟩ (.int .i64 a1)) = w45 at n0_ n1_ n2_ n3_ n4_ ⊢
      have HO246 := n0_
      have BK242 := n1_
      have BK243 := n2_
      have BK249 := n3_
      have HB := n4_
      clear n0_ n1_ n2_ n3_ n4_
      have hcz46_0 := cb_ BK249.out 0 rfl
      have hcz46_1 := cb_ BK249.out 1 rfl
      have hcz46_2 := cb_ BK249.out 2 rfl
      have hfz46_0 := blk_frozen BK249.out 0
      have hfz46_1 := blk_frozen BK249.out 1
      have hfz46_2 := blk_frozen BK249.out 2
      try go_wp2_with (first | ((with_reducible refine gate_store (t := 3) (p := 37) rfl ?_); refine store_event (t := 3) (p := 37) (v := ?vo_w47) (w1 := (w45.setCell ⟨gb249, 2, none⟩ (.int .i64 (wrap64 (t248 + 1))))) ?hg ?ho ?hn ?hr ?_; (case ho => rfl); (case hg => rfl); (case hn => rfl); (case hr => first | (go_simp; done) | (go_simp; rfl)); intro w47 hw; have n0_ : Aside0 (Kd.R (Kd.int .i64) 3 w47 w.heap.size (fun _ => True) (.slice (some ⟨go28, 0, none⟩) t244.length co35) y251) := ⟨(by rw [hw]; exact (by (with_reducible repeat (first | apply Kd.R_alloc | apply Kd.R_drewN | apply Kd.R_drew)); exact Kd.R_mono (Kd.R_far (p := ⟨gb249, 2, none⟩) (Kd.R_types HO246.out BK249.out (by decide)) (fun _ hk => by first | exact hk.2 | grind) (.int .i64 (wrap64 (t248 + 1)))) (fun _ hk => trivial)))⟩; have n1_ : Aside0 (w47.heap[gb242]? = some (.cells #[.slice A0_0 l0_0.length c0_0, .int .i64 a0_1, .int .i64 a0_2] 24 (0, 0))) := ⟨(by rw [hw]; exact (uf_ BK242.out))⟩; have n2_ : Aside0 (w47.heap[gb243]? = some (.cells #[.slice none 0 0, .int .i64 0, .int .i64 0] 24 (0, 0))) := ⟨(by rw [hw]; exact (uf_ BK243.out))⟩; have n3_ : Aside0 (w47.heap[gb249]? = some (.cells #[.slice (some ⟨go28, 0, none⟩) t244.length co35, .int .i64 t247, .int .i64 (wrap64 (t248 + 1))] 24 (0, 0))) := ⟨(by rw [hw]; exact (by (with_reducible repeat first|apply bn_|apply bd_|apply ba_); refine blk_put (cs := #[.slice (some ⟨go28, 0, none⟩) t244.length co35, .int .i64 t247, .int .i64 t248]) ?_ 2 _ rfl; (with_reducible repeat first|apply bn_|apply bd_|apply ba_); exact BK249.out))⟩; have n4_ : Aside0 (Below w.heap.size w w47) := ⟨(by rw [hw]; exact (ue_ HB.out))⟩; clear hw HO246 BK242 BK243 BK249 HB; have HO246 := n0_; have BK242 := n1_; have BK243 := n2_; have BK249 := n3_; have HB := n4_; clear n0_ n1_ n2_ n3_ n4_; obtain ⟨hcz48_0, hcz48_1, hcz48_2⟩ := cb3_ BK249.out; obtain ⟨hfz48_0, hfz48_1, hfz48_2⟩ := bf3_ BK249.out; obtain ⟨hcz49_0, hcz49_1, hcz49_2⟩ := cb3_ BK243.out; obtain ⟨hfz49_0, hfz49_1⟩ := bf2_ BK243.out; have hfz49_2 := blk_frozen BK243.out 2) | ((with_reducible refine gate_store (t := 24) (p := 4) rfl ?_); refine store_event (t := 24) (p := 4) (v := ?vo_w50) (w1 := (((w47.setCell ⟨gb243, 0, none⟩ (.slice (some ⟨go28, 0, none⟩) t244.length co35)).setCell ⟨gb243, 1, none⟩ (.int .i64 t247)).setCell ⟨gb243, 2, none⟩ (.int .i64 (wrap64 (t248 + 1))))) ?hg ?ho ?hn ?hr ?_; (case ho => rfl); (case hg => rfl); (case hn => rfl); (case hr => first | (go_simp; done) | (go_simp; rfl)); intro w50 hw; have n0_ : Aside0 (Kd.R (Kd.int .i64) 3 w50 w.heap.size (fun _ => True) (.slice (some ⟨go28, 0, none⟩) t244.length co35) y251) := ⟨(by rw [hw]; exact (by (with_reducible repeat (first | apply Kd.R_alloc | apply Kd.R_drewN | apply Kd.R_drew)); exact Kd.R_mono (Kd.R_far (p := ⟨gb243, 2, none⟩) (Kd.R_far (p := ⟨gb243, 1, none⟩) (Kd.R_far (p := ⟨gb243, 0, none⟩) (Kd.R_types HO246.out BK243.out (by decide)) (fun _ hk => by first | exact hk.2 | grind) (.slice (some ⟨go28, 0, none⟩) t244.length co35)) (fun _ hk => by first | exact hk.2 | grind) (.int .i64 t247)) (fun _ hk => by first | exact hk.2 | grind) (.int .i64 (wrap64 (t248 + 1)))) (fun _ hk => trivial)))⟩; have n1_ : Aside0 (w50.heap[gb242]? = some (.cells #[.slice A0_0 l0_0.length c0_0, .int .i64 a0_1, .int .i64 a0_2] 24 (0, 0))) := ⟨(by rw [hw]; exact (uf_ BK242.out))⟩; have n2_ : Aside0 (w50.heap[gb243]? = some (.cells #[.slice (some ⟨go28, 0, none⟩) t244.length co35, .int .i64 t247, .int .i64 (wrap64 (t248 + 1))] 24 (0, 0))) := ⟨(by rw [hw]; exact (by (with_reducible repeat first|apply bn_|apply bd_|apply ba_); refine blk_put (cs := #[.slice (some ⟨go28, 0, none⟩) t244.length co35, .int .i64 t247, .int .i64 0]) ?_ 2 _ rfl; refine blk_put (cs := #[.slice (some ⟨go28, 0, none⟩) t244.length co35, .int .i64 0, .int .i64 0]) ?_ 1 _ rfl; refine blk_put (cs := #[.slice none 0 0, .int .i64 0, .int .i64 0]) ?_ 0 _ rfl; (with_reducible repeat first|apply bn_|apply bd_|apply ba_); exact BK243.out))⟩; have n3_ : Aside0 (w50.heap[gb249]? = some (.cells #[.slice (some ⟨go28, 0, none⟩) t244.length co35, .int .i64 t247, .int .i64 (wrap64 (t248 + 1))] 24 (0, 0))) := ⟨(by rw [hw]; exact (uf_ BK249.out))⟩; have n4_ : Aside0 (Below w.heap.size w w50) := ⟨(by rw [hw]; exact (ue_ HB.out))⟩; clear hw HO246 BK242 BK243 BK249 HB; have HO246 := n0_; have BK242 := n1_; have BK243 := n2_; have BK249 := n3_; have HB := n4_; clear n0_ n1_ n2_ n3_ n4_))
      refine bodyPost_ret (results_ct rfl _ _ gb243 24 #[.slice (some ⟨go28, 0, none⟩) t244.length co35, .int .i64 t247, .int .i64 (wrap64 (t248 + 1))] (0, 0) _ rfl (ub_ BK243.out) Try.underlying24 rfl (by kernel_rfl)) rfl ?_
      exact ⟨_, by first | rfl | (simp [errW_none, errW_some] <;> rfl) | (simp only [← hji25]; first | rfl | (simp [errW_none, errW_some] <;> rfl)) | (simp [*, errW_none, errW_some] <;> rfl), by (with_reducible repeat (first | apply Kd.R_alloc | apply Kd.R_drewN | apply Kd.R_drew)); exact HO246.out, ue_ HB.out⟩
     ·
      rw [if_neg c27] at H
      exact absurd H (by simp)
    ·
     rw [if_neg c26] at H
     exact absurd H (by simp)
 ·
  replace c5 := Bool.eq_false_iff.mpr c5
  subst c5
  have H1 : (some (t244, t247, t248, false)) = some (r1, r2, r3, r4) := by rw [if_neg (show ¬ (false = true) by decide)] at H; exact H
  clear H
  have H := H1
  clear H1
  simp only [Option.some.injEq, Prod.mk.injEq] at H
  obtain ⟨rfl, rfl, rfl, rfl⟩ := H
  go_enter Try.func91, Try.ntmps91
  go_wp2_with (first | ((with_reducible refine gate_dst (N := 2) rfl ?_); (try (refine gate_guard (by rfl) ?_; dsimp only)); refine box_event ?hg (N := 2) ?hd (cs := #[.slice A0_0 l0_0.length c0_0, .int .i64 a0_1, .int .i64 a0_2]) (t := 24) ?hr ?_; (case hd => rfl); (case hg => rfl); (case hr => first | (go_simp; done) | (go_simp; rfl)); intro gb242 hg w51 hbox hb; have n0_ := am_ (below_step (ue_ HB.out) hb); have n1_ := am_ (hbox); have n2_ := am_ ((by rw [hg]; exact (below_size (ue_ HB.out)) : w.heap.size ≤ gb242)); have n3_ := am_ ((by rw [hg]; exact (below_size (ue_ HB.out)) : w.heap.size ≤ gb242)); clear HB; have HB := n0_; have BK242 := n1_; have GW242 := n2_; have GE242 := n3_; clear n0_ n1_ n2_ n3_; clear hb hbox hg) | ((with_reducible refine gate_dst (N := 4) rfl ?_); (try (refine gate_guard (by rfl) ?_; dsimp only)); refine box_event ?hg (N := 4) ?hd (cs := #[.slice none 0 0, .int .i64 0, .int .i64 0]) (t := 24) ?hr ?_; (case hd => rfl); (case hg => rfl); (case hr => first | (go_simp; done) | (go_simp; rfl)); intro gb243 hg w52 hbox hb; have n0_ := am_ (bb_ BK242.out hb); have n1_ := am_ (below_step (ue_ HB.out) hb); have n2_ := am_ (hbox); have n3_ := am_ ((by rw [hg]; exact (below_size (ue_ HB.out)) : w.heap.size ≤ gb243)); have n4_ := am_ ((by rw [hg]; exact (below_size (ue_ HB.out)) : w.heap.size ≤ gb243)); have n5_ := am_ ((by rw [hg]; exact Nat.ne_of_lt (bl_ BK242.out) : gb242 ≠ gb243)); have n6_ := am_ ((by rw [hg]; exact Nat.ne_of_gt (bl_ BK242.out) : gb243 ≠ gb242)); clear BK242 HB; have BK242 := n0_; have HB := n1_; have BK243 := n2_; have GW243 := n3_; have GE243 := n4_; have NB242_243 := n5_; have NB243_242 := n6_; clear n0_ n1_ n2_ n3_ n4_ n5_ n6_; clear hb hbox hg; have hnb53 := NB242_243.out; have hnc53 := NB243_242.out; obtain ⟨hcz54_0, hcz54_1, hcz54_2⟩ := cb3_ BK242.out; obtain ⟨hfz54_0, hfz54_1⟩ := bf2_ BK242.out; have hfz54_2 := blk_frozen BK242.out 2) | ((with_reducible refine gate_callee (f := 107) rfl ?_); refine goesL_ (some 8) rfl rfl Try.func107 (by kernel_rfl) rfl #[.agg #[.slice A0_0 l0_0.length c0_0, .int .i64 a0_1, .int .i64 a0_2]] rfl ul_ ?_; (with_reducible refine (impl_ownRing.calls _ _ l0_0 a0_1 a0_2 t244 t247 t248 _ ?side1 ?side2 A3.out).mono ?_); (case side1 => repeat (first | exact (Kd.C_below HR0_0.out HB.out) | (with_reducible refine Kd.C_alloc ?_ _) | (with_reducible refine Kd.C_drewN ?_ _) | (with_reducible refine Kd.C_drew ?_))); (case side2 => exact HC0_0.out); rintro e w55 ⟨v245, rfl, ho0, hb⟩; refine ⟨_, rfl, ?_⟩; have n0_ := am_ (Kd.R_lower ho0 (below_size (ue_ HB.out))); have n1_ := am_ (bb_ BK242.out hb); have n2_ := am_ (bb_ BK243.out hb); have n3_ := am_ (below_step (ue_ HB.out) hb); clear BK242 BK243 HB; have HO246 := n0_; have BK242 := n1_; have BK243 := n2_; have HB := n3_; clear n0_ n1_ n2_ n3_; (try clear hb); (try clear hb2); (try clear hk); (try clear hi); (try clear ho0)) | ((with_reducible refine gate_dst (N := 6) rfl ?_); (try (refine gate_guard (by rfl) ?_; dsimp only)); refine box_event ?hg (N := 6) ?hd (cs := #[.slice none 0 0, .int .i64 0, .int .i64 0]) (t := 24) ?hr ?_; (case hd => rfl); (case hg => rfl); (case hr => first | (go_simp; done) | (go_simp; rfl)); intro gb249 hg w56 hbox hb; have n0_ := am_ (Kd.R_below (ur_ HO246.out) hb); have n1_ := am_ (bb_ BK242.out hb); have n2_ := am_ (bb_ BK243.out hb); have n3_ := am_ (below_step (ue_ HB.out) hb); have n4_ := am_ (hbox); have n5_ := am_ ((by rw [hg]; exact (below_size (ue_ HB.out)) : w.heap.size ≤ gb249)); have n6_ := am_ ((by rw [hg]; exact (below_size (ue_ HB.out)) : w.heap.size ≤ gb249)); have n7_ := am_ ((by rw [hg]; exact Nat.ne_of_lt (bl_ BK242.out) : gb242 ≠ gb249)); have n8_ := am_ ((by rw [hg]; exact Nat.ne_of_gt (bl_ BK242.out) : gb249 ≠ gb242)); have n9_ := am_ ((by rw [hg]; exact Nat.ne_of_lt (bl_ BK243.out) : gb243 ≠ gb249)); have n10_ := am_ ((by rw [hg]; exact Nat.ne_of_gt (bl_ BK243.out) : gb249 ≠ gb243)); clear HO246 BK242 BK243 HB; have HO246 := n0_; have BK242 := n1_; have BK243 := n2_; have HB := n3_; have BK249 := n4_; have GW249 := n5_; have GE249 := n6_; have NB242_249 := n7_; have NB249_242 := n8_; have NB243_249 := n9_; have NB249_243 := n10_; clear n0_ n1_ n2_ n3_ n4_ n5_ n6_ n7_ n8_ n9_ n10_; clear hb hbox hg; obtain ⟨Ao57, co57, eo57⟩ := Kd.R_slice HO246.out; subst eo57; have hnb58 := NB249_242.out; have hnc58 := NB242_249.out; have hnb59 := NB249_243.out; have hnc59 := NB243_249.out; obtain ⟨hcz60_0, hcz60_1, hcz60_2⟩ := cb3_ BK249.out; obtain ⟨hfz60_0, hfz60_1⟩ := bf2_ BK249.out; have hfz60_2 := blk_frozen BK249.out 2) | ((with_reducible refine gate_store (t := 24) (p := 6) rfl ?_); refine store_event (t := 24) (p := 6) (v := ?vo_w61) (w1 := (((w56.setCell ⟨gb249, 0, none⟩ (.slice Ao57 t244.length co57)).setCell ⟨gb249, 1, none⟩ (.int .i64 t247)).setCell ⟨gb249, 2, none⟩ (.int .i64 t248))) ?hg ?ho ?hn ?hr ?_; (case ho => rfl); (case hg => rfl); (case hn => rfl); (case hr => first | (go_simp; done) | (go_simp; rfl)); intro w61 hw; have n0_ : Aside0 (Kd.R (Kd.int .i64) 3 w61 w.heap.size (fun _ => True) (.slice Ao57 t244.length co57) t244) := ⟨(by rw [hw]; exact (by (with_reducible repeat (first | apply Kd.R_alloc | apply Kd.R_drewN | apply Kd.R_drew)); exact Kd.R_mono (Kd.R_far (p := ⟨gb249, 2, none⟩) (Kd.R_far (p := ⟨gb249, 1, none⟩) (Kd.R_far (p := ⟨gb249, 0, none⟩) (Kd.R_types HO246.out BK249.out (by decide)) (fun _ hk => by first | exact hk.2 | grind) (.slice Ao57 t244.length co57)) (fun _ hk => by first | exact hk.2 | grind) (.int .i64 t247)) (fun _ hk => by first | exact hk.2 | grind) (.int .i64 t248)) (fun _ hk => trivial)))⟩; have n1_ : Aside0 (w61.heap[gb242]? = some (.cells #[.slice A0_0 l0_0.length c0_0, .int .i64 a0_1, .int .i64 a0_2] 24 (0, 0))) := ⟨(by rw [hw]; exact (uf_ BK242.out))⟩; have n2_ : Aside0 (w61.heap[gb243]? = some (.cells #[.slice none 0 0, .int .i64 0, .int .i64 0] 24 (0, 0))) := ⟨(by rw [hw]; exact (uf_ BK243.out))⟩; have n3_ : Aside0 (w61.heap[gb249]? = some (.cells #[.slice Ao57 t244.length co57, .int .i64 t247, .int .i64 t248] 24 (0, 0))) := ⟨(by rw [hw]; exact (by (with_reducible repeat first|apply bn_|apply bd_|apply ba_); refine blk_put (cs := #[.slice Ao57 t244.length co57, .int .i64 t247, .int .i64 0]) ?_ 2 _ rfl; refine blk_put (cs := #[.slice Ao57 t244.length co57, .int .i64 0, .int .i64 0]) ?_ 1 _ rfl; refine blk_put (cs := #[.slice none 0 0, .int .i64 0, .int .i64 0]) ?_ 0 _ rfl; (with_reducible repeat first|apply bn_|apply bd_|apply ba_); exact BK249.out))⟩; have n4_ : Aside0 (Below w.heap.size w w61) := ⟨(by rw [hw]; exact (ue_ HB.out))⟩; clear hw HO246 BK242 BK243 BK249 HB; have HO246 := n0_; have BK242 := n1_; have BK243 := n2_; have BK249 := n3_; have HB := n4_; clear n0_ n1_ n2_ n3_ n4_; obtain ⟨hcz62_0, hcz62_1, hcz62_2⟩ := cb3_ BK242.out; obtain ⟨hfz62_0, hfz62_1⟩ := bf2_ BK242.out; have hfz62_2 := blk_frozen BK242.out 2) | ((with_reducible refine gate_callee (f := 105) rfl ?_); refine goesL_ (some 10) rfl rfl Try.func105 (by kernel_rfl) rfl #[.agg #[.slice A0_0 l0_0.length c0_0, .int .i64 a0_1, .int .i64 a0_2]] rfl ul_ ?_; (with_reducible refine (impl_RingOk.calls k _ _ l0_0 a0_1 a0_2 false _ ?side1 ?side2 A4.out).mono ?_); (case side1 => repeat (first | exact (Kd.C_below HR0_0.out HB.out) | (with_reducible refine Kd.C_alloc ?_ _) | (with_reducible refine Kd.C_drewN ?_ _) | (with_reducible refine Kd.C_drew ?_))); (case side2 => exact HC0_0.out); rintro e w63 ⟨rfl, hb⟩; refine ⟨_, rfl, ?_⟩; have n0_ := am_ (Kd.R_below (ur_ HO246.out) hb); have n1_ := am_ (bb_ BK242.out hb); have n2_ := am_ (bb_ BK243.out hb); have n3_ := am_ (bb_ BK249.out hb); have n4_ := am_ (below_step (ue_ HB.out) hb); clear HO246 BK242 BK243 BK249 HB; have HO246 := n0_; have BK242 := n1_; have BK243 := n2_; have BK249 := n3_; have HB := n4_; clear n0_ n1_ n2_ n3_ n4_; (try clear hb); (try clear hb2); (try clear hk); (try clear hi); obtain ⟨hcz64_0, hcz64_1, hcz64_2⟩ := cb3_ BK249.out; obtain ⟨hfz64_0, hfz64_1, hfz64_2⟩ := bf3_ BK249.out; obtain ⟨hcz65_0, hcz65_1, hcz65_2⟩ := cb3_ BK243.out; obtain ⟨hfz65_0, hfz65_1⟩ := bf2_ BK243.out; have hfz65_2 := blk_frozen BK243.out 2) | ((with_reducible refine gate_store (t := 24) (p := 4) rfl ?_); refine store_event (t := 24) (p := 4) (v := ?vo_w66) (w1 := (((w63.setCell ⟨gb243, 0, none⟩ (.slice Ao57 t244.length co57)).setCell ⟨gb243, 1, none⟩ (.int .i64 t247)).setCell ⟨gb243, 2, none⟩ (.int .i64 t248))) ?hg ?ho ?hn ?hr ?_; (case ho => rfl); (case hg => rfl); (case hn => rfl); (case hr => first | (go_simp; done) | (go_simp; rfl)); intro w66 hw; have n0_ : Aside0 (Kd.R (Kd.int .i64) 3 w66 w.heap.size (fun _ => True) (.slice Ao57 t244.length co57) t244) := ⟨(by rw [hw]; exact (by (with_reducible repeat (first | apply Kd.R_alloc | apply Kd.R_drewN | apply Kd.R_drew)); exact Kd.R_mono (Kd.R_far (p := ⟨gb243, 2, none⟩) (Kd.R_far (p := ⟨gb243, 1, none⟩) (Kd.R_far (p := ⟨gb243, 0, none⟩) (Kd.R_types HO246.out BK243.out (by decide)) (fun _ hk => by first | exact hk.2 | grind) (.slice Ao57 t244.length co57)) (fun _ hk => by first | exact hk.2 | grind) (.int .i64 t247)) (fun _ hk => by first | exact hk.2 | grind) (.int .i64 t248)) (fun _ hk => trivial)))⟩; have n1_ : Aside0 (w66.heap[gb242]? = some (.cells #[.slice A0_0 l0_0.length c0_0, .int .i64 a0_1, .int .i64 a0_2] 24 (0, 0))) := ⟨(by rw [hw]; exact (uf_ BK242.out))⟩; have n2_ : Aside0 (w66.heap[gb243]? = some (.cells #[.slice Ao57 t244.length co57, .int .i64 t247, .int .i64 t248] 24 (0, 0))) := ⟨(by rw [hw]; exact (by (with_reducible repeat first|apply bn_|apply bd_|apply ba_); refine blk_put (cs := #[.slice Ao57 t244.length co57, .int .i64 t247, .int .i64 0]) ?_ 2 _ rfl; refine blk_put (cs := #[.slice Ao57 t244.length co57, .int .i64 0, .int .i64 0]) ?_ 1 _ rfl; refine blk_put (cs := #[.slice none 0 0, .int .i64 0, .int .i64 0]) ?_ 0 _ rfl; (with_reducible repeat first|apply bn_|apply bd_|apply ba_); exact BK243.out))⟩; have n3_ : Aside0 (w66.heap[gb249]? = some (.cells #[.slice Ao57 t244.length co57, .int .i64 t247, .int .i64 t248] 24 (0, 0))) := ⟨(by rw [hw]; exact (uf_ BK249.out))⟩; have n4_ : Aside0 (Below w.heap.size w w66) := ⟨(by rw [hw]; exact (ue_ HB.out))⟩; clear hw HO246 BK242 BK243 BK249 HB; have HO246 := n0_; have BK242 := n1_; have BK243 := n2_; have BK249 := n3_; have HB := n4_; clear n0_ n1_ n2_ n3_ n4_))
  refine bodyPost_ret (results_ct rfl _ _ gb243 24 #[.slice Ao57 t244.length co57, .int .i64 t247, .int .i64 t248] (0, 0) _ rfl (ub_ BK243.out) Try.underlying24 rfl (by kernel_rfl)) rfl ?_
  exact ⟨_, ew_, by (with_reducible repeat (first | apply Kd.R_alloc | apply Kd.R_drewN | apply Kd.R_drew)); exact HO246.out, ue_ HB.out⟩

/-! ### impl_PlayLink: function 16 -/
mutual
def impl_PlayLink.j0 : Nat → Int → List Int → Bool → List Int → Int → Int → Option (List Int × Int × Int × Int × Int × List Int)
 | 0, _, _, _, _, _, _ => none
 | k + 1, x0, x1, x29, x261000, x261001, x261002 => if x29 = true then (some (([] : List Int), 0, 0, 0, 0, ([] : List Int))) else (impl_PlayLink.l0 k (([] : List Int)) x1 (x1.length : Int) 0 x261000 x261001 x261002 x0 0)
def impl_PlayLink.l0 : Nat → List Int → List Int → Int → Int → List Int → Int → Int → Int → Int → Option (List Int × Int × Int × Int × Int × List Int)
 | 0, _, _, _, _, _, _, _, _, _ => none
 | k + 1, x10, x35, x36, x37, x261000, x261001, x261002, x265000, x265001 => if x37 < x36 then (if 0 ≤ x37 then (if x37 < (x35.length : Int) then (if (rd x35 x37) < 0 then ((impl_PopRing.f k x261000 x261001 x261002).bind fun bt266 => (if bt266.2.2.2.2 = true then ((impl_ReturnCredit.f x265000 x265001).bind fun bt274 => (if x10.length < 17592186044416 then (impl_PlayLink.l0 k (x10 ++ [bt266.2.2.2.1]) x35 x36 (wrap64 (x37 + 1)) bt266.1 bt266.2.1 bt266.2.2.1 bt274.1 bt274.2.1) else (none))) else (if x10.length < 17592186044416 then (impl_PlayLink.l0 k (x10 ++ [(-1)]) x35 x36 (wrap64 (x37 + 1)) x261000 x261001 x261002 x265000 x265001) else (none)))) else ((impl_SpendCredit.f x265000 x265001).bind fun bt283 => (if bt283.2.2 = true then ((impl_PushRing.f k x261000 x261001 x261002 (rd x35 x37)).bind fun bt287 => (if x10.length < 17592186044416 then (impl_PlayLink.l0 k (x10 ++ [1]) x35 x36 (wrap64 (x37 + 1)) bt287.1 bt287.2.1 bt287.2.2.1 bt283.1 bt283.2.1) else (none))) else (if x10.length < 17592186044416 then (impl_PlayLink.l0 k (x10 ++ [0]) x35 x36 (wrap64 (x37 + 1)) x261000 x261001 x261002 x265000 x265001) else (none))))) else (none)) else (none)) else (some (x261000, x261001, x261002, x265000, x265001, x10))
end
def impl_PlayLink.f (k : Nat) (a0 : Int) (l1 : List Int) : Option (List Int × Int × Int × Int × Int × List Int) := (impl_NewRing.f a0).bind fun bt254 => (if bt254.2.2.2 = true then (impl_PlayLink.j0 k a0 l1 (decide ((l1.length : Int) > 300)) bt254.1 bt254.2.1 bt254.2.2.1) else (impl_PlayLink.j0 k a0 l1 true bt254.1 bt254.2.1 bt254.2.2.1))
theorem impl_PlayLink.mono_l : ∀ k, (∀ y0 y1 y2 y3 y4 y5, LeO (impl_PlayLink.j0 k y0 y1 y2 y3 y4 y5) (impl_PlayLink.j0 (k + 1) y0 y1 y2 y3 y4 y5)) ∧ (∀ y0 y1 y2 y3 y4 y5 y6 y7 y8, LeO (impl_PlayLink.l0 k y0 y1 y2 y3 y4 y5 y6 y7 y8) (impl_PlayLink.l0 (k + 1) y0 y1 y2 y3 y4 y5 y6 y7 y8))
 | 0 => ⟨fun _ _ _ _ _ _ r h => by simp [impl_PlayLink.j0] at h, fun _ _ _ _ _ _ _ _ _ r h => by simp [impl_PlayLink.l0] at h⟩
 | k + 1 => by
  obtain ⟨ih0, ih1⟩ := impl_PlayLink.mono_l k
  refine ⟨?_, ?_⟩
  ·
   intro y0 y1 y2 y3 y4 y5
   unfold impl_PlayLink.j0
   repeat' first
   | (with_reducible exact ih0 _ _ _ _ _ _)
   | (with_reducible exact ih1 _ _ _ _ _ _ _ _ _)
   | (with_reducible exact impl_PopRing.mono _ _ _ _)
   | (with_reducible exact impl_PushRing.mono _ _ _ _ _)
   | (with_reducible exact LeO.refl _)
   | (with_reducible exact LeO.none _)
   | (with_reducible refine LeO.ite ?_ ?_)
   | (with_reducible refine LeO.bind ?_ (fun _ => ?_))
   | exact ih0 _ _ _ _ _ _
   | exact ih1 _ _ _ _ _ _ _ _ _
   | exact impl_PopRing.mono _ _ _ _
   | exact impl_PushRing.mono _ _ _ _ _
   | exact LeO.none _
   | refine LeO.ite ?_ ?_
   | refine LeO.bind ?_ (fun _ => ?_)
  ·
   intro y0 y1 y2 y3 y4 y5 y6 y7 y8
   unfold impl_PlayLink.l0
   repeat' first
   | (with_reducible exact ih0 _ _ _ _ _ _)
   | (with_reducible exact ih1 _ _ _ _ _ _ _ _ _)
   | (with_reducible exact impl_PopRing.mono _ _ _ _)
   | (with_reducible exact impl_PushRing.mono _ _ _ _ _)
   | (with_reducible exact LeO.refl _)
   | (with_reducible exact LeO.none _)
   | (with_reducible refine LeO.ite ?_ ?_)
   | (with_reducible refine LeO.bind ?_ (fun _ => ?_))
   | exact ih0 _ _ _ _ _ _
   | exact ih1 _ _ _ _ _ _ _ _ _
   | exact impl_PopRing.mono _ _ _ _
   | exact impl_PushRing.mono _ _ _ _ _
   | exact LeO.none _
   | refine LeO.ite ?_ ?_
   | refine LeO.bind ?_ (fun _ => ?_)
theorem impl_PlayLink.mono : ∀ a0 a1 k, LeO (impl_PlayLink.f k a0 a1) (impl_PlayLink.f (k + 1) a0 a1) := by
 intro a0 a1 k
 obtain ⟨ih0, ih1⟩ := impl_PlayLink.mono_l k
 unfold impl_PlayLink.f
 repeat' first
   | (with_reducible exact ih0 _ _ _ _ _ _)
   | (with_reducible exact ih1 _ _ _ _ _ _ _ _ _)
   | (with_reducible exact impl_PopRing.mono _ _ _ _)
   | (with_reducible exact impl_PushRing.mono _ _ _ _ _)
   | (with_reducible exact LeO.refl _)
   | (with_reducible exact LeO.none _)
   | (with_reducible refine LeO.ite ?_ ?_)
   | (with_reducible refine LeO.bind ?_ (fun _ => ?_))
   | exact ih0 _ _ _ _ _ _
   | exact ih1 _ _ _ _ _ _ _ _ _
   | exact impl_PopRing.mono _ _ _ _
   | exact impl_PushRing.mono _ _ _ _ _
   | exact LeO.none _
   | refine LeO.ite ?_ ?_
   | refine LeO.bind ?_ (fun _ => ?_)
set_option maxHeartbeats 8000000 in
set_option maxRecDepth 100000 in
theorem impl_PlayLink.calls (k : Nat) (a0 : Int) (A1 : Option Addr) (c1 : Nat) (l1 : List Int) (r1 : List Int) (r2 : Int) (r3 : Int) (r4 : Int) (r5 : Int) (r6 : List Int) (w : World) (hr1 : Kd.C (Kd.int .i64) w A1 l1.length l1) (hc1 : l1.length ≤ c1) (h : impl_PlayLink.f k a0 l1 = some (r1, r2, r3, r4, r5, r6)) :
  Calls Try.prog 16 #[.int .i64 a0, .slice A1 l1.length c1] w fun e w' => ∃ v0_ v5_ : Value, e = .returned (.tuple #[.agg #[v0_, .int .i64 r2, .int .i64 r3], .agg #[.int .i64 r4, .int .i64 r5], v5_]) ∧ Kd.R (Kd.int .i64) 3 w' w.heap.size (fun k_ => some k_ ≠ (v5_ : Value).ownBlock) v0_ r1 ∧ Kd.R (Kd.int .i64) 3 w' w.heap.size (fun k_ => some k_ ≠ (v0_ : Value).ownBlock) v5_ r6 ∧ Below w.heap.size w w' := by
 have hu24 := Try.underlying24
 have hu26 := Try.underlying26
 have HR1 := Aside0.mk hr1
 have HC1 := Aside0.mk hc1
 clear hr1 hc1
 have HB := am_ (Below.refl w.heap.size w)
 have H : ((impl_NewRing.f a0).bind fun bt254 => (if bt254.2.2.2 = true then (impl_PlayLink.j0 k a0 l1 (decide ((l1.length : Int) > 300)) bt254.1 bt254.2.1 bt254.2.2.1) else (impl_PlayLink.j0 k a0 l1 true bt254.1 bt254.2.1 bt254.2.2.1))) = some (r1, r2, r3, r4, r5, r6) := h
 clear h
 replace H := Option.bind_eq_some_iff.mp H
 obtain ⟨⟨t254, t257, t258, t259⟩, A30, H⟩ := H
 replace H : (if t259 = true then (impl_PlayLink.j0 k a0 l1 (decide ((l1.length : Int) > 300)) t254 t257 t258) else (impl_PlayLink.j0 k a0 l1 true t254 t257 t258)) = some (r1, r2, r3, r4, r5, r6) := H
 have A3 := Aside0.mk A30
 clear A30
 have HC4 := Aside0.mk H
 clear H
 go_enter Try.func16, Try.ntmps16
 go_upto_region 2 with (first | ((with_reducible refine gate_dst (N := 4) rfl ?_); (try (refine gate_guard (by rfl) ?_; dsimp only)); refine box_event ?hg (N := 4) ?hd (cs := #[.slice none 0 0, .int .i64 0, .int .i64 0]) (t := 24) ?hr ?_; (case hd => rfl); (case hg => rfl); (case hr => first | (go_simp; done) | (go_simp; rfl)); intro gb252 hg w5 hbox hb; have n0_ := am_ (below_step (ue_ HB.out) hb); have n1_ := am_ (hbox); have n2_ := am_ ((by rw [hg]; exact (below_size (ue_ HB.out)) : w.heap.size ≤ gb252)); have n3_ := am_ ((by rw [hg]; exact (below_size (ue_ HB.out)) : w.heap.size ≤ gb252)); clear HB; have HB := n0_; have BK252 := n1_; have GW252 := n2_; have GE252 := n3_; clear n0_ n1_ n2_ n3_; clear hb hbox hg) | ((with_reducible refine gate_dst (N := 5) rfl ?_); (try (refine gate_guard (by rfl) ?_; dsimp only)); refine box_event ?hg (N := 5) ?hd (cs := #[.int .i64 0, .int .i64 0]) (t := 26) ?hr ?_; (case hd => rfl); (case hg => rfl); (case hr => first | (go_simp; done) | (go_simp; rfl)); intro gb253 hg w6 hbox hb; have n0_ := am_ (bb_ BK252.out hb); have n1_ := am_ (below_step (ue_ HB.out) hb); have n2_ := am_ (hbox); have n3_ := am_ ((by rw [hg]; exact (below_size (ue_ HB.out)) : w.heap.size ≤ gb253)); have n4_ := am_ ((by rw [hg]; exact (below_size (ue_ HB.out)) : w.heap.size ≤ gb253)); have n5_ := am_ ((by rw [hg]; exact Nat.ne_of_lt (bl_ BK252.out) : gb252 ≠ gb253)); have n6_ := am_ ((by rw [hg]; exact Nat.ne_of_gt (bl_ BK252.out) : gb253 ≠ gb252)); clear BK252 HB; have BK252 := n0_; have HB := n1_; have BK253 := n2_; have GW253 := n3_; have GE253 := n4_; have NB252_253 := n5_; have NB253_252 := n6_; clear n0_ n1_ n2_ n3_ n4_ n5_ n6_; clear hb hbox hg) | ((with_reducible refine gate_callee (f := 87) rfl ?_); refine goesL_ (some 20) rfl rfl Try.func87 (by kernel_rfl) rfl #[.int .i64 a0] rfl ul_ ?_; (with_reducible refine (impl_NewRing.calls a0 t254 t257 t258 t259 _ A3.out).mono ?_); rintro e w7 ⟨v255, rfl, ho0, hb⟩; refine ⟨_, rfl, ?_⟩; have n0_ := am_ (Kd.R_lower ho0 (below_size (ue_ HB.out))); have n1_ := am_ (bb_ BK252.out hb); have n2_ := am_ (bb_ BK253.out hb); have n3_ := am_ (below_step (ue_ HB.out) hb); clear BK252 BK253 HB; have HO256 := n0_; have BK252 := n1_; have BK253 := n2_; have HB := n3_; clear n0_ n1_ n2_ n3_; (try clear hb); (try clear hb2); (try clear hk); (try clear hi); (try clear ho0)) | ((with_reducible refine gate_dst (N := 7) rfl ?_); (try (refine gate_guard (by rfl) ?_; dsimp only)); refine box_event ?hg (N := 7) ?hd (cs := #[.slice none 0 0, .int .i64 0, .int .i64 0]) (t := 24) ?hr ?_; (case hd => rfl); (case hg => rfl); (case hr => first | (go_simp; done) | (go_simp; rfl)); intro gb260 hg w8 hbox hb; have n0_ := am_ (Kd.R_below (ur_ HO256.out) hb); have n1_ := am_ (bb_ BK252.out hb); have n2_ := am_ (bb_ BK253.out hb); have n3_ := am_ (below_step (ue_ HB.out) hb); have n4_ := am_ (hbox); have n5_ := am_ ((by rw [hg]; exact (below_size (ue_ HB.out)) : w.heap.size ≤ gb260)); have n6_ := am_ ((by rw [hg]; exact (below_size (ue_ HB.out)) : w.heap.size ≤ gb260)); have n7_ := am_ ((by rw [hg]; exact Nat.ne_of_lt (bl_ BK252.out) : gb252 ≠ gb260)); have n8_ := am_ ((by rw [hg]; exact Nat.ne_of_gt (bl_ BK252.out) : gb260 ≠ gb252)); have n9_ := am_ ((by rw [hg]; exact Nat.ne_of_lt (bl_ BK253.out) : gb253 ≠ gb260)); have n10_ := am_ ((by rw [hg]; exact Nat.ne_of_gt (bl_ BK253.out) : gb260 ≠ gb253)); clear HO256 BK252 BK253 HB; have HO256 := n0_; have BK252 := n1_; have BK253 := n2_; have HB := n3_; have BK260 := n4_; have GW260 := n5_; have GE260 := n6_; have NB252_260 := n7_; have NB260_252 := n8_; have NB253_260 := n9_; have NB260_253 := n10_; clear n0_ n1_ n2_ n3_ n4_ n5_ n6_ n7_ n8_ n9_ n10_; clear hb hbox hg; obtain ⟨Ao9, co9, eo9⟩ := Kd.R_slice HO256.out; subst eo9; have hnb10 := NB260_252.out; have hnc10 := NB252_260.out; have hnb11 := NB260_253.out; have hnc11 := NB253_260.out; obtain ⟨hcz12_0, hcz12_1, hcz12_2⟩ := cb3_ BK260.out; obtain ⟨hfz12_0, hfz12_1⟩ := bf2_ BK260.out; have hfz12_2 := blk_frozen BK260.out 2) | ((with_reducible refine gate_store (t := 24) (p := 7) rfl ?_); refine store_event (t := 24) (p := 7) (v := ?vo_w13) (w1 := (((w8.setCell ⟨gb260, 0, none⟩ (.slice Ao9 t254.length co9)).setCell ⟨gb260, 1, none⟩ (.int .i64 t257)).setCell ⟨gb260, 2, none⟩ (.int .i64 t258))) ?hg ?ho ?hn ?hr ?_; (case ho => rfl); (case hg => rfl); (case hn => rfl); (case hr => first | (go_simp; done) | (go_simp; rfl)); intro w13 hw; have n0_ : Aside0 (Kd.R (Kd.int .i64) 3 w13 w.heap.size (fun _ => True) (.slice Ao9 t254.length co9) t254) := ⟨(by rw [hw]; exact (by (with_reducible repeat (first | apply Kd.R_alloc | apply Kd.R_drewN | apply Kd.R_drew)); exact Kd.R_mono (Kd.R_far (p := ⟨gb260, 2, none⟩) (Kd.R_far (p := ⟨gb260, 1, none⟩) (Kd.R_far (p := ⟨gb260, 0, none⟩) (Kd.R_types HO256.out BK260.out (by decide)) (fun _ hk => by first | exact hk.2 | grind) (.slice Ao9 t254.length co9)) (fun _ hk => by first | exact hk.2 | grind) (.int .i64 t257)) (fun _ hk => by first | exact hk.2 | grind) (.int .i64 t258)) (fun _ hk => trivial)))⟩; have n1_ : Aside0 (w13.heap[gb252]? = some (.cells #[.slice none 0 0, .int .i64 0, .int .i64 0] 24 (0, 0))) := ⟨(by rw [hw]; exact (uf_ BK252.out))⟩; have n2_ : Aside0 (w13.heap[gb253]? = some (.cells #[.int .i64 0, .int .i64 0] 26 (0, 0))) := ⟨(by rw [hw]; exact (uf_ BK253.out))⟩; have n3_ : Aside0 (w13.heap[gb260]? = some (.cells #[.slice Ao9 t254.length co9, .int .i64 t257, .int .i64 t258] 24 (0, 0))) := ⟨(by rw [hw]; exact (by (with_reducible repeat first|apply bn_|apply bd_|apply ba_); refine blk_put (cs := #[.slice Ao9 t254.length co9, .int .i64 t257, .int .i64 0]) ?_ 2 _ rfl; refine blk_put (cs := #[.slice Ao9 t254.length co9, .int .i64 0, .int .i64 0]) ?_ 1 _ rfl; refine blk_put (cs := #[.slice none 0 0, .int .i64 0, .int .i64 0]) ?_ 0 _ rfl; (with_reducible repeat first|apply bn_|apply bd_|apply ba_); exact BK260.out))⟩; have n4_ : Aside0 (Below w.heap.size w w13) := ⟨(by rw [hw]; exact (ue_ HB.out))⟩; clear hw HO256 BK252 BK253 BK260 HB; have HO256 := n0_; have BK252 := n1_; have BK253 := n2_; have BK260 := n3_; have HB := n4_; clear n0_ n1_ n2_ n3_ n4_))
 (try simp only [Act.put, List.setIfInBounds_toArray, List.set_cons_zero, List.set_cons_succ])
 go_cut [29] (fun v29 wc => ∃ (kq : Nat) (x29_3 : Bool), v29 = .bool x29_3 ∧ Aside0 (impl_PlayLink.j0 kq a0 l1 x29_3 t254 t257 t258 = some (r1, r2, r3, r4, r5, r6)) ∧ Aside0 (kq ≤ k) ∧ Aside0 (Kd.R (Kd.int .i64) 3 wc w.heap.size (fun _ => True) (.slice Ao9 t254.length co9) t254) ∧ Aside0 (wc.heap[gb252]? = some (.cells #[(.slice none 0 0), .int .i64 0, .int .i64 0] 24 (0, 0))) ∧ Aside0 (wc.heap[gb253]? = some (.cells #[.int .i64 0, .int .i64 0] 26 (0, 0))) ∧ Aside0 (wc.heap[gb260]? = some (.cells #[(.slice Ao9 t254.length co9), .int .i64 t257, .int .i64 t258] 24 (0, 0))) ∧ Aside0 (Below w.heap.size w wc))
 case first =>
  have H := HC4.out
  clear HC4
  by_cases c14 : t259 = true
  ·
   subst c14
   have H1 : (impl_PlayLink.j0 k a0 l1 (decide ((l1.length : Int) > 300)) t254 t257 t258) = some (r1, r2, r3, r4, r5, r6) := by rw [if_pos rfl] at H; exact H
   clear H
   have H := H1
   clear H1
   have H' := Aside0.mk H
   clear H
   go_wp2
   go_meet
   case rel => exact ⟨_, (decide ((l1.length : Int) > 300)), (by first | rfl | (simp; done) | (simp [*]; done)), H', ⟨by first | omega | exact Nat.le_refl _⟩, ⟨by (with_reducible repeat (first | apply Kd.R_alloc | apply Kd.R_drewN | apply Kd.R_drew)); exact HO256.out⟩, ⟨by (with_reducible repeat first|apply bn_|apply bd_|apply ba_); exact BK252.out⟩, ⟨by (with_reducible repeat first|apply bn_|apply bd_|apply ba_); exact BK253.out⟩, ⟨by (with_reducible repeat first|apply bn_|apply bd_|apply ba_); exact BK260.out⟩, ⟨ue_ HB.out⟩⟩
  ·
   replace c14 := Bool.eq_false_iff.mpr c14
   subst c14
   have H1 : (impl_PlayLink.j0 k a0 l1 true t254 t257 t258) = some (r1, r2, r3, r4, r5, r6) := by rw [if_neg (show ¬ (false = true) by decide)] at H; exact H
   clear H
   have H := H1
   clear H1
   have H' := Aside0.mk H
   clear H
   go_wp2
   go_meet
   case rel => exact ⟨_, (true), (by first | rfl | (simp; done) | (simp [*]; done)), H', ⟨by first | omega | exact Nat.le_refl _⟩, ⟨by (with_reducible repeat (first | apply Kd.R_alloc | apply Kd.R_drewN | apply Kd.R_drew)); exact HO256.out⟩, ⟨by (with_reducible repeat first|apply bn_|apply bd_|apply ba_); exact BK252.out⟩, ⟨by (with_reducible repeat first|apply bn_|apply bd_|apply ba_); exact BK253.out⟩, ⟨by (with_reducible repeat first|apply bn_|apply bd_|apply ba_); exact BK260.out⟩, ⟨ue_ HB.out⟩⟩
 case rest =>
  clear HC4
  try clear c1
  try clear p2
  try clear c8
  try clear c10
  try clear c11
  try clear c14
  try clear hcz12_0
  try clear hcz12_1
  try clear hcz12_2
  try clear hfz12_0
  try clear hfz12_1
  try clear hfz12_2
  obtain ⟨kq, x29_3, rfl, HA, HJ3, HO_261000, BK252, BK253, BK260, HB⟩ := hcut
  cases kq with
  | zero => exact absurd HA.out (by simp [impl_PlayLink.j0])
  | succ kj3 =>
   have H := HA.out
   clear HA
   simp only [impl_PlayLink.j0] at H
   by_cases c15 : x29_3 = true
   ·
    subst c15
    have H1 : (some (([] : List Int), 0, 0, 0, 0, ([] : List Int))) = some (r1, r2, r3, r4, r5, r6) := by rw [if_pos rfl] at H; exact H
    clear H
    have H := H1
    clear H1
    simp only [Option.some.injEq, Prod.mk.injEq] at H
    obtain ⟨rfl, rfl, rfl, rfl, rfl, rfl⟩ := H
    have hnb16 := NB252_253.out
    have hnc16 := NB253_252.out
    have hnb17 := NB252_260.out
    have hnc17 := NB260_252.out
    have hcz18_0 := cb_ BK252.out 0 rfl
    have hcz18_1 := cb_ BK252.out 1 rfl
    have hcz18_2 := cb_ BK252.out 2 rfl
    have hfz18_0 := blk_frozen BK252.out 0
    have hfz18_1 := blk_frozen BK252.out 1
    have hfz18_2 := blk_frozen BK252.out 2
    go_wp2_with (first | ((with_reducible refine gate_store (t := 24) (p := 4) rfl ?_); refine store_event (t := 24) (p := 4) (v := ?vo_w19) (w1 := (((wc.setCell ⟨gb252, 0, none⟩ (.slice none 0 0)).setCell ⟨gb252, 1, none⟩ (.int .i64 0)).setCell ⟨gb252, 2, none⟩ (.int .i64 0))) ?hg ?ho ?hn ?hr ?_; (case ho => rfl); (case hg => rfl); (case hn => rfl); (case hr => first | (go_simp; done) | (go_simp; rfl)); intro w19 hw; have n0_ : Aside0 (Kd.R (Kd.int .i64) 3 w19 w.heap.size (fun _ => True) (.slice Ao9 t254.length co9) t254) := ⟨(by rw [hw]; exact (by (with_reducible repeat (first | apply Kd.R_alloc | apply Kd.R_drewN | apply Kd.R_drew)); exact Kd.R_mono (Kd.R_far (p := ⟨gb252, 2, none⟩) (Kd.R_far (p := ⟨gb252, 1, none⟩) (Kd.R_far (p := ⟨gb252, 0, none⟩) (Kd.R_types HO_261000.out BK252.out (by decide)) (fun _ hk => by first | exact hk.2 | grind) (.slice none 0 0)) (fun _ hk => by first | exact hk.2 | grind) (.int .i64 0)) (fun _ hk => by first | exact hk.2 | grind) (.int .i64 0)) (fun _ hk => trivial)))⟩; have n1_ : Aside0 (w19.heap[gb252]? = some (.cells #[.slice none 0 0, .int .i64 0, .int .i64 0] 24 (0, 0))) := ⟨(by rw [hw]; exact (by (with_reducible repeat first|apply bn_|apply bd_|apply ba_); refine blk_put (cs := #[.slice none 0 0, .int .i64 0, .int .i64 0]) ?_ 2 _ rfl; refine blk_put (cs := #[.slice none 0 0, .int .i64 0, .int .i64 0]) ?_ 1 _ rfl; refine blk_put (cs := #[.slice none 0 0, .int .i64 0, .int .i64 0]) ?_ 0 _ rfl; (with_reducible repeat first|apply bn_|apply bd_|apply ba_); exact BK252.out))⟩; have n2_ : Aside0 (w19.heap[gb253]? = some (.cells #[.int .i64 0, .int .i64 0] 26 (0, 0))) := ⟨(by rw [hw]; exact (uf_ BK253.out))⟩; have n3_ : Aside0 (w19.heap[gb260]? = some (.cells #[.slice Ao9 t254.length co9, .int .i64 t257, .int .i64 t258] 24 (0, 0))) := ⟨(by rw [hw]; exact (uf_ BK260.out))⟩; have n4_ : Aside0 (Below w.heap.size w w19) := ⟨(by rw [hw]; exact (ue_ HB.out))⟩; clear hw HO_261000 BK252 BK253 BK260 HB; have HO_261000 := n0_; have BK252 := n1_; have BK253 := n2_; have BK260 := n3_; have HB := n4_; clear n0_ n1_ n2_ n3_ n4_; have hnb20 := NB253_260.out; have hnc20 := NB260_253.out; obtain ⟨hcz21_0, hcz21_1⟩ := cb2_ BK253.out; have hfz21_0 := blk_frozen BK253.out 0; have hfz21_1 := blk_frozen BK253.out 1) | ((with_reducible refine gate_store (t := 26) (p := 5) rfl ?_); refine store_event (t := 26) (p := 5) (v := ?vo_w22) (w1 := ((w19.setCell ⟨gb253, 0, none⟩ (.int .i64 0)).setCell ⟨gb253, 1, none⟩ (.int .i64 0))) ?hg ?ho ?hn ?hr ?_; (case ho => rfl); (case hg => rfl); (case hn => rfl); (case hr => first | (go_simp; done) | (go_simp; rfl)); intro w22 hw; have n0_ : Aside0 (Kd.R (Kd.int .i64) 3 w22 w.heap.size (fun _ => True) (.slice Ao9 t254.length co9) t254) := ⟨(by rw [hw]; exact (by (with_reducible repeat (first | apply Kd.R_alloc | apply Kd.R_drewN | apply Kd.R_drew)); exact Kd.R_mono (Kd.R_far (p := ⟨gb253, 1, none⟩) (Kd.R_far (p := ⟨gb253, 0, none⟩) (Kd.R_types HO_261000.out BK253.out (by decide)) (fun _ hk => by first | exact hk.2 | grind) (.int .i64 0)) (fun _ hk => by first | exact hk.2 | grind) (.int .i64 0)) (fun _ hk => trivial)))⟩; have n1_ : Aside0 (w22.heap[gb252]? = some (.cells #[.slice none 0 0, .int .i64 0, .int .i64 0] 24 (0, 0))) := ⟨(by rw [hw]; exact (uf_ BK252.out))⟩; have n2_ : Aside0 (w22.heap[gb253]? = some (.cells #[.int .i64 0, .int .i64 0] 26 (0, 0))) := ⟨(by rw [hw]; exact (by (with_reducible repeat first|apply bn_|apply bd_|apply ba_); refine blk_put (cs := #[.int .i64 0, .int .i64 0]) ?_ 1 _ rfl; refine blk_put (cs := #[.int .i64 0, .int .i64 0]) ?_ 0 _ rfl; (with_reducible repeat first|apply bn_|apply bd_|apply ba_); exact BK253.out))⟩; have n3_ : Aside0 (w22.heap[gb260]? = some (.cells #[.slice Ao9 t254.length co9, .int .i64 t257, .int .i64 t258] 24 (0, 0))) := ⟨(by rw [hw]; exact (uf_ BK260.out))⟩; have n4_ : Aside0 (Below w.heap.size w w22) := ⟨(by rw [hw]; exact (ue_ HB.out))⟩; clear hw HO_261000 BK252 BK253 BK260 HB; have HO_261000 := n0_; have BK252 := n1_; have BK253 := n2_; have BK260 := n3_; have HB := n4_; clear n0_ n1_ n2_ n3_ n4_))
    refine bodyPost_ret (results_list (rs := [.cell 4 24, .cell 5 26, .tmp 6]) rfl (by simp) (.cell gb252 24 #[.slice none 0 0, .int .i64 0, .int .i64 0] (0, 0) _ rfl (ub_ BK252.out) Try.underlying24 rfl (by kernel_rfl) (.cell gb253 26 #[.int .i64 0, .int .i64 0] (0, 0) _ rfl (ub_ BK253.out) Try.underlying26 rfl (by kernel_rfl) (.tmp .nil)))) rfl ?_
    exact ⟨_, _, ew_, by first | exact Kd.R_nil _ _ _ _ _ | exact Kd.N_nil _ _ _ _ _ | exact Kd.V_nil _ _ _ _ _ | exact Kd.Q_nil _ _ _ _ _ | exact Kd.S_nil _ _ _ _ _, by first | exact Kd.R_nil _ _ _ _ _ | exact Kd.N_nil _ _ _ _ _ | exact Kd.V_nil _ _ _ _ _ | exact Kd.Q_nil _ _ _ _ _ | exact Kd.S_nil _ _ _ _ _, ue_ HB.out⟩
   ·
    replace c15 := Bool.eq_false_iff.mpr c15
    subst c15
    have H1 : (impl_PlayLink.l0 kj3 (([] : List Int)) l1 (l1.length : Int) 0 t254 t257 t258 a0 0) = some (r1, r2, r3, r4, r5, r6) := by rw [if_neg (show ¬ (false = true) by decide)] at H; exact H
    clear H
    have H := H1
    clear H1
    obtain ⟨y261, hy261⟩ : ∃ y_ : List Int, y_ = (([] : List Int)) := ⟨_, rfl⟩
    replace H : (impl_PlayLink.l0 kj3 y261 l1 (l1.length : Int) 0 t254 t257 t258 a0 0) = some (r1, r2, r3, r4, r5, r6) := by first | (rw [hy261]; with_reducible exact H) | (have H2_ := (Option.bind_some _ _).symm.trans H; rw [hy261]; with_reducible exact H2_) | (have H2_ := (Option.bind_some _ _).symm.trans H; with_reducible exact H2_) | with_reducible exact H | (rw [hy261]; exact H) | exact H
    have Ny261 := Aside0.mk hy261
    clear hy261
    have H' := Aside0.mk H
    clear H
    go_wp2_with (first | ((with_reducible refine gate_dst (N := 34) rfl ?_); (try (refine gate_guard (by rfl) ?_; dsimp only)); refine Kd.R_lit (Kd.int .i64) _ 3 ?hg (N := 34) ?hd (xs := ([] : List Int)) (inner := []) (ok := fun _ => True) (okp := fun _ => True) ?hr ?hp (fun _ hk => hk) trivial (Below.refl _ _) (Nat.le_refl _) (by simp) ?_; (case hd => rfl); (case hg => rfl); (case hr => first | (go_simp; done) | (go_simp; rfl)); (case hp => exact (Reps.none _ _)); intro v262 w23 ho24 hb hg_ hnew_; clear hg_ hnew_; (first | rw [← Ny261.out] at ho24 | (simp only [Int.reduceToNat] at ho24; rw [← Ny261.out] at ho24)); have n0_ := am_ (Kd.R_elder' (ur_ HO_261000.out) (Kd.R_base ho24) hb); have n1_ := am_ (Kd.R_lower (Kd.R_new' ho24 (Kd.R_lt (ur_ HO_261000.out))) (below_size (ue_ HB.out))); have n2_ := am_ (bb_ BK252.out hb); have n3_ := am_ (bb_ BK253.out hb); have n4_ := am_ (bb_ BK260.out hb); have n5_ := am_ (below_step (ue_ HB.out) hb); clear HO_261000 BK252 BK253 BK260 HB; have HO_261000 := n0_; have HO263 := n1_; have BK252 := n2_; have BK253 := n3_; have BK260 := n4_; have HB := n5_; clear n0_ n1_ n2_ n3_ n4_ n5_; clear hb ho24) | ((with_reducible refine gate_dst (N := 9) rfl ?_); (try (refine gate_guard (by rfl) ?_; dsimp only)); refine box_event ?hg (N := 9) ?hd (cs := #[.int .i64 0, .int .i64 0]) (t := 26) ?hr ?_; (case hd => rfl); (case hg => rfl); (case hr => first | (go_simp; done) | (go_simp; rfl)); intro gb264 hg w25 hbox hb; have n0_ := am_ (Kd.R_below (ur_ HO_261000.out) hb); have n1_ := am_ (Kd.R_below (ur_ HO263.out) hb); have n2_ := am_ (bb_ BK252.out hb); have n3_ := am_ (bb_ BK253.out hb); have n4_ := am_ (bb_ BK260.out hb); have n5_ := am_ (below_step (ue_ HB.out) hb); have n6_ := am_ (hbox); have n7_ := am_ ((by rw [hg]; exact (below_size (ue_ HB.out)) : w.heap.size ≤ gb264)); have n8_ := am_ ((by rw [hg]; exact (below_size (ue_ HB.out)) : w.heap.size ≤ gb264)); have n9_ := am_ ((by rw [hg]; exact Nat.ne_of_lt (bl_ BK252.out) : gb252 ≠ gb264)); have n10_ := am_ ((by rw [hg]; exact Nat.ne_of_gt (bl_ BK252.out) : gb264 ≠ gb252)); have n11_ := am_ ((by rw [hg]; exact Nat.ne_of_lt (bl_ BK253.out) : gb253 ≠ gb264)); have n12_ := am_ ((by rw [hg]; exact Nat.ne_of_gt (bl_ BK253.out) : gb264 ≠ gb253)); have n13_ := am_ ((by rw [hg]; exact Nat.ne_of_lt (bl_ BK260.out) : gb260 ≠ gb264)); have n14_ := am_ ((by rw [hg]; exact Nat.ne_of_gt (bl_ BK260.out) : gb264 ≠ gb260)); clear HO_261000 HO263 BK252 BK253 BK260 HB; have HO_261000 := n0_; have HO263 := n1_; have BK252 := n2_; have BK253 := n3_; have BK260 := n4_; have HB := n5_; have BK264 := n6_; have GW264 := n7_; have GE264 := n8_; have NB252_264 := n9_; have NB264_252 := n10_; have NB253_264 := n11_; have NB264_253 := n12_; have NB260_264 := n13_; have NB264_260 := n14_; clear n0_ n1_ n2_ n3_ n4_ n5_ n6_ n7_ n8_ n9_ n10_ n11_ n12_ n13_ n14_; clear hb hbox hg; have hnb26 := NB264_252.out; have hnc26 := NB252_264.out; have hnb27 := NB264_253.out; have hnc27 := NB253_264.out; have hnb28 := NB264_260.out; have hnc28 := NB260_264.out; obtain ⟨hcz29_0, hcz29_1⟩ := cb2_ BK264.out; have hfz29_0 := blk_frozen BK264.out 0; have hfz29_1 := blk_frozen BK264.out 1) | ((with_reducible refine gate_store (t := 26) (p := 9) rfl ?_); refine store_event (t := 26) (p := 9) (v := ?vo_w30) (w1 := ((w25.setCell ⟨gb264, 0, none⟩ (.int .i64 a0)).setCell ⟨gb264, 1, none⟩ (.int .i64 0))) ?hg ?ho ?hn ?hr ?_; (case ho => rfl); (case hg => rfl); (case hn => rfl); (case hr => first | (go_simp; done) | (go_simp; rfl)); intro w30 hw; have n0_ : Aside0 (Kd.R (Kd.int .i64) 3 w30 w.heap.size (fun k_ => some k_ ≠ (v262 : Value).ownBlock) (.slice Ao9 t254.length co9) t254) := ⟨(by rw [hw]; exact (by (with_reducible repeat (first | apply Kd.R_alloc | apply Kd.R_drewN | apply Kd.R_drew)); exact Kd.R_mono (Kd.R_far (p := ⟨gb264, 1, none⟩) (Kd.R_far (p := ⟨gb264, 0, none⟩) (Kd.R_types HO_261000.out BK264.out (by decide)) (fun _ hk => by first | exact hk.2 | grind) (.int .i64 a0)) (fun _ hk => by first | exact hk.2 | grind) (.int .i64 0)) (fun _ hk => by first | exact hk.1.2 | grind)))⟩; have n1_ : Aside0 (Kd.R (Kd.int .i64) 3 w30 w.heap.size (fun k_ => some k_ ≠ (.slice Ao9 t254.length co9 : Value).ownBlock) v262 y261) := ⟨(by rw [hw]; exact (by (with_reducible repeat (first | apply Kd.R_alloc | apply Kd.R_drewN | apply Kd.R_drew)); exact Kd.R_mono (Kd.R_far (p := ⟨gb264, 1, none⟩) (Kd.R_far (p := ⟨gb264, 0, none⟩) (Kd.R_types HO263.out BK264.out (by decide)) (fun _ hk => by first | exact hk.2 | grind) (.int .i64 a0)) (fun _ hk => by first | exact hk.2 | grind) (.int .i64 0)) (fun _ hk => by first | exact hk.1.2 | grind)))⟩; have n2_ : Aside0 (w30.heap[gb252]? = some (.cells #[.slice none 0 0, .int .i64 0, .int .i64 0] 24 (0, 0))) := ⟨(by rw [hw]; exact (uf_ BK252.out))⟩; have n3_ : Aside0 (w30.heap[gb253]? = some (.cells #[.int .i64 0, .int .i64 0] 26 (0, 0))) := ⟨(by rw [hw]; exact (uf_ BK253.out))⟩; have n4_ : Aside0 (w30.heap[gb260]? = some (.cells #[.slice Ao9 t254.length co9, .int .i64 t257, .int .i64 t258] 24 (0, 0))) := ⟨(by rw [hw]; exact (uf_ BK260.out))⟩; have n5_ : Aside0 (w30.heap[gb264]? = some (.cells #[.int .i64 a0, .int .i64 0] 26 (0, 0))) := ⟨(by rw [hw]; exact (by (with_reducible repeat first|apply bn_|apply bd_|apply ba_); refine blk_put (cs := #[.int .i64 a0, .int .i64 0]) ?_ 1 _ rfl; refine blk_put (cs := #[.int .i64 0, .int .i64 0]) ?_ 0 _ rfl; (with_reducible repeat first|apply bn_|apply bd_|apply ba_); exact BK264.out))⟩; have n6_ : Aside0 (Below w.heap.size w w30) := ⟨(by rw [hw]; exact (ue_ HB.out))⟩; clear hw HO_261000 HO263 BK252 BK253 BK260 BK264 HB; have HO_261000 := n0_; have HO263 := n1_; have BK252 := n2_; have BK253 := n3_; have BK260 := n4_; have BK264 := n5_; have HB := n6_; clear n0_ n1_ n2_ n3_ n4_ n5_ n6_))
    (try simp only [Act.put, List.setIfInBounds_toArray, List.set_cons_zero, List.set_cons_succ])
    go_loopg [10, 37] kj3 (fun kq v10 v37 w' => ∃ (x10_2 : List Int) (x37_2 : Int) (x261000_2 : List Int) (x261001_2 : Int) (x261002_2 : Int) (x265000_2 : Int) (x265001_2 : Int) (u261000 : Value), v37 = .int .i64 x37_2 ∧ Aside0 (impl_PlayLink.l0 kq x10_2 l1 (l1.length : Int) x37_2 x261000_2 x261001_2 x261002_2 x265000_2 x265001_2 = some (r1, r2, r3, r4, r5, r6)) ∧ Aside0 (kq ≤ kj3) ∧ Aside0 (Kd.R (Kd.int .i64) 3 w' w.heap.size (fun k_ => some k_ ≠ (u261000 : Value).ownBlock) v10 x10_2) ∧ Aside0 (Kd.R (Kd.int .i64) 3 w' w.heap.size (fun k_ => some k_ ≠ (v10 : Value).ownBlock) u261000 x261000_2) ∧ Aside0 (w'.heap[gb252]? = some (.cells #[(.slice none 0 0), .int .i64 0, .int .i64 0] 24 (0, 0))) ∧ Aside0 (w'.heap[gb253]? = some (.cells #[.int .i64 0, .int .i64 0] 26 (0, 0))) ∧ Aside0 (w'.heap[gb260]? = some (.cells #[u261000, .int .i64 x261001_2, .int .i64 x261002_2] 24 (0, 0))) ∧ Aside0 (w'.heap[gb264]? = some (.cells #[.int .i64 x265000_2, .int .i64 x265001_2] 26 (0, 0))) ∧ Aside0 (Below w.heap.size w w'))
    case atStart => exact ⟨(y261), (0), (t254), (t257), (t258), (a0), (0), (.slice Ao9 t254.length co9), (by first | rfl | (simp; done) | (simp [*]; done)), H', ⟨Nat.le_refl _⟩, ⟨by (with_reducible repeat (first | apply Kd.R_alloc | apply Kd.R_drewN | apply Kd.R_drew)); exact HO263.out⟩, ⟨by (with_reducible repeat (first | apply Kd.R_alloc | apply Kd.R_drewN | apply Kd.R_drew)); exact HO_261000.out⟩, ⟨by (with_reducible repeat first|apply bn_|apply bd_|apply ba_); exact BK252.out⟩, ⟨by (with_reducible repeat first|apply bn_|apply bd_|apply ba_); exact BK253.out⟩, ⟨by (with_reducible repeat first|apply bn_|apply bd_|apply ba_); exact BK260.out⟩, ⟨by (with_reducible repeat first|apply bn_|apply bd_|apply ba_); exact BK264.out⟩, ⟨ue_ HB.out⟩⟩
    case round =>
     clear H'
     try clear c1
     try clear c2
     try clear p2
     try clear c8
     try clear c10
     try clear c11
     try clear c14
     try clear c15
     try clear c16
     try clear c17
     try clear c20
     try clear c26
     try clear c27
     try clear c28
     try clear hcz12_0
     try clear hcz12_1
     try clear hcz12_2
     try clear hcz18_0
     try clear hcz18_1
     try clear hcz18_2
     try clear hcz21_0
     try clear hcz21_1
     try clear hcz29_0
     try clear hcz29_1
     try clear hfz12_0
     try clear hfz12_1
     try clear hfz12_2
     try clear hfz18_0
     try clear hfz18_1
     try clear hfz18_2
     try clear hfz21_0
     try clear hfz21_1
     try clear hfz29_0
     try clear hfz29_1
     try clear p2
     obtain ⟨x10_2, x37_2, x261000_2, x261001_2, x261002_2, x265000_2, x265001_2, u261000, rfl, HA, HK2, HO_10, HO_261000, BK252, BK253, BK260, BK264, HB⟩ := hrel
     cases gk with
     | zero => exact absurd HA.out (by simp [impl_PlayLink.l0])
     | succ k2 =>
      have H := HA.out
      clear HA
      simp only [impl_PlayLink.l0] at H
      by_cases c31 : x37_2 < (l1.length : Int)
      ·
       rw [if_pos c31] at H
       have c31b0 : decide (x37_2 < (l1.length : Int)) = true := decide_eq_true c31
       clear c31
       by_cases c32 : 0 ≤ x37_2
       ·
        rw [if_pos c32] at H
        have c32b0 : decide (0 ≤ x37_2) = true := decide_eq_true c32
        clear c32
        by_cases c33 : x37_2 < (l1.length : Int)
        ·
         rw [if_pos c33] at H
         have c33b0 : decide (x37_2 < (l1.length : Int)) = true := decide_eq_true c33
         clear c33
         by_cases c34 : (rd l1 x37_2) < 0
         ·
          rw [if_pos c34] at H
          have c34b0 : decide ((rd l1 x37_2) < 0) = true := decide_eq_true c34
          clear c34
          replace H := Option.bind_eq_some_iff.mp H
          obtain ⟨⟨t266, t269, t270, t271, t272⟩, A350, H⟩ := H
          replace H : (if t272 = true then ((impl_ReturnCredit.f x265000_2 x265001_2).bind fun bt274 => (if x10_2.length < 17592186044416 then (impl_PlayLink.l0 k2 (x10_2 ++ [t271]) l1 (l1.length : Int) (wrap64 (x37_2 + 1)) t266 t269 t270 bt274.1 bt274.2.1) else (none))) else (if x10_2.length < 17592186044416 then (impl_PlayLink.l0 k2 (x10_2 ++ [(-1)]) l1 (l1.length : Int) (wrap64 (x37_2 + 1)) x261000_2 x261001_2 x261002_2 x265000_2 x265001_2) else (none))) = some (r1, r2, r3, r4, r5, r6) := H
          have A35 := Aside0.mk A350
          clear A350
          by_cases c36 : t272 = true
          ·
           subst c36
           have H1 : ((impl_ReturnCredit.f x265000_2 x265001_2).bind fun bt274 => (if x10_2.length < 17592186044416 then (impl_PlayLink.l0 k2 (x10_2 ++ [t271]) l1 (l1.length : Int) (wrap64 (x37_2 + 1)) t266 t269 t270 bt274.1 bt274.2.1) else (none))) = some (r1, r2, r3, r4, r5, r6) := by rw [if_pos rfl] at H; exact H
           clear H
           have H := H1
           clear H1
           replace H := Option.bind_eq_some_iff.mp H
           obtain ⟨⟨t274, t275, t276⟩, A370, H⟩ := H
           replace H : (if x10_2.length < 17592186044416 then (impl_PlayLink.l0 k2 (x10_2 ++ [t271]) l1 (l1.length : Int) (wrap64 (x37_2 + 1)) t266 t269 t270 t274 t275) else (none)) = some (r1, r2, r3, r4, r5, r6) := H
           have A37 := Aside0.mk A370
           clear A370
           by_cases c38 : x10_2.length < 17592186044416
           ·
            rw [if_pos c38] at H
            have LMc38 := Aside0.mk c38
            clear c38
            obtain ⟨y277, hy277⟩ : ∃ y_ : List Int, y_ = (x10_2 ++ [t271]) := ⟨_, rfl⟩
            replace H : (impl_PlayLink.l0 k2 y277 l1 (l1.length : Int) (wrap64 (x37_2 + 1)) t266 t269 t270 t274 t275) = some (r1, r2, r3, r4, r5, r6) := by first | (rw [hy277]; with_reducible exact H) | (have H2_ := (Option.bind_some _ _).symm.trans H; rw [hy277]; with_reducible exact H2_) | (have H2_ := (Option.bind_some _ _).symm.trans H; with_reducible exact H2_) | with_reducible exact H | (rw [hy277]; exact H) | exact H
            have Ny277 := Aside0.mk hy277
            clear hy277
            have H' := Aside0.mk H
            clear H
            have p265 : 0 ≤ (x37_2 : Int) := of_decide_eq_true ua_
            have q265 : x37_2 < (l1.length : Int) := of_decide_eq_true ua_
            obtain ⟨ad265, e265, hx265_0⟩ := Kd.at_int HR1.out x37_2 p265 q265
            cases e265
            replace hx265_0 := bc_ HB.out hx265_0
            replace p265 := eq_true p265
            replace q265 := eq_true q265
            have hnb39 := NB260_252.out
            have hnc39 := NB252_260.out
            have hnb40 := NB260_253.out
            have hnc40 := NB253_260.out
            have hnb41 := NB260_264.out
            have hnc41 := NB264_260.out
            have hcz42_0 := cb_ BK260.out 0 rfl
            have hcz42_1 := cb_ BK260.out 1 rfl
            have hcz42_2 := cb_ BK260.out 2 rfl
            have hfz42_0 := blk_frozen BK260.out 0
            have hfz42_1 := blk_frozen BK260.out 1
            have hfz42_2 := blk_frozen BK260.out 2
            obtain ⟨Ao43, co43, eo43⟩ := Kd.R_slice HO_261000.out
            subst eo43
            go_wp2_with (first | ((with_reducible refine gate_callee (f := 88) rfl ?_); refine goesL_ (some 45) rfl rfl Try.func88 (by kernel_rfl) rfl #[.agg #[.slice Ao43 x261000_2.length co43, .int .i64 x261001_2, .int .i64 x261002_2]] rfl ul_ ?_; (with_reducible refine (impl_PopRing.calls k2 _ _ x261000_2 x261001_2 x261002_2 t266 t269 t270 t271 true _ ?side1 ?side2 A35.out).mono ?_); (case side1 => repeat (first | exact (Kd.R_reads' HO_261000.out).2.2 | (with_reducible refine Kd.C_alloc ?_ _) | (with_reducible refine Kd.C_drewN ?_ _) | (with_reducible refine Kd.C_drew ?_))); (case side2 => exact (Kd.R_reads' HO_261000.out).2.1); rintro e w44 ⟨v267, rfl, ho0, hb⟩; refine ⟨_, rfl, ?_⟩; have n0_ := am_ (Kd.R_elder' (ur_ HO_10.out) (Kd.R_base ho0) hb); have n1_ := am_ (Kd.R_elder' (ur_ HO_261000.out) (Kd.R_base ho0) hb); have n2_ := am_ (Kd.R_lower (Kd.R_new' (Kd.R_new' ho0 (Kd.R_lt (ur_ HO_10.out))) (Kd.R_lt (ur_ HO_261000.out))) (below_size (ue_ HB.out))); have n3_ := am_ (bb_ BK252.out hb); have n4_ := am_ (bb_ BK253.out hb); have n5_ := am_ (bb_ BK260.out hb); have n6_ := am_ (bb_ BK264.out hb); have n7_ := am_ (below_step (ue_ HB.out) hb); clear HO_10 HO_261000 BK252 BK253 BK260 BK264 HB; have HO_10 := n0_; have HO_261000 := n1_; have HO268 := n2_; have BK252 := n3_; have BK253 := n4_; have BK260 := n5_; have BK264 := n6_; have HB := n7_; clear n0_ n1_ n2_ n3_ n4_ n5_ n6_ n7_; (try clear hb); (try clear hb2); (try clear hk); (try clear hi); (try clear ho0)) | ((with_reducible refine gate_dst (N := 13) rfl ?_); (try (refine gate_guard (by rfl) ?_; dsimp only)); refine box_event ?hg (N := 13) ?hd (cs := #[.slice none 0 0, .int .i64 0, .int .i64 0]) (t := 24) ?hr ?_; (case hd => rfl); (case hg => rfl); (case hr => first | (go_simp; done) | (go_simp; rfl)); intro gb273 hg w45 hbox hb; have n0_ := am_ (Kd.R_below (ur_ HO_10.out) hb); have n1_ := am_ (Kd.R_below (ur_ HO_261000.out) hb); have n2_ := am_ (Kd.R_below (ur_ HO268.out) hb); have n3_ := am_ (bb_ BK252.out hb); have n4_ := am_ (bb_ BK253.out hb); have n5_ := am_ (bb_ BK260.out hb); have n6_ := am_ (bb_ BK264.out hb); have n7_ := am_ (below_step (ue_ HB.out) hb); have n8_ := am_ (hbox); have n9_ := am_ ((by rw [hg]; exact (below_size (ue_ HB.out)) : w.heap.size ≤ gb273)); have n10_ := am_ ((by rw [hg]; exact (below_size (ue_ HB.out)) : w.heap.size ≤ gb273)); have n11_ := am_ ((by rw [hg]; exact Nat.ne_of_lt (bl_ BK252.out) : gb252 ≠ gb273)); have n12_ := am_ ((by rw [hg]; exact Nat.ne_of_gt (bl_ BK252.out) : gb273 ≠ gb252)); have n13_ := am_ ((by rw [hg]; exact Nat.ne_of_lt (bl_ BK253.out) : gb253 ≠ gb273)); have n14_ := am_ ((by rw [hg]; exact Nat.ne_of_gt (bl_ BK253.out) : gb273 ≠ gb253)); have n15_ := am_ ((by rw [hg]; exact Nat.ne_of_lt (bl_ BK260.out) : gb260 ≠ gb273)); have n16_ := am_ ((by rw [hg]; exact Nat.ne_of_gt (bl_ BK260.out) : gb273 ≠ gb260)); have n17_ := am_ ((by rw [hg]; exact Nat.ne_of_lt (bl_ BK264.out) : gb264 ≠ gb273)); have n18_ := am_ ((by rw [hg]; exact Nat.ne_of_gt (bl_ BK264.out) : gb273 ≠ gb264)); clear HO_10 HO_261000 HO268 BK252 BK253 BK260 BK264 HB; have HO_10 := n0_; have HO_261000 := n1_; have HO268 := n2_; have BK252 := n3_; have BK253 := n4_; have BK260 := n5_; have BK264 := n6_; have HB := n7_; have BK273 := n8_; have GW273 := n9_; have GE273 := n10_; have NB252_273 := n11_; have NB273_252 := n12_; have NB253_273 := n13_; have NB273_253 := n14_; have NB260_273 := n15_; have NB273_260 := n16_; have NB264_273 := n17_; have NB273_264 := n18_; clear n0_ n1_ n2_ n3_ n4_ n5_ n6_ n7_ n8_ n9_ n10_ n11_ n12_ n13_ n14_ n15_ n16_ n17_ n18_; clear hb hbox hg; obtain ⟨Ao46, co46, eo46⟩ := Kd.R_slice HO268.out; subst eo46; have hnb47 := NB273_252.out; have hnc47 := NB252_273.out; have hnb48 := NB273_253.out; have hnc48 := NB253_273.out; have hnb49 := NB273_260.out; have hnc49 := NB260_273.out; have hnb50 := NB273_264.out; have hnc50 := NB264_273.out; obtain ⟨hcz51_0, hcz51_1, hcz51_2⟩ := cb3_ BK273.out; obtain ⟨hfz51_0, hfz51_1⟩ := bf2_ BK273.out; have hfz51_2 := blk_frozen BK273.out 2) | ((with_reducible refine gate_store (t := 24) (p := 13) rfl ?_); refine store_event (t := 24) (p := 13) (v := ?vo_w52) (w1 := (((w45.setCell ⟨gb273, 0, none⟩ (.slice Ao46 t266.length co46)).setCell ⟨gb273, 1, none⟩ (.int .i64 t269)).setCell ⟨gb273, 2, none⟩ (.int .i64 t270))) ?hg ?ho ?hn ?hr ?_; (case ho => rfl); (case hg => rfl); (case hn => rfl); (case hr => first | (go_simp; done) | (go_simp; rfl)); intro w52 hw; have n0_ : Aside0 (Kd.R (Kd.int .i64) 3 w52 w.heap.size (fun k_ => some k_ ≠ (.slice Ao43 x261000_2.length co43 : Value).ownBlock ∧ some k_ ≠ (.slice Ao46 t266.length co46 : Value).ownBlock) u10 x10_2) := ⟨(by rw [hw]; exact (by (with_reducible repeat (first | apply Kd.R_alloc | apply Kd.R_drewN | apply Kd.R_drew)); exact Kd.R_mono (Kd.R_far (p := ⟨gb273, 2, none⟩) (Kd.R_far (p := ⟨gb273, 1, none⟩) (Kd.R_far (p := ⟨gb273, 0, none⟩) (Kd.R_types HO_10.out BK273.out (by decide)) (fun _ hk => by first | exact hk.2 | grind) (.slice Ao46 t266.length co46)) (fun _ hk => by first | exact hk.2 | grind) (.int .i64 t269)) (fun _ hk => by first | exact hk.2 | grind) (.int .i64 t270)) (fun _ hk => by first | exact ⟨hk.1.1, hk.1.2⟩ | grind)))⟩; have n1_ : Aside0 (Kd.R (Kd.int .i64) 3 w52 w.heap.size (fun k_ => some k_ ≠ (u10 : Value).ownBlock ∧ some k_ ≠ (.slice Ao46 t266.length co46 : Value).ownBlock) (.slice Ao43 x261000_2.length co43) x261000_2) := ⟨(by rw [hw]; exact (by (with_reducible repeat (first | apply Kd.R_alloc | apply Kd.R_drewN | apply Kd.R_drew)); exact Kd.R_mono (Kd.R_far (p := ⟨gb273, 2, none⟩) (Kd.R_far (p := ⟨gb273, 1, none⟩) (Kd.R_far (p := ⟨gb273, 0, none⟩) (Kd.R_types HO_261000.out BK273.out (by decide)) (fun _ hk => by first | exact hk.2 | grind) (.slice Ao46 t266.length co46)) (fun _ hk => by first | exact hk.2 | grind) (.int .i64 t269)) (fun _ hk => by first | exact hk.2 | grind) (.int .i64 t270)) (fun _ hk => by first | exact ⟨hk.1.1, hk.1.2⟩ | grind)))⟩; have n2_ : Aside0 (Kd.R (Kd.int .i64) 3 w52 w.heap.size (fun k_ => some k_ ≠ (u10 : Value).ownBlock ∧ some k_ ≠ (.slice Ao43 x261000_2.length co43 : Value).ownBlock) (.slice Ao46 t266.length co46) t266) := ⟨(by rw [hw]; exact (by (with_reducible repeat (first | apply Kd.R_alloc | apply Kd.R_drewN | apply Kd.R_drew)); exact Kd.R_mono (Kd.R_far (p := ⟨gb273, 2, none⟩) (Kd.R_far (p := ⟨gb273, 1, none⟩) (Kd.R_far (p := ⟨gb273, 0, none⟩) (Kd.R_types HO268.out BK273.out (by decide)) (fun _ hk => by first | exact hk.2 | grind) (.slice Ao46 t266.length co46)) (fun _ hk => by first | exact hk.2 | grind) (.int .i64 t269)) (fun _ hk => by first | exact hk.2 | grind) (.int .i64 t270)) (fun _ hk => by first | exact ⟨hk.1.1.2, hk.1.2⟩ | grind)))⟩; have n3_ : Aside0 (w52.heap[gb252]? = some (.cells #[.slice none 0 0, .int .i64 0, .int .i64 0] 24 (0, 0))) := ⟨(by rw [hw]; exact (uf_ BK252.out))⟩; have n4_ : Aside0 (w52.heap[gb253]? = some (.cells #[.int .i64 0, .int .i64 0] 26 (0, 0))) := ⟨(by rw [hw]; exact (uf_ BK253.out))⟩; have n5_ : Aside0 (w52.heap[gb260]? = some (.cells #[.slice Ao43 x261000_2.length co43, .int .i64 x261001_2, .int .i64 x261002_2] 24 (0, 0))) := ⟨(by rw [hw]; exact (uf_ BK260.out))⟩; have n6_ : Aside0 (w52.heap[gb264]? = some (.cells #[.int .i64 x265000_2, .int .i64 x265001_2] 26 (0, 0))) := ⟨(by rw [hw]; exact (uf_ BK264.out))⟩; have n7_ : Aside0 (w52.heap[gb273]? = some (.cells #[.slice Ao46 t266.length co46, .int .i64 t269, .int .i64 t270] 24 (0, 0))) := ⟨(by rw [hw]; exact (by (with_reducible repeat first|apply bn_|apply bd_|apply ba_); refine blk_put (cs := #[.slice Ao46 t266.length co46, .int .i64 t269, .int .i64 0]) ?_ 2 _ rfl; refine blk_put (cs := #[.slice Ao46 t266.length co46, .int .i64 0, .int .i64 0]) ?_ 1 _ rfl; refine blk_put (cs := #[.slice none 0 0, .int .i64 0, .int .i64 0]) ?_ 0 _ rfl; (with_reducible repeat first|apply bn_|apply bd_|apply ba_); exact BK273.out))⟩; have n8_ : Aside0 (Below w.heap.size w w52) := ⟨(by rw [hw]; exact (ue_ HB.out))⟩; clear hw HO_10 HO_261000 HO268 BK252 BK253 BK260 BK264 BK273 HB; have HO_10 := n0_; have HO_261000 := n1_; have HO268 := n2_; have BK252 := n3_; have BK253 := n4_; have BK260 := n5_; have BK264 := n6_; have BK273 := n7_; have HB := n8_; clear n0_ n1_ n2_ n3_ n4_ n5_ n6_ n7_ n8_; obtain ⟨hcz53_0, hcz53_1, hcz53_2⟩ := cb3_ BK273.out; obtain ⟨hfz53_0, hfz53_1, hfz53_2⟩ := bf3_ BK273.out; obtain ⟨hcz54_0, hcz54_1, hcz54_2⟩ := cb3_ BK260.out; obtain ⟨hfz54_0, hfz54_1⟩ := bf2_ BK260.out; have hfz54_2 := blk_frozen BK260.out 2) | ((with_reducible refine gate_store (t := 24) (p := 7) rfl ?_); refine store_event (t := 24) (p := 7) (v := ?vo_w55) (w1 := (((w52.setCell ⟨gb260, 0, none⟩ (.slice Ao46 t266.length co46)).setCell ⟨gb260, 1, none⟩ (.int .i64 t269)).setCell ⟨gb260, 2, none⟩ (.int .i64 t270))) ?hg ?ho ?hn ?hr ?_; (case ho => rfl); (case hg => rfl); (case hn => rfl); (case hr => first | (go_simp; done) | (go_simp; rfl)); intro w55 hw; have n0_ : Aside0 (Kd.R (Kd.int .i64) 3 w55 w.heap.size (fun k_ => some k_ ≠ (.slice Ao43 x261000_2.length co43 : Value).ownBlock ∧ some k_ ≠ (.slice Ao46 t266.length co46 : Value).ownBlock) u10 x10_2) := ⟨(by rw [hw]; exact (by (with_reducible repeat (first | apply Kd.R_alloc | apply Kd.R_drewN | apply Kd.R_drew)); exact Kd.R_mono (Kd.R_far (p := ⟨gb260, 2, none⟩) (Kd.R_far (p := ⟨gb260, 1, none⟩) (Kd.R_far (p := ⟨gb260, 0, none⟩) (Kd.R_types HO_10.out BK260.out (by decide)) (fun _ hk => by first | exact hk.2 | grind) (.slice Ao46 t266.length co46)) (fun _ hk => by first | exact hk.2 | grind) (.int .i64 t269)) (fun _ hk => by first | exact hk.2 | grind) (.int .i64 t270)) (fun _ hk => by first | exact ⟨hk.1.1, hk.1.2⟩ | grind)))⟩; have n1_ : Aside0 (Kd.R (Kd.int .i64) 3 w55 w.heap.size (fun k_ => some k_ ≠ (u10 : Value).ownBlock ∧ some k_ ≠ (.slice Ao46 t266.length co46 : Value).ownBlock) (.slice Ao43 x261000_2.length co43) x261000_2) := ⟨(by rw [hw]; exact (by (with_reducible repeat (first | apply Kd.R_alloc | apply Kd.R_drewN | apply Kd.R_drew)); exact Kd.R_mono (Kd.R_far (p := ⟨gb260, 2, none⟩) (Kd.R_far (p := ⟨gb260, 1, none⟩) (Kd.R_far (p := ⟨gb260, 0, none⟩) (Kd.R_types HO_261000.out BK260.out (by decide)) (fun _ hk => by first | exact hk.2 | grind) (.slice Ao46 t266.length co46)) (fun _ hk => by first | exact hk.2 | grind) (.int .i64 t269)) (fun _ hk => by first | exact hk.2 | grind) (.int .i64 t270)) (fun _ hk => by first | exact ⟨hk.1.1, hk.1.2⟩ | grind)))⟩; have n2_ : Aside0 (Kd.R (Kd.int .i64) 3 w55 w.heap.size (fun k_ => some k_ ≠ (u10 : Value).ownBlock ∧ some k_ ≠ (.slice Ao43 x261000_2.length co43 : Value).ownBlock) (.slice Ao46 t266.length co46) t266) := ⟨(by rw [hw]; exact (by (with_reducible repeat (first | apply Kd.R_alloc | apply Kd.R_drewN | apply Kd.R_drew)); exact Kd.R_mono (Kd.R_far (p := ⟨gb260, 2, none⟩) (Kd.R_far (p := ⟨gb260, 1, none⟩) (Kd.R_far (p := ⟨gb260, 0, none⟩) (Kd.R_types HO268.out BK260.out (by decide)) (fun _ hk => by first | exact hk.2 | grind) (.slice Ao46 t266.length co46)) (fun _ hk => by first | exact hk.2 | grind) (.int .i64 t269)) (fun _ hk => by first | exact hk.2 | grind) (.int .i64 t270)) (fun _ hk => by first | exact ⟨hk.1.1, hk.1.2⟩ | grind)))⟩; have n3_ : Aside0 (w55.heap[gb252]? = some (.cells #[.slice none 0 0, .int .i64 0, .int .i64 0] 24 (0, 0))) := ⟨(by rw [hw]; exact (uf_ BK252.out))⟩; have n4_ : Aside0 (w55.heap[gb253]? = some (.cells #[.int .i64 0, .int .i64 0] 26 (0, 0))) := ⟨(by rw [hw]; exact (uf_ BK253.out))⟩; have n5_ : Aside0 (w55.heap[gb260]? = some (.cells #[.slice Ao46 t266.length co46, .int .i64 t269, .int .i64 t270] 24 (0, 0))) := ⟨(by rw [hw]; exact (by (with_reducible repeat first|apply bn_|apply bd_|apply ba_); refine blk_put (cs := #[.slice Ao46 t266.length co46, .int .i64 t269, .int .i64 x261002_2]) ?_ 2 _ rfl; refine blk_put (cs := #[.slice Ao46 t266.length co46, .int .i64 x261001_2, .int .i64 x261002_2]) ?_ 1 _ rfl; refine blk_put (cs := #[.slice Ao43 x261000_2.length co43, .int .i64 x261001_2, .int .i64 x261002_2]) ?_ 0 _ rfl; (with_reducible repeat first|apply bn_|apply bd_|apply ba_); exact BK260.out))⟩; have n6_ : Aside0 (w55.heap[gb264]? = some (.cells #[.int .i64 x265000_2, .int .i64 x265001_2] 26 (0, 0))) := ⟨(by rw [hw]; exact (uf_ BK264.out))⟩; have n7_ : Aside0 (w55.heap[gb273]? = some (.cells #[.slice Ao46 t266.length co46, .int .i64 t269, .int .i64 t270] 24 (0, 0))) := ⟨(by rw [hw]; exact (uf_ BK273.out))⟩; have n8_ : Aside0 (Below w.heap.size w w55) := ⟨(by rw [hw]; exact (ue_ HB.out))⟩; clear hw HO_10 HO_261000 HO268 BK252 BK253 BK260 BK264 BK273 HB; have HO_10 := n0_; have HO_261000 := n1_; have HO268 := n2_; have BK252 := n3_; have BK253 := n4_; have BK260 := n5_; have BK264 := n6_; have BK273 := n7_; have HB := n8_; clear n0_ n1_ n2_ n3_ n4_ n5_ n6_ n7_ n8_; have hnb56 := NB264_252.out; have hnc56 := NB252_264.out; have hnb57 := NB264_253.out; have hnc57 := NB253_264.out; obtain ⟨hcz58_0, hcz58_1⟩ := cb2_ BK264.out; have hfz58_0 := blk_frozen BK264.out 0; have hfz58_1 := blk_frozen BK264.out 1) | ((with_reducible refine gate_callee (f := 89) rfl ?_); refine goesL_ (some 54) rfl rfl Try.func89 (by kernel_rfl) rfl #[.agg #[.int .i64 x265000_2, .int .i64 x265001_2]] rfl ul_ ?_; (with_reducible refine (impl_ReturnCredit.calls x265000_2 x265001_2 t274 t275 t276 _ A37.out).mono ?_); rintro e w59 ⟨rfl, hb⟩; refine ⟨_, rfl, ?_⟩; have n0_ := am_ (Kd.R_below (ur_ HO_10.out) hb); have n1_ := am_ (Kd.R_below (ur_ HO_261000.out) hb); have n2_ := am_ (Kd.R_below (ur_ HO268.out) hb); have n3_ := am_ (bb_ BK252.out hb); have n4_ := am_ (bb_ BK253.out hb); have n5_ := am_ (bb_ BK260.out hb); have n6_ := am_ (bb_ BK264.out hb); have n7_ := am_ (bb_ BK273.out hb); have n8_ := am_ (below_step (ue_ HB.out) hb); clear HO_10 HO_261000 HO268 BK252 BK253 BK260 BK264 BK273 HB; have HO_10 := n0_; have HO_261000 := n1_; have HO268 := n2_; have BK252 := n3_; have BK253 := n4_; have BK260 := n5_; have BK264 := n6_; have BK273 := n7_; have HB := n8_; clear n0_ n1_ n2_ n3_ n4_ n5_ n6_ n7_ n8_; (try clear hb); (try clear hb2); (try clear hk); (try clear hi); obtain ⟨hcz60_0, hcz60_1⟩ := cb2_ BK264.out; have hfz60_0 := blk_frozen BK264.out 0; have hfz60_1 := blk_frozen BK264.out 1) | ((with_reducible refine gate_store (t := 26) (p := 9) rfl ?_); refine store_event (t := 26) (p := 9) (v := ?vo_w61) (w1 := ((w59.setCell ⟨gb264, 0, none⟩ (.int .i64 t274)).setCell ⟨gb264, 1, none⟩ (.int .i64 t275))) ?hg ?ho ?hn ?hr ?_; (case ho => rfl); (case hg => rfl); (case hn => rfl); (case hr => first | (go_simp; done) | (go_simp; rfl)); intro w61 hw; have n0_ : Aside0 (Kd.R (Kd.int .i64) 3 w61 w.heap.size (fun k_ => some k_ ≠ (.slice Ao43 x261000_2.length co43 : Value).ownBlock ∧ some k_ ≠ (.slice Ao46 t266.length co46 : Value).ownBlock) u10 x10_2) := ⟨(by rw [hw]; exact (by (with_reducible repeat (first | apply Kd.R_alloc | apply Kd.R_drewN | apply Kd.R_drew)); exact Kd.R_mono (Kd.R_far (p := ⟨gb264, 1, none⟩) (Kd.R_far (p := ⟨gb264, 0, none⟩) (Kd.R_types HO_10.out BK264.out (by decide)) (fun _ hk => by first | exact hk.2 | grind) (.int .i64 t274)) (fun _ hk => by first | exact hk.2 | grind) (.int .i64 t275)) (fun _ hk => by first | exact ⟨hk.1.1, hk.1.2⟩ | grind)))⟩; have n1_ : Aside0 (Kd.R (Kd.int .i64) 3 w61 w.heap.size (fun k_ => some k_ ≠ (u10 : Value).ownBlock ∧ some k_ ≠ (.slice Ao46 t266.length co46 : Value).ownBlock) (.slice Ao43 x261000_2.length co43) x261000_2) := ⟨(by rw [hw]; exact (by (with_reducible repeat (first | apply Kd.R_alloc | apply Kd.R_drewN | apply Kd.R_drew)); exact Kd.R_mono (Kd.R_far (p := ⟨gb264, 1, none⟩) (Kd.R_far (p := ⟨gb264, 0, none⟩) (Kd.R_types HO_261000.out BK264.out (by decide)) (fun _ hk => by first | exact hk.2 | grind) (.int .i64 t274)) (fun _ hk => by first | exact hk.2 | grind) (.int .i64 t275)) (fun _ hk => by first | exact ⟨hk.1.1, hk.1.2⟩ | grind)))⟩; have n2_ : Aside0 (Kd.R (Kd.int .i64) 3 w61 w.heap.size (fun k_ => some k_ ≠ (u10 : Value).ownBlock ∧ some k_ ≠ (.slice Ao43 x261000_2.length co43 : Value).ownBlock) (.slice Ao46 t266.length co46) t266) := ⟨(by rw [hw]; exact (by (with_reducible repeat (first | apply Kd.R_alloc | apply Kd.R_drewN | apply Kd.R_drew)); exact Kd.R_mono (Kd.R_far (p := ⟨gb264, 1, none⟩) (Kd.R_far (p := ⟨gb264, 0, none⟩) (Kd.R_types HO268.out BK264.out (by decide)) (fun _ hk => by first | exact hk.2 | grind) (.int .i64 t274)) (fun _ hk => by first | exact hk.2 | grind) (.int .i64 t275)) (fun _ hk => by first | exact ⟨hk.1.1, hk.1.2⟩ | grind)))⟩; have n3_ : Aside0 (w61.heap[gb252]? = some (.cells #[.slice none 0 0, .int .i64 0, .int .i64 0] 24 (0, 0))) := ⟨(by rw [hw]; exact (uf_ BK252.out))⟩; have n4_ : Aside0 (w61.heap[gb253]? = some (.cells #[.int .i64 0, .int .i64 0] 26 (0, 0))) := ⟨(by rw [hw]; exact (uf_ BK253.out))⟩; have n5_ : Aside0 (w61.heap[gb260]? = some (.cells #[.slice Ao46 t266.length co46, .int .i64 t269, .int .i64 t270] 24 (0, 0))) := ⟨(by rw [hw]; exact (uf_ BK260.out))⟩; have n6_ : Aside0 (w61.heap[gb264]? = some (.cells #[.int .i64 t274, .int .i64 t275] 26 (0, 0))) := ⟨(by rw [hw]; exact (by (with_reducible repeat first|apply bn_|apply bd_|apply ba_); refine blk_put (cs := #[.int .i64 t274, .int .i64 x265001_2]) ?_ 1 _ rfl; refine blk_put (cs := #[.int .i64 x265000_2, .int .i64 x265001_2]) ?_ 0 _ rfl; (with_reducible repeat first|apply bn_|apply bd_|apply ba_); exact BK264.out))⟩; have n7_ : Aside0 (w61.heap[gb273]? = some (.cells #[.slice Ao46 t266.length co46, .int .i64 t269, .int .i64 t270] 24 (0, 0))) := ⟨(by rw [hw]; exact (uf_ BK273.out))⟩; have n8_ : Aside0 (Below w.heap.size w w61) := ⟨(by rw [hw]; exact (ue_ HB.out))⟩; clear hw HO_10 HO_261000 HO268 BK252 BK253 BK260 BK264 BK273 HB; have HO_10 := n0_; have HO_261000 := n1_; have HO268 := n2_; have BK252 := n3_; have BK253 := n4_; have BK260 := n5_; have BK264 := n6_; have BK273 := n7_; have HB := n8_; clear n0_ n1_ n2_ n3_ n4_ n5_ n6_ n7_ n8_) | ((with_reducible refine gate_builtin (b := .append) (xs := #[.tmp 57, .tmp 59]) rfl ?_); (try (refine gate_guard (by rfl) ?_; dsimp only)); at_builtin; refine Kd.R_append (Kd.int .i64) (w0 := w) w.heap.size rfl (.tmp 57) (.tmp 59) 22 3 (.int .i64 0) 8 rfl Try.underlying22 info3 rfl (by decide) (by omega) u10 x10_2 t271 [.int .i64 t271] (fun k_ => some k_ ≠ (.slice Ao43 x261000_2.length co43 : Value).ownBlock ∧ some k_ ≠ (.slice Ao46 t266.length co46 : Value).ownBlock) (fun _ => False) rfl rfl ?aP (fun _ hk => hk.elim) ?aF ?aO ?aB ?aS ?aL ?_; (case aP => exact rfl); (case aB => exact (ue_ HB.out)); (case aF => exact (fun k_ hk => ⟨Kd.fresh' (Kd.R_lt (ur_ HO_261000.out)) k_ hk, Kd.fresh' (Kd.R_lt (ur_ HO268.out)) k_ hk⟩)); (case aO => exact (ur_ HO_10.out)); (case aS => exact (below_size (ue_ HB.out))); (case aL => have := LMc38.out; omega); intro v278 w62 ho hb hg hat; rw [← Ny277.out] at ho; have n0_ := am_ (Kd.R_after (ok := (fun k_ => some k_ ≠ (.slice Ao46 t266.length co46 : Value).ownBlock)) (by (with_reducible repeat (first | apply Kd.R_alloc | apply Kd.R_drewN | apply Kd.R_drew)); exact Kd.R_mono HO_261000.out (fun _ hk => by first | exact ⟨hk.2, hk.1⟩ | grind)) hg hat); have n1_ := am_ (blk_grown (g := gb252) (o := .cells #[.slice none 0 0, .int .i64 0, .int .i64 0] 24 (0, 0)) (ub_ BK252.out) hg (Kd.R_ne HO_10.out BK252.out (by decide))); have n2_ := am_ (blk_grown (g := gb253) (o := .cells #[.int .i64 0, .int .i64 0] 26 (0, 0)) (ub_ BK253.out) hg (Kd.R_ne HO_10.out BK253.out (by decide))); have n3_ := am_ (blk_grown (g := gb260) (o := .cells #[.slice Ao46 t266.length co46, .int .i64 t269, .int .i64 t270] 24 (0, 0)) (ub_ BK260.out) hg (Kd.R_ne HO_10.out BK260.out (by decide))); have n4_ := am_ (blk_grown (g := gb264) (o := .cells #[.int .i64 t274, .int .i64 t275] 26 (0, 0)) (ub_ BK264.out) hg (Kd.R_ne HO_10.out BK264.out (by decide))); have n5_ := am_ (Kd.R_after (ok := (fun k_ => some k_ ≠ (.slice Ao43 x261000_2.length co43 : Value).ownBlock)) (by (with_reducible repeat (first | apply Kd.R_alloc | apply Kd.R_drewN | apply Kd.R_drew)); exact Kd.R_mono HO268.out (fun _ hk => by first | exact ⟨hk.2, hk.1⟩ | grind)) hg hat); have n6_ := am_ (blk_grown (g := gb273) (o := .cells #[.slice Ao46 t266.length co46, .int .i64 t269, .int .i64 t270] 24 (0, 0)) (ub_ BK273.out) hg (Kd.R_ne HO_10.out BK273.out (by decide))); have n7_ := am_ (hb); have n8_ := am_ (ho); clear HO_261000 BK252 BK253 BK260 BK264 HO268 BK273 HB HO_10; have HO_261000 := n0_; have BK252 := n1_; have BK253 := n2_; have BK260 := n3_; have BK264 := n4_; have HO268 := n5_; have BK273 := n6_; have HB := n7_; have HO279 := n8_; clear n0_ n1_ n2_ n3_ n4_ n5_ n6_ n7_ n8_; clear ho hb hg hat))
            go_roundg k2
            case measure => have := HJ3.out; have := HK2.out; omega
            case rel => exact ⟨(y277), (wrap64 (x37_2 + 1)), (t266), (t269), (t270), (t274), (t275), (.slice Ao46 t266.length co46), (by first | rfl | (simp; done) | (simp [*]; done)), H', ⟨by have := HJ3.out; have := HK2.out; omega⟩, ⟨by (with_reducible repeat (first | apply Kd.R_alloc | apply Kd.R_drewN | apply Kd.R_drew)); exact Kd.R_mono HO279.out (fun _ hk => by first | exact hk.2 | grind)⟩, ⟨by (with_reducible repeat (first | apply Kd.R_alloc | apply Kd.R_drewN | apply Kd.R_drew)); exact Kd.R_mono HO268.out (fun _ hk => by first | exact hk.2 | grind)⟩, ⟨by (with_reducible repeat first|apply bn_|apply bd_|apply ba_); exact BK252.out⟩, ⟨by (with_reducible repeat first|apply bn_|apply bd_|apply ba_); exact BK253.out⟩, ⟨by (with_reducible repeat first|apply bn_|apply bd_|apply ba_); exact BK260.out⟩, ⟨by (with_reducible repeat first|apply bn_|apply bd_|apply ba_); exact BK264.out⟩, ⟨ue_ HB.out⟩⟩
           ·
            rw [if_neg c38] at H
            exact absurd H (by simp)
          ·
           replace c36 := Bool.eq_false_iff.mpr c36
           subst c36
           have H1 : (if x10_2.length < 17592186044416 then (impl_PlayLink.l0 k2 (x10_2 ++ [(-1)]) l1 (l1.length : Int) (wrap64 (x37_2 + 1)) x261000_2 x261001_2 x261002_2 x265000_2 x265001_2) else (none)) = some (r1, r2, r3, r4, r5, r6) := by rw [if_neg (show ¬ (false = true) by decide)] at H; exact H
           clear H
           have H := H1
           clear H1
           by_cases c63 : x10_2.length < 17592186044416
           ·
            rw [if_pos c63] at H
            have LMc63 := Aside0.mk c63
            clear c63
            obtain ⟨y280, hy280⟩ : ∃ y_ : List Int, y_ = (x10_2 ++ [(-1)]) := ⟨_, rfl⟩
            replace H : (impl_PlayLink.l0 k2 y280 l1 (l1.length : Int) (wrap64 (x37_2 + 1)) x261000_2 x261001_2 x261002_2 x265000_2 x265001_2) = some (r1, r2, r3, r4, r5, r6) := by first | (rw [hy280]; with_reducible exact H) | (have H2_ := (Option.bind_some _ _).symm.trans H; rw [hy280]; with_reducible exact H2_) | (have H2_ := (Option.bind_some _ _).symm.trans H; with_reducible exact H2_) | with_reducible exact H | (rw [hy280]; exact H) | exact H
            have Ny280 := Aside0.mk hy280
            clear hy280
            have H' := Aside0.mk H
            clear H
            have p265 : 0 ≤ (x37_2 : Int) := of_decide_eq_true ua_
            have q265 : x37_2 < (l1.length : Int) := of_decide_eq_true ua_
            obtain ⟨ad265, e265, hx265_0⟩ := Kd.at_int HR1.out x37_2 p265 q265
            cases e265
            replace hx265_0 := bc_ HB.out hx265_0
            replace p265 := eq_true p265
            replace q265 := eq_true q265
            have hnb64 := NB260_252.out
            have hnc64 := NB252_260.out
            have hnb65 := NB260_253.out
            have hnc65 := NB253_260.out
            have hnb66 := NB260_264.out
            have hnc66 := NB264_260.out
            have hcz67_0 := cb_ BK260.out 0 rfl
            have hcz67_1 := cb_ BK260.out 1 rfl
            have hcz67_2 := cb_ BK260.out 2 rfl
            have hfz67_0 := blk_frozen BK260.out 0
            have hfz67_1 := blk_frozen BK260.out 1
            have hfz67_2 := blk_frozen BK260.out 2
            obtain ⟨Ao68, co68, eo68⟩ := Kd.R_slice HO_261000.out
            subst eo68
            go_wp2_with (first | ((with_reducible refine gate_callee (f := 88) rfl ?_); refine goesL_ (some 45) rfl rfl Try.func88 (by kernel_rfl) rfl #[.agg #[.slice Ao68 x261000_2.length co68, .int .i64 x261001_2, .int .i64 x261002_2]] rfl ul_ ?_; (with_reducible refine (impl_PopRing.calls k2 _ _ x261000_2 x261001_2 x261002_2 t266 t269 t270 t271 false _ ?side1 ?side2 A35.out).mono ?_); (case side1 => repeat (first | exact (Kd.R_reads' HO_261000.out).2.2 | (with_reducible refine Kd.C_alloc ?_ _) | (with_reducible refine Kd.C_drewN ?_ _) | (with_reducible refine Kd.C_drew ?_))); (case side2 => exact (Kd.R_reads' HO_261000.out).2.1); rintro e w69 ⟨v267, rfl, ho0, hb⟩; refine ⟨_, rfl, ?_⟩; have n0_ := am_ (Kd.R_elder' (ur_ HO_10.out) (Kd.R_base ho0) hb); have n1_ := am_ (Kd.R_elder' (ur_ HO_261000.out) (Kd.R_base ho0) hb); have n2_ := am_ (Kd.R_lower (Kd.R_new' (Kd.R_new' ho0 (Kd.R_lt (ur_ HO_10.out))) (Kd.R_lt (ur_ HO_261000.out))) (below_size (ue_ HB.out))); have n3_ := am_ (bb_ BK252.out hb); have n4_ := am_ (bb_ BK253.out hb); have n5_ := am_ (bb_ BK260.out hb); have n6_ := am_ (bb_ BK264.out hb); have n7_ := am_ (below_step (ue_ HB.out) hb); clear HO_10 HO_261000 BK252 BK253 BK260 BK264 HB; have HO_10 := n0_; have HO_261000 := n1_; have HO268 := n2_; have BK252 := n3_; have BK253 := n4_; have BK260 := n5_; have BK264 := n6_; have HB := n7_; clear n0_ n1_ n2_ n3_ n4_ n5_ n6_ n7_; (try clear hb); (try clear hb2); (try clear hk); (try clear hi); (try clear ho0)) | ((with_reducible refine gate_dst (N := 13) rfl ?_); (try (refine gate_guard (by rfl) ?_; dsimp only)); refine box_event ?hg (N := 13) ?hd (cs := #[.slice none 0 0, .int .i64 0, .int .i64 0]) (t := 24) ?hr ?_; (case hd => rfl); (case hg => rfl); (case hr => first | (go_simp; done) | (go_simp; rfl)); intro gb273 hg w70 hbox hb; have n0_ := am_ (Kd.R_below (ur_ HO_10.out) hb); have n1_ := am_ (Kd.R_below (ur_ HO_261000.out) hb); have n2_ := am_ (Kd.R_below (ur_ HO268.out) hb); have n3_ := am_ (bb_ BK252.out hb); have n4_ := am_ (bb_ BK253.out hb); have n5_ := am_ (bb_ BK260.out hb); have n6_ := am_ (bb_ BK264.out hb); have n7_ := am_ (below_step (ue_ HB.out) hb); have n8_ := am_ (hbox); have n9_ := am_ ((by rw [hg]; exact (below_size (ue_ HB.out)) : w.heap.size ≤ gb273)); have n10_ := am_ ((by rw [hg]; exact (below_size (ue_ HB.out)) : w.heap.size ≤ gb273)); have n11_ := am_ ((by rw [hg]; exact Nat.ne_of_lt (bl_ BK252.out) : gb252 ≠ gb273)); have n12_ := am_ ((by rw [hg]; exact Nat.ne_of_gt (bl_ BK252.out) : gb273 ≠ gb252)); have n13_ := am_ ((by rw [hg]; exact Nat.ne_of_lt (bl_ BK253.out) : gb253 ≠ gb273)); have n14_ := am_ ((by rw [hg]; exact Nat.ne_of_gt (bl_ BK253.out) : gb273 ≠ gb253)); have n15_ := am_ ((by rw [hg]; exact Nat.ne_of_lt (bl_ BK260.out) : gb260 ≠ gb273)); have n16_ := am_ ((by rw [hg]; exact Nat.ne_of_gt (bl_ BK260.out) : gb273 ≠ gb260)); have n17_ := am_ ((by rw [hg]; exact Nat.ne_of_lt (bl_ BK264.out) : gb264 ≠ gb273)); have n18_ := am_ ((by rw [hg]; exact Nat.ne_of_gt (bl_ BK264.out) : gb273 ≠ gb264)); clear HO_10 HO_261000 HO268 BK252 BK253 BK260 BK264 HB; have HO_10 := n0_; have HO_261000 := n1_; have HO268 := n2_; have BK252 := n3_; have BK253 := n4_; have BK260 := n5_; have BK264 := n6_; have HB := n7_; have BK273 := n8_; have GW273 := n9_; have GE273 := n10_; have NB252_273 := n11_; have NB273_252 := n12_; have NB253_273 := n13_; have NB273_253 := n14_; have NB260_273 := n15_; have NB273_260 := n16_; have NB264_273 := n17_; have NB273_264 := n18_; clear n0_ n1_ n2_ n3_ n4_ n5_ n6_ n7_ n8_ n9_ n10_ n11_ n12_ n13_ n14_ n15_ n16_ n17_ n18_; clear hb hbox hg; obtain ⟨Ao71, co71, eo71⟩ := Kd.R_slice HO268.out; subst eo71; have hnb72 := NB273_252.out; have hnc72 := NB252_273.out; have hnb73 := NB273_253.out; have hnc73 := NB253_273.out; have hnb74 := NB273_260.out; have hnc74 := NB260_273.out; have hnb75 := NB273_264.out; have hnc75 := NB264_273.out; obtain ⟨hcz76_0, hcz76_1, hcz76_2⟩ := cb3_ BK273.out; obtain ⟨hfz76_0, hfz76_1⟩ := bf2_ BK273.out; have hfz76_2 := blk_frozen BK273.out 2) | ((with_reducible refine gate_store (t := 24) (p := 13) rfl ?_); refine store_event (t := 24) (p := 13) (v := ?vo_w77) (w1 := (((w70.setCell ⟨gb273, 0, none⟩ (.slice Ao71 t266.length co71)).setCell ⟨gb273, 1, none⟩ (.int .i64 t269)).setCell ⟨gb273, 2, none⟩ (.int .i64 t270))) ?hg ?ho ?hn ?hr ?_; (case ho => rfl); (case hg => rfl); (case hn => rfl); (case hr => first | (go_simp; done) | (go_simp; rfl)); intro w77 hw; have n0_ : Aside0 (Kd.R (Kd.int .i64) 3 w77 w.heap.size (fun k_ => some k_ ≠ (.slice Ao68 x261000_2.length co68 : Value).ownBlock ∧ some k_ ≠ (.slice Ao71 t266.length co71 : Value).ownBlock) u10 x10_2) := ⟨(by rw [hw]; exact (by (with_reducible repeat (first | apply Kd.R_alloc | apply Kd.R_drewN | apply Kd.R_drew)); exact Kd.R_mono (Kd.R_far (p := ⟨gb273, 2, none⟩) (Kd.R_far (p := ⟨gb273, 1, none⟩) (Kd.R_far (p := ⟨gb273, 0, none⟩) (Kd.R_types HO_10.out BK273.out (by decide)) (fun _ hk => by first | exact hk.2 | grind) (.slice Ao71 t266.length co71)) (fun _ hk => by first | exact hk.2 | grind) (.int .i64 t269)) (fun _ hk => by first | exact hk.2 | grind) (.int .i64 t270)) (fun _ hk => by first | exact ⟨hk.1.1, hk.1.2⟩ | grind)))⟩; have n1_ : Aside0 (Kd.R (Kd.int .i64) 3 w77 w.heap.size (fun k_ => some k_ ≠ (u10 : Value).ownBlock ∧ some k_ ≠ (.slice Ao71 t266.length co71 : Value).ownBlock) (.slice Ao68 x261000_2.length co68) x261000_2) := ⟨(by rw [hw]; exact (by (with_reducible repeat (first | apply Kd.R_alloc | apply Kd.R_drewN | apply Kd.R_drew)); exact Kd.R_mono (Kd.R_far (p := ⟨gb273, 2, none⟩) (Kd.R_far (p := ⟨gb273, 1, none⟩) (Kd.R_far (p := ⟨gb273, 0, none⟩) (Kd.R_types HO_261000.out BK273.out (by decide)) (fun _ hk => by first | exact hk.2 | grind) (.slice Ao71 t266.length co71)) (fun _ hk => by first | exact hk.2 | grind) (.int .i64 t269)) (fun _ hk => by first | exact hk.2 | grind) (.int .i64 t270)) (fun _ hk => by first | exact ⟨hk.1.1, hk.1.2⟩ | grind)))⟩; have n2_ : Aside0 (Kd.R (Kd.int .i64) 3 w77 w.heap.size (fun k_ => some k_ ≠ (u10 : Value).ownBlock ∧ some k_ ≠ (.slice Ao68 x261000_2.length co68 : Value).ownBlock) (.slice Ao71 t266.length co71) t266) := ⟨(by rw [hw]; exact (by (with_reducible repeat (first | apply Kd.R_alloc | apply Kd.R_drewN | apply Kd.R_drew)); exact Kd.R_mono (Kd.R_far (p := ⟨gb273, 2, none⟩) (Kd.R_far (p := ⟨gb273, 1, none⟩) (Kd.R_far (p := ⟨gb273, 0, none⟩) (Kd.R_types HO268.out BK273.out (by decide)) (fun _ hk => by first | exact hk.2 | grind) (.slice Ao71 t266.length co71)) (fun _ hk => by first | exact hk.2 | grind) (.int .i64 t269)) (fun _ hk => by first | exact hk.2 | grind) (.int .i64 t270)) (fun _ hk => by first | exact ⟨hk.1.1.2, hk.1.2⟩ | grind)))⟩; have n3_ : Aside0 (w77.heap[gb252]? = some (.cells #[.slice none 0 0, .int .i64 0, .int .i64 0] 24 (0, 0))) := ⟨(by rw [hw]; exact (uf_ BK252.out))⟩; have n4_ : Aside0 (w77.heap[gb253]? = some (.cells #[.int .i64 0, .int .i64 0] 26 (0, 0))) := ⟨(by rw [hw]; exact (uf_ BK253.out))⟩; have n5_ : Aside0 (w77.heap[gb260]? = some (.cells #[.slice Ao68 x261000_2.length co68, .int .i64 x261001_2, .int .i64 x261002_2] 24 (0, 0))) := ⟨(by rw [hw]; exact (uf_ BK260.out))⟩; have n6_ : Aside0 (w77.heap[gb264]? = some (.cells #[.int .i64 x265000_2, .int .i64 x265001_2] 26 (0, 0))) := ⟨(by rw [hw]; exact (uf_ BK264.out))⟩; have n7_ : Aside0 (w77.heap[gb273]? = some (.cells #[.slice Ao71 t266.length co71, .int .i64 t269, .int .i64 t270] 24 (0, 0))) := ⟨(by rw [hw]; exact (by (with_reducible repeat first|apply bn_|apply bd_|apply ba_); refine blk_put (cs := #[.slice Ao71 t266.length co71, .int .i64 t269, .int .i64 0]) ?_ 2 _ rfl; refine blk_put (cs := #[.slice Ao71 t266.length co71, .int .i64 0, .int .i64 0]) ?_ 1 _ rfl; refine blk_put (cs := #[.slice none 0 0, .int .i64 0, .int .i64 0]) ?_ 0 _ rfl; (with_reducible repeat first|apply bn_|apply bd_|apply ba_); exact BK273.out))⟩; have n8_ : Aside0 (Below w.heap.size w w77) := ⟨(by rw [hw]; exact (ue_ HB.out))⟩; clear hw HO_10 HO_261000 HO268 BK252 BK253 BK260 BK264 BK273 HB; have HO_10 := n0_; have HO_261000 := n1_; have HO268 := n2_; have BK252 := n3_; have BK253 := n4_; have BK260 := n5_; have BK264 := n6_; have BK273 := n7_; have HB := n8_; clear n0_ n1_ n2_ n3_ n4_ n5_ n6_ n7_ n8_) | ((with_reducible refine gate_builtin (b := .append) (xs := #[.tmp 57, .tmp 59]) rfl ?_); (try (refine gate_guard (by rfl) ?_; dsimp only)); at_builtin; refine Kd.R_append (Kd.int .i64) (w0 := w) w.heap.size rfl (.tmp 57) (.tmp 59) 22 3 (.int .i64 0) 8 rfl Try.underlying22 info3 rfl (by decide) (by omega) u10 x10_2 (-1) [.int .i64 (-1)] (fun k_ => some k_ ≠ (.slice Ao68 x261000_2.length co68 : Value).ownBlock ∧ some k_ ≠ (.slice Ao71 t266.length co71 : Value).ownBlock) (fun _ => False) rfl rfl ?aP (fun _ hk => hk.elim) ?aF ?aO ?aB ?aS ?aL ?_; (case aP => exact rfl); (case aB => exact (ue_ HB.out)); (case aF => exact (fun k_ hk => ⟨Kd.fresh' (Kd.R_lt (ur_ HO_261000.out)) k_ hk, Kd.fresh' (Kd.R_lt (ur_ HO268.out)) k_ hk⟩)); (case aO => exact (ur_ HO_10.out)); (case aS => exact (below_size (ue_ HB.out))); (case aL => have := LMc63.out; omega); intro v281 w78 ho hb hg hat; rw [← Ny280.out] at ho; have n0_ := am_ (Kd.R_after (ok := (fun k_ => some k_ ≠ (.slice Ao71 t266.length co71 : Value).ownBlock)) (by (with_reducible repeat (first | apply Kd.R_alloc | apply Kd.R_drewN | apply Kd.R_drew)); exact Kd.R_mono HO_261000.out (fun _ hk => by first | exact ⟨hk.2, hk.1⟩ | grind)) hg hat); have n1_ := am_ (blk_grown (g := gb252) (o := .cells #[.slice none 0 0, .int .i64 0, .int .i64 0] 24 (0, 0)) (ub_ BK252.out) hg (Kd.R_ne HO_10.out BK252.out (by decide))); have n2_ := am_ (blk_grown (g := gb253) (o := .cells #[.int .i64 0, .int .i64 0] 26 (0, 0)) (ub_ BK253.out) hg (Kd.R_ne HO_10.out BK253.out (by decide))); have n3_ := am_ (blk_grown (g := gb260) (o := .cells #[.slice Ao68 x261000_2.length co68, .int .i64 x261001_2, .int .i64 x261002_2] 24 (0, 0)) (ub_ BK260.out) hg (Kd.R_ne HO_10.out BK260.out (by decide))); have n4_ := am_ (blk_grown (g := gb264) (o := .cells #[.int .i64 x265000_2, .int .i64 x265001_2] 26 (0, 0)) (ub_ BK264.out) hg (Kd.R_ne HO_10.out BK264.out (by decide))); have n5_ := am_ (Kd.R_after (ok := (fun k_ => some k_ ≠ (.slice Ao68 x261000_2.length co68 : Value).ownBlock)) (by (with_reducible repeat (first | apply Kd.R_alloc | apply Kd.R_drewN | apply Kd.R_drew)); exact Kd.R_mono HO268.out (fun _ hk => by first | exact ⟨hk.2, hk.1⟩ | grind)) hg hat); have n6_ := am_ (blk_grown (g := gb273) (o := .cells #[.slice Ao71 t266.length co71, .int .i64 t269, .int .i64 t270] 24 (0, 0)) (ub_ BK273.out) hg (Kd.R_ne HO_10.out BK273.out (by decide))); have n7_ := am_ (hb); have n8_ := am_ (ho); clear HO_261000 BK252 BK253 BK260 BK264 HO268 BK273 HB HO_10; have HO_261000 := n0_; have BK252 := n1_; have BK253 := n2_; have BK260 := n3_; have BK264 := n4_; have HO268 := n5_; have BK273 := n6_; have HB := n7_; have HO282 := n8_; clear n0_ n1_ n2_ n3_ n4_ n5_ n6_ n7_ n8_; clear ho hb hg hat))
            go_roundg k2
            case measure => have := HJ3.out; have := HK2.out; omega
            case rel => exact ⟨(y280), (wrap64 (x37_2 + 1)), (x261000_2), (x261001_2), (x261002_2), (x265000_2), (x265001_2), (.slice Ao68 x261000_2.length co68), (by first | rfl | (simp; done) | (simp [*]; done)), H', ⟨by have := HJ3.out; have := HK2.out; omega⟩, ⟨by (with_reducible repeat (first | apply Kd.R_alloc | apply Kd.R_drewN | apply Kd.R_drew)); exact Kd.R_mono HO282.out (fun _ hk => by first | exact hk.1 | grind)⟩, ⟨by (with_reducible repeat (first | apply Kd.R_alloc | apply Kd.R_drewN | apply Kd.R_drew)); exact Kd.R_mono HO_261000.out (fun _ hk => by first | exact hk.2 | grind)⟩, ⟨by (with_reducible repeat first|apply bn_|apply bd_|apply ba_); exact BK252.out⟩, ⟨by (with_reducible repeat first|apply bn_|apply bd_|apply ba_); exact BK253.out⟩, ⟨by (with_reducible repeat first|apply bn_|apply bd_|apply ba_); exact BK260.out⟩, ⟨by (with_reducible repeat first|apply bn_|apply bd_|apply ba_); exact BK264.out⟩, ⟨ue_ HB.out⟩⟩
           ·
            rw [if_neg c63] at H
            exact absurd H (by simp)
         ·
          rw [if_neg c34] at H
          have c34b0 : decide ((rd l1 x37_2) < 0) = false := decide_eq_false c34
          clear c34
          replace H := Option.bind_eq_some_iff.mp H
          obtain ⟨⟨t283, t284, t285⟩, A790, H⟩ := H
          replace H : (if t285 = true then ((impl_PushRing.f k2 x261000_2 x261001_2 x261002_2 (rd l1 x37_2)).bind fun bt287 => (if x10_2.length < 17592186044416 then (impl_PlayLink.l0 k2 (x10_2 ++ [1]) l1 (l1.length : Int) (wrap64 (x37_2 + 1)) bt287.1 bt287.2.1 bt287.2.2.1 t283 t284) else (none))) else (if x10_2.length < 17592186044416 then (impl_PlayLink.l0 k2 (x10_2 ++ [0]) l1 (l1.length : Int) (wrap64 (x37_2 + 1)) x261000_2 x261001_2 x261002_2 x265000_2 x265001_2) else (none))) = some (r1, r2, r3, r4, r5, r6) := H
          have A79 := Aside0.mk A790
          clear A790
          by_cases c80 : t285 = true
          ·
           subst c80
           have H1 : ((impl_PushRing.f k2 x261000_2 x261001_2 x261002_2 (rd l1 x37_2)).bind fun bt287 => (if x10_2.length < 17592186044416 then (impl_PlayLink.l0 k2 (x10_2 ++ [1]) l1 (l1.length : Int) (wrap64 (x37_2 + 1)) bt287.1 bt287.2.1 bt287.2.2.1 t283 t284) else (none))) = some (r1, r2, r3, r4, r5, r6) := by rw [if_pos rfl] at H; exact H
           clear H
           have H := H1
           clear H1
           replace H := Option.bind_eq_some_iff.mp H
           obtain ⟨⟨t287, t290, t291, t292⟩, A810, H⟩ := H
           replace H : (if x10_2.length < 17592186044416 then (impl_PlayLink.l0 k2 (x10_2 ++ [1]) l1 (l1.length : Int) (wrap64 (x37_2 + 1)) t287 t290 t291 t283 t284) else (none)) = some (r1, r2, r3, r4, r5, r6) := H
           have A81 := Aside0.mk A810
           clear A810
           by_cases c82 : x10_2.length < 17592186044416
           ·
            rw [if_pos c82] at H
            have LMc82 := Aside0.mk c82
            clear c82
            obtain ⟨y293, hy293⟩ : ∃ y_ : List Int, y_ = (x10_2 ++ [1]) := ⟨_, rfl⟩
            replace H : (impl_PlayLink.l0 k2 y293 l1 (l1.length : Int) (wrap64 (x37_2 + 1)) t287 t290 t291 t283 t284) = some (r1, r2, r3, r4, r5, r6) := by first | (rw [hy293]; with_reducible exact H) | (have H2_ := (Option.bind_some _ _).symm.trans H; rw [hy293]; with_reducible exact H2_) | (have H2_ := (Option.bind_some _ _).symm.trans H; with_reducible exact H2_) | with_reducible exact H | (rw [hy293]; exact H) | exact H
            have Ny293 := Aside0.mk hy293
            clear hy293
            have H' := Aside0.mk H
            clear H
            have p265 : 0 ≤ (x37_2 : Int) := of_decide_eq_true ua_
            have q265 : x37_2 < (l1.length : Int) := of_decide_eq_true ua_
            obtain ⟨ad265, e265, hx265_0⟩ := Kd.at_int HR1.out x37_2 p265 q265
            cases e265
            replace hx265_0 := bc_ HB.out hx265_0
            replace p265 := eq_true p265
            replace q265 := eq_true q265
            have hnb83 := NB264_252.out
            have hnc83 := NB252_264.out
            have hnb84 := NB264_253.out
            have hnc84 := NB253_264.out
            have hnb85 := NB264_260.out
            have hnc85 := NB260_264.out
            have hcz86_0 := cb_ BK264.out 0 rfl
            have hcz86_1 := cb_ BK264.out 1 rfl
            have hfz86_0 := blk_frozen BK264.out 0
            have hfz86_1 := blk_frozen BK264.out 1
            go_wp2_with (first | ((with_reducible refine gate_callee (f := 90) rfl ?_); refine goesL_ (some 63) rfl rfl Try.func90 (by kernel_rfl) rfl #[.agg #[.int .i64 x265000_2, .int .i64 x265001_2]] rfl ul_ ?_; (with_reducible refine (impl_SpendCredit.calls x265000_2 x265001_2 t283 t284 true _ A79.out).mono ?_); rintro e w87 ⟨rfl, hb⟩; refine ⟨_, rfl, ?_⟩; have n0_ := am_ (Kd.R_below (ur_ HO_10.out) hb); have n1_ := am_ (Kd.R_below (ur_ HO_261000.out) hb); have n2_ := am_ (bb_ BK252.out hb); have n3_ := am_ (bb_ BK253.out hb); have n4_ := am_ (bb_ BK260.out hb); have n5_ := am_ (bb_ BK264.out hb); have n6_ := am_ (below_step (ue_ HB.out) hb); clear HO_10 HO_261000 BK252 BK253 BK260 BK264 HB; have HO_10 := n0_; have HO_261000 := n1_; have BK252 := n2_; have BK253 := n3_; have BK260 := n4_; have BK264 := n5_; have HB := n6_; clear n0_ n1_ n2_ n3_ n4_ n5_ n6_; (try clear hb); (try clear hb2); (try clear hk); (try clear hi)) | ((with_reducible refine gate_dst (N := 16) rfl ?_); (try (refine gate_guard (by rfl) ?_; dsimp only)); refine box_event ?hg (N := 16) ?hd (cs := #[.int .i64 0, .int .i64 0]) (t := 26) ?hr ?_; (case hd => rfl); (case hg => rfl); (case hr => first | (go_simp; done) | (go_simp; rfl)); intro gb286 hg w88 hbox hb; have n0_ := am_ (Kd.R_below (ur_ HO_10.out) hb); have n1_ := am_ (Kd.R_below (ur_ HO_261000.out) hb); have n2_ := am_ (bb_ BK252.out hb); have n3_ := am_ (bb_ BK253.out hb); have n4_ := am_ (bb_ BK260.out hb); have n5_ := am_ (bb_ BK264.out hb); have n6_ := am_ (below_step (ue_ HB.out) hb); have n7_ := am_ (hbox); have n8_ := am_ ((by rw [hg]; exact (below_size (ue_ HB.out)) : w.heap.size ≤ gb286)); have n9_ := am_ ((by rw [hg]; exact (below_size (ue_ HB.out)) : w.heap.size ≤ gb286)); have n10_ := am_ ((by rw [hg]; exact Nat.ne_of_lt (bl_ BK252.out) : gb252 ≠ gb286)); have n11_ := am_ ((by rw [hg]; exact Nat.ne_of_gt (bl_ BK252.out) : gb286 ≠ gb252)); have n12_ := am_ ((by rw [hg]; exact Nat.ne_of_lt (bl_ BK253.out) : gb253 ≠ gb286)); have n13_ := am_ ((by rw [hg]; exact Nat.ne_of_gt (bl_ BK253.out) : gb286 ≠ gb253)); have n14_ := am_ ((by rw [hg]; exact Nat.ne_of_lt (bl_ BK260.out) : gb260 ≠ gb286)); have n15_ := am_ ((by rw [hg]; exact Nat.ne_of_gt (bl_ BK260.out) : gb286 ≠ gb260)); have n16_ := am_ ((by rw [hg]; exact Nat.ne_of_lt (bl_ BK264.out) : gb264 ≠ gb286)); have n17_ := am_ ((by rw [hg]; exact Nat.ne_of_gt (bl_ BK264.out) : gb286 ≠ gb264)); clear HO_10 HO_261000 BK252 BK253 BK260 BK264 HB; have HO_10 := n0_; have HO_261000 := n1_; have BK252 := n2_; have BK253 := n3_; have BK260 := n4_; have BK264 := n5_; have HB := n6_; have BK286 := n7_; have GW286 := n8_; have GE286 := n9_; have NB252_286 := n10_; have NB286_252 := n11_; have NB253_286 := n12_; have NB286_253 := n13_; have NB260_286 := n14_; have NB286_260 := n15_; have NB264_286 := n16_; have NB286_264 := n17_; clear n0_ n1_ n2_ n3_ n4_ n5_ n6_ n7_ n8_ n9_ n10_ n11_ n12_ n13_ n14_ n15_ n16_ n17_; clear hb hbox hg; have hnb89 := NB286_252.out; have hnc89 := NB252_286.out; have hnb90 := NB286_253.out; have hnc90 := NB253_286.out; have hnb91 := NB286_260.out; have hnc91 := NB260_286.out; have hnb92 := NB286_264.out; have hnc92 := NB264_286.out; obtain ⟨hcz93_0, hcz93_1⟩ := cb2_ BK286.out; have hfz93_0 := blk_frozen BK286.out 0; have hfz93_1 := blk_frozen BK286.out 1) | ((with_reducible refine gate_store (t := 26) (p := 16) rfl ?_); refine store_event (t := 26) (p := 16) (v := ?vo_w94) (w1 := ((w88.setCell ⟨gb286, 0, none⟩ (.int .i64 t283)).setCell ⟨gb286, 1, none⟩ (.int .i64 t284))) ?hg ?ho ?hn ?hr ?_; (case ho => rfl); (case hg => rfl); (case hn => rfl); (case hr => first | (go_simp; done) | (go_simp; rfl)); intro w94 hw; have n0_ : Aside0 (Kd.R (Kd.int .i64) 3 w94 w.heap.size (fun k_ => some k_ ≠ (u261000 : Value).ownBlock) u10 x10_2) := ⟨(by rw [hw]; exact (by (with_reducible repeat (first | apply Kd.R_alloc | apply Kd.R_drewN | apply Kd.R_drew)); exact Kd.R_mono (Kd.R_far (p := ⟨gb286, 1, none⟩) (Kd.R_far (p := ⟨gb286, 0, none⟩) (Kd.R_types HO_10.out BK286.out (by decide)) (fun _ hk => by first | exact hk.2 | grind) (.int .i64 t283)) (fun _ hk => by first | exact hk.2 | grind) (.int .i64 t284)) (fun _ hk => by first | exact hk.1 | grind)))⟩; have n1_ : Aside0 (Kd.R (Kd.int .i64) 3 w94 w.heap.size (fun k_ => some k_ ≠ (u10 : Value).ownBlock) u261000 x261000_2) := ⟨(by rw [hw]; exact (by (with_reducible repeat (first | apply Kd.R_alloc | apply Kd.R_drewN | apply Kd.R_drew)); exact Kd.R_mono (Kd.R_far (p := ⟨gb286, 1, none⟩) (Kd.R_far (p := ⟨gb286, 0, none⟩) (Kd.R_types HO_261000.out BK286.out (by decide)) (fun _ hk => by first | exact hk.2 | grind) (.int .i64 t283)) (fun _ hk => by first | exact hk.2 | grind) (.int .i64 t284)) (fun _ hk => by first | exact hk.1 | grind)))⟩; have n2_ : Aside0 (w94.heap[gb252]? = some (.cells #[.slice none 0 0, .int .i64 0, .int .i64 0] 24 (0, 0))) := ⟨(by rw [hw]; exact (uf_ BK252.out))⟩; have n3_ : Aside0 (w94.heap[gb253]? = some (.cells #[.int .i64 0, .int .i64 0] 26 (0, 0))) := ⟨(by rw [hw]; exact (uf_ BK253.out))⟩; have n4_ : Aside0 (w94.heap[gb260]? = some (.cells #[u261000, .int .i64 x261001_2, .int .i64 x261002_2] 24 (0, 0))) := ⟨(by rw [hw]; exact (uf_ BK260.out))⟩; have n5_ : Aside0 (w94.heap[gb264]? = some (.cells #[.int .i64 x265000_2, .int .i64 x265001_2] 26 (0, 0))) := ⟨(by rw [hw]; exact (uf_ BK264.out))⟩; have n6_ : Aside0 (w94.heap[gb286]? = some (.cells #[.int .i64 t283, .int .i64 t284] 26 (0, 0))) := ⟨(by rw [hw]; exact (by (with_reducible repeat first|apply bn_|apply bd_|apply ba_); refine blk_put (cs := #[.int .i64 t283, .int .i64 0]) ?_ 1 _ rfl; refine blk_put (cs := #[.int .i64 0, .int .i64 0]) ?_ 0 _ rfl; (with_reducible repeat first|apply bn_|apply bd_|apply ba_); exact BK286.out))⟩; have n7_ : Aside0 (Below w.heap.size w w94) := ⟨(by rw [hw]; exact (ue_ HB.out))⟩; clear hw HO_10 HO_261000 BK252 BK253 BK260 BK264 BK286 HB; have HO_10 := n0_; have HO_261000 := n1_; have BK252 := n2_; have BK253 := n3_; have BK260 := n4_; have BK264 := n5_; have BK286 := n6_; have HB := n7_; clear n0_ n1_ n2_ n3_ n4_ n5_ n6_ n7_; obtain ⟨hcz95_0, hcz95_1⟩ := cb2_ BK286.out; obtain ⟨hfz95_0, hfz95_1⟩ := bf2_ BK286.out; obtain ⟨hcz96_0, hcz96_1⟩ := cb2_ BK264.out; have hfz96_0 := blk_frozen BK264.out 0; have hfz96_1 := blk_frozen BK264.out 1) | ((with_reducible refine gate_store (t := 26) (p := 9) rfl ?_); refine store_event (t := 26) (p := 9) (v := ?vo_w97) (w1 := ((w94.setCell ⟨gb264, 0, none⟩ (.int .i64 t283)).setCell ⟨gb264, 1, none⟩ (.int .i64 t284))) ?hg ?ho ?hn ?hr ?_; (case ho => rfl); (case hg => rfl); (case hn => rfl); (case hr => first | (go_simp; done) | (go_simp; rfl)); intro w97 hw; have n0_ : Aside0 (Kd.R (Kd.int .i64) 3 w97 w.heap.size (fun k_ => some k_ ≠ (u261000 : Value).ownBlock) u10 x10_2) := ⟨(by rw [hw]; exact (by (with_reducible repeat (first | apply Kd.R_alloc | apply Kd.R_drewN | apply Kd.R_drew)); exact Kd.R_mono (Kd.R_far (p := ⟨gb264, 1, none⟩) (Kd.R_far (p := ⟨gb264, 0, none⟩) (Kd.R_types HO_10.out BK264.out (by decide)) (fun _ hk => by first | exact hk.2 | grind) (.int .i64 t283)) (fun _ hk => by first | exact hk.2 | grind) (.int .i64 t284)) (fun _ hk => by first | exact hk.1 | grind)))⟩; have n1_ : Aside0 (Kd.R (Kd.int .i64) 3 w97 w.heap.size (fun k_ => some k_ ≠ (u10 : Value).ownBlock) u261000 x261000_2) := ⟨(by rw [hw]; exact (by (with_reducible repeat (first | apply Kd.R_alloc | apply Kd.R_drewN | apply Kd.R_drew)); exact Kd.R_mono (Kd.R_far (p := ⟨gb264, 1, none⟩) (Kd.R_far (p := ⟨gb264, 0, none⟩) (Kd.R_types HO_261000.out BK264.out (by decide)) (fun _ hk => by first | exact hk.2 | grind) (.int .i64 t283)) (fun _ hk => by first | exact hk.2 | grind) (.int .i64 t284)) (fun _ hk => by first | exact hk.1 | grind)))⟩; have n2_ : Aside0 (w97.heap[gb252]? = some (.cells #[.slice none 0 0, .int .i64 0, .int .i64 0] 24 (0, 0))) := ⟨(by rw [hw]; exact (uf_ BK252.out))⟩; have n3_ : Aside0 (w97.heap[gb253]? = some (.cells #[.int .i64 0, .int .i64 0] 26 (0, 0))) := ⟨(by rw [hw]; exact (uf_ BK253.out))⟩; have n4_ : Aside0 (w97.heap[gb260]? = some (.cells #[u261000, .int .i64 x261001_2, .int .i64 x261002_2] 24 (0, 0))) := ⟨(by rw [hw]; exact (uf_ BK260.out))⟩; have n5_ : Aside0 (w97.heap[gb264]? = some (.cells #[.int .i64 t283, .int .i64 t284] 26 (0, 0))) := ⟨(by rw [hw]; exact (by (with_reducible repeat first|apply bn_|apply bd_|apply ba_); refine blk_put (cs := #[.int .i64 t283, .int .i64 x265001_2]) ?_ 1 _ rfl; refine blk_put (cs := #[.int .i64 x265000_2, .int .i64 x265001_2]) ?_ 0 _ rfl; (with_reducible repeat first|apply bn_|apply bd_|apply ba_); exact BK264.out))⟩; have n6_ : Aside0 (w97.heap[gb286]? = some (.cells #[.int .i64 t283, .int .i64 t284] 26 (0, 0))) := ⟨(by rw [hw]; exact (uf_ BK286.out))⟩; have n7_ : Aside0 (Below w.heap.size w w97) := ⟨(by rw [hw]; exact (ue_ HB.out))⟩; clear hw HO_10 HO_261000 BK252 BK253 BK260 BK264 BK286 HB; have HO_10 := n0_; have HO_261000 := n1_; have BK252 := n2_; have BK253 := n3_; have BK260 := n4_; have BK264 := n5_; have BK286 := n6_; have HB := n7_; clear n0_ n1_ n2_ n3_ n4_ n5_ n6_ n7_; have hnb98 := NB260_252.out; have hnc98 := NB252_260.out; have hnb99 := NB260_253.out; have hnc99 := NB253_260.out; obtain ⟨hcz100_0, hcz100_1, hcz100_2⟩ := cb3_ BK260.out; obtain ⟨hfz100_0, hfz100_1, hfz100_2⟩ := bf3_ BK260.out; obtain ⟨Ao101, co101, eo101⟩ := Kd.R_slice HO_261000.out; subst eo101) | ((with_reducible refine gate_callee (f := 91) rfl ?_); refine goesL_ (some 75) rfl rfl Try.func91 (by kernel_rfl) rfl #[.agg #[.slice Ao101 x261000_2.length co101, .int .i64 x261001_2, .int .i64 x261002_2], .int .i64 (rd l1 x37_2)] rfl ul_ ?_; (with_reducible refine (impl_PushRing.calls k2 _ _ x261000_2 x261001_2 x261002_2 (rd l1 x37_2) t287 t290 t291 t292 _ ?side1 ?side2 A81.out).mono ?_); (case side1 => repeat (first | exact (Kd.R_reads' HO_261000.out).2.2 | (with_reducible refine Kd.C_alloc ?_ _) | (with_reducible refine Kd.C_drewN ?_ _) | (with_reducible refine Kd.C_drew ?_))); (case side2 => exact (Kd.R_reads' HO_261000.out).2.1); rintro e w102 ⟨v288, rfl, ho0, hb⟩; refine ⟨_, rfl, ?_⟩; have n0_ := am_ (Kd.R_elder' (ur_ HO_10.out) (Kd.R_base ho0) hb); have n1_ := am_ (Kd.R_elder' (ur_ HO_261000.out) (Kd.R_base ho0) hb); have n2_ := am_ (Kd.R_lower (Kd.R_new' (Kd.R_new' ho0 (Kd.R_lt (ur_ HO_10.out))) (Kd.R_lt (ur_ HO_261000.out))) (below_size (ue_ HB.out))); have n3_ := am_ (bb_ BK252.out hb); have n4_ := am_ (bb_ BK253.out hb); have n5_ := am_ (bb_ BK260.out hb); have n6_ := am_ (bb_ BK264.out hb); have n7_ := am_ (bb_ BK286.out hb); have n8_ := am_ (below_step (ue_ HB.out) hb); clear HO_10 HO_261000 BK252 BK253 BK260 BK264 BK286 HB; have HO_10 := n0_; have HO_261000 := n1_; have HO289 := n2_; have BK252 := n3_; have BK253 := n4_; have BK260 := n5_; have BK264 := n6_; have BK286 := n7_; have HB := n8_; clear n0_ n1_ n2_ n3_ n4_ n5_ n6_ n7_ n8_; (try clear hb); (try clear hb2); (try clear hk); (try clear hi); (try clear ho0); obtain ⟨Ao103, co103, eo103⟩ := Kd.R_slice HO289.out; subst eo103; obtain ⟨hcz104_0, hcz104_1, hcz104_2⟩ := cb3_ BK260.out; obtain ⟨hfz104_0, hfz104_1⟩ := bf2_ BK260.out; have hfz104_2 := blk_frozen BK260.out 2) | ((with_reducible refine gate_store (t := 24) (p := 7) rfl ?_); refine store_event (t := 24) (p := 7) (v := ?vo_w105) (w1 := (((w102.setCell ⟨gb260, 0, none⟩ (.slice Ao103 t287.length co103)).setCell ⟨gb260, 1, none⟩ (.int .i64 t290)).setCell ⟨gb260, 2, none⟩ (.int .i64 t291))) ?hg ?ho ?hn ?hr ?_; (case ho => rfl); (case hg => rfl); (case hn => rfl); (case hr => first | (go_simp; done) | (go_simp; rfl)); intro w105 hw; have n0_ : Aside0 (Kd.R (Kd.int .i64) 3 w105 w.heap.size (fun k_ => some k_ ≠ (.slice Ao101 x261000_2.length co101 : Value).ownBlock ∧ some k_ ≠ (.slice Ao103 t287.length co103 : Value).ownBlock) u10 x10_2) := ⟨(by rw [hw]; exact (by (with_reducible repeat (first | apply Kd.R_alloc | apply Kd.R_drewN | apply Kd.R_drew)); exact Kd.R_mono (Kd.R_far (p := ⟨gb260, 2, none⟩) (Kd.R_far (p := ⟨gb260, 1, none⟩) (Kd.R_far (p := ⟨gb260, 0, none⟩) (Kd.R_types HO_10.out BK260.out (by decide)) (fun _ hk => by first | exact hk.2 | grind) (.slice Ao103 t287.length co103)) (fun _ hk => by first | exact hk.2 | grind) (.int .i64 t290)) (fun _ hk => by first | exact hk.2 | grind) (.int .i64 t291)) (fun _ hk => by first | exact ⟨hk.1.1, hk.1.2⟩ | grind)))⟩; have n1_ : Aside0 (Kd.R (Kd.int .i64) 3 w105 w.heap.size (fun k_ => some k_ ≠ (u10 : Value).ownBlock ∧ some k_ ≠ (.slice Ao103 t287.length co103 : Value).ownBlock) (.slice Ao101 x261000_2.length co101) x261000_2) := ⟨(by rw [hw]; exact (by (with_reducible repeat (first | apply Kd.R_alloc | apply Kd.R_drewN | apply Kd.R_drew)); exact Kd.R_mono (Kd.R_far (p := ⟨gb260, 2, none⟩) (Kd.R_far (p := ⟨gb260, 1, none⟩) (Kd.R_far (p := ⟨gb260, 0, none⟩) (Kd.R_types HO_261000.out BK260.out (by decide)) (fun _ hk => by first | exact hk.2 | grind) (.slice Ao103 t287.length co103)) (fun _ hk => by first | exact hk.2 | grind) (.int .i64 t290)) (fun _ hk => by first | exact hk.2 | grind) (.int .i64 t291)) (fun _ hk => by first | exact ⟨hk.1.1, hk.1.2⟩ | grind)))⟩; have n2_ : Aside0 (Kd.R (Kd.int .i64) 3 w105 w.heap.size (fun k_ => some k_ ≠ (u10 : Value).ownBlock ∧ some k_ ≠ (.slice Ao101 x261000_2.length co101 : Value).ownBlock) (.slice Ao103 t287.length co103) t287) := ⟨(by rw [hw]; exact (by (with_reducible repeat (first | apply Kd.R_alloc | apply Kd.R_drewN | apply Kd.R_drew)); exact Kd.R_mono (Kd.R_far (p := ⟨gb260, 2, none⟩) (Kd.R_far (p := ⟨gb260, 1, none⟩) (Kd.R_far (p := ⟨gb260, 0, none⟩) (Kd.R_types HO289.out BK260.out (by decide)) (fun _ hk => by first | exact hk.2 | grind) (.slice Ao103 t287.length co103)) (fun _ hk => by first | exact hk.2 | grind) (.int .i64 t290)) (fun _ hk => by first | exact hk.2 | grind) (.int .i64 t291)) (fun _ hk => by first | exact ⟨hk.1.1.2, hk.1.2⟩ | grind)))⟩; have n3_ : Aside0 (w105.heap[gb252]? = some (.cells #[.slice none 0 0, .int .i64 0, .int .i64 0] 24 (0, 0))) := ⟨(by rw [hw]; exact (uf_ BK252.out))⟩; have n4_ : Aside0 (w105.heap[gb253]? = some (.cells #[.int .i64 0, .int .i64 0] 26 (0, 0))) := ⟨(by rw [hw]; exact (uf_ BK253.out))⟩; have n5_ : Aside0 (w105.heap[gb260]? = some (.cells #[.slice Ao103 t287.length co103, .int .i64 t290, .int .i64 t291] 24 (0, 0))) := ⟨(by rw [hw]; exact (by (with_reducible repeat first|apply bn_|apply bd_|apply ba_); refine blk_put (cs := #[.slice Ao103 t287.length co103, .int .i64 t290, .int .i64 x261002_2]) ?_ 2 _ rfl; refine blk_put (cs := #[.slice Ao103 t287.length co103, .int .i64 x261001_2, .int .i64 x261002_2]) ?_ 1 _ rfl; refine blk_put (cs := #[.slice Ao101 x261000_2.length co101, .int .i64 x261001_2, .int .i64 x261002_2]) ?_ 0 _ rfl; (with_reducible repeat first|apply bn_|apply bd_|apply ba_); exact BK260.out))⟩; have n6_ : Aside0 (w105.heap[gb264]? = some (.cells #[.int .i64 t283, .int .i64 t284] 26 (0, 0))) := ⟨(by rw [hw]; exact (uf_ BK264.out))⟩; have n7_ : Aside0 (w105.heap[gb286]? = some (.cells #[.int .i64 t283, .int .i64 t284] 26 (0, 0))) := ⟨(by rw [hw]; exact (uf_ BK286.out))⟩; have n8_ : Aside0 (Below w.heap.size w w105) := ⟨(by rw [hw]; exact (ue_ HB.out))⟩; clear hw HO_10 HO_261000 HO289 BK252 BK253 BK260 BK264 BK286 HB; have HO_10 := n0_; have HO_261000 := n1_; have HO289 := n2_; have BK252 := n3_; have BK253 := n4_; have BK260 := n5_; have BK264 := n6_; have BK286 := n7_; have HB := n8_; clear n0_ n1_ n2_ n3_ n4_ n5_ n6_ n7_ n8_) | ((with_reducible refine gate_builtin (b := .append) (xs := #[.tmp 78, .tmp 79]) rfl ?_); (try (refine gate_guard (by rfl) ?_; dsimp only)); at_builtin; refine Kd.R_append (Kd.int .i64) (w0 := w) w.heap.size rfl (.tmp 78) (.tmp 79) 22 3 (.int .i64 0) 8 rfl Try.underlying22 info3 rfl (by decide) (by omega) u10 x10_2 1 [.int .i64 1] (fun k_ => some k_ ≠ (.slice Ao101 x261000_2.length co101 : Value).ownBlock ∧ some k_ ≠ (.slice Ao103 t287.length co103 : Value).ownBlock) (fun _ => False) rfl rfl ?aP (fun _ hk => hk.elim) ?aF ?aO ?aB ?aS ?aL ?_; (case aP => exact rfl); (case aB => exact (ue_ HB.out)); (case aF => exact (fun k_ hk => ⟨Kd.fresh' (Kd.R_lt (ur_ HO_261000.out)) k_ hk, Kd.fresh' (Kd.R_lt (ur_ HO289.out)) k_ hk⟩)); (case aO => exact (ur_ HO_10.out)); (case aS => exact (below_size (ue_ HB.out))); (case aL => have := LMc82.out; omega); intro v294 w106 ho hb hg hat; rw [← Ny293.out] at ho; have n0_ := am_ (Kd.R_after (ok := (fun k_ => some k_ ≠ (.slice Ao103 t287.length co103 : Value).ownBlock)) (by (with_reducible repeat (first | apply Kd.R_alloc | apply Kd.R_drewN | apply Kd.R_drew)); exact Kd.R_mono HO_261000.out (fun _ hk => by first | exact ⟨hk.2, hk.1⟩ | grind)) hg hat); have n1_ := am_ (blk_grown (g := gb252) (o := .cells #[.slice none 0 0, .int .i64 0, .int .i64 0] 24 (0, 0)) (ub_ BK252.out) hg (Kd.R_ne HO_10.out BK252.out (by decide))); have n2_ := am_ (blk_grown (g := gb253) (o := .cells #[.int .i64 0, .int .i64 0] 26 (0, 0)) (ub_ BK253.out) hg (Kd.R_ne HO_10.out BK253.out (by decide))); have n3_ := am_ (blk_grown (g := gb260) (o := .cells #[.slice Ao103 t287.length co103, .int .i64 t290, .int .i64 t291] 24 (0, 0)) (ub_ BK260.out) hg (Kd.R_ne HO_10.out BK260.out (by decide))); have n4_ := am_ (blk_grown (g := gb264) (o := .cells #[.int .i64 t283, .int .i64 t284] 26 (0, 0)) (ub_ BK264.out) hg (Kd.R_ne HO_10.out BK264.out (by decide))); have n5_ := am_ (blk_grown (g := gb286) (o := .cells #[.int .i64 t283, .int .i64 t284] 26 (0, 0)) (ub_ BK286.out) hg (Kd.R_ne HO_10.out BK286.out (by decide))); have n6_ := am_ (Kd.R_after (ok := (fun k_ => some k_ ≠ (.slice Ao101 x261000_2.length co101 : Value).ownBlock)) (by (with_reducible repeat (first | apply Kd.R_alloc | apply Kd.R_drewN | apply Kd.R_drew)); exact Kd.R_mono HO289.out (fun _ hk => by first | exact ⟨hk.2, hk.1⟩ | grind)) hg hat); have n7_ := am_ (hb); have n8_ := am_ (ho); clear HO_261000 BK252 BK253 BK260 BK264 BK286 HO289 HB HO_10; have HO_261000 := n0_; have BK252 := n1_; have BK253 := n2_; have BK260 := n3_; have BK264 := n4_; have BK286 := n5_; have HO289 := n6_; have HB := n7_; have HO295 := n8_; clear n0_ n1_ n2_ n3_ n4_ n5_ n6_ n7_ n8_; clear ho hb hg hat))
            go_roundg k2
            case measure => have := HJ3.out; have := HK2.out; omega
            case rel => exact ⟨(y293), (wrap64 (x37_2 + 1)), (t287), (t290), (t291), (t283), (t284), (.slice Ao103 t287.length co103), (by first | rfl | (simp; done) | (simp [*]; done)), H', ⟨by have := HJ3.out; have := HK2.out; omega⟩, ⟨by (with_reducible repeat (first | apply Kd.R_alloc | apply Kd.R_drewN | apply Kd.R_drew)); exact Kd.R_mono HO295.out (fun _ hk => by first | exact hk.2 | grind)⟩, ⟨by (with_reducible repeat (first | apply Kd.R_alloc | apply Kd.R_drewN | apply Kd.R_drew)); exact Kd.R_mono HO289.out (fun _ hk => by first | exact hk.2 | grind)⟩, ⟨by (with_reducible repeat first|apply bn_|apply bd_|apply ba_); exact BK252.out⟩, ⟨by (with_reducible repeat first|apply bn_|apply bd_|apply ba_); exact BK253.out⟩, ⟨by (with_reducible repeat first|apply bn_|apply bd_|apply ba_); exact BK260.out⟩, ⟨by (with_reducible repeat first|apply bn_|apply bd_|apply ba_); exact BK264.out⟩, ⟨ue_ HB.out⟩⟩
           ·
            rw [if_neg c82] at H
            exact absurd H (by simp)
          ·
           replace c80 := Bool.eq_false_iff.mpr c80
           subst c80
           have H1 : (if x10_2.length < 17592186044416 then (impl_PlayLink.l0 k2 (x10_2 ++ [0]) l1 (l1.length : Int) (wrap64 (x37_2 + 1)) x261000_2 x261001_2 x261002_2 x265000_2 x265001_2) else (none)) = some (r1, r2, r3, r4, r5, r6) := by rw [if_neg (show ¬ (false = true) by decide)] at H; exact H
           clear H
           have H := H1
           clear H1
           by_cases c107 : x10_2.length < 17592186044416
           ·
            rw [if_pos c107] at H
            have LMc107 := Aside0.mk c107
            clear c107
            obtain ⟨y296, hy296⟩ : ∃ y_ : List Int, y_ = (x10_2 ++ [0]) := ⟨_, rfl⟩
            replace H : (impl_PlayLink.l0 k2 y296 l1 (l1.length : Int) (wrap64 (x37_2 + 1)) x261000_2 x261001_2 x261002_2 x265000_2 x265001_2) = some (r1, r2, r3, r4, r5, r6) := by first | (rw [hy296]; with_reducible exact H) | (have H2_ := (Option.bind_some _ _).symm.trans H; rw [hy296]; with_reducible exact H2_) | (have H2_ := (Option.bind_some _ _).symm.trans H; with_reducible exact H2_) | with_reducible exact H | (rw [hy296]; exact H) | exact H
            have Ny296 := Aside0.mk hy296
            clear hy296
            have H' := Aside0.mk H
            clear H
            have p265 : 0 ≤ (x37_2 : Int) := of_decide_eq_true ua_
            have q265 : x37_2 < (l1.length : Int) := of_decide_eq_true ua_
            obtain ⟨ad265, e265, hx265_0⟩ := Kd.at_int HR1.out x37_2 p265 q265
            cases e265
            replace hx265_0 := bc_ HB.out hx265_0
            replace p265 := eq_true p265
            replace q265 := eq_true q265
            have hnb108 := NB264_252.out
            have hnc108 := NB252_264.out
            have hnb109 := NB264_253.out
            have hnc109 := NB253_264.out
            have hnb110 := NB264_260.out
            have hnc110 := NB260_264.out
            have hcz111_0 := cb_ BK264.out 0 rfl
            have hcz111_1 := cb_ BK264.out 1 rfl
            have hfz111_0 := blk_frozen BK264.out 0
            have hfz111_1 := blk_frozen BK264.out 1
            go_wp2_with (first | ((with_reducible refine gate_callee (f := 90) rfl ?_); refine goesL_ (some 63) rfl rfl Try.func90 (by kernel_rfl) rfl #[.agg #[.int .i64 x265000_2, .int .i64 x265001_2]] rfl ul_ ?_; (with_reducible refine (impl_SpendCredit.calls x265000_2 x265001_2 t283 t284 false _ A79.out).mono ?_); rintro e w112 ⟨rfl, hb⟩; refine ⟨_, rfl, ?_⟩; have n0_ := am_ (Kd.R_below (ur_ HO_10.out) hb); have n1_ := am_ (Kd.R_below (ur_ HO_261000.out) hb); have n2_ := am_ (bb_ BK252.out hb); have n3_ := am_ (bb_ BK253.out hb); have n4_ := am_ (bb_ BK260.out hb); have n5_ := am_ (bb_ BK264.out hb); have n6_ := am_ (below_step (ue_ HB.out) hb); clear HO_10 HO_261000 BK252 BK253 BK260 BK264 HB; have HO_10 := n0_; have HO_261000 := n1_; have BK252 := n2_; have BK253 := n3_; have BK260 := n4_; have BK264 := n5_; have HB := n6_; clear n0_ n1_ n2_ n3_ n4_ n5_ n6_; (try clear hb); (try clear hb2); (try clear hk); (try clear hi)) | ((with_reducible refine gate_dst (N := 16) rfl ?_); (try (refine gate_guard (by rfl) ?_; dsimp only)); refine box_event ?hg (N := 16) ?hd (cs := #[.int .i64 0, .int .i64 0]) (t := 26) ?hr ?_; (case hd => rfl); (case hg => rfl); (case hr => first | (go_simp; done) | (go_simp; rfl)); intro gb286 hg w113 hbox hb; have n0_ := am_ (Kd.R_below (ur_ HO_10.out) hb); have n1_ := am_ (Kd.R_below (ur_ HO_261000.out) hb); have n2_ := am_ (bb_ BK252.out hb); have n3_ := am_ (bb_ BK253.out hb); have n4_ := am_ (bb_ BK260.out hb); have n5_ := am_ (bb_ BK264.out hb); have n6_ := am_ (below_step (ue_ HB.out) hb); have n7_ := am_ (hbox); have n8_ := am_ ((by rw [hg]; exact (below_size (ue_ HB.out)) : w.heap.size ≤ gb286)); have n9_ := am_ ((by rw [hg]; exact (below_size (ue_ HB.out)) : w.heap.size ≤ gb286)); have n10_ := am_ ((by rw [hg]; exact Nat.ne_of_lt (bl_ BK252.out) : gb252 ≠ gb286)); have n11_ := am_ ((by rw [hg]; exact Nat.ne_of_gt (bl_ BK252.out) : gb286 ≠ gb252)); have n12_ := am_ ((by rw [hg]; exact Nat.ne_of_lt (bl_ BK253.out) : gb253 ≠ gb286)); have n13_ := am_ ((by rw [hg]; exact Nat.ne_of_gt (bl_ BK253.out) : gb286 ≠ gb253)); have n14_ := am_ ((by rw [hg]; exact Nat.ne_of_lt (bl_ BK260.out) : gb260 ≠ gb286)); have n15_ := am_ ((by rw [hg]; exact Nat.ne_of_gt (bl_ BK260.out) : gb286 ≠ gb260)); have n16_ := am_ ((by rw [hg]; exact Nat.ne_of_lt (bl_ BK264.out) : gb264 ≠ gb286)); have n17_ := am_ ((by rw [hg]; exact Nat.ne_of_gt (bl_ BK264.out) : gb286 ≠ gb264)); clear HO_10 HO_261000 BK252 BK253 BK260 BK264 HB; have HO_10 := n0_; have HO_261000 := n1_; have BK252 := n2_; have BK253 := n3_; have BK260 := n4_; have BK264 := n5_; have HB := n6_; have BK286 := n7_; have GW286 := n8_; have GE286 := n9_; have NB252_286 := n10_; have NB286_252 := n11_; have NB253_286 := n12_; have NB286_253 := n13_; have NB260_286 := n14_; have NB286_260 := n15_; have NB264_286 := n16_; have NB286_264 := n17_; clear n0_ n1_ n2_ n3_ n4_ n5_ n6_ n7_ n8_ n9_ n10_ n11_ n12_ n13_ n14_ n15_ n16_ n17_; clear hb hbox hg; have hnb114 := NB286_252.out; have hnc114 := NB252_286.out; have hnb115 := NB286_253.out; have hnc115 := NB253_286.out; have hnb116 := NB286_260.out; have hnc116 := NB260_286.out; have hnb117 := NB286_264.out; have hnc117 := NB264_286.out; obtain ⟨hcz118_0, hcz118_1⟩ := cb2_ BK286.out; have hfz118_0 := blk_frozen BK286.out 0; have hfz118_1 := blk_frozen BK286.out 1) | ((with_reducible refine gate_store (t := 26) (p := 16) rfl ?_); refine store_event (t := 26) (p := 16) (v := ?vo_w119) (w1 := ((w113.setCell ⟨gb286, 0, none⟩ (.int .i64 t283)).setCell ⟨gb286, 1, none⟩ (.int .i64 t284))) ?hg ?ho ?hn ?hr ?_; (case ho => rfl); (case hg => rfl); (case hn => rfl); (case hr => first | (go_simp; done) | (go_simp; rfl)); intro w119 hw; have n0_ : Aside0 (Kd.R (Kd.int .i64) 3 w119 w.heap.size (fun k_ => some k_ ≠ (u261000 : Value).ownBlock) u10 x10_2) := ⟨(by rw [hw]; exact (by (with_reducible repeat (first | apply Kd.R_alloc | apply Kd.R_drewN | apply Kd.R_drew)); exact Kd.R_mono (Kd.R_far (p := ⟨gb286, 1, none⟩) (Kd.R_far (p := ⟨gb286, 0, none⟩) (Kd.R_types HO_10.out BK286.out (by decide)) (fun _ hk => by first | exact hk.2 | grind) (.int .i64 t283)) (fun _ hk => by first | exact hk.2 | grind) (.int .i64 t284)) (fun _ hk => by first | exact hk.1 | grind)))⟩; have n1_ : Aside0 (Kd.R (Kd.int .i64) 3 w119 w.heap.size (fun k_ => some k_ ≠ (u10 : Value).ownBlock) u261000 x261000_2) := ⟨(by rw [hw]; exact (by (with_reducible repeat (first | apply Kd.R_alloc | apply Kd.R_drewN | apply Kd.R_drew)); exact Kd.R_mono (Kd.R_far (p := ⟨gb286, 1, none⟩) (Kd.R_far (p := ⟨gb286, 0, none⟩) (Kd.R_types HO_261000.out BK286.out (by decide)) (fun _ hk => by first | exact hk.2 | grind) (.int .i64 t283)) (fun _ hk => by first | exact hk.2 | grind) (.int .i64 t284)) (fun _ hk => by first | exact hk.1 | grind)))⟩; have n2_ : Aside0 (w119.heap[gb252]? = some (.cells #[.slice none 0 0, .int .i64 0, .int .i64 0] 24 (0, 0))) := ⟨(by rw [hw]; exact (uf_ BK252.out))⟩; have n3_ : Aside0 (w119.heap[gb253]? = some (.cells #[.int .i64 0, .int .i64 0] 26 (0, 0))) := ⟨(by rw [hw]; exact (uf_ BK253.out))⟩; have n4_ : Aside0 (w119.heap[gb260]? = some (.cells #[u261000, .int .i64 x261001_2, .int .i64 x261002_2] 24 (0, 0))) := ⟨(by rw [hw]; exact (uf_ BK260.out))⟩; have n5_ : Aside0 (w119.heap[gb264]? = some (.cells #[.int .i64 x265000_2, .int .i64 x265001_2] 26 (0, 0))) := ⟨(by rw [hw]; exact (uf_ BK264.out))⟩; have n6_ : Aside0 (w119.heap[gb286]? = some (.cells #[.int .i64 t283, .int .i64 t284] 26 (0, 0))) := ⟨(by rw [hw]; exact (by (with_reducible repeat first|apply bn_|apply bd_|apply ba_); refine blk_put (cs := #[.int .i64 t283, .int .i64 0]) ?_ 1 _ rfl; refine blk_put (cs := #[.int .i64 0, .int .i64 0]) ?_ 0 _ rfl; (with_reducible repeat first|apply bn_|apply bd_|apply ba_); exact BK286.out))⟩; have n7_ : Aside0 (Below w.heap.size w w119) := ⟨(by rw [hw]; exact (ue_ HB.out))⟩; clear hw HO_10 HO_261000 BK252 BK253 BK260 BK264 BK286 HB; have HO_10 := n0_; have HO_261000 := n1_; have BK252 := n2_; have BK253 := n3_; have BK260 := n4_; have BK264 := n5_; have BK286 := n6_; have HB := n7_; clear n0_ n1_ n2_ n3_ n4_ n5_ n6_ n7_) | ((with_reducible refine gate_builtin (b := .append) (xs := #[.tmp 68, .tmp 69]) rfl ?_); (try (refine gate_guard (by rfl) ?_; dsimp only)); at_builtin; refine Kd.R_append (Kd.int .i64) (w0 := w) w.heap.size rfl (.tmp 68) (.tmp 69) 22 3 (.int .i64 0) 8 rfl Try.underlying22 info3 rfl (by decide) (by omega) u10 x10_2 0 [.int .i64 0] (fun k_ => some k_ ≠ (u261000 : Value).ownBlock) (fun _ => False) rfl rfl ?aP (fun _ hk => hk.elim) ?aF ?aO ?aB ?aS ?aL ?_; (case aP => exact rfl); (case aB => exact (ue_ HB.out)); (case aF => exact (fun k_ hk => Kd.fresh' (Kd.R_lt (ur_ HO_261000.out)) k_ hk)); (case aO => exact (ur_ HO_10.out)); (case aS => exact (below_size (ue_ HB.out))); (case aL => have := LMc107.out; omega); intro v297 w120 ho hb hg hat; rw [← Ny296.out] at ho; have n0_ := am_ (Kd.R_after (ok := (fun _ => True)) (by (with_reducible repeat (first | apply Kd.R_alloc | apply Kd.R_drewN | apply Kd.R_drew)); exact Kd.R_mono HO_261000.out (fun _ hk => ⟨trivial, hk⟩)) hg hat); have n1_ := am_ (blk_grown (g := gb252) (o := .cells #[.slice none 0 0, .int .i64 0, .int .i64 0] 24 (0, 0)) (ub_ BK252.out) hg (Kd.R_ne HO_10.out BK252.out (by decide))); have n2_ := am_ (blk_grown (g := gb253) (o := .cells #[.int .i64 0, .int .i64 0] 26 (0, 0)) (ub_ BK253.out) hg (Kd.R_ne HO_10.out BK253.out (by decide))); have n3_ := am_ (blk_grown (g := gb260) (o := .cells #[u261000, .int .i64 x261001_2, .int .i64 x261002_2] 24 (0, 0)) (ub_ BK260.out) hg (Kd.R_ne HO_10.out BK260.out (by decide))); have n4_ := am_ (blk_grown (g := gb264) (o := .cells #[.int .i64 x265000_2, .int .i64 x265001_2] 26 (0, 0)) (ub_ BK264.out) hg (Kd.R_ne HO_10.out BK264.out (by decide))); have n5_ := am_ (blk_grown (g := gb286) (o := .cells #[.int .i64 t283, .int .i64 t284] 26 (0, 0)) (ub_ BK286.out) hg (Kd.R_ne HO_10.out BK286.out (by decide))); have n6_ := am_ (hb); have n7_ := am_ (ho); clear HO_261000 BK252 BK253 BK260 BK264 BK286 HB HO_10; have HO_261000 := n0_; have BK252 := n1_; have BK253 := n2_; have BK260 := n3_; have BK264 := n4_; have BK286 := n5_; have HB := n6_; have HO298 := n7_; clear n0_ n1_ n2_ n3_ n4_ n5_ n6_ n7_; clear ho hb hg hat))
            go_roundg k2
            case measure => have := HJ3.out; have := HK2.out; omega
            case rel => exact ⟨(y296), (wrap64 (x37_2 + 1)), (x261000_2), (x261001_2), (x261002_2), (x265000_2), (x265001_2), (u261000), (by first | rfl | (simp; done) | (simp [*]; done)), H', ⟨by have := HJ3.out; have := HK2.out; omega⟩, ⟨by (with_reducible repeat (first | apply Kd.R_alloc | apply Kd.R_drewN | apply Kd.R_drew)); exact HO298.out⟩, ⟨by (with_reducible repeat (first | apply Kd.R_alloc | apply Kd.R_drewN | apply Kd.R_drew)); exact Kd.R_mono HO_261000.out (fun _ hk => by first | exact hk.2 | grind)⟩, ⟨by (with_reducible repeat first|apply bn_|apply bd_|apply ba_); exact BK252.out⟩, ⟨by (with_reducible repeat first|apply bn_|apply bd_|apply ba_); exact BK253.out⟩, ⟨by (with_reducible repeat first|apply bn_|apply bd_|apply ba_); exact BK260.out⟩, ⟨by (with_reducible repeat first|apply bn_|apply bd_|apply ba_); exact BK264.out⟩, ⟨ue_ HB.out⟩⟩
           ·
            rw [if_neg c107] at H
            exact absurd H (by simp)
        ·
         rw [if_neg c33] at H
         exact absurd H (by simp)
       ·
        rw [if_neg c32] at H
        exact absurd H (by simp)
      ·
       rw [if_neg c31] at H
       have c31b0 : decide (x37_2 < (l1.length : Int)) = false := decide_eq_false c31
       clear c31
       simp only [Option.some.injEq, Prod.mk.injEq] at H
       obtain ⟨rfl, rfl, rfl, rfl, rfl, rfl⟩ := H
       try go_wp2
       have n0_ := am_ (Kd.R_drew HO_10.out)
       have n1_ := am_ (Kd.R_drew HO_261000.out)
       have n2_ := am_ (blk_drew BK252.out)
       have n3_ := am_ (blk_drew BK253.out)
       have n4_ := am_ (blk_drew BK260.out)
       have n5_ := am_ (blk_drew BK264.out)
       have n6_ := am_ (below_drew1 HB.out)
       clear HO_10
       clear HO_261000
       clear BK252
       clear BK253
       clear BK260
       clear BK264
       clear HB
       have HO_10 := n0_
       have HO_261000 := n1_
       have BK252 := n2_
       have BK253 := n3_
       have BK260 := n4_
       have BK264 := n5_
       have HB := n6_
       clear n0_ n1_ n2_ n3_ n4_ n5_ n6_
       obtain ⟨Ao122, co122, eo122⟩ := Kd.R_slice HO_261000.out
       (first | subst eo122 | (injection eo122 with f1_ f2_ f3_; have f4_ := f1_.symm; have f5_ := f3_.symm; clear f1_ f2_ f3_; subst f4_; subst f5_))
       refine start_ (n := 6) (S := fun w' => w'.cell? ⟨gb260, 0, none⟩ = some (.slice Ao122 x261000_2.length co122) ∧ w'.cell? ⟨gb260, 1, none⟩ = some (.int .i64 x261001_2) ∧ w'.cell? ⟨gb260, 2, none⟩ = some (.int .i64 x261002_2) ∧ w'.cell? ⟨gb264, 0, none⟩ = some (.int .i64 x265000_2) ∧ w'.cell? ⟨gb264, 1, none⟩ = some (.int .i64 x265001_2)) (ds := []) #[false, false, false, false, false, false] (by kernel_rfl) rfl rfl ⟨(blk_cell BK260.out 0).trans rfl, (blk_cell BK260.out 1).trans rfl, (blk_cell BK260.out 2).trans rfl, (blk_cell BK264.out 0).trans rfl, (blk_cell BK264.out 1).trans rfl⟩ (fun hHeld => ?_)
       generalize wr.drew = w121 at HO_10 HO_261000 BK252 BK253 BK260 BK264 HB hHeld ⊢
       refine pure_ (i := 2) (N := some 84) (v := ?_) (a' := ?_) #[false, false, true, false, false, false] rfl rfl (by kernel_rfl) (fun _ _ _ h => h) (Or.inl ⟨by rfl, ?_⟩) ?_ ?_
       rotate_left
       ·
        intro w'
        go_simp
        with_reducible rfl
       rotate_left
       ·
        simp only [Act.put, List.setIfInBounds_toArray, List.set_cons_zero, List.set_cons_succ, i64_w, i32_w]
        rfl
       refine take_ (i := 0) (N := some 82) (v := ?_) (a' := ?_) #[true, false, true, false, false, false] rfl rfl (by kernel_rfl) (fun _ _ _ h => h) (Or.inl ⟨by rfl, ?_⟩) hHeld ?_ ?_
       rotate_left
       ·
        rintro w' ⟨s0, s1, s2, s3, s4⟩
        go_simp
        with_reducible rfl
       rotate_left
       ·
        simp only [Act.put, List.setIfInBounds_toArray, List.set_cons_zero, List.set_cons_succ, i64_w, i32_w]
        rfl
       refine take_ (i := 1) (N := some 83) (v := ?_) (a' := ?_) #[true, true, true, false, false, false] rfl rfl (by kernel_rfl) (fun _ _ _ h => h) (Or.inl ⟨by rfl, ?_⟩) hHeld ?_ ?_
       rotate_left
       ·
        rintro w' ⟨s0, s1, s2, s3, s4⟩
        go_simp
        with_reducible rfl
       rotate_left
       ·
        simp only [Act.put, List.setIfInBounds_toArray, List.set_cons_zero, List.set_cons_succ, i64_w, i32_w]
        rfl
       refine one_ (i := 3) (N := none) #[true, true, true, true, false, false] rfl rfl (by kernel_rfl) (by decide) (fun K hK => ?_)
       have hs123 := cb_ BK252.out 0 rfl
       have hfs123 := blk_frozen BK252.out 0
       have hns123_1 := NB253_252.out
       have hns123_2 := NB260_252.out
       have hns123_3 := NB264_252.out
       have hms123_1 := NB252_253.out
       have hms123_2 := NB252_260.out
       have hms123_3 := NB252_264.out
       have hs124 := cb_ BK252.out 1 rfl
       have hfs124 := blk_frozen BK252.out 1
       have hns124_1 := NB253_252.out
       have hns124_2 := NB260_252.out
       have hns124_3 := NB264_252.out
       have hms124_1 := NB252_253.out
       have hms124_2 := NB252_260.out
       have hms124_3 := NB252_264.out
       have hs125 := cb_ BK252.out 2 rfl
       have hfs125 := blk_frozen BK252.out 2
       have hns125_1 := NB253_252.out
       have hns125_2 := NB260_252.out
       have hns125_3 := NB264_252.out
       have hms125_1 := NB252_253.out
       have hms125_2 := NB252_260.out
       have hms125_3 := NB252_264.out
       refine skip_ (w1 := ?_) (by rfl) rfl ?_ ?_
       rotate_left
       ·
        go_simp
        rfl
       refine hK.out _ _ ⟨((cell_far (p := ⟨gb252, _, none⟩) NB260_252.out _).trans (((cell_far (p := ⟨gb252, _, none⟩) NB260_252.out _).trans (((cell_far (p := ⟨gb252, _, none⟩) NB260_252.out _).trans (hHeld.1)))))), ((cell_far (p := ⟨gb252, _, none⟩) NB260_252.out _).trans (((cell_far (p := ⟨gb252, _, none⟩) NB260_252.out _).trans (((cell_far (p := ⟨gb252, _, none⟩) NB260_252.out _).trans (hHeld.2.1)))))), ((cell_far (p := ⟨gb252, _, none⟩) NB260_252.out _).trans (((cell_far (p := ⟨gb252, _, none⟩) NB260_252.out _).trans (((cell_far (p := ⟨gb252, _, none⟩) NB260_252.out _).trans (hHeld.2.2.1)))))), ((cell_far (p := ⟨gb252, _, none⟩) NB264_252.out _).trans (((cell_far (p := ⟨gb252, _, none⟩) NB264_252.out _).trans (((cell_far (p := ⟨gb252, _, none⟩) NB264_252.out _).trans (hHeld.2.2.2.1)))))), ((cell_far (p := ⟨gb252, _, none⟩) NB264_252.out _).trans (((cell_far (p := ⟨gb252, _, none⟩) NB264_252.out _).trans (((cell_far (p := ⟨gb252, _, none⟩) NB264_252.out _).trans (hHeld.2.2.2.2))))))⟩ (fun hHeld => ?_)
       clear hK K
       refine one_ (i := 4) (N := none) #[true, true, true, true, true, false] rfl rfl (by kernel_rfl) (by decide) (fun K hK => ?_)
       have hs126 := cb_ BK253.out 0 rfl
       have hfs126 := blk_frozen BK253.out 0
       have hns126_0 := NB252_253.out
       have hns126_2 := NB260_253.out
       have hns126_3 := NB264_253.out
       have hms126_0 := NB253_252.out
       have hms126_2 := NB253_260.out
       have hms126_3 := NB253_264.out
       have hs127 := cb_ BK253.out 1 rfl
       have hfs127 := blk_frozen BK253.out 1
       have hns127_0 := NB252_253.out
       have hns127_2 := NB260_253.out
       have hns127_3 := NB264_253.out
       have hms127_0 := NB253_252.out
       have hms127_2 := NB253_260.out
       have hms127_3 := NB253_264.out
       refine skip_ (w1 := ?_) (by rfl) rfl ?_ ?_
       rotate_left
       ·
        go_simp
        rfl
       refine hK.out _ _ ⟨((cell_far (p := ⟨gb253, _, none⟩) NB260_253.out _).trans (((cell_far (p := ⟨gb253, _, none⟩) NB260_253.out _).trans (hHeld.1)))), ((cell_far (p := ⟨gb253, _, none⟩) NB260_253.out _).trans (((cell_far (p := ⟨gb253, _, none⟩) NB260_253.out _).trans (hHeld.2.1)))), ((cell_far (p := ⟨gb253, _, none⟩) NB260_253.out _).trans (((cell_far (p := ⟨gb253, _, none⟩) NB260_253.out _).trans (hHeld.2.2.1)))), ((cell_far (p := ⟨gb253, _, none⟩) NB264_253.out _).trans (((cell_far (p := ⟨gb253, _, none⟩) NB264_253.out _).trans (hHeld.2.2.2.1)))), ((cell_far (p := ⟨gb253, _, none⟩) NB264_253.out _).trans (((cell_far (p := ⟨gb253, _, none⟩) NB264_253.out _).trans (hHeld.2.2.2.2))))⟩ (fun hHeld => ?_)
       clear hK K
       refine pure_ (i := 5) (N := some 6) (v := ?_) (a' := ?_) #[true, true, true, true, true, true] rfl rfl (by kernel_rfl) (fun _ _ _ h => h) (Or.inl ⟨by rfl, ?_⟩) ?_ ?_
       rotate_left
       ·
        intro w'
        go_simp
        with_reducible rfl
       rotate_left
       ·
        simp only [Act.put, List.setIfInBounds_toArray, List.set_cons_zero, List.set_cons_succ, i64_w, i32_w]
        rfl
       refine done_ (by kernel_rfl) ?_
       try go_wp2
       refine bodyPost_ret (results_list (rs := [.cell 4 24, .cell 5 26, .tmp 6]) rfl (by simp) (.cell gb252 24 #[.slice Ao122 x261000_2.length co122, .int .i64 x261001_2, .int .i64 x261002_2] (0, 0) _ rfl (by (with_reducible repeat first|apply bn_|apply bd_|apply ba_); refine blk_far ?_ NB252_253.out _; refine blk_far ?_ NB252_253.out _; refine blk_put (cs := #[.slice Ao122 x261000_2.length co122, .int .i64 x261001_2, .int .i64 0]) ?_ 2 _ rfl; refine blk_put (cs := #[.slice Ao122 x261000_2.length co122, .int .i64 0, .int .i64 0]) ?_ 1 _ rfl; refine blk_put (cs := #[.slice none 0 0, .int .i64 0, .int .i64 0]) ?_ 0 _ rfl; (with_reducible repeat first|apply bn_|apply bd_|apply ba_); exact BK252.out) Try.underlying24 rfl (by kernel_rfl) (.cell gb253 26 #[.int .i64 x265000_2, .int .i64 x265001_2] (0, 0) _ rfl (by (with_reducible repeat first|apply bn_|apply bd_|apply ba_); refine blk_put (cs := #[.int .i64 x265000_2, .int .i64 0]) ?_ 1 _ rfl; refine blk_put (cs := #[.int .i64 0, .int .i64 0]) ?_ 0 _ rfl; refine blk_far ?_ NB253_252.out _; refine blk_far ?_ NB253_252.out _; refine blk_far ?_ NB253_252.out _; (with_reducible repeat first|apply bn_|apply bd_|apply ba_); exact BK253.out) Try.underlying26 rfl (by kernel_rfl) (.tmp .nil)))) rfl ?_
       exact ⟨_, _, ew_, by (with_reducible repeat (first | apply Kd.R_alloc | apply Kd.R_drewN | apply Kd.R_drew)); exact Kd.R_mono (Kd.R_far (p := ⟨gb253, 1, none⟩) (Kd.R_far (p := ⟨gb253, 0, none⟩) (Kd.R_far (p := ⟨gb252, 2, none⟩) (Kd.R_far (p := ⟨gb252, 1, none⟩) (Kd.R_far (p := ⟨gb252, 0, none⟩) (Kd.R_types (Kd.R_types HO_261000.out BK252.out (by decide)) BK253.out (by decide)) (fun _ hk => by first | exact hk.1.2 | grind) (.slice Ao122 x261000_2.length co122)) (fun _ hk => by first | exact hk.1.2 | grind) (.int .i64 x261001_2)) (fun _ hk => by first | exact hk.1.2 | grind) (.int .i64 x261002_2)) (fun _ hk => by first | exact hk.2 | grind) (.int .i64 x265000_2)) (fun _ hk => by first | exact hk.2 | grind) (.int .i64 x265001_2)) (fun _ hk => by first | exact hk.1.1 | grind), by (with_reducible repeat (first | apply Kd.R_alloc | apply Kd.R_drewN | apply Kd.R_drew)); exact Kd.R_mono (Kd.R_far (p := ⟨gb253, 1, none⟩) (Kd.R_far (p := ⟨gb253, 0, none⟩) (Kd.R_far (p := ⟨gb252, 2, none⟩) (Kd.R_far (p := ⟨gb252, 1, none⟩) (Kd.R_far (p := ⟨gb252, 0, none⟩) (Kd.R_types (Kd.R_types HO_10.out BK252.out (by decide)) BK253.out (by decide)) (fun _ hk => by first | exact hk.1.2 | grind) (.slice Ao122 x261000_2.length co122)) (fun _ hk => by first | exact hk.1.2 | grind) (.int .i64 x261001_2)) (fun _ hk => by first | exact hk.1.2 | grind) (.int .i64 x261002_2)) (fun _ hk => by first | exact hk.2 | grind) (.int .i64 x265000_2)) (fun _ hk => by first | exact hk.2 | grind) (.int .i64 x265001_2)) (fun _ hk => by first | exact hk.1.1 | grind), ue_ HB.out⟩

/-! ### laws_big: function 31 -/
def laws_big.f (l0 : List Int) : Option (Bool) := some (decide ((l0.length : Int) > 1048576))
set_option maxHeartbeats 8000000 in
set_option maxRecDepth 100000 in
theorem laws_big.calls (A0 : Option Addr) (c0 : Nat) (l0 : List Int) (r : Bool) (w : World) (hr0 : Kd.C (Kd.int .u8) w A0 l0.length l0) (hc0 : l0.length ≤ c0) (h : laws_big.f l0 = some r) :
  Calls Try.prog 31 #[.slice A0 l0.length c0] w fun e w' => e = .returned (.bool r) ∧ Drawn0 w w' := by
 have HR0 := Aside0.mk hr0
 have HC0 := Aside0.mk hc0
 clear hr0 hc0
 have H : (some (decide ((l0.length : Int) > 1048576))) = some r := h
 clear h
 obtain rfl := Option.some.inj H
 go_enter Try.func31, Try.ntmps31
 go_wp2
 go_ret
 exact ⟨by first | rfl | (simp; done) | (simp [*]; done), by repeat (first | exact Drawn0.refl _ | apply Drawn0.step)⟩

end Go.Proofs.Ytcflalomjehiiaa.QFnRings
