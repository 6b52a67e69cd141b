/- The machine side of a law: Lean functions with the Go functions' answers and the walks that show it. No condition. -/
import Derived.Test.YtcflalomjehiiaaQFnExactPlaySourcex0
import Derived.Test.YtcflalomjehiiaaQFnExactPlaySourcex1
namespace Go.Proofs.Ytcflalomjehiiaa.QFnExactPlaySource
open Go.RowKit Go.Proofs.YtcflalomjehiiaaW.PrintWords Go.Proofs.YtcflalomjehiiaaW.PrintLast Go.Proofs.YtcflalomjehiiaaW.PrintMore
attribute [local go_sem] max2_int min2_int max_two min_two max_three min_three max_four min_four   -- for this text's walks alone
set_option linter.unusedVariables false
set_option linter.unusedSimpArgs false

/-! ### spec_SeeEvent: function 131 -/
def spec_SeeEvent.j0 : Nat → Int → Int → Int → Bool → Int → Int → Int → Bool → Bool → Option (Int × Int × Int × Bool × Bool × Bool)
 | 0, _, _, _, _, _, _, _, _, _ => none
 | k + 1, x1, x2, x3, x20, x120000, x120001, x120002, x120003, x120004 => if x20 = true then (some (x120000, x120001, x120002, x120003, x120004, false)) else ((spec_l04More.f x120000 x2).bind fun t124 => ((spec_l04More.f x120001 (wrap64 ((wrap64 (t124 - x1)) - 1))).bind fun t125 => (some (t124, t125, x3, false, x120004, true))))
def spec_SeeEvent.f (k : Nat) (a0_0 : Int) (a0_1 : Int) (a0_2 : Int) (a0_3 : Bool) (a0_4 : Bool) (a1 : Int) (a2 : Int) (a3 : Int) : Option (Int × Int × Int × Bool × Bool × Bool) := (spec_l04Fine.f a0_0 a0_1 a0_2 a0_3 a0_4 a2 a3).bind fun t121 => (if t121 = true then ((spec_l01In.f a1 0 1000000).bind fun t122 => (spec_SeeEvent.j0 k a1 a2 a3 (!t122) a0_0 a0_1 a0_2 a0_3 a0_4)) else (spec_SeeEvent.j0 k a1 a2 a3 true a0_0 a0_1 a0_2 a0_3 a0_4))
theorem spec_SeeEvent.mono_l : ∀ k, (∀ y0 y1 y2 y3 y4 y5 y6 y7 y8, LeO (spec_SeeEvent.j0 k y0 y1 y2 y3 y4 y5 y6 y7 y8) (spec_SeeEvent.j0 (k + 1) y0 y1 y2 y3 y4 y5 y6 y7 y8))
 | 0 => fun _ _ _ _ _ _ _ _ _ r h => by simp [spec_SeeEvent.j0] at h
 | k + 1 => by
  have ih0 := spec_SeeEvent.mono_l k
  ·
   intro y0 y1 y2 y3 y4 y5 y6 y7 y8
   unfold spec_SeeEvent.j0
   repeat' first
   | (with_reducible exact ih0 _ _ _ _ _ _ _ _ _)
   | (with_reducible exact LeO.refl _)
   | (with_reducible exact LeO.none _)
   | (with_reducible refine LeO.ite ?_ ?_)
   | (with_reducible refine LeO.bind ?_ (fun _ => ?_))
   | exact ih0 _ _ _ _ _ _ _ _ _
   | exact LeO.none _
   | refine LeO.ite ?_ ?_
   | refine LeO.bind ?_ (fun _ => ?_)
theorem spec_SeeEvent.mono : ∀ a0 a1 a2 a3 a4 a5 a6 a7 k, LeO (spec_SeeEvent.f k a0 a1 a2 a3 a4 a5 a6 a7) (spec_SeeEvent.f (k + 1) a0 a1 a2 a3 a4 a5 a6 a7) := by
 intro a0 a1 a2 a3 a4 a5 a6 a7 k
 have ih0 := spec_SeeEvent.mono_l k
 unfold spec_SeeEvent.f
 repeat' first
   | (with_reducible exact ih0 _ _ _ _ _ _ _ _ _)
   | (with_reducible exact LeO.refl _)
   | (with_reducible exact LeO.none _)
   | (with_reducible refine LeO.ite ?_ ?_)
   | (with_reducible refine LeO.bind ?_ (fun _ => ?_))
   | exact ih0 _ _ _ _ _ _ _ _ _
   | exact LeO.none _
   | refine LeO.ite ?_ ?_
   | refine LeO.bind ?_ (fun _ => ?_)
set_option maxHeartbeats 8000000 in
set_option maxRecDepth 100000 in
theorem spec_SeeEvent.calls (k : Nat) (a0_0 : Int) (a0_1 : Int) (a0_2 : Int) (a0_3 : Bool) (a0_4 : Bool) (a1 : Int) (a2 : Int) (a3 : Int) (r1 : Int) (r2 : Int) (r3 : Int) (r4 : Bool) (r5 : Bool) (r6 : Bool) (w : World) (h : spec_SeeEvent.f k a0_0 a0_1 a0_2 a0_3 a0_4 a1 a2 a3 = some (r1, r2, r3, r4, r5, r6)) :
  Calls Try.prog 131 #[.agg #[.int .i64 a0_0, .int .i64 a0_1, .int .i64 a0_2, .bool a0_3, .bool a0_4], .int .i64 a1, .int .i64 a2, .int .i64 a3] w fun e w' => e = .returned (.tuple #[.agg #[.int .i64 r1, .int .i64 r2, .int .i64 r3, .bool r4, .bool r5], .bool r6]) ∧ Below w.heap.size w w' := by
 have hu72 := Try.underlying72
 have HB := am_ (Below.refl w.heap.size w)
 have H : ((spec_l04Fine.f a0_0 a0_1 a0_2 a0_3 a0_4 a2 a3).bind fun t121 => (if t121 = true then ((spec_l01In.f a1 0 1000000).bind fun t122 => (spec_SeeEvent.j0 k a1 a2 a3 (!t122) a0_0 a0_1 a0_2 a0_3 a0_4)) else (spec_SeeEvent.j0 k a1 a2 a3 true a0_0 a0_1 a0_2 a0_3 a0_4))) = some (r1, r2, r3, r4, r5, r6) := h
 clear h
 have HC5 := Aside0.mk H
 clear H
 go_enter Try.func131, Try.ntmps131
 go_upto_region 1 with (first | ((with_reducible refine gate_dst (N := 4) rfl ?_); refine box_event ?hg (N := 4) ?hd (cs := #[.int .i64 a0_0, .int .i64 a0_1, .int .i64 a0_2, .bool a0_3, .bool a0_4]) (t := 72) ?hr ?_; (case hd => rfl); (case hg => rfl); (case hr => first | (go_simp; done) | (go_simp; rfl)); intro gb119 hg w6 hbox hb; have n0_ := am_ (below_step (ue_ HB.out) hb); have n1_ := am_ (hbox); have n2_ := am_ ((by rw [hg]; exact (below_size (ue_ HB.out)) : w.heap.size ≤ gb119)); have n3_ := am_ ((by rw [hg]; exact (below_size (ue_ HB.out)) : w.heap.size ≤ gb119)); clear HB; have HB := n0_; have BK119 := n1_; have GW119 := n2_; have GE119 := n3_; clear n0_ n1_ n2_ n3_; clear hb hbox hg) | ((with_reducible refine gate_dst (N := 8) rfl ?_); refine box_event ?hg (N := 8) ?hd (cs := #[.int .i64 0, .int .i64 0, .int .i64 0, .bool false, .bool false]) (t := 72) ?hr ?_; (case hd => rfl); (case hg => rfl); (case hr => first | (go_simp; done) | (go_simp; rfl)); intro gb120 hg w7 hbox hb; have n0_ := am_ (bb_ BK119.out hb); have n1_ := am_ (below_step (ue_ HB.out) hb); have n2_ := am_ (hbox); have n3_ := am_ ((by rw [hg]; exact (below_size (ue_ HB.out)) : w.heap.size ≤ gb120)); have n4_ := am_ ((by rw [hg]; exact (below_size (ue_ HB.out)) : w.heap.size ≤ gb120)); have n5_ := am_ ((by rw [hg]; exact Nat.ne_of_lt (bl_ BK119.out) : gb119 ≠ gb120)); have n6_ := am_ ((by rw [hg]; exact Nat.ne_of_gt (bl_ BK119.out) : gb120 ≠ gb119)); clear BK119 HB; have BK119 := n0_; have HB := n1_; have BK120 := n2_; have GW120 := n3_; have GE120 := n4_; have NB119_120 := n5_; have NB120_119 := n6_; clear n0_ n1_ n2_ n3_ n4_ n5_ n6_; clear hb hbox hg))
 (try simp only [Act.put, List.setIfInBounds_toArray, List.set_cons_zero, List.set_cons_succ])
 go_cut [20] (fun v20 wc => ∃ (kq : Nat) (x20_4 : Bool), v20 = .bool x20_4 ∧ Aside0 (spec_SeeEvent.j0 kq a1 a2 a3 x20_4 a0_0 a0_1 a0_2 a0_3 a0_4 = some (r1, r2, r3, r4, r5, r6)) ∧ Aside0 (kq ≤ k) ∧ Aside0 (wc.heap[gb119]? = some (.cells #[.int .i64 a0_0, .int .i64 a0_1, .int .i64 a0_2, .bool a0_3, .bool a0_4] 72 (0, 0))) ∧ Aside0 (wc.heap[gb120]? = some (.cells #[.int .i64 0, .int .i64 0, .int .i64 0, .bool false, .bool false] 72 (0, 0))) ∧ Aside0 (Below w.heap.size w wc))
 case first =>
  have H := HC5.out
  clear HC5
  replace H := Option.bind_eq_some_iff.mp H
  obtain ⟨t121, A80, H⟩ := H
  replace H : (if t121 = true then ((spec_l01In.f a1 0 1000000).bind fun t122 => (spec_SeeEvent.j0 k a1 a2 a3 (!t122) a0_0 a0_1 a0_2 a0_3 a0_4)) else (spec_SeeEvent.j0 k a1 a2 a3 true a0_0 a0_1 a0_2 a0_3 a0_4)) = some (r1, r2, r3, r4, r5, r6) := H
  have A8 := Aside0.mk A80
  clear A80
  by_cases c9 : t121 = true
  ·
   subst c9
   have H1 : ((spec_l01In.f a1 0 1000000).bind fun t122 => (spec_SeeEvent.j0 k a1 a2 a3 (!t122) a0_0 a0_1 a0_2 a0_3 a0_4)) = some (r1, r2, r3, r4, r5, r6) := by rw [if_pos rfl] at H; exact H
   clear H
   have H := H1
   clear H1
   replace H := Option.bind_eq_some_iff.mp H
   obtain ⟨t122, A100, H⟩ := H
   replace H : (spec_SeeEvent.j0 k a1 a2 a3 (!t122) a0_0 a0_1 a0_2 a0_3 a0_4) = some (r1, r2, r3, r4, r5, r6) := H
   have A10 := Aside0.mk A100
   clear A100
   have H' := Aside0.mk H
   clear H
   have hnb11 := NB119_120.out
   have hnc11 := NB120_119.out
   have hcz12_0 := cb_ BK119.out 0 rfl
   have hcz12_1 := cb_ BK119.out 1 rfl
   have hcz12_2 := cb_ BK119.out 2 rfl
   have hcz12_3 := cb_ BK119.out 3 rfl
   have hcz12_4 := cb_ BK119.out 4 rfl
   have hfz12_0 := blk_frozen BK119.out 0
   have hfz12_1 := blk_frozen BK119.out 1
   have hfz12_2 := blk_frozen BK119.out 2
   have hfz12_3 := blk_frozen BK119.out 3
   have hfz12_4 := blk_frozen BK119.out 4
   go_wp2_with (first | ((with_reducible refine gate_callee (f := 174) rfl ?_); refine goesL_ (some 14) rfl rfl Try.func174 (by kernel_rfl) rfl #[.agg #[.int .i64 a0_0, .int .i64 a0_1, .int .i64 a0_2, .bool a0_3, .bool a0_4], .int .i64 a2, .int .i64 a3] rfl ul_ ?_; (with_reducible refine (spec_l04Fine.calls a0_0 a0_1 a0_2 a0_3 a0_4 a2 a3 true _ A8.out).mono ?_); rintro e w13 ⟨rfl, hb⟩; refine ⟨_, rfl, ?_⟩; have n0_ := am_ (bb_ BK119.out hb); have n1_ := am_ (bb_ BK120.out hb); have n2_ := am_ (below_step (ue_ HB.out) hb); clear BK119 BK120 HB; have BK119 := n0_; have BK120 := n1_; have HB := n2_; clear n0_ n1_ n2_; (try clear hb); (try clear hb2); (try clear hk); (try clear hi)) | (go_at_call 111; (with_reducible refine (spec_l01In.calls a1 0 1000000 t122 _ A10.out).mono ?_); rintro e w' ⟨rfl, ⟨nd, rfl⟩⟩))
   go_meet
   case rel => exact ⟨_, (!t122), (by first | rfl | (simp; done) | (simp [*]; done)), H', ⟨by first | omega | exact Nat.le_refl _⟩, ⟨by (with_reducible repeat first|apply bn_|apply bd_|apply ba_); exact BK119.out⟩, ⟨by (with_reducible repeat first|apply bn_|apply bd_|apply ba_); exact BK120.out⟩, ⟨ue_ HB.out⟩⟩
  ·
   replace c9 := Bool.eq_false_iff.mpr c9
   subst c9
   have H1 : (spec_SeeEvent.j0 k a1 a2 a3 true a0_0 a0_1 a0_2 a0_3 a0_4) = some (r1, r2, r3, r4, r5, r6) := by rw [if_neg (show ¬ (false = true) by decide)] at H; exact H
   clear H
   have H := H1
   clear H1
   have H' := Aside0.mk H
   clear H
   have hnb14 := NB119_120.out
   have hnc14 := NB120_119.out
   have hcz15_0 := cb_ BK119.out 0 rfl
   have hcz15_1 := cb_ BK119.out 1 rfl
   have hcz15_2 := cb_ BK119.out 2 rfl
   have hcz15_3 := cb_ BK119.out 3 rfl
   have hcz15_4 := cb_ BK119.out 4 rfl
   have hfz15_0 := blk_frozen BK119.out 0
   have hfz15_1 := blk_frozen BK119.out 1
   have hfz15_2 := blk_frozen BK119.out 2
   have hfz15_3 := blk_frozen BK119.out 3
   have hfz15_4 := blk_frozen BK119.out 4
   go_wp2_with (first | ((with_reducible refine gate_callee (f := 174) rfl ?_); refine goesL_ (some 14) rfl rfl Try.func174 (by kernel_rfl) rfl #[.agg #[.int .i64 a0_0, .int .i64 a0_1, .int .i64 a0_2, .bool a0_3, .bool a0_4], .int .i64 a2, .int .i64 a3] rfl ul_ ?_; (with_reducible refine (spec_l04Fine.calls a0_0 a0_1 a0_2 a0_3 a0_4 a2 a3 false _ A8.out).mono ?_); rintro e w16 ⟨rfl, hb⟩; refine ⟨_, rfl, ?_⟩; have n0_ := am_ (bb_ BK119.out hb); have n1_ := am_ (bb_ BK120.out hb); have n2_ := am_ (below_step (ue_ HB.out) hb); clear BK119 BK120 HB; have BK119 := n0_; have BK120 := n1_; have HB := n2_; clear n0_ n1_ n2_; (try clear hb); (try clear hb2); (try clear hk); (try clear hi)))
   go_meet
   case rel => exact ⟨_, (true), (by first | rfl | (simp; done) | (simp [*]; done)), H', ⟨by first | omega | exact Nat.le_refl _⟩, ⟨by (with_reducible repeat first|apply bn_|apply bd_|apply ba_); exact BK119.out⟩, ⟨by (with_reducible repeat first|apply bn_|apply bd_|apply ba_); exact BK120.out⟩, ⟨ue_ HB.out⟩⟩
 case rest =>
  clear HC5
  try clear c1
  try clear p2
  try clear c9
  try clear c11
  try clear c13
  try clear c14
  try clear hcz12_0
  try clear hcz12_1
  try clear hcz12_2
  try clear hcz12_3
  try clear hcz12_4
  try clear hcz15_0
  try clear hcz15_1
  try clear hcz15_2
  try clear hcz15_3
  try clear hcz15_4
  try clear hfz12_0
  try clear hfz12_1
  try clear hfz12_2
  try clear hfz12_3
  try clear hfz12_4
  try clear hfz15_0
  try clear hfz15_1
  try clear hfz15_2
  try clear hfz15_3
  try clear hfz15_4
  obtain ⟨kq, x20_4, rfl, HA, HJ4, BK119, BK120, HB⟩ := hcut
  cases kq with
  | zero => exact absurd HA.out (by simp [spec_SeeEvent.j0])
  | succ kj4 =>
   have H := HA.out
   clear HA
   simp only [spec_SeeEvent.j0] at H
   by_cases c17 : x20_4 = true
   ·
    subst c17
    have H1 : (some (a0_0, a0_1, a0_2, a0_3, a0_4, false)) = some (r1, r2, r3, r4, r5, r6) := by rw [if_pos rfl] at H; exact H
    clear H
    have H := H1
    clear H1
    simp only [Option.some.injEq, Prod.mk.injEq] at H
    obtain ⟨rfl, rfl, rfl, rfl, rfl, rfl⟩ := H
    have hnb18 := NB119_120.out
    have hnc18 := NB120_119.out
    have hcz19_0 := cb_ BK119.out 0 rfl
    have hcz19_1 := cb_ BK119.out 1 rfl
    have hcz19_2 := cb_ BK119.out 2 rfl
    have hcz19_3 := cb_ BK119.out 3 rfl
    have hcz19_4 := cb_ BK119.out 4 rfl
    have hfz19_0 := blk_frozen BK119.out 0
    have hfz19_1 := blk_frozen BK119.out 1
    have hfz19_2 := blk_frozen BK119.out 2
    have hfz19_3 := blk_frozen BK119.out 3
    have hfz19_4 := blk_frozen BK119.out 4
    have hcz20_0 := cb_ BK120.out 0 rfl
    have hcz20_1 := cb_ BK120.out 1 rfl
    have hcz20_2 := cb_ BK120.out 2 rfl
    have hcz20_3 := cb_ BK120.out 3 rfl
    have hcz20_4 := cb_ BK120.out 4 rfl
    have hfz20_0 := blk_frozen BK120.out 0
    have hfz20_1 := blk_frozen BK120.out 1
    have hfz20_2 := blk_frozen BK120.out 2
    have hfz20_3 := blk_frozen BK120.out 3
    have hfz20_4 := blk_frozen BK120.out 4
    go_wp2_with (first | ((with_reducible refine gate_store (t := 72) (p := 8) rfl ?_); refine store_event (t := 72) (p := 8) (v := ?vo_w21) (w1 := (((((wc.setCell ⟨gb120, 0, none⟩ (.int .i64 a0_0)).setCell ⟨gb120, 1, none⟩ (.int .i64 a0_1)).setCell ⟨gb120, 2, none⟩ (.int .i64 a0_2)).setCell ⟨gb120, 3, none⟩ (.bool a0_3)).setCell ⟨gb120, 4, none⟩ (.bool a0_4))) ?hg ?ho ?hn ?hr ?_; (case ho => rfl); (case hg => rfl); (case hn => rfl); (case hr => first | (go_simp; done) | (go_simp; rfl)); intro w21 hw; have n0_ : Aside0 (w21.heap[gb119]? = some (.cells #[.int .i64 a0_0, .int .i64 a0_1, .int .i64 a0_2, .bool a0_3, .bool a0_4] 72 (0, 0))) := ⟨(by rw [hw]; exact (uf_ BK119.out))⟩; have n1_ : Aside0 (w21.heap[gb120]? = some (.cells #[.int .i64 a0_0, .int .i64 a0_1, .int .i64 a0_2, .bool a0_3, .bool a0_4] 72 (0, 0))) := ⟨(by rw [hw]; exact (by (with_reducible repeat first|apply bn_|apply bd_|apply ba_); refine blk_put (cs := #[.int .i64 a0_0, .int .i64 a0_1, .int .i64 a0_2, .bool a0_3, .bool false]) ?_ 4 _ rfl; refine blk_put (cs := #[.int .i64 a0_0, .int .i64 a0_1, .int .i64 a0_2, .bool false, .bool false]) ?_ 3 _ rfl; refine blk_put (cs := #[.int .i64 a0_0, .int .i64 a0_1, .int .i64 0, .bool false, .bool false]) ?_ 2 _ rfl; refine blk_put (cs := #[.int .i64 a0_0, .int .i64 0, .int .i64 0, .bool false, .bool false]) ?_ 1 _ rfl; refine blk_put (cs := #[.int .i64 0, .int .i64 0, .int .i64 0, .bool false, .bool false]) ?_ 0 _ rfl; (with_reducible repeat first|apply bn_|apply bd_|apply ba_); exact BK120.out))⟩; have n2_ : Aside0 (Below w.heap.size w w21) := ⟨(by rw [hw]; exact (ue_ HB.out))⟩; clear hw BK119 BK120 HB; have BK119 := n0_; have BK120 := n1_; have HB := n2_; clear n0_ n1_ n2_))
    refine bodyPost_ret (results_ct rfl _ _ gb120 72 #[.int .i64 a0_0, .int .i64 a0_1, .int .i64 a0_2, .bool a0_3, .bool a0_4] (0, 0) _ rfl (ub_ BK120.out) Try.underlying72 rfl (by kernel_rfl)) rfl ?_
    exact ⟨ew_, ue_ HB.out⟩
   ·
    replace c17 := Bool.eq_false_iff.mpr c17
    subst c17
    have H1 : ((spec_l04More.f a0_0 a2).bind fun t124 => ((spec_l04More.f a0_1 (wrap64 ((wrap64 (t124 - a1)) - 1))).bind fun t125 => (some (t124, t125, a3, false, a0_4, true)))) = some (r1, r2, r3, r4, r5, r6) := by rw [if_neg (show ¬ (false = true) by decide)] at H; exact H
    clear H
    have H := H1
    clear H1
    replace H := Option.bind_eq_some_iff.mp H
    obtain ⟨t124, A220, H⟩ := H
    replace H : ((spec_l04More.f a0_1 (wrap64 ((wrap64 (t124 - a1)) - 1))).bind fun t125 => (some (t124, t125, a3, false, a0_4, true))) = some (r1, r2, r3, r4, r5, r6) := H
    have A22 := Aside0.mk A220
    clear A220
    replace H := Option.bind_eq_some_iff.mp H
    obtain ⟨t125, A230, H⟩ := H
    replace H : (some (t124, t125, a3, false, a0_4, true)) = some (r1, r2, r3, r4, r5, r6) := H
    have A23 := Aside0.mk A230
    clear A230
    simp only [Option.some.injEq, Prod.mk.injEq] at H
    obtain ⟨rfl, rfl, rfl, rfl, rfl, rfl⟩ := H
    have hnb24 := NB119_120.out
    have hnc24 := NB120_119.out
    have hcz25_0 := cb_ BK119.out 0 rfl
    have hcz25_1 := cb_ BK119.out 1 rfl
    have hcz25_2 := cb_ BK119.out 2 rfl
    have hcz25_3 := cb_ BK119.out 3 rfl
    have hcz25_4 := cb_ BK119.out 4 rfl
    have hfz25_0 := blk_frozen BK119.out 0
    have hfz25_1 := blk_frozen BK119.out 1
    have hfz25_2 := blk_frozen BK119.out 2
    have hfz25_3 := blk_frozen BK119.out 3
    have hfz25_4 := blk_frozen BK119.out 4
    go_wp2_with (first | ((with_reducible refine gate_dst (N := 10) rfl ?_); refine box_event ?hg (N := 10) ?hd (cs := #[.int .i64 0, .int .i64 0, .int .i64 0, .bool false, .bool false]) (t := 72) ?hr ?_; (case hd => rfl); (case hg => rfl); (case hr => first | (go_simp; done) | (go_simp; rfl)); intro gb123 hg w26 hbox hb; have n0_ := am_ (bb_ BK119.out hb); have n1_ := am_ (bb_ BK120.out hb); have n2_ := am_ (below_step (ue_ HB.out) hb); have n3_ := am_ (hbox); have n4_ := am_ ((by rw [hg]; exact (below_size (ue_ HB.out)) : w.heap.size ≤ gb123)); have n5_ := am_ ((by rw [hg]; exact (below_size (ue_ HB.out)) : w.heap.size ≤ gb123)); have n6_ := am_ ((by rw [hg]; exact Nat.ne_of_lt (bl_ BK119.out) : gb119 ≠ gb123)); have n7_ := am_ ((by rw [hg]; exact Nat.ne_of_gt (bl_ BK119.out) : gb123 ≠ gb119)); have n8_ := am_ ((by rw [hg]; exact Nat.ne_of_lt (bl_ BK120.out) : gb120 ≠ gb123)); have n9_ := am_ ((by rw [hg]; exact Nat.ne_of_gt (bl_ BK120.out) : gb123 ≠ gb120)); clear BK119 BK120 HB; have BK119 := n0_; have BK120 := n1_; have HB := n2_; have BK123 := n3_; have GW123 := n4_; have GE123 := n5_; have NB119_123 := n6_; have NB123_119 := n7_; have NB120_123 := n8_; have NB123_120 := n9_; clear n0_ n1_ n2_ n3_ n4_ n5_ n6_ n7_ n8_ n9_; clear hb hbox hg; have hnb27 := NB123_119.out; have hnc27 := NB119_123.out; have hnb28 := NB123_120.out; have hnc28 := NB120_123.out; obtain ⟨hcz29_0, hcz29_1, hcz29_2, hcz29_3, hcz29_4⟩ := cb5_ BK123.out; obtain ⟨hfz29_0, hfz29_1, hfz29_2, hfz29_3⟩ := bf4_ BK123.out; have hfz29_4 := blk_frozen BK123.out 4) | ((with_reducible refine gate_store (t := 72) (p := 10) rfl ?_); refine store_event (t := 72) (p := 10) (v := ?vo_w30) (w1 := (((((w26.setCell ⟨gb123, 0, none⟩ (.int .i64 a0_0)).setCell ⟨gb123, 1, none⟩ (.int .i64 a0_1)).setCell ⟨gb123, 2, none⟩ (.int .i64 a0_2)).setCell ⟨gb123, 3, none⟩ (.bool a0_3)).setCell ⟨gb123, 4, none⟩ (.bool a0_4))) ?hg ?ho ?hn ?hr ?_; (case ho => rfl); (case hg => rfl); (case hn => rfl); (case hr => first | (go_simp; done) | (go_simp; rfl)); intro w30 hw; have n0_ : Aside0 (w30.heap[gb119]? = some (.cells #[.int .i64 a0_0, .int .i64 a0_1, .int .i64 a0_2, .bool a0_3, .bool a0_4] 72 (0, 0))) := ⟨(by rw [hw]; exact (uf_ BK119.out))⟩; have n1_ : Aside0 (w30.heap[gb120]? = some (.cells #[.int .i64 0, .int .i64 0, .int .i64 0, .bool false, .bool false] 72 (0, 0))) := ⟨(by rw [hw]; exact (uf_ BK120.out))⟩; have n2_ : Aside0 (w30.heap[gb123]? = some (.cells #[.int .i64 a0_0, .int .i64 a0_1, .int .i64 a0_2, .bool a0_3, .bool a0_4] 72 (0, 0))) := ⟨(by rw [hw]; exact (by (with_reducible repeat first|apply bn_|apply bd_|apply ba_); refine blk_put (cs := #[.int .i64 a0_0, .int .i64 a0_1, .int .i64 a0_2, .bool a0_3, .bool false]) ?_ 4 _ rfl; refine blk_put (cs := #[.int .i64 a0_0, .int .i64 a0_1, .int .i64 a0_2, .bool false, .bool false]) ?_ 3 _ rfl; refine blk_put (cs := #[.int .i64 a0_0, .int .i64 a0_1, .int .i64 0, .bool false, .bool false]) ?_ 2 _ rfl; refine blk_put (cs := #[.int .i64 a0_0, .int .i64 0, .int .i64 0, .bool false, .bool false]) ?_ 1 _ rfl; refine blk_put (cs := #[.int .i64 0, .int .i64 0, .int .i64 0, .bool false, .bool false]) ?_ 0 _ rfl; (with_reducible repeat first|apply bn_|apply bd_|apply ba_); exact BK123.out))⟩; have n3_ : Aside0 (Below w.heap.size w w30) := ⟨(by rw [hw]; exact (ue_ HB.out))⟩; clear hw BK119 BK120 BK123 HB; have BK119 := n0_; have BK120 := n1_; have BK123 := n2_; have HB := n3_; clear n0_ n1_ n2_ n3_; obtain ⟨hcz31_0, hcz31_1, hcz31_2, hcz31_3, hcz31_4⟩ := cb5_ BK119.out; obtain ⟨hfz31_0, hfz31_1, hfz31_2, hfz31_3⟩ := bf4_ BK119.out; have hfz31_4 := blk_frozen BK119.out 4) | ((with_reducible refine gate_callee (f := 175) rfl ?_); refine goesL_ (some 26) rfl rfl Try.func175 (by kernel_rfl) rfl #[.int .i64 a0_0, .int .i64 a2] rfl ul_ ?_; (with_reducible refine (spec_l04More.calls a0_0 a2 t124 _ A22.out).mono ?_); rintro e w' ⟨rfl, ⟨nd, rfl⟩⟩; refine ⟨_, rfl, ?_⟩; (try (rw [drewN_self w30]; generalize hq_ : World.drewN w30 _ = w30; have n0_ : Aside0 (w30.heap[gb119]? = some (.cells #[.int .i64 a0_0, .int .i64 a0_1, .int .i64 a0_2, .bool a0_3, .bool a0_4] 72 (0, 0))) := ⟨by rw [← hq_]; exact (ub_ BK119.out)⟩; have n1_ : Aside0 (w30.heap[gb120]? = some (.cells #[.int .i64 0, .int .i64 0, .int .i64 0, .bool false, .bool false] 72 (0, 0))) := ⟨by rw [← hq_]; exact (ub_ BK120.out)⟩; have n2_ : Aside0 (w30.heap[gb123]? = some (.cells #[.int .i64 a0_0, .int .i64 a0_1, .int .i64 a0_2, .bool a0_3, .bool a0_4] 72 (0, 0))) := ⟨by rw [← hq_]; exact (ub_ BK123.out)⟩; have n3_ : Aside0 (Below w.heap.size w w30) := ⟨by rw [← hq_]; exact (ue_ HB.out)⟩; clear BK119 BK120 BK123 HB hq_; have BK119 := n0_; have BK120 := n1_; have BK123 := n2_; have HB := n3_; clear n0_ n1_ n2_ n3_)); obtain ⟨hcz32_0, hcz32_1, hcz32_2, hcz32_3, hcz32_4⟩ := cb5_ BK123.out; obtain ⟨hfz32_0, hfz32_1, hfz32_2, hfz32_3⟩ := bf4_ BK123.out; have hfz32_4 := blk_frozen BK123.out 4) | ((with_reducible refine gate_store (t := 3) (p := 27) rfl ?_); refine store_event (t := 3) (p := 27) (v := ?vo_w33) (w1 := (w30.setCell ⟨gb123, 0, none⟩ (.int .i64 t124))) ?hg ?ho ?hn ?hr ?_; (case ho => rfl); (case hg => rfl); (case hn => rfl); (case hr => first | (go_simp; done) | (go_simp; rfl)); intro w33 hw; have n0_ : Aside0 (w33.heap[gb119]? = some (.cells #[.int .i64 a0_0, .int .i64 a0_1, .int .i64 a0_2, .bool a0_3, .bool a0_4] 72 (0, 0))) := ⟨(by rw [hw]; exact (uf_ BK119.out))⟩; have n1_ : Aside0 (w33.heap[gb120]? = some (.cells #[.int .i64 0, .int .i64 0, .int .i64 0, .bool false, .bool false] 72 (0, 0))) := ⟨(by rw [hw]; exact (uf_ BK120.out))⟩; have n2_ : Aside0 (w33.heap[gb123]? = some (.cells #[.int .i64 t124, .int .i64 a0_1, .int .i64 a0_2, .bool a0_3, .bool a0_4] 72 (0, 0))) := ⟨(by rw [hw]; exact (by (with_reducible repeat first|apply bn_|apply bd_|apply ba_); refine blk_put (cs := #[.int .i64 a0_0, .int .i64 a0_1, .int .i64 a0_2, .bool a0_3, .bool a0_4]) ?_ 0 _ rfl; (with_reducible repeat first|apply bn_|apply bd_|apply ba_); exact BK123.out))⟩; have n3_ : Aside0 (Below w.heap.size w w33) := ⟨(by rw [hw]; exact (ue_ HB.out))⟩; clear hw BK119 BK120 BK123 HB; have BK119 := n0_; have BK120 := n1_; have BK123 := n2_; have HB := n3_; clear n0_ n1_ n2_ n3_; obtain ⟨hcz34_0, hcz34_1, hcz34_2, hcz34_3, hcz34_4⟩ := cb5_ BK119.out; obtain ⟨hfz34_0, hfz34_1, hfz34_2, hfz34_3, hfz34_4⟩ := bf5_ BK119.out; obtain ⟨hcz35_0, hcz35_1, hcz35_2, hcz35_3, hcz35_4⟩ := cb5_ BK123.out; obtain ⟨hfz35_0, hfz35_1, hfz35_2, hfz35_3⟩ := bf4_ BK123.out; have hfz35_4 := blk_frozen BK123.out 4) | ((with_reducible refine gate_callee (f := 175) rfl ?_); refine goesL_ (some 35) rfl rfl Try.func175 (by kernel_rfl) rfl #[.int .i64 a0_1, .int .i64 (wrap64 ((wrap64 (t124 - a1)) - 1))] rfl ul_ ?_; (with_reducible refine (spec_l04More.calls a0_1 (wrap64 ((wrap64 (t124 - a1)) - 1)) t125 _ A23.out).mono ?_); rintro e w' ⟨rfl, ⟨nd, rfl⟩⟩; refine ⟨_, rfl, ?_⟩; (try (rw [drewN_self w33]; generalize hq_ : World.drewN w33 _ = w33; have n0_ : Aside0 (w33.heap[gb119]? = some (.cells #[.int .i64 a0_0, .int .i64 a0_1, .int .i64 a0_2, .bool a0_3, .bool a0_4] 72 (0, 0))) := ⟨by rw [← hq_]; exact (ub_ BK119.out)⟩; have n1_ : Aside0 (w33.heap[gb120]? = some (.cells #[.int .i64 0, .int .i64 0, .int .i64 0, .bool false, .bool false] 72 (0, 0))) := ⟨by rw [← hq_]; exact (ub_ BK120.out)⟩; have n2_ : Aside0 (w33.heap[gb123]? = some (.cells #[.int .i64 t124, .int .i64 a0_1, .int .i64 a0_2, .bool a0_3, .bool a0_4] 72 (0, 0))) := ⟨by rw [← hq_]; exact (ub_ BK123.out)⟩; have n3_ : Aside0 (Below w.heap.size w w33) := ⟨by rw [← hq_]; exact (ue_ HB.out)⟩; clear BK119 BK120 BK123 HB hq_; have BK119 := n0_; have BK120 := n1_; have BK123 := n2_; have HB := n3_; clear n0_ n1_ n2_ n3_)); obtain ⟨hcz36_0, hcz36_1, hcz36_2, hcz36_3, hcz36_4⟩ := cb5_ BK123.out; obtain ⟨hfz36_0, hfz36_1, hfz36_2, hfz36_3⟩ := bf4_ BK123.out; have hfz36_4 := blk_frozen BK123.out 4) | ((with_reducible refine gate_store (t := 3) (p := 36) rfl ?_); refine store_event (t := 3) (p := 36) (v := ?vo_w37) (w1 := (w33.setCell ⟨gb123, 1, none⟩ (.int .i64 t125))) ?hg ?ho ?hn ?hr ?_; (case ho => rfl); (case hg => rfl); (case hn => rfl); (case hr => first | (go_simp; done) | (go_simp; rfl)); intro w37 hw; have n0_ : Aside0 (w37.heap[gb119]? = some (.cells #[.int .i64 a0_0, .int .i64 a0_1, .int .i64 a0_2, .bool a0_3, .bool a0_4] 72 (0, 0))) := ⟨(by rw [hw]; exact (uf_ BK119.out))⟩; have n1_ : Aside0 (w37.heap[gb120]? = some (.cells #[.int .i64 0, .int .i64 0, .int .i64 0, .bool false, .bool false] 72 (0, 0))) := ⟨(by rw [hw]; exact (uf_ BK120.out))⟩; have n2_ : Aside0 (w37.heap[gb123]? = some (.cells #[.int .i64 t124, .int .i64 t125, .int .i64 a0_2, .bool a0_3, .bool a0_4] 72 (0, 0))) := ⟨(by rw [hw]; exact (by (with_reducible repeat first|apply bn_|apply bd_|apply ba_); refine blk_put (cs := #[.int .i64 t124, .int .i64 a0_1, .int .i64 a0_2, .bool a0_3, .bool a0_4]) ?_ 1 _ rfl; (with_reducible repeat first|apply bn_|apply bd_|apply ba_); exact BK123.out))⟩; have n3_ : Aside0 (Below w.heap.size w w37) := ⟨(by rw [hw]; exact (ue_ HB.out))⟩; clear hw BK119 BK120 BK123 HB; have BK119 := n0_; have BK120 := n1_; have BK123 := n2_; have HB := n3_; clear n0_ n1_ n2_ n3_; obtain ⟨hcz38_0, hcz38_1, hcz38_2, hcz38_3, hcz38_4⟩ := cb5_ BK123.out; obtain ⟨hfz38_0, hfz38_1, hfz38_2, hfz38_3⟩ := bf4_ BK123.out; have hfz38_4 := blk_frozen BK123.out 4) | ((with_reducible refine gate_store (t := 3) (p := 38) rfl ?_); refine store_event (t := 3) (p := 38) (v := ?vo_w39) (w1 := (w37.setCell ⟨gb123, 2, none⟩ (.int .i64 a3))) ?hg ?ho ?hn ?hr ?_; (case ho => rfl); (case hg => rfl); (case hn => rfl); (case hr => first | (go_simp; done) | (go_simp; rfl)); intro w39 hw; have n0_ : Aside0 (w39.heap[gb119]? = some (.cells #[.int .i64 a0_0, .int .i64 a0_1, .int .i64 a0_2, .bool a0_3, .bool a0_4] 72 (0, 0))) := ⟨(by rw [hw]; exact (uf_ BK119.out))⟩; have n1_ : Aside0 (w39.heap[gb120]? = some (.cells #[.int .i64 0, .int .i64 0, .int .i64 0, .bool false, .bool false] 72 (0, 0))) := ⟨(by rw [hw]; exact (uf_ BK120.out))⟩; have n2_ : Aside0 (w39.heap[gb123]? = some (.cells #[.int .i64 t124, .int .i64 t125, .int .i64 a3, .bool a0_3, .bool a0_4] 72 (0, 0))) := ⟨(by rw [hw]; exact (by (with_reducible repeat first|apply bn_|apply bd_|apply ba_); refine blk_put (cs := #[.int .i64 t124, .int .i64 t125, .int .i64 a0_2, .bool a0_3, .bool a0_4]) ?_ 2 _ rfl; (with_reducible repeat first|apply bn_|apply bd_|apply ba_); exact BK123.out))⟩; have n3_ : Aside0 (Below w.heap.size w w39) := ⟨(by rw [hw]; exact (ue_ HB.out))⟩; clear hw BK119 BK120 BK123 HB; have BK119 := n0_; have BK120 := n1_; have BK123 := n2_; have HB := n3_; clear n0_ n1_ n2_ n3_; obtain ⟨hcz40_0, hcz40_1, hcz40_2, hcz40_3, hcz40_4⟩ := cb5_ BK123.out; obtain ⟨hfz40_0, hfz40_1, hfz40_2, hfz40_3⟩ := bf4_ BK123.out; have hfz40_4 := blk_frozen BK123.out 4) | ((with_reducible refine gate_store (t := 4) (p := 39) rfl ?_); refine store_event (t := 4) (p := 39) (v := ?vo_w41) (w1 := (w39.setCell ⟨gb123, 3, none⟩ (.bool false))) ?hg ?ho ?hn ?hr ?_; (case ho => rfl); (case hg => rfl); (case hn => rfl); (case hr => first | (go_simp; done) | (go_simp; rfl)); intro w41 hw; have n0_ : Aside0 (w41.heap[gb119]? = some (.cells #[.int .i64 a0_0, .int .i64 a0_1, .int .i64 a0_2, .bool a0_3, .bool a0_4] 72 (0, 0))) := ⟨(by rw [hw]; exact (uf_ BK119.out))⟩; have n1_ : Aside0 (w41.heap[gb120]? = some (.cells #[.int .i64 0, .int .i64 0, .int .i64 0, .bool false, .bool false] 72 (0, 0))) := ⟨(by rw [hw]; exact (uf_ BK120.out))⟩; have n2_ : Aside0 (w41.heap[gb123]? = some (.cells #[.int .i64 t124, .int .i64 t125, .int .i64 a3, .bool false, .bool a0_4] 72 (0, 0))) := ⟨(by rw [hw]; exact (by (with_reducible repeat first|apply bn_|apply bd_|apply ba_); refine blk_put (cs := #[.int .i64 t124, .int .i64 t125, .int .i64 a3, .bool a0_3, .bool a0_4]) ?_ 3 _ rfl; (with_reducible repeat first|apply bn_|apply bd_|apply ba_); exact BK123.out))⟩; have n3_ : Aside0 (Below w.heap.size w w41) := ⟨(by rw [hw]; exact (ue_ HB.out))⟩; clear hw BK119 BK120 BK123 HB; have BK119 := n0_; have BK120 := n1_; have BK123 := n2_; have HB := n3_; clear n0_ n1_ n2_ n3_; obtain ⟨hcz42_0, hcz42_1, hcz42_2, hcz42_3, hcz42_4⟩ := cb5_ BK123.out; obtain ⟨hfz42_0, hfz42_1, hfz42_2, hfz42_3, hfz42_4⟩ := bf5_ BK123.out; obtain ⟨hcz43_0, hcz43_1, hcz43_2, hcz43_3, hcz43_4⟩ := cb5_ BK120.out; obtain ⟨hfz43_0, hfz43_1, hfz43_2, hfz43_3⟩ := bf4_ BK120.out; have hfz43_4 := blk_frozen BK120.out 4) | ((with_reducible refine gate_store (t := 72) (p := 8) rfl ?_); refine store_event (t := 72) (p := 8) (v := ?vo_w44) (w1 := (((((w41.setCell ⟨gb120, 0, none⟩ (.int .i64 t124)).setCell ⟨gb120, 1, none⟩ (.int .i64 t125)).setCell ⟨gb120, 2, none⟩ (.int .i64 a3)).setCell ⟨gb120, 3, none⟩ (.bool false)).setCell ⟨gb120, 4, none⟩ (.bool a0_4))) ?hg ?ho ?hn ?hr ?_; (case ho => rfl); (case hg => rfl); (case hn => rfl); (case hr => first | (go_simp; done) | (go_simp; rfl)); intro w44 hw; have n0_ : Aside0 (w44.heap[gb119]? = some (.cells #[.int .i64 a0_0, .int .i64 a0_1, .int .i64 a0_2, .bool a0_3, .bool a0_4] 72 (0, 0))) := ⟨(by rw [hw]; exact (uf_ BK119.out))⟩; have n1_ : Aside0 (w44.heap[gb120]? = some (.cells #[.int .i64 t124, .int .i64 t125, .int .i64 a3, .bool false, .bool a0_4] 72 (0, 0))) := ⟨(by rw [hw]; exact (by (with_reducible repeat first|apply bn_|apply bd_|apply ba_); refine blk_put (cs := #[.int .i64 t124, .int .i64 t125, .int .i64 a3, .bool false, .bool false]) ?_ 4 _ rfl; refine blk_put (cs := #[.int .i64 t124, .int .i64 t125, .int .i64 a3, .bool false, .bool false]) ?_ 3 _ rfl; refine blk_put (cs := #[.int .i64 t124, .int .i64 t125, .int .i64 0, .bool false, .bool false]) ?_ 2 _ rfl; refine blk_put (cs := #[.int .i64 t124, .int .i64 0, .int .i64 0, .bool false, .bool false]) ?_ 1 _ rfl; refine blk_put (cs := #[.int .i64 0, .int .i64 0, .int .i64 0, .bool false, .bool false]) ?_ 0 _ rfl; (with_reducible repeat first|apply bn_|apply bd_|apply ba_); exact BK120.out))⟩; have n2_ : Aside0 (w44.heap[gb123]? = some (.cells #[.int .i64 t124, .int .i64 t125, .int .i64 a3, .bool false, .bool a0_4] 72 (0, 0))) := ⟨(by rw [hw]; exact (uf_ BK123.out))⟩; have n3_ : Aside0 (Below w.heap.size w w44) := ⟨(by rw [hw]; exact (ue_ HB.out))⟩; clear hw BK119 BK120 BK123 HB; have BK119 := n0_; have BK120 := n1_; have BK123 := n2_; have HB := n3_; clear n0_ n1_ n2_ n3_))
    refine bodyPost_ret (results_ct rfl _ _ gb120 72 #[.int .i64 t124, .int .i64 t125, .int .i64 a3, .bool false, .bool a0_4] (0, 0) _ rfl (ub_ BK120.out) Try.underlying72 rfl (by kernel_rfl)) rfl ?_
    exact ⟨ew_, ue_ HB.out⟩

/-! ### spec_SeeMark: function 132 -/
def spec_SeeMark.f (a0_0 : Int) (a0_1 : Int) (a0_2 : Int) (a0_3 : Bool) (a0_4 : Bool) (a1 : Int) (a2 : Int) : Option (Int × Int × Int × Bool × Bool × Bool) := (spec_l04Fine.f a0_0 a0_1 a0_2 a0_3 a0_4 a1 a2).bind fun t128 => (if t128 = true then ((spec_l04More.f a0_1 a1).bind fun t130 => (some (a0_0, t130, a2, false, a0_4, true))) else (some (a0_0, a0_1, a0_2, a0_3, a0_4, false)))
set_option maxHeartbeats 8000000 in
set_option maxRecDepth 100000 in
theorem spec_SeeMark.calls (a0_0 : Int) (a0_1 : Int) (a0_2 : Int) (a0_3 : Bool) (a0_4 : Bool) (a1 : Int) (a2 : Int) (r1 : Int) (r2 : Int) (r3 : Int) (r4 : Bool) (r5 : Bool) (r6 : Bool) (w : World) (h : spec_SeeMark.f a0_0 a0_1 a0_2 a0_3 a0_4 a1 a2 = some (r1, r2, r3, r4, r5, r6)) :
  Calls Try.prog 132 #[.agg #[.int .i64 a0_0, .int .i64 a0_1, .int .i64 a0_2, .bool a0_3, .bool a0_4], .int .i64 a1, .int .i64 a2] w fun e w' => e = .returned (.tuple #[.agg #[.int .i64 r1, .int .i64 r2, .int .i64 r3, .bool r4, .bool r5], .bool r6]) ∧ Below w.heap.size w w' := by
 have hu72 := Try.underlying72
 have HB := am_ (Below.refl w.heap.size w)
 have H : ((spec_l04Fine.f a0_0 a0_1 a0_2 a0_3 a0_4 a1 a2).bind fun t128 => (if t128 = true then ((spec_l04More.f a0_1 a1).bind fun t130 => (some (a0_0, t130, a2, false, a0_4, true))) else (some (a0_0, a0_1, a0_2, a0_3, a0_4, false)))) = some (r1, r2, r3, r4, r5, r6) := h
 clear h
 replace H := Option.bind_eq_some_iff.mp H
 obtain ⟨t128, A40, H⟩ := H
 replace H : (if t128 = true then ((spec_l04More.f a0_1 a1).bind fun t130 => (some (a0_0, t130, a2, false, a0_4, true))) else (some (a0_0, a0_1, a0_2, a0_3, a0_4, false))) = some (r1, r2, r3, r4, r5, r6) := H
 have A4 := Aside0.mk A40
 clear A40
 by_cases c5 : t128 = true
 ·
  subst c5
  have H1 : ((spec_l04More.f a0_1 a1).bind fun t130 => (some (a0_0, t130, a2, false, a0_4, true))) = some (r1, r2, r3, r4, r5, r6) := by rw [if_pos rfl] at H; exact H
  clear H
  have H := H1
  clear H1
  replace H := Option.bind_eq_some_iff.mp H
  obtain ⟨t130, A60, H⟩ := H
  replace H : (some (a0_0, t130, a2, false, a0_4, true)) = some (r1, r2, r3, r4, r5, r6) := H
  have A6 := Aside0.mk A60
  clear A60
  simp only [Option.some.injEq, Prod.mk.injEq] at H
  obtain ⟨rfl, rfl, rfl, rfl, rfl, rfl⟩ := H
  go_enter Try.func132, Try.ntmps132
  go_wp2_with (first | ((with_reducible refine gate_dst (N := 3) rfl ?_); refine box_event ?hg (N := 3) ?hd (cs := #[.int .i64 a0_0, .int .i64 a0_1, .int .i64 a0_2, .bool a0_3, .bool a0_4]) (t := 72) ?hr ?_; (case hd => rfl); (case hg => rfl); (case hr => first | (go_simp; done) | (go_simp; rfl)); intro gb126 hg w7 hbox hb; have n0_ := am_ (below_step (ue_ HB.out) hb); have n1_ := am_ (hbox); have n2_ := am_ ((by rw [hg]; exact (below_size (ue_ HB.out)) : w.heap.size ≤ gb126)); have n3_ := am_ ((by rw [hg]; exact (below_size (ue_ HB.out)) : w.heap.size ≤ gb126)); clear HB; have HB := n0_; have BK126 := n1_; have GW126 := n2_; have GE126 := n3_; clear n0_ n1_ n2_ n3_; clear hb hbox hg) | ((with_reducible refine gate_dst (N := 6) rfl ?_); refine box_event ?hg (N := 6) ?hd (cs := #[.int .i64 0, .int .i64 0, .int .i64 0, .bool false, .bool false]) (t := 72) ?hr ?_; (case hd => rfl); (case hg => rfl); (case hr => first | (go_simp; done) | (go_simp; rfl)); intro gb127 hg w8 hbox hb; have n0_ := am_ (bb_ BK126.out hb); have n1_ := am_ (below_step (ue_ HB.out) hb); have n2_ := am_ (hbox); have n3_ := am_ ((by rw [hg]; exact (below_size (ue_ HB.out)) : w.heap.size ≤ gb127)); have n4_ := am_ ((by rw [hg]; exact (below_size (ue_ HB.out)) : w.heap.size ≤ gb127)); have n5_ := am_ ((by rw [hg]; exact Nat.ne_of_lt (bl_ BK126.out) : gb126 ≠ gb127)); have n6_ := am_ ((by rw [hg]; exact Nat.ne_of_gt (bl_ BK126.out) : gb127 ≠ gb126)); clear BK126 HB; have BK126 := n0_; have HB := n1_; have BK127 := n2_; have GW127 := n3_; have GE127 := n4_; have NB126_127 := n5_; have NB127_126 := n6_; clear n0_ n1_ n2_ n3_ n4_ n5_ n6_; clear hb hbox hg; have hnb9 := NB126_127.out; have hnc9 := NB127_126.out; obtain ⟨hcz10_0, hcz10_1, hcz10_2, hcz10_3, hcz10_4⟩ := cb5_ BK126.out; obtain ⟨hfz10_0, hfz10_1, hfz10_2, hfz10_3⟩ := bf4_ BK126.out; have hfz10_4 := blk_frozen BK126.out 4) | ((with_reducible refine gate_callee (f := 174) rfl ?_); refine goesL_ (some 12) rfl rfl Try.func174 (by kernel_rfl) rfl #[.agg #[.int .i64 a0_0, .int .i64 a0_1, .int .i64 a0_2, .bool a0_3, .bool a0_4], .int .i64 a1, .int .i64 a2] rfl ul_ ?_; (with_reducible refine (spec_l04Fine.calls a0_0 a0_1 a0_2 a0_3 a0_4 a1 a2 true _ A4.out).mono ?_); rintro e w11 ⟨rfl, hb⟩; refine ⟨_, rfl, ?_⟩; have n0_ := am_ (bb_ BK126.out hb); have n1_ := am_ (bb_ BK127.out hb); have n2_ := am_ (below_step (ue_ HB.out) hb); clear BK126 BK127 HB; have BK126 := n0_; have BK127 := n1_; have HB := n2_; clear n0_ n1_ n2_; (try clear hb); (try clear hb2); (try clear hk); (try clear hi); obtain ⟨hcz12_0, hcz12_1, hcz12_2, hcz12_3, hcz12_4⟩ := cb5_ BK126.out; obtain ⟨hfz12_0, hfz12_1, hfz12_2, hfz12_3⟩ := bf4_ BK126.out; have hfz12_4 := blk_frozen BK126.out 4) | ((with_reducible refine gate_dst (N := 8) rfl ?_); refine box_event ?hg (N := 8) ?hd (cs := #[.int .i64 0, .int .i64 0, .int .i64 0, .bool false, .bool false]) (t := 72) ?hr ?_; (case hd => rfl); (case hg => rfl); (case hr => first | (go_simp; done) | (go_simp; rfl)); intro gb129 hg w13 hbox hb; have n0_ := am_ (bb_ BK126.out hb); have n1_ := am_ (bb_ BK127.out hb); have n2_ := am_ (below_step (ue_ HB.out) hb); have n3_ := am_ (hbox); have n4_ := am_ ((by rw [hg]; exact (below_size (ue_ HB.out)) : w.heap.size ≤ gb129)); have n5_ := am_ ((by rw [hg]; exact (below_size (ue_ HB.out)) : w.heap.size ≤ gb129)); have n6_ := am_ ((by rw [hg]; exact Nat.ne_of_lt (bl_ BK126.out) : gb126 ≠ gb129)); have n7_ := am_ ((by rw [hg]; exact Nat.ne_of_gt (bl_ BK126.out) : gb129 ≠ gb126)); have n8_ := am_ ((by rw [hg]; exact Nat.ne_of_lt (bl_ BK127.out) : gb127 ≠ gb129)); have n9_ := am_ ((by rw [hg]; exact Nat.ne_of_gt (bl_ BK127.out) : gb129 ≠ gb127)); clear BK126 BK127 HB; have BK126 := n0_; have BK127 := n1_; have HB := n2_; have BK129 := n3_; have GW129 := n4_; have GE129 := n5_; have NB126_129 := n6_; have NB129_126 := n7_; have NB127_129 := n8_; have NB129_127 := n9_; clear n0_ n1_ n2_ n3_ n4_ n5_ n6_ n7_ n8_ n9_; clear hb hbox hg; have hnb14 := NB129_126.out; have hnc14 := NB126_129.out; have hnb15 := NB129_127.out; have hnc15 := NB127_129.out; obtain ⟨hcz16_0, hcz16_1, hcz16_2, hcz16_3, hcz16_4⟩ := cb5_ BK129.out; obtain ⟨hfz16_0, hfz16_1, hfz16_2, hfz16_3⟩ := bf4_ BK129.out; have hfz16_4 := blk_frozen BK129.out 4) | ((with_reducible refine gate_store (t := 72) (p := 8) rfl ?_); refine store_event (t := 72) (p := 8) (v := ?vo_w17) (w1 := (((((w13.setCell ⟨gb129, 0, none⟩ (.int .i64 a0_0)).setCell ⟨gb129, 1, none⟩ (.int .i64 a0_1)).setCell ⟨gb129, 2, none⟩ (.int .i64 a0_2)).setCell ⟨gb129, 3, none⟩ (.bool a0_3)).setCell ⟨gb129, 4, none⟩ (.bool a0_4))) ?hg ?ho ?hn ?hr ?_; (case ho => rfl); (case hg => rfl); (case hn => rfl); (case hr => first | (go_simp; done) | (go_simp; rfl)); intro w17 hw; have n0_ : Aside0 (w17.heap[gb126]? = some (.cells #[.int .i64 a0_0, .int .i64 a0_1, .int .i64 a0_2, .bool a0_3, .bool a0_4] 72 (0, 0))) := ⟨(by rw [hw]; exact (uf_ BK126.out))⟩; have n1_ : Aside0 (w17.heap[gb127]? = some (.cells #[.int .i64 0, .int .i64 0, .int .i64 0, .bool false, .bool false] 72 (0, 0))) := ⟨(by rw [hw]; exact (uf_ BK127.out))⟩; have n2_ : Aside0 (w17.heap[gb129]? = some (.cells #[.int .i64 a0_0, .int .i64 a0_1, .int .i64 a0_2, .bool a0_3, .bool a0_4] 72 (0, 0))) := ⟨(by rw [hw]; exact (by (with_reducible repeat first|apply bn_|apply bd_|apply ba_); refine blk_put (cs := #[.int .i64 a0_0, .int .i64 a0_1, .int .i64 a0_2, .bool a0_3, .bool false]) ?_ 4 _ rfl; refine blk_put (cs := #[.int .i64 a0_0, .int .i64 a0_1, .int .i64 a0_2, .bool false, .bool false]) ?_ 3 _ rfl; refine blk_put (cs := #[.int .i64 a0_0, .int .i64 a0_1, .int .i64 0, .bool false, .bool false]) ?_ 2 _ rfl; refine blk_put (cs := #[.int .i64 a0_0, .int .i64 0, .int .i64 0, .bool false, .bool false]) ?_ 1 _ rfl; refine blk_put (cs := #[.int .i64 0, .int .i64 0, .int .i64 0, .bool false, .bool false]) ?_ 0 _ rfl; (with_reducible repeat first|apply bn_|apply bd_|apply ba_); exact BK129.out))⟩; have n3_ : Aside0 (Below w.heap.size w w17) := ⟨(by rw [hw]; exact (ue_ HB.out))⟩; clear hw BK126 BK127 BK129 HB; have BK126 := n0_; have BK127 := n1_; have BK129 := n2_; have HB := n3_; clear n0_ n1_ n2_ n3_; obtain ⟨hcz18_0, hcz18_1, hcz18_2, hcz18_3, hcz18_4⟩ := cb5_ BK126.out; obtain ⟨hfz18_0, hfz18_1, hfz18_2, hfz18_3⟩ := bf4_ BK126.out; have hfz18_4 := blk_frozen BK126.out 4) | ((with_reducible refine gate_callee (f := 175) rfl ?_); refine goesL_ (some 19) rfl rfl Try.func175 (by kernel_rfl) rfl #[.int .i64 a0_1, .int .i64 a1] rfl ul_ ?_; (with_reducible refine (spec_l04More.calls a0_1 a1 t130 _ A6.out).mono ?_); rintro e w' ⟨rfl, ⟨nd, rfl⟩⟩; refine ⟨_, rfl, ?_⟩; (try (rw [drewN_self w17]; generalize hq_ : World.drewN w17 _ = w17; have n0_ : Aside0 (w17.heap[gb126]? = some (.cells #[.int .i64 a0_0, .int .i64 a0_1, .int .i64 a0_2, .bool a0_3, .bool a0_4] 72 (0, 0))) := ⟨by rw [← hq_]; exact (ub_ BK126.out)⟩; have n1_ : Aside0 (w17.heap[gb127]? = some (.cells #[.int .i64 0, .int .i64 0, .int .i64 0, .bool false, .bool false] 72 (0, 0))) := ⟨by rw [← hq_]; exact (ub_ BK127.out)⟩; have n2_ : Aside0 (w17.heap[gb129]? = some (.cells #[.int .i64 a0_0, .int .i64 a0_1, .int .i64 a0_2, .bool a0_3, .bool a0_4] 72 (0, 0))) := ⟨by rw [← hq_]; exact (ub_ BK129.out)⟩; have n3_ : Aside0 (Below w.heap.size w w17) := ⟨by rw [← hq_]; exact (ue_ HB.out)⟩; clear BK126 BK127 BK129 HB hq_; have BK126 := n0_; have BK127 := n1_; have BK129 := n2_; have HB := n3_; clear n0_ n1_ n2_ n3_)); obtain ⟨hcz19_0, hcz19_1, hcz19_2, hcz19_3, hcz19_4⟩ := cb5_ BK129.out; obtain ⟨hfz19_0, hfz19_1, hfz19_2, hfz19_3⟩ := bf4_ BK129.out; have hfz19_4 := blk_frozen BK129.out 4) | ((with_reducible refine gate_store (t := 3) (p := 20) rfl ?_); refine store_event (t := 3) (p := 20) (v := ?vo_w20) (w1 := (w17.setCell ⟨gb129, 1, none⟩ (.int .i64 t130))) ?hg ?ho ?hn ?hr ?_; (case ho => rfl); (case hg => rfl); (case hn => rfl); (case hr => first | (go_simp; done) | (go_simp; rfl)); intro w20 hw; have n0_ : Aside0 (w20.heap[gb126]? = some (.cells #[.int .i64 a0_0, .int .i64 a0_1, .int .i64 a0_2, .bool a0_3, .bool a0_4] 72 (0, 0))) := ⟨(by rw [hw]; exact (uf_ BK126.out))⟩; have n1_ : Aside0 (w20.heap[gb127]? = some (.cells #[.int .i64 0, .int .i64 0, .int .i64 0, .bool false, .bool false] 72 (0, 0))) := ⟨(by rw [hw]; exact (uf_ BK127.out))⟩; have n2_ : Aside0 (w20.heap[gb129]? = some (.cells #[.int .i64 a0_0, .int .i64 t130, .int .i64 a0_2, .bool a0_3, .bool a0_4] 72 (0, 0))) := ⟨(by rw [hw]; exact (by (with_reducible repeat first|apply bn_|apply bd_|apply ba_); refine blk_put (cs := #[.int .i64 a0_0, .int .i64 a0_1, .int .i64 a0_2, .bool a0_3, .bool a0_4]) ?_ 1 _ rfl; (with_reducible repeat first|apply bn_|apply bd_|apply ba_); exact BK129.out))⟩; have n3_ : Aside0 (Below w.heap.size w w20) := ⟨(by rw [hw]; exact (ue_ HB.out))⟩; clear hw BK126 BK127 BK129 HB; have BK126 := n0_; have BK127 := n1_; have BK129 := n2_; have HB := n3_; clear n0_ n1_ n2_ n3_; obtain ⟨hcz21_0, hcz21_1, hcz21_2, hcz21_3, hcz21_4⟩ := cb5_ BK129.out; obtain ⟨hfz21_0, hfz21_1, hfz21_2, hfz21_3⟩ := bf4_ BK129.out; have hfz21_4 := blk_frozen BK129.out 4) | ((with_reducible refine gate_store (t := 3) (p := 22) rfl ?_); refine store_event (t := 3) (p := 22) (v := ?vo_w22) (w1 := (w20.setCell ⟨gb129, 2, none⟩ (.int .i64 a2))) ?hg ?ho ?hn ?hr ?_; (case ho => rfl); (case hg => rfl); (case hn => rfl); (case hr => first | (go_simp; done) | (go_simp; rfl)); intro w22 hw; have n0_ : Aside0 (w22.heap[gb126]? = some (.cells #[.int .i64 a0_0, .int .i64 a0_1, .int .i64 a0_2, .bool a0_3, .bool a0_4] 72 (0, 0))) := ⟨(by rw [hw]; exact (uf_ BK126.out))⟩; have n1_ : Aside0 (w22.heap[gb127]? = some (.cells #[.int .i64 0, .int .i64 0, .int .i64 0, .bool false, .bool false] 72 (0, 0))) := ⟨(by rw [hw]; exact (uf_ BK127.out))⟩; have n2_ : Aside0 (w22.heap[gb129]? = some (.cells #[.int .i64 a0_0, .int .i64 t130, .int .i64 a2, .bool a0_3, .bool a0_4] 72 (0, 0))) := ⟨(by rw [hw]; exact (by (with_reducible repeat first|apply bn_|apply bd_|apply ba_); refine blk_put (cs := #[.int .i64 a0_0, .int .i64 t130, .int .i64 a0_2, .bool a0_3, .bool a0_4]) ?_ 2 _ rfl; (with_reducible repeat first|apply bn_|apply bd_|apply ba_); exact BK129.out))⟩; have n3_ : Aside0 (Below w.heap.size w w22) := ⟨(by rw [hw]; exact (ue_ HB.out))⟩; clear hw BK126 BK127 BK129 HB; have BK126 := n0_; have BK127 := n1_; have BK129 := n2_; have HB := n3_; clear n0_ n1_ n2_ n3_; obtain ⟨hcz23_0, hcz23_1, hcz23_2, hcz23_3, hcz23_4⟩ := cb5_ BK129.out; obtain ⟨hfz23_0, hfz23_1, hfz23_2, hfz23_3⟩ := bf4_ BK129.out; have hfz23_4 := blk_frozen BK129.out 4) | ((with_reducible refine gate_store (t := 4) (p := 23) rfl ?_); refine store_event (t := 4) (p := 23) (v := ?vo_w24) (w1 := (w22.setCell ⟨gb129, 3, none⟩ (.bool false))) ?hg ?ho ?hn ?hr ?_; (case ho => rfl); (case hg => rfl); (case hn => rfl); (case hr => first | (go_simp; done) | (go_simp; rfl)); intro w24 hw; have n0_ : Aside0 (w24.heap[gb126]? = some (.cells #[.int .i64 a0_0, .int .i64 a0_1, .int .i64 a0_2, .bool a0_3, .bool a0_4] 72 (0, 0))) := ⟨(by rw [hw]; exact (uf_ BK126.out))⟩; have n1_ : Aside0 (w24.heap[gb127]? = some (.cells #[.int .i64 0, .int .i64 0, .int .i64 0, .bool false, .bool false] 72 (0, 0))) := ⟨(by rw [hw]; exact (uf_ BK127.out))⟩; have n2_ : Aside0 (w24.heap[gb129]? = some (.cells #[.int .i64 a0_0, .int .i64 t130, .int .i64 a2, .bool false, .bool a0_4] 72 (0, 0))) := ⟨(by rw [hw]; exact (by (with_reducible repeat first|apply bn_|apply bd_|apply ba_); refine blk_put (cs := #[.int .i64 a0_0, .int .i64 t130, .int .i64 a2, .bool a0_3, .bool a0_4]) ?_ 3 _ rfl; (with_reducible repeat first|apply bn_|apply bd_|apply ba_); exact BK129.out))⟩; have n3_ : Aside0 (Below w.heap.size w w24) := ⟨(by rw [hw]; exact (ue_ HB.out))⟩; clear hw BK126 BK127 BK129 HB; have BK126 := n0_; have BK127 := n1_; have BK129 := n2_; have HB := n3_; clear n0_ n1_ n2_ n3_; obtain ⟨hcz25_0, hcz25_1, hcz25_2, hcz25_3, hcz25_4⟩ := cb5_ BK129.out; obtain ⟨hfz25_0, hfz25_1, hfz25_2, hfz25_3, hfz25_4⟩ := bf5_ BK129.out; obtain ⟨hcz26_0, hcz26_1, hcz26_2, hcz26_3, hcz26_4⟩ := cb5_ BK127.out; obtain ⟨hfz26_0, hfz26_1, hfz26_2, hfz26_3⟩ := bf4_ BK127.out; have hfz26_4 := blk_frozen BK127.out 4) | ((with_reducible refine gate_store (t := 72) (p := 6) rfl ?_); refine store_event (t := 72) (p := 6) (v := ?vo_w27) (w1 := (((((w24.setCell ⟨gb127, 0, none⟩ (.int .i64 a0_0)).setCell ⟨gb127, 1, none⟩ (.int .i64 t130)).setCell ⟨gb127, 2, none⟩ (.int .i64 a2)).setCell ⟨gb127, 3, none⟩ (.bool false)).setCell ⟨gb127, 4, none⟩ (.bool a0_4))) ?hg ?ho ?hn ?hr ?_; (case ho => rfl); (case hg => rfl); (case hn => rfl); (case hr => first | (go_simp; done) | (go_simp; rfl)); intro w27 hw; have n0_ : Aside0 (w27.heap[gb126]? = some (.cells #[.int .i64 a0_0, .int .i64 a0_1, .int .i64 a0_2, .bool a0_3, .bool a0_4] 72 (0, 0))) := ⟨(by rw [hw]; exact (uf_ BK126.out))⟩; have n1_ : Aside0 (w27.heap[gb127]? = some (.cells #[.int .i64 a0_0, .int .i64 t130, .int .i64 a2, .bool false, .bool a0_4] 72 (0, 0))) := ⟨(by rw [hw]; exact (by (with_reducible repeat first|apply bn_|apply bd_|apply ba_); refine blk_put (cs := #[.int .i64 a0_0, .int .i64 t130, .int .i64 a2, .bool false, .bool false]) ?_ 4 _ rfl; refine blk_put (cs := #[.int .i64 a0_0, .int .i64 t130, .int .i64 a2, .bool false, .bool false]) ?_ 3 _ rfl; refine blk_put (cs := #[.int .i64 a0_0, .int .i64 t130, .int .i64 0, .bool false, .bool false]) ?_ 2 _ rfl; refine blk_put (cs := #[.int .i64 a0_0, .int .i64 0, .int .i64 0, .bool false, .bool false]) ?_ 1 _ rfl; refine blk_put (cs := #[.int .i64 0, .int .i64 0, .int .i64 0, .bool false, .bool false]) ?_ 0 _ rfl; (with_reducible repeat first|apply bn_|apply bd_|apply ba_); exact BK127.out))⟩; have n2_ : Aside0 (w27.heap[gb129]? = some (.cells #[.int .i64 a0_0, .int .i64 t130, .int .i64 a2, .bool false, .bool a0_4] 72 (0, 0))) := ⟨(by rw [hw]; exact (uf_ BK129.out))⟩; have n3_ : Aside0 (Below w.heap.size w w27) := ⟨(by rw [hw]; exact (ue_ HB.out))⟩; clear hw BK126 BK127 BK129 HB; have BK126 := n0_; have BK127 := n1_; have BK129 := n2_; have HB := n3_; clear n0_ n1_ n2_ n3_))
  refine bodyPost_ret (results_ct rfl _ _ gb127 72 #[.int .i64 a0_0, .int .i64 t130, .int .i64 a2, .bool false, .bool a0_4] (0, 0) _ rfl (ub_ BK127.out) Try.underlying72 rfl (by kernel_rfl)) rfl ?_
  exact ⟨ew_, ue_ HB.out⟩
 ·
  replace c5 := Bool.eq_false_iff.mpr c5
  subst c5
  have H1 : (some (a0_0, a0_1, a0_2, a0_3, a0_4, false)) = some (r1, r2, r3, r4, r5, r6) := by rw [if_neg (show ¬ (false = true) by decide)] at H; exact H
  clear H
  have H := H1
  clear H1
  simp only [Option.some.injEq, Prod.mk.injEq] at H
  obtain ⟨rfl, rfl, rfl, rfl, rfl, rfl⟩ := H
  go_enter Try.func132, Try.ntmps132
  go_wp2_with (first | ((with_reducible refine gate_dst (N := 3) rfl ?_); refine box_event ?hg (N := 3) ?hd (cs := #[.int .i64 a0_0, .int .i64 a0_1, .int .i64 a0_2, .bool a0_3, .bool a0_4]) (t := 72) ?hr ?_; (case hd => rfl); (case hg => rfl); (case hr => first | (go_simp; done) | (go_simp; rfl)); intro gb126 hg w28 hbox hb; have n0_ := am_ (below_step (ue_ HB.out) hb); have n1_ := am_ (hbox); have n2_ := am_ ((by rw [hg]; exact (below_size (ue_ HB.out)) : w.heap.size ≤ gb126)); have n3_ := am_ ((by rw [hg]; exact (below_size (ue_ HB.out)) : w.heap.size ≤ gb126)); clear HB; have HB := n0_; have BK126 := n1_; have GW126 := n2_; have GE126 := n3_; clear n0_ n1_ n2_ n3_; clear hb hbox hg) | ((with_reducible refine gate_dst (N := 6) rfl ?_); refine box_event ?hg (N := 6) ?hd (cs := #[.int .i64 0, .int .i64 0, .int .i64 0, .bool false, .bool false]) (t := 72) ?hr ?_; (case hd => rfl); (case hg => rfl); (case hr => first | (go_simp; done) | (go_simp; rfl)); intro gb127 hg w29 hbox hb; have n0_ := am_ (bb_ BK126.out hb); have n1_ := am_ (below_step (ue_ HB.out) hb); have n2_ := am_ (hbox); have n3_ := am_ ((by rw [hg]; exact (below_size (ue_ HB.out)) : w.heap.size ≤ gb127)); have n4_ := am_ ((by rw [hg]; exact (below_size (ue_ HB.out)) : w.heap.size ≤ gb127)); have n5_ := am_ ((by rw [hg]; exact Nat.ne_of_lt (bl_ BK126.out) : gb126 ≠ gb127)); have n6_ := am_ ((by rw [hg]; exact Nat.ne_of_gt (bl_ BK126.out) : gb127 ≠ gb126)); clear BK126 HB; have BK126 := n0_; have HB := n1_; have BK127 := n2_; have GW127 := n3_; have GE127 := n4_; have NB126_127 := n5_; have NB127_126 := n6_; clear n0_ n1_ n2_ n3_ n4_ n5_ n6_; clear hb hbox hg; have hnb30 := NB126_127.out; have hnc30 := NB127_126.out; obtain ⟨hcz31_0, hcz31_1, hcz31_2, hcz31_3, hcz31_4⟩ := cb5_ BK126.out; obtain ⟨hfz31_0, hfz31_1, hfz31_2, hfz31_3⟩ := bf4_ BK126.out; have hfz31_4 := blk_frozen BK126.out 4) | ((with_reducible refine gate_callee (f := 174) rfl ?_); refine goesL_ (some 12) rfl rfl Try.func174 (by kernel_rfl) rfl #[.agg #[.int .i64 a0_0, .int .i64 a0_1, .int .i64 a0_2, .bool a0_3, .bool a0_4], .int .i64 a1, .int .i64 a2] rfl ul_ ?_; (with_reducible refine (spec_l04Fine.calls a0_0 a0_1 a0_2 a0_3 a0_4 a1 a2 false _ A4.out).mono ?_); rintro e w32 ⟨rfl, hb⟩; refine ⟨_, rfl, ?_⟩; have n0_ := am_ (bb_ BK126.out hb); have n1_ := am_ (bb_ BK127.out hb); have n2_ := am_ (below_step (ue_ HB.out) hb); clear BK126 BK127 HB; have BK126 := n0_; have BK127 := n1_; have HB := n2_; clear n0_ n1_ n2_; (try clear hb); (try clear hb2); (try clear hk); (try clear hi); obtain ⟨hcz33_0, hcz33_1, hcz33_2, hcz33_3, hcz33_4⟩ := cb5_ BK126.out; obtain ⟨hfz33_0, hfz33_1, hfz33_2, hfz33_3, hfz33_4⟩ := bf5_ BK126.out; obtain ⟨hcz34_0, hcz34_1, hcz34_2, hcz34_3, hcz34_4⟩ := cb5_ BK127.out; obtain ⟨hfz34_0, hfz34_1, hfz34_2, hfz34_3⟩ := bf4_ BK127.out; have hfz34_4 := blk_frozen BK127.out 4) | ((with_reducible refine gate_store (t := 72) (p := 6) rfl ?_); refine store_event (t := 72) (p := 6) (v := ?vo_w35) (w1 := (((((w32.setCell ⟨gb127, 0, none⟩ (.int .i64 a0_0)).setCell ⟨gb127, 1, none⟩ (.int .i64 a0_1)).setCell ⟨gb127, 2, none⟩ (.int .i64 a0_2)).setCell ⟨gb127, 3, none⟩ (.bool a0_3)).setCell ⟨gb127, 4, none⟩ (.bool a0_4))) ?hg ?ho ?hn ?hr ?_; (case ho => rfl); (case hg => rfl); (case hn => rfl); (case hr => first | (go_simp; done) | (go_simp; rfl)); intro w35 hw; have n0_ : Aside0 (w35.heap[gb126]? = some (.cells #[.int .i64 a0_0, .int .i64 a0_1, .int .i64 a0_2, .bool a0_3, .bool a0_4] 72 (0, 0))) := ⟨(by rw [hw]; exact (uf_ BK126.out))⟩; have n1_ : Aside0 (w35.heap[gb127]? = some (.cells #[.int .i64 a0_0, .int .i64 a0_1, .int .i64 a0_2, .bool a0_3, .bool a0_4] 72 (0, 0))) := ⟨(by rw [hw]; exact (by (with_reducible repeat first|apply bn_|apply bd_|apply ba_); refine blk_put (cs := #[.int .i64 a0_0, .int .i64 a0_1, .int .i64 a0_2, .bool a0_3, .bool false]) ?_ 4 _ rfl; refine blk_put (cs := #[.int .i64 a0_0, .int .i64 a0_1, .int .i64 a0_2, .bool false, .bool false]) ?_ 3 _ rfl; refine blk_put (cs := #[.int .i64 a0_0, .int .i64 a0_1, .int .i64 0, .bool false, .bool false]) ?_ 2 _ rfl; refine blk_put (cs := #[.int .i64 a0_0, .int .i64 0, .int .i64 0, .bool false, .bool false]) ?_ 1 _ rfl; refine blk_put (cs := #[.int .i64 0, .int .i64 0, .int .i64 0, .bool false, .bool false]) ?_ 0 _ rfl; (with_reducible repeat first|apply bn_|apply bd_|apply ba_); exact BK127.out))⟩; have n2_ : Aside0 (Below w.heap.size w w35) := ⟨(by rw [hw]; exact (ue_ HB.out))⟩; clear hw BK126 BK127 HB; have BK126 := n0_; have BK127 := n1_; have HB := n2_; clear n0_ n1_ n2_))
  refine bodyPost_ret (results_ct rfl _ _ gb127 72 #[.int .i64 a0_0, .int .i64 a0_1, .int .i64 a0_2, .bool a0_3, .bool a0_4] (0, 0) _ rfl (ub_ BK127.out) Try.underlying72 rfl (by kernel_rfl)) rfl ?_
  exact ⟨ew_, ue_ HB.out⟩

/-! ### spec_AddTick: function 189 -/
def spec_AddTick.j0 : Nat → Int → Int → Bool → Option (Int)
 | 0, _, _, _ => none
 | k + 1, x0, x1, x12 => if x12 = true then (some (-1)) else (if (wrap64 (x0 + x1)) > 1000000000 then (some 1000000000) else (if (wrap64 (x0 + x1)) < 0 then (some 0) else (some (wrap64 (x0 + x1)))))
def spec_AddTick.f (k : Nat) (a0 : Int) (a1 : Int) : Option (Int) := (spec_TickOk.f a0).bind fun t131 => (if t131 = true then ((spec_l01In.f a1 (-1000000000) 1000000000).bind fun t132 => (spec_AddTick.j0 k a0 a1 (!t132))) else (spec_AddTick.j0 k a0 a1 true))
theorem spec_AddTick.mono_l : ∀ k, (∀ y0 y1 y2, LeO (spec_AddTick.j0 k y0 y1 y2) (spec_AddTick.j0 (k + 1) y0 y1 y2))
 | 0 => fun _ _ _ r h => by simp [spec_AddTick.j0] at h
 | k + 1 => by
  have ih0 := spec_AddTick.mono_l k
  ·
   intro y0 y1 y2
   unfold spec_AddTick.j0
   repeat' first
   | (with_reducible exact ih0 _ _ _)
   | (with_reducible exact LeO.refl _)
   | (with_reducible exact LeO.none _)
   | (with_reducible refine LeO.ite ?_ ?_)
   | (with_reducible refine LeO.bind ?_ (fun _ => ?_))
   | exact ih0 _ _ _
   | exact LeO.none _
   | refine LeO.ite ?_ ?_
   | refine LeO.bind ?_ (fun _ => ?_)
theorem spec_AddTick.mono : ∀ a0 a1 k, LeO (spec_AddTick.f k a0 a1) (spec_AddTick.f (k + 1) a0 a1) := by
 intro a0 a1 k
 have ih0 := spec_AddTick.mono_l k
 unfold spec_AddTick.f
 repeat' first
   | (with_reducible exact ih0 _ _ _)
   | (with_reducible exact LeO.refl _)
   | (with_reducible exact LeO.none _)
   | (with_reducible refine LeO.ite ?_ ?_)
   | (with_reducible refine LeO.bind ?_ (fun _ => ?_))
   | exact ih0 _ _ _
   | exact LeO.none _
   | refine LeO.ite ?_ ?_
   | refine LeO.bind ?_ (fun _ => ?_)
set_option maxHeartbeats 8000000 in
set_option maxRecDepth 100000 in
theorem spec_AddTick.calls (k : Nat) (a0 : Int) (a1 : Int) (r : Int) (w : World) (h : spec_AddTick.f k a0 a1 = some r) :
  Calls Try.prog 189 #[.int .i64 a0, .int .i64 a1] w fun e w' => e = .returned (.int .i64 r) ∧ Drawn0 w w' := by
 have H : ((spec_TickOk.f a0).bind fun t131 => (if t131 = true then ((spec_l01In.f a1 (-1000000000) 1000000000).bind fun t132 => (spec_AddTick.j0 k a0 a1 (!t132))) else (spec_AddTick.j0 k a0 a1 true))) = some r := h
 clear h
 have HC3 := Aside0.mk H
 clear H
 go_enter Try.func189, Try.ntmps189
 go_upto_region 1 with (fail)
 go_cut [12] (fun v12 wc => ∃ (kq : Nat) (x12_2 : Bool), v12 = .bool x12_2 ∧ Aside0 (spec_AddTick.j0 kq a0 a1 x12_2 = some r) ∧ Aside0 (kq ≤ k) ∧ Drawn0 w wc)
 case first =>
  have H := HC3.out
  clear HC3
  replace H := Option.bind_eq_some_iff.mp H
  obtain ⟨t131, A40, H⟩ := H
  replace H : (if t131 = true then ((spec_l01In.f a1 (-1000000000) 1000000000).bind fun t132 => (spec_AddTick.j0 k a0 a1 (!t132))) else (spec_AddTick.j0 k a0 a1 true)) = some r := H
  have A4 := Aside0.mk A40
  clear A40
  by_cases c5 : t131 = true
  ·
   subst c5
   have H1 : ((spec_l01In.f a1 (-1000000000) 1000000000).bind fun t132 => (spec_AddTick.j0 k a0 a1 (!t132))) = some r := by rw [if_pos rfl] at H; exact H
   clear H
   have H := H1
   clear H1
   replace H := Option.bind_eq_some_iff.mp H
   obtain ⟨t132, A60, H⟩ := H
   replace H : (spec_AddTick.j0 k a0 a1 (!t132)) = some r := H
   have A6 := Aside0.mk A60
   clear A60
   have H' := Aside0.mk H
   clear H
   go_wp2_with (first | ((with_reducible refine gate_callee (f := 173) rfl ?_); refine goesL_ (some 6) rfl rfl Try.func173 (by kernel_rfl) rfl #[.int .i64 a0] rfl ul_ ?_; (with_reducible refine (spec_TickOk.calls a0 true _ A4.out).mono ?_); rintro e w' ⟨rfl, ⟨nd, rfl⟩⟩; refine ⟨_, rfl, ?_⟩) | (go_at_call 111; (with_reducible refine (spec_l01In.calls a1 (-1000000000) 1000000000 t132 _ A6.out).mono ?_); rintro e w' ⟨rfl, ⟨nd, rfl⟩⟩))
   go_meet
   case rel => exact ⟨_, (!t132), (by first | rfl | (simp; done) | (simp [*]; done)), H', ⟨by first | omega | exact Nat.le_refl _⟩, by repeat (first | exact Drawn0.refl _ | apply Drawn0.step)⟩
  ·
   replace c5 := Bool.eq_false_iff.mpr c5
   subst c5
   have H1 : (spec_AddTick.j0 k a0 a1 true) = some r := by rw [if_neg (show ¬ (false = true) by decide)] at H; exact H
   clear H
   have H := H1
   clear H1
   have H' := Aside0.mk H
   clear H
   go_wp2_with (first | ((with_reducible refine gate_callee (f := 173) rfl ?_); refine goesL_ (some 6) rfl rfl Try.func173 (by kernel_rfl) rfl #[.int .i64 a0] rfl ul_ ?_; (with_reducible refine (spec_TickOk.calls a0 false _ A4.out).mono ?_); rintro e w' ⟨rfl, ⟨nd, rfl⟩⟩; refine ⟨_, rfl, ?_⟩))
   go_meet
   case rel => exact ⟨_, (true), (by first | rfl | (simp; done) | (simp [*]; done)), H', ⟨by first | omega | exact Nat.le_refl _⟩, by repeat (first | exact Drawn0.refl _ | apply Drawn0.step)⟩
 case rest =>
  clear HC3
  try clear c1
  try clear p2
  try clear c5
  obtain ⟨kq, x12_2, rfl, HA, HJ2, ⟨mc2, rfl⟩⟩ := hcut
  cases kq with
  | zero => exact absurd HA.out (by simp [spec_AddTick.j0])
  | succ kj2 =>
   have H := HA.out
   clear HA
   simp only [spec_AddTick.j0] at H
   by_cases c7 : x12_2 = true
   ·
    subst c7
    have H1 : (some (-1)) = some r := by rw [if_pos rfl] at H; exact H
    clear H
    have H := H1
    clear H1
    obtain rfl := Option.some.inj H
    go_wp2
    go_ret
    exact ⟨by first | rfl | (simp; done) | (simp [*]; done), by repeat (first | exact Drawn0.refl _ | apply Drawn0.step)⟩
   ·
    replace c7 := Bool.eq_false_iff.mpr c7
    subst c7
    have H1 : (if (wrap64 (a0 + a1)) > 1000000000 then (some 1000000000) else (if (wrap64 (a0 + a1)) < 0 then (some 0) else (some (wrap64 (a0 + a1))))) = some r := by rw [if_neg (show ¬ (false = true) by decide)] at H; exact H
    clear H
    have H := H1
    clear H1
    by_cases c8 : (wrap64 (a0 + a1)) > 1000000000
    ·
     rw [if_pos c8] at H
     have c8b0 : decide (1000000000 < (wrap64 (a0 + a1))) = true := decide_eq_true c8
     clear c8
     obtain rfl := Option.some.inj H
     go_wp2
     go_ret
     exact ⟨by first | rfl | (simp; done) | (simp [*]; done), by repeat (first | exact Drawn0.refl _ | apply Drawn0.step)⟩
    ·
     rw [if_neg c8] at H
     have c8b0 : decide (1000000000 < (wrap64 (a0 + a1))) = false := decide_eq_false c8
     clear c8
     by_cases c9 : (wrap64 (a0 + a1)) < 0
     ·
      rw [if_pos c9] at H
      have c9b0 : decide ((wrap64 (a0 + a1)) < 0) = true := decide_eq_true c9
      clear c9
      obtain rfl := Option.some.inj H
      go_wp2
      go_ret
      exact ⟨by first | rfl | (simp; done) | (simp [*]; done), by repeat (first | exact Drawn0.refl _ | apply Drawn0.step)⟩
     ·
      rw [if_neg c9] at H
      have c9b0 : decide ((wrap64 (a0 + a1)) < 0) = false := decide_eq_false c9
      clear c9
      obtain rfl := Option.some.inj H
      go_wp2
      go_ret
      exact ⟨by first | rfl | (simp; done) | (simp [*]; done), by repeat (first | exact Drawn0.refl _ | apply Drawn0.step)⟩

/-! ### spec_DueAt: function 176 -/
def spec_DueAt.f (k : Nat) (a0 : Int) (a1 : Int) (a2 : Int) : Option (Bool) := (spec_TickOk.f a0).bind fun t133 => (if t133 = true then ((spec_TickOk.f a1).bind fun t134 => (if t134 = true then ((spec_TickOk.f a2).bind fun t135 => (if t135 = true then (if a1 > 0 then ((spec_AddTick.f k a0 a1).bind fun t136 => (some (decide (t136 ≤ a2)))) else (some false)) else (some false))) else (some false))) else (some false))
theorem spec_DueAt.mono : ∀ a0 a1 a2 k, LeO (spec_DueAt.f k a0 a1 a2) (spec_DueAt.f (k + 1) a0 a1 a2) := by
 intro a0 a1 a2 k
 unfold spec_DueAt.f
 repeat' first
   | (with_reducible exact spec_AddTick.mono _ _ _)
   | (with_reducible exact LeO.refl _)
   | (with_reducible exact LeO.none _)
   | (with_reducible refine LeO.ite ?_ ?_)
   | (with_reducible refine LeO.bind ?_ (fun _ => ?_))
   | exact spec_AddTick.mono _ _ _
   | exact LeO.none _
   | refine LeO.ite ?_ ?_
   | refine LeO.bind ?_ (fun _ => ?_)
set_option maxHeartbeats 8000000 in
set_option maxRecDepth 100000 in
theorem spec_DueAt.calls (k : Nat) (a0 : Int) (a1 : Int) (a2 : Int) (r : Bool) (w : World) (h : spec_DueAt.f k a0 a1 a2 = some r) :
  Calls Try.prog 176 #[.int .i64 a0, .int .i64 a1, .int .i64 a2] w fun e w' => e = .returned (.bool r) ∧ Drawn0 w w' := by
 have H : ((spec_TickOk.f a0).bind fun t133 => (if t133 = true then ((spec_TickOk.f a1).bind fun t134 => (if t134 = true then ((spec_TickOk.f a2).bind fun t135 => (if t135 = true then (if a1 > 0 then ((spec_AddTick.f k a0 a1).bind fun t136 => (some (decide (t136 ≤ a2)))) else (some false)) else (some false))) else (some false))) else (some false))) = some r := h
 clear h
 replace H := Option.bind_eq_some_iff.mp H
 obtain ⟨t133, A40, H⟩ := H
 replace H : (if t133 = true then ((spec_TickOk.f a1).bind fun t134 => (if t134 = true then ((spec_TickOk.f a2).bind fun t135 => (if t135 = true then (if a1 > 0 then ((spec_AddTick.f k a0 a1).bind fun t136 => (some (decide (t136 ≤ a2)))) else (some false)) else (some false))) else (some false))) else (some false)) = some r := H
 have A4 := Aside0.mk A40
 clear A40
 by_cases c5 : t133 = true
 ·
  subst c5
  have H1 : ((spec_TickOk.f a1).bind fun t134 => (if t134 = true then ((spec_TickOk.f a2).bind fun t135 => (if t135 = true then (if a1 > 0 then ((spec_AddTick.f k a0 a1).bind fun t136 => (some (decide (t136 ≤ a2)))) else (some false)) else (some false))) else (some false))) = some r := by rw [if_pos rfl] at H; exact H
  clear H
  have H := H1
  clear H1
  replace H := Option.bind_eq_some_iff.mp H
  obtain ⟨t134, A60, H⟩ := H
  replace H : (if t134 = true then ((spec_TickOk.f a2).bind fun t135 => (if t135 = true then (if a1 > 0 then ((spec_AddTick.f k a0 a1).bind fun t136 => (some (decide (t136 ≤ a2)))) else (some false)) else (some false))) else (some false)) = some r := H
  have A6 := Aside0.mk A60
  clear A60
  by_cases c7 : t134 = true
  ·
   subst c7
   have H1 : ((spec_TickOk.f a2).bind fun t135 => (if t135 = true then (if a1 > 0 then ((spec_AddTick.f k a0 a1).bind fun t136 => (some (decide (t136 ≤ a2)))) else (some false)) else (some false))) = some r := by rw [if_pos rfl] at H; exact H
   clear H
   have H := H1
   clear H1
   replace H := Option.bind_eq_some_iff.mp H
   obtain ⟨t135, A80, H⟩ := H
   replace H : (if t135 = true then (if a1 > 0 then ((spec_AddTick.f k a0 a1).bind fun t136 => (some (decide (t136 ≤ a2)))) else (some false)) else (some false)) = some r := H
   have A8 := Aside0.mk A80
   clear A80
   by_cases c9 : t135 = true
   ·
    subst c9
    have H1 : (if a1 > 0 then ((spec_AddTick.f k a0 a1).bind fun t136 => (some (decide (t136 ≤ a2)))) else (some false)) = some r := by rw [if_pos rfl] at H; exact H
    clear H
    have H := H1
    clear H1
    by_cases c10 : a1 > 0
    ·
     rw [if_pos c10] at H
     have c10b0 : decide (0 < a1) = true := decide_eq_true c10
     clear c10
     replace H := Option.bind_eq_some_iff.mp H
     obtain ⟨t136, A110, H⟩ := H
     replace H : (some (decide (t136 ≤ a2))) = some r := H
     have A11 := Aside0.mk A110
     clear A110
     obtain rfl := Option.some.inj H
     go_enter Try.func176, Try.ntmps176
     go_wp2_with (first | ((with_reducible refine gate_callee (f := 173) rfl ?_); refine goesL_ (some 8) rfl rfl Try.func173 (by kernel_rfl) rfl #[.int .i64 a0] rfl ul_ ?_; (with_reducible refine (spec_TickOk.calls a0 true _ A4.out).mono ?_); rintro e w' ⟨rfl, ⟨nd, rfl⟩⟩; refine ⟨_, rfl, ?_⟩) | (go_at_call 173; (with_reducible refine (spec_TickOk.calls a1 true _ A6.out).mono ?_); rintro e w' ⟨rfl, ⟨nd, rfl⟩⟩) | (go_at_call 173; (with_reducible refine (spec_TickOk.calls a2 true _ A8.out).mono ?_); rintro e w' ⟨rfl, ⟨nd, rfl⟩⟩) | (go_at_call 189; (with_reducible refine (spec_AddTick.calls k a0 a1 t136 _ A11.out).mono ?_); rintro e w' ⟨rfl, ⟨nd, rfl⟩⟩))
     go_ret
     exact ⟨by first | rfl | (simp; done) | (simp [*]; done), by repeat (first | exact Drawn0.refl _ | apply Drawn0.step)⟩
    ·
     rw [if_neg c10] at H
     have c10b0 : decide (0 < a1) = false := decide_eq_false c10
     clear c10
     obtain rfl := Option.some.inj H
     go_enter Try.func176, Try.ntmps176
     go_wp2_with (first | ((with_reducible refine gate_callee (f := 173) rfl ?_); refine goesL_ (some 8) rfl rfl Try.func173 (by kernel_rfl) rfl #[.int .i64 a0] rfl ul_ ?_; (with_reducible refine (spec_TickOk.calls a0 true _ A4.out).mono ?_); rintro e w' ⟨rfl, ⟨nd, rfl⟩⟩; refine ⟨_, rfl, ?_⟩) | (go_at_call 173; (with_reducible refine (spec_TickOk.calls a1 true _ A6.out).mono ?_); rintro e w' ⟨rfl, ⟨nd, rfl⟩⟩) | (go_at_call 173; (with_reducible refine (spec_TickOk.calls a2 true _ A8.out).mono ?_); rintro e w' ⟨rfl, ⟨nd, rfl⟩⟩))
     go_ret
     exact ⟨by first | rfl | (simp; done) | (simp [*]; done), by repeat (first | exact Drawn0.refl _ | apply Drawn0.step)⟩
   ·
    replace c9 := Bool.eq_false_iff.mpr c9
    subst c9
    have H1 : (some false) = some r := by rw [if_neg (show ¬ (false = true) by decide)] at H; exact H
    clear H
    have H := H1
    clear H1
    obtain rfl := Option.some.inj H
    go_enter Try.func176, Try.ntmps176
    go_wp2_with (first | ((with_reducible refine gate_callee (f := 173) rfl ?_); refine goesL_ (some 8) rfl rfl Try.func173 (by kernel_rfl) rfl #[.int .i64 a0] rfl ul_ ?_; (with_reducible refine (spec_TickOk.calls a0 true _ A4.out).mono ?_); rintro e w' ⟨rfl, ⟨nd, rfl⟩⟩; refine ⟨_, rfl, ?_⟩) | (go_at_call 173; (with_reducible refine (spec_TickOk.calls a1 true _ A6.out).mono ?_); rintro e w' ⟨rfl, ⟨nd, rfl⟩⟩) | (go_at_call 173; (with_reducible refine (spec_TickOk.calls a2 false _ A8.out).mono ?_); rintro e w' ⟨rfl, ⟨nd, rfl⟩⟩))
    go_ret
    exact ⟨by first | rfl | (simp; done) | (simp [*]; done), by repeat (first | exact Drawn0.refl _ | apply Drawn0.step)⟩
  ·
   replace c7 := Bool.eq_false_iff.mpr c7
   subst c7
   have H1 : (some false) = some r := by rw [if_neg (show ¬ (false = true) by decide)] at H; exact H
   clear H
   have H := H1
   clear H1
   obtain rfl := Option.some.inj H
   go_enter Try.func176, Try.ntmps176
   go_wp2_with (first | ((with_reducible refine gate_callee (f := 173) rfl ?_); refine goesL_ (some 8) rfl rfl Try.func173 (by kernel_rfl) rfl #[.int .i64 a0] rfl ul_ ?_; (with_reducible refine (spec_TickOk.calls a0 true _ A4.out).mono ?_); rintro e w' ⟨rfl, ⟨nd, rfl⟩⟩; refine ⟨_, rfl, ?_⟩) | (go_at_call 173; (with_reducible refine (spec_TickOk.calls a1 false _ A6.out).mono ?_); rintro e w' ⟨rfl, ⟨nd, rfl⟩⟩))
   go_ret
   exact ⟨by first | rfl | (simp; done) | (simp [*]; done), by repeat (first | exact Drawn0.refl _ | apply Drawn0.step)⟩
 ·
  replace c5 := Bool.eq_false_iff.mpr c5
  subst c5
  have H1 : (some false) = some r := by rw [if_neg (show ¬ (false = true) by decide)] at H; exact H
  clear H
  have H := H1
  clear H1
  obtain rfl := Option.some.inj H
  go_enter Try.func176, Try.ntmps176
  go_wp2_with (first | ((with_reducible refine gate_callee (f := 173) rfl ?_); refine goesL_ (some 8) rfl rfl Try.func173 (by kernel_rfl) rfl #[.int .i64 a0] rfl ul_ ?_; (with_reducible refine (spec_TickOk.calls a0 false _ A4.out).mono ?_); rintro e w' ⟨rfl, ⟨nd, rfl⟩⟩; refine ⟨_, rfl, ?_⟩))
  go_ret
  exact ⟨by first | rfl | (simp; done) | (simp [*]; done), by repeat (first | exact Drawn0.refl _ | apply Drawn0.step)⟩

/-! ### spec_SeeTick: function 133 -/
def spec_SeeTick.j0 : Nat → Int → Int → Bool → Int → Int → Int → Bool → Bool → Option (Int × Int × Int × Bool × Bool × Bool)
 | 0, _, _, _, _, _, _, _, _ => none
 | k + 1, x1, x2, x21, x138000, x138001, x138002, x138003, x138004 => if x21 = true then (some (x138000, x138001, x138002, x138003, x138004, false)) else (if x138004 = true then (if x138003 = true then (some (x138000, x138001, x138002, x138003, x138004, false)) else ((spec_DueAt.f k x138002 x1 x2).bind fun t143 => (if t143 = true then (some (x138000, x138001, x138002, true, x138004, true)) else (some (x138000, x138001, x138002, x138003, x138004, false))))) else (some (x138000, x138001, x138002, x138003, x138004, false)))
def spec_SeeTick.f (k : Nat) (a0_0 : Int) (a0_1 : Int) (a0_2 : Int) (a0_3 : Bool) (a0_4 : Bool) (a1 : Int) (a2 : Int) : Option (Int × Int × Int × Bool × Bool × Bool) := (spec_SourceOk.f a0_0 a0_1 a0_2 a0_3 a0_4).bind fun t139 => (if t139 = true then ((spec_TickOk.f a1).bind fun t140 => (if t140 = true then ((spec_TickOk.f a2).bind fun t141 => (spec_SeeTick.j0 k a1 a2 (!t141) a0_0 a0_1 a0_2 a0_3 a0_4)) else (spec_SeeTick.j0 k a1 a2 true a0_0 a0_1 a0_2 a0_3 a0_4))) else (spec_SeeTick.j0 k a1 a2 true a0_0 a0_1 a0_2 a0_3 a0_4))
theorem spec_SeeTick.mono_l : ∀ k, (∀ y0 y1 y2 y3 y4 y5 y6 y7, LeO (spec_SeeTick.j0 k y0 y1 y2 y3 y4 y5 y6 y7) (spec_SeeTick.j0 (k + 1) y0 y1 y2 y3 y4 y5 y6 y7))
 | 0 => fun _ _ _ _ _ _ _ _ r h => by simp [spec_SeeTick.j0] at h
 | k + 1 => by
  have ih0 := spec_SeeTick.mono_l k
  ·
   intro y0 y1 y2 y3 y4 y5 y6 y7
   unfold spec_SeeTick.j0
   repeat' first
   | (with_reducible exact ih0 _ _ _ _ _ _ _ _)
   | (with_reducible exact spec_DueAt.mono _ _ _ _)
   | (with_reducible exact LeO.refl _)
   | (with_reducible exact LeO.none _)
   | (with_reducible refine LeO.ite ?_ ?_)
   | (with_reducible refine LeO.bind ?_ (fun _ => ?_))
   | exact ih0 _ _ _ _ _ _ _ _
   | exact spec_DueAt.mono _ _ _ _
   | exact LeO.none _
   | refine LeO.ite ?_ ?_
   | refine LeO.bind ?_ (fun _ => ?_)
theorem spec_SeeTick.mono : ∀ a0 a1 a2 a3 a4 a5 a6 k, LeO (spec_SeeTick.f k a0 a1 a2 a3 a4 a5 a6) (spec_SeeTick.f (k + 1) a0 a1 a2 a3 a4 a5 a6) := by
 intro a0 a1 a2 a3 a4 a5 a6 k
 have ih0 := spec_SeeTick.mono_l k
 unfold spec_SeeTick.f
 repeat' first
   | (with_reducible exact ih0 _ _ _ _ _ _ _ _)
   | (with_reducible exact spec_DueAt.mono _ _ _ _)
   | (with_reducible exact LeO.refl _)
   | (with_reducible exact LeO.none _)
   | (with_reducible refine LeO.ite ?_ ?_)
   | (with_reducible refine LeO.bind ?_ (fun _ => ?_))
   | exact ih0 _ _ _ _ _ _ _ _
   | exact spec_DueAt.mono _ _ _ _
   | exact LeO.none _
   | refine LeO.ite ?_ ?_
   | refine LeO.bind ?_ (fun _ => ?_)
set_option maxHeartbeats 8000000 in
set_option maxRecDepth 100000 in
theorem spec_SeeTick.calls (k : Nat) (a0_0 : Int) (a0_1 : Int) (a0_2 : Int) (a0_3 : Bool) (a0_4 : Bool) (a1 : Int) (a2 : Int) (r1 : Int) (r2 : Int) (r3 : Int) (r4 : Bool) (r5 : Bool) (r6 : Bool) (w : World) (h : spec_SeeTick.f k a0_0 a0_1 a0_2 a0_3 a0_4 a1 a2 = some (r1, r2, r3, r4, r5, r6)) :
  Calls Try.prog 133 #[.agg #[.int .i64 a0_0, .int .i64 a0_1, .int .i64 a0_2, .bool a0_3, .bool a0_4], .int .i64 a1, .int .i64 a2] w fun e w' => e = .returned (.tuple #[.agg #[.int .i64 r1, .int .i64 r2, .int .i64 r3, .bool r4, .bool r5], .bool r6]) ∧ Below w.heap.size w w' := by
 have hu72 := Try.underlying72
 have HB := am_ (Below.refl w.heap.size w)
 have H : ((spec_SourceOk.f a0_0 a0_1 a0_2 a0_3 a0_4).bind fun t139 => (if t139 = true then ((spec_TickOk.f a1).bind fun t140 => (if t140 = true then ((spec_TickOk.f a2).bind fun t141 => (spec_SeeTick.j0 k a1 a2 (!t141) a0_0 a0_1 a0_2 a0_3 a0_4)) else (spec_SeeTick.j0 k a1 a2 true a0_0 a0_1 a0_2 a0_3 a0_4))) else (spec_SeeTick.j0 k a1 a2 true a0_0 a0_1 a0_2 a0_3 a0_4))) = some (r1, r2, r3, r4, r5, r6) := h
 clear h
 have HC4 := Aside0.mk H
 clear H
 go_enter Try.func133, Try.ntmps133
 go_upto_region 1 with (first | ((with_reducible refine gate_dst (N := 3) rfl ?_); refine box_event ?hg (N := 3) ?hd (cs := #[.int .i64 a0_0, .int .i64 a0_1, .int .i64 a0_2, .bool a0_3, .bool a0_4]) (t := 72) ?hr ?_; (case hd => rfl); (case hg => rfl); (case hr => first | (go_simp; done) | (go_simp; rfl)); intro gb137 hg w5 hbox hb; have n0_ := am_ (below_step (ue_ HB.out) hb); have n1_ := am_ (hbox); have n2_ := am_ ((by rw [hg]; exact (below_size (ue_ HB.out)) : w.heap.size ≤ gb137)); have n3_ := am_ ((by rw [hg]; exact (below_size (ue_ HB.out)) : w.heap.size ≤ gb137)); clear HB; have HB := n0_; have BK137 := n1_; have GW137 := n2_; have GE137 := n3_; clear n0_ n1_ n2_ n3_; clear hb hbox hg) | ((with_reducible refine gate_dst (N := 6) rfl ?_); refine box_event ?hg (N := 6) ?hd (cs := #[.int .i64 0, .int .i64 0, .int .i64 0, .bool false, .bool false]) (t := 72) ?hr ?_; (case hd => rfl); (case hg => rfl); (case hr => first | (go_simp; done) | (go_simp; rfl)); intro gb138 hg w6 hbox hb; have n0_ := am_ (bb_ BK137.out hb); have n1_ := am_ (below_step (ue_ HB.out) hb); have n2_ := am_ (hbox); have n3_ := am_ ((by rw [hg]; exact (below_size (ue_ HB.out)) : w.heap.size ≤ gb138)); have n4_ := am_ ((by rw [hg]; exact (below_size (ue_ HB.out)) : w.heap.size ≤ gb138)); have n5_ := am_ ((by rw [hg]; exact Nat.ne_of_lt (bl_ BK137.out) : gb137 ≠ gb138)); have n6_ := am_ ((by rw [hg]; exact Nat.ne_of_gt (bl_ BK137.out) : gb138 ≠ gb137)); clear BK137 HB; have BK137 := n0_; have HB := n1_; have BK138 := n2_; have GW138 := n3_; have GE138 := n4_; have NB137_138 := n5_; have NB138_137 := n6_; clear n0_ n1_ n2_ n3_ n4_ n5_ n6_; clear hb hbox hg))
 (try simp only [Act.put, List.setIfInBounds_toArray, List.set_cons_zero, List.set_cons_succ])
 go_cut [21] (fun v21 wc => ∃ (kq : Nat) (x21_3 : Bool), v21 = .bool x21_3 ∧ Aside0 (spec_SeeTick.j0 kq a1 a2 x21_3 a0_0 a0_1 a0_2 a0_3 a0_4 = some (r1, r2, r3, r4, r5, r6)) ∧ Aside0 (kq ≤ k) ∧ Aside0 (wc.heap[gb137]? = some (.cells #[.int .i64 a0_0, .int .i64 a0_1, .int .i64 a0_2, .bool a0_3, .bool a0_4] 72 (0, 0))) ∧ Aside0 (wc.heap[gb138]? = some (.cells #[.int .i64 0, .int .i64 0, .int .i64 0, .bool false, .bool false] 72 (0, 0))) ∧ Aside0 (Below w.heap.size w wc))
 case first =>
  have H := HC4.out
  clear HC4
  replace H := Option.bind_eq_some_iff.mp H
  obtain ⟨t139, A70, H⟩ := H
  replace H : (if t139 = true then ((spec_TickOk.f a1).bind fun t140 => (if t140 = true then ((spec_TickOk.f a2).bind fun t141 => (spec_SeeTick.j0 k a1 a2 (!t141) a0_0 a0_1 a0_2 a0_3 a0_4)) else (spec_SeeTick.j0 k a1 a2 true a0_0 a0_1 a0_2 a0_3 a0_4))) else (spec_SeeTick.j0 k a1 a2 true a0_0 a0_1 a0_2 a0_3 a0_4)) = some (r1, r2, r3, r4, r5, r6) := H
  have A7 := Aside0.mk A70
  clear A70
  by_cases c8 : t139 = true
  ·
   subst c8
   have H1 : ((spec_TickOk.f a1).bind fun t140 => (if t140 = true then ((spec_TickOk.f a2).bind fun t141 => (spec_SeeTick.j0 k a1 a2 (!t141) a0_0 a0_1 a0_2 a0_3 a0_4)) else (spec_SeeTick.j0 k a1 a2 true a0_0 a0_1 a0_2 a0_3 a0_4))) = some (r1, r2, r3, r4, r5, r6) := by rw [if_pos rfl] at H; exact H
   clear H
   have H := H1
   clear H1
   replace H := Option.bind_eq_some_iff.mp H
   obtain ⟨t140, A90, H⟩ := H
   replace H : (if t140 = true then ((spec_TickOk.f a2).bind fun t141 => (spec_SeeTick.j0 k a1 a2 (!t141) a0_0 a0_1 a0_2 a0_3 a0_4)) else (spec_SeeTick.j0 k a1 a2 true a0_0 a0_1 a0_2 a0_3 a0_4)) = some (r1, r2, r3, r4, r5, r6) := H
   have A9 := Aside0.mk A90
   clear A90
   by_cases c10 : t140 = true
   ·
    subst c10
    have H1 : ((spec_TickOk.f a2).bind fun t141 => (spec_SeeTick.j0 k a1 a2 (!t141) a0_0 a0_1 a0_2 a0_3 a0_4)) = some (r1, r2, r3, r4, r5, r6) := by rw [if_pos rfl] at H; exact H
    clear H
    have H := H1
    clear H1
    replace H := Option.bind_eq_some_iff.mp H
    obtain ⟨t141, A110, H⟩ := H
    replace H : (spec_SeeTick.j0 k a1 a2 (!t141) a0_0 a0_1 a0_2 a0_3 a0_4) = some (r1, r2, r3, r4, r5, r6) := H
    have A11 := Aside0.mk A110
    clear A110
    have H' := Aside0.mk H
    clear H
    have hnb12 := NB137_138.out
    have hnc12 := NB138_137.out
    have hcz13_0 := cb_ BK137.out 0 rfl
    have hcz13_1 := cb_ BK137.out 1 rfl
    have hcz13_2 := cb_ BK137.out 2 rfl
    have hcz13_3 := cb_ BK137.out 3 rfl
    have hcz13_4 := cb_ BK137.out 4 rfl
    have hfz13_0 := blk_frozen BK137.out 0
    have hfz13_1 := blk_frozen BK137.out 1
    have hfz13_2 := blk_frozen BK137.out 2
    have hfz13_3 := blk_frozen BK137.out 3
    have hfz13_4 := blk_frozen BK137.out 4
    go_wp2_with (first | ((with_reducible refine gate_callee (f := 147) rfl ?_); refine goesL_ (some 10) rfl rfl Try.func147 (by kernel_rfl) rfl #[.agg #[.int .i64 a0_0, .int .i64 a0_1, .int .i64 a0_2, .bool a0_3, .bool a0_4]] rfl ul_ ?_; (with_reducible refine (spec_SourceOk.calls a0_0 a0_1 a0_2 a0_3 a0_4 true _ A7.out).mono ?_); rintro e w14 ⟨rfl, hb⟩; refine ⟨_, rfl, ?_⟩; have n0_ := am_ (bb_ BK137.out hb); have n1_ := am_ (bb_ BK138.out hb); have n2_ := am_ (below_step (ue_ HB.out) hb); clear BK137 BK138 HB; have BK137 := n0_; have BK138 := n1_; have HB := n2_; clear n0_ n1_ n2_; (try clear hb); (try clear hb2); (try clear hk); (try clear hi)) | (go_at_call 173; (with_reducible refine (spec_TickOk.calls a1 true _ A9.out).mono ?_); rintro e w' ⟨rfl, ⟨nd, rfl⟩⟩) | (go_at_call 173; (with_reducible refine (spec_TickOk.calls a2 t141 _ A11.out).mono ?_); rintro e w' ⟨rfl, ⟨nd, rfl⟩⟩))
    go_meet
    case rel => exact ⟨_, (!t141), (by first | rfl | (simp; done) | (simp [*]; done)), H', ⟨by first | omega | exact Nat.le_refl _⟩, ⟨by (with_reducible repeat first|apply bn_|apply bd_|apply ba_); exact BK137.out⟩, ⟨by (with_reducible repeat first|apply bn_|apply bd_|apply ba_); exact BK138.out⟩, ⟨ue_ HB.out⟩⟩
   ·
    replace c10 := Bool.eq_false_iff.mpr c10
    subst c10
    have H1 : (spec_SeeTick.j0 k a1 a2 true a0_0 a0_1 a0_2 a0_3 a0_4) = some (r1, r2, r3, r4, r5, r6) := by rw [if_neg (show ¬ (false = true) by decide)] at H; exact H
    clear H
    have H := H1
    clear H1
    have H' := Aside0.mk H
    clear H
    have hnb15 := NB137_138.out
    have hnc15 := NB138_137.out
    have hcz16_0 := cb_ BK137.out 0 rfl
    have hcz16_1 := cb_ BK137.out 1 rfl
    have hcz16_2 := cb_ BK137.out 2 rfl
    have hcz16_3 := cb_ BK137.out 3 rfl
    have hcz16_4 := cb_ BK137.out 4 rfl
    have hfz16_0 := blk_frozen BK137.out 0
    have hfz16_1 := blk_frozen BK137.out 1
    have hfz16_2 := blk_frozen BK137.out 2
    have hfz16_3 := blk_frozen BK137.out 3
    have hfz16_4 := blk_frozen BK137.out 4
    go_wp2_with (first | ((with_reducible refine gate_callee (f := 147) rfl ?_); refine goesL_ (some 10) rfl rfl Try.func147 (by kernel_rfl) rfl #[.agg #[.int .i64 a0_0, .int .i64 a0_1, .int .i64 a0_2, .bool a0_3, .bool a0_4]] rfl ul_ ?_; (with_reducible refine (spec_SourceOk.calls a0_0 a0_1 a0_2 a0_3 a0_4 true _ A7.out).mono ?_); rintro e w17 ⟨rfl, hb⟩; refine ⟨_, rfl, ?_⟩; have n0_ := am_ (bb_ BK137.out hb); have n1_ := am_ (bb_ BK138.out hb); have n2_ := am_ (below_step (ue_ HB.out) hb); clear BK137 BK138 HB; have BK137 := n0_; have BK138 := n1_; have HB := n2_; clear n0_ n1_ n2_; (try clear hb); (try clear hb2); (try clear hk); (try clear hi)) | (go_at_call 173; (with_reducible refine (spec_TickOk.calls a1 false _ A9.out).mono ?_); rintro e w' ⟨rfl, ⟨nd, rfl⟩⟩))
    go_meet
    case rel => exact ⟨_, (true), (by first | rfl | (simp; done) | (simp [*]; done)), H', ⟨by first | omega | exact Nat.le_refl _⟩, ⟨by (with_reducible repeat first|apply bn_|apply bd_|apply ba_); exact BK137.out⟩, ⟨by (with_reducible repeat first|apply bn_|apply bd_|apply ba_); exact BK138.out⟩, ⟨ue_ HB.out⟩⟩
  ·
   replace c8 := Bool.eq_false_iff.mpr c8
   subst c8
   have H1 : (spec_SeeTick.j0 k a1 a2 true a0_0 a0_1 a0_2 a0_3 a0_4) = some (r1, r2, r3, r4, r5, r6) := by rw [if_neg (show ¬ (false = true) by decide)] at H; exact H
   clear H
   have H := H1
   clear H1
   have H' := Aside0.mk H
   clear H
   have hnb18 := NB137_138.out
   have hnc18 := NB138_137.out
   have hcz19_0 := cb_ BK137.out 0 rfl
   have hcz19_1 := cb_ BK137.out 1 rfl
   have hcz19_2 := cb_ BK137.out 2 rfl
   have hcz19_3 := cb_ BK137.out 3 rfl
   have hcz19_4 := cb_ BK137.out 4 rfl
   have hfz19_0 := blk_frozen BK137.out 0
   have hfz19_1 := blk_frozen BK137.out 1
   have hfz19_2 := blk_frozen BK137.out 2
   have hfz19_3 := blk_frozen BK137.out 3
   have hfz19_4 := blk_frozen BK137.out 4
   go_wp2_with (first | ((with_reducible refine gate_callee (f := 147) rfl ?_); refine goesL_ (some 10) rfl rfl Try.func147 (by kernel_rfl) rfl #[.agg #[.int .i64 a0_0, .int .i64 a0_1, .int .i64 a0_2, .bool a0_3, .bool a0_4]] rfl ul_ ?_; (with_reducible refine (spec_SourceOk.calls a0_0 a0_1 a0_2 a0_3 a0_4 false _ A7.out).mono ?_); rintro e w20 ⟨rfl, hb⟩; refine ⟨_, rfl, ?_⟩; have n0_ := am_ (bb_ BK137.out hb); have n1_ := am_ (bb_ BK138.out hb); have n2_ := am_ (below_step (ue_ HB.out) hb); clear BK137 BK138 HB; have BK137 := n0_; have BK138 := n1_; have HB := n2_; clear n0_ n1_ n2_; (try clear hb); (try clear hb2); (try clear hk); (try clear hi)))
   go_meet
   case rel => exact ⟨_, (true), (by first | rfl | (simp; done) | (simp [*]; done)), H', ⟨by first | omega | exact Nat.le_refl _⟩, ⟨by (with_reducible repeat first|apply bn_|apply bd_|apply ba_); exact BK137.out⟩, ⟨by (with_reducible repeat first|apply bn_|apply bd_|apply ba_); exact BK138.out⟩, ⟨ue_ HB.out⟩⟩
 case rest =>
  clear HC4
  try clear c1
  try clear p2
  try clear c8
  try clear c10
  try clear c12
  try clear c13
  try clear c14
  try clear c15
  try clear c18
  try clear hcz13_0
  try clear hcz13_1
  try clear hcz13_2
  try clear hcz13_3
  try clear hcz13_4
  try clear hcz16_0
  try clear hcz16_1
  try clear hcz16_2
  try clear hcz16_3
  try clear hcz16_4
  try clear hcz19_0
  try clear hcz19_1
  try clear hcz19_2
  try clear hcz19_3
  try clear hcz19_4
  try clear hfz13_0
  try clear hfz13_1
  try clear hfz13_2
  try clear hfz13_3
  try clear hfz13_4
  try clear hfz16_0
  try clear hfz16_1
  try clear hfz16_2
  try clear hfz16_3
  try clear hfz16_4
  try clear hfz19_0
  try clear hfz19_1
  try clear hfz19_2
  try clear hfz19_3
  try clear hfz19_4
  obtain ⟨kq, x21_3, rfl, HA, HJ3, BK137, BK138, HB⟩ := hcut
  cases kq with
  | zero => exact absurd HA.out (by simp [spec_SeeTick.j0])
  | succ kj3 =>
   have H := HA.out
   clear HA
   simp only [spec_SeeTick.j0] at H
   by_cases c21 : x21_3 = true
   ·
    subst c21
    have H1 : (some (a0_0, a0_1, a0_2, a0_3, a0_4, false)) = some (r1, r2, r3, r4, r5, r6) := by rw [if_pos rfl] at H; exact H
    clear H
    have H := H1
    clear H1
    simp only [Option.some.injEq, Prod.mk.injEq] at H
    obtain ⟨rfl, rfl, rfl, rfl, rfl, rfl⟩ := H
    have hnb22 := NB137_138.out
    have hnc22 := NB138_137.out
    have hcz23_0 := cb_ BK137.out 0 rfl
    have hcz23_1 := cb_ BK137.out 1 rfl
    have hcz23_2 := cb_ BK137.out 2 rfl
    have hcz23_3 := cb_ BK137.out 3 rfl
    have hcz23_4 := cb_ BK137.out 4 rfl
    have hfz23_0 := blk_frozen BK137.out 0
    have hfz23_1 := blk_frozen BK137.out 1
    have hfz23_2 := blk_frozen BK137.out 2
    have hfz23_3 := blk_frozen BK137.out 3
    have hfz23_4 := blk_frozen BK137.out 4
    have hcz24_0 := cb_ BK138.out 0 rfl
    have hcz24_1 := cb_ BK138.out 1 rfl
    have hcz24_2 := cb_ BK138.out 2 rfl
    have hcz24_3 := cb_ BK138.out 3 rfl
    have hcz24_4 := cb_ BK138.out 4 rfl
    have hfz24_0 := blk_frozen BK138.out 0
    have hfz24_1 := blk_frozen BK138.out 1
    have hfz24_2 := blk_frozen BK138.out 2
    have hfz24_3 := blk_frozen BK138.out 3
    have hfz24_4 := blk_frozen BK138.out 4
    go_wp2_with (first | ((with_reducible refine gate_store (t := 72) (p := 6) rfl ?_); refine store_event (t := 72) (p := 6) (v := ?vo_w25) (w1 := (((((wc.setCell ⟨gb138, 0, none⟩ (.int .i64 a0_0)).setCell ⟨gb138, 1, none⟩ (.int .i64 a0_1)).setCell ⟨gb138, 2, none⟩ (.int .i64 a0_2)).setCell ⟨gb138, 3, none⟩ (.bool a0_3)).setCell ⟨gb138, 4, none⟩ (.bool a0_4))) ?hg ?ho ?hn ?hr ?_; (case ho => rfl); (case hg => rfl); (case hn => rfl); (case hr => first | (go_simp; done) | (go_simp; rfl)); intro w25 hw; have n0_ : Aside0 (w25.heap[gb137]? = some (.cells #[.int .i64 a0_0, .int .i64 a0_1, .int .i64 a0_2, .bool a0_3, .bool a0_4] 72 (0, 0))) := ⟨(by rw [hw]; exact (uf_ BK137.out))⟩; have n1_ : Aside0 (w25.heap[gb138]? = some (.cells #[.int .i64 a0_0, .int .i64 a0_1, .int .i64 a0_2, .bool a0_3, .bool a0_4] 72 (0, 0))) := ⟨(by rw [hw]; exact (by (with_reducible repeat first|apply bn_|apply bd_|apply ba_); refine blk_put (cs := #[.int .i64 a0_0, .int .i64 a0_1, .int .i64 a0_2, .bool a0_3, .bool false]) ?_ 4 _ rfl; refine blk_put (cs := #[.int .i64 a0_0, .int .i64 a0_1, .int .i64 a0_2, .bool false, .bool false]) ?_ 3 _ rfl; refine blk_put (cs := #[.int .i64 a0_0, .int .i64 a0_1, .int .i64 0, .bool false, .bool false]) ?_ 2 _ rfl; refine blk_put (cs := #[.int .i64 a0_0, .int .i64 0, .int .i64 0, .bool false, .bool false]) ?_ 1 _ rfl; refine blk_put (cs := #[.int .i64 0, .int .i64 0, .int .i64 0, .bool false, .bool false]) ?_ 0 _ rfl; (with_reducible repeat first|apply bn_|apply bd_|apply ba_); exact BK138.out))⟩; have n2_ : Aside0 (Below w.heap.size w w25) := ⟨(by rw [hw]; exact (ue_ HB.out))⟩; clear hw BK137 BK138 HB; have BK137 := n0_; have BK138 := n1_; have HB := n2_; clear n0_ n1_ n2_))
    refine bodyPost_ret (results_ct rfl _ _ gb138 72 #[.int .i64 a0_0, .int .i64 a0_1, .int .i64 a0_2, .bool a0_3, .bool a0_4] (0, 0) _ rfl (ub_ BK138.out) Try.underlying72 rfl (by kernel_rfl)) rfl ?_
    exact ⟨ew_, ue_ HB.out⟩
   ·
    replace c21 := Bool.eq_false_iff.mpr c21
    subst c21
    have H1 : (if a0_4 = true then (if a0_3 = true then (some (a0_0, a0_1, a0_2, a0_3, a0_4, false)) else ((spec_DueAt.f kj3 a0_2 a1 a2).bind fun t143 => (if t143 = true then (some (a0_0, a0_1, a0_2, true, a0_4, true)) else (some (a0_0, a0_1, a0_2, a0_3, a0_4, false))))) else (some (a0_0, a0_1, a0_2, a0_3, a0_4, false))) = some (r1, r2, r3, r4, r5, r6) := by rw [if_neg (show ¬ (false = true) by decide)] at H; exact H
    clear H
    have H := H1
    clear H1
    by_cases c26 : a0_4 = true
    ·
     subst c26
     have H1 : (if a0_3 = true then (some (a0_0, a0_1, a0_2, a0_3, true, false)) else ((spec_DueAt.f kj3 a0_2 a1 a2).bind fun t143 => (if t143 = true then (some (a0_0, a0_1, a0_2, true, true, true)) else (some (a0_0, a0_1, a0_2, a0_3, true, false))))) = some (r1, r2, r3, r4, r5, r6) := by rw [if_pos rfl] at H; exact H
     clear H
     have H := H1
     clear H1
     by_cases c27 : a0_3 = true
     ·
      subst c27
      have H1 : (some (a0_0, a0_1, a0_2, true, true, false)) = some (r1, r2, r3, r4, r5, r6) := by rw [if_pos rfl] at H; exact H
      clear H
      have H := H1
      clear H1
      simp only [Option.some.injEq, Prod.mk.injEq] at H
      obtain ⟨rfl, rfl, rfl, rfl, rfl, rfl⟩ := H
      have hnb28 := NB137_138.out
      have hnc28 := NB138_137.out
      have hcz29_0 := cb_ BK137.out 0 rfl
      have hcz29_1 := cb_ BK137.out 1 rfl
      have hcz29_2 := cb_ BK137.out 2 rfl
      have hcz29_3 := cb_ BK137.out 3 rfl
      have hcz29_4 := cb_ BK137.out 4 rfl
      have hfz29_0 := blk_frozen BK137.out 0
      have hfz29_1 := blk_frozen BK137.out 1
      have hfz29_2 := blk_frozen BK137.out 2
      have hfz29_3 := blk_frozen BK137.out 3
      have hfz29_4 := blk_frozen BK137.out 4
      go_wp2_with (first | ((with_reducible refine gate_dst (N := 8) rfl ?_); refine box_event ?hg (N := 8) ?hd (cs := #[.int .i64 0, .int .i64 0, .int .i64 0, .bool false, .bool false]) (t := 72) ?hr ?_; (case hd => rfl); (case hg => rfl); (case hr => first | (go_simp; done) | (go_simp; rfl)); intro gb142 hg w30 hbox hb; have n0_ := am_ (bb_ BK137.out hb); have n1_ := am_ (bb_ BK138.out hb); have n2_ := am_ (below_step (ue_ HB.out) hb); have n3_ := am_ (hbox); have n4_ := am_ ((by rw [hg]; exact (below_size (ue_ HB.out)) : w.heap.size ≤ gb142)); have n5_ := am_ ((by rw [hg]; exact (below_size (ue_ HB.out)) : w.heap.size ≤ gb142)); have n6_ := am_ ((by rw [hg]; exact Nat.ne_of_lt (bl_ BK137.out) : gb137 ≠ gb142)); have n7_ := am_ ((by rw [hg]; exact Nat.ne_of_gt (bl_ BK137.out) : gb142 ≠ gb137)); have n8_ := am_ ((by rw [hg]; exact Nat.ne_of_lt (bl_ BK138.out) : gb138 ≠ gb142)); have n9_ := am_ ((by rw [hg]; exact Nat.ne_of_gt (bl_ BK138.out) : gb142 ≠ gb138)); clear BK137 BK138 HB; have BK137 := n0_; have BK138 := n1_; have HB := n2_; have BK142 := n3_; have GW142 := n4_; have GE142 := n5_; have NB137_142 := n6_; have NB142_137 := n7_; have NB138_142 := n8_; have NB142_138 := n9_; clear n0_ n1_ n2_ n3_ n4_ n5_ n6_ n7_ n8_ n9_; clear hb hbox hg; have hnb31 := NB142_137.out; have hnc31 := NB137_142.out; have hnb32 := NB142_138.out; have hnc32 := NB138_142.out; obtain ⟨hcz33_0, hcz33_1, hcz33_2, hcz33_3, hcz33_4⟩ := cb5_ BK142.out; obtain ⟨hfz33_0, hfz33_1, hfz33_2, hfz33_3⟩ := bf4_ BK142.out; have hfz33_4 := blk_frozen BK142.out 4) | ((with_reducible refine gate_store (t := 72) (p := 8) rfl ?_); refine store_event (t := 72) (p := 8) (v := ?vo_w34) (w1 := (((((w30.setCell ⟨gb142, 0, none⟩ (.int .i64 a0_0)).setCell ⟨gb142, 1, none⟩ (.int .i64 a0_1)).setCell ⟨gb142, 2, none⟩ (.int .i64 a0_2)).setCell ⟨gb142, 3, none⟩ (.bool true)).setCell ⟨gb142, 4, none⟩ (.bool true))) ?hg ?ho ?hn ?hr ?_; (case ho => rfl); (case hg => rfl); (case hn => rfl); (case hr => first | (go_simp; done) | (go_simp; rfl)); intro w34 hw; have n0_ : Aside0 (w34.heap[gb137]? = some (.cells #[.int .i64 a0_0, .int .i64 a0_1, .int .i64 a0_2, .bool true, .bool true] 72 (0, 0))) := ⟨(by rw [hw]; exact (uf_ BK137.out))⟩; have n1_ : Aside0 (w34.heap[gb138]? = some (.cells #[.int .i64 0, .int .i64 0, .int .i64 0, .bool false, .bool false] 72 (0, 0))) := ⟨(by rw [hw]; exact (uf_ BK138.out))⟩; have n2_ : Aside0 (w34.heap[gb142]? = some (.cells #[.int .i64 a0_0, .int .i64 a0_1, .int .i64 a0_2, .bool true, .bool true] 72 (0, 0))) := ⟨(by rw [hw]; exact (by (with_reducible repeat first|apply bn_|apply bd_|apply ba_); refine blk_put (cs := #[.int .i64 a0_0, .int .i64 a0_1, .int .i64 a0_2, .bool true, .bool false]) ?_ 4 _ rfl; refine blk_put (cs := #[.int .i64 a0_0, .int .i64 a0_1, .int .i64 a0_2, .bool false, .bool false]) ?_ 3 _ rfl; refine blk_put (cs := #[.int .i64 a0_0, .int .i64 a0_1, .int .i64 0, .bool false, .bool false]) ?_ 2 _ rfl; refine blk_put (cs := #[.int .i64 a0_0, .int .i64 0, .int .i64 0, .bool false, .bool false]) ?_ 1 _ rfl; refine blk_put (cs := #[.int .i64 0, .int .i64 0, .int .i64 0, .bool false, .bool false]) ?_ 0 _ rfl; (with_reducible repeat first|apply bn_|apply bd_|apply ba_); exact BK142.out))⟩; have n3_ : Aside0 (Below w.heap.size w w34) := ⟨(by rw [hw]; exact (ue_ HB.out))⟩; clear hw BK137 BK138 BK142 HB; have BK137 := n0_; have BK138 := n1_; have BK142 := n2_; have HB := n3_; clear n0_ n1_ n2_ n3_; obtain ⟨hcz35_0, hcz35_1, hcz35_2, hcz35_3, hcz35_4⟩ := cb5_ BK137.out; obtain ⟨hfz35_0, hfz35_1, hfz35_2, hfz35_3, hfz35_4⟩ := bf5_ BK137.out; obtain ⟨hcz36_0, hcz36_1, hcz36_2, hcz36_3, hcz36_4⟩ := cb5_ BK142.out; obtain ⟨hfz36_0, hfz36_1, hfz36_2, hfz36_3, hfz36_4⟩ := bf5_ BK142.out; obtain ⟨hcz37_0, hcz37_1, hcz37_2, hcz37_3, hcz37_4⟩ := cb5_ BK138.out; obtain ⟨hfz37_0, hfz37_1, hfz37_2, hfz37_3⟩ := bf4_ BK138.out; have hfz37_4 := blk_frozen BK138.out 4) | ((with_reducible refine gate_store (t := 72) (p := 6) rfl ?_); refine store_event (t := 72) (p := 6) (v := ?vo_w38) (w1 := (((((w34.setCell ⟨gb138, 0, none⟩ (.int .i64 a0_0)).setCell ⟨gb138, 1, none⟩ (.int .i64 a0_1)).setCell ⟨gb138, 2, none⟩ (.int .i64 a0_2)).setCell ⟨gb138, 3, none⟩ (.bool true)).setCell ⟨gb138, 4, none⟩ (.bool true))) ?hg ?ho ?hn ?hr ?_; (case ho => rfl); (case hg => rfl); (case hn => rfl); (case hr => first | (go_simp; done) | (go_simp; rfl)); intro w38 hw; have n0_ : Aside0 (w38.heap[gb137]? = some (.cells #[.int .i64 a0_0, .int .i64 a0_1, .int .i64 a0_2, .bool true, .bool true] 72 (0, 0))) := ⟨(by rw [hw]; exact (uf_ BK137.out))⟩; have n1_ : Aside0 (w38.heap[gb138]? = some (.cells #[.int .i64 a0_0, .int .i64 a0_1, .int .i64 a0_2, .bool true, .bool true] 72 (0, 0))) := ⟨(by rw [hw]; exact (by (with_reducible repeat first|apply bn_|apply bd_|apply ba_); refine blk_put (cs := #[.int .i64 a0_0, .int .i64 a0_1, .int .i64 a0_2, .bool true, .bool false]) ?_ 4 _ rfl; refine blk_put (cs := #[.int .i64 a0_0, .int .i64 a0_1, .int .i64 a0_2, .bool false, .bool false]) ?_ 3 _ rfl; refine blk_put (cs := #[.int .i64 a0_0, .int .i64 a0_1, .int .i64 0, .bool false, .bool false]) ?_ 2 _ rfl; refine blk_put (cs := #[.int .i64 a0_0, .int .i64 0, .int .i64 0, .bool false, .bool false]) ?_ 1 _ rfl; refine blk_put (cs := #[.int .i64 0, .int .i64 0, .int .i64 0, .bool false, .bool false]) ?_ 0 _ rfl; (with_reducible repeat first|apply bn_|apply bd_|apply ba_); exact BK138.out))⟩; have n2_ : Aside0 (w38.heap[gb142]? = some (.cells #[.int .i64 a0_0, .int .i64 a0_1, .int .i64 a0_2, .bool true, .bool true] 72 (0, 0))) := ⟨(by rw [hw]; exact (uf_ BK142.out))⟩; have n3_ : Aside0 (Below w.heap.size w w38) := ⟨(by rw [hw]; exact (ue_ HB.out))⟩; clear hw BK137 BK138 BK142 HB; have BK137 := n0_; have BK138 := n1_; have BK142 := n2_; have HB := n3_; clear n0_ n1_ n2_ n3_))
      refine bodyPost_ret (results_ct rfl _ _ gb138 72 #[.int .i64 a0_0, .int .i64 a0_1, .int .i64 a0_2, .bool true, .bool true] (0, 0) _ rfl (ub_ BK138.out) Try.underlying72 rfl (by kernel_rfl)) rfl ?_
      exact ⟨ew_, ue_ HB.out⟩
     ·
      replace c27 := Bool.eq_false_iff.mpr c27
      subst c27
      have H1 : ((spec_DueAt.f kj3 a0_2 a1 a2).bind fun t143 => (if t143 = true then (some (a0_0, a0_1, a0_2, true, true, true)) else (some (a0_0, a0_1, a0_2, false, true, false)))) = some (r1, r2, r3, r4, r5, r6) := by rw [if_neg (show ¬ (false = true) by decide)] at H; exact H
      clear H
      have H := H1
      clear H1
      replace H := Option.bind_eq_some_iff.mp H
      obtain ⟨t143, A390, H⟩ := H
      replace H : (if t143 = true then (some (a0_0, a0_1, a0_2, true, true, true)) else (some (a0_0, a0_1, a0_2, false, true, false))) = some (r1, r2, r3, r4, r5, r6) := H
      have A39 := Aside0.mk A390
      clear A390
      by_cases c40 : t143 = true
      ·
       subst c40
       have H1 : (some (a0_0, a0_1, a0_2, true, true, true)) = some (r1, r2, r3, r4, r5, r6) := by rw [if_pos rfl] at H; exact H
       clear H
       have H := H1
       clear H1
       simp only [Option.some.injEq, Prod.mk.injEq] at H
       obtain ⟨rfl, rfl, rfl, rfl, rfl, rfl⟩ := H
       have hnb41 := NB137_138.out
       have hnc41 := NB138_137.out
       have hcz42_0 := cb_ BK137.out 0 rfl
       have hcz42_1 := cb_ BK137.out 1 rfl
       have hcz42_2 := cb_ BK137.out 2 rfl
       have hcz42_3 := cb_ BK137.out 3 rfl
       have hcz42_4 := cb_ BK137.out 4 rfl
       have hfz42_0 := blk_frozen BK137.out 0
       have hfz42_1 := blk_frozen BK137.out 1
       have hfz42_2 := blk_frozen BK137.out 2
       have hfz42_3 := blk_frozen BK137.out 3
       have hfz42_4 := blk_frozen BK137.out 4
       go_wp2_with (first | ((with_reducible refine gate_dst (N := 8) rfl ?_); refine box_event ?hg (N := 8) ?hd (cs := #[.int .i64 0, .int .i64 0, .int .i64 0, .bool false, .bool false]) (t := 72) ?hr ?_; (case hd => rfl); (case hg => rfl); (case hr => first | (go_simp; done) | (go_simp; rfl)); intro gb142 hg w43 hbox hb; have n0_ := am_ (bb_ BK137.out hb); have n1_ := am_ (bb_ BK138.out hb); have n2_ := am_ (below_step (ue_ HB.out) hb); have n3_ := am_ (hbox); have n4_ := am_ ((by rw [hg]; exact (below_size (ue_ HB.out)) : w.heap.size ≤ gb142)); have n5_ := am_ ((by rw [hg]; exact (below_size (ue_ HB.out)) : w.heap.size ≤ gb142)); have n6_ := am_ ((by rw [hg]; exact Nat.ne_of_lt (bl_ BK137.out) : gb137 ≠ gb142)); have n7_ := am_ ((by rw [hg]; exact Nat.ne_of_gt (bl_ BK137.out) : gb142 ≠ gb137)); have n8_ := am_ ((by rw [hg]; exact Nat.ne_of_lt (bl_ BK138.out) : gb138 ≠ gb142)); have n9_ := am_ ((by rw [hg]; exact Nat.ne_of_gt (bl_ BK138.out) : gb142 ≠ gb138)); clear BK137 BK138 HB; have BK137 := n0_; have BK138 := n1_; have HB := n2_; have BK142 := n3_; have GW142 := n4_; have GE142 := n5_; have NB137_142 := n6_; have NB142_137 := n7_; have NB138_142 := n8_; have NB142_138 := n9_; clear n0_ n1_ n2_ n3_ n4_ n5_ n6_ n7_ n8_ n9_; clear hb hbox hg; have hnb44 := NB142_137.out; have hnc44 := NB137_142.out; have hnb45 := NB142_138.out; have hnc45 := NB138_142.out; obtain ⟨hcz46_0, hcz46_1, hcz46_2, hcz46_3, hcz46_4⟩ := cb5_ BK142.out; obtain ⟨hfz46_0, hfz46_1, hfz46_2, hfz46_3⟩ := bf4_ BK142.out; have hfz46_4 := blk_frozen BK142.out 4) | ((with_reducible refine gate_store (t := 72) (p := 8) rfl ?_); refine store_event (t := 72) (p := 8) (v := ?vo_w47) (w1 := (((((w43.setCell ⟨gb142, 0, none⟩ (.int .i64 a0_0)).setCell ⟨gb142, 1, none⟩ (.int .i64 a0_1)).setCell ⟨gb142, 2, none⟩ (.int .i64 a0_2)).setCell ⟨gb142, 3, none⟩ (.bool false)).setCell ⟨gb142, 4, none⟩ (.bool true))) ?hg ?ho ?hn ?hr ?_; (case ho => rfl); (case hg => rfl); (case hn => rfl); (case hr => first | (go_simp; done) | (go_simp; rfl)); intro w47 hw; have n0_ : Aside0 (w47.heap[gb137]? = some (.cells #[.int .i64 a0_0, .int .i64 a0_1, .int .i64 a0_2, .bool false, .bool true] 72 (0, 0))) := ⟨(by rw [hw]; exact (uf_ BK137.out))⟩; have n1_ : Aside0 (w47.heap[gb138]? = some (.cells #[.int .i64 0, .int .i64 0, .int .i64 0, .bool false, .bool false] 72 (0, 0))) := ⟨(by rw [hw]; exact (uf_ BK138.out))⟩; have n2_ : Aside0 (w47.heap[gb142]? = some (.cells #[.int .i64 a0_0, .int .i64 a0_1, .int .i64 a0_2, .bool false, .bool true] 72 (0, 0))) := ⟨(by rw [hw]; exact (by (with_reducible repeat first|apply bn_|apply bd_|apply ba_); refine blk_put (cs := #[.int .i64 a0_0, .int .i64 a0_1, .int .i64 a0_2, .bool false, .bool false]) ?_ 4 _ rfl; refine blk_put (cs := #[.int .i64 a0_0, .int .i64 a0_1, .int .i64 a0_2, .bool false, .bool false]) ?_ 3 _ rfl; refine blk_put (cs := #[.int .i64 a0_0, .int .i64 a0_1, .int .i64 0, .bool false, .bool false]) ?_ 2 _ rfl; refine blk_put (cs := #[.int .i64 a0_0, .int .i64 0, .int .i64 0, .bool false, .bool false]) ?_ 1 _ rfl; refine blk_put (cs := #[.int .i64 0, .int .i64 0, .int .i64 0, .bool false, .bool false]) ?_ 0 _ rfl; (with_reducible repeat first|apply bn_|apply bd_|apply ba_); exact BK142.out))⟩; have n3_ : Aside0 (Below w.heap.size w w47) := ⟨(by rw [hw]; exact (ue_ HB.out))⟩; clear hw BK137 BK138 BK142 HB; have BK137 := n0_; have BK138 := n1_; have BK142 := n2_; have HB := n3_; clear n0_ n1_ n2_ n3_; obtain ⟨hcz48_0, hcz48_1, hcz48_2, hcz48_3, hcz48_4⟩ := cb5_ BK137.out; obtain ⟨hfz48_0, hfz48_1, hfz48_2, hfz48_3⟩ := bf4_ BK137.out; have hfz48_4 := blk_frozen BK137.out 4) | (go_at_call 176; (with_reducible refine (spec_DueAt.calls kj3 a0_2 a1 a2 true _ A39.out).mono ?_); rintro e w' ⟨rfl, ⟨nd, rfl⟩⟩; (try (rw [drewN_self w47]; generalize hq_ : World.drewN w47 _ = w47; have n0_ : Aside0 (w47.heap[gb137]? = some (.cells #[.int .i64 a0_0, .int .i64 a0_1, .int .i64 a0_2, .bool false, .bool true] 72 (0, 0))) := ⟨by rw [← hq_]; exact (ub_ BK137.out)⟩; have n1_ : Aside0 (w47.heap[gb138]? = some (.cells #[.int .i64 0, .int .i64 0, .int .i64 0, .bool false, .bool false] 72 (0, 0))) := ⟨by rw [← hq_]; exact (ub_ BK138.out)⟩; have n2_ : Aside0 (w47.heap[gb142]? = some (.cells #[.int .i64 a0_0, .int .i64 a0_1, .int .i64 a0_2, .bool false, .bool true] 72 (0, 0))) := ⟨by rw [← hq_]; exact (ub_ BK142.out)⟩; have n3_ : Aside0 (Below w.heap.size w w47) := ⟨by rw [← hq_]; exact (ue_ HB.out)⟩; clear BK137 BK138 BK142 HB hq_; have BK137 := n0_; have BK138 := n1_; have BK142 := n2_; have HB := n3_; clear n0_ n1_ n2_ n3_)); obtain ⟨hcz49_0, hcz49_1, hcz49_2, hcz49_3, hcz49_4⟩ := cb5_ BK142.out; obtain ⟨hfz49_0, hfz49_1, hfz49_2, hfz49_3⟩ := bf4_ BK142.out; have hfz49_4 := blk_frozen BK142.out 4) | ((with_reducible refine gate_store (t := 4) (p := 38) rfl ?_); refine store_event (t := 4) (p := 38) (v := ?vo_w50) (w1 := (w47.setCell ⟨gb142, 3, none⟩ (.bool true))) ?hg ?ho ?hn ?hr ?_; (case ho => rfl); (case hg => rfl); (case hn => rfl); (case hr => first | (go_simp; done) | (go_simp; rfl)); intro w50 hw; have n0_ : Aside0 (w50.heap[gb137]? = some (.cells #[.int .i64 a0_0, .int .i64 a0_1, .int .i64 a0_2, .bool false, .bool true] 72 (0, 0))) := ⟨(by rw [hw]; exact (uf_ BK137.out))⟩; have n1_ : Aside0 (w50.heap[gb138]? = some (.cells #[.int .i64 0, .int .i64 0, .int .i64 0, .bool false, .bool false] 72 (0, 0))) := ⟨(by rw [hw]; exact (uf_ BK138.out))⟩; have n2_ : Aside0 (w50.heap[gb142]? = some (.cells #[.int .i64 a0_0, .int .i64 a0_1, .int .i64 a0_2, .bool true, .bool true] 72 (0, 0))) := ⟨(by rw [hw]; exact (by (with_reducible repeat first|apply bn_|apply bd_|apply ba_); refine blk_put (cs := #[.int .i64 a0_0, .int .i64 a0_1, .int .i64 a0_2, .bool false, .bool true]) ?_ 3 _ rfl; (with_reducible repeat first|apply bn_|apply bd_|apply ba_); exact BK142.out))⟩; have n3_ : Aside0 (Below w.heap.size w w50) := ⟨(by rw [hw]; exact (ue_ HB.out))⟩; clear hw BK137 BK138 BK142 HB; have BK137 := n0_; have BK138 := n1_; have BK142 := n2_; have HB := n3_; clear n0_ n1_ n2_ n3_; obtain ⟨hcz51_0, hcz51_1, hcz51_2, hcz51_3, hcz51_4⟩ := cb5_ BK142.out; obtain ⟨hfz51_0, hfz51_1, hfz51_2, hfz51_3, hfz51_4⟩ := bf5_ BK142.out; obtain ⟨hcz52_0, hcz52_1, hcz52_2, hcz52_3, hcz52_4⟩ := cb5_ BK138.out; obtain ⟨hfz52_0, hfz52_1, hfz52_2, hfz52_3⟩ := bf4_ BK138.out; have hfz52_4 := blk_frozen BK138.out 4) | ((with_reducible refine gate_store (t := 72) (p := 6) rfl ?_); refine store_event (t := 72) (p := 6) (v := ?vo_w53) (w1 := (((((w50.setCell ⟨gb138, 0, none⟩ (.int .i64 a0_0)).setCell ⟨gb138, 1, none⟩ (.int .i64 a0_1)).setCell ⟨gb138, 2, none⟩ (.int .i64 a0_2)).setCell ⟨gb138, 3, none⟩ (.bool true)).setCell ⟨gb138, 4, none⟩ (.bool true))) ?hg ?ho ?hn ?hr ?_; (case ho => rfl); (case hg => rfl); (case hn => rfl); (case hr => first | (go_simp; done) | (go_simp; rfl)); intro w53 hw; have n0_ : Aside0 (w53.heap[gb137]? = some (.cells #[.int .i64 a0_0, .int .i64 a0_1, .int .i64 a0_2, .bool false, .bool true] 72 (0, 0))) := ⟨(by rw [hw]; exact (uf_ BK137.out))⟩; have n1_ : Aside0 (w53.heap[gb138]? = some (.cells #[.int .i64 a0_0, .int .i64 a0_1, .int .i64 a0_2, .bool true, .bool true] 72 (0, 0))) := ⟨(by rw [hw]; exact (by (with_reducible repeat first|apply bn_|apply bd_|apply ba_); refine blk_put (cs := #[.int .i64 a0_0, .int .i64 a0_1, .int .i64 a0_2, .bool true, .bool false]) ?_ 4 _ rfl; refine blk_put (cs := #[.int .i64 a0_0, .int .i64 a0_1, .int .i64 a0_2, .bool false, .bool false]) ?_ 3 _ rfl; refine blk_put (cs := #[.int .i64 a0_0, .int .i64 a0_1, .int .i64 0, .bool false, .bool false]) ?_ 2 _ rfl; refine blk_put (cs := #[.int .i64 a0_0, .int .i64 0, .int .i64 0, .bool false, .bool false]) ?_ 1 _ rfl; refine blk_put (cs := #[.int .i64 0, .int .i64 0, .int .i64 0, .bool false, .bool false]) ?_ 0 _ rfl; (with_reducible repeat first|apply bn_|apply bd_|apply ba_); exact BK138.out))⟩; have n2_ : Aside0 (w53.heap[gb142]? = some (.cells #[.int .i64 a0_0, .int .i64 a0_1, .int .i64 a0_2, .bool true, .bool true] 72 (0, 0))) := ⟨(by rw [hw]; exact (uf_ BK142.out))⟩; have n3_ : Aside0 (Below w.heap.size w w53) := ⟨(by rw [hw]; exact (ue_ HB.out))⟩; clear hw BK137 BK138 BK142 HB; have BK137 := n0_; have BK138 := n1_; have BK142 := n2_; have HB := n3_; clear n0_ n1_ n2_ n3_))
       refine bodyPost_ret (results_ct rfl _ _ gb138 72 #[.int .i64 a0_0, .int .i64 a0_1, .int .i64 a0_2, .bool true, .bool true] (0, 0) _ rfl (ub_ BK138.out) Try.underlying72 rfl (by kernel_rfl)) rfl ?_
       exact ⟨ew_, ue_ HB.out⟩
      ·
       replace c40 := Bool.eq_false_iff.mpr c40
       subst c40
       have H1 : (some (a0_0, a0_1, a0_2, false, true, false)) = some (r1, r2, r3, r4, r5, r6) := by rw [if_neg (show ¬ (false = true) by decide)] at H; exact H
       clear H
       have H := H1
       clear H1
       simp only [Option.some.injEq, Prod.mk.injEq] at H
       obtain ⟨rfl, rfl, rfl, rfl, rfl, rfl⟩ := H
       have hnb54 := NB137_138.out
       have hnc54 := NB138_137.out
       have hcz55_0 := cb_ BK137.out 0 rfl
       have hcz55_1 := cb_ BK137.out 1 rfl
       have hcz55_2 := cb_ BK137.out 2 rfl
       have hcz55_3 := cb_ BK137.out 3 rfl
       have hcz55_4 := cb_ BK137.out 4 rfl
       have hfz55_0 := blk_frozen BK137.out 0
       have hfz55_1 := blk_frozen BK137.out 1
       have hfz55_2 := blk_frozen BK137.out 2
       have hfz55_3 := blk_frozen BK137.out 3
       have hfz55_4 := blk_frozen BK137.out 4
       go_wp2_with (first | ((with_reducible refine gate_dst (N := 8) rfl ?_); refine box_event ?hg (N := 8) ?hd (cs := #[.int .i64 0, .int .i64 0, .int .i64 0, .bool false, .bool false]) (t := 72) ?hr ?_; (case hd => rfl); (case hg => rfl); (case hr => first | (go_simp; done) | (go_simp; rfl)); intro gb142 hg w56 hbox hb; have n0_ := am_ (bb_ BK137.out hb); have n1_ := am_ (bb_ BK138.out hb); have n2_ := am_ (below_step (ue_ HB.out) hb); have n3_ := am_ (hbox); have n4_ := am_ ((by rw [hg]; exact (below_size (ue_ HB.out)) : w.heap.size ≤ gb142)); have n5_ := am_ ((by rw [hg]; exact (below_size (ue_ HB.out)) : w.heap.size ≤ gb142)); have n6_ := am_ ((by rw [hg]; exact Nat.ne_of_lt (bl_ BK137.out) : gb137 ≠ gb142)); have n7_ := am_ ((by rw [hg]; exact Nat.ne_of_gt (bl_ BK137.out) : gb142 ≠ gb137)); have n8_ := am_ ((by rw [hg]; exact Nat.ne_of_lt (bl_ BK138.out) : gb138 ≠ gb142)); have n9_ := am_ ((by rw [hg]; exact Nat.ne_of_gt (bl_ BK138.out) : gb142 ≠ gb138)); clear BK137 BK138 HB; have BK137 := n0_; have BK138 := n1_; have HB := n2_; have BK142 := n3_; have GW142 := n4_; have GE142 := n5_; have NB137_142 := n6_; have NB142_137 := n7_; have NB138_142 := n8_; have NB142_138 := n9_; clear n0_ n1_ n2_ n3_ n4_ n5_ n6_ n7_ n8_ n9_; clear hb hbox hg; have hnb57 := NB142_137.out; have hnc57 := NB137_142.out; have hnb58 := NB142_138.out; have hnc58 := NB138_142.out; obtain ⟨hcz59_0, hcz59_1, hcz59_2, hcz59_3, hcz59_4⟩ := cb5_ BK142.out; obtain ⟨hfz59_0, hfz59_1, hfz59_2, hfz59_3⟩ := bf4_ BK142.out; have hfz59_4 := blk_frozen BK142.out 4) | ((with_reducible refine gate_store (t := 72) (p := 8) rfl ?_); refine store_event (t := 72) (p := 8) (v := ?vo_w60) (w1 := (((((w56.setCell ⟨gb142, 0, none⟩ (.int .i64 a0_0)).setCell ⟨gb142, 1, none⟩ (.int .i64 a0_1)).setCell ⟨gb142, 2, none⟩ (.int .i64 a0_2)).setCell ⟨gb142, 3, none⟩ (.bool false)).setCell ⟨gb142, 4, none⟩ (.bool true))) ?hg ?ho ?hn ?hr ?_; (case ho => rfl); (case hg => rfl); (case hn => rfl); (case hr => first | (go_simp; done) | (go_simp; rfl)); intro w60 hw; have n0_ : Aside0 (w60.heap[gb137]? = some (.cells #[.int .i64 a0_0, .int .i64 a0_1, .int .i64 a0_2, .bool false, .bool true] 72 (0, 0))) := ⟨(by rw [hw]; exact (uf_ BK137.out))⟩; have n1_ : Aside0 (w60.heap[gb138]? = some (.cells #[.int .i64 0, .int .i64 0, .int .i64 0, .bool false, .bool false] 72 (0, 0))) := ⟨(by rw [hw]; exact (uf_ BK138.out))⟩; have n2_ : Aside0 (w60.heap[gb142]? = some (.cells #[.int .i64 a0_0, .int .i64 a0_1, .int .i64 a0_2, .bool false, .bool true] 72 (0, 0))) := ⟨(by rw [hw]; exact (by (with_reducible repeat first|apply bn_|apply bd_|apply ba_); refine blk_put (cs := #[.int .i64 a0_0, .int .i64 a0_1, .int .i64 a0_2, .bool false, .bool false]) ?_ 4 _ rfl; refine blk_put (cs := #[.int .i64 a0_0, .int .i64 a0_1, .int .i64 a0_2, .bool false, .bool false]) ?_ 3 _ rfl; refine blk_put (cs := #[.int .i64 a0_0, .int .i64 a0_1, .int .i64 0, .bool false, .bool false]) ?_ 2 _ rfl; refine blk_put (cs := #[.int .i64 a0_0, .int .i64 0, .int .i64 0, .bool false, .bool false]) ?_ 1 _ rfl; refine blk_put (cs := #[.int .i64 0, .int .i64 0, .int .i64 0, .bool false, .bool false]) ?_ 0 _ rfl; (with_reducible repeat first|apply bn_|apply bd_|apply ba_); exact BK142.out))⟩; have n3_ : Aside0 (Below w.heap.size w w60) := ⟨(by rw [hw]; exact (ue_ HB.out))⟩; clear hw BK137 BK138 BK142 HB; have BK137 := n0_; have BK138 := n1_; have BK142 := n2_; have HB := n3_; clear n0_ n1_ n2_ n3_; obtain ⟨hcz61_0, hcz61_1, hcz61_2, hcz61_3, hcz61_4⟩ := cb5_ BK137.out; obtain ⟨hfz61_0, hfz61_1, hfz61_2, hfz61_3⟩ := bf4_ BK137.out; have hfz61_4 := blk_frozen BK137.out 4) | (go_at_call 176; (with_reducible refine (spec_DueAt.calls kj3 a0_2 a1 a2 false _ A39.out).mono ?_); rintro e w' ⟨rfl, ⟨nd, rfl⟩⟩; (try (rw [drewN_self w60]; generalize hq_ : World.drewN w60 _ = w60; have n0_ : Aside0 (w60.heap[gb137]? = some (.cells #[.int .i64 a0_0, .int .i64 a0_1, .int .i64 a0_2, .bool false, .bool true] 72 (0, 0))) := ⟨by rw [← hq_]; exact (ub_ BK137.out)⟩; have n1_ : Aside0 (w60.heap[gb138]? = some (.cells #[.int .i64 0, .int .i64 0, .int .i64 0, .bool false, .bool false] 72 (0, 0))) := ⟨by rw [← hq_]; exact (ub_ BK138.out)⟩; have n2_ : Aside0 (w60.heap[gb142]? = some (.cells #[.int .i64 a0_0, .int .i64 a0_1, .int .i64 a0_2, .bool false, .bool true] 72 (0, 0))) := ⟨by rw [← hq_]; exact (ub_ BK142.out)⟩; have n3_ : Aside0 (Below w.heap.size w w60) := ⟨by rw [← hq_]; exact (ue_ HB.out)⟩; clear BK137 BK138 BK142 HB hq_; have BK137 := n0_; have BK138 := n1_; have BK142 := n2_; have HB := n3_; clear n0_ n1_ n2_ n3_)); obtain ⟨hcz62_0, hcz62_1, hcz62_2, hcz62_3, hcz62_4⟩ := cb5_ BK142.out; obtain ⟨hfz62_0, hfz62_1, hfz62_2, hfz62_3, hfz62_4⟩ := bf5_ BK142.out; obtain ⟨hcz63_0, hcz63_1, hcz63_2, hcz63_3, hcz63_4⟩ := cb5_ BK138.out; obtain ⟨hfz63_0, hfz63_1, hfz63_2, hfz63_3⟩ := bf4_ BK138.out; have hfz63_4 := blk_frozen BK138.out 4) | ((with_reducible refine gate_store (t := 72) (p := 6) rfl ?_); refine store_event (t := 72) (p := 6) (v := ?vo_w64) (w1 := (((((w60.setCell ⟨gb138, 0, none⟩ (.int .i64 a0_0)).setCell ⟨gb138, 1, none⟩ (.int .i64 a0_1)).setCell ⟨gb138, 2, none⟩ (.int .i64 a0_2)).setCell ⟨gb138, 3, none⟩ (.bool false)).setCell ⟨gb138, 4, none⟩ (.bool true))) ?hg ?ho ?hn ?hr ?_; (case ho => rfl); (case hg => rfl); (case hn => rfl); (case hr => first | (go_simp; done) | (go_simp; rfl)); intro w64 hw; have n0_ : Aside0 (w64.heap[gb137]? = some (.cells #[.int .i64 a0_0, .int .i64 a0_1, .int .i64 a0_2, .bool false, .bool true] 72 (0, 0))) := ⟨(by rw [hw]; exact (uf_ BK137.out))⟩; have n1_ : Aside0 (w64.heap[gb138]? = some (.cells #[.int .i64 a0_0, .int .i64 a0_1, .int .i64 a0_2, .bool false, .bool true] 72 (0, 0))) := ⟨(by rw [hw]; exact (by (with_reducible repeat first|apply bn_|apply bd_|apply ba_); refine blk_put (cs := #[.int .i64 a0_0, .int .i64 a0_1, .int .i64 a0_2, .bool false, .bool false]) ?_ 4 _ rfl; refine blk_put (cs := #[.int .i64 a0_0, .int .i64 a0_1, .int .i64 a0_2, .bool false, .bool false]) ?_ 3 _ rfl; refine blk_put (cs := #[.int .i64 a0_0, .int .i64 a0_1, .int .i64 0, .bool false, .bool false]) ?_ 2 _ rfl; refine blk_put (cs := #[.int .i64 a0_0, .int .i64 0, .int .i64 0, .bool false, .bool false]) ?_ 1 _ rfl; refine blk_put (cs := #[.int .i64 0, .int .i64 0, .int .i64 0, .bool false, .bool false]) ?_ 0 _ rfl; (with_reducible repeat first|apply bn_|apply bd_|apply ba_); exact BK138.out))⟩; have n2_ : Aside0 (w64.heap[gb142]? = some (.cells #[.int .i64 a0_0, .int .i64 a0_1, .int .i64 a0_2, .bool false, .bool true] 72 (0, 0))) := ⟨(by rw [hw]; exact (uf_ BK142.out))⟩; have n3_ : Aside0 (Below w.heap.size w w64) := ⟨(by rw [hw]; exact (ue_ HB.out))⟩; clear hw BK137 BK138 BK142 HB; have BK137 := n0_; have BK138 := n1_; have BK142 := n2_; have HB := n3_; clear n0_ n1_ n2_ n3_))
       refine bodyPost_ret (results_ct rfl _ _ gb138 72 #[.int .i64 a0_0, .int .i64 a0_1, .int .i64 a0_2, .bool false, .bool true] (0, 0) _ rfl (ub_ BK138.out) Try.underlying72 rfl (by kernel_rfl)) rfl ?_
       exact ⟨ew_, ue_ HB.out⟩
    ·
     replace c26 := Bool.eq_false_iff.mpr c26
     subst c26
     have H1 : (some (a0_0, a0_1, a0_2, a0_3, false, false)) = some (r1, r2, r3, r4, r5, r6) := by rw [if_neg (show ¬ (false = true) by decide)] at H; exact H
     clear H
     have H := H1
     clear H1
     simp only [Option.some.injEq, Prod.mk.injEq] at H
     obtain ⟨rfl, rfl, rfl, rfl, rfl, rfl⟩ := H
     have hnb65 := NB137_138.out
     have hnc65 := NB138_137.out
     have hcz66_0 := cb_ BK137.out 0 rfl
     have hcz66_1 := cb_ BK137.out 1 rfl
     have hcz66_2 := cb_ BK137.out 2 rfl
     have hcz66_3 := cb_ BK137.out 3 rfl
     have hcz66_4 := cb_ BK137.out 4 rfl
     have hfz66_0 := blk_frozen BK137.out 0
     have hfz66_1 := blk_frozen BK137.out 1
     have hfz66_2 := blk_frozen BK137.out 2
     have hfz66_3 := blk_frozen BK137.out 3
     have hfz66_4 := blk_frozen BK137.out 4
     go_wp2_with (first | ((with_reducible refine gate_dst (N := 8) rfl ?_); refine box_event ?hg (N := 8) ?hd (cs := #[.int .i64 0, .int .i64 0, .int .i64 0, .bool false, .bool false]) (t := 72) ?hr ?_; (case hd => rfl); (case hg => rfl); (case hr => first | (go_simp; done) | (go_simp; rfl)); intro gb142 hg w67 hbox hb; have n0_ := am_ (bb_ BK137.out hb); have n1_ := am_ (bb_ BK138.out hb); have n2_ := am_ (below_step (ue_ HB.out) hb); have n3_ := am_ (hbox); have n4_ := am_ ((by rw [hg]; exact (below_size (ue_ HB.out)) : w.heap.size ≤ gb142)); have n5_ := am_ ((by rw [hg]; exact (below_size (ue_ HB.out)) : w.heap.size ≤ gb142)); have n6_ := am_ ((by rw [hg]; exact Nat.ne_of_lt (bl_ BK137.out) : gb137 ≠ gb142)); have n7_ := am_ ((by rw [hg]; exact Nat.ne_of_gt (bl_ BK137.out) : gb142 ≠ gb137)); have n8_ := am_ ((by rw [hg]; exact Nat.ne_of_lt (bl_ BK138.out) : gb138 ≠ gb142)); have n9_ := am_ ((by rw [hg]; exact Nat.ne_of_gt (bl_ BK138.out) : gb142 ≠ gb138)); clear BK137 BK138 HB; have BK137 := n0_; have BK138 := n1_; have HB := n2_; have BK142 := n3_; have GW142 := n4_; have GE142 := n5_; have NB137_142 := n6_; have NB142_137 := n7_; have NB138_142 := n8_; have NB142_138 := n9_; clear n0_ n1_ n2_ n3_ n4_ n5_ n6_ n7_ n8_ n9_; clear hb hbox hg; have hnb68 := NB142_137.out; have hnc68 := NB137_142.out; have hnb69 := NB142_138.out; have hnc69 := NB138_142.out; obtain ⟨hcz70_0, hcz70_1, hcz70_2, hcz70_3, hcz70_4⟩ := cb5_ BK142.out; obtain ⟨hfz70_0, hfz70_1, hfz70_2, hfz70_3⟩ := bf4_ BK142.out; have hfz70_4 := blk_frozen BK142.out 4) | ((with_reducible refine gate_store (t := 72) (p := 8) rfl ?_); refine store_event (t := 72) (p := 8) (v := ?vo_w71) (w1 := (((((w67.setCell ⟨gb142, 0, none⟩ (.int .i64 a0_0)).setCell ⟨gb142, 1, none⟩ (.int .i64 a0_1)).setCell ⟨gb142, 2, none⟩ (.int .i64 a0_2)).setCell ⟨gb142, 3, none⟩ (.bool a0_3)).setCell ⟨gb142, 4, none⟩ (.bool false))) ?hg ?ho ?hn ?hr ?_; (case ho => rfl); (case hg => rfl); (case hn => rfl); (case hr => first | (go_simp; done) | (go_simp; rfl)); intro w71 hw; have n0_ : Aside0 (w71.heap[gb137]? = some (.cells #[.int .i64 a0_0, .int .i64 a0_1, .int .i64 a0_2, .bool a0_3, .bool false] 72 (0, 0))) := ⟨(by rw [hw]; exact (uf_ BK137.out))⟩; have n1_ : Aside0 (w71.heap[gb138]? = some (.cells #[.int .i64 0, .int .i64 0, .int .i64 0, .bool false, .bool false] 72 (0, 0))) := ⟨(by rw [hw]; exact (uf_ BK138.out))⟩; have n2_ : Aside0 (w71.heap[gb142]? = some (.cells #[.int .i64 a0_0, .int .i64 a0_1, .int .i64 a0_2, .bool a0_3, .bool false] 72 (0, 0))) := ⟨(by rw [hw]; exact (by (with_reducible repeat first|apply bn_|apply bd_|apply ba_); refine blk_put (cs := #[.int .i64 a0_0, .int .i64 a0_1, .int .i64 a0_2, .bool a0_3, .bool false]) ?_ 4 _ rfl; refine blk_put (cs := #[.int .i64 a0_0, .int .i64 a0_1, .int .i64 a0_2, .bool false, .bool false]) ?_ 3 _ rfl; refine blk_put (cs := #[.int .i64 a0_0, .int .i64 a0_1, .int .i64 0, .bool false, .bool false]) ?_ 2 _ rfl; refine blk_put (cs := #[.int .i64 a0_0, .int .i64 0, .int .i64 0, .bool false, .bool false]) ?_ 1 _ rfl; refine blk_put (cs := #[.int .i64 0, .int .i64 0, .int .i64 0, .bool false, .bool false]) ?_ 0 _ rfl; (with_reducible repeat first|apply bn_|apply bd_|apply ba_); exact BK142.out))⟩; have n3_ : Aside0 (Below w.heap.size w w71) := ⟨(by rw [hw]; exact (ue_ HB.out))⟩; clear hw BK137 BK138 BK142 HB; have BK137 := n0_; have BK138 := n1_; have BK142 := n2_; have HB := n3_; clear n0_ n1_ n2_ n3_; obtain ⟨hcz72_0, hcz72_1, hcz72_2, hcz72_3, hcz72_4⟩ := cb5_ BK137.out; obtain ⟨hfz72_0, hfz72_1, hfz72_2, hfz72_3, hfz72_4⟩ := bf5_ BK137.out; obtain ⟨hcz73_0, hcz73_1, hcz73_2, hcz73_3, hcz73_4⟩ := cb5_ BK142.out; obtain ⟨hfz73_0, hfz73_1, hfz73_2, hfz73_3, hfz73_4⟩ := bf5_ BK142.out; obtain ⟨hcz74_0, hcz74_1, hcz74_2, hcz74_3, hcz74_4⟩ := cb5_ BK138.out; obtain ⟨hfz74_0, hfz74_1, hfz74_2, hfz74_3⟩ := bf4_ BK138.out; have hfz74_4 := blk_frozen BK138.out 4) | ((with_reducible refine gate_store (t := 72) (p := 6) rfl ?_); refine store_event (t := 72) (p := 6) (v := ?vo_w75) (w1 := (((((w71.setCell ⟨gb138, 0, none⟩ (.int .i64 a0_0)).setCell ⟨gb138, 1, none⟩ (.int .i64 a0_1)).setCell ⟨gb138, 2, none⟩ (.int .i64 a0_2)).setCell ⟨gb138, 3, none⟩ (.bool a0_3)).setCell ⟨gb138, 4, none⟩ (.bool false))) ?hg ?ho ?hn ?hr ?_; (case ho => rfl); (case hg => rfl); (case hn => rfl); (case hr => first | (go_simp; done) | (go_simp; rfl)); intro w75 hw; have n0_ : Aside0 (w75.heap[gb137]? = some (.cells #[.int .i64 a0_0, .int .i64 a0_1, .int .i64 a0_2, .bool a0_3, .bool false] 72 (0, 0))) := ⟨(by rw [hw]; exact (uf_ BK137.out))⟩; have n1_ : Aside0 (w75.heap[gb138]? = some (.cells #[.int .i64 a0_0, .int .i64 a0_1, .int .i64 a0_2, .bool a0_3, .bool false] 72 (0, 0))) := ⟨(by rw [hw]; exact (by (with_reducible repeat first|apply bn_|apply bd_|apply ba_); refine blk_put (cs := #[.int .i64 a0_0, .int .i64 a0_1, .int .i64 a0_2, .bool a0_3, .bool false]) ?_ 4 _ rfl; refine blk_put (cs := #[.int .i64 a0_0, .int .i64 a0_1, .int .i64 a0_2, .bool false, .bool false]) ?_ 3 _ rfl; refine blk_put (cs := #[.int .i64 a0_0, .int .i64 a0_1, .int .i64 0, .bool false, .bool false]) ?_ 2 _ rfl; refine blk_put (cs := #[.int .i64 a0_0, .int .i64 0, .int .i64 0, .bool false, .bool false]) ?_ 1 _ rfl; refine blk_put (cs := #[.int .i64 0, .int .i64 0, .int .i64 0, .bool false, .bool false]) ?_ 0 _ rfl; (with_reducible repeat first|apply bn_|apply bd_|apply ba_); exact BK138.out))⟩; have n2_ : Aside0 (w75.heap[gb142]? = some (.cells #[.int .i64 a0_0, .int .i64 a0_1, .int .i64 a0_2, .bool a0_3, .bool false] 72 (0, 0))) := ⟨(by rw [hw]; exact (uf_ BK142.out))⟩; have n3_ : Aside0 (Below w.heap.size w w75) := ⟨(by rw [hw]; exact (ue_ HB.out))⟩; clear hw BK137 BK138 BK142 HB; have BK137 := n0_; have BK138 := n1_; have BK142 := n2_; have HB := n3_; clear n0_ n1_ n2_ n3_))
     refine bodyPost_ret (results_ct rfl _ _ gb138 72 #[.int .i64 a0_0, .int .i64 a0_1, .int .i64 a0_2, .bool a0_3, .bool false] (0, 0) _ rfl (ub_ BK138.out) Try.underlying72 rfl (by kernel_rfl)) rfl ?_
     exact ⟨ew_, ue_ HB.out⟩

/-! ### spec_CloseSource: function 134 -/
def spec_CloseSource.f (a0_0 : Int) (a0_1 : Int) (a0_2 : Int) (a0_3 : Bool) (a0_4 : Bool) : Option (Int × Int × Int × Bool × Bool × Bool) := (spec_SourceOk.f a0_0 a0_1 a0_2 a0_3 a0_4).bind fun t146 => (if t146 = true then (if a0_4 = true then (some (a0_0, a0_1, a0_2, false, false, true)) else (some (a0_0, a0_1, a0_2, a0_3, a0_4, false))) else (some (a0_0, a0_1, a0_2, a0_3, a0_4, false)))
set_option maxHeartbeats 8000000 in
set_option maxRecDepth 100000 in
theorem spec_CloseSource.calls (a0_0 : Int) (a0_1 : Int) (a0_2 : Int) (a0_3 : Bool) (a0_4 : Bool) (r1 : Int) (r2 : Int) (r3 : Int) (r4 : Bool) (r5 : Bool) (r6 : Bool) (w : World) (h : spec_CloseSource.f a0_0 a0_1 a0_2 a0_3 a0_4 = some (r1, r2, r3, r4, r5, r6)) :
  Calls Try.prog 134 #[.agg #[.int .i64 a0_0, .int .i64 a0_1, .int .i64 a0_2, .bool a0_3, .bool a0_4]] w fun e w' => e = .returned (.tuple #[.agg #[.int .i64 r1, .int .i64 r2, .int .i64 r3, .bool r4, .bool r5], .bool r6]) ∧ Below w.heap.size w w' := by
 have hu72 := Try.underlying72
 have HB := am_ (Below.refl w.heap.size w)
 have H : ((spec_SourceOk.f a0_0 a0_1 a0_2 a0_3 a0_4).bind fun t146 => (if t146 = true then (if a0_4 = true then (some (a0_0, a0_1, a0_2, false, false, true)) else (some (a0_0, a0_1, a0_2, a0_3, a0_4, false))) else (some (a0_0, a0_1, a0_2, a0_3, a0_4, false)))) = some (r1, r2, r3, r4, r5, r6) := h
 clear h
 replace H := Option.bind_eq_some_iff.mp H
 obtain ⟨t146, A20, H⟩ := H
 replace H : (if t146 = true then (if a0_4 = true then (some (a0_0, a0_1, a0_2, false, false, true)) else (some (a0_0, a0_1, a0_2, a0_3, a0_4, false))) else (some (a0_0, a0_1, a0_2, a0_3, a0_4, false))) = some (r1, r2, r3, r4, r5, r6) := H
 have A2 := Aside0.mk A20
 clear A20
 by_cases c3 : t146 = true
 ·
  subst c3
  have H1 : (if a0_4 = true then (some (a0_0, a0_1, a0_2, false, false, true)) else (some (a0_0, a0_1, a0_2, a0_3, a0_4, false))) = some (r1, r2, r3, r4, r5, r6) := by rw [if_pos rfl] at H; exact H
  clear H
  have H := H1
  clear H1
  by_cases c4 : a0_4 = true
  ·
   subst c4
   have H1 : (some (a0_0, a0_1, a0_2, false, false, true)) = some (r1, r2, r3, r4, r5, r6) := by rw [if_pos rfl] at H; exact H
   clear H
   have H := H1
   clear H1
   simp only [Option.some.injEq, Prod.mk.injEq] at H
   obtain ⟨rfl, rfl, rfl, rfl, rfl, rfl⟩ := H
   go_enter Try.func134, Try.ntmps134
   go_wp2_with (first | ((with_reducible refine gate_dst (N := 1) rfl ?_); refine box_event ?hg (N := 1) ?hd (cs := #[.int .i64 a0_0, .int .i64 a0_1, .int .i64 a0_2, .bool a0_3, .bool true]) (t := 72) ?hr ?_; (case hd => rfl); (case hg => rfl); (case hr => first | (go_simp; done) | (go_simp; rfl)); intro gb144 hg w5 hbox hb; have n0_ := am_ (below_step (ue_ HB.out) hb); have n1_ := am_ (hbox); have n2_ := am_ ((by rw [hg]; exact (below_size (ue_ HB.out)) : w.heap.size ≤ gb144)); have n3_ := am_ ((by rw [hg]; exact (below_size (ue_ HB.out)) : w.heap.size ≤ gb144)); clear HB; have HB := n0_; have BK144 := n1_; have GW144 := n2_; have GE144 := n3_; clear n0_ n1_ n2_ n3_; clear hb hbox hg) | ((with_reducible refine gate_dst (N := 2) rfl ?_); refine box_event ?hg (N := 2) ?hd (cs := #[.int .i64 0, .int .i64 0, .int .i64 0, .bool false, .bool false]) (t := 72) ?hr ?_; (case hd => rfl); (case hg => rfl); (case hr => first | (go_simp; done) | (go_simp; rfl)); intro gb145 hg w6 hbox hb; have n0_ := am_ (bb_ BK144.out hb); have n1_ := am_ (below_step (ue_ HB.out) hb); have n2_ := am_ (hbox); have n3_ := am_ ((by rw [hg]; exact (below_size (ue_ HB.out)) : w.heap.size ≤ gb145)); have n4_ := am_ ((by rw [hg]; exact (below_size (ue_ HB.out)) : w.heap.size ≤ gb145)); have n5_ := am_ ((by rw [hg]; exact Nat.ne_of_lt (bl_ BK144.out) : gb144 ≠ gb145)); have n6_ := am_ ((by rw [hg]; exact Nat.ne_of_gt (bl_ BK144.out) : gb145 ≠ gb144)); clear BK144 HB; have BK144 := n0_; have HB := n1_; have BK145 := n2_; have GW145 := n3_; have GE145 := n4_; have NB144_145 := n5_; have NB145_144 := n6_; clear n0_ n1_ n2_ n3_ n4_ n5_ n6_; clear hb hbox hg; have hnb7 := NB144_145.out; have hnc7 := NB145_144.out; obtain ⟨hcz8_0, hcz8_1, hcz8_2, hcz8_3, hcz8_4⟩ := cb5_ BK144.out; obtain ⟨hfz8_0, hfz8_1, hfz8_2, hfz8_3⟩ := bf4_ BK144.out; have hfz8_4 := blk_frozen BK144.out 4) | ((with_reducible refine gate_callee (f := 147) rfl ?_); refine goesL_ (some 6) rfl rfl Try.func147 (by kernel_rfl) rfl #[.agg #[.int .i64 a0_0, .int .i64 a0_1, .int .i64 a0_2, .bool a0_3, .bool true]] rfl ul_ ?_; (with_reducible refine (spec_SourceOk.calls a0_0 a0_1 a0_2 a0_3 true true _ A2.out).mono ?_); rintro e w9 ⟨rfl, hb⟩; refine ⟨_, rfl, ?_⟩; have n0_ := am_ (bb_ BK144.out hb); have n1_ := am_ (bb_ BK145.out hb); have n2_ := am_ (below_step (ue_ HB.out) hb); clear BK144 BK145 HB; have BK144 := n0_; have BK145 := n1_; have HB := n2_; clear n0_ n1_ n2_; (try clear hb); (try clear hb2); (try clear hk); (try clear hi); obtain ⟨hcz10_0, hcz10_1, hcz10_2, hcz10_3, hcz10_4⟩ := cb5_ BK144.out; obtain ⟨hfz10_0, hfz10_1, hfz10_2, hfz10_3⟩ := bf4_ BK144.out; have hfz10_4 := blk_frozen BK144.out 4) | ((with_reducible refine gate_dst (N := 4) rfl ?_); refine box_event ?hg (N := 4) ?hd (cs := #[.int .i64 0, .int .i64 0, .int .i64 0, .bool false, .bool false]) (t := 72) ?hr ?_; (case hd => rfl); (case hg => rfl); (case hr => first | (go_simp; done) | (go_simp; rfl)); intro gb147 hg w11 hbox hb; have n0_ := am_ (bb_ BK144.out hb); have n1_ := am_ (bb_ BK145.out hb); have n2_ := am_ (below_step (ue_ HB.out) hb); have n3_ := am_ (hbox); have n4_ := am_ ((by rw [hg]; exact (below_size (ue_ HB.out)) : w.heap.size ≤ gb147)); have n5_ := am_ ((by rw [hg]; exact (below_size (ue_ HB.out)) : w.heap.size ≤ gb147)); have n6_ := am_ ((by rw [hg]; exact Nat.ne_of_lt (bl_ BK144.out) : gb144 ≠ gb147)); have n7_ := am_ ((by rw [hg]; exact Nat.ne_of_gt (bl_ BK144.out) : gb147 ≠ gb144)); have n8_ := am_ ((by rw [hg]; exact Nat.ne_of_lt (bl_ BK145.out) : gb145 ≠ gb147)); have n9_ := am_ ((by rw [hg]; exact Nat.ne_of_gt (bl_ BK145.out) : gb147 ≠ gb145)); clear BK144 BK145 HB; have BK144 := n0_; have BK145 := n1_; have HB := n2_; have BK147 := n3_; have GW147 := n4_; have GE147 := n5_; have NB144_147 := n6_; have NB147_144 := n7_; have NB145_147 := n8_; have NB147_145 := n9_; clear n0_ n1_ n2_ n3_ n4_ n5_ n6_ n7_ n8_ n9_; clear hb hbox hg; have hnb12 := NB147_144.out; have hnc12 := NB144_147.out; have hnb13 := NB147_145.out; have hnc13 := NB145_147.out; obtain ⟨hcz14_0, hcz14_1, hcz14_2, hcz14_3, hcz14_4⟩ := cb5_ BK147.out; obtain ⟨hfz14_0, hfz14_1, hfz14_2, hfz14_3⟩ := bf4_ BK147.out; have hfz14_4 := blk_frozen BK147.out 4) | ((with_reducible refine gate_store (t := 72) (p := 4) rfl ?_); refine store_event (t := 72) (p := 4) (v := ?vo_w15) (w1 := (((((w11.setCell ⟨gb147, 0, none⟩ (.int .i64 a0_0)).setCell ⟨gb147, 1, none⟩ (.int .i64 a0_1)).setCell ⟨gb147, 2, none⟩ (.int .i64 a0_2)).setCell ⟨gb147, 3, none⟩ (.bool a0_3)).setCell ⟨gb147, 4, none⟩ (.bool true))) ?hg ?ho ?hn ?hr ?_; (case ho => rfl); (case hg => rfl); (case hn => rfl); (case hr => first | (go_simp; done) | (go_simp; rfl)); intro w15 hw; have n0_ : Aside0 (w15.heap[gb144]? = some (.cells #[.int .i64 a0_0, .int .i64 a0_1, .int .i64 a0_2, .bool a0_3, .bool true] 72 (0, 0))) := ⟨(by rw [hw]; exact (uf_ BK144.out))⟩; have n1_ : Aside0 (w15.heap[gb145]? = some (.cells #[.int .i64 0, .int .i64 0, .int .i64 0, .bool false, .bool false] 72 (0, 0))) := ⟨(by rw [hw]; exact (uf_ BK145.out))⟩; have n2_ : Aside0 (w15.heap[gb147]? = some (.cells #[.int .i64 a0_0, .int .i64 a0_1, .int .i64 a0_2, .bool a0_3, .bool true] 72 (0, 0))) := ⟨(by rw [hw]; exact (by (with_reducible repeat first|apply bn_|apply bd_|apply ba_); refine blk_put (cs := #[.int .i64 a0_0, .int .i64 a0_1, .int .i64 a0_2, .bool a0_3, .bool false]) ?_ 4 _ rfl; refine blk_put (cs := #[.int .i64 a0_0, .int .i64 a0_1, .int .i64 a0_2, .bool false, .bool false]) ?_ 3 _ rfl; refine blk_put (cs := #[.int .i64 a0_0, .int .i64 a0_1, .int .i64 0, .bool false, .bool false]) ?_ 2 _ rfl; refine blk_put (cs := #[.int .i64 a0_0, .int .i64 0, .int .i64 0, .bool false, .bool false]) ?_ 1 _ rfl; refine blk_put (cs := #[.int .i64 0, .int .i64 0, .int .i64 0, .bool false, .bool false]) ?_ 0 _ rfl; (with_reducible repeat first|apply bn_|apply bd_|apply ba_); exact BK147.out))⟩; have n3_ : Aside0 (Below w.heap.size w w15) := ⟨(by rw [hw]; exact (ue_ HB.out))⟩; clear hw BK144 BK145 BK147 HB; have BK144 := n0_; have BK145 := n1_; have BK147 := n2_; have HB := n3_; clear n0_ n1_ n2_ n3_; obtain ⟨hcz16_0, hcz16_1, hcz16_2, hcz16_3, hcz16_4⟩ := cb5_ BK147.out; obtain ⟨hfz16_0, hfz16_1, hfz16_2, hfz16_3⟩ := bf4_ BK147.out; have hfz16_4 := blk_frozen BK147.out 4) | ((with_reducible refine gate_store (t := 4) (p := 15) rfl ?_); refine store_event (t := 4) (p := 15) (v := ?vo_w17) (w1 := (w15.setCell ⟨gb147, 4, none⟩ (.bool false))) ?hg ?ho ?hn ?hr ?_; (case ho => rfl); (case hg => rfl); (case hn => rfl); (case hr => first | (go_simp; done) | (go_simp; rfl)); intro w17 hw; have n0_ : Aside0 (w17.heap[gb144]? = some (.cells #[.int .i64 a0_0, .int .i64 a0_1, .int .i64 a0_2, .bool a0_3, .bool true] 72 (0, 0))) := ⟨(by rw [hw]; exact (uf_ BK144.out))⟩; have n1_ : Aside0 (w17.heap[gb145]? = some (.cells #[.int .i64 0, .int .i64 0, .int .i64 0, .bool false, .bool false] 72 (0, 0))) := ⟨(by rw [hw]; exact (uf_ BK145.out))⟩; have n2_ : Aside0 (w17.heap[gb147]? = some (.cells #[.int .i64 a0_0, .int .i64 a0_1, .int .i64 a0_2, .bool a0_3, .bool false] 72 (0, 0))) := ⟨(by rw [hw]; exact (by (with_reducible repeat first|apply bn_|apply bd_|apply ba_); refine blk_put (cs := #[.int .i64 a0_0, .int .i64 a0_1, .int .i64 a0_2, .bool a0_3, .bool true]) ?_ 4 _ rfl; (with_reducible repeat first|apply bn_|apply bd_|apply ba_); exact BK147.out))⟩; have n3_ : Aside0 (Below w.heap.size w w17) := ⟨(by rw [hw]; exact (ue_ HB.out))⟩; clear hw BK144 BK145 BK147 HB; have BK144 := n0_; have BK145 := n1_; have BK147 := n2_; have HB := n3_; clear n0_ n1_ n2_ n3_; obtain ⟨hcz18_0, hcz18_1, hcz18_2, hcz18_3, hcz18_4⟩ := cb5_ BK147.out; obtain ⟨hfz18_0, hfz18_1, hfz18_2, hfz18_3⟩ := bf4_ BK147.out; have hfz18_4 := blk_frozen BK147.out 4) | ((with_reducible refine gate_store (t := 4) (p := 16) rfl ?_); refine store_event (t := 4) (p := 16) (v := ?vo_w19) (w1 := (w17.setCell ⟨gb147, 3, none⟩ (.bool false))) ?hg ?ho ?hn ?hr ?_; (case ho => rfl); (case hg => rfl); (case hn => rfl); (case hr => first | (go_simp; done) | (go_simp; rfl)); intro w19 hw; have n0_ : Aside0 (w19.heap[gb144]? = some (.cells #[.int .i64 a0_0, .int .i64 a0_1, .int .i64 a0_2, .bool a0_3, .bool true] 72 (0, 0))) := ⟨(by rw [hw]; exact (uf_ BK144.out))⟩; have n1_ : Aside0 (w19.heap[gb145]? = some (.cells #[.int .i64 0, .int .i64 0, .int .i64 0, .bool false, .bool false] 72 (0, 0))) := ⟨(by rw [hw]; exact (uf_ BK145.out))⟩; have n2_ : Aside0 (w19.heap[gb147]? = some (.cells #[.int .i64 a0_0, .int .i64 a0_1, .int .i64 a0_2, .bool false, .bool false] 72 (0, 0))) := ⟨(by rw [hw]; exact (by (with_reducible repeat first|apply bn_|apply bd_|apply ba_); refine blk_put (cs := #[.int .i64 a0_0, .int .i64 a0_1, .int .i64 a0_2, .bool a0_3, .bool false]) ?_ 3 _ rfl; (with_reducible repeat first|apply bn_|apply bd_|apply ba_); exact BK147.out))⟩; have n3_ : Aside0 (Below w.heap.size w w19) := ⟨(by rw [hw]; exact (ue_ HB.out))⟩; clear hw BK144 BK145 BK147 HB; have BK144 := n0_; have BK145 := n1_; have BK147 := n2_; have HB := n3_; clear n0_ n1_ n2_ n3_; obtain ⟨hcz20_0, hcz20_1, hcz20_2, hcz20_3, hcz20_4⟩ := cb5_ BK147.out; obtain ⟨hfz20_0, hfz20_1, hfz20_2, hfz20_3, hfz20_4⟩ := bf5_ BK147.out; obtain ⟨hcz21_0, hcz21_1, hcz21_2, hcz21_3, hcz21_4⟩ := cb5_ BK145.out; obtain ⟨hfz21_0, hfz21_1, hfz21_2, hfz21_3⟩ := bf4_ BK145.out; have hfz21_4 := blk_frozen BK145.out 4) | ((with_reducible refine gate_store (t := 72) (p := 2) rfl ?_); refine store_event (t := 72) (p := 2) (v := ?vo_w22) (w1 := (((((w19.setCell ⟨gb145, 0, none⟩ (.int .i64 a0_0)).setCell ⟨gb145, 1, none⟩ (.int .i64 a0_1)).setCell ⟨gb145, 2, none⟩ (.int .i64 a0_2)).setCell ⟨gb145, 3, none⟩ (.bool false)).setCell ⟨gb145, 4, none⟩ (.bool false))) ?hg ?ho ?hn ?hr ?_; (case ho => rfl); (case hg => rfl); (case hn => rfl); (case hr => first | (go_simp; done) | (go_simp; rfl)); intro w22 hw; have n0_ : Aside0 (w22.heap[gb144]? = some (.cells #[.int .i64 a0_0, .int .i64 a0_1, .int .i64 a0_2, .bool a0_3, .bool true] 72 (0, 0))) := ⟨(by rw [hw]; exact (uf_ BK144.out))⟩; have n1_ : Aside0 (w22.heap[gb145]? = some (.cells #[.int .i64 a0_0, .int .i64 a0_1, .int .i64 a0_2, .bool false, .bool false] 72 (0, 0))) := ⟨(by rw [hw]; exact (by (with_reducible repeat first|apply bn_|apply bd_|apply ba_); refine blk_put (cs := #[.int .i64 a0_0, .int .i64 a0_1, .int .i64 a0_2, .bool false, .bool false]) ?_ 4 _ rfl; refine blk_put (cs := #[.int .i64 a0_0, .int .i64 a0_1, .int .i64 a0_2, .bool false, .bool false]) ?_ 3 _ rfl; refine blk_put (cs := #[.int .i64 a0_0, .int .i64 a0_1, .int .i64 0, .bool false, .bool false]) ?_ 2 _ rfl; refine blk_put (cs := #[.int .i64 a0_0, .int .i64 0, .int .i64 0, .bool false, .bool false]) ?_ 1 _ rfl; refine blk_put (cs := #[.int .i64 0, .int .i64 0, .int .i64 0, .bool false, .bool false]) ?_ 0 _ rfl; (with_reducible repeat first|apply bn_|apply bd_|apply ba_); exact BK145.out))⟩; have n2_ : Aside0 (w22.heap[gb147]? = some (.cells #[.int .i64 a0_0, .int .i64 a0_1, .int .i64 a0_2, .bool false, .bool false] 72 (0, 0))) := ⟨(by rw [hw]; exact (uf_ BK147.out))⟩; have n3_ : Aside0 (Below w.heap.size w w22) := ⟨(by rw [hw]; exact (ue_ HB.out))⟩; clear hw BK144 BK145 BK147 HB; have BK144 := n0_; have BK145 := n1_; have BK147 := n2_; have HB := n3_; clear n0_ n1_ n2_ n3_))
   refine bodyPost_ret (results_ct rfl _ _ gb145 72 #[.int .i64 a0_0, .int .i64 a0_1, .int .i64 a0_2, .bool false, .bool false] (0, 0) _ rfl (ub_ BK145.out) Try.underlying72 rfl (by kernel_rfl)) rfl ?_
   exact ⟨ew_, ue_ HB.out⟩
  ·
   replace c4 := Bool.eq_false_iff.mpr c4
   subst c4
   have H1 : (some (a0_0, a0_1, a0_2, a0_3, false, false)) = some (r1, r2, r3, r4, r5, r6) := by rw [if_neg (show ¬ (false = true) by decide)] at H; exact H
   clear H
   have H := H1
   clear H1
   simp only [Option.some.injEq, Prod.mk.injEq] at H
   obtain ⟨rfl, rfl, rfl, rfl, rfl, rfl⟩ := H
   go_enter Try.func134, Try.ntmps134
   go_wp2_with (first | ((with_reducible refine gate_dst (N := 1) rfl ?_); refine box_event ?hg (N := 1) ?hd (cs := #[.int .i64 a0_0, .int .i64 a0_1, .int .i64 a0_2, .bool a0_3, .bool false]) (t := 72) ?hr ?_; (case hd => rfl); (case hg => rfl); (case hr => first | (go_simp; done) | (go_simp; rfl)); intro gb144 hg w23 hbox hb; have n0_ := am_ (below_step (ue_ HB.out) hb); have n1_ := am_ (hbox); have n2_ := am_ ((by rw [hg]; exact (below_size (ue_ HB.out)) : w.heap.size ≤ gb144)); have n3_ := am_ ((by rw [hg]; exact (below_size (ue_ HB.out)) : w.heap.size ≤ gb144)); clear HB; have HB := n0_; have BK144 := n1_; have GW144 := n2_; have GE144 := n3_; clear n0_ n1_ n2_ n3_; clear hb hbox hg) | ((with_reducible refine gate_dst (N := 2) rfl ?_); refine box_event ?hg (N := 2) ?hd (cs := #[.int .i64 0, .int .i64 0, .int .i64 0, .bool false, .bool false]) (t := 72) ?hr ?_; (case hd => rfl); (case hg => rfl); (case hr => first | (go_simp; done) | (go_simp; rfl)); intro gb145 hg w24 hbox hb; have n0_ := am_ (bb_ BK144.out hb); have n1_ := am_ (below_step (ue_ HB.out) hb); have n2_ := am_ (hbox); have n3_ := am_ ((by rw [hg]; exact (below_size (ue_ HB.out)) : w.heap.size ≤ gb145)); have n4_ := am_ ((by rw [hg]; exact (below_size (ue_ HB.out)) : w.heap.size ≤ gb145)); have n5_ := am_ ((by rw [hg]; exact Nat.ne_of_lt (bl_ BK144.out) : gb144 ≠ gb145)); have n6_ := am_ ((by rw [hg]; exact Nat.ne_of_gt (bl_ BK144.out) : gb145 ≠ gb144)); clear BK144 HB; have BK144 := n0_; have HB := n1_; have BK145 := n2_; have GW145 := n3_; have GE145 := n4_; have NB144_145 := n5_; have NB145_144 := n6_; clear n0_ n1_ n2_ n3_ n4_ n5_ n6_; clear hb hbox hg; have hnb25 := NB144_145.out; have hnc25 := NB145_144.out; obtain ⟨hcz26_0, hcz26_1, hcz26_2, hcz26_3, hcz26_4⟩ := cb5_ BK144.out; obtain ⟨hfz26_0, hfz26_1, hfz26_2, hfz26_3⟩ := bf4_ BK144.out; have hfz26_4 := blk_frozen BK144.out 4) | ((with_reducible refine gate_callee (f := 147) rfl ?_); refine goesL_ (some 6) rfl rfl Try.func147 (by kernel_rfl) rfl #[.agg #[.int .i64 a0_0, .int .i64 a0_1, .int .i64 a0_2, .bool a0_3, .bool false]] rfl ul_ ?_; (with_reducible refine (spec_SourceOk.calls a0_0 a0_1 a0_2 a0_3 false true _ A2.out).mono ?_); rintro e w27 ⟨rfl, hb⟩; refine ⟨_, rfl, ?_⟩; have n0_ := am_ (bb_ BK144.out hb); have n1_ := am_ (bb_ BK145.out hb); have n2_ := am_ (below_step (ue_ HB.out) hb); clear BK144 BK145 HB; have BK144 := n0_; have BK145 := n1_; have HB := n2_; clear n0_ n1_ n2_; (try clear hb); (try clear hb2); (try clear hk); (try clear hi); obtain ⟨hcz28_0, hcz28_1, hcz28_2, hcz28_3, hcz28_4⟩ := cb5_ BK144.out; obtain ⟨hfz28_0, hfz28_1, hfz28_2, hfz28_3, hfz28_4⟩ := bf5_ BK144.out; obtain ⟨hcz29_0, hcz29_1, hcz29_2, hcz29_3, hcz29_4⟩ := cb5_ BK145.out; obtain ⟨hfz29_0, hfz29_1, hfz29_2, hfz29_3⟩ := bf4_ BK145.out; have hfz29_4 := blk_frozen BK145.out 4) | ((with_reducible refine gate_store (t := 72) (p := 2) rfl ?_); refine store_event (t := 72) (p := 2) (v := ?vo_w30) (w1 := (((((w27.setCell ⟨gb145, 0, none⟩ (.int .i64 a0_0)).setCell ⟨gb145, 1, none⟩ (.int .i64 a0_1)).setCell ⟨gb145, 2, none⟩ (.int .i64 a0_2)).setCell ⟨gb145, 3, none⟩ (.bool a0_3)).setCell ⟨gb145, 4, none⟩ (.bool false))) ?hg ?ho ?hn ?hr ?_; (case ho => rfl); (case hg => rfl); (case hn => rfl); (case hr => first | (go_simp; done) | (go_simp; rfl)); intro w30 hw; have n0_ : Aside0 (w30.heap[gb144]? = some (.cells #[.int .i64 a0_0, .int .i64 a0_1, .int .i64 a0_2, .bool a0_3, .bool false] 72 (0, 0))) := ⟨(by rw [hw]; exact (uf_ BK144.out))⟩; have n1_ : Aside0 (w30.heap[gb145]? = some (.cells #[.int .i64 a0_0, .int .i64 a0_1, .int .i64 a0_2, .bool a0_3, .bool false] 72 (0, 0))) := ⟨(by rw [hw]; exact (by (with_reducible repeat first|apply bn_|apply bd_|apply ba_); refine blk_put (cs := #[.int .i64 a0_0, .int .i64 a0_1, .int .i64 a0_2, .bool a0_3, .bool false]) ?_ 4 _ rfl; refine blk_put (cs := #[.int .i64 a0_0, .int .i64 a0_1, .int .i64 a0_2, .bool false, .bool false]) ?_ 3 _ rfl; refine blk_put (cs := #[.int .i64 a0_0, .int .i64 a0_1, .int .i64 0, .bool false, .bool false]) ?_ 2 _ rfl; refine blk_put (cs := #[.int .i64 a0_0, .int .i64 0, .int .i64 0, .bool false, .bool false]) ?_ 1 _ rfl; refine blk_put (cs := #[.int .i64 0, .int .i64 0, .int .i64 0, .bool false, .bool false]) ?_ 0 _ rfl; (with_reducible repeat first|apply bn_|apply bd_|apply ba_); exact BK145.out))⟩; have n2_ : Aside0 (Below w.heap.size w w30) := ⟨(by rw [hw]; exact (ue_ HB.out))⟩; clear hw BK144 BK145 HB; have BK144 := n0_; have BK145 := n1_; have HB := n2_; clear n0_ n1_ n2_))
   refine bodyPost_ret (results_ct rfl _ _ gb145 72 #[.int .i64 a0_0, .int .i64 a0_1, .int .i64 a0_2, .bool a0_3, .bool false] (0, 0) _ rfl (ub_ BK145.out) Try.underlying72 rfl (by kernel_rfl)) rfl ?_
   exact ⟨ew_, ue_ HB.out⟩
 ·
  replace c3 := Bool.eq_false_iff.mpr c3
  subst c3
  have H1 : (some (a0_0, a0_1, a0_2, a0_3, a0_4, false)) = some (r1, r2, r3, r4, r5, r6) := by rw [if_neg (show ¬ (false = true) by decide)] at H; exact H
  clear H
  have H := H1
  clear H1
  simp only [Option.some.injEq, Prod.mk.injEq] at H
  obtain ⟨rfl, rfl, rfl, rfl, rfl, rfl⟩ := H
  go_enter Try.func134, Try.ntmps134
  go_wp2_with (first | ((with_reducible refine gate_dst (N := 1) rfl ?_); refine box_event ?hg (N := 1) ?hd (cs := #[.int .i64 a0_0, .int .i64 a0_1, .int .i64 a0_2, .bool a0_3, .bool a0_4]) (t := 72) ?hr ?_; (case hd => rfl); (case hg => rfl); (case hr => first | (go_simp; done) | (go_simp; rfl)); intro gb144 hg w31 hbox hb; have n0_ := am_ (below_step (ue_ HB.out) hb); have n1_ := am_ (hbox); have n2_ := am_ ((by rw [hg]; exact (below_size (ue_ HB.out)) : w.heap.size ≤ gb144)); have n3_ := am_ ((by rw [hg]; exact (below_size (ue_ HB.out)) : w.heap.size ≤ gb144)); clear HB; have HB := n0_; have BK144 := n1_; have GW144 := n2_; have GE144 := n3_; clear n0_ n1_ n2_ n3_; clear hb hbox hg) | ((with_reducible refine gate_dst (N := 2) rfl ?_); refine box_event ?hg (N := 2) ?hd (cs := #[.int .i64 0, .int .i64 0, .int .i64 0, .bool false, .bool false]) (t := 72) ?hr ?_; (case hd => rfl); (case hg => rfl); (case hr => first | (go_simp; done) | (go_simp; rfl)); intro gb145 hg w32 hbox hb; have n0_ := am_ (bb_ BK144.out hb); have n1_ := am_ (below_step (ue_ HB.out) hb); have n2_ := am_ (hbox); have n3_ := am_ ((by rw [hg]; exact (below_size (ue_ HB.out)) : w.heap.size ≤ gb145)); have n4_ := am_ ((by rw [hg]; exact (below_size (ue_ HB.out)) : w.heap.size ≤ gb145)); have n5_ := am_ ((by rw [hg]; exact Nat.ne_of_lt (bl_ BK144.out) : gb144 ≠ gb145)); have n6_ := am_ ((by rw [hg]; exact Nat.ne_of_gt (bl_ BK144.out) : gb145 ≠ gb144)); clear BK144 HB; have BK144 := n0_; have HB := n1_; have BK145 := n2_; have GW145 := n3_; have GE145 := n4_; have NB144_145 := n5_; have NB145_144 := n6_; clear n0_ n1_ n2_ n3_ n4_ n5_ n6_; clear hb hbox hg; have hnb33 := NB144_145.out; have hnc33 := NB145_144.out; obtain ⟨hcz34_0, hcz34_1, hcz34_2, hcz34_3, hcz34_4⟩ := cb5_ BK144.out; obtain ⟨hfz34_0, hfz34_1, hfz34_2, hfz34_3⟩ := bf4_ BK144.out; have hfz34_4 := blk_frozen BK144.out 4) | ((with_reducible refine gate_callee (f := 147) rfl ?_); refine goesL_ (some 6) rfl rfl Try.func147 (by kernel_rfl) rfl #[.agg #[.int .i64 a0_0, .int .i64 a0_1, .int .i64 a0_2, .bool a0_3, .bool a0_4]] rfl ul_ ?_; (with_reducible refine (spec_SourceOk.calls a0_0 a0_1 a0_2 a0_3 a0_4 false _ A2.out).mono ?_); rintro e w35 ⟨rfl, hb⟩; refine ⟨_, rfl, ?_⟩; have n0_ := am_ (bb_ BK144.out hb); have n1_ := am_ (bb_ BK145.out hb); have n2_ := am_ (below_step (ue_ HB.out) hb); clear BK144 BK145 HB; have BK144 := n0_; have BK145 := n1_; have HB := n2_; clear n0_ n1_ n2_; (try clear hb); (try clear hb2); (try clear hk); (try clear hi); obtain ⟨hcz36_0, hcz36_1, hcz36_2, hcz36_3, hcz36_4⟩ := cb5_ BK144.out; obtain ⟨hfz36_0, hfz36_1, hfz36_2, hfz36_3, hfz36_4⟩ := bf5_ BK144.out; obtain ⟨hcz37_0, hcz37_1, hcz37_2, hcz37_3, hcz37_4⟩ := cb5_ BK145.out; obtain ⟨hfz37_0, hfz37_1, hfz37_2, hfz37_3⟩ := bf4_ BK145.out; have hfz37_4 := blk_frozen BK145.out 4) | ((with_reducible refine gate_store (t := 72) (p := 2) rfl ?_); refine store_event (t := 72) (p := 2) (v := ?vo_w38) (w1 := (((((w35.setCell ⟨gb145, 0, none⟩ (.int .i64 a0_0)).setCell ⟨gb145, 1, none⟩ (.int .i64 a0_1)).setCell ⟨gb145, 2, none⟩ (.int .i64 a0_2)).setCell ⟨gb145, 3, none⟩ (.bool a0_3)).setCell ⟨gb145, 4, none⟩ (.bool a0_4))) ?hg ?ho ?hn ?hr ?_; (case ho => rfl); (case hg => rfl); (case hn => rfl); (case hr => first | (go_simp; done) | (go_simp; rfl)); intro w38 hw; have n0_ : Aside0 (w38.heap[gb144]? = some (.cells #[.int .i64 a0_0, .int .i64 a0_1, .int .i64 a0_2, .bool a0_3, .bool a0_4] 72 (0, 0))) := ⟨(by rw [hw]; exact (uf_ BK144.out))⟩; have n1_ : Aside0 (w38.heap[gb145]? = some (.cells #[.int .i64 a0_0, .int .i64 a0_1, .int .i64 a0_2, .bool a0_3, .bool a0_4] 72 (0, 0))) := ⟨(by rw [hw]; exact (by (with_reducible repeat first|apply bn_|apply bd_|apply ba_); refine blk_put (cs := #[.int .i64 a0_0, .int .i64 a0_1, .int .i64 a0_2, .bool a0_3, .bool false]) ?_ 4 _ rfl; refine blk_put (cs := #[.int .i64 a0_0, .int .i64 a0_1, .int .i64 a0_2, .bool false, .bool false]) ?_ 3 _ rfl; refine blk_put (cs := #[.int .i64 a0_0, .int .i64 a0_1, .int .i64 0, .bool false, .bool false]) ?_ 2 _ rfl; refine blk_put (cs := #[.int .i64 a0_0, .int .i64 0, .int .i64 0, .bool false, .bool false]) ?_ 1 _ rfl; refine blk_put (cs := #[.int .i64 0, .int .i64 0, .int .i64 0, .bool false, .bool false]) ?_ 0 _ rfl; (with_reducible repeat first|apply bn_|apply bd_|apply ba_); exact BK145.out))⟩; have n2_ : Aside0 (Below w.heap.size w w38) := ⟨(by rw [hw]; exact (ue_ HB.out))⟩; clear hw BK144 BK145 HB; have BK144 := n0_; have BK145 := n1_; have HB := n2_; clear n0_ n1_ n2_))
  refine bodyPost_ret (results_ct rfl _ _ gb145 72 #[.int .i64 a0_0, .int .i64 a0_1, .int .i64 a0_2, .bool a0_3, .bool a0_4] (0, 0) _ rfl (ub_ BK145.out) Try.underlying72 rfl (by kernel_rfl)) rfl ?_
  exact ⟨ew_, ue_ HB.out⟩

end Go.Proofs.Ytcflalomjehiiaa.QFnExactPlaySource
