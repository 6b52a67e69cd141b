/- The machine side of a law: Lean functions with the Go functions' answers and the walks that show it. No condition. -/
import Derived.Test.YtcflalomjehiiaaQFnExactPlaySourcex0
import Derived.Test.YtcflalomjehiiaaQFnExactPlaySourcex4
import Derived.Test.YtcflalomjehiiaaQFnExactPlaySourcex5
namespace Go.Proofs.Ytcflalomjehiiaa.QFnExactPlaySource
open Go.RowKit Go.Proofs.YtcflalomjehiiaaW.PrintWords Go.Proofs.YtcflalomjehiiaaW.PrintLast Go.Proofs.YtcflalomjehiiaaW.PrintMore
attribute [local go_sem] max2_int min2_int max_two min_two max_three min_three max_four min_four   -- for this text's walks alone
set_option linter.unusedVariables false
set_option linter.unusedSimpArgs false

/-! ### impl_PlaySource: function 53 -/
def impl_PlaySource.l0 : Nat → Int → Int → List Int → List (List Int) → Int → Int → Int → Int → Int → Bool → Bool → Option (Int × Int × Int × Bool × Bool × List Int)
 | 0, _, _, _, _, _, _, _, _, _, _, _ => none
 | k + 1, x0, x1, x10, x23, x24, x25, x283000, x283001, x283002, x283003, x283004 => if x25 < x24 then (if 0 ≤ x25 then (if x25 < (x23.length : Int) then (if ((rd_L1 x23 x25).length : Int) = 3 then (if 0 < ((rd_L1 x23 x25).length : Int) then (if (rd (rd_L1 x23 x25) 0) = 0 then (if 1 < ((rd_L1 x23 x25).length : Int) then (if 2 < ((rd_L1 x23 x25).length : Int) then ((impl_SeeEvent.f x283000 x283001 x283002 x283003 x283004 x0 (rd (rd_L1 x23 x25) 1) (rd (rd_L1 x23 x25) 2)).bind fun bt290 => (if bt290.2.2.2.2.2 = true then (if x10.length < 17592186044416 then (impl_PlaySource.l0 k x0 x1 (x10 ++ [bt290.2.1]) x23 x24 (wrap64 (x25 + 1)) bt290.1 bt290.2.1 bt290.2.2.1 bt290.2.2.2.1 bt290.2.2.2.2.1) else (none)) else (if x10.length < 17592186044416 then (impl_PlaySource.l0 k x0 x1 (x10 ++ [(-2)]) x23 x24 (wrap64 (x25 + 1)) bt290.1 bt290.2.1 bt290.2.2.1 bt290.2.2.2.1 bt290.2.2.2.2.1) else (none)))) else (none)) else (none)) else (if (rd (rd_L1 x23 x25) 0) = 1 then (if 1 < ((rd_L1 x23 x25).length : Int) then (if 2 < ((rd_L1 x23 x25).length : Int) then ((impl_SeeMark.f x283000 x283001 x283002 x283003 x283004 (rd (rd_L1 x23 x25) 1) (rd (rd_L1 x23 x25) 2)).bind fun bt304 => (if bt304.2.2.2.2.2 = true then (if x10.length < 17592186044416 then (impl_PlaySource.l0 k x0 x1 (x10 ++ [bt304.2.1]) x23 x24 (wrap64 (x25 + 1)) bt304.1 bt304.2.1 bt304.2.2.1 bt304.2.2.2.1 bt304.2.2.2.2.1) else (none)) else (if x10.length < 17592186044416 then (impl_PlaySource.l0 k x0 x1 (x10 ++ [(-2)]) x23 x24 (wrap64 (x25 + 1)) bt304.1 bt304.2.1 bt304.2.2.1 bt304.2.2.2.1 bt304.2.2.2.2.1) else (none)))) else (none)) else (none)) else (if (rd (rd_L1 x23 x25) 0) = 2 then (if 2 < ((rd_L1 x23 x25).length : Int) then ((impl_SeeTick.f x283000 x283001 x283002 x283003 x283004 x1 (rd (rd_L1 x23 x25) 2)).bind fun bt317 => (if bt317.2.2.2.2.2 = true then (if x10.length < 17592186044416 then (impl_PlaySource.l0 k x0 x1 (x10 ++ [bt317.2.1]) x23 x24 (wrap64 (x25 + 1)) bt317.1 bt317.2.1 bt317.2.2.1 bt317.2.2.2.1 bt317.2.2.2.2.1) else (none)) else (if x10.length < 17592186044416 then (impl_PlaySource.l0 k x0 x1 (x10 ++ [(-2)]) x23 x24 (wrap64 (x25 + 1)) bt317.1 bt317.2.1 bt317.2.2.1 bt317.2.2.2.1 bt317.2.2.2.2.1) else (none)))) else (none)) else (if (rd (rd_L1 x23 x25) 0) = 3 then ((impl_CloseSource.f x283000 x283001 x283002 x283003 x283004).bind fun bt329 => (if bt329.2.2.2.2.2 = true then (if x10.length < 17592186044416 then (impl_PlaySource.l0 k x0 x1 (x10 ++ [bt329.2.1]) x23 x24 (wrap64 (x25 + 1)) bt329.1 bt329.2.1 bt329.2.2.1 bt329.2.2.2.1 bt329.2.2.2.2.1) else (none)) else (if x10.length < 17592186044416 then (impl_PlaySource.l0 k x0 x1 (x10 ++ [(-2)]) x23 x24 (wrap64 (x25 + 1)) bt329.1 bt329.2.1 bt329.2.2.1 bt329.2.2.2.1 bt329.2.2.2.2.1) else (none)))) else (if x10.length < 17592186044416 then (impl_PlaySource.l0 k x0 x1 (x10 ++ [(-2)]) x23 x24 (wrap64 (x25 + 1)) x283000 x283001 x283002 x283003 x283004) else (none)))))) else (none)) else (if x10.length < 17592186044416 then (impl_PlaySource.l0 k x0 x1 (x10 ++ [(-2)]) x23 x24 (wrap64 (x25 + 1)) x283000 x283001 x283002 x283003 x283004) else (none))) else (none)) else (none)) else (some (x283000, x283001, x283002, x283003, x283004, x10))
def impl_PlaySource.f (k : Nat) (a0 : Int) (a1 : Int) (l2 : List (List Int)) : Option (Int × Int × Int × Bool × Bool × List Int) := if (l2.length : Int) > 300 then (some (0, 0, 0, false, false, ([] : List Int))) else ((impl_NewSource.f 0).bind fun bt276 => (impl_PlaySource.l0 k a0 a1 (([] : List Int)) l2 (l2.length : Int) 0 bt276.1 bt276.2.1 bt276.2.2.1 bt276.2.2.2.1 bt276.2.2.2.2.1))
theorem impl_PlaySource.mono_l : ∀ k, (∀ y0 y1 y2 y3 y4 y5 y6 y7 y8 y9 y10, LeO (impl_PlaySource.l0 k y0 y1 y2 y3 y4 y5 y6 y7 y8 y9 y10) (impl_PlaySource.l0 (k + 1) y0 y1 y2 y3 y4 y5 y6 y7 y8 y9 y10))
 | 0 => fun _ _ _ _ _ _ _ _ _ _ _ r h => by simp [impl_PlaySource.l0] at h
 | k + 1 => by
  have ih0 := impl_PlaySource.mono_l k
  ·
   intro y0 y1 y2 y3 y4 y5 y6 y7 y8 y9 y10
   unfold impl_PlaySource.l0
   repeat' first
   | (with_reducible exact ih0 _ _ _ _ _ _ _ _ _ _ _)
   | (with_reducible exact LeO.refl _)
   | (with_reducible exact LeO.none _)
   | (with_reducible refine LeO.ite ?_ ?_)
   | (with_reducible refine LeO.bind ?_ (fun _ => ?_))
   | exact ih0 _ _ _ _ _ _ _ _ _ _ _
   | exact LeO.none _
   | refine LeO.ite ?_ ?_
   | refine LeO.bind ?_ (fun _ => ?_)
theorem impl_PlaySource.mono : ∀ a0 a1 a2 k, LeO (impl_PlaySource.f k a0 a1 a2) (impl_PlaySource.f (k + 1) a0 a1 a2) := by
 intro a0 a1 a2 k
 have ih0 := impl_PlaySource.mono_l k
 unfold impl_PlaySource.f
 repeat' first
   | (with_reducible exact ih0 _ _ _ _ _ _ _ _ _ _ _)
   | (with_reducible exact LeO.refl _)
   | (with_reducible exact LeO.none _)
   | (with_reducible refine LeO.ite ?_ ?_)
   | (with_reducible refine LeO.bind ?_ (fun _ => ?_))
   | exact ih0 _ _ _ _ _ _ _ _ _ _ _
   | exact LeO.none _
   | refine LeO.ite ?_ ?_
   | refine LeO.bind ?_ (fun _ => ?_)
def impl_PlaySource.T12 : Bool × List (List Nat × List Nat) := (true, [([], []), ([], []), ([], []), ([2], [2]), ([3], [3]), ([], []), ([5], [5]), ([6], [6]), ([0, 1, 4, 7], [0, 1, 4, 7]), ([8], [8]), ([9], [9]), ([9], [9]), ([10, 8, 0, 1, 2, 3, 4, 5, 6, 7, 8, 9, 10], [10]), ([11, 12, 0, 1, 2, 3, 4, 5, 6, 7, 8, 9, 10, 11, 12], [11])])
def impl_PlaySource.B12 : List Nat := [0, 0, 0, 4, 12, 0, 32, 96, 255, 511, 1023, 1023, 2047, 8191]
theorem impl_PlaySource.tab12 : rtab .any (opsOf Try.f53 12) = impl_PlaySource.T12 := by kernel_rfl
theorem impl_PlaySource.bits12 : waitsOk impl_PlaySource.T12.2 impl_PlaySource.B12 = true := by kernel_rfl
def impl_PlaySource.T14 : Bool × List (List Nat × List Nat) := (true, [([], []), ([], []), ([1], [1]), ([2], [2]), ([], []), ([4], [4]), ([5], [5]), ([0, 3, 6], [0, 3, 6]), ([7], [7]), ([8], [8]), ([8], [8]), ([9, 7, 0, 1, 2, 3, 4, 5, 6, 7, 8, 9], [9]), ([10, 11, 0, 1, 2, 3, 4, 5, 6, 7, 8, 9, 10, 11], [10])])
def impl_PlaySource.B14 : List Nat := [0, 0, 2, 6, 0, 16, 48, 127, 255, 511, 511, 1023, 4095]
theorem impl_PlaySource.tab14 : rtab .any (opsOf Try.f53 14) = impl_PlaySource.T14 := by kernel_rfl
theorem impl_PlaySource.bits14 : waitsOk impl_PlaySource.T14.2 impl_PlaySource.B14 = true := by kernel_rfl
def impl_PlaySource.T16 : Bool × List (List Nat × List Nat) := (true, [([], []), ([], []), ([], []), ([2], [2]), ([3], [3]), ([0, 1, 4], [0, 1, 4]), ([5], [5]), ([6], [6]), ([6], [6]), ([7, 5, 0, 1, 2, 3, 4, 5, 6, 7], [7]), ([8, 9, 0, 1, 2, 3, 4, 5, 6, 7, 8, 9], [8])])
def impl_PlaySource.B16 : List Nat := [0, 0, 0, 4, 12, 31, 63, 127, 127, 255, 1023]
theorem impl_PlaySource.tab16 : rtab .any (opsOf Try.f53 16) = impl_PlaySource.T16 := by kernel_rfl
theorem impl_PlaySource.bits16 : waitsOk impl_PlaySource.T16.2 impl_PlaySource.B16 = true := by kernel_rfl
set_option maxHeartbeats 8000000 in
set_option maxRecDepth 100000 in
theorem impl_PlaySource.calls (k : Nat) (a0 : Int) (a1 : Int) (A2 : Option Addr) (c2 : Nat) (l2 : List (List Int)) (r1 : Int) (r2 : Int) (r3 : Int) (r4 : Bool) (r5 : Bool) (r6 : List Int) (w : World) (hr2 : Kd.C (Kd.slice 3 (Kd.int .i64)) w A2 l2.length l2) (hc2 : l2.length ≤ c2) (h : impl_PlaySource.f k a0 a1 l2 = some (r1, r2, r3, r4, r5, r6)) :
  Calls Try.prog 53 #[.int .i64 a0, .int .i64 a1, .slice A2 l2.length c2] w fun e w' => ∃ v5_ : Value, e = .returned (.tuple #[.agg #[.int .i64 r1, .int .i64 r2, .int .i64 r3, .bool r4, .bool r5], v5_]) ∧ Kd.R (Kd.int .i64) 3 w' w.heap.size (fun _ => True) v5_ r6 ∧ Below w.heap.size w w' := by
 have hu72 := Try.underlying72
 have HR2 := Aside0.mk hr2
 have HC2 := Aside0.mk hc2
 clear hr2 hc2
 have HB := am_ (Below.refl w.heap.size w)
 have H : (if (l2.length : Int) > 300 then (some (0, 0, 0, false, false, ([] : List Int))) else ((impl_NewSource.f 0).bind fun bt276 => (impl_PlaySource.l0 k a0 a1 (([] : List Int)) l2 (l2.length : Int) 0 bt276.1 bt276.2.1 bt276.2.2.1 bt276.2.2.2.1 bt276.2.2.2.2.1))) = some (r1, r2, r3, r4, r5, r6) := h
 clear h
 by_cases c4 : (l2.length : Int) > 300
 ·
  rw [if_pos c4] at H
  have c4b0 : decide (300 < (l2.length : Int)) = true := decide_eq_true c4
  have c4b1 : decide (300 < l2.length) = true := decide_eq_true (by omega)
  clear c4
  simp only [Option.some.injEq, Prod.mk.injEq] at H
  obtain ⟨rfl, rfl, rfl, rfl, rfl, rfl⟩ := H
  go_enter Try.func53, Try.ntmps53
  go_wp2_with (first | ((with_reducible refine gate_dst (N := 6) rfl ?_); refine box_event ?hg (N := 6) ?hd (cs := #[.int .i64 0, .int .i64 0, .int .i64 0, .bool false, .bool false]) (t := 72) ?hr ?_; (case hd => rfl); (case hg => rfl); (case hr => first | (go_simp; done) | (go_simp; rfl)); intro gb275 hg w5 hbox hb; have n0_ := am_ (below_step (ue_ HB.out) hb); have n1_ := am_ (hbox); have n2_ := am_ ((by rw [hg]; exact (below_size (ue_ HB.out)) : w.heap.size ≤ gb275)); have n3_ := am_ ((by rw [hg]; exact (below_size (ue_ HB.out)) : w.heap.size ≤ gb275)); clear HB; have HB := n0_; have BK275 := n1_; have GW275 := n2_; have GE275 := n3_; clear n0_ n1_ n2_ n3_; clear hb hbox hg; obtain ⟨hcz6_0, hcz6_1, hcz6_2, hcz6_3, hcz6_4⟩ := cb5_ BK275.out; obtain ⟨hfz6_0, hfz6_1, hfz6_2, hfz6_3⟩ := bf4_ BK275.out; have hfz6_4 := blk_frozen BK275.out 4) | ((with_reducible refine gate_store (t := 72) (p := 6) rfl ?_); refine store_event (t := 72) (p := 6) (v := ?vo_w7) (w1 := (((((w5.setCell ⟨gb275, 0, none⟩ (.int .i64 0)).setCell ⟨gb275, 1, none⟩ (.int .i64 0)).setCell ⟨gb275, 2, none⟩ (.int .i64 0)).setCell ⟨gb275, 3, none⟩ (.bool false)).setCell ⟨gb275, 4, none⟩ (.bool false))) ?hg ?ho ?hn ?hr ?_; (case ho => rfl); (case hg => rfl); (case hn => rfl); (case hr => first | (go_simp; done) | (go_simp; rfl)); intro w7 hw; have n0_ : Aside0 (w7.heap[gb275]? = some (.cells #[.int .i64 0, .int .i64 0, .int .i64 0, .bool false, .bool false] 72 (0, 0))) := ⟨(by rw [hw]; exact (by (with_reducible repeat first|apply bn_|apply bd_|apply ba_); refine blk_put (cs := #[.int .i64 0, .int .i64 0, .int .i64 0, .bool false, .bool false]) ?_ 4 _ rfl; refine blk_put (cs := #[.int .i64 0, .int .i64 0, .int .i64 0, .bool false, .bool false]) ?_ 3 _ rfl; refine blk_put (cs := #[.int .i64 0, .int .i64 0, .int .i64 0, .bool false, .bool false]) ?_ 2 _ rfl; refine blk_put (cs := #[.int .i64 0, .int .i64 0, .int .i64 0, .bool false, .bool false]) ?_ 1 _ rfl; refine blk_put (cs := #[.int .i64 0, .int .i64 0, .int .i64 0, .bool false, .bool false]) ?_ 0 _ rfl; (with_reducible repeat first|apply bn_|apply bd_|apply ba_); exact BK275.out))⟩; have n1_ : Aside0 (Below w.heap.size w w7) := ⟨(by rw [hw]; exact (ue_ HB.out))⟩; clear hw BK275 HB; have BK275 := n0_; have HB := n1_; clear n0_ n1_))
  refine bodyPost_ret (results_ct rfl _ _ gb275 72 #[.int .i64 0, .int .i64 0, .int .i64 0, .bool false, .bool false] (0, 0) _ rfl (ub_ BK275.out) Try.underlying72 rfl (by kernel_rfl)) rfl ?_
  exact ⟨_, ew_, by first | exact Kd.R_nil _ _ _ _ _ | exact Kd.N_nil _ _ _ _ _ | exact Kd.V_nil _ _ _ _ _ | exact Kd.Q_nil _ _ _ _ _ | exact Kd.S_nil _ _ _ _ _, ue_ HB.out⟩
 ·
  rw [if_neg c4] at H
  have c4b0 : decide (300 < (l2.length : Int)) = false := decide_eq_false c4
  have c4b1 : decide (300 < l2.length) = false := decide_eq_false (by omega)
  clear c4
  replace H := Option.bind_eq_some_iff.mp H
  obtain ⟨⟨t276, t277, t278, t279, t280, t281⟩, A80, H⟩ := H
  replace H : (impl_PlaySource.l0 k a0 a1 (([] : List Int)) l2 (l2.length : Int) 0 t276 t277 t278 t279 t280) = some (r1, r2, r3, r4, r5, r6) := H
  have A8 := Aside0.mk A80
  clear A80
  obtain ⟨y283, hy283⟩ : ∃ y_ : List Int, y_ = (([] : List Int)) := ⟨_, rfl⟩
  replace H : (impl_PlaySource.l0 k a0 a1 y283 l2 (l2.length : Int) 0 t276 t277 t278 t279 t280) = some (r1, r2, r3, r4, r5, r6) := by first | (rw [hy283]; with_reducible exact H) | (have H2_ := (Option.bind_some _ _).symm.trans H; rw [hy283]; with_reducible exact H2_) | (have H2_ := (Option.bind_some _ _).symm.trans H; with_reducible exact H2_) | with_reducible exact H | (rw [hy283]; exact H) | exact H
  have Ny283 := Aside0.mk hy283
  clear hy283
  have H' := Aside0.mk H
  clear H
  go_enter Try.func53, Try.ntmps53
  go_wp2_with (first | ((with_reducible refine gate_dst (N := 6) rfl ?_); refine box_event ?hg (N := 6) ?hd (cs := #[.int .i64 0, .int .i64 0, .int .i64 0, .bool false, .bool false]) (t := 72) ?hr ?_; (case hd => rfl); (case hg => rfl); (case hr => first | (go_simp; done) | (go_simp; rfl)); intro gb275 hg w9 hbox hb; have n0_ := am_ (below_step (ue_ HB.out) hb); have n1_ := am_ (hbox); have n2_ := am_ ((by rw [hg]; exact (below_size (ue_ HB.out)) : w.heap.size ≤ gb275)); have n3_ := am_ ((by rw [hg]; exact (below_size (ue_ HB.out)) : w.heap.size ≤ gb275)); clear HB; have HB := n0_; have BK275 := n1_; have GW275 := n2_; have GE275 := n3_; clear n0_ n1_ n2_ n3_; clear hb hbox hg) | ((with_reducible refine gate_callee (f := 135) rfl ?_); refine goesL_ (some 19) rfl rfl Try.func135 (by kernel_rfl) rfl #[.int .i64 0] rfl ul_ ?_; (with_reducible refine (impl_NewSource.calls 0 t276 t277 t278 t279 t280 t281 _ A8.out).mono ?_); rintro e w10 ⟨rfl, hb⟩; refine ⟨_, rfl, ?_⟩; have n0_ := am_ (bb_ BK275.out hb); have n1_ := am_ (below_step (ue_ HB.out) hb); clear BK275 HB; have BK275 := n0_; have HB := n1_; clear n0_ n1_; (try clear hb); (try clear hb2); (try clear hk); (try clear hi)) | ((with_reducible refine gate_dst (N := 8) rfl ?_); refine box_event ?hg (N := 8) ?hd (cs := #[.int .i64 0, .int .i64 0, .int .i64 0, .bool false, .bool false]) (t := 72) ?hr ?_; (case hd => rfl); (case hg => rfl); (case hr => first | (go_simp; done) | (go_simp; rfl)); intro gb282 hg w11 hbox hb; have n0_ := am_ (bb_ BK275.out hb); have n1_ := am_ (below_step (ue_ HB.out) hb); have n2_ := am_ (hbox); have n3_ := am_ ((by rw [hg]; exact (below_size (ue_ HB.out)) : w.heap.size ≤ gb282)); have n4_ := am_ ((by rw [hg]; exact (below_size (ue_ HB.out)) : w.heap.size ≤ gb282)); have n5_ := am_ ((by rw [hg]; exact Nat.ne_of_lt (bl_ BK275.out) : gb275 ≠ gb282)); have n6_ := am_ ((by rw [hg]; exact Nat.ne_of_gt (bl_ BK275.out) : gb282 ≠ gb275)); clear BK275 HB; have BK275 := n0_; have HB := n1_; have BK282 := n2_; have GW282 := n3_; have GE282 := n4_; have NB275_282 := n5_; have NB282_275 := n6_; clear n0_ n1_ n2_ n3_ n4_ n5_ n6_; clear hb hbox hg; have hnb12 := NB282_275.out; have hnc12 := NB275_282.out; obtain ⟨hcz13_0, hcz13_1, hcz13_2, hcz13_3, hcz13_4⟩ := cb5_ BK282.out; obtain ⟨hfz13_0, hfz13_1, hfz13_2, hfz13_3⟩ := bf4_ BK282.out; have hfz13_4 := blk_frozen BK282.out 4) | ((with_reducible refine gate_store (t := 72) (p := 8) rfl ?_); refine store_event (t := 72) (p := 8) (v := ?vo_w14) (w1 := (((((w11.setCell ⟨gb282, 0, none⟩ (.int .i64 t276)).setCell ⟨gb282, 1, none⟩ (.int .i64 t277)).setCell ⟨gb282, 2, none⟩ (.int .i64 t278)).setCell ⟨gb282, 3, none⟩ (.bool t279)).setCell ⟨gb282, 4, none⟩ (.bool t280))) ?hg ?ho ?hn ?hr ?_; (case ho => rfl); (case hg => rfl); (case hn => rfl); (case hr => first | (go_simp; done) | (go_simp; rfl)); intro w14 hw; have n0_ : Aside0 (w14.heap[gb275]? = some (.cells #[.int .i64 0, .int .i64 0, .int .i64 0, .bool false, .bool false] 72 (0, 0))) := ⟨(by rw [hw]; exact (uf_ BK275.out))⟩; have n1_ : Aside0 (w14.heap[gb282]? = some (.cells #[.int .i64 t276, .int .i64 t277, .int .i64 t278, .bool t279, .bool t280] 72 (0, 0))) := ⟨(by rw [hw]; exact (by (with_reducible repeat first|apply bn_|apply bd_|apply ba_); refine blk_put (cs := #[.int .i64 t276, .int .i64 t277, .int .i64 t278, .bool t279, .bool false]) ?_ 4 _ rfl; refine blk_put (cs := #[.int .i64 t276, .int .i64 t277, .int .i64 t278, .bool false, .bool false]) ?_ 3 _ rfl; refine blk_put (cs := #[.int .i64 t276, .int .i64 t277, .int .i64 0, .bool false, .bool false]) ?_ 2 _ rfl; refine blk_put (cs := #[.int .i64 t276, .int .i64 0, .int .i64 0, .bool false, .bool false]) ?_ 1 _ rfl; refine blk_put (cs := #[.int .i64 0, .int .i64 0, .int .i64 0, .bool false, .bool false]) ?_ 0 _ rfl; (with_reducible repeat first|apply bn_|apply bd_|apply ba_); exact BK282.out))⟩; have n2_ : Aside0 (Below w.heap.size w w14) := ⟨(by rw [hw]; exact (ue_ HB.out))⟩; clear hw BK275 BK282 HB; have BK275 := n0_; have BK282 := n1_; have HB := n2_; clear n0_ n1_ n2_) | ((with_reducible refine gate_dst (N := 22) rfl ?_); refine Kd.R_lit (Kd.int .i64) _ 3 ?hg (N := 22) ?hd (xs := ([] : List Int)) (inner := []) (ok := fun _ => True) (okp := fun _ => True) ?hr ?hp (fun _ hk => hk) trivial (Below.refl _ _) (Nat.le_refl _) (by simp) ?_; (case hd => rfl); (case hg => rfl); (case hr => first | (go_simp; done) | (go_simp; rfl)); (case hp => exact (Reps.none _ _)); intro v284 w15 ho16 hb hg_ hnew_; clear hg_ hnew_; (first | rw [← Ny283.out] at ho16 | (simp only [Int.reduceToNat] at ho16; rw [← Ny283.out] at ho16)); have n0_ := am_ (Kd.R_lower ho16 (below_size (ue_ HB.out))); have n1_ := am_ (bb_ BK275.out hb); have n2_ := am_ (bb_ BK282.out hb); have n3_ := am_ (below_step (ue_ HB.out) hb); clear BK275 BK282 HB; have HO285 := n0_; have BK275 := n1_; have BK282 := n2_; have HB := n3_; clear n0_ n1_ n2_ n3_; clear hb ho16))
  (try simp only [Act.put, List.setIfInBounds_toArray, List.set_cons_zero, List.set_cons_succ])
  go_loopg [10, 25] k (fun kq v10 v25 w' => ∃ (x10_1 : List Int) (x25_1 : Int) (x283000_1 : Int) (x283001_1 : Int) (x283002_1 : Int) (x283003_1 : Bool) (x283004_1 : Bool), v25 = .int .i64 x25_1 ∧ Aside0 (impl_PlaySource.l0 kq a0 a1 x10_1 l2 (l2.length : Int) x25_1 x283000_1 x283001_1 x283002_1 x283003_1 x283004_1 = some (r1, r2, r3, r4, r5, r6)) ∧ Aside0 (kq ≤ k) ∧ Aside0 (Kd.R (Kd.int .i64) 3 w' w.heap.size (fun _ => True) v10 x10_1) ∧ Aside0 (w'.heap[gb275]? = some (.cells #[.int .i64 0, .int .i64 0, .int .i64 0, .bool false, .bool false] 72 (0, 0))) ∧ Aside0 (w'.heap[gb282]? = some (.cells #[.int .i64 x283000_1, .int .i64 x283001_1, .int .i64 x283002_1, .bool x283003_1, .bool x283004_1] 72 (0, 0))) ∧ Aside0 (Below w.heap.size w w'))
  case atStart => exact ⟨(y283), (0), (t276), (t277), (t278), (t279), (t280), (by first | rfl | (simp; done) | (simp [*]; done)), H', ⟨Nat.le_refl _⟩, ⟨by (with_reducible repeat (first | apply Kd.R_alloc | apply Kd.R_drewN | apply Kd.R_drew)); exact HO285.out⟩, ⟨by (with_reducible repeat first|apply bn_|apply bd_|apply ba_); exact BK275.out⟩, ⟨by (with_reducible repeat first|apply bn_|apply bd_|apply ba_); exact BK282.out⟩, ⟨ue_ HB.out⟩⟩
  case round =>
   clear H'
   try clear c1
   try clear c2
   try clear p2
   try clear c4
   try clear c4b0
   try clear c4b1
   try clear c5
   try clear c12
   try clear c13
   try clear hcz13_0
   try clear hcz13_1
   try clear hcz13_2
   try clear hcz13_3
   try clear hcz13_4
   try clear hcz6_0
   try clear hcz6_1
   try clear hcz6_2
   try clear hcz6_3
   try clear hcz6_4
   try clear hfz13_0
   try clear hfz13_1
   try clear hfz13_2
   try clear hfz13_3
   try clear hfz13_4
   try clear hfz6_0
   try clear hfz6_1
   try clear hfz6_2
   try clear hfz6_3
   try clear hfz6_4
   obtain ⟨x10_1, x25_1, x283000_1, x283001_1, x283002_1, x283003_1, x283004_1, rfl, HA, HK1, HO_10, BK275, BK282, HB⟩ := hrel
   cases gk with
   | zero => exact absurd HA.out (by simp [impl_PlaySource.l0])
   | succ k1 =>
    have H := HA.out
    clear HA
    simp only [impl_PlaySource.l0] at H
    by_cases c17 : x25_1 < (l2.length : Int)
    ·
     rw [if_pos c17] at H
     have c17b0 : decide (x25_1 < (l2.length : Int)) = true := decide_eq_true c17
     clear c17
     by_cases c18 : 0 ≤ x25_1
     ·
      rw [if_pos c18] at H
      have c18b0 : decide (0 ≤ x25_1) = true := decide_eq_true c18
      clear c18
      by_cases c19 : x25_1 < (l2.length : Int)
      ·
       rw [if_pos c19] at H
       have c19b0 : decide (x25_1 < (l2.length : Int)) = true := decide_eq_true c19
       clear c19
       by_cases c20 : ((rd_L1 l2 x25_1).length : Int) = 3
       ·
        rw [if_pos c20] at H
        have c20b0 : (((rd_L1 l2 x25_1).length : Int) == 3) = true := beq_iff_eq.mpr c20
        have c20b1 : (((rd_L1 l2 x25_1).length : Int) != 3) = false := bne_eq_false_iff_eq.mpr c20
        clear c20
        by_cases c21 : 0 < ((rd_L1 l2 x25_1).length : Int)
        ·
         rw [if_pos c21] at H
         have c21b0 : decide (0 < ((rd_L1 l2 x25_1).length : Int)) = true := decide_eq_true c21
         have c21b1 : decide (0 < (rd_L1 l2 x25_1).length) = true := decide_eq_true (by omega)
         clear c21
         by_cases c22 : (rd (rd_L1 l2 x25_1) 0) = 0
         ·
          rw [if_pos c22] at H
          have c22b0 : ((rd (rd_L1 l2 x25_1) 0) == 0) = true := beq_iff_eq.mpr c22
          have c22b1 : ((rd (rd_L1 l2 x25_1) 0) != 0) = false := bne_eq_false_iff_eq.mpr c22
          clear c22
          by_cases c23 : 1 < ((rd_L1 l2 x25_1).length : Int)
          ·
           rw [if_pos c23] at H
           have c23b0 : decide (1 < ((rd_L1 l2 x25_1).length : Int)) = true := decide_eq_true c23
           have c23b1 : decide (1 < (rd_L1 l2 x25_1).length) = true := decide_eq_true (by omega)
           clear c23
           by_cases c24 : 2 < ((rd_L1 l2 x25_1).length : Int)
           ·
            rw [if_pos c24] at H
            have c24b0 : decide (2 < ((rd_L1 l2 x25_1).length : Int)) = true := decide_eq_true c24
            have c24b1 : decide (2 < (rd_L1 l2 x25_1).length) = true := decide_eq_true (by omega)
            clear c24
            replace H := Option.bind_eq_some_iff.mp H
            obtain ⟨⟨t290, t291, t292, t293, t294, t295⟩, A250, H⟩ := H
            replace H : (if t295 = true then (if x10_1.length < 17592186044416 then (impl_PlaySource.l0 k1 a0 a1 (x10_1 ++ [t291]) l2 (l2.length : Int) (wrap64 (x25_1 + 1)) t290 t291 t292 t293 t294) else (none)) else (if x10_1.length < 17592186044416 then (impl_PlaySource.l0 k1 a0 a1 (x10_1 ++ [(-2)]) l2 (l2.length : Int) (wrap64 (x25_1 + 1)) t290 t291 t292 t293 t294) else (none))) = some (r1, r2, r3, r4, r5, r6) := H
            have A25 := Aside0.mk A250
            clear A250
            by_cases c26 : t295 = true
            ·
             subst c26
             have H1 : (if x10_1.length < 17592186044416 then (impl_PlaySource.l0 k1 a0 a1 (x10_1 ++ [t291]) l2 (l2.length : Int) (wrap64 (x25_1 + 1)) t290 t291 t292 t293 t294) else (none)) = some (r1, r2, r3, r4, r5, r6) := by rw [if_pos rfl] at H; exact H
             clear H
             have H := H1
             clear H1
             by_cases c27 : x10_1.length < 17592186044416
             ·
              rw [if_pos c27] at H
              have LMc27 := Aside0.mk c27
              clear c27
              obtain ⟨y296, hy296⟩ : ∃ y_ : List Int, y_ = (x10_1 ++ [t291]) := ⟨_, rfl⟩
              replace H : (impl_PlaySource.l0 k1 a0 a1 y296 l2 (l2.length : Int) (wrap64 (x25_1 + 1)) t290 t291 t292 t293 t294) = some (r1, r2, r3, r4, r5, r6) := by first | (rw [hy296]; with_reducible exact H) | (have H2_ := (Option.bind_some _ _).symm.trans H; rw [hy296]; with_reducible exact H2_) | (have H2_ := (Option.bind_some _ _).symm.trans H; with_reducible exact H2_) | with_reducible exact H | (rw [hy296]; exact H) | exact H
              have Ny296 := Aside0.mk hy296
              clear hy296
              have H' := Aside0.mk H
              clear H
              have p286 : 0 ≤ (x25_1 : Int) := of_decide_eq_true ua_
              have q286 : x25_1 < (l2.length : Int) := of_decide_eq_true ua_
              obtain ⟨ad286, A286_0, c286_0, e286, hx286_0, hl286_0, hi286_0⟩ := at_L1 HR2.out x25_1 p286 q286
              cases e286
              replace hx286_0 := bc_ HB.out hx286_0
              have HR286_0 := Aside0.mk hi286_0
              have HC286_0 := Aside0.mk hl286_0
              clear hi286_0 hl286_0
              replace p286 := eq_true p286
              replace q286 := eq_true q286
              have p287 : 0 ≤ (0 : Int) := (by omega)
              have q287 : 0 < ((rd_L1 l2 x25_1).length : Int) := of_decide_eq_true ua_
              obtain ⟨ad287, e287, hx287_0⟩ := Kd.at_int HR286_0.out 0 p287 q287
              cases e287
              have qi287 : (0 < (rd_L1 l2 x25_1).length) = True := eq_true (by omega)
              (try rw [show ((0 : Int)).toNat = 0 from rfl] at hx287_0)
              (try rw [Addr.add_zero'] at hx287_0)
              replace hx287_0 := bc_ HB.out hx287_0
              replace p287 := eq_true p287
              replace q287 := eq_true q287
              try go_wp2
              have n0_ := am_ (Kd.R_drew HO_10.out)
              have n1_ := am_ (blk_drew BK275.out)
              have n2_ := am_ (blk_drew BK282.out)
              have n3_ := am_ (below_drew1 HB.out)
              clear HO_10
              clear BK275
              clear BK282
              clear HB
              have HO_10 := n0_
              have BK275 := n1_
              have BK282 := n2_
              have HB := n3_
              clear n0_ n1_ n2_ n3_
              have p288 : 0 ≤ (1 : Int) := (by omega)
              have q288 : 1 < ((rd_L1 l2 x25_1).length : Int) := of_decide_eq_true ua_
              obtain ⟨ad288, e288, hx288_0⟩ := Kd.at_int HR286_0.out 1 p288 q288
              have hw288_0 := hx288_0
              (try rw [show ((1 : Int)).toNat = 1 from rfl] at hw288_0)
              (try rw [show 1 * 1 = 1 from rfl] at hw288_0)
              (try simp only [Nat.reduceMul, Nat.reduceEqDiff, Go.Addr.add, ↓reduceIte] at hw288_0)
              obtain rfl : ad287 = ad288 := (by injection e288)
              (try simp only [show (1 : Int).toNat = 1 from rfl, Nat.reduceMul, Nat.reduceEqDiff, Go.Addr.add, ↓reduceIte] at hx288_0)
              have qi288 : (1 < (rd_L1 l2 x25_1).length) = True := eq_true (by omega)
              (try rw [show ((1 : Int)).toNat = 1 from rfl] at hx288_0)
              replace hx288_0 := bc_ HB.out hx288_0
              replace p288 := eq_true p288
              replace q288 := eq_true q288
              have p289 : 0 ≤ (2 : Int) := (by omega)
              have q289 : 2 < ((rd_L1 l2 x25_1).length : Int) := of_decide_eq_true ua_
              obtain ⟨ad289, e289, hx289_0⟩ := Kd.at_int HR286_0.out 2 p289 q289
              have hw289_0 := hx289_0
              (try rw [show ((2 : Int)).toNat = 2 from rfl] at hw289_0)
              (try rw [show 2 * 1 = 2 from rfl] at hw289_0)
              (try simp only [Nat.reduceMul, Nat.reduceEqDiff, Go.Addr.add, ↓reduceIte] at hw289_0)
              obtain rfl : ad287 = ad289 := (by injection e289)
              (try simp only [show (2 : Int).toNat = 2 from rfl, Nat.reduceMul, Nat.reduceEqDiff, Go.Addr.add, ↓reduceIte] at hx289_0)
              have qi289 : (2 < (rd_L1 l2 x25_1).length) = True := eq_true (by omega)
              (try rw [show ((2 : Int)).toNat = 2 from rfl] at hx289_0)
              replace hx289_0 := bc_ HB.out hx289_0
              replace p289 := eq_true p289
              replace q289 := eq_true q289
              refine start_ (n := 14) (S := fun w' => w'.cell? ⟨gb282, 0, none⟩ = some (.int .i64 x283000_1) ∧ w'.cell? ⟨gb282, 1, none⟩ = some (.int .i64 x283001_1) ∧ w'.cell? ⟨gb282, 2, none⟩ = some (.int .i64 x283002_1) ∧ w'.cell? ⟨gb282, 3, none⟩ = some (.bool x283003_1) ∧ w'.cell? ⟨gb282, 4, none⟩ = some (.bool x283004_1) ∧ w'.cell? ⟨ad287.block, ad287.off + 1, none⟩ = some (.int .i64 (rd (rd_L1 l2 x25_1) 1)) ∧ w'.cell? ⟨ad287.block, ad287.off + 2, none⟩ = some (.int .i64 (rd (rd_L1 l2 x25_1) 2))) (ds := [12]) #[false, false, false, false, false, false, false, false, false, false, false, false, false, false] (by kernel_rfl) rfl rfl ⟨(blk_cell BK282.out 0).trans rfl, (blk_cell BK282.out 1).trans rfl, (blk_cell BK282.out 2).trans rfl, (blk_cell BK282.out 3).trans rfl, (blk_cell BK282.out 4).trans rfl, ((HB.out.cell (World.block_lt_of_cell? w _ hw288_0)).trans hw288_0), ((HB.out.cell (World.block_lt_of_cell? w _ hw289_0)).trans hw289_0)⟩ (fun hHeld => ?_); refine with_tabW impl_PlaySource.tab12 impl_PlaySource.bits12 (fun HT_ HW_ => ?_)
              generalize wr.drew = w28 at HO_10 BK275 BK282 HB hx288_0 hx289_0 hHeld ⊢
              refine pure_ (i := 1) (N := some 39) (v := ?_) (a' := ?_) #[false, true, false, false, false, false, false, false, false, false, false, false, false, false] rfl rfl (any_of HT_.out (by kernel_rfl)) (fun _ _ _ h => h) (Or.inl ⟨by rfl, ?_⟩) ?_ ?_
              rotate_left
              ·
               intro w'
               go_simp
               with_reducible rfl
              rotate_left
              ·
               simp only [Act.put, List.setIfInBounds_toArray, List.set_cons_zero, List.set_cons_succ, i64_w, i32_w]
               rfl
              refine pure_ (i := 2) (N := some 40) (v := ?_) (a' := ?_) #[false, true, true, false, false, false, false, false, false, false, false, false, false, false] rfl rfl (any_of HT_.out (by kernel_rfl)) (fun _ _ _ h => h) (Or.inl ⟨by rfl, ?_⟩) ?_ ?_
              rotate_left
              ·
               intro w'
               go_simp
               with_reducible rfl
              rotate_left
              ·
               simp only [Act.put, List.setIfInBounds_toArray, List.set_cons_zero, List.set_cons_succ, i64_w, i32_w]
               rfl
              refine pure_ (i := 3) (N := some 41) (v := ?_) (a' := ?_) #[false, true, true, true, false, false, false, false, false, false, false, false, false, false] rfl rfl (any_of HT_.out (by kernel_rfl)) (fun _ _ _ h => h) (Or.inl ⟨by rfl, ?_⟩) ?_ ?_
              rotate_left
              ·
               intro w'
               go_simp
               with_reducible rfl
              rotate_left
              ·
               simp only [Act.put, List.setIfInBounds_toArray, List.set_cons_zero, List.set_cons_succ, i64_w, i32_w]
               rfl
              refine pure_ (i := 5) (N := some 43) (v := ?_) (a' := ?_) #[false, true, true, true, false, true, false, false, false, false, false, false, false, false] rfl rfl (any_of HT_.out (by kernel_rfl)) (fun _ _ _ h => h) (Or.inl ⟨by rfl, ?_⟩) ?_ ?_
              rotate_left
              ·
               intro w'
               go_simp
               with_reducible rfl
              rotate_left
              ·
               simp only [Act.put, List.setIfInBounds_toArray, List.set_cons_zero, List.set_cons_succ, i64_w, i32_w]
               rfl
              refine pure_ (i := 6) (N := some 44) (v := ?_) (a' := ?_) #[false, true, true, true, false, true, true, false, false, false, false, false, false, false] rfl rfl (any_of HT_.out (by kernel_rfl)) (fun _ _ _ h => h) (Or.inl ⟨by rfl, ?_⟩) ?_ ?_
              rotate_left
              ·
               intro w'
               go_simp
               with_reducible rfl
              rotate_left
              ·
               simp only [Act.put, List.setIfInBounds_toArray, List.set_cons_zero, List.set_cons_succ, i64_w, i32_w]
               rfl
              refine take_ (i := 0) (N := some 38) (v := ?_) (a' := ?_) #[true, true, true, true, false, true, true, false, false, false, false, false, false, false] rfl rfl (take_ofW HT_.out HW_.out (by kernel_rfl)) (fun _ _ _ h => h) (Or.inl ⟨by rfl, ?_⟩) hHeld ?_ ?_
              rotate_left
              ·
               rintro w' ⟨s0, s1, s2, s3, s4, s5, s6⟩
               go_simp
               with_reducible rfl
              rotate_left
              ·
               simp only [Act.put, List.setIfInBounds_toArray, List.set_cons_zero, List.set_cons_succ, i64_w, i32_w]
               rfl
              refine take_ (i := 4) (N := some 42) (v := ?_) (a' := ?_) #[true, true, true, true, true, true, true, false, false, false, false, false, false, false] rfl rfl (take_ofW HT_.out HW_.out (by kernel_rfl)) (fun _ _ _ h => h) (Or.inl ⟨by rfl, ?_⟩) hHeld ?_ ?_
              rotate_left
              ·
               rintro w' ⟨s0, s1, s2, s3, s4, s5, s6⟩
               go_simp
               with_reducible rfl
              rotate_left
              ·
               simp only [Act.put, List.setIfInBounds_toArray, List.set_cons_zero, List.set_cons_succ, i64_w, i32_w]
               rfl
              refine take_ (i := 7) (N := some 45) (v := ?_) (a' := ?_) #[true, true, true, true, true, true, true, true, false, false, false, false, false, false] rfl rfl (take_ofW HT_.out HW_.out (by kernel_rfl)) (fun _ _ _ h => h) (Or.inl ⟨by rfl, ?_⟩) hHeld ?_ ?_
              rotate_left
              ·
               rintro w' ⟨s0, s1, s2, s3, s4, s5, s6⟩
               go_simp
               with_reducible rfl
              rotate_left
              ·
               simp only [Act.put, List.setIfInBounds_toArray, List.set_cons_zero, List.set_cons_succ, i64_w, i32_w]
               rfl
              refine one_ (i := 8) (N := some 46) #[true, true, true, true, true, true, true, true, true, false, false, false, false, false] rfl rfl (one_of HT_.out (by kernel_rfl)) (by decide) (fun K hK => ?_)
              refine goes_ Try.func136 (by kernel_rfl) rfl #[.agg #[.int .i64 x283000_1, .int .i64 x283001_1, .int .i64 x283002_1, .bool x283003_1, .bool x283004_1], .int .i64 a0, .int .i64 (rd (rd_L1 l2 x25_1) 1), .int .i64 (rd (rd_L1 l2 x25_1) 2)] (by rfl) rfl rfl ul_ ?_
              with_reducible refine (impl_SeeEvent.calls x283000_1 x283001_1 x283002_1 x283003_1 x283004_1 a0 (rd (rd_L1 l2 x25_1) 1) (rd (rd_L1 l2 x25_1) 2) t290 t291 t292 t293 t294 true _ A25.out).mono ?_
              rintro e w29 ⟨rfl, hb⟩
              refine ⟨_, rfl, ?_⟩
              have n0_ := am_ (Kd.R_below (ur_ HO_10.out) hb)
              have n1_ := am_ (bb_ BK275.out hb)
              have n2_ := am_ (bb_ BK282.out hb)
              have n3_ := am_ (below_step (ue_ HB.out) hb)
              clear HO_10
              clear BK275
              clear BK282
              clear HB
              have HO_10 := n0_
              have BK275 := n1_
              have BK282 := n2_
              have HB := n3_
              clear n0_ n1_ n2_ n3_
              (try clear hb)
              (try clear hb2)
              (try clear hk)
              (try clear hi)
              refine hK.out _ _ ⟨(blk_cell BK282.out 0).trans rfl, (blk_cell BK282.out 1).trans rfl, (blk_cell BK282.out 2).trans rfl, (blk_cell BK282.out 3).trans rfl, (blk_cell BK282.out 4).trans rfl, ((HB.out.cell (World.block_lt_of_cell? w _ hw288_0)).trans hw288_0), ((HB.out.cell (World.block_lt_of_cell? w _ hw289_0)).trans hw289_0)⟩ (fun hHeld => ?_)
              clear hK K
              refine norm_ (a' := ?_) ?_ ?_
              rotate_left
              ·
               show Act.put _ (some 46) _ = _
               simp only [Act.put, List.setIfInBounds_toArray, List.set_cons_zero, List.set_cons_succ, i64_w, i32_w]
               rfl
              refine pure_ (i := 9) (N := some 37) (v := ?_) (a' := ?_) #[true, true, true, true, true, true, true, true, true, true, false, false, false, false] rfl rfl (any_of HT_.out (by kernel_rfl)) (fun _ _ _ h => h) (Or.inl ⟨by rfl, ?_⟩) ?_ ?_
              rotate_left
              ·
               intro w'
               go_simp
               with_reducible rfl
              rotate_left
              ·
               simp only [Act.put, List.setIfInBounds_toArray, List.set_cons_zero, List.set_cons_succ, i64_w, i32_w]
               rfl
              refine pure_ (i := 10) (N := some 47) (v := ?_) (a' := ?_) #[true, true, true, true, true, true, true, true, true, true, true, false, false, false] rfl rfl (any_of HT_.out (by kernel_rfl)) (fun _ _ _ h => h) (Or.inl ⟨by rfl, ?_⟩) ?_ ?_
              rotate_left
              ·
               intro w'
               go_simp
               with_reducible rfl
              rotate_left
              ·
               simp only [Act.put, List.setIfInBounds_toArray, List.set_cons_zero, List.set_cons_succ, i64_w, i32_w]
               rfl
              refine pure_ (i := 11) (N := some 48) (v := ?_) (a' := ?_) #[true, true, true, true, true, true, true, true, true, true, true, true, false, false] rfl rfl (any_of HT_.out (by kernel_rfl)) (fun _ _ _ h => h) (Or.inl ⟨by rfl, ?_⟩) ?_ ?_
              rotate_left
              ·
               intro w'
               go_simp
               with_reducible rfl
              rotate_left
              ·
               simp only [Act.put, List.setIfInBounds_toArray, List.set_cons_zero, List.set_cons_succ, i64_w, i32_w]
               rfl
              refine last_ (i := 12) (N := none) #[true, true, true, true, true, true, true, true, true, true, true, true, true, false] rfl rfl (one_of HT_.out (by kernel_rfl)) (by decide) (fun K hK => ?_)
              have hs30 := cb_ BK282.out 0 rfl
              have hfs30 := blk_frozen BK282.out 0
              have hns30_0 := NB275_282.out
              have hms30_0 := NB282_275.out
              have hs31 := cb_ BK282.out 1 rfl
              have hfs31 := blk_frozen BK282.out 1
              have hns31_0 := NB275_282.out
              have hms31_0 := NB282_275.out
              have hs32 := cb_ BK282.out 2 rfl
              have hfs32 := blk_frozen BK282.out 2
              have hns32_0 := NB275_282.out
              have hms32_0 := NB282_275.out
              have hs33 := cb_ BK282.out 3 rfl
              have hfs33 := blk_frozen BK282.out 3
              have hns33_0 := NB275_282.out
              have hms33_0 := NB282_275.out
              have hs34 := cb_ BK282.out 4 rfl
              have hfs34 := blk_frozen BK282.out 4
              have hns34_0 := NB275_282.out
              have hms34_0 := NB282_275.out
              refine skip_ (w1 := ?_) (by rfl) rfl ?_ ?_
              rotate_left
              ·
               go_simp
               rfl
              refine hK.out _ _ ?_
              clear hK K
              refine pure_ (i := 13) (N := some 13) (v := ?_) (a' := ?_) #[true, true, true, true, true, true, true, true, true, true, true, true, true, true] rfl rfl (any_of HT_.out (by kernel_rfl)) (fun _ _ _ h => h) (Or.inl ⟨by rfl, ?_⟩) ?_ ?_
              rotate_left
              ·
               intro w'
               go_simp
               with_reducible rfl
              rotate_left
              ·
               simp only [Act.put, List.setIfInBounds_toArray, List.set_cons_zero, List.set_cons_succ, i64_w, i32_w]
               rfl
              refine done_ (done_of HT_.out (by kernel_rfl)) ?_
              have hnb35 := NB282_275.out
              have hnc35 := NB275_282.out
              have hcz36_0 := cb_ BK282.out 0 rfl
              have hcz36_1 := cb_ BK282.out 1 rfl
              have hcz36_2 := cb_ BK282.out 2 rfl
              have hcz36_3 := cb_ BK282.out 3 rfl
              have hcz36_4 := cb_ BK282.out 4 rfl
              have hfz36_0 := blk_frozen BK282.out 0
              have hfz36_1 := blk_frozen BK282.out 1
              have hfz36_2 := blk_frozen BK282.out 2
              have hfz36_3 := blk_frozen BK282.out 3
              have hfz36_4 := blk_frozen BK282.out 4
              try go_wp2_with (first | ((with_reducible refine gate_builtin (b := .append) (xs := #[.tmp 81, .tmp 84]) rfl ?_); at_builtin; refine Kd.R_append (Kd.int .i64) (w0 := w) w.heap.size rfl (.tmp 81) (.tmp 84) 22 3 (.int .i64 0) 8 rfl Try.underlying22 info3 rfl (by decide) (by omega) u10 x10_1 t291 [.int .i64 t291] (fun _ => True) (fun _ => False) rfl (by first | (go_simp; done) | (go_simp; rfl)) ?aP (fun _ hk => hk.elim) ?aF ?aO ?aB ?aS ?aL ?_; (case aP => exact rfl); (case aB => exact (ue_ HB.out)); (case aF => exact (fun _ _ => trivial)); (case aO => exact (by (with_reducible repeat (first | apply Kd.R_alloc | apply Kd.R_drewN | apply Kd.R_drew)); exact Kd.R_mono (Kd.R_far (p := ⟨gb282, 4, none⟩) (Kd.R_far (p := ⟨gb282, 3, none⟩) (Kd.R_far (p := ⟨gb282, 2, none⟩) (Kd.R_far (p := ⟨gb282, 1, none⟩) (Kd.R_far (p := ⟨gb282, 0, none⟩) (Kd.R_types HO_10.out BK282.out (by decide)) (fun _ hk => by first | exact hk.2 | grind) (.int .i64 t290)) (fun _ hk => by first | exact hk.2 | grind) (.int .i64 t291)) (fun _ hk => by first | exact hk.2 | grind) (.int .i64 t292)) (fun _ hk => by first | exact hk.2 | grind) (.bool t293)) (fun _ hk => by first | exact hk.2 | grind) (.bool t294)) (fun _ hk => trivial))); (case aS => exact (below_size (ue_ HB.out))); (case aL => have := LMc27.out; omega); intro v297 w37 ho hb hg hat; rw [← Ny296.out] at ho; have n0_ := am_ (blk_grown (g := gb275) (o := .cells #[.int .i64 0, .int .i64 0, .int .i64 0, .bool false, .bool false] 72 (0, 0)) (uf_ BK275.out) hg (Kd.R_ne HO_10.out BK275.out (by decide))); have n1_ := am_ (blk_grown (g := gb282) (o := .cells #[.int .i64 t290, .int .i64 t291, .int .i64 t292, .bool t293, .bool t294] 72 (0, 0)) (by (with_reducible repeat first|apply bn_|apply bd_|apply ba_); refine blk_put (cs := #[.int .i64 t290, .int .i64 t291, .int .i64 t292, .bool t293, .bool x283004_1]) ?_ 4 _ rfl; refine blk_put (cs := #[.int .i64 t290, .int .i64 t291, .int .i64 t292, .bool x283003_1, .bool x283004_1]) ?_ 3 _ rfl; refine blk_put (cs := #[.int .i64 t290, .int .i64 t291, .int .i64 x283002_1, .bool x283003_1, .bool x283004_1]) ?_ 2 _ rfl; refine blk_put (cs := #[.int .i64 t290, .int .i64 x283001_1, .int .i64 x283002_1, .bool x283003_1, .bool x283004_1]) ?_ 1 _ rfl; refine blk_put (cs := #[.int .i64 x283000_1, .int .i64 x283001_1, .int .i64 x283002_1, .bool x283003_1, .bool x283004_1]) ?_ 0 _ rfl; (with_reducible repeat first|apply bn_|apply bd_|apply ba_); exact BK282.out) hg (Kd.R_ne HO_10.out BK282.out (by decide))); have n2_ := am_ (hb); have n3_ := am_ (ho); clear BK275 BK282 HB HO_10; have BK275 := n0_; have BK282 := n1_; have HB := n2_; have HO298 := n3_; clear n0_ n1_ n2_ n3_; clear ho hb hg hat))
              go_roundg k1
              case measure => have := HK1.out; omega
              case rel => exact ⟨(y296), (wrap64 (x25_1 + 1)), (t290), (t291), (t292), (t293), (t294), (by first | rfl | (simp; done) | (simp [*]; done)), H', ⟨by have := HK1.out; omega⟩, ⟨by (with_reducible repeat (first | apply Kd.R_alloc | apply Kd.R_drewN | apply Kd.R_drew)); exact HO298.out⟩, ⟨by (with_reducible repeat first|apply bn_|apply bd_|apply ba_); exact BK275.out⟩, ⟨by (with_reducible repeat first|apply bn_|apply bd_|apply ba_); exact BK282.out⟩, ⟨ue_ HB.out⟩⟩
             ·
              rw [if_neg c27] at H
              exact absurd H (by simp)
            ·
             replace c26 := Bool.eq_false_iff.mpr c26
             subst c26
             have H1 : (if x10_1.length < 17592186044416 then (impl_PlaySource.l0 k1 a0 a1 (x10_1 ++ [(-2)]) l2 (l2.length : Int) (wrap64 (x25_1 + 1)) t290 t291 t292 t293 t294) else (none)) = some (r1, r2, r3, r4, r5, r6) := by rw [if_neg (show ¬ (false = true) by decide)] at H; exact H
             clear H
             have H := H1
             clear H1
             by_cases c38 : x10_1.length < 17592186044416
             ·
              rw [if_pos c38] at H
              have LMc38 := Aside0.mk c38
              clear c38
              obtain ⟨y299, hy299⟩ : ∃ y_ : List Int, y_ = (x10_1 ++ [(-2)]) := ⟨_, rfl⟩
              replace H : (impl_PlaySource.l0 k1 a0 a1 y299 l2 (l2.length : Int) (wrap64 (x25_1 + 1)) t290 t291 t292 t293 t294) = some (r1, r2, r3, r4, r5, r6) := by first | (rw [hy299]; with_reducible exact H) | (have H2_ := (Option.bind_some _ _).symm.trans H; rw [hy299]; with_reducible exact H2_) | (have H2_ := (Option.bind_some _ _).symm.trans H; with_reducible exact H2_) | with_reducible exact H | (rw [hy299]; exact H) | exact H
              have Ny299 := Aside0.mk hy299
              clear hy299
              have H' := Aside0.mk H
              clear H
              have p286 : 0 ≤ (x25_1 : Int) := of_decide_eq_true ua_
              have q286 : x25_1 < (l2.length : Int) := of_decide_eq_true ua_
              obtain ⟨ad286, A286_0, c286_0, e286, hx286_0, hl286_0, hi286_0⟩ := at_L1 HR2.out x25_1 p286 q286
              cases e286
              replace hx286_0 := bc_ HB.out hx286_0
              have HR286_0 := Aside0.mk hi286_0
              have HC286_0 := Aside0.mk hl286_0
              clear hi286_0 hl286_0
              replace p286 := eq_true p286
              replace q286 := eq_true q286
              have p287 : 0 ≤ (0 : Int) := (by omega)
              have q287 : 0 < ((rd_L1 l2 x25_1).length : Int) := of_decide_eq_true ua_
              obtain ⟨ad287, e287, hx287_0⟩ := Kd.at_int HR286_0.out 0 p287 q287
              cases e287
              have qi287 : (0 < (rd_L1 l2 x25_1).length) = True := eq_true (by omega)
              (try rw [show ((0 : Int)).toNat = 0 from rfl] at hx287_0)
              (try rw [Addr.add_zero'] at hx287_0)
              replace hx287_0 := bc_ HB.out hx287_0
              replace p287 := eq_true p287
              replace q287 := eq_true q287
              try go_wp2
              have n0_ := am_ (Kd.R_drew HO_10.out)
              have n1_ := am_ (blk_drew BK275.out)
              have n2_ := am_ (blk_drew BK282.out)
              have n3_ := am_ (below_drew1 HB.out)
              clear HO_10
              clear BK275
              clear BK282
              clear HB
              have HO_10 := n0_
              have BK275 := n1_
              have BK282 := n2_
              have HB := n3_
              clear n0_ n1_ n2_ n3_
              have p288 : 0 ≤ (1 : Int) := (by omega)
              have q288 : 1 < ((rd_L1 l2 x25_1).length : Int) := of_decide_eq_true ua_
              obtain ⟨ad288, e288, hx288_0⟩ := Kd.at_int HR286_0.out 1 p288 q288
              have hw288_0 := hx288_0
              (try rw [show ((1 : Int)).toNat = 1 from rfl] at hw288_0)
              (try rw [show 1 * 1 = 1 from rfl] at hw288_0)
              (try simp only [Nat.reduceMul, Nat.reduceEqDiff, Go.Addr.add, ↓reduceIte] at hw288_0)
              obtain rfl : ad287 = ad288 := (by injection e288)
              (try simp only [show (1 : Int).toNat = 1 from rfl, Nat.reduceMul, Nat.reduceEqDiff, Go.Addr.add, ↓reduceIte] at hx288_0)
              have qi288 : (1 < (rd_L1 l2 x25_1).length) = True := eq_true (by omega)
              (try rw [show ((1 : Int)).toNat = 1 from rfl] at hx288_0)
              replace hx288_0 := bc_ HB.out hx288_0
              replace p288 := eq_true p288
              replace q288 := eq_true q288
              have p289 : 0 ≤ (2 : Int) := (by omega)
              have q289 : 2 < ((rd_L1 l2 x25_1).length : Int) := of_decide_eq_true ua_
              obtain ⟨ad289, e289, hx289_0⟩ := Kd.at_int HR286_0.out 2 p289 q289
              have hw289_0 := hx289_0
              (try rw [show ((2 : Int)).toNat = 2 from rfl] at hw289_0)
              (try rw [show 2 * 1 = 2 from rfl] at hw289_0)
              (try simp only [Nat.reduceMul, Nat.reduceEqDiff, Go.Addr.add, ↓reduceIte] at hw289_0)
              obtain rfl : ad287 = ad289 := (by injection e289)
              (try simp only [show (2 : Int).toNat = 2 from rfl, Nat.reduceMul, Nat.reduceEqDiff, Go.Addr.add, ↓reduceIte] at hx289_0)
              have qi289 : (2 < (rd_L1 l2 x25_1).length) = True := eq_true (by omega)
              (try rw [show ((2 : Int)).toNat = 2 from rfl] at hx289_0)
              replace hx289_0 := bc_ HB.out hx289_0
              replace p289 := eq_true p289
              replace q289 := eq_true q289
              refine start_ (n := 14) (S := fun w' => w'.cell? ⟨gb282, 0, none⟩ = some (.int .i64 x283000_1) ∧ w'.cell? ⟨gb282, 1, none⟩ = some (.int .i64 x283001_1) ∧ w'.cell? ⟨gb282, 2, none⟩ = some (.int .i64 x283002_1) ∧ w'.cell? ⟨gb282, 3, none⟩ = some (.bool x283003_1) ∧ w'.cell? ⟨gb282, 4, none⟩ = some (.bool x283004_1) ∧ w'.cell? ⟨ad287.block, ad287.off + 1, none⟩ = some (.int .i64 (rd (rd_L1 l2 x25_1) 1)) ∧ w'.cell? ⟨ad287.block, ad287.off + 2, none⟩ = some (.int .i64 (rd (rd_L1 l2 x25_1) 2))) (ds := [12]) #[false, false, false, false, false, false, false, false, false, false, false, false, false, false] (by kernel_rfl) rfl rfl ⟨(blk_cell BK282.out 0).trans rfl, (blk_cell BK282.out 1).trans rfl, (blk_cell BK282.out 2).trans rfl, (blk_cell BK282.out 3).trans rfl, (blk_cell BK282.out 4).trans rfl, ((HB.out.cell (World.block_lt_of_cell? w _ hw288_0)).trans hw288_0), ((HB.out.cell (World.block_lt_of_cell? w _ hw289_0)).trans hw289_0)⟩ (fun hHeld => ?_); refine with_tabW impl_PlaySource.tab12 impl_PlaySource.bits12 (fun HT_ HW_ => ?_)
              generalize wr.drew = w39 at HO_10 BK275 BK282 HB hx288_0 hx289_0 hHeld ⊢
              refine pure_ (i := 1) (N := some 39) (v := ?_) (a' := ?_) #[false, true, false, false, false, false, false, false, false, false, false, false, false, false] rfl rfl (any_of HT_.out (by kernel_rfl)) (fun _ _ _ h => h) (Or.inl ⟨by rfl, ?_⟩) ?_ ?_
              rotate_left
              ·
               intro w'
               go_simp
               with_reducible rfl
              rotate_left
              ·
               simp only [Act.put, List.setIfInBounds_toArray, List.set_cons_zero, List.set_cons_succ, i64_w, i32_w]
               rfl
              refine pure_ (i := 2) (N := some 40) (v := ?_) (a' := ?_) #[false, true, true, false, false, false, false, false, false, false, false, false, false, false] rfl rfl (any_of HT_.out (by kernel_rfl)) (fun _ _ _ h => h) (Or.inl ⟨by rfl, ?_⟩) ?_ ?_
              rotate_left
              ·
               intro w'
               go_simp
               with_reducible rfl
              rotate_left
              ·
               simp only [Act.put, List.setIfInBounds_toArray, List.set_cons_zero, List.set_cons_succ, i64_w, i32_w]
               rfl
              refine pure_ (i := 3) (N := some 41) (v := ?_) (a' := ?_) #[false, true, true, true, false, false, false, false, false, false, false, false, false, false] rfl rfl (any_of HT_.out (by kernel_rfl)) (fun _ _ _ h => h) (Or.inl ⟨by rfl, ?_⟩) ?_ ?_
              rotate_left
              ·
               intro w'
               go_simp
               with_reducible rfl
              rotate_left
              ·
               simp only [Act.put, List.setIfInBounds_toArray, List.set_cons_zero, List.set_cons_succ, i64_w, i32_w]
               rfl
              refine pure_ (i := 5) (N := some 43) (v := ?_) (a' := ?_) #[false, true, true, true, false, true, false, false, false, false, false, false, false, false] rfl rfl (any_of HT_.out (by kernel_rfl)) (fun _ _ _ h => h) (Or.inl ⟨by rfl, ?_⟩) ?_ ?_
              rotate_left
              ·
               intro w'
               go_simp
               with_reducible rfl
              rotate_left
              ·
               simp only [Act.put, List.setIfInBounds_toArray, List.set_cons_zero, List.set_cons_succ, i64_w, i32_w]
               rfl
              refine pure_ (i := 6) (N := some 44) (v := ?_) (a' := ?_) #[false, true, true, true, false, true, true, false, false, false, false, false, false, false] rfl rfl (any_of HT_.out (by kernel_rfl)) (fun _ _ _ h => h) (Or.inl ⟨by rfl, ?_⟩) ?_ ?_
              rotate_left
              ·
               intro w'
               go_simp
               with_reducible rfl
              rotate_left
              ·
               simp only [Act.put, List.setIfInBounds_toArray, List.set_cons_zero, List.set_cons_succ, i64_w, i32_w]
               rfl
              refine take_ (i := 0) (N := some 38) (v := ?_) (a' := ?_) #[true, true, true, true, false, true, true, false, false, false, false, false, false, false] rfl rfl (take_ofW HT_.out HW_.out (by kernel_rfl)) (fun _ _ _ h => h) (Or.inl ⟨by rfl, ?_⟩) hHeld ?_ ?_
              rotate_left
              ·
               rintro w' ⟨s0, s1, s2, s3, s4, s5, s6⟩
               go_simp
               with_reducible rfl
              rotate_left
              ·
               simp only [Act.put, List.setIfInBounds_toArray, List.set_cons_zero, List.set_cons_succ, i64_w, i32_w]
               rfl
              refine take_ (i := 4) (N := some 42) (v := ?_) (a' := ?_) #[true, true, true, true, true, true, true, false, false, false, false, false, false, false] rfl rfl (take_ofW HT_.out HW_.out (by kernel_rfl)) (fun _ _ _ h => h) (Or.inl ⟨by rfl, ?_⟩) hHeld ?_ ?_
              rotate_left
              ·
               rintro w' ⟨s0, s1, s2, s3, s4, s5, s6⟩
               go_simp
               with_reducible rfl
              rotate_left
              ·
               simp only [Act.put, List.setIfInBounds_toArray, List.set_cons_zero, List.set_cons_succ, i64_w, i32_w]
               rfl
              refine take_ (i := 7) (N := some 45) (v := ?_) (a' := ?_) #[true, true, true, true, true, true, true, true, false, false, false, false, false, false] rfl rfl (take_ofW HT_.out HW_.out (by kernel_rfl)) (fun _ _ _ h => h) (Or.inl ⟨by rfl, ?_⟩) hHeld ?_ ?_
              rotate_left
              ·
               rintro w' ⟨s0, s1, s2, s3, s4, s5, s6⟩
               go_simp
               with_reducible rfl
              rotate_left
              ·
               simp only [Act.put, List.setIfInBounds_toArray, List.set_cons_zero, List.set_cons_succ, i64_w, i32_w]
               rfl
              refine one_ (i := 8) (N := some 46) #[true, true, true, true, true, true, true, true, true, false, false, false, false, false] rfl rfl (one_of HT_.out (by kernel_rfl)) (by decide) (fun K hK => ?_)
              refine goes_ Try.func136 (by kernel_rfl) rfl #[.agg #[.int .i64 x283000_1, .int .i64 x283001_1, .int .i64 x283002_1, .bool x283003_1, .bool x283004_1], .int .i64 a0, .int .i64 (rd (rd_L1 l2 x25_1) 1), .int .i64 (rd (rd_L1 l2 x25_1) 2)] (by rfl) rfl rfl ul_ ?_
              with_reducible refine (impl_SeeEvent.calls x283000_1 x283001_1 x283002_1 x283003_1 x283004_1 a0 (rd (rd_L1 l2 x25_1) 1) (rd (rd_L1 l2 x25_1) 2) t290 t291 t292 t293 t294 false _ A25.out).mono ?_
              rintro e w40 ⟨rfl, hb⟩
              refine ⟨_, rfl, ?_⟩
              have n0_ := am_ (Kd.R_below (ur_ HO_10.out) hb)
              have n1_ := am_ (bb_ BK275.out hb)
              have n2_ := am_ (bb_ BK282.out hb)
              have n3_ := am_ (below_step (ue_ HB.out) hb)
              clear HO_10
              clear BK275
              clear BK282
              clear HB
              have HO_10 := n0_
              have BK275 := n1_
              have BK282 := n2_
              have HB := n3_
              clear n0_ n1_ n2_ n3_
              (try clear hb)
              (try clear hb2)
              (try clear hk)
              (try clear hi)
              refine hK.out _ _ ⟨(blk_cell BK282.out 0).trans rfl, (blk_cell BK282.out 1).trans rfl, (blk_cell BK282.out 2).trans rfl, (blk_cell BK282.out 3).trans rfl, (blk_cell BK282.out 4).trans rfl, ((HB.out.cell (World.block_lt_of_cell? w _ hw288_0)).trans hw288_0), ((HB.out.cell (World.block_lt_of_cell? w _ hw289_0)).trans hw289_0)⟩ (fun hHeld => ?_)
              clear hK K
              refine norm_ (a' := ?_) ?_ ?_
              rotate_left
              ·
               show Act.put _ (some 46) _ = _
               simp only [Act.put, List.setIfInBounds_toArray, List.set_cons_zero, List.set_cons_succ, i64_w, i32_w]
               rfl
              refine pure_ (i := 9) (N := some 37) (v := ?_) (a' := ?_) #[true, true, true, true, true, true, true, true, true, true, false, false, false, false] rfl rfl (any_of HT_.out (by kernel_rfl)) (fun _ _ _ h => h) (Or.inl ⟨by rfl, ?_⟩) ?_ ?_
              rotate_left
              ·
               intro w'
               go_simp
               with_reducible rfl
              rotate_left
              ·
               simp only [Act.put, List.setIfInBounds_toArray, List.set_cons_zero, List.set_cons_succ, i64_w, i32_w]
               rfl
              refine pure_ (i := 10) (N := some 47) (v := ?_) (a' := ?_) #[true, true, true, true, true, true, true, true, true, true, true, false, false, false] rfl rfl (any_of HT_.out (by kernel_rfl)) (fun _ _ _ h => h) (Or.inl ⟨by rfl, ?_⟩) ?_ ?_
              rotate_left
              ·
               intro w'
               go_simp
               with_reducible rfl
              rotate_left
              ·
               simp only [Act.put, List.setIfInBounds_toArray, List.set_cons_zero, List.set_cons_succ, i64_w, i32_w]
               rfl
              refine pure_ (i := 11) (N := some 48) (v := ?_) (a' := ?_) #[true, true, true, true, true, true, true, true, true, true, true, true, false, false] rfl rfl (any_of HT_.out (by kernel_rfl)) (fun _ _ _ h => h) (Or.inl ⟨by rfl, ?_⟩) ?_ ?_
              rotate_left
              ·
               intro w'
               go_simp
               with_reducible rfl
              rotate_left
              ·
               simp only [Act.put, List.setIfInBounds_toArray, List.set_cons_zero, List.set_cons_succ, i64_w, i32_w]
               rfl
              refine last_ (i := 12) (N := none) #[true, true, true, true, true, true, true, true, true, true, true, true, true, false] rfl rfl (one_of HT_.out (by kernel_rfl)) (by decide) (fun K hK => ?_)
              have hs41 := cb_ BK282.out 0 rfl
              have hfs41 := blk_frozen BK282.out 0
              have hns41_0 := NB275_282.out
              have hms41_0 := NB282_275.out
              have hs42 := cb_ BK282.out 1 rfl
              have hfs42 := blk_frozen BK282.out 1
              have hns42_0 := NB275_282.out
              have hms42_0 := NB282_275.out
              have hs43 := cb_ BK282.out 2 rfl
              have hfs43 := blk_frozen BK282.out 2
              have hns43_0 := NB275_282.out
              have hms43_0 := NB282_275.out
              have hs44 := cb_ BK282.out 3 rfl
              have hfs44 := blk_frozen BK282.out 3
              have hns44_0 := NB275_282.out
              have hms44_0 := NB282_275.out
              have hs45 := cb_ BK282.out 4 rfl
              have hfs45 := blk_frozen BK282.out 4
              have hns45_0 := NB275_282.out
              have hms45_0 := NB282_275.out
              refine skip_ (w1 := ?_) (by rfl) rfl ?_ ?_
              rotate_left
              ·
               go_simp
               rfl
              refine hK.out _ _ ?_
              clear hK K
              refine pure_ (i := 13) (N := some 13) (v := ?_) (a' := ?_) #[true, true, true, true, true, true, true, true, true, true, true, true, true, true] rfl rfl (any_of HT_.out (by kernel_rfl)) (fun _ _ _ h => h) (Or.inl ⟨by rfl, ?_⟩) ?_ ?_
              rotate_left
              ·
               intro w'
               go_simp
               with_reducible rfl
              rotate_left
              ·
               simp only [Act.put, List.setIfInBounds_toArray, List.set_cons_zero, List.set_cons_succ, i64_w, i32_w]
               rfl
              refine done_ (done_of HT_.out (by kernel_rfl)) ?_
              try go_wp2_with (first | ((with_reducible refine gate_builtin (b := .append) (xs := #[.tmp 86, .tmp 87]) rfl ?_); at_builtin; refine Kd.R_append (Kd.int .i64) (w0 := w) w.heap.size rfl (.tmp 86) (.tmp 87) 22 3 (.int .i64 0) 8 rfl Try.underlying22 info3 rfl (by decide) (by omega) u10 x10_1 (-2) [.int .i64 (-2)] (fun _ => True) (fun _ => False) rfl (by first | (go_simp; done) | (go_simp; rfl)) ?aP (fun _ hk => hk.elim) ?aF ?aO ?aB ?aS ?aL ?_; (case aP => exact rfl); (case aB => exact (ue_ HB.out)); (case aF => exact (fun _ _ => trivial)); (case aO => exact (by (with_reducible repeat (first | apply Kd.R_alloc | apply Kd.R_drewN | apply Kd.R_drew)); exact Kd.R_mono (Kd.R_far (p := ⟨gb282, 4, none⟩) (Kd.R_far (p := ⟨gb282, 3, none⟩) (Kd.R_far (p := ⟨gb282, 2, none⟩) (Kd.R_far (p := ⟨gb282, 1, none⟩) (Kd.R_far (p := ⟨gb282, 0, none⟩) (Kd.R_types HO_10.out BK282.out (by decide)) (fun _ hk => by first | exact hk.2 | grind) (.int .i64 t290)) (fun _ hk => by first | exact hk.2 | grind) (.int .i64 t291)) (fun _ hk => by first | exact hk.2 | grind) (.int .i64 t292)) (fun _ hk => by first | exact hk.2 | grind) (.bool t293)) (fun _ hk => by first | exact hk.2 | grind) (.bool t294)) (fun _ hk => trivial))); (case aS => exact (below_size (ue_ HB.out))); (case aL => have := LMc38.out; omega); intro v300 w46 ho hb hg hat; rw [← Ny299.out] at ho; have n0_ := am_ (blk_grown (g := gb275) (o := .cells #[.int .i64 0, .int .i64 0, .int .i64 0, .bool false, .bool false] 72 (0, 0)) (uf_ BK275.out) hg (Kd.R_ne HO_10.out BK275.out (by decide))); have n1_ := am_ (blk_grown (g := gb282) (o := .cells #[.int .i64 t290, .int .i64 t291, .int .i64 t292, .bool t293, .bool t294] 72 (0, 0)) (by (with_reducible repeat first|apply bn_|apply bd_|apply ba_); refine blk_put (cs := #[.int .i64 t290, .int .i64 t291, .int .i64 t292, .bool t293, .bool x283004_1]) ?_ 4 _ rfl; refine blk_put (cs := #[.int .i64 t290, .int .i64 t291, .int .i64 t292, .bool x283003_1, .bool x283004_1]) ?_ 3 _ rfl; refine blk_put (cs := #[.int .i64 t290, .int .i64 t291, .int .i64 x283002_1, .bool x283003_1, .bool x283004_1]) ?_ 2 _ rfl; refine blk_put (cs := #[.int .i64 t290, .int .i64 x283001_1, .int .i64 x283002_1, .bool x283003_1, .bool x283004_1]) ?_ 1 _ rfl; refine blk_put (cs := #[.int .i64 x283000_1, .int .i64 x283001_1, .int .i64 x283002_1, .bool x283003_1, .bool x283004_1]) ?_ 0 _ rfl; (with_reducible repeat first|apply bn_|apply bd_|apply ba_); exact BK282.out) hg (Kd.R_ne HO_10.out BK282.out (by decide))); have n2_ := am_ (hb); have n3_ := am_ (ho); clear BK275 BK282 HB HO_10; have BK275 := n0_; have BK282 := n1_; have HB := n2_; have HO301 := n3_; clear n0_ n1_ n2_ n3_; clear ho hb hg hat))
              go_roundg k1
              case measure => have := HK1.out; omega
              case rel => exact ⟨(y299), (wrap64 (x25_1 + 1)), (t290), (t291), (t292), (t293), (t294), (by first | rfl | (simp; done) | (simp [*]; done)), H', ⟨by have := HK1.out; omega⟩, ⟨by (with_reducible repeat (first | apply Kd.R_alloc | apply Kd.R_drewN | apply Kd.R_drew)); exact HO301.out⟩, ⟨by (with_reducible repeat first|apply bn_|apply bd_|apply ba_); exact BK275.out⟩, ⟨by (with_reducible repeat first|apply bn_|apply bd_|apply ba_); exact BK282.out⟩, ⟨ue_ HB.out⟩⟩
             ·
              rw [if_neg c38] at H
              exact absurd H (by simp)
           ·
            rw [if_neg c24] at H
            exact absurd H (by simp)
          ·
           rw [if_neg c23] at H
           exact absurd H (by simp)
         ·
          rw [if_neg c22] at H
          have c22b0 : ((rd (rd_L1 l2 x25_1) 0) == 0) = false := beq_eq_false_iff_ne.mpr c22
          have c22b1 : ((rd (rd_L1 l2 x25_1) 0) != 0) = true := bne_iff_ne.mpr c22
          by_cases c47 : (rd (rd_L1 l2 x25_1) 0) = 1
          ·
           rw [if_pos c47] at H
           have c47b0 : ((rd (rd_L1 l2 x25_1) 0) == 1) = true := beq_iff_eq.mpr c47
           have c47b1 : ((rd (rd_L1 l2 x25_1) 0) != 1) = false := bne_eq_false_iff_eq.mpr c47
           clear c47
           by_cases c48 : 1 < ((rd_L1 l2 x25_1).length : Int)
           ·
            rw [if_pos c48] at H
            have c48b0 : decide (1 < ((rd_L1 l2 x25_1).length : Int)) = true := decide_eq_true c48
            have c48b1 : decide (1 < (rd_L1 l2 x25_1).length) = true := decide_eq_true (by omega)
            clear c48
            by_cases c49 : 2 < ((rd_L1 l2 x25_1).length : Int)
            ·
             rw [if_pos c49] at H
             have c49b0 : decide (2 < ((rd_L1 l2 x25_1).length : Int)) = true := decide_eq_true c49
             have c49b1 : decide (2 < (rd_L1 l2 x25_1).length) = true := decide_eq_true (by omega)
             clear c49
             replace H := Option.bind_eq_some_iff.mp H
             obtain ⟨⟨t304, t305, t306, t307, t308, t309⟩, A500, H⟩ := H
             replace H : (if t309 = true then (if x10_1.length < 17592186044416 then (impl_PlaySource.l0 k1 a0 a1 (x10_1 ++ [t305]) l2 (l2.length : Int) (wrap64 (x25_1 + 1)) t304 t305 t306 t307 t308) else (none)) else (if x10_1.length < 17592186044416 then (impl_PlaySource.l0 k1 a0 a1 (x10_1 ++ [(-2)]) l2 (l2.length : Int) (wrap64 (x25_1 + 1)) t304 t305 t306 t307 t308) else (none))) = some (r1, r2, r3, r4, r5, r6) := H
             have A50 := Aside0.mk A500
             clear A500
             by_cases c51 : t309 = true
             ·
              subst c51
              have H1 : (if x10_1.length < 17592186044416 then (impl_PlaySource.l0 k1 a0 a1 (x10_1 ++ [t305]) l2 (l2.length : Int) (wrap64 (x25_1 + 1)) t304 t305 t306 t307 t308) else (none)) = some (r1, r2, r3, r4, r5, r6) := by rw [if_pos rfl] at H; exact H
              clear H
              have H := H1
              clear H1
              by_cases c52 : x10_1.length < 17592186044416
              ·
               rw [if_pos c52] at H
               have LMc52 := Aside0.mk c52
               clear c52
               obtain ⟨y310, hy310⟩ : ∃ y_ : List Int, y_ = (x10_1 ++ [t305]) := ⟨_, rfl⟩
               replace H : (impl_PlaySource.l0 k1 a0 a1 y310 l2 (l2.length : Int) (wrap64 (x25_1 + 1)) t304 t305 t306 t307 t308) = some (r1, r2, r3, r4, r5, r6) := by first | (rw [hy310]; with_reducible exact H) | (have H2_ := (Option.bind_some _ _).symm.trans H; rw [hy310]; with_reducible exact H2_) | (have H2_ := (Option.bind_some _ _).symm.trans H; with_reducible exact H2_) | with_reducible exact H | (rw [hy310]; exact H) | exact H
               have Ny310 := Aside0.mk hy310
               clear hy310
               have H' := Aside0.mk H
               clear H
               have p286 : 0 ≤ (x25_1 : Int) := of_decide_eq_true ua_
               have q286 : x25_1 < (l2.length : Int) := of_decide_eq_true ua_
               obtain ⟨ad286, A286_0, c286_0, e286, hx286_0, hl286_0, hi286_0⟩ := at_L1 HR2.out x25_1 p286 q286
               cases e286
               replace hx286_0 := bc_ HB.out hx286_0
               have HR286_0 := Aside0.mk hi286_0
               have HC286_0 := Aside0.mk hl286_0
               clear hi286_0 hl286_0
               replace p286 := eq_true p286
               replace q286 := eq_true q286
               have p287 : 0 ≤ (0 : Int) := (by omega)
               have q287 : 0 < ((rd_L1 l2 x25_1).length : Int) := of_decide_eq_true ua_
               obtain ⟨ad287, e287, hx287_0⟩ := Kd.at_int HR286_0.out 0 p287 q287
               cases e287
               have qi287 : (0 < (rd_L1 l2 x25_1).length) = True := eq_true (by omega)
               (try rw [show ((0 : Int)).toNat = 0 from rfl] at hx287_0)
               (try rw [Addr.add_zero'] at hx287_0)
               replace hx287_0 := bc_ HB.out hx287_0
               replace p287 := eq_true p287
               replace q287 := eq_true q287
               try go_wp2
               have n0_ := am_ (Kd.R_drew HO_10.out)
               have n1_ := am_ (blk_drew BK275.out)
               have n2_ := am_ (blk_drew BK282.out)
               have n3_ := am_ (below_drew1 HB.out)
               clear HO_10
               clear BK275
               clear BK282
               clear HB
               have HO_10 := n0_
               have BK275 := n1_
               have BK282 := n2_
               have HB := n3_
               clear n0_ n1_ n2_ n3_
               have p302 : 0 ≤ (1 : Int) := (by omega)
               have q302 : 1 < ((rd_L1 l2 x25_1).length : Int) := of_decide_eq_true ua_
               obtain ⟨ad302, e302, hx302_0⟩ := Kd.at_int HR286_0.out 1 p302 q302
               have hw302_0 := hx302_0
               (try rw [show ((1 : Int)).toNat = 1 from rfl] at hw302_0)
               (try rw [show 1 * 1 = 1 from rfl] at hw302_0)
               (try simp only [Nat.reduceMul, Nat.reduceEqDiff, Go.Addr.add, ↓reduceIte] at hw302_0)
               obtain rfl : ad287 = ad302 := (by injection e302)
               (try simp only [show (1 : Int).toNat = 1 from rfl, Nat.reduceMul, Nat.reduceEqDiff, Go.Addr.add, ↓reduceIte] at hx302_0)
               have qi302 : (1 < (rd_L1 l2 x25_1).length) = True := eq_true (by omega)
               (try rw [show ((1 : Int)).toNat = 1 from rfl] at hx302_0)
               replace hx302_0 := bc_ HB.out hx302_0
               replace p302 := eq_true p302
               replace q302 := eq_true q302
               have p303 : 0 ≤ (2 : Int) := (by omega)
               have q303 : 2 < ((rd_L1 l2 x25_1).length : Int) := of_decide_eq_true ua_
               obtain ⟨ad303, e303, hx303_0⟩ := Kd.at_int HR286_0.out 2 p303 q303
               have hw303_0 := hx303_0
               (try rw [show ((2 : Int)).toNat = 2 from rfl] at hw303_0)
               (try rw [show 2 * 1 = 2 from rfl] at hw303_0)
               (try simp only [Nat.reduceMul, Nat.reduceEqDiff, Go.Addr.add, ↓reduceIte] at hw303_0)
               obtain rfl : ad287 = ad303 := (by injection e303)
               (try simp only [show (2 : Int).toNat = 2 from rfl, Nat.reduceMul, Nat.reduceEqDiff, Go.Addr.add, ↓reduceIte] at hx303_0)
               have qi303 : (2 < (rd_L1 l2 x25_1).length) = True := eq_true (by omega)
               (try rw [show ((2 : Int)).toNat = 2 from rfl] at hx303_0)
               replace hx303_0 := bc_ HB.out hx303_0
               replace p303 := eq_true p303
               replace q303 := eq_true q303
               refine start_ (n := 13) (S := fun w' => w'.cell? ⟨gb282, 0, none⟩ = some (.int .i64 x283000_1) ∧ w'.cell? ⟨gb282, 1, none⟩ = some (.int .i64 x283001_1) ∧ w'.cell? ⟨gb282, 2, none⟩ = some (.int .i64 x283002_1) ∧ w'.cell? ⟨gb282, 3, none⟩ = some (.bool x283003_1) ∧ w'.cell? ⟨gb282, 4, none⟩ = some (.bool x283004_1) ∧ w'.cell? ⟨ad287.block, ad287.off + 1, none⟩ = some (.int .i64 (rd (rd_L1 l2 x25_1) 1)) ∧ w'.cell? ⟨ad287.block, ad287.off + 2, none⟩ = some (.int .i64 (rd (rd_L1 l2 x25_1) 2))) (ds := [11]) #[false, false, false, false, false, false, false, false, false, false, false, false, false] (by kernel_rfl) rfl rfl ⟨(blk_cell BK282.out 0).trans rfl, (blk_cell BK282.out 1).trans rfl, (blk_cell BK282.out 2).trans rfl, (blk_cell BK282.out 3).trans rfl, (blk_cell BK282.out 4).trans rfl, ((HB.out.cell (World.block_lt_of_cell? w _ hw302_0)).trans hw302_0), ((HB.out.cell (World.block_lt_of_cell? w _ hw303_0)).trans hw303_0)⟩ (fun hHeld => ?_); refine with_tabW impl_PlaySource.tab14 impl_PlaySource.bits14 (fun HT_ HW_ => ?_)
               generalize wr.drew = w53 at HO_10 BK275 BK282 HB hx302_0 hx303_0 hHeld ⊢
               refine pure_ (i := 1) (N := some 53) (v := ?_) (a' := ?_) #[false, true, false, false, false, false, false, false, false, false, false, false, false] rfl rfl (any_of HT_.out (by kernel_rfl)) (fun _ _ _ h => h) (Or.inl ⟨by rfl, ?_⟩) ?_ ?_
               rotate_left
               ·
                intro w'
                go_simp
                with_reducible rfl
               rotate_left
               ·
                simp only [Act.put, List.setIfInBounds_toArray, List.set_cons_zero, List.set_cons_succ, i64_w, i32_w]
                rfl
               refine pure_ (i := 2) (N := some 54) (v := ?_) (a' := ?_) #[false, true, true, false, false, false, false, false, false, false, false, false, false] rfl rfl (any_of HT_.out (by kernel_rfl)) (fun _ _ _ h => h) (Or.inl ⟨by rfl, ?_⟩) ?_ ?_
               rotate_left
               ·
                intro w'
                go_simp
                with_reducible rfl
               rotate_left
               ·
                simp only [Act.put, List.setIfInBounds_toArray, List.set_cons_zero, List.set_cons_succ, i64_w, i32_w]
                rfl
               refine pure_ (i := 4) (N := some 56) (v := ?_) (a' := ?_) #[false, true, true, false, true, false, false, false, false, false, false, false, false] rfl rfl (any_of HT_.out (by kernel_rfl)) (fun _ _ _ h => h) (Or.inl ⟨by rfl, ?_⟩) ?_ ?_
               rotate_left
               ·
                intro w'
                go_simp
                with_reducible rfl
               rotate_left
               ·
                simp only [Act.put, List.setIfInBounds_toArray, List.set_cons_zero, List.set_cons_succ, i64_w, i32_w]
                rfl
               refine pure_ (i := 5) (N := some 57) (v := ?_) (a' := ?_) #[false, true, true, false, true, true, false, false, false, false, false, false, false] rfl rfl (any_of HT_.out (by kernel_rfl)) (fun _ _ _ h => h) (Or.inl ⟨by rfl, ?_⟩) ?_ ?_
               rotate_left
               ·
                intro w'
                go_simp
                with_reducible rfl
               rotate_left
               ·
                simp only [Act.put, List.setIfInBounds_toArray, List.set_cons_zero, List.set_cons_succ, i64_w, i32_w]
                rfl
               refine take_ (i := 0) (N := some 52) (v := ?_) (a' := ?_) #[true, true, true, false, true, true, false, false, false, false, false, false, false] rfl rfl (take_ofW HT_.out HW_.out (by kernel_rfl)) (fun _ _ _ h => h) (Or.inl ⟨by rfl, ?_⟩) hHeld ?_ ?_
               rotate_left
               ·
                rintro w' ⟨s0, s1, s2, s3, s4, s5, s6⟩
                go_simp
                with_reducible rfl
               rotate_left
               ·
                simp only [Act.put, List.setIfInBounds_toArray, List.set_cons_zero, List.set_cons_succ, i64_w, i32_w]
                rfl
               refine take_ (i := 3) (N := some 55) (v := ?_) (a' := ?_) #[true, true, true, true, true, true, false, false, false, false, false, false, false] rfl rfl (take_ofW HT_.out HW_.out (by kernel_rfl)) (fun _ _ _ h => h) (Or.inl ⟨by rfl, ?_⟩) hHeld ?_ ?_
               rotate_left
               ·
                rintro w' ⟨s0, s1, s2, s3, s4, s5, s6⟩
                go_simp
                with_reducible rfl
               rotate_left
               ·
                simp only [Act.put, List.setIfInBounds_toArray, List.set_cons_zero, List.set_cons_succ, i64_w, i32_w]
                rfl
               refine take_ (i := 6) (N := some 58) (v := ?_) (a' := ?_) #[true, true, true, true, true, true, true, false, false, false, false, false, false] rfl rfl (take_ofW HT_.out HW_.out (by kernel_rfl)) (fun _ _ _ h => h) (Or.inl ⟨by rfl, ?_⟩) hHeld ?_ ?_
               rotate_left
               ·
                rintro w' ⟨s0, s1, s2, s3, s4, s5, s6⟩
                go_simp
                with_reducible rfl
               rotate_left
               ·
                simp only [Act.put, List.setIfInBounds_toArray, List.set_cons_zero, List.set_cons_succ, i64_w, i32_w]
                rfl
               refine one_ (i := 7) (N := some 59) #[true, true, true, true, true, true, true, true, false, false, false, false, false] rfl rfl (one_of HT_.out (by kernel_rfl)) (by decide) (fun K hK => ?_)
               refine goes_ Try.func137 (by kernel_rfl) rfl #[.agg #[.int .i64 x283000_1, .int .i64 x283001_1, .int .i64 x283002_1, .bool x283003_1, .bool x283004_1], .int .i64 (rd (rd_L1 l2 x25_1) 1), .int .i64 (rd (rd_L1 l2 x25_1) 2)] (by rfl) rfl rfl ul_ ?_
               with_reducible refine (impl_SeeMark.calls x283000_1 x283001_1 x283002_1 x283003_1 x283004_1 (rd (rd_L1 l2 x25_1) 1) (rd (rd_L1 l2 x25_1) 2) t304 t305 t306 t307 t308 true _ A50.out).mono ?_
               rintro e w54 ⟨rfl, hb⟩
               refine ⟨_, rfl, ?_⟩
               have n0_ := am_ (Kd.R_below (ur_ HO_10.out) hb)
               have n1_ := am_ (bb_ BK275.out hb)
               have n2_ := am_ (bb_ BK282.out hb)
               have n3_ := am_ (below_step (ue_ HB.out) hb)
               clear HO_10
               clear BK275
               clear BK282
               clear HB
               have HO_10 := n0_
               have BK275 := n1_
               have BK282 := n2_
               have HB := n3_
               clear n0_ n1_ n2_ n3_
               (try clear hb)
               (try clear hb2)
               (try clear hk)
               (try clear hi)
               refine hK.out _ _ ⟨(blk_cell BK282.out 0).trans rfl, (blk_cell BK282.out 1).trans rfl, (blk_cell BK282.out 2).trans rfl, (blk_cell BK282.out 3).trans rfl, (blk_cell BK282.out 4).trans rfl, ((HB.out.cell (World.block_lt_of_cell? w _ hw302_0)).trans hw302_0), ((HB.out.cell (World.block_lt_of_cell? w _ hw303_0)).trans hw303_0)⟩ (fun hHeld => ?_)
               clear hK K
               refine norm_ (a' := ?_) ?_ ?_
               rotate_left
               ·
                show Act.put _ (some 59) _ = _
                simp only [Act.put, List.setIfInBounds_toArray, List.set_cons_zero, List.set_cons_succ, i64_w, i32_w]
                rfl
               refine pure_ (i := 8) (N := some 51) (v := ?_) (a' := ?_) #[true, true, true, true, true, true, true, true, true, false, false, false, false] rfl rfl (any_of HT_.out (by kernel_rfl)) (fun _ _ _ h => h) (Or.inl ⟨by rfl, ?_⟩) ?_ ?_
               rotate_left
               ·
                intro w'
                go_simp
                with_reducible rfl
               rotate_left
               ·
                simp only [Act.put, List.setIfInBounds_toArray, List.set_cons_zero, List.set_cons_succ, i64_w, i32_w]
                rfl
               refine pure_ (i := 9) (N := some 60) (v := ?_) (a' := ?_) #[true, true, true, true, true, true, true, true, true, true, false, false, false] rfl rfl (any_of HT_.out (by kernel_rfl)) (fun _ _ _ h => h) (Or.inl ⟨by rfl, ?_⟩) ?_ ?_
               rotate_left
               ·
                intro w'
                go_simp
                with_reducible rfl
               rotate_left
               ·
                simp only [Act.put, List.setIfInBounds_toArray, List.set_cons_zero, List.set_cons_succ, i64_w, i32_w]
                rfl
               refine pure_ (i := 10) (N := some 61) (v := ?_) (a' := ?_) #[true, true, true, true, true, true, true, true, true, true, true, false, false] rfl rfl (any_of HT_.out (by kernel_rfl)) (fun _ _ _ h => h) (Or.inl ⟨by rfl, ?_⟩) ?_ ?_
               rotate_left
               ·
                intro w'
                go_simp
                with_reducible rfl
               rotate_left
               ·
                simp only [Act.put, List.setIfInBounds_toArray, List.set_cons_zero, List.set_cons_succ, i64_w, i32_w]
                rfl
               refine last_ (i := 11) (N := none) #[true, true, true, true, true, true, true, true, true, true, true, true, false] rfl rfl (one_of HT_.out (by kernel_rfl)) (by decide) (fun K hK => ?_)
               have hs55 := cb_ BK282.out 0 rfl
               have hfs55 := blk_frozen BK282.out 0
               have hns55_0 := NB275_282.out
               have hms55_0 := NB282_275.out
               have hs56 := cb_ BK282.out 1 rfl
               have hfs56 := blk_frozen BK282.out 1
               have hns56_0 := NB275_282.out
               have hms56_0 := NB282_275.out
               have hs57 := cb_ BK282.out 2 rfl
               have hfs57 := blk_frozen BK282.out 2
               have hns57_0 := NB275_282.out
               have hms57_0 := NB282_275.out
               have hs58 := cb_ BK282.out 3 rfl
               have hfs58 := blk_frozen BK282.out 3
               have hns58_0 := NB275_282.out
               have hms58_0 := NB282_275.out
               have hs59 := cb_ BK282.out 4 rfl
               have hfs59 := blk_frozen BK282.out 4
               have hns59_0 := NB275_282.out
               have hms59_0 := NB282_275.out
               refine skip_ (w1 := ?_) (by rfl) rfl ?_ ?_
               rotate_left
               ·
                go_simp
                rfl
               refine hK.out _ _ ?_
               clear hK K
               refine pure_ (i := 12) (N := some 13) (v := ?_) (a' := ?_) #[true, true, true, true, true, true, true, true, true, true, true, true, true] rfl rfl (any_of HT_.out (by kernel_rfl)) (fun _ _ _ h => h) (Or.inl ⟨by rfl, ?_⟩) ?_ ?_
               rotate_left
               ·
                intro w'
                go_simp
                with_reducible rfl
               rotate_left
               ·
                simp only [Act.put, List.setIfInBounds_toArray, List.set_cons_zero, List.set_cons_succ, i64_w, i32_w]
                rfl
               refine done_ (done_of HT_.out (by kernel_rfl)) ?_
               have hnb60 := NB282_275.out
               have hnc60 := NB275_282.out
               have hcz61_0 := cb_ BK282.out 0 rfl
               have hcz61_1 := cb_ BK282.out 1 rfl
               have hcz61_2 := cb_ BK282.out 2 rfl
               have hcz61_3 := cb_ BK282.out 3 rfl
               have hcz61_4 := cb_ BK282.out 4 rfl
               have hfz61_0 := blk_frozen BK282.out 0
               have hfz61_1 := blk_frozen BK282.out 1
               have hfz61_2 := blk_frozen BK282.out 2
               have hfz61_3 := blk_frozen BK282.out 3
               have hfz61_4 := blk_frozen BK282.out 4
               try go_wp2_with (first | ((with_reducible refine gate_builtin (b := .append) (xs := #[.tmp 81, .tmp 84]) rfl ?_); at_builtin; refine Kd.R_append (Kd.int .i64) (w0 := w) w.heap.size rfl (.tmp 81) (.tmp 84) 22 3 (.int .i64 0) 8 rfl Try.underlying22 info3 rfl (by decide) (by omega) u10 x10_1 t305 [.int .i64 t305] (fun _ => True) (fun _ => False) rfl (by first | (go_simp; done) | (go_simp; rfl)) ?aP (fun _ hk => hk.elim) ?aF ?aO ?aB ?aS ?aL ?_; (case aP => exact rfl); (case aB => exact (ue_ HB.out)); (case aF => exact (fun _ _ => trivial)); (case aO => exact (by (with_reducible repeat (first | apply Kd.R_alloc | apply Kd.R_drewN | apply Kd.R_drew)); exact Kd.R_mono (Kd.R_far (p := ⟨gb282, 4, none⟩) (Kd.R_far (p := ⟨gb282, 3, none⟩) (Kd.R_far (p := ⟨gb282, 2, none⟩) (Kd.R_far (p := ⟨gb282, 1, none⟩) (Kd.R_far (p := ⟨gb282, 0, none⟩) (Kd.R_types HO_10.out BK282.out (by decide)) (fun _ hk => by first | exact hk.2 | grind) (.int .i64 t304)) (fun _ hk => by first | exact hk.2 | grind) (.int .i64 t305)) (fun _ hk => by first | exact hk.2 | grind) (.int .i64 t306)) (fun _ hk => by first | exact hk.2 | grind) (.bool t307)) (fun _ hk => by first | exact hk.2 | grind) (.bool t308)) (fun _ hk => trivial))); (case aS => exact (below_size (ue_ HB.out))); (case aL => have := LMc52.out; omega); intro v311 w62 ho hb hg hat; rw [← Ny310.out] at ho; have n0_ := am_ (blk_grown (g := gb275) (o := .cells #[.int .i64 0, .int .i64 0, .int .i64 0, .bool false, .bool false] 72 (0, 0)) (uf_ BK275.out) hg (Kd.R_ne HO_10.out BK275.out (by decide))); have n1_ := am_ (blk_grown (g := gb282) (o := .cells #[.int .i64 t304, .int .i64 t305, .int .i64 t306, .bool t307, .bool t308] 72 (0, 0)) (by (with_reducible repeat first|apply bn_|apply bd_|apply ba_); refine blk_put (cs := #[.int .i64 t304, .int .i64 t305, .int .i64 t306, .bool t307, .bool x283004_1]) ?_ 4 _ rfl; refine blk_put (cs := #[.int .i64 t304, .int .i64 t305, .int .i64 t306, .bool x283003_1, .bool x283004_1]) ?_ 3 _ rfl; refine blk_put (cs := #[.int .i64 t304, .int .i64 t305, .int .i64 x283002_1, .bool x283003_1, .bool x283004_1]) ?_ 2 _ rfl; refine blk_put (cs := #[.int .i64 t304, .int .i64 x283001_1, .int .i64 x283002_1, .bool x283003_1, .bool x283004_1]) ?_ 1 _ rfl; refine blk_put (cs := #[.int .i64 x283000_1, .int .i64 x283001_1, .int .i64 x283002_1, .bool x283003_1, .bool x283004_1]) ?_ 0 _ rfl; (with_reducible repeat first|apply bn_|apply bd_|apply ba_); exact BK282.out) hg (Kd.R_ne HO_10.out BK282.out (by decide))); have n2_ := am_ (hb); have n3_ := am_ (ho); clear BK275 BK282 HB HO_10; have BK275 := n0_; have BK282 := n1_; have HB := n2_; have HO312 := n3_; clear n0_ n1_ n2_ n3_; clear ho hb hg hat))
               go_roundg k1
               case measure => have := HK1.out; omega
               case rel => exact ⟨(y310), (wrap64 (x25_1 + 1)), (t304), (t305), (t306), (t307), (t308), (by first | rfl | (simp; done) | (simp [*]; done)), H', ⟨by have := HK1.out; omega⟩, ⟨by (with_reducible repeat (first | apply Kd.R_alloc | apply Kd.R_drewN | apply Kd.R_drew)); exact HO312.out⟩, ⟨by (with_reducible repeat first|apply bn_|apply bd_|apply ba_); exact BK275.out⟩, ⟨by (with_reducible repeat first|apply bn_|apply bd_|apply ba_); exact BK282.out⟩, ⟨ue_ HB.out⟩⟩
              ·
               rw [if_neg c52] at H
               exact absurd H (by simp)
             ·
              replace c51 := Bool.eq_false_iff.mpr c51
              subst c51
              have H1 : (if x10_1.length < 17592186044416 then (impl_PlaySource.l0 k1 a0 a1 (x10_1 ++ [(-2)]) l2 (l2.length : Int) (wrap64 (x25_1 + 1)) t304 t305 t306 t307 t308) else (none)) = some (r1, r2, r3, r4, r5, r6) := by rw [if_neg (show ¬ (false = true) by decide)] at H; exact H
              clear H
              have H := H1
              clear H1
              by_cases c63 : x10_1.length < 17592186044416
              ·
               rw [if_pos c63] at H
               have LMc63 := Aside0.mk c63
               clear c63
               obtain ⟨y313, hy313⟩ : ∃ y_ : List Int, y_ = (x10_1 ++ [(-2)]) := ⟨_, rfl⟩
               replace H : (impl_PlaySource.l0 k1 a0 a1 y313 l2 (l2.length : Int) (wrap64 (x25_1 + 1)) t304 t305 t306 t307 t308) = some (r1, r2, r3, r4, r5, r6) := by first | (rw [hy313]; with_reducible exact H) | (have H2_ := (Option.bind_some _ _).symm.trans H; rw [hy313]; with_reducible exact H2_) | (have H2_ := (Option.bind_some _ _).symm.trans H; with_reducible exact H2_) | with_reducible exact H | (rw [hy313]; exact H) | exact H
               have Ny313 := Aside0.mk hy313
               clear hy313
               have H' := Aside0.mk H
               clear H
               have p286 : 0 ≤ (x25_1 : Int) := of_decide_eq_true ua_
               have q286 : x25_1 < (l2.length : Int) := of_decide_eq_true ua_
               obtain ⟨ad286, A286_0, c286_0, e286, hx286_0, hl286_0, hi286_0⟩ := at_L1 HR2.out x25_1 p286 q286
               cases e286
               replace hx286_0 := bc_ HB.out hx286_0
               have HR286_0 := Aside0.mk hi286_0
               have HC286_0 := Aside0.mk hl286_0
               clear hi286_0 hl286_0
               replace p286 := eq_true p286
               replace q286 := eq_true q286
               have p287 : 0 ≤ (0 : Int) := (by omega)
               have q287 : 0 < ((rd_L1 l2 x25_1).length : Int) := of_decide_eq_true ua_
               obtain ⟨ad287, e287, hx287_0⟩ := Kd.at_int HR286_0.out 0 p287 q287
               cases e287
               have qi287 : (0 < (rd_L1 l2 x25_1).length) = True := eq_true (by omega)
               (try rw [show ((0 : Int)).toNat = 0 from rfl] at hx287_0)
               (try rw [Addr.add_zero'] at hx287_0)
               replace hx287_0 := bc_ HB.out hx287_0
               replace p287 := eq_true p287
               replace q287 := eq_true q287
               try go_wp2
               have n0_ := am_ (Kd.R_drew HO_10.out)
               have n1_ := am_ (blk_drew BK275.out)
               have n2_ := am_ (blk_drew BK282.out)
               have n3_ := am_ (below_drew1 HB.out)
               clear HO_10
               clear BK275
               clear BK282
               clear HB
               have HO_10 := n0_
               have BK275 := n1_
               have BK282 := n2_
               have HB := n3_
               clear n0_ n1_ n2_ n3_
               have p302 : 0 ≤ (1 : Int) := (by omega)
               have q302 : 1 < ((rd_L1 l2 x25_1).length : Int) := of_decide_eq_true ua_
               obtain ⟨ad302, e302, hx302_0⟩ := Kd.at_int HR286_0.out 1 p302 q302
               have hw302_0 := hx302_0
               (try rw [show ((1 : Int)).toNat = 1 from rfl] at hw302_0)
               (try rw [show 1 * 1 = 1 from rfl] at hw302_0)
               (try simp only [Nat.reduceMul, Nat.reduceEqDiff, Go.Addr.add, ↓reduceIte] at hw302_0)
               obtain rfl : ad287 = ad302 := (by injection e302)
               (try simp only [show (1 : Int).toNat = 1 from rfl, Nat.reduceMul, Nat.reduceEqDiff, Go.Addr.add, ↓reduceIte] at hx302_0)
               have qi302 : (1 < (rd_L1 l2 x25_1).length) = True := eq_true (by omega)
               (try rw [show ((1 : Int)).toNat = 1 from rfl] at hx302_0)
               replace hx302_0 := bc_ HB.out hx302_0
               replace p302 := eq_true p302
               replace q302 := eq_true q302
               have p303 : 0 ≤ (2 : Int) := (by omega)
               have q303 : 2 < ((rd_L1 l2 x25_1).length : Int) := of_decide_eq_true ua_
               obtain ⟨ad303, e303, hx303_0⟩ := Kd.at_int HR286_0.out 2 p303 q303
               have hw303_0 := hx303_0
               (try rw [show ((2 : Int)).toNat = 2 from rfl] at hw303_0)
               (try rw [show 2 * 1 = 2 from rfl] at hw303_0)
               (try simp only [Nat.reduceMul, Nat.reduceEqDiff, Go.Addr.add, ↓reduceIte] at hw303_0)
               obtain rfl : ad287 = ad303 := (by injection e303)
               (try simp only [show (2 : Int).toNat = 2 from rfl, Nat.reduceMul, Nat.reduceEqDiff, Go.Addr.add, ↓reduceIte] at hx303_0)
               have qi303 : (2 < (rd_L1 l2 x25_1).length) = True := eq_true (by omega)
               (try rw [show ((2 : Int)).toNat = 2 from rfl] at hx303_0)
               replace hx303_0 := bc_ HB.out hx303_0
               replace p303 := eq_true p303
               replace q303 := eq_true q303
               refine start_ (n := 13) (S := fun w' => w'.cell? ⟨gb282, 0, none⟩ = some (.int .i64 x283000_1) ∧ w'.cell? ⟨gb282, 1, none⟩ = some (.int .i64 x283001_1) ∧ w'.cell? ⟨gb282, 2, none⟩ = some (.int .i64 x283002_1) ∧ w'.cell? ⟨gb282, 3, none⟩ = some (.bool x283003_1) ∧ w'.cell? ⟨gb282, 4, none⟩ = some (.bool x283004_1) ∧ w'.cell? ⟨ad287.block, ad287.off + 1, none⟩ = some (.int .i64 (rd (rd_L1 l2 x25_1) 1)) ∧ w'.cell? ⟨ad287.block, ad287.off + 2, none⟩ = some (.int .i64 (rd (rd_L1 l2 x25_1) 2))) (ds := [11]) #[false, false, false, false, false, false, false, false, false, false, false, false, false] (by kernel_rfl) rfl rfl ⟨(blk_cell BK282.out 0).trans rfl, (blk_cell BK282.out 1).trans rfl, (blk_cell BK282.out 2).trans rfl, (blk_cell BK282.out 3).trans rfl, (blk_cell BK282.out 4).trans rfl, ((HB.out.cell (World.block_lt_of_cell? w _ hw302_0)).trans hw302_0), ((HB.out.cell (World.block_lt_of_cell? w _ hw303_0)).trans hw303_0)⟩ (fun hHeld => ?_); refine with_tabW impl_PlaySource.tab14 impl_PlaySource.bits14 (fun HT_ HW_ => ?_)
               generalize wr.drew = w64 at HO_10 BK275 BK282 HB hx302_0 hx303_0 hHeld ⊢
               refine pure_ (i := 1) (N := some 53) (v := ?_) (a' := ?_) #[false, true, false, false, false, false, false, false, false, false, false, false, false] rfl rfl (any_of HT_.out (by kernel_rfl)) (fun _ _ _ h => h) (Or.inl ⟨by rfl, ?_⟩) ?_ ?_
               rotate_left
               ·
                intro w'
                go_simp
                with_reducible rfl
               rotate_left
               ·
                simp only [Act.put, List.setIfInBounds_toArray, List.set_cons_zero, List.set_cons_succ, i64_w, i32_w]
                rfl
               refine pure_ (i := 2) (N := some 54) (v := ?_) (a' := ?_) #[false, true, true, false, false, false, false, false, false, false, false, false, false] rfl rfl (any_of HT_.out (by kernel_rfl)) (fun _ _ _ h => h) (Or.inl ⟨by rfl, ?_⟩) ?_ ?_
               rotate_left
               ·
                intro w'
                go_simp
                with_reducible rfl
               rotate_left
               ·
                simp only [Act.put, List.setIfInBounds_toArray, List.set_cons_zero, List.set_cons_succ, i64_w, i32_w]
                rfl
               refine pure_ (i := 4) (N := some 56) (v := ?_) (a' := ?_) #[false, true, true, false, true, false, false, false, false, false, false, false, false] rfl rfl (any_of HT_.out (by kernel_rfl)) (fun _ _ _ h => h) (Or.inl ⟨by rfl, ?_⟩) ?_ ?_
               rotate_left
               ·
                intro w'
                go_simp
                with_reducible rfl
               rotate_left
               ·
                simp only [Act.put, List.setIfInBounds_toArray, List.set_cons_zero, List.set_cons_succ, i64_w, i32_w]
                rfl
               refine pure_ (i := 5) (N := some 57) (v := ?_) (a' := ?_) #[false, true, true, false, true, true, false, false, false, false, false, false, false] rfl rfl (any_of HT_.out (by kernel_rfl)) (fun _ _ _ h => h) (Or.inl ⟨by rfl, ?_⟩) ?_ ?_
               rotate_left
               ·
                intro w'
                go_simp
                with_reducible rfl
               rotate_left
               ·
                simp only [Act.put, List.setIfInBounds_toArray, List.set_cons_zero, List.set_cons_succ, i64_w, i32_w]
                rfl
               refine take_ (i := 0) (N := some 52) (v := ?_) (a' := ?_) #[true, true, true, false, true, true, false, false, false, false, false, false, false] rfl rfl (take_ofW HT_.out HW_.out (by kernel_rfl)) (fun _ _ _ h => h) (Or.inl ⟨by rfl, ?_⟩) hHeld ?_ ?_
               rotate_left
               ·
                rintro w' ⟨s0, s1, s2, s3, s4, s5, s6⟩
                go_simp
                with_reducible rfl
               rotate_left
               ·
                simp only [Act.put, List.setIfInBounds_toArray, List.set_cons_zero, List.set_cons_succ, i64_w, i32_w]
                rfl
               refine take_ (i := 3) (N := some 55) (v := ?_) (a' := ?_) #[true, true, true, true, true, true, false, false, false, false, false, false, false] rfl rfl (take_ofW HT_.out HW_.out (by kernel_rfl)) (fun _ _ _ h => h) (Or.inl ⟨by rfl, ?_⟩) hHeld ?_ ?_
               rotate_left
               ·
                rintro w' ⟨s0, s1, s2, s3, s4, s5, s6⟩
                go_simp
                with_reducible rfl
               rotate_left
               ·
                simp only [Act.put, List.setIfInBounds_toArray, List.set_cons_zero, List.set_cons_succ, i64_w, i32_w]
                rfl
               refine take_ (i := 6) (N := some 58) (v := ?_) (a' := ?_) #[true, true, true, true, true, true, true, false, false, false, false, false, false] rfl rfl (take_ofW HT_.out HW_.out (by kernel_rfl)) (fun _ _ _ h => h) (Or.inl ⟨by rfl, ?_⟩) hHeld ?_ ?_
               rotate_left
               ·
                rintro w' ⟨s0, s1, s2, s3, s4, s5, s6⟩
                go_simp
                with_reducible rfl
               rotate_left
               ·
                simp only [Act.put, List.setIfInBounds_toArray, List.set_cons_zero, List.set_cons_succ, i64_w, i32_w]
                rfl
               refine one_ (i := 7) (N := some 59) #[true, true, true, true, true, true, true, true, false, false, false, false, false] rfl rfl (one_of HT_.out (by kernel_rfl)) (by decide) (fun K hK => ?_)
               refine goes_ Try.func137 (by kernel_rfl) rfl #[.agg #[.int .i64 x283000_1, .int .i64 x283001_1, .int .i64 x283002_1, .bool x283003_1, .bool x283004_1], .int .i64 (rd (rd_L1 l2 x25_1) 1), .int .i64 (rd (rd_L1 l2 x25_1) 2)] (by rfl) rfl rfl ul_ ?_
               with_reducible refine (impl_SeeMark.calls x283000_1 x283001_1 x283002_1 x283003_1 x283004_1 (rd (rd_L1 l2 x25_1) 1) (rd (rd_L1 l2 x25_1) 2) t304 t305 t306 t307 t308 false _ A50.out).mono ?_
               rintro e w65 ⟨rfl, hb⟩
               refine ⟨_, rfl, ?_⟩
               have n0_ := am_ (Kd.R_below (ur_ HO_10.out) hb)
               have n1_ := am_ (bb_ BK275.out hb)
               have n2_ := am_ (bb_ BK282.out hb)
               have n3_ := am_ (below_step (ue_ HB.out) hb)
               clear HO_10
               clear BK275
               clear BK282
               clear HB
               have HO_10 := n0_
               have BK275 := n1_
               have BK282 := n2_
               have HB := n3_
               clear n0_ n1_ n2_ n3_
               (try clear hb)
               (try clear hb2)
               (try clear hk)
               (try clear hi)
               refine hK.out _ _ ⟨(blk_cell BK282.out 0).trans rfl, (blk_cell BK282.out 1).trans rfl, (blk_cell BK282.out 2).trans rfl, (blk_cell BK282.out 3).trans rfl, (blk_cell BK282.out 4).trans rfl, ((HB.out.cell (World.block_lt_of_cell? w _ hw302_0)).trans hw302_0), ((HB.out.cell (World.block_lt_of_cell? w _ hw303_0)).trans hw303_0)⟩ (fun hHeld => ?_)
               clear hK K
               refine norm_ (a' := ?_) ?_ ?_
               rotate_left
               ·
                show Act.put _ (some 59) _ = _
                simp only [Act.put, List.setIfInBounds_toArray, List.set_cons_zero, List.set_cons_succ, i64_w, i32_w]
                rfl
               refine pure_ (i := 8) (N := some 51) (v := ?_) (a' := ?_) #[true, true, true, true, true, true, true, true, true, false, false, false, false] rfl rfl (any_of HT_.out (by kernel_rfl)) (fun _ _ _ h => h) (Or.inl ⟨by rfl, ?_⟩) ?_ ?_
               rotate_left
               ·
                intro w'
                go_simp
                with_reducible rfl
               rotate_left
               ·
                simp only [Act.put, List.setIfInBounds_toArray, List.set_cons_zero, List.set_cons_succ, i64_w, i32_w]
                rfl
               refine pure_ (i := 9) (N := some 60) (v := ?_) (a' := ?_) #[true, true, true, true, true, true, true, true, true, true, false, false, false] rfl rfl (any_of HT_.out (by kernel_rfl)) (fun _ _ _ h => h) (Or.inl ⟨by rfl, ?_⟩) ?_ ?_
               rotate_left
               ·
                intro w'
                go_simp
                with_reducible rfl
               rotate_left
               ·
                simp only [Act.put, List.setIfInBounds_toArray, List.set_cons_zero, List.set_cons_succ, i64_w, i32_w]
                rfl
               refine pure_ (i := 10) (N := some 61) (v := ?_) (a' := ?_) #[true, true, true, true, true, true, true, true, true, true, true, false, false] rfl rfl (any_of HT_.out (by kernel_rfl)) (fun _ _ _ h => h) (Or.inl ⟨by rfl, ?_⟩) ?_ ?_
               rotate_left
               ·
                intro w'
                go_simp
                with_reducible rfl
               rotate_left
               ·
                simp only [Act.put, List.setIfInBounds_toArray, List.set_cons_zero, List.set_cons_succ, i64_w, i32_w]
                rfl
               refine last_ (i := 11) (N := none) #[true, true, true, true, true, true, true, true, true, true, true, true, false] rfl rfl (one_of HT_.out (by kernel_rfl)) (by decide) (fun K hK => ?_)
               have hs66 := cb_ BK282.out 0 rfl
               have hfs66 := blk_frozen BK282.out 0
               have hns66_0 := NB275_282.out
               have hms66_0 := NB282_275.out
               have hs67 := cb_ BK282.out 1 rfl
               have hfs67 := blk_frozen BK282.out 1
               have hns67_0 := NB275_282.out
               have hms67_0 := NB282_275.out
               have hs68 := cb_ BK282.out 2 rfl
               have hfs68 := blk_frozen BK282.out 2
               have hns68_0 := NB275_282.out
               have hms68_0 := NB282_275.out
               have hs69 := cb_ BK282.out 3 rfl
               have hfs69 := blk_frozen BK282.out 3
               have hns69_0 := NB275_282.out
               have hms69_0 := NB282_275.out
               have hs70 := cb_ BK282.out 4 rfl
               have hfs70 := blk_frozen BK282.out 4
               have hns70_0 := NB275_282.out
               have hms70_0 := NB282_275.out
               refine skip_ (w1 := ?_) (by rfl) rfl ?_ ?_
               rotate_left
               ·
                go_simp
                rfl
               refine hK.out _ _ ?_
               clear hK K
               refine pure_ (i := 12) (N := some 13) (v := ?_) (a' := ?_) #[true, true, true, true, true, true, true, true, true, true, true, true, true] rfl rfl (any_of HT_.out (by kernel_rfl)) (fun _ _ _ h => h) (Or.inl ⟨by rfl, ?_⟩) ?_ ?_
               rotate_left
               ·
                intro w'
                go_simp
                with_reducible rfl
               rotate_left
               ·
                simp only [Act.put, List.setIfInBounds_toArray, List.set_cons_zero, List.set_cons_succ, i64_w, i32_w]
                rfl
               refine done_ (done_of HT_.out (by kernel_rfl)) ?_
               try go_wp2_with (first | ((with_reducible refine gate_builtin (b := .append) (xs := #[.tmp 86, .tmp 87]) rfl ?_); at_builtin; refine Kd.R_append (Kd.int .i64) (w0 := w) w.heap.size rfl (.tmp 86) (.tmp 87) 22 3 (.int .i64 0) 8 rfl Try.underlying22 info3 rfl (by decide) (by omega) u10 x10_1 (-2) [.int .i64 (-2)] (fun _ => True) (fun _ => False) rfl (by first | (go_simp; done) | (go_simp; rfl)) ?aP (fun _ hk => hk.elim) ?aF ?aO ?aB ?aS ?aL ?_; (case aP => exact rfl); (case aB => exact (ue_ HB.out)); (case aF => exact (fun _ _ => trivial)); (case aO => exact (by (with_reducible repeat (first | apply Kd.R_alloc | apply Kd.R_drewN | apply Kd.R_drew)); exact Kd.R_mono (Kd.R_far (p := ⟨gb282, 4, none⟩) (Kd.R_far (p := ⟨gb282, 3, none⟩) (Kd.R_far (p := ⟨gb282, 2, none⟩) (Kd.R_far (p := ⟨gb282, 1, none⟩) (Kd.R_far (p := ⟨gb282, 0, none⟩) (Kd.R_types HO_10.out BK282.out (by decide)) (fun _ hk => by first | exact hk.2 | grind) (.int .i64 t304)) (fun _ hk => by first | exact hk.2 | grind) (.int .i64 t305)) (fun _ hk => by first | exact hk.2 | grind) (.int .i64 t306)) (fun _ hk => by first | exact hk.2 | grind) (.bool t307)) (fun _ hk => by first | exact hk.2 | grind) (.bool t308)) (fun _ hk => trivial))); (case aS => exact (below_size (ue_ HB.out))); (case aL => have := LMc63.out; omega); intro v314 w71 ho hb hg hat; rw [← Ny313.out] at ho; have n0_ := am_ (blk_grown (g := gb275) (o := .cells #[.int .i64 0, .int .i64 0, .int .i64 0, .bool false, .bool false] 72 (0, 0)) (uf_ BK275.out) hg (Kd.R_ne HO_10.out BK275.out (by decide))); have n1_ := am_ (blk_grown (g := gb282) (o := .cells #[.int .i64 t304, .int .i64 t305, .int .i64 t306, .bool t307, .bool t308] 72 (0, 0)) (by (with_reducible repeat first|apply bn_|apply bd_|apply ba_); refine blk_put (cs := #[.int .i64 t304, .int .i64 t305, .int .i64 t306, .bool t307, .bool x283004_1]) ?_ 4 _ rfl; refine blk_put (cs := #[.int .i64 t304, .int .i64 t305, .int .i64 t306, .bool x283003_1, .bool x283004_1]) ?_ 3 _ rfl; refine blk_put (cs := #[.int .i64 t304, .int .i64 t305, .int .i64 x283002_1, .bool x283003_1, .bool x283004_1]) ?_ 2 _ rfl; refine blk_put (cs := #[.int .i64 t304, .int .i64 x283001_1, .int .i64 x283002_1, .bool x283003_1, .bool x283004_1]) ?_ 1 _ rfl; refine blk_put (cs := #[.int .i64 x283000_1, .int .i64 x283001_1, .int .i64 x283002_1, .bool x283003_1, .bool x283004_1]) ?_ 0 _ rfl; (with_reducible repeat first|apply bn_|apply bd_|apply ba_); exact BK282.out) hg (Kd.R_ne HO_10.out BK282.out (by decide))); have n2_ := am_ (hb); have n3_ := am_ (ho); clear BK275 BK282 HB HO_10; have BK275 := n0_; have BK282 := n1_; have HB := n2_; have HO315 := n3_; clear n0_ n1_ n2_ n3_; clear ho hb hg hat))
               go_roundg k1
               case measure => have := HK1.out; omega
               case rel => exact ⟨(y313), (wrap64 (x25_1 + 1)), (t304), (t305), (t306), (t307), (t308), (by first | rfl | (simp; done) | (simp [*]; done)), H', ⟨by have := HK1.out; omega⟩, ⟨by (with_reducible repeat (first | apply Kd.R_alloc | apply Kd.R_drewN | apply Kd.R_drew)); exact HO315.out⟩, ⟨by (with_reducible repeat first|apply bn_|apply bd_|apply ba_); exact BK275.out⟩, ⟨by (with_reducible repeat first|apply bn_|apply bd_|apply ba_); exact BK282.out⟩, ⟨ue_ HB.out⟩⟩
              ·
               rw [if_neg c63] at H
               exact absurd H (by simp)
            ·
             rw [if_neg c49] at H
             exact absurd H (by simp)
           ·
            rw [if_neg c48] at H
            exact absurd H (by simp)
          ·
           rw [if_neg c47] at H
           have c47b0 : ((rd (rd_L1 l2 x25_1) 0) == 1) = false := beq_eq_false_iff_ne.mpr c47
           have c47b1 : ((rd (rd_L1 l2 x25_1) 0) != 1) = true := bne_iff_ne.mpr c47
           by_cases c72 : (rd (rd_L1 l2 x25_1) 0) = 2
           ·
            rw [if_pos c72] at H
            have c72b0 : ((rd (rd_L1 l2 x25_1) 0) == 2) = true := beq_iff_eq.mpr c72
            have c72b1 : ((rd (rd_L1 l2 x25_1) 0) != 2) = false := bne_eq_false_iff_eq.mpr c72
            clear c72
            by_cases c73 : 2 < ((rd_L1 l2 x25_1).length : Int)
            ·
             rw [if_pos c73] at H
             have c73b0 : decide (2 < ((rd_L1 l2 x25_1).length : Int)) = true := decide_eq_true c73
             have c73b1 : decide (2 < (rd_L1 l2 x25_1).length) = true := decide_eq_true (by omega)
             clear c73
             replace H := Option.bind_eq_some_iff.mp H
             obtain ⟨⟨t317, t318, t319, t320, t321, t322⟩, A740, H⟩ := H
             replace H : (if t322 = true then (if x10_1.length < 17592186044416 then (impl_PlaySource.l0 k1 a0 a1 (x10_1 ++ [t318]) l2 (l2.length : Int) (wrap64 (x25_1 + 1)) t317 t318 t319 t320 t321) else (none)) else (if x10_1.length < 17592186044416 then (impl_PlaySource.l0 k1 a0 a1 (x10_1 ++ [(-2)]) l2 (l2.length : Int) (wrap64 (x25_1 + 1)) t317 t318 t319 t320 t321) else (none))) = some (r1, r2, r3, r4, r5, r6) := H
             have A74 := Aside0.mk A740
             clear A740
             by_cases c75 : t322 = true
             ·
              subst c75
              have H1 : (if x10_1.length < 17592186044416 then (impl_PlaySource.l0 k1 a0 a1 (x10_1 ++ [t318]) l2 (l2.length : Int) (wrap64 (x25_1 + 1)) t317 t318 t319 t320 t321) else (none)) = some (r1, r2, r3, r4, r5, r6) := by rw [if_pos rfl] at H; exact H
              clear H
              have H := H1
              clear H1
              by_cases c76 : x10_1.length < 17592186044416
              ·
               rw [if_pos c76] at H
               have LMc76 := Aside0.mk c76
               clear c76
               obtain ⟨y323, hy323⟩ : ∃ y_ : List Int, y_ = (x10_1 ++ [t318]) := ⟨_, rfl⟩
               replace H : (impl_PlaySource.l0 k1 a0 a1 y323 l2 (l2.length : Int) (wrap64 (x25_1 + 1)) t317 t318 t319 t320 t321) = some (r1, r2, r3, r4, r5, r6) := by first | (rw [hy323]; with_reducible exact H) | (have H2_ := (Option.bind_some _ _).symm.trans H; rw [hy323]; with_reducible exact H2_) | (have H2_ := (Option.bind_some _ _).symm.trans H; with_reducible exact H2_) | with_reducible exact H | (rw [hy323]; exact H) | exact H
               have Ny323 := Aside0.mk hy323
               clear hy323
               have H' := Aside0.mk H
               clear H
               have p286 : 0 ≤ (x25_1 : Int) := of_decide_eq_true ua_
               have q286 : x25_1 < (l2.length : Int) := of_decide_eq_true ua_
               obtain ⟨ad286, A286_0, c286_0, e286, hx286_0, hl286_0, hi286_0⟩ := at_L1 HR2.out x25_1 p286 q286
               cases e286
               replace hx286_0 := bc_ HB.out hx286_0
               have HR286_0 := Aside0.mk hi286_0
               have HC286_0 := Aside0.mk hl286_0
               clear hi286_0 hl286_0
               replace p286 := eq_true p286
               replace q286 := eq_true q286
               have p287 : 0 ≤ (0 : Int) := (by omega)
               have q287 : 0 < ((rd_L1 l2 x25_1).length : Int) := of_decide_eq_true ua_
               obtain ⟨ad287, e287, hx287_0⟩ := Kd.at_int HR286_0.out 0 p287 q287
               cases e287
               have qi287 : (0 < (rd_L1 l2 x25_1).length) = True := eq_true (by omega)
               (try rw [show ((0 : Int)).toNat = 0 from rfl] at hx287_0)
               (try rw [Addr.add_zero'] at hx287_0)
               replace hx287_0 := bc_ HB.out hx287_0
               replace p287 := eq_true p287
               replace q287 := eq_true q287
               try go_wp2
               have n0_ := am_ (Kd.R_drew HO_10.out)
               have n1_ := am_ (blk_drew BK275.out)
               have n2_ := am_ (blk_drew BK282.out)
               have n3_ := am_ (below_drew1 HB.out)
               clear HO_10
               clear BK275
               clear BK282
               clear HB
               have HO_10 := n0_
               have BK275 := n1_
               have BK282 := n2_
               have HB := n3_
               clear n0_ n1_ n2_ n3_
               have p316 : 0 ≤ (2 : Int) := (by omega)
               have q316 : 2 < ((rd_L1 l2 x25_1).length : Int) := of_decide_eq_true ua_
               obtain ⟨ad316, e316, hx316_0⟩ := Kd.at_int HR286_0.out 2 p316 q316
               have hw316_0 := hx316_0
               (try rw [show ((2 : Int)).toNat = 2 from rfl] at hw316_0)
               (try rw [show 2 * 1 = 2 from rfl] at hw316_0)
               (try simp only [Nat.reduceMul, Nat.reduceEqDiff, Go.Addr.add, ↓reduceIte] at hw316_0)
               obtain rfl : ad287 = ad316 := (by injection e316)
               (try simp only [show (2 : Int).toNat = 2 from rfl, Nat.reduceMul, Nat.reduceEqDiff, Go.Addr.add, ↓reduceIte] at hx316_0)
               have qi316 : (2 < (rd_L1 l2 x25_1).length) = True := eq_true (by omega)
               (try rw [show ((2 : Int)).toNat = 2 from rfl] at hx316_0)
               replace hx316_0 := bc_ HB.out hx316_0
               replace p316 := eq_true p316
               replace q316 := eq_true q316
               refine start_ (n := 11) (S := fun w' => w'.cell? ⟨gb282, 0, none⟩ = some (.int .i64 x283000_1) ∧ w'.cell? ⟨gb282, 1, none⟩ = some (.int .i64 x283001_1) ∧ w'.cell? ⟨gb282, 2, none⟩ = some (.int .i64 x283002_1) ∧ w'.cell? ⟨gb282, 3, none⟩ = some (.bool x283003_1) ∧ w'.cell? ⟨gb282, 4, none⟩ = some (.bool x283004_1) ∧ w'.cell? ⟨ad287.block, ad287.off + 2, none⟩ = some (.int .i64 (rd (rd_L1 l2 x25_1) 2))) (ds := [9]) #[false, false, false, false, false, false, false, false, false, false, false] (by kernel_rfl) rfl rfl ⟨(blk_cell BK282.out 0).trans rfl, (blk_cell BK282.out 1).trans rfl, (blk_cell BK282.out 2).trans rfl, (blk_cell BK282.out 3).trans rfl, (blk_cell BK282.out 4).trans rfl, ((HB.out.cell (World.block_lt_of_cell? w _ hw316_0)).trans hw316_0)⟩ (fun hHeld => ?_); refine with_tabW impl_PlaySource.tab16 impl_PlaySource.bits16 (fun HT_ HW_ => ?_)
               generalize wr.drew = w77 at HO_10 BK275 BK282 HB hx316_0 hHeld ⊢
               refine pure_ (i := 1) (N := some 66) (v := ?_) (a' := ?_) #[false, true, false, false, false, false, false, false, false, false, false] rfl rfl (any_of HT_.out (by kernel_rfl)) (fun _ _ _ h => h) (Or.inl ⟨by rfl, ?_⟩) ?_ ?_
               rotate_left
               ·
                intro w'
                go_simp
                with_reducible rfl
               rotate_left
               ·
                simp only [Act.put, List.setIfInBounds_toArray, List.set_cons_zero, List.set_cons_succ, i64_w, i32_w]
                rfl
               refine pure_ (i := 2) (N := some 67) (v := ?_) (a' := ?_) #[false, true, true, false, false, false, false, false, false, false, false] rfl rfl (any_of HT_.out (by kernel_rfl)) (fun _ _ _ h => h) (Or.inl ⟨by rfl, ?_⟩) ?_ ?_
               rotate_left
               ·
                intro w'
                go_simp
                with_reducible rfl
               rotate_left
               ·
                simp only [Act.put, List.setIfInBounds_toArray, List.set_cons_zero, List.set_cons_succ, i64_w, i32_w]
                rfl
               refine pure_ (i := 3) (N := some 68) (v := ?_) (a' := ?_) #[false, true, true, true, false, false, false, false, false, false, false] rfl rfl (any_of HT_.out (by kernel_rfl)) (fun _ _ _ h => h) (Or.inl ⟨by rfl, ?_⟩) ?_ ?_
               rotate_left
               ·
                intro w'
                go_simp
                with_reducible rfl
               rotate_left
               ·
                simp only [Act.put, List.setIfInBounds_toArray, List.set_cons_zero, List.set_cons_succ, i64_w, i32_w]
                rfl
               refine take_ (i := 0) (N := some 65) (v := ?_) (a' := ?_) #[true, true, true, true, false, false, false, false, false, false, false] rfl rfl (take_ofW HT_.out HW_.out (by kernel_rfl)) (fun _ _ _ h => h) (Or.inl ⟨by rfl, ?_⟩) hHeld ?_ ?_
               rotate_left
               ·
                rintro w' ⟨s0, s1, s2, s3, s4, s5⟩
                go_simp
                with_reducible rfl
               rotate_left
               ·
                simp only [Act.put, List.setIfInBounds_toArray, List.set_cons_zero, List.set_cons_succ, i64_w, i32_w]
                rfl
               refine take_ (i := 4) (N := some 69) (v := ?_) (a' := ?_) #[true, true, true, true, true, false, false, false, false, false, false] rfl rfl (take_ofW HT_.out HW_.out (by kernel_rfl)) (fun _ _ _ h => h) (Or.inl ⟨by rfl, ?_⟩) hHeld ?_ ?_
               rotate_left
               ·
                rintro w' ⟨s0, s1, s2, s3, s4, s5⟩
                go_simp
                with_reducible rfl
               rotate_left
               ·
                simp only [Act.put, List.setIfInBounds_toArray, List.set_cons_zero, List.set_cons_succ, i64_w, i32_w]
                rfl
               refine one_ (i := 5) (N := some 70) #[true, true, true, true, true, true, false, false, false, false, false] rfl rfl (one_of HT_.out (by kernel_rfl)) (by decide) (fun K hK => ?_)
               refine goes_ Try.func138 (by kernel_rfl) rfl #[.agg #[.int .i64 x283000_1, .int .i64 x283001_1, .int .i64 x283002_1, .bool x283003_1, .bool x283004_1], .int .i64 a1, .int .i64 (rd (rd_L1 l2 x25_1) 2)] (by rfl) rfl rfl ul_ ?_
               with_reducible refine (impl_SeeTick.calls x283000_1 x283001_1 x283002_1 x283003_1 x283004_1 a1 (rd (rd_L1 l2 x25_1) 2) t317 t318 t319 t320 t321 true _ A74.out).mono ?_
               rintro e w78 ⟨rfl, hb⟩
               refine ⟨_, rfl, ?_⟩
               have n0_ := am_ (Kd.R_below (ur_ HO_10.out) hb)
               have n1_ := am_ (bb_ BK275.out hb)
               have n2_ := am_ (bb_ BK282.out hb)
               have n3_ := am_ (below_step (ue_ HB.out) hb)
               clear HO_10
               clear BK275
               clear BK282
               clear HB
               have HO_10 := n0_
               have BK275 := n1_
               have BK282 := n2_
               have HB := n3_
               clear n0_ n1_ n2_ n3_
               (try clear hb)
               (try clear hb2)
               (try clear hk)
               (try clear hi)
               refine hK.out _ _ ⟨(blk_cell BK282.out 0).trans rfl, (blk_cell BK282.out 1).trans rfl, (blk_cell BK282.out 2).trans rfl, (blk_cell BK282.out 3).trans rfl, (blk_cell BK282.out 4).trans rfl, ((HB.out.cell (World.block_lt_of_cell? w _ hw316_0)).trans hw316_0)⟩ (fun hHeld => ?_)
               clear hK K
               refine norm_ (a' := ?_) ?_ ?_
               rotate_left
               ·
                show Act.put _ (some 70) _ = _
                simp only [Act.put, List.setIfInBounds_toArray, List.set_cons_zero, List.set_cons_succ, i64_w, i32_w]
                rfl
               refine pure_ (i := 6) (N := some 64) (v := ?_) (a' := ?_) #[true, true, true, true, true, true, true, false, false, false, false] rfl rfl (any_of HT_.out (by kernel_rfl)) (fun _ _ _ h => h) (Or.inl ⟨by rfl, ?_⟩) ?_ ?_
               rotate_left
               ·
                intro w'
                go_simp
                with_reducible rfl
               rotate_left
               ·
                simp only [Act.put, List.setIfInBounds_toArray, List.set_cons_zero, List.set_cons_succ, i64_w, i32_w]
                rfl
               refine pure_ (i := 7) (N := some 71) (v := ?_) (a' := ?_) #[true, true, true, true, true, true, true, true, false, false, false] rfl rfl (any_of HT_.out (by kernel_rfl)) (fun _ _ _ h => h) (Or.inl ⟨by rfl, ?_⟩) ?_ ?_
               rotate_left
               ·
                intro w'
                go_simp
                with_reducible rfl
               rotate_left
               ·
                simp only [Act.put, List.setIfInBounds_toArray, List.set_cons_zero, List.set_cons_succ, i64_w, i32_w]
                rfl
               refine pure_ (i := 8) (N := some 72) (v := ?_) (a' := ?_) #[true, true, true, true, true, true, true, true, true, false, false] rfl rfl (any_of HT_.out (by kernel_rfl)) (fun _ _ _ h => h) (Or.inl ⟨by rfl, ?_⟩) ?_ ?_
               rotate_left
               ·
                intro w'
                go_simp
                with_reducible rfl
               rotate_left
               ·
                simp only [Act.put, List.setIfInBounds_toArray, List.set_cons_zero, List.set_cons_succ, i64_w, i32_w]
                rfl
               refine last_ (i := 9) (N := none) #[true, true, true, true, true, true, true, true, true, true, false] rfl rfl (one_of HT_.out (by kernel_rfl)) (by decide) (fun K hK => ?_)
               have hs79 := cb_ BK282.out 0 rfl
               have hfs79 := blk_frozen BK282.out 0
               have hns79_0 := NB275_282.out
               have hms79_0 := NB282_275.out
               have hs80 := cb_ BK282.out 1 rfl
               have hfs80 := blk_frozen BK282.out 1
               have hns80_0 := NB275_282.out
               have hms80_0 := NB282_275.out
               have hs81 := cb_ BK282.out 2 rfl
               have hfs81 := blk_frozen BK282.out 2
               have hns81_0 := NB275_282.out
               have hms81_0 := NB282_275.out
               have hs82 := cb_ BK282.out 3 rfl
               have hfs82 := blk_frozen BK282.out 3
               have hns82_0 := NB275_282.out
               have hms82_0 := NB282_275.out
               have hs83 := cb_ BK282.out 4 rfl
               have hfs83 := blk_frozen BK282.out 4
               have hns83_0 := NB275_282.out
               have hms83_0 := NB282_275.out
               refine skip_ (w1 := ?_) (by rfl) rfl ?_ ?_
               rotate_left
               ·
                go_simp
                rfl
               refine hK.out _ _ ?_
               clear hK K
               refine pure_ (i := 10) (N := some 13) (v := ?_) (a' := ?_) #[true, true, true, true, true, true, true, true, true, true, true] rfl rfl (any_of HT_.out (by kernel_rfl)) (fun _ _ _ h => h) (Or.inl ⟨by rfl, ?_⟩) ?_ ?_
               rotate_left
               ·
                intro w'
                go_simp
                with_reducible rfl
               rotate_left
               ·
                simp only [Act.put, List.setIfInBounds_toArray, List.set_cons_zero, List.set_cons_succ, i64_w, i32_w]
                rfl
               refine done_ (done_of HT_.out (by kernel_rfl)) ?_
               have hnb84 := NB282_275.out
               have hnc84 := NB275_282.out
               have hcz85_0 := cb_ BK282.out 0 rfl
               have hcz85_1 := cb_ BK282.out 1 rfl
               have hcz85_2 := cb_ BK282.out 2 rfl
               have hcz85_3 := cb_ BK282.out 3 rfl
               have hcz85_4 := cb_ BK282.out 4 rfl
               have hfz85_0 := blk_frozen BK282.out 0
               have hfz85_1 := blk_frozen BK282.out 1
               have hfz85_2 := blk_frozen BK282.out 2
               have hfz85_3 := blk_frozen BK282.out 3
               have hfz85_4 := blk_frozen BK282.out 4
               try go_wp2_with (first | ((with_reducible refine gate_builtin (b := .append) (xs := #[.tmp 81, .tmp 84]) rfl ?_); at_builtin; refine Kd.R_append (Kd.int .i64) (w0 := w) w.heap.size rfl (.tmp 81) (.tmp 84) 22 3 (.int .i64 0) 8 rfl Try.underlying22 info3 rfl (by decide) (by omega) u10 x10_1 t318 [.int .i64 t318] (fun _ => True) (fun _ => False) rfl (by first | (go_simp; done) | (go_simp; rfl)) ?aP (fun _ hk => hk.elim) ?aF ?aO ?aB ?aS ?aL ?_; (case aP => exact rfl); (case aB => exact (ue_ HB.out)); (case aF => exact (fun _ _ => trivial)); (case aO => exact (by (with_reducible repeat (first | apply Kd.R_alloc | apply Kd.R_drewN | apply Kd.R_drew)); exact Kd.R_mono (Kd.R_far (p := ⟨gb282, 4, none⟩) (Kd.R_far (p := ⟨gb282, 3, none⟩) (Kd.R_far (p := ⟨gb282, 2, none⟩) (Kd.R_far (p := ⟨gb282, 1, none⟩) (Kd.R_far (p := ⟨gb282, 0, none⟩) (Kd.R_types HO_10.out BK282.out (by decide)) (fun _ hk => by first | exact hk.2 | grind) (.int .i64 t317)) (fun _ hk => by first | exact hk.2 | grind) (.int .i64 t318)) (fun _ hk => by first | exact hk.2 | grind) (.int .i64 t319)) (fun _ hk => by first | exact hk.2 | grind) (.bool t320)) (fun _ hk => by first | exact hk.2 | grind) (.bool t321)) (fun _ hk => trivial))); (case aS => exact (below_size (ue_ HB.out))); (case aL => have := LMc76.out; omega); intro v324 w86 ho hb hg hat; rw [← Ny323.out] at ho; have n0_ := am_ (blk_grown (g := gb275) (o := .cells #[.int .i64 0, .int .i64 0, .int .i64 0, .bool false, .bool false] 72 (0, 0)) (uf_ BK275.out) hg (Kd.R_ne HO_10.out BK275.out (by decide))); have n1_ := am_ (blk_grown (g := gb282) (o := .cells #[.int .i64 t317, .int .i64 t318, .int .i64 t319, .bool t320, .bool t321] 72 (0, 0)) (by (with_reducible repeat first|apply bn_|apply bd_|apply ba_); refine blk_put (cs := #[.int .i64 t317, .int .i64 t318, .int .i64 t319, .bool t320, .bool x283004_1]) ?_ 4 _ rfl; refine blk_put (cs := #[.int .i64 t317, .int .i64 t318, .int .i64 t319, .bool x283003_1, .bool x283004_1]) ?_ 3 _ rfl; refine blk_put (cs := #[.int .i64 t317, .int .i64 t318, .int .i64 x283002_1, .bool x283003_1, .bool x283004_1]) ?_ 2 _ rfl; refine blk_put (cs := #[.int .i64 t317, .int .i64 x283001_1, .int .i64 x283002_1, .bool x283003_1, .bool x283004_1]) ?_ 1 _ rfl; refine blk_put (cs := #[.int .i64 x283000_1, .int .i64 x283001_1, .int .i64 x283002_1, .bool x283003_1, .bool x283004_1]) ?_ 0 _ rfl; (with_reducible repeat first|apply bn_|apply bd_|apply ba_); exact BK282.out) hg (Kd.R_ne HO_10.out BK282.out (by decide))); have n2_ := am_ (hb); have n3_ := am_ (ho); clear BK275 BK282 HB HO_10; have BK275 := n0_; have BK282 := n1_; have HB := n2_; have HO325 := n3_; clear n0_ n1_ n2_ n3_; clear ho hb hg hat))
               go_roundg k1
               case measure => have := HK1.out; omega
               case rel => exact ⟨(y323), (wrap64 (x25_1 + 1)), (t317), (t318), (t319), (t320), (t321), (by first | rfl | (simp; done) | (simp [*]; done)), H', ⟨by have := HK1.out; omega⟩, ⟨by (with_reducible repeat (first | apply Kd.R_alloc | apply Kd.R_drewN | apply Kd.R_drew)); exact HO325.out⟩, ⟨by (with_reducible repeat first|apply bn_|apply bd_|apply ba_); exact BK275.out⟩, ⟨by (with_reducible repeat first|apply bn_|apply bd_|apply ba_); exact BK282.out⟩, ⟨ue_ HB.out⟩⟩
              ·
               rw [if_neg c76] at H
               exact absurd H (by simp)
             ·
              replace c75 := Bool.eq_false_iff.mpr c75
              subst c75
              have H1 : (if x10_1.length < 17592186044416 then (impl_PlaySource.l0 k1 a0 a1 (x10_1 ++ [(-2)]) l2 (l2.length : Int) (wrap64 (x25_1 + 1)) t317 t318 t319 t320 t321) else (none)) = some (r1, r2, r3, r4, r5, r6) := by rw [if_neg (show ¬ (false = true) by decide)] at H; exact H
              clear H
              have H := H1
              clear H1
              by_cases c87 : x10_1.length < 17592186044416
              ·
               rw [if_pos c87] at H
               have LMc87 := Aside0.mk c87
               clear c87
               obtain ⟨y326, hy326⟩ : ∃ y_ : List Int, y_ = (x10_1 ++ [(-2)]) := ⟨_, rfl⟩
               replace H : (impl_PlaySource.l0 k1 a0 a1 y326 l2 (l2.length : Int) (wrap64 (x25_1 + 1)) t317 t318 t319 t320 t321) = some (r1, r2, r3, r4, r5, r6) := by first | (rw [hy326]; with_reducible exact H) | (have H2_ := (Option.bind_some _ _).symm.trans H; rw [hy326]; with_reducible exact H2_) | (have H2_ := (Option.bind_some _ _).symm.trans H; with_reducible exact H2_) | with_reducible exact H | (rw [hy326]; exact H) | exact H
               have Ny326 := Aside0.mk hy326
               clear hy326
               have H' := Aside0.mk H
               clear H
               have p286 : 0 ≤ (x25_1 : Int) := of_decide_eq_true ua_
               have q286 : x25_1 < (l2.length : Int) := of_decide_eq_true ua_
               obtain ⟨ad286, A286_0, c286_0, e286, hx286_0, hl286_0, hi286_0⟩ := at_L1 HR2.out x25_1 p286 q286
               cases e286
               replace hx286_0 := bc_ HB.out hx286_0
               have HR286_0 := Aside0.mk hi286_0
               have HC286_0 := Aside0.mk hl286_0
               clear hi286_0 hl286_0
               replace p286 := eq_true p286
               replace q286 := eq_true q286
               have p287 : 0 ≤ (0 : Int) := (by omega)
               have q287 : 0 < ((rd_L1 l2 x25_1).length : Int) := of_decide_eq_true ua_
               obtain ⟨ad287, e287, hx287_0⟩ := Kd.at_int HR286_0.out 0 p287 q287
               cases e287
               have qi287 : (0 < (rd_L1 l2 x25_1).length) = True := eq_true (by omega)
               (try rw [show ((0 : Int)).toNat = 0 from rfl] at hx287_0)
               (try rw [Addr.add_zero'] at hx287_0)
               replace hx287_0 := bc_ HB.out hx287_0
               replace p287 := eq_true p287
               replace q287 := eq_true q287
               try go_wp2
               have n0_ := am_ (Kd.R_drew HO_10.out)
               have n1_ := am_ (blk_drew BK275.out)
               have n2_ := am_ (blk_drew BK282.out)
               have n3_ := am_ (below_drew1 HB.out)
               clear HO_10
               clear BK275
               clear BK282
               clear HB
               have HO_10 := n0_
               have BK275 := n1_
               have BK282 := n2_
               have HB := n3_
               clear n0_ n1_ n2_ n3_
               have p316 : 0 ≤ (2 : Int) := (by omega)
               have q316 : 2 < ((rd_L1 l2 x25_1).length : Int) := of_decide_eq_true ua_
               obtain ⟨ad316, e316, hx316_0⟩ := Kd.at_int HR286_0.out 2 p316 q316
               have hw316_0 := hx316_0
               (try rw [show ((2 : Int)).toNat = 2 from rfl] at hw316_0)
               (try rw [show 2 * 1 = 2 from rfl] at hw316_0)
               (try simp only [Nat.reduceMul, Nat.reduceEqDiff, Go.Addr.add, ↓reduceIte] at hw316_0)
               obtain rfl : ad287 = ad316 := (by injection e316)
               (try simp only [show (2 : Int).toNat = 2 from rfl, Nat.reduceMul, Nat.reduceEqDiff, Go.Addr.add, ↓reduceIte] at hx316_0)
               have qi316 : (2 < (rd_L1 l2 x25_1).length) = True := eq_true (by omega)
               (try rw [show ((2 : Int)).toNat = 2 from rfl] at hx316_0)
               replace hx316_0 := bc_ HB.out hx316_0
               replace p316 := eq_true p316
               replace q316 := eq_true q316
               refine start_ (n := 11) (S := fun w' => w'.cell? ⟨gb282, 0, none⟩ = some (.int .i64 x283000_1) ∧ w'.cell? ⟨gb282, 1, none⟩ = some (.int .i64 x283001_1) ∧ w'.cell? ⟨gb282, 2, none⟩ = some (.int .i64 x283002_1) ∧ w'.cell? ⟨gb282, 3, none⟩ = some (.bool x283003_1) ∧ w'.cell? ⟨gb282, 4, none⟩ = some (.bool x283004_1) ∧ w'.cell? ⟨ad287.block, ad287.off + 2, none⟩ = some (.int .i64 (rd (rd_L1 l2 x25_1) 2))) (ds := [9]) #[false, false, false, false, false, false, false, false, false, false, false] (by kernel_rfl) rfl rfl ⟨(blk_cell BK282.out 0).trans rfl, (blk_cell BK282.out 1).trans rfl, (blk_cell BK282.out 2).trans rfl, (blk_cell BK282.out 3).trans rfl, (blk_cell BK282.out 4).trans rfl, ((HB.out.cell (World.block_lt_of_cell? w _ hw316_0)).trans hw316_0)⟩ (fun hHeld => ?_); refine with_tabW impl_PlaySource.tab16 impl_PlaySource.bits16 (fun HT_ HW_ => ?_)
               generalize wr.drew = w88 at HO_10 BK275 BK282 HB hx316_0 hHeld ⊢
               refine pure_ (i := 1) (N := some 66) (v := ?_) (a' := ?_) #[false, true, false, false, false, false, false, false, false, false, false] rfl rfl (any_of HT_.out (by kernel_rfl)) (fun _ _ _ h => h) (Or.inl ⟨by rfl, ?_⟩) ?_ ?_
               rotate_left
               ·
                intro w'
                go_simp
                with_reducible rfl
               rotate_left
               ·
                simp only [Act.put, List.setIfInBounds_toArray, List.set_cons_zero, List.set_cons_succ, i64_w, i32_w]
                rfl
               refine pure_ (i := 2) (N := some 67) (v := ?_) (a' := ?_) #[false, true, true, false, false, false, false, false, false, false, false] rfl rfl (any_of HT_.out (by kernel_rfl)) (fun _ _ _ h => h) (Or.inl ⟨by rfl, ?_⟩) ?_ ?_
               rotate_left
               ·
                intro w'
                go_simp
                with_reducible rfl
               rotate_left
               ·
                simp only [Act.put, List.setIfInBounds_toArray, List.set_cons_zero, List.set_cons_succ, i64_w, i32_w]
                rfl
               refine pure_ (i := 3) (N := some 68) (v := ?_) (a' := ?_) #[false, true, true, true, false, false, false, false, false, false, false] rfl rfl (any_of HT_.out (by kernel_rfl)) (fun _ _ _ h => h) (Or.inl ⟨by rfl, ?_⟩) ?_ ?_
               rotate_left
               ·
                intro w'
                go_simp
                with_reducible rfl
               rotate_left
               ·
                simp only [Act.put, List.setIfInBounds_toArray, List.set_cons_zero, List.set_cons_succ, i64_w, i32_w]
                rfl
               refine take_ (i := 0) (N := some 65) (v := ?_) (a' := ?_) #[true, true, true, true, false, false, false, false, false, false, false] rfl rfl (take_ofW HT_.out HW_.out (by kernel_rfl)) (fun _ _ _ h => h) (Or.inl ⟨by rfl, ?_⟩) hHeld ?_ ?_
               rotate_left
               ·
                rintro w' ⟨s0, s1, s2, s3, s4, s5⟩
                go_simp
                with_reducible rfl
               rotate_left
               ·
                simp only [Act.put, List.setIfInBounds_toArray, List.set_cons_zero, List.set_cons_succ, i64_w, i32_w]
                rfl
               refine take_ (i := 4) (N := some 69) (v := ?_) (a' := ?_) #[true, true, true, true, true, false, false, false, false, false, false] rfl rfl (take_ofW HT_.out HW_.out (by kernel_rfl)) (fun _ _ _ h => h) (Or.inl ⟨by rfl, ?_⟩) hHeld ?_ ?_
               rotate_left
               ·
                rintro w' ⟨s0, s1, s2, s3, s4, s5⟩
                go_simp
                with_reducible rfl
               rotate_left
               ·
                simp only [Act.put, List.setIfInBounds_toArray, List.set_cons_zero, List.set_cons_succ, i64_w, i32_w]
                rfl
               refine one_ (i := 5) (N := some 70) #[true, true, true, true, true, true, false, false, false, false, false] rfl rfl (one_of HT_.out (by kernel_rfl)) (by decide) (fun K hK => ?_)
               refine goes_ Try.func138 (by kernel_rfl) rfl #[.agg #[.int .i64 x283000_1, .int .i64 x283001_1, .int .i64 x283002_1, .bool x283003_1, .bool x283004_1], .int .i64 a1, .int .i64 (rd (rd_L1 l2 x25_1) 2)] (by rfl) rfl rfl ul_ ?_
               with_reducible refine (impl_SeeTick.calls x283000_1 x283001_1 x283002_1 x283003_1 x283004_1 a1 (rd (rd_L1 l2 x25_1) 2) t317 t318 t319 t320 t321 false _ A74.out).mono ?_
               rintro e w89 ⟨rfl, hb⟩
               refine ⟨_, rfl, ?_⟩
               have n0_ := am_ (Kd.R_below (ur_ HO_10.out) hb)
               have n1_ := am_ (bb_ BK275.out hb)
               have n2_ := am_ (bb_ BK282.out hb)
               have n3_ := am_ (below_step (ue_ HB.out) hb)
               clear HO_10
               clear BK275
               clear BK282
               clear HB
               have HO_10 := n0_
               have BK275 := n1_
               have BK282 := n2_
               have HB := n3_
               clear n0_ n1_ n2_ n3_
               (try clear hb)
               (try clear hb2)
               (try clear hk)
               (try clear hi)
               refine hK.out _ _ ⟨(blk_cell BK282.out 0).trans rfl, (blk_cell BK282.out 1).trans rfl, (blk_cell BK282.out 2).trans rfl, (blk_cell BK282.out 3).trans rfl, (blk_cell BK282.out 4).trans rfl, ((HB.out.cell (World.block_lt_of_cell? w _ hw316_0)).trans hw316_0)⟩ (fun hHeld => ?_)
               clear hK K
               refine norm_ (a' := ?_) ?_ ?_
               rotate_left
               ·
                show Act.put _ (some 70) _ = _
                simp only [Act.put, List.setIfInBounds_toArray, List.set_cons_zero, List.set_cons_succ, i64_w, i32_w]
                rfl
               refine pure_ (i := 6) (N := some 64) (v := ?_) (a' := ?_) #[true, true, true, true, true, true, true, false, false, false, false] rfl rfl (any_of HT_.out (by kernel_rfl)) (fun _ _ _ h => h) (Or.inl ⟨by rfl, ?_⟩) ?_ ?_
               rotate_left
               ·
                intro w'
                go_simp
                with_reducible rfl
               rotate_left
               ·
                simp only [Act.put, List.setIfInBounds_toArray, List.set_cons_zero, List.set_cons_succ, i64_w, i32_w]
                rfl
               refine pure_ (i := 7) (N := some 71) (v := ?_) (a' := ?_) #[true, true, true, true, true, true, true, true, false, false, false] rfl rfl (any_of HT_.out (by kernel_rfl)) (fun _ _ _ h => h) (Or.inl ⟨by rfl, ?_⟩) ?_ ?_
               rotate_left
               ·
                intro w'
                go_simp
                with_reducible rfl
               rotate_left
               ·
                simp only [Act.put, List.setIfInBounds_toArray, List.set_cons_zero, List.set_cons_succ, i64_w, i32_w]
                rfl
               refine pure_ (i := 8) (N := some 72) (v := ?_) (a' := ?_) #[true, true, true, true, true, true, true, true, true, false, false] rfl rfl (any_of HT_.out (by kernel_rfl)) (fun _ _ _ h => h) (Or.inl ⟨by rfl, ?_⟩) ?_ ?_
               rotate_left
               ·
                intro w'
                go_simp
                with_reducible rfl
               rotate_left
               ·
                simp only [Act.put, List.setIfInBounds_toArray, List.set_cons_zero, List.set_cons_succ, i64_w, i32_w]
                rfl
               refine last_ (i := 9) (N := none) #[true, true, true, true, true, true, true, true, true, true, false] rfl rfl (one_of HT_.out (by kernel_rfl)) (by decide) (fun K hK => ?_)
               have hs90 := cb_ BK282.out 0 rfl
               have hfs90 := blk_frozen BK282.out 0
               have hns90_0 := NB275_282.out
               have hms90_0 := NB282_275.out
               have hs91 := cb_ BK282.out 1 rfl
               have hfs91 := blk_frozen BK282.out 1
               have hns91_0 := NB275_282.out
               have hms91_0 := NB282_275.out
               have hs92 := cb_ BK282.out 2 rfl
               have hfs92 := blk_frozen BK282.out 2
               have hns92_0 := NB275_282.out
               have hms92_0 := NB282_275.out
               have hs93 := cb_ BK282.out 3 rfl
               have hfs93 := blk_frozen BK282.out 3
               have hns93_0 := NB275_282.out
               have hms93_0 := NB282_275.out
               have hs94 := cb_ BK282.out 4 rfl
               have hfs94 := blk_frozen BK282.out 4
               have hns94_0 := NB275_282.out
               have hms94_0 := NB282_275.out
               refine skip_ (w1 := ?_) (by rfl) rfl ?_ ?_
               rotate_left
               ·
                go_simp
                rfl
               refine hK.out _ _ ?_
               clear hK K
               refine pure_ (i := 10) (N := some 13) (v := ?_) (a' := ?_) #[true, true, true, true, true, true, true, true, true, true, true] rfl rfl (any_of HT_.out (by kernel_rfl)) (fun _ _ _ h => h) (Or.inl ⟨by rfl, ?_⟩) ?_ ?_
               rotate_left
               ·
                intro w'
                go_simp
                with_reducible rfl
               rotate_left
               ·
                simp only [Act.put, List.setIfInBounds_toArray, List.set_cons_zero, List.set_cons_succ, i64_w, i32_w]
                rfl
               refine done_ (done_of HT_.out (by kernel_rfl)) ?_
               try go_wp2_with (first | ((with_reducible refine gate_builtin (b := .append) (xs := #[.tmp 86, .tmp 87]) rfl ?_); at_builtin; refine Kd.R_append (Kd.int .i64) (w0 := w) w.heap.size rfl (.tmp 86) (.tmp 87) 22 3 (.int .i64 0) 8 rfl Try.underlying22 info3 rfl (by decide) (by omega) u10 x10_1 (-2) [.int .i64 (-2)] (fun _ => True) (fun _ => False) rfl (by first | (go_simp; done) | (go_simp; rfl)) ?aP (fun _ hk => hk.elim) ?aF ?aO ?aB ?aS ?aL ?_; (case aP => exact rfl); (case aB => exact (ue_ HB.out)); (case aF => exact (fun _ _ => trivial)); (case aO => exact (by (with_reducible repeat (first | apply Kd.R_alloc | apply Kd.R_drewN | apply Kd.R_drew)); exact Kd.R_mono (Kd.R_far (p := ⟨gb282, 4, none⟩) (Kd.R_far (p := ⟨gb282, 3, none⟩) (Kd.R_far (p := ⟨gb282, 2, none⟩) (Kd.R_far (p := ⟨gb282, 1, none⟩) (Kd.R_far (p := ⟨gb282, 0, none⟩) (Kd.R_types HO_10.out BK282.out (by decide)) (fun _ hk => by first | exact hk.2 | grind) (.int .i64 t317)) (fun _ hk => by first | exact hk.2 | grind) (.int .i64 t318)) (fun _ hk => by first | exact hk.2 | grind) (.int .i64 t319)) (fun _ hk => by first | exact hk.2 | grind) (.bool t320)) (fun _ hk => by first | exact hk.2 | grind) (.bool t321)) (fun _ hk => trivial))); (case aS => exact (below_size (ue_ HB.out))); (case aL => have := LMc87.out; omega); intro v327 w95 ho hb hg hat; rw [← Ny326.out] at ho; have n0_ := am_ (blk_grown (g := gb275) (o := .cells #[.int .i64 0, .int .i64 0, .int .i64 0, .bool false, .bool false] 72 (0, 0)) (uf_ BK275.out) hg (Kd.R_ne HO_10.out BK275.out (by decide))); have n1_ := am_ (blk_grown (g := gb282) (o := .cells #[.int .i64 t317, .int .i64 t318, .int .i64 t319, .bool t320, .bool t321] 72 (0, 0)) (by (with_reducible repeat first|apply bn_|apply bd_|apply ba_); refine blk_put (cs := #[.int .i64 t317, .int .i64 t318, .int .i64 t319, .bool t320, .bool x283004_1]) ?_ 4 _ rfl; refine blk_put (cs := #[.int .i64 t317, .int .i64 t318, .int .i64 t319, .bool x283003_1, .bool x283004_1]) ?_ 3 _ rfl; refine blk_put (cs := #[.int .i64 t317, .int .i64 t318, .int .i64 x283002_1, .bool x283003_1, .bool x283004_1]) ?_ 2 _ rfl; refine blk_put (cs := #[.int .i64 t317, .int .i64 x283001_1, .int .i64 x283002_1, .bool x283003_1, .bool x283004_1]) ?_ 1 _ rfl; refine blk_put (cs := #[.int .i64 x283000_1, .int .i64 x283001_1, .int .i64 x283002_1, .bool x283003_1, .bool x283004_1]) ?_ 0 _ rfl; (with_reducible repeat first|apply bn_|apply bd_|apply ba_); exact BK282.out) hg (Kd.R_ne HO_10.out BK282.out (by decide))); have n2_ := am_ (hb); have n3_ := am_ (ho); clear BK275 BK282 HB HO_10; have BK275 := n0_; have BK282 := n1_; have HB := n2_; have HO328 := n3_; clear n0_ n1_ n2_ n3_; clear ho hb hg hat))
               go_roundg k1
               case measure => have := HK1.out; omega
               case rel => exact ⟨(y326), (wrap64 (x25_1 + 1)), (t317), (t318), (t319), (t320), (t321), (by first | rfl | (simp; done) | (simp [*]; done)), H', ⟨by have := HK1.out; omega⟩, ⟨by (with_reducible repeat (first | apply Kd.R_alloc | apply Kd.R_drewN | apply Kd.R_drew)); exact HO328.out⟩, ⟨by (with_reducible repeat first|apply bn_|apply bd_|apply ba_); exact BK275.out⟩, ⟨by (with_reducible repeat first|apply bn_|apply bd_|apply ba_); exact BK282.out⟩, ⟨ue_ HB.out⟩⟩
              ·
               rw [if_neg c87] at H
               exact absurd H (by simp)
            ·
             rw [if_neg c73] at H
             exact absurd H (by simp)
           ·
            rw [if_neg c72] at H
            have c72b0 : ((rd (rd_L1 l2 x25_1) 0) == 2) = false := beq_eq_false_iff_ne.mpr c72
            have c72b1 : ((rd (rd_L1 l2 x25_1) 0) != 2) = true := bne_iff_ne.mpr c72
            by_cases c96 : (rd (rd_L1 l2 x25_1) 0) = 3
            ·
             rw [if_pos c96] at H
             have c96b0 : ((rd (rd_L1 l2 x25_1) 0) == 3) = true := beq_iff_eq.mpr c96
             have c96b1 : ((rd (rd_L1 l2 x25_1) 0) != 3) = false := bne_eq_false_iff_eq.mpr c96
             clear c96
             replace H := Option.bind_eq_some_iff.mp H
             obtain ⟨⟨t329, t330, t331, t332, t333, t334⟩, A970, H⟩ := H
             replace H : (if t334 = true then (if x10_1.length < 17592186044416 then (impl_PlaySource.l0 k1 a0 a1 (x10_1 ++ [t330]) l2 (l2.length : Int) (wrap64 (x25_1 + 1)) t329 t330 t331 t332 t333) else (none)) else (if x10_1.length < 17592186044416 then (impl_PlaySource.l0 k1 a0 a1 (x10_1 ++ [(-2)]) l2 (l2.length : Int) (wrap64 (x25_1 + 1)) t329 t330 t331 t332 t333) else (none))) = some (r1, r2, r3, r4, r5, r6) := H
             have A97 := Aside0.mk A970
             clear A970
             by_cases c98 : t334 = true
             ·
              subst c98
              have H1 : (if x10_1.length < 17592186044416 then (impl_PlaySource.l0 k1 a0 a1 (x10_1 ++ [t330]) l2 (l2.length : Int) (wrap64 (x25_1 + 1)) t329 t330 t331 t332 t333) else (none)) = some (r1, r2, r3, r4, r5, r6) := by rw [if_pos rfl] at H; exact H
              clear H
              have H := H1
              clear H1
              by_cases c99 : x10_1.length < 17592186044416
              ·
               rw [if_pos c99] at H
               have LMc99 := Aside0.mk c99
               clear c99
               obtain ⟨y335, hy335⟩ : ∃ y_ : List Int, y_ = (x10_1 ++ [t330]) := ⟨_, rfl⟩
               replace H : (impl_PlaySource.l0 k1 a0 a1 y335 l2 (l2.length : Int) (wrap64 (x25_1 + 1)) t329 t330 t331 t332 t333) = some (r1, r2, r3, r4, r5, r6) := by first | (rw [hy335]; with_reducible exact H) | (have H2_ := (Option.bind_some _ _).symm.trans H; rw [hy335]; with_reducible exact H2_) | (have H2_ := (Option.bind_some _ _).symm.trans H; with_reducible exact H2_) | with_reducible exact H | (rw [hy335]; exact H) | exact H
               have Ny335 := Aside0.mk hy335
               clear hy335
               have H' := Aside0.mk H
               clear H
               have p286 : 0 ≤ (x25_1 : Int) := of_decide_eq_true ua_
               have q286 : x25_1 < (l2.length : Int) := of_decide_eq_true ua_
               obtain ⟨ad286, A286_0, c286_0, e286, hx286_0, hl286_0, hi286_0⟩ := at_L1 HR2.out x25_1 p286 q286
               cases e286
               replace hx286_0 := bc_ HB.out hx286_0
               have HR286_0 := Aside0.mk hi286_0
               have HC286_0 := Aside0.mk hl286_0
               clear hi286_0 hl286_0
               replace p286 := eq_true p286
               replace q286 := eq_true q286
               have p287 : 0 ≤ (0 : Int) := (by omega)
               have q287 : 0 < ((rd_L1 l2 x25_1).length : Int) := of_decide_eq_true ua_
               obtain ⟨ad287, e287, hx287_0⟩ := Kd.at_int HR286_0.out 0 p287 q287
               cases e287
               have qi287 : (0 < (rd_L1 l2 x25_1).length) = True := eq_true (by omega)
               (try rw [show ((0 : Int)).toNat = 0 from rfl] at hx287_0)
               (try rw [Addr.add_zero'] at hx287_0)
               replace hx287_0 := bc_ HB.out hx287_0
               replace p287 := eq_true p287
               replace q287 := eq_true q287
               have hnb100 := NB282_275.out
               have hnc100 := NB275_282.out
               have hcz101_0 := cb_ BK282.out 0 rfl
               have hcz101_1 := cb_ BK282.out 1 rfl
               have hcz101_2 := cb_ BK282.out 2 rfl
               have hcz101_3 := cb_ BK282.out 3 rfl
               have hcz101_4 := cb_ BK282.out 4 rfl
               have hfz101_0 := blk_frozen BK282.out 0
               have hfz101_1 := blk_frozen BK282.out 1
               have hfz101_2 := blk_frozen BK282.out 2
               have hfz101_3 := blk_frozen BK282.out 3
               have hfz101_4 := blk_frozen BK282.out 4
               go_wp2_with (first | ((with_reducible refine gate_callee (f := 139) rfl ?_); refine goesL_ (some 77) rfl rfl Try.func139 (by kernel_rfl) rfl #[.agg #[.int .i64 x283000_1, .int .i64 x283001_1, .int .i64 x283002_1, .bool x283003_1, .bool x283004_1]] rfl ul_ ?_; (with_reducible refine (impl_CloseSource.calls x283000_1 x283001_1 x283002_1 x283003_1 x283004_1 t329 t330 t331 t332 t333 true _ A97.out).mono ?_); rintro e w102 ⟨rfl, hb⟩; refine ⟨_, rfl, ?_⟩; have n0_ := am_ (Kd.R_below (ur_ HO_10.out) hb); have n1_ := am_ (bb_ BK275.out hb); have n2_ := am_ (bb_ BK282.out hb); have n3_ := am_ (below_step (ue_ HB.out) hb); clear HO_10 BK275 BK282 HB; have HO_10 := n0_; have BK275 := n1_; have BK282 := n2_; have HB := n3_; clear n0_ n1_ n2_ n3_; (try clear hb); (try clear hb2); (try clear hk); (try clear hi); obtain ⟨hcz103_0, hcz103_1, hcz103_2, hcz103_3, hcz103_4⟩ := cb5_ BK282.out; obtain ⟨hfz103_0, hfz103_1, hfz103_2, hfz103_3⟩ := bf4_ BK282.out; have hfz103_4 := blk_frozen BK282.out 4) | ((with_reducible refine gate_store (t := 72) (p := 8) rfl ?_); refine store_event (t := 72) (p := 8) (v := ?vo_w104) (w1 := (((((w102.setCell ⟨gb282, 0, none⟩ (.int .i64 t329)).setCell ⟨gb282, 1, none⟩ (.int .i64 t330)).setCell ⟨gb282, 2, none⟩ (.int .i64 t331)).setCell ⟨gb282, 3, none⟩ (.bool t332)).setCell ⟨gb282, 4, none⟩ (.bool t333))) ?hg ?ho ?hn ?hr ?_; (case ho => rfl); (case hg => rfl); (case hn => rfl); (case hr => first | (go_simp; done) | (go_simp; rfl)); intro w104 hw; have n0_ : Aside0 (Kd.R (Kd.int .i64) 3 w104 w.heap.size (fun _ => True) u10 x10_1) := ⟨(by rw [hw]; exact (by (with_reducible repeat (first | apply Kd.R_alloc | apply Kd.R_drewN | apply Kd.R_drew)); exact Kd.R_mono (Kd.R_far (p := ⟨gb282, 4, none⟩) (Kd.R_far (p := ⟨gb282, 3, none⟩) (Kd.R_far (p := ⟨gb282, 2, none⟩) (Kd.R_far (p := ⟨gb282, 1, none⟩) (Kd.R_far (p := ⟨gb282, 0, none⟩) (Kd.R_types HO_10.out BK282.out (by decide)) (fun _ hk => by first | exact hk.2 | grind) (.int .i64 t329)) (fun _ hk => by first | exact hk.2 | grind) (.int .i64 t330)) (fun _ hk => by first | exact hk.2 | grind) (.int .i64 t331)) (fun _ hk => by first | exact hk.2 | grind) (.bool t332)) (fun _ hk => by first | exact hk.2 | grind) (.bool t333)) (fun _ hk => trivial)))⟩; have n1_ : Aside0 (w104.heap[gb275]? = some (.cells #[.int .i64 0, .int .i64 0, .int .i64 0, .bool false, .bool false] 72 (0, 0))) := ⟨(by rw [hw]; exact (uf_ BK275.out))⟩; have n2_ : Aside0 (w104.heap[gb282]? = some (.cells #[.int .i64 t329, .int .i64 t330, .int .i64 t331, .bool t332, .bool t333] 72 (0, 0))) := ⟨(by rw [hw]; exact (by (with_reducible repeat first|apply bn_|apply bd_|apply ba_); refine blk_put (cs := #[.int .i64 t329, .int .i64 t330, .int .i64 t331, .bool t332, .bool x283004_1]) ?_ 4 _ rfl; refine blk_put (cs := #[.int .i64 t329, .int .i64 t330, .int .i64 t331, .bool x283003_1, .bool x283004_1]) ?_ 3 _ rfl; refine blk_put (cs := #[.int .i64 t329, .int .i64 t330, .int .i64 x283002_1, .bool x283003_1, .bool x283004_1]) ?_ 2 _ rfl; refine blk_put (cs := #[.int .i64 t329, .int .i64 x283001_1, .int .i64 x283002_1, .bool x283003_1, .bool x283004_1]) ?_ 1 _ rfl; refine blk_put (cs := #[.int .i64 x283000_1, .int .i64 x283001_1, .int .i64 x283002_1, .bool x283003_1, .bool x283004_1]) ?_ 0 _ rfl; (with_reducible repeat first|apply bn_|apply bd_|apply ba_); exact BK282.out))⟩; have n3_ : Aside0 (Below w.heap.size w w104) := ⟨(by rw [hw]; exact (ue_ HB.out))⟩; clear hw HO_10 BK275 BK282 HB; have HO_10 := n0_; have BK275 := n1_; have BK282 := n2_; have HB := n3_; clear n0_ n1_ n2_ n3_; obtain ⟨hcz105_0, hcz105_1, hcz105_2, hcz105_3, hcz105_4⟩ := cb5_ BK282.out; obtain ⟨hfz105_0, hfz105_1, hfz105_2, hfz105_3⟩ := bf4_ BK282.out; have hfz105_4 := blk_frozen BK282.out 4) | ((with_reducible refine gate_builtin (b := .append) (xs := #[.tmp 81, .tmp 84]) rfl ?_); at_builtin; refine Kd.R_append (Kd.int .i64) (w0 := w) w.heap.size rfl (.tmp 81) (.tmp 84) 22 3 (.int .i64 0) 8 rfl Try.underlying22 info3 rfl (by decide) (by omega) u10 x10_1 t330 [.int .i64 t330] (fun _ => True) (fun _ => False) rfl rfl ?aP (fun _ hk => hk.elim) ?aF ?aO ?aB ?aS ?aL ?_; (case aP => exact rfl); (case aB => exact (ue_ HB.out)); (case aF => exact (fun _ _ => trivial)); (case aO => exact (ur_ HO_10.out)); (case aS => exact (below_size (ue_ HB.out))); (case aL => have := LMc99.out; omega); intro v336 w106 ho hb hg hat; rw [← Ny335.out] at ho; have n0_ := am_ (blk_grown (g := gb275) (o := .cells #[.int .i64 0, .int .i64 0, .int .i64 0, .bool false, .bool false] 72 (0, 0)) (ub_ BK275.out) hg (Kd.R_ne HO_10.out BK275.out (by decide))); have n1_ := am_ (blk_grown (g := gb282) (o := .cells #[.int .i64 t329, .int .i64 t330, .int .i64 t331, .bool t332, .bool t333] 72 (0, 0)) (ub_ BK282.out) hg (Kd.R_ne HO_10.out BK282.out (by decide))); have n2_ := am_ (hb); have n3_ := am_ (ho); clear BK275 BK282 HB HO_10; have BK275 := n0_; have BK282 := n1_; have HB := n2_; have HO337 := n3_; clear n0_ n1_ n2_ n3_; clear ho hb hg hat))
               go_roundg k1
               case measure => have := HK1.out; omega
               case rel => exact ⟨(y335), (wrap64 (x25_1 + 1)), (t329), (t330), (t331), (t332), (t333), (by first | rfl | (simp; done) | (simp [*]; done)), H', ⟨by have := HK1.out; omega⟩, ⟨by (with_reducible repeat (first | apply Kd.R_alloc | apply Kd.R_drewN | apply Kd.R_drew)); exact HO337.out⟩, ⟨by (with_reducible repeat first|apply bn_|apply bd_|apply ba_); exact BK275.out⟩, ⟨by (with_reducible repeat first|apply bn_|apply bd_|apply ba_); exact BK282.out⟩, ⟨ue_ HB.out⟩⟩
              ·
               rw [if_neg c99] at H
               exact absurd H (by simp)
             ·
              replace c98 := Bool.eq_false_iff.mpr c98
              subst c98
              have H1 : (if x10_1.length < 17592186044416 then (impl_PlaySource.l0 k1 a0 a1 (x10_1 ++ [(-2)]) l2 (l2.length : Int) (wrap64 (x25_1 + 1)) t329 t330 t331 t332 t333) else (none)) = some (r1, r2, r3, r4, r5, r6) := by rw [if_neg (show ¬ (false = true) by decide)] at H; exact H
              clear H
              have H := H1
              clear H1
              by_cases c107 : x10_1.length < 17592186044416
              ·
               rw [if_pos c107] at H
               have LMc107 := Aside0.mk c107
               clear c107
               obtain ⟨y338, hy338⟩ : ∃ y_ : List Int, y_ = (x10_1 ++ [(-2)]) := ⟨_, rfl⟩
               replace H : (impl_PlaySource.l0 k1 a0 a1 y338 l2 (l2.length : Int) (wrap64 (x25_1 + 1)) t329 t330 t331 t332 t333) = some (r1, r2, r3, r4, r5, r6) := by first | (rw [hy338]; with_reducible exact H) | (have H2_ := (Option.bind_some _ _).symm.trans H; rw [hy338]; with_reducible exact H2_) | (have H2_ := (Option.bind_some _ _).symm.trans H; with_reducible exact H2_) | with_reducible exact H | (rw [hy338]; exact H) | exact H
               have Ny338 := Aside0.mk hy338
               clear hy338
               have H' := Aside0.mk H
               clear H
               have p286 : 0 ≤ (x25_1 : Int) := of_decide_eq_true ua_
               have q286 : x25_1 < (l2.length : Int) := of_decide_eq_true ua_
               obtain ⟨ad286, A286_0, c286_0, e286, hx286_0, hl286_0, hi286_0⟩ := at_L1 HR2.out x25_1 p286 q286
               cases e286
               replace hx286_0 := bc_ HB.out hx286_0
               have HR286_0 := Aside0.mk hi286_0
               have HC286_0 := Aside0.mk hl286_0
               clear hi286_0 hl286_0
               replace p286 := eq_true p286
               replace q286 := eq_true q286
               have p287 : 0 ≤ (0 : Int) := (by omega)
               have q287 : 0 < ((rd_L1 l2 x25_1).length : Int) := of_decide_eq_true ua_
               obtain ⟨ad287, e287, hx287_0⟩ := Kd.at_int HR286_0.out 0 p287 q287
               cases e287
               have qi287 : (0 < (rd_L1 l2 x25_1).length) = True := eq_true (by omega)
               (try rw [show ((0 : Int)).toNat = 0 from rfl] at hx287_0)
               (try rw [Addr.add_zero'] at hx287_0)
               replace hx287_0 := bc_ HB.out hx287_0
               replace p287 := eq_true p287
               replace q287 := eq_true q287
               have hnb108 := NB282_275.out
               have hnc108 := NB275_282.out
               have hcz109_0 := cb_ BK282.out 0 rfl
               have hcz109_1 := cb_ BK282.out 1 rfl
               have hcz109_2 := cb_ BK282.out 2 rfl
               have hcz109_3 := cb_ BK282.out 3 rfl
               have hcz109_4 := cb_ BK282.out 4 rfl
               have hfz109_0 := blk_frozen BK282.out 0
               have hfz109_1 := blk_frozen BK282.out 1
               have hfz109_2 := blk_frozen BK282.out 2
               have hfz109_3 := blk_frozen BK282.out 3
               have hfz109_4 := blk_frozen BK282.out 4
               go_wp2_with (first | ((with_reducible refine gate_callee (f := 139) rfl ?_); refine goesL_ (some 77) rfl rfl Try.func139 (by kernel_rfl) rfl #[.agg #[.int .i64 x283000_1, .int .i64 x283001_1, .int .i64 x283002_1, .bool x283003_1, .bool x283004_1]] rfl ul_ ?_; (with_reducible refine (impl_CloseSource.calls x283000_1 x283001_1 x283002_1 x283003_1 x283004_1 t329 t330 t331 t332 t333 false _ A97.out).mono ?_); rintro e w110 ⟨rfl, hb⟩; refine ⟨_, rfl, ?_⟩; have n0_ := am_ (Kd.R_below (ur_ HO_10.out) hb); have n1_ := am_ (bb_ BK275.out hb); have n2_ := am_ (bb_ BK282.out hb); have n3_ := am_ (below_step (ue_ HB.out) hb); clear HO_10 BK275 BK282 HB; have HO_10 := n0_; have BK275 := n1_; have BK282 := n2_; have HB := n3_; clear n0_ n1_ n2_ n3_; (try clear hb); (try clear hb2); (try clear hk); (try clear hi); obtain ⟨hcz111_0, hcz111_1, hcz111_2, hcz111_3, hcz111_4⟩ := cb5_ BK282.out; obtain ⟨hfz111_0, hfz111_1, hfz111_2, hfz111_3⟩ := bf4_ BK282.out; have hfz111_4 := blk_frozen BK282.out 4) | ((with_reducible refine gate_store (t := 72) (p := 8) rfl ?_); refine store_event (t := 72) (p := 8) (v := ?vo_w112) (w1 := (((((w110.setCell ⟨gb282, 0, none⟩ (.int .i64 t329)).setCell ⟨gb282, 1, none⟩ (.int .i64 t330)).setCell ⟨gb282, 2, none⟩ (.int .i64 t331)).setCell ⟨gb282, 3, none⟩ (.bool t332)).setCell ⟨gb282, 4, none⟩ (.bool t333))) ?hg ?ho ?hn ?hr ?_; (case ho => rfl); (case hg => rfl); (case hn => rfl); (case hr => first | (go_simp; done) | (go_simp; rfl)); intro w112 hw; have n0_ : Aside0 (Kd.R (Kd.int .i64) 3 w112 w.heap.size (fun _ => True) u10 x10_1) := ⟨(by rw [hw]; exact (by (with_reducible repeat (first | apply Kd.R_alloc | apply Kd.R_drewN | apply Kd.R_drew)); exact Kd.R_mono (Kd.R_far (p := ⟨gb282, 4, none⟩) (Kd.R_far (p := ⟨gb282, 3, none⟩) (Kd.R_far (p := ⟨gb282, 2, none⟩) (Kd.R_far (p := ⟨gb282, 1, none⟩) (Kd.R_far (p := ⟨gb282, 0, none⟩) (Kd.R_types HO_10.out BK282.out (by decide)) (fun _ hk => by first | exact hk.2 | grind) (.int .i64 t329)) (fun _ hk => by first | exact hk.2 | grind) (.int .i64 t330)) (fun _ hk => by first | exact hk.2 | grind) (.int .i64 t331)) (fun _ hk => by first | exact hk.2 | grind) (.bool t332)) (fun _ hk => by first | exact hk.2 | grind) (.bool t333)) (fun _ hk => trivial)))⟩; have n1_ : Aside0 (w112.heap[gb275]? = some (.cells #[.int .i64 0, .int .i64 0, .int .i64 0, .bool false, .bool false] 72 (0, 0))) := ⟨(by rw [hw]; exact (uf_ BK275.out))⟩; have n2_ : Aside0 (w112.heap[gb282]? = some (.cells #[.int .i64 t329, .int .i64 t330, .int .i64 t331, .bool t332, .bool t333] 72 (0, 0))) := ⟨(by rw [hw]; exact (by (with_reducible repeat first|apply bn_|apply bd_|apply ba_); refine blk_put (cs := #[.int .i64 t329, .int .i64 t330, .int .i64 t331, .bool t332, .bool x283004_1]) ?_ 4 _ rfl; refine blk_put (cs := #[.int .i64 t329, .int .i64 t330, .int .i64 t331, .bool x283003_1, .bool x283004_1]) ?_ 3 _ rfl; refine blk_put (cs := #[.int .i64 t329, .int .i64 t330, .int .i64 x283002_1, .bool x283003_1, .bool x283004_1]) ?_ 2 _ rfl; refine blk_put (cs := #[.int .i64 t329, .int .i64 x283001_1, .int .i64 x283002_1, .bool x283003_1, .bool x283004_1]) ?_ 1 _ rfl; refine blk_put (cs := #[.int .i64 x283000_1, .int .i64 x283001_1, .int .i64 x283002_1, .bool x283003_1, .bool x283004_1]) ?_ 0 _ rfl; (with_reducible repeat first|apply bn_|apply bd_|apply ba_); exact BK282.out))⟩; have n3_ : Aside0 (Below w.heap.size w w112) := ⟨(by rw [hw]; exact (ue_ HB.out))⟩; clear hw HO_10 BK275 BK282 HB; have HO_10 := n0_; have BK275 := n1_; have BK282 := n2_; have HB := n3_; clear n0_ n1_ n2_ n3_) | ((with_reducible refine gate_builtin (b := .append) (xs := #[.tmp 86, .tmp 87]) rfl ?_); at_builtin; refine Kd.R_append (Kd.int .i64) (w0 := w) w.heap.size rfl (.tmp 86) (.tmp 87) 22 3 (.int .i64 0) 8 rfl Try.underlying22 info3 rfl (by decide) (by omega) u10 x10_1 (-2) [.int .i64 (-2)] (fun _ => True) (fun _ => False) rfl rfl ?aP (fun _ hk => hk.elim) ?aF ?aO ?aB ?aS ?aL ?_; (case aP => exact rfl); (case aB => exact (ue_ HB.out)); (case aF => exact (fun _ _ => trivial)); (case aO => exact (ur_ HO_10.out)); (case aS => exact (below_size (ue_ HB.out))); (case aL => have := LMc107.out; omega); intro v339 w113 ho hb hg hat; rw [← Ny338.out] at ho; have n0_ := am_ (blk_grown (g := gb275) (o := .cells #[.int .i64 0, .int .i64 0, .int .i64 0, .bool false, .bool false] 72 (0, 0)) (ub_ BK275.out) hg (Kd.R_ne HO_10.out BK275.out (by decide))); have n1_ := am_ (blk_grown (g := gb282) (o := .cells #[.int .i64 t329, .int .i64 t330, .int .i64 t331, .bool t332, .bool t333] 72 (0, 0)) (ub_ BK282.out) hg (Kd.R_ne HO_10.out BK282.out (by decide))); have n2_ := am_ (hb); have n3_ := am_ (ho); clear BK275 BK282 HB HO_10; have BK275 := n0_; have BK282 := n1_; have HB := n2_; have HO340 := n3_; clear n0_ n1_ n2_ n3_; clear ho hb hg hat))
               go_roundg k1
               case measure => have := HK1.out; omega
               case rel => exact ⟨(y338), (wrap64 (x25_1 + 1)), (t329), (t330), (t331), (t332), (t333), (by first | rfl | (simp; done) | (simp [*]; done)), H', ⟨by have := HK1.out; omega⟩, ⟨by (with_reducible repeat (first | apply Kd.R_alloc | apply Kd.R_drewN | apply Kd.R_drew)); exact HO340.out⟩, ⟨by (with_reducible repeat first|apply bn_|apply bd_|apply ba_); exact BK275.out⟩, ⟨by (with_reducible repeat first|apply bn_|apply bd_|apply ba_); exact BK282.out⟩, ⟨ue_ HB.out⟩⟩
              ·
               rw [if_neg c107] at H
               exact absurd H (by simp)
            ·
             rw [if_neg c96] at H
             have c96b0 : ((rd (rd_L1 l2 x25_1) 0) == 3) = false := beq_eq_false_iff_ne.mpr c96
             have c96b1 : ((rd (rd_L1 l2 x25_1) 0) != 3) = true := bne_iff_ne.mpr c96
             by_cases c114 : x10_1.length < 17592186044416
             ·
              rw [if_pos c114] at H
              have LMc114 := Aside0.mk c114
              clear c114
              obtain ⟨y341, hy341⟩ : ∃ y_ : List Int, y_ = (x10_1 ++ [(-2)]) := ⟨_, rfl⟩
              replace H : (impl_PlaySource.l0 k1 a0 a1 y341 l2 (l2.length : Int) (wrap64 (x25_1 + 1)) x283000_1 x283001_1 x283002_1 x283003_1 x283004_1) = some (r1, r2, r3, r4, r5, r6) := by first | (rw [hy341]; with_reducible exact H) | (have H2_ := (Option.bind_some _ _).symm.trans H; rw [hy341]; with_reducible exact H2_) | (have H2_ := (Option.bind_some _ _).symm.trans H; with_reducible exact H2_) | with_reducible exact H | (rw [hy341]; exact H) | exact H
              have Ny341 := Aside0.mk hy341
              clear hy341
              have H' := Aside0.mk H
              clear H
              have p286 : 0 ≤ (x25_1 : Int) := of_decide_eq_true ua_
              have q286 : x25_1 < (l2.length : Int) := of_decide_eq_true ua_
              obtain ⟨ad286, A286_0, c286_0, e286, hx286_0, hl286_0, hi286_0⟩ := at_L1 HR2.out x25_1 p286 q286
              cases e286
              replace hx286_0 := bc_ HB.out hx286_0
              have HR286_0 := Aside0.mk hi286_0
              have HC286_0 := Aside0.mk hl286_0
              clear hi286_0 hl286_0
              replace p286 := eq_true p286
              replace q286 := eq_true q286
              have p287 : 0 ≤ (0 : Int) := (by omega)
              have q287 : 0 < ((rd_L1 l2 x25_1).length : Int) := of_decide_eq_true ua_
              obtain ⟨ad287, e287, hx287_0⟩ := Kd.at_int HR286_0.out 0 p287 q287
              cases e287
              have qi287 : (0 < (rd_L1 l2 x25_1).length) = True := eq_true (by omega)
              (try rw [show ((0 : Int)).toNat = 0 from rfl] at hx287_0)
              (try rw [Addr.add_zero'] at hx287_0)
              replace hx287_0 := bc_ HB.out hx287_0
              replace p287 := eq_true p287
              replace q287 := eq_true q287
              go_wp2_with (first | ((with_reducible refine gate_builtin (b := .append) (xs := #[.tmp 86, .tmp 87]) rfl ?_); at_builtin; refine Kd.R_append (Kd.int .i64) (w0 := w) w.heap.size rfl (.tmp 86) (.tmp 87) 22 3 (.int .i64 0) 8 rfl Try.underlying22 info3 rfl (by decide) (by omega) u10 x10_1 (-2) [.int .i64 (-2)] (fun _ => True) (fun _ => False) rfl rfl ?aP (fun _ hk => hk.elim) ?aF ?aO ?aB ?aS ?aL ?_; (case aP => exact rfl); (case aB => exact (ue_ HB.out)); (case aF => exact (fun _ _ => trivial)); (case aO => exact (ur_ HO_10.out)); (case aS => exact (below_size (ue_ HB.out))); (case aL => have := LMc114.out; omega); intro v342 w115 ho hb hg hat; rw [← Ny341.out] at ho; have n0_ := am_ (blk_grown (g := gb275) (o := .cells #[.int .i64 0, .int .i64 0, .int .i64 0, .bool false, .bool false] 72 (0, 0)) (ub_ BK275.out) hg (Kd.R_ne HO_10.out BK275.out (by decide))); have n1_ := am_ (blk_grown (g := gb282) (o := .cells #[.int .i64 x283000_1, .int .i64 x283001_1, .int .i64 x283002_1, .bool x283003_1, .bool x283004_1] 72 (0, 0)) (ub_ BK282.out) hg (Kd.R_ne HO_10.out BK282.out (by decide))); have n2_ := am_ (hb); have n3_ := am_ (ho); clear BK275 BK282 HB HO_10; have BK275 := n0_; have BK282 := n1_; have HB := n2_; have HO343 := n3_; clear n0_ n1_ n2_ n3_; clear ho hb hg hat))
              go_roundg k1
              case measure => have := HK1.out; omega
              case rel => exact ⟨(y341), (wrap64 (x25_1 + 1)), (x283000_1), (x283001_1), (x283002_1), (x283003_1), (x283004_1), (by first | rfl | (simp; done) | (simp [*]; done)), H', ⟨by have := HK1.out; omega⟩, ⟨by (with_reducible repeat (first | apply Kd.R_alloc | apply Kd.R_drewN | apply Kd.R_drew)); exact HO343.out⟩, ⟨by (with_reducible repeat first|apply bn_|apply bd_|apply ba_); exact BK275.out⟩, ⟨by (with_reducible repeat first|apply bn_|apply bd_|apply ba_); exact BK282.out⟩, ⟨ue_ HB.out⟩⟩
             ·
              rw [if_neg c114] at H
              exact absurd H (by simp)
        ·
         rw [if_neg c21] at H
         exact absurd H (by simp)
       ·
        rw [if_neg c20] at H
        have c20b0 : (((rd_L1 l2 x25_1).length : Int) == 3) = false := beq_eq_false_iff_ne.mpr c20
        have c20b1 : (((rd_L1 l2 x25_1).length : Int) != 3) = true := bne_iff_ne.mpr c20
        by_cases c116 : x10_1.length < 17592186044416
        ·
         rw [if_pos c116] at H
         have LMc116 := Aside0.mk c116
         clear c116
         obtain ⟨y344, hy344⟩ : ∃ y_ : List Int, y_ = (x10_1 ++ [(-2)]) := ⟨_, rfl⟩
         replace H : (impl_PlaySource.l0 k1 a0 a1 y344 l2 (l2.length : Int) (wrap64 (x25_1 + 1)) x283000_1 x283001_1 x283002_1 x283003_1 x283004_1) = some (r1, r2, r3, r4, r5, r6) := by first | (rw [hy344]; with_reducible exact H) | (have H2_ := (Option.bind_some _ _).symm.trans H; rw [hy344]; with_reducible exact H2_) | (have H2_ := (Option.bind_some _ _).symm.trans H; with_reducible exact H2_) | with_reducible exact H | (rw [hy344]; exact H) | exact H
         have Ny344 := Aside0.mk hy344
         clear hy344
         have H' := Aside0.mk H
         clear H
         have p286 : 0 ≤ (x25_1 : Int) := of_decide_eq_true ua_
         have q286 : x25_1 < (l2.length : Int) := of_decide_eq_true ua_
         obtain ⟨ad286, A286_0, c286_0, e286, hx286_0, hl286_0, hi286_0⟩ := at_L1 HR2.out x25_1 p286 q286
         cases e286
         replace hx286_0 := bc_ HB.out hx286_0
         have HR286_0 := Aside0.mk hi286_0
         have HC286_0 := Aside0.mk hl286_0
         clear hi286_0 hl286_0
         replace p286 := eq_true p286
         replace q286 := eq_true q286
         go_wp2_with (first | ((with_reducible refine gate_builtin (b := .append) (xs := #[.tmp 86, .tmp 87]) rfl ?_); at_builtin; refine Kd.R_append (Kd.int .i64) (w0 := w) w.heap.size rfl (.tmp 86) (.tmp 87) 22 3 (.int .i64 0) 8 rfl Try.underlying22 info3 rfl (by decide) (by omega) u10 x10_1 (-2) [.int .i64 (-2)] (fun _ => True) (fun _ => False) rfl rfl ?aP (fun _ hk => hk.elim) ?aF ?aO ?aB ?aS ?aL ?_; (case aP => exact rfl); (case aB => exact (ue_ HB.out)); (case aF => exact (fun _ _ => trivial)); (case aO => exact (ur_ HO_10.out)); (case aS => exact (below_size (ue_ HB.out))); (case aL => have := LMc116.out; omega); intro v345 w117 ho hb hg hat; rw [← Ny344.out] at ho; have n0_ := am_ (blk_grown (g := gb275) (o := .cells #[.int .i64 0, .int .i64 0, .int .i64 0, .bool false, .bool false] 72 (0, 0)) (ub_ BK275.out) hg (Kd.R_ne HO_10.out BK275.out (by decide))); have n1_ := am_ (blk_grown (g := gb282) (o := .cells #[.int .i64 x283000_1, .int .i64 x283001_1, .int .i64 x283002_1, .bool x283003_1, .bool x283004_1] 72 (0, 0)) (ub_ BK282.out) hg (Kd.R_ne HO_10.out BK282.out (by decide))); have n2_ := am_ (hb); have n3_ := am_ (ho); clear BK275 BK282 HB HO_10; have BK275 := n0_; have BK282 := n1_; have HB := n2_; have HO346 := n3_; clear n0_ n1_ n2_ n3_; clear ho hb hg hat))
         go_roundg k1
         case measure => have := HK1.out; omega
         case rel => exact ⟨(y344), (wrap64 (x25_1 + 1)), (x283000_1), (x283001_1), (x283002_1), (x283003_1), (x283004_1), (by first | rfl | (simp; done) | (simp [*]; done)), H', ⟨by have := HK1.out; omega⟩, ⟨by (with_reducible repeat (first | apply Kd.R_alloc | apply Kd.R_drewN | apply Kd.R_drew)); exact HO346.out⟩, ⟨by (with_reducible repeat first|apply bn_|apply bd_|apply ba_); exact BK275.out⟩, ⟨by (with_reducible repeat first|apply bn_|apply bd_|apply ba_); exact BK282.out⟩, ⟨ue_ HB.out⟩⟩
        ·
         rw [if_neg c116] at H
         exact absurd H (by simp)
      ·
       rw [if_neg c19] at H
       exact absurd H (by simp)
     ·
      rw [if_neg c18] at H
      exact absurd H (by simp)
    ·
     rw [if_neg c17] at H
     have c17b0 : decide (x25_1 < (l2.length : Int)) = false := decide_eq_false c17
     clear c17
     simp only [Option.some.injEq, Prod.mk.injEq] at H
     obtain ⟨rfl, rfl, rfl, rfl, rfl, rfl⟩ := H
     have hnb118 := NB282_275.out
     have hnc118 := NB275_282.out
     have hcz119_0 := cb_ BK282.out 0 rfl
     have hcz119_1 := cb_ BK282.out 1 rfl
     have hcz119_2 := cb_ BK282.out 2 rfl
     have hcz119_3 := cb_ BK282.out 3 rfl
     have hcz119_4 := cb_ BK282.out 4 rfl
     have hfz119_0 := blk_frozen BK282.out 0
     have hfz119_1 := blk_frozen BK282.out 1
     have hfz119_2 := blk_frozen BK282.out 2
     have hfz119_3 := blk_frozen BK282.out 3
     have hfz119_4 := blk_frozen BK282.out 4
     have hcz120_0 := cb_ BK275.out 0 rfl
     have hcz120_1 := cb_ BK275.out 1 rfl
     have hcz120_2 := cb_ BK275.out 2 rfl
     have hcz120_3 := cb_ BK275.out 3 rfl
     have hcz120_4 := cb_ BK275.out 4 rfl
     have hfz120_0 := blk_frozen BK275.out 0
     have hfz120_1 := blk_frozen BK275.out 1
     have hfz120_2 := blk_frozen BK275.out 2
     have hfz120_3 := blk_frozen BK275.out 3
     have hfz120_4 := blk_frozen BK275.out 4
     go_wp2_with (first | ((with_reducible refine gate_store (t := 72) (p := 6) rfl ?_); refine store_event (t := 72) (p := 6) (v := ?vo_w121) (w1 := (((((wr.setCell ⟨gb275, 0, none⟩ (.int .i64 x283000_1)).setCell ⟨gb275, 1, none⟩ (.int .i64 x283001_1)).setCell ⟨gb275, 2, none⟩ (.int .i64 x283002_1)).setCell ⟨gb275, 3, none⟩ (.bool x283003_1)).setCell ⟨gb275, 4, none⟩ (.bool x283004_1))) ?hg ?ho ?hn ?hr ?_; (case ho => rfl); (case hg => rfl); (case hn => rfl); (case hr => first | (go_simp; done) | (go_simp; rfl)); intro w121 hw; have n0_ : Aside0 (Kd.R (Kd.int .i64) 3 w121 w.heap.size (fun _ => True) u10 x10_1) := ⟨(by rw [hw]; exact (by (with_reducible repeat (first | apply Kd.R_alloc | apply Kd.R_drewN | apply Kd.R_drew)); exact Kd.R_mono (Kd.R_far (p := ⟨gb275, 4, none⟩) (Kd.R_far (p := ⟨gb275, 3, none⟩) (Kd.R_far (p := ⟨gb275, 2, none⟩) (Kd.R_far (p := ⟨gb275, 1, none⟩) (Kd.R_far (p := ⟨gb275, 0, none⟩) (Kd.R_types HO_10.out BK275.out (by decide)) (fun _ hk => by first | exact hk.2 | grind) (.int .i64 x283000_1)) (fun _ hk => by first | exact hk.2 | grind) (.int .i64 x283001_1)) (fun _ hk => by first | exact hk.2 | grind) (.int .i64 x283002_1)) (fun _ hk => by first | exact hk.2 | grind) (.bool x283003_1)) (fun _ hk => by first | exact hk.2 | grind) (.bool x283004_1)) (fun _ hk => trivial)))⟩; have n1_ : Aside0 (w121.heap[gb275]? = some (.cells #[.int .i64 x283000_1, .int .i64 x283001_1, .int .i64 x283002_1, .bool x283003_1, .bool x283004_1] 72 (0, 0))) := ⟨(by rw [hw]; exact (by (with_reducible repeat first|apply bn_|apply bd_|apply ba_); refine blk_put (cs := #[.int .i64 x283000_1, .int .i64 x283001_1, .int .i64 x283002_1, .bool x283003_1, .bool false]) ?_ 4 _ rfl; refine blk_put (cs := #[.int .i64 x283000_1, .int .i64 x283001_1, .int .i64 x283002_1, .bool false, .bool false]) ?_ 3 _ rfl; refine blk_put (cs := #[.int .i64 x283000_1, .int .i64 x283001_1, .int .i64 0, .bool false, .bool false]) ?_ 2 _ rfl; refine blk_put (cs := #[.int .i64 x283000_1, .int .i64 0, .int .i64 0, .bool false, .bool false]) ?_ 1 _ rfl; refine blk_put (cs := #[.int .i64 0, .int .i64 0, .int .i64 0, .bool false, .bool false]) ?_ 0 _ rfl; (with_reducible repeat first|apply bn_|apply bd_|apply ba_); exact BK275.out))⟩; have n2_ : Aside0 (w121.heap[gb282]? = some (.cells #[.int .i64 x283000_1, .int .i64 x283001_1, .int .i64 x283002_1, .bool x283003_1, .bool x283004_1] 72 (0, 0))) := ⟨(by rw [hw]; exact (uf_ BK282.out))⟩; have n3_ : Aside0 (Below w.heap.size w w121) := ⟨(by rw [hw]; exact (ue_ HB.out))⟩; clear hw HO_10 BK275 BK282 HB; have HO_10 := n0_; have BK275 := n1_; have BK282 := n2_; have HB := n3_; clear n0_ n1_ n2_ n3_))
     refine bodyPost_ret (results_ct rfl _ _ gb275 72 #[.int .i64 x283000_1, .int .i64 x283001_1, .int .i64 x283002_1, .bool x283003_1, .bool x283004_1] (0, 0) _ rfl (ub_ BK275.out) Try.underlying72 rfl (by kernel_rfl)) rfl ?_
     exact ⟨_, ew_, by (with_reducible repeat (first | apply Kd.R_alloc | apply Kd.R_drewN | apply Kd.R_drew)); exact HO_10.out, ue_ HB.out⟩

end Go.Proofs.Ytcflalomjehiiaa.QFnExactPlaySource
