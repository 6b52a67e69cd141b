/- The machine side of a law: Lean functions with the Go functions' answers and the walks that show it. No condition. -/
import Derived.Test.YtcflalomjehiiaaQFnExactPlaySourcex0
import Derived.Test.YtcflalomjehiiaaQFnExactPlaySourcex1
import Derived.Test.YtcflalomjehiiaaQFnExactPlaySourcex2
namespace Go.Proofs.Ytcflalomjehiiaa.QFnExactPlaySource
open Go.RowKit Go.Proofs.YtcflalomjehiiaaW.PrintWords Go.Proofs.YtcflalomjehiiaaW.PrintLast Go.Proofs.YtcflalomjehiiaaW.PrintMore
attribute [local go_sem] max2_int min2_int max_two min_two max_three min_three max_four min_four   -- for this text's walks alone
set_option linter.unusedVariables false
set_option linter.unusedSimpArgs false

/-! ### spec_PlaySource: function 51 -/
def spec_PlaySource.l0 : Nat → Int → Int → List (List Int) → List Int → Int → Int → Int → Int → Bool → Bool → Option (Int × Int × Int × Bool × Bool × List Int)
 | 0, _, _, _, _, _, _, _, _, _, _ => none
 | k + 1, x0, x1, x2, x10, x11, x156000, x156001, x156002, x156003, x156004 => if x11 < (x2.length : Int) then (if 0 ≤ x11 then (if ((rd_L1 x2 x11).length : Int) = 3 then (if 0 < ((rd_L1 x2 x11).length : Int) then (if (rd (rd_L1 x2 x11) 0) = 0 then (if 1 < ((rd_L1 x2 x11).length : Int) then (if 2 < ((rd_L1 x2 x11).length : Int) then ((spec_SeeEvent.f k x156000 x156001 x156002 x156003 x156004 x0 (rd (rd_L1 x2 x11) 1) (rd (rd_L1 x2 x11) 2)).bind fun bt163 => (if bt163.2.2.2.2.2 = true then (if x10.length < 17592186044416 then (spec_PlaySource.l0 k x0 x1 x2 (x10 ++ [bt163.2.1]) (wrap64 (x11 + 1)) bt163.1 bt163.2.1 bt163.2.2.1 bt163.2.2.2.1 bt163.2.2.2.2.1) else (none)) else (if x10.length < 17592186044416 then (spec_PlaySource.l0 k x0 x1 x2 (x10 ++ [(-2)]) (wrap64 (x11 + 1)) bt163.1 bt163.2.1 bt163.2.2.1 bt163.2.2.2.1 bt163.2.2.2.2.1) else (none)))) else (none)) else (none)) else (if (rd (rd_L1 x2 x11) 0) = 1 then (if 1 < ((rd_L1 x2 x11).length : Int) then (if 2 < ((rd_L1 x2 x11).length : Int) then ((spec_SeeMark.f x156000 x156001 x156002 x156003 x156004 (rd (rd_L1 x2 x11) 1) (rd (rd_L1 x2 x11) 2)).bind fun bt177 => (if bt177.2.2.2.2.2 = true then (if x10.length < 17592186044416 then (spec_PlaySource.l0 k x0 x1 x2 (x10 ++ [bt177.2.1]) (wrap64 (x11 + 1)) bt177.1 bt177.2.1 bt177.2.2.1 bt177.2.2.2.1 bt177.2.2.2.2.1) else (none)) else (if x10.length < 17592186044416 then (spec_PlaySource.l0 k x0 x1 x2 (x10 ++ [(-2)]) (wrap64 (x11 + 1)) bt177.1 bt177.2.1 bt177.2.2.1 bt177.2.2.2.1 bt177.2.2.2.2.1) else (none)))) else (none)) else (none)) else (if (rd (rd_L1 x2 x11) 0) = 2 then (if 2 < ((rd_L1 x2 x11).length : Int) then ((spec_SeeTick.f k x156000 x156001 x156002 x156003 x156004 x1 (rd (rd_L1 x2 x11) 2)).bind fun bt190 => (if bt190.2.2.2.2.2 = true then (if x10.length < 17592186044416 then (spec_PlaySource.l0 k x0 x1 x2 (x10 ++ [bt190.2.1]) (wrap64 (x11 + 1)) bt190.1 bt190.2.1 bt190.2.2.1 bt190.2.2.2.1 bt190.2.2.2.2.1) else (none)) else (if x10.length < 17592186044416 then (spec_PlaySource.l0 k x0 x1 x2 (x10 ++ [(-2)]) (wrap64 (x11 + 1)) bt190.1 bt190.2.1 bt190.2.2.1 bt190.2.2.2.1 bt190.2.2.2.2.1) else (none)))) else (none)) else (if (rd (rd_L1 x2 x11) 0) = 3 then ((spec_CloseSource.f x156000 x156001 x156002 x156003 x156004).bind fun bt202 => (if bt202.2.2.2.2.2 = true then (if x10.length < 17592186044416 then (spec_PlaySource.l0 k x0 x1 x2 (x10 ++ [bt202.2.1]) (wrap64 (x11 + 1)) bt202.1 bt202.2.1 bt202.2.2.1 bt202.2.2.2.1 bt202.2.2.2.2.1) else (none)) else (if x10.length < 17592186044416 then (spec_PlaySource.l0 k x0 x1 x2 (x10 ++ [(-2)]) (wrap64 (x11 + 1)) bt202.1 bt202.2.1 bt202.2.2.1 bt202.2.2.2.1 bt202.2.2.2.2.1) else (none)))) else (if x10.length < 17592186044416 then (spec_PlaySource.l0 k x0 x1 x2 (x10 ++ [(-2)]) (wrap64 (x11 + 1)) x156000 x156001 x156002 x156003 x156004) else (none)))))) else (none)) else (if x10.length < 17592186044416 then (spec_PlaySource.l0 k x0 x1 x2 (x10 ++ [(-2)]) (wrap64 (x11 + 1)) x156000 x156001 x156002 x156003 x156004) else (none))) else (none)) else (some (x156000, x156001, x156002, x156003, x156004, x10))
def spec_PlaySource.f (k : Nat) (a0 : Int) (a1 : Int) (l2 : List (List Int)) : Option (Int × Int × Int × Bool × Bool × List Int) := (spec_NewSource.f 0).bind fun bt149 => (if (l2.length : Int) > 300 then (some (0, 0, 0, false, false, ([] : List Int))) else (spec_PlaySource.l0 k a0 a1 l2 (([] : List Int)) 0 bt149.1 bt149.2.1 bt149.2.2.1 bt149.2.2.2.1 bt149.2.2.2.2.1))
theorem spec_PlaySource.mono_l : ∀ k, (∀ y0 y1 y2 y3 y4 y5 y6 y7 y8 y9, LeO (spec_PlaySource.l0 k y0 y1 y2 y3 y4 y5 y6 y7 y8 y9) (spec_PlaySource.l0 (k + 1) y0 y1 y2 y3 y4 y5 y6 y7 y8 y9))
 | 0 => fun _ _ _ _ _ _ _ _ _ _ r h => by simp [spec_PlaySource.l0] at h
 | k + 1 => by
  have ih0 := spec_PlaySource.mono_l k
  ·
   intro y0 y1 y2 y3 y4 y5 y6 y7 y8 y9
   unfold spec_PlaySource.l0
   repeat' first
   | (with_reducible exact ih0 _ _ _ _ _ _ _ _ _ _)
   | (with_reducible exact spec_SeeEvent.mono _ _ _ _ _ _ _ _ _)
   | (with_reducible exact spec_SeeTick.mono _ _ _ _ _ _ _ _)
   | (with_reducible exact LeO.refl _)
   | (with_reducible exact LeO.none _)
   | (with_reducible refine LeO.ite ?_ ?_)
   | (with_reducible refine LeO.bind ?_ (fun _ => ?_))
   | exact ih0 _ _ _ _ _ _ _ _ _ _
   | exact spec_SeeEvent.mono _ _ _ _ _ _ _ _ _
   | exact spec_SeeTick.mono _ _ _ _ _ _ _ _
   | exact LeO.none _
   | refine LeO.ite ?_ ?_
   | refine LeO.bind ?_ (fun _ => ?_)
theorem spec_PlaySource.mono : ∀ a0 a1 a2 k, LeO (spec_PlaySource.f k a0 a1 a2) (spec_PlaySource.f (k + 1) a0 a1 a2) := by
 intro a0 a1 a2 k
 have ih0 := spec_PlaySource.mono_l k
 unfold spec_PlaySource.f
 repeat' first
   | (with_reducible exact ih0 _ _ _ _ _ _ _ _ _ _)
   | (with_reducible exact spec_SeeEvent.mono _ _ _ _ _ _ _ _ _)
   | (with_reducible exact spec_SeeTick.mono _ _ _ _ _ _ _ _)
   | (with_reducible exact LeO.refl _)
   | (with_reducible exact LeO.none _)
   | (with_reducible refine LeO.ite ?_ ?_)
   | (with_reducible refine LeO.bind ?_ (fun _ => ?_))
   | exact ih0 _ _ _ _ _ _ _ _ _ _
   | exact spec_SeeEvent.mono _ _ _ _ _ _ _ _ _
   | exact spec_SeeTick.mono _ _ _ _ _ _ _ _
   | exact LeO.none _
   | refine LeO.ite ?_ ?_
   | refine LeO.bind ?_ (fun _ => ?_)
def spec_PlaySource.T13 : Bool × List (List Nat × List Nat) := (true, [([], []), ([], []), ([], []), ([2], [2]), ([3], [3]), ([], []), ([5], [5]), ([6], [6]), ([0, 1, 4, 7], [0, 1, 4, 7]), ([8], [8]), ([9], [9]), ([9], [9]), ([10, 8, 0, 1, 2, 3, 4, 5, 6, 7, 8, 9, 10], [10]), ([11, 12, 0, 1, 2, 3, 4, 5, 6, 7, 8, 9, 10, 11, 12], [11])])
def spec_PlaySource.B13 : List Nat := [0, 0, 0, 4, 12, 0, 32, 96, 255, 511, 1023, 1023, 2047, 8191]
theorem spec_PlaySource.tab13 : rtab .any (opsOf Try.f51 13) = spec_PlaySource.T13 := by kernel_rfl
theorem spec_PlaySource.bits13 : waitsOk spec_PlaySource.T13.2 spec_PlaySource.B13 = true := by kernel_rfl
def spec_PlaySource.T15 : Bool × List (List Nat × List Nat) := (true, [([], []), ([], []), ([1], [1]), ([2], [2]), ([], []), ([4], [4]), ([5], [5]), ([0, 3, 6], [0, 3, 6]), ([7], [7]), ([8], [8]), ([8], [8]), ([9, 7, 0, 1, 2, 3, 4, 5, 6, 7, 8, 9], [9]), ([10, 11, 0, 1, 2, 3, 4, 5, 6, 7, 8, 9, 10, 11], [10])])
def spec_PlaySource.B15 : List Nat := [0, 0, 2, 6, 0, 16, 48, 127, 255, 511, 511, 1023, 4095]
theorem spec_PlaySource.tab15 : rtab .any (opsOf Try.f51 15) = spec_PlaySource.T15 := by kernel_rfl
theorem spec_PlaySource.bits15 : waitsOk spec_PlaySource.T15.2 spec_PlaySource.B15 = true := by kernel_rfl
def spec_PlaySource.T17 : Bool × List (List Nat × List Nat) := (true, [([], []), ([], []), ([], []), ([2], [2]), ([3], [3]), ([0, 1, 4], [0, 1, 4]), ([5], [5]), ([6], [6]), ([6], [6]), ([7, 5, 0, 1, 2, 3, 4, 5, 6, 7], [7]), ([8, 9, 0, 1, 2, 3, 4, 5, 6, 7, 8, 9], [8])])
def spec_PlaySource.B17 : List Nat := [0, 0, 0, 4, 12, 31, 63, 127, 127, 255, 1023]
theorem spec_PlaySource.tab17 : rtab .any (opsOf Try.f51 17) = spec_PlaySource.T17 := by kernel_rfl
theorem spec_PlaySource.bits17 : waitsOk spec_PlaySource.T17.2 spec_PlaySource.B17 = true := by kernel_rfl
set_option maxHeartbeats 8000000 in
set_option maxRecDepth 100000 in
theorem spec_PlaySource.calls (k : Nat) (a0 : Int) (a1 : Int) (A2 : Option Addr) (c2 : Nat) (l2 : List (List Int)) (r1 : Int) (r2 : Int) (r3 : Int) (r4 : Bool) (r5 : Bool) (r6 : List Int) (w : World) (hr2 : Kd.C (Kd.slice 3 (Kd.int .i64)) w A2 l2.length l2) (hc2 : l2.length ≤ c2) (h : spec_PlaySource.f k a0 a1 l2 = some (r1, r2, r3, r4, r5, r6)) :
  Calls Try.prog 51 #[.int .i64 a0, .int .i64 a1, .slice A2 l2.length c2] w fun e w' => ∃ v5_ : Value, e = .returned (.tuple #[.agg #[.int .i64 r1, .int .i64 r2, .int .i64 r3, .bool r4, .bool r5], v5_]) ∧ Kd.R (Kd.int .i64) 3 w' w.heap.size (fun _ => True) v5_ r6 ∧ Below w.heap.size w w' := by
 have hu72 := Try.underlying72
 have HR2 := Aside0.mk hr2
 have HC2 := Aside0.mk hc2
 clear hr2 hc2
 have HB := am_ (Below.refl w.heap.size w)
 have H : ((spec_NewSource.f 0).bind fun bt149 => (if (l2.length : Int) > 300 then (some (0, 0, 0, false, false, ([] : List Int))) else (spec_PlaySource.l0 k a0 a1 l2 (([] : List Int)) 0 bt149.1 bt149.2.1 bt149.2.2.1 bt149.2.2.2.1 bt149.2.2.2.2.1))) = some (r1, r2, r3, r4, r5, r6) := h
 clear h
 replace H := Option.bind_eq_some_iff.mp H
 obtain ⟨⟨t149, t150, t151, t152, t153, t154⟩, A40, H⟩ := H
 replace H : (if (l2.length : Int) > 300 then (some (0, 0, 0, false, false, ([] : List Int))) else (spec_PlaySource.l0 k a0 a1 l2 (([] : List Int)) 0 t149 t150 t151 t152 t153)) = some (r1, r2, r3, r4, r5, r6) := H
 have A4 := Aside0.mk A40
 clear A40
 by_cases c5 : (l2.length : Int) > 300
 ·
  rw [if_pos c5] at H
  have c5b0 : decide (300 < (l2.length : Int)) = true := decide_eq_true c5
  have c5b1 : decide (300 < l2.length) = true := decide_eq_true (by omega)
  clear c5
  simp only [Option.some.injEq, Prod.mk.injEq] at H
  obtain ⟨rfl, rfl, rfl, rfl, rfl, rfl⟩ := H
  go_enter Try.func51, Try.ntmps51
  go_wp2_with (first | ((with_reducible refine gate_dst (N := 6) rfl ?_); refine box_event ?hg (N := 6) ?hd (cs := #[.int .i64 0, .int .i64 0, .int .i64 0, .bool false, .bool false]) (t := 72) ?hr ?_; (case hd => rfl); (case hg => rfl); (case hr => first | (go_simp; done) | (go_simp; rfl)); intro gb148 hg w6 hbox hb; have n0_ := am_ (below_step (ue_ HB.out) hb); have n1_ := am_ (hbox); have n2_ := am_ ((by rw [hg]; exact (below_size (ue_ HB.out)) : w.heap.size ≤ gb148)); have n3_ := am_ ((by rw [hg]; exact (below_size (ue_ HB.out)) : w.heap.size ≤ gb148)); clear HB; have HB := n0_; have BK148 := n1_; have GW148 := n2_; have GE148 := n3_; clear n0_ n1_ n2_ n3_; clear hb hbox hg) | ((with_reducible refine gate_callee (f := 130) rfl ?_); refine goesL_ (some 16) rfl rfl Try.func130 (by kernel_rfl) rfl #[.int .i64 0] rfl ul_ ?_; (with_reducible refine (spec_NewSource.calls 0 t149 t150 t151 t152 t153 t154 _ A4.out).mono ?_); rintro e w7 ⟨rfl, hb⟩; refine ⟨_, rfl, ?_⟩; have n0_ := am_ (bb_ BK148.out hb); have n1_ := am_ (below_step (ue_ HB.out) hb); clear BK148 HB; have BK148 := n0_; have HB := n1_; clear n0_ n1_; (try clear hb); (try clear hb2); (try clear hk); (try clear hi)) | ((with_reducible refine gate_dst (N := 8) rfl ?_); refine box_event ?hg (N := 8) ?hd (cs := #[.int .i64 0, .int .i64 0, .int .i64 0, .bool false, .bool false]) (t := 72) ?hr ?_; (case hd => rfl); (case hg => rfl); (case hr => first | (go_simp; done) | (go_simp; rfl)); intro gb155 hg w8 hbox hb; have n0_ := am_ (bb_ BK148.out hb); have n1_ := am_ (below_step (ue_ HB.out) hb); have n2_ := am_ (hbox); have n3_ := am_ ((by rw [hg]; exact (below_size (ue_ HB.out)) : w.heap.size ≤ gb155)); have n4_ := am_ ((by rw [hg]; exact (below_size (ue_ HB.out)) : w.heap.size ≤ gb155)); have n5_ := am_ ((by rw [hg]; exact Nat.ne_of_lt (bl_ BK148.out) : gb148 ≠ gb155)); have n6_ := am_ ((by rw [hg]; exact Nat.ne_of_gt (bl_ BK148.out) : gb155 ≠ gb148)); clear BK148 HB; have BK148 := n0_; have HB := n1_; have BK155 := n2_; have GW155 := n3_; have GE155 := n4_; have NB148_155 := n5_; have NB155_148 := n6_; clear n0_ n1_ n2_ n3_ n4_ n5_ n6_; clear hb hbox hg; have hnb9 := NB155_148.out; have hnc9 := NB148_155.out; obtain ⟨hcz10_0, hcz10_1, hcz10_2, hcz10_3, hcz10_4⟩ := cb5_ BK155.out; obtain ⟨hfz10_0, hfz10_1, hfz10_2, hfz10_3⟩ := bf4_ BK155.out; have hfz10_4 := blk_frozen BK155.out 4) | ((with_reducible refine gate_store (t := 72) (p := 8) rfl ?_); refine store_event (t := 72) (p := 8) (v := ?vo_w11) (w1 := (((((w8.setCell ⟨gb155, 0, none⟩ (.int .i64 t149)).setCell ⟨gb155, 1, none⟩ (.int .i64 t150)).setCell ⟨gb155, 2, none⟩ (.int .i64 t151)).setCell ⟨gb155, 3, none⟩ (.bool t152)).setCell ⟨gb155, 4, none⟩ (.bool t153))) ?hg ?ho ?hn ?hr ?_; (case ho => rfl); (case hg => rfl); (case hn => rfl); (case hr => first | (go_simp; done) | (go_simp; rfl)); intro w11 hw; have n0_ : Aside0 (w11.heap[gb148]? = some (.cells #[.int .i64 0, .int .i64 0, .int .i64 0, .bool false, .bool false] 72 (0, 0))) := ⟨(by rw [hw]; exact (uf_ BK148.out))⟩; have n1_ : Aside0 (w11.heap[gb155]? = some (.cells #[.int .i64 t149, .int .i64 t150, .int .i64 t151, .bool t152, .bool t153] 72 (0, 0))) := ⟨(by rw [hw]; exact (by (with_reducible repeat first|apply bn_|apply bd_|apply ba_); refine blk_put (cs := #[.int .i64 t149, .int .i64 t150, .int .i64 t151, .bool t152, .bool false]) ?_ 4 _ rfl; refine blk_put (cs := #[.int .i64 t149, .int .i64 t150, .int .i64 t151, .bool false, .bool false]) ?_ 3 _ rfl; refine blk_put (cs := #[.int .i64 t149, .int .i64 t150, .int .i64 0, .bool false, .bool false]) ?_ 2 _ rfl; refine blk_put (cs := #[.int .i64 t149, .int .i64 0, .int .i64 0, .bool false, .bool false]) ?_ 1 _ rfl; refine blk_put (cs := #[.int .i64 0, .int .i64 0, .int .i64 0, .bool false, .bool false]) ?_ 0 _ rfl; (with_reducible repeat first|apply bn_|apply bd_|apply ba_); exact BK155.out))⟩; have n2_ : Aside0 (Below w.heap.size w w11) := ⟨(by rw [hw]; exact (ue_ HB.out))⟩; clear hw BK148 BK155 HB; have BK148 := n0_; have BK155 := n1_; have HB := n2_; clear n0_ n1_ n2_; obtain ⟨hcz12_0, hcz12_1, hcz12_2, hcz12_3, hcz12_4⟩ := cb5_ BK148.out; obtain ⟨hfz12_0, hfz12_1, hfz12_2, hfz12_3⟩ := bf4_ BK148.out; have hfz12_4 := blk_frozen BK148.out 4) | ((with_reducible refine gate_store (t := 72) (p := 6) rfl ?_); refine store_event (t := 72) (p := 6) (v := ?vo_w13) (w1 := (((((w11.setCell ⟨gb148, 0, none⟩ (.int .i64 0)).setCell ⟨gb148, 1, none⟩ (.int .i64 0)).setCell ⟨gb148, 2, none⟩ (.int .i64 0)).setCell ⟨gb148, 3, none⟩ (.bool false)).setCell ⟨gb148, 4, none⟩ (.bool false))) ?hg ?ho ?hn ?hr ?_; (case ho => rfl); (case hg => rfl); (case hn => rfl); (case hr => first | (go_simp; done) | (go_simp; rfl)); intro w13 hw; have n0_ : Aside0 (w13.heap[gb148]? = some (.cells #[.int .i64 0, .int .i64 0, .int .i64 0, .bool false, .bool false] 72 (0, 0))) := ⟨(by rw [hw]; exact (by (with_reducible repeat first|apply bn_|apply bd_|apply ba_); refine blk_put (cs := #[.int .i64 0, .int .i64 0, .int .i64 0, .bool false, .bool false]) ?_ 4 _ rfl; refine blk_put (cs := #[.int .i64 0, .int .i64 0, .int .i64 0, .bool false, .bool false]) ?_ 3 _ rfl; refine blk_put (cs := #[.int .i64 0, .int .i64 0, .int .i64 0, .bool false, .bool false]) ?_ 2 _ rfl; refine blk_put (cs := #[.int .i64 0, .int .i64 0, .int .i64 0, .bool false, .bool false]) ?_ 1 _ rfl; refine blk_put (cs := #[.int .i64 0, .int .i64 0, .int .i64 0, .bool false, .bool false]) ?_ 0 _ rfl; (with_reducible repeat first|apply bn_|apply bd_|apply ba_); exact BK148.out))⟩; have n1_ : Aside0 (w13.heap[gb155]? = some (.cells #[.int .i64 t149, .int .i64 t150, .int .i64 t151, .bool t152, .bool t153] 72 (0, 0))) := ⟨(by rw [hw]; exact (uf_ BK155.out))⟩; have n2_ : Aside0 (Below w.heap.size w w13) := ⟨(by rw [hw]; exact (ue_ HB.out))⟩; clear hw BK148 BK155 HB; have BK148 := n0_; have BK155 := n1_; have HB := n2_; clear n0_ n1_ n2_))
  refine bodyPost_ret (results_ct rfl _ _ gb148 72 #[.int .i64 0, .int .i64 0, .int .i64 0, .bool false, .bool false] (0, 0) _ rfl (ub_ BK148.out) Try.underlying72 rfl (by kernel_rfl)) rfl ?_
  exact ⟨_, ew_, by first | exact Kd.R_nil _ _ _ _ _ | exact Kd.N_nil _ _ _ _ _ | exact Kd.V_nil _ _ _ _ _ | exact Kd.Q_nil _ _ _ _ _ | exact Kd.S_nil _ _ _ _ _, ue_ HB.out⟩
 ·
  rw [if_neg c5] at H
  have c5b0 : decide (300 < (l2.length : Int)) = false := decide_eq_false c5
  have c5b1 : decide (300 < l2.length) = false := decide_eq_false (by omega)
  clear c5
  obtain ⟨y156, hy156⟩ : ∃ y_ : List Int, y_ = (([] : List Int)) := ⟨_, rfl⟩
  replace H : (spec_PlaySource.l0 k a0 a1 l2 y156 0 t149 t150 t151 t152 t153) = some (r1, r2, r3, r4, r5, r6) := by first | (rw [hy156]; with_reducible exact H) | (have H2_ := (Option.bind_some _ _).symm.trans H; rw [hy156]; with_reducible exact H2_) | (have H2_ := (Option.bind_some _ _).symm.trans H; with_reducible exact H2_) | with_reducible exact H | (rw [hy156]; exact H) | exact H
  have Ny156 := Aside0.mk hy156
  clear hy156
  have H' := Aside0.mk H
  clear H
  go_enter Try.func51, Try.ntmps51
  go_wp2_with (first | ((with_reducible refine gate_dst (N := 6) rfl ?_); refine box_event ?hg (N := 6) ?hd (cs := #[.int .i64 0, .int .i64 0, .int .i64 0, .bool false, .bool false]) (t := 72) ?hr ?_; (case hd => rfl); (case hg => rfl); (case hr => first | (go_simp; done) | (go_simp; rfl)); intro gb148 hg w14 hbox hb; have n0_ := am_ (below_step (ue_ HB.out) hb); have n1_ := am_ (hbox); have n2_ := am_ ((by rw [hg]; exact (below_size (ue_ HB.out)) : w.heap.size ≤ gb148)); have n3_ := am_ ((by rw [hg]; exact (below_size (ue_ HB.out)) : w.heap.size ≤ gb148)); clear HB; have HB := n0_; have BK148 := n1_; have GW148 := n2_; have GE148 := n3_; clear n0_ n1_ n2_ n3_; clear hb hbox hg) | ((with_reducible refine gate_callee (f := 130) rfl ?_); refine goesL_ (some 16) rfl rfl Try.func130 (by kernel_rfl) rfl #[.int .i64 0] rfl ul_ ?_; (with_reducible refine (spec_NewSource.calls 0 t149 t150 t151 t152 t153 t154 _ A4.out).mono ?_); rintro e w15 ⟨rfl, hb⟩; refine ⟨_, rfl, ?_⟩; have n0_ := am_ (bb_ BK148.out hb); have n1_ := am_ (below_step (ue_ HB.out) hb); clear BK148 HB; have BK148 := n0_; have HB := n1_; clear n0_ n1_; (try clear hb); (try clear hb2); (try clear hk); (try clear hi)) | ((with_reducible refine gate_dst (N := 8) rfl ?_); refine box_event ?hg (N := 8) ?hd (cs := #[.int .i64 0, .int .i64 0, .int .i64 0, .bool false, .bool false]) (t := 72) ?hr ?_; (case hd => rfl); (case hg => rfl); (case hr => first | (go_simp; done) | (go_simp; rfl)); intro gb155 hg w16 hbox hb; have n0_ := am_ (bb_ BK148.out hb); have n1_ := am_ (below_step (ue_ HB.out) hb); have n2_ := am_ (hbox); have n3_ := am_ ((by rw [hg]; exact (below_size (ue_ HB.out)) : w.heap.size ≤ gb155)); have n4_ := am_ ((by rw [hg]; exact (below_size (ue_ HB.out)) : w.heap.size ≤ gb155)); have n5_ := am_ ((by rw [hg]; exact Nat.ne_of_lt (bl_ BK148.out) : gb148 ≠ gb155)); have n6_ := am_ ((by rw [hg]; exact Nat.ne_of_gt (bl_ BK148.out) : gb155 ≠ gb148)); clear BK148 HB; have BK148 := n0_; have HB := n1_; have BK155 := n2_; have GW155 := n3_; have GE155 := n4_; have NB148_155 := n5_; have NB155_148 := n6_; clear n0_ n1_ n2_ n3_ n4_ n5_ n6_; clear hb hbox hg; have hnb17 := NB155_148.out; have hnc17 := NB148_155.out; obtain ⟨hcz18_0, hcz18_1, hcz18_2, hcz18_3, hcz18_4⟩ := cb5_ BK155.out; obtain ⟨hfz18_0, hfz18_1, hfz18_2, hfz18_3⟩ := bf4_ BK155.out; have hfz18_4 := blk_frozen BK155.out 4) | ((with_reducible refine gate_store (t := 72) (p := 8) rfl ?_); refine store_event (t := 72) (p := 8) (v := ?vo_w19) (w1 := (((((w16.setCell ⟨gb155, 0, none⟩ (.int .i64 t149)).setCell ⟨gb155, 1, none⟩ (.int .i64 t150)).setCell ⟨gb155, 2, none⟩ (.int .i64 t151)).setCell ⟨gb155, 3, none⟩ (.bool t152)).setCell ⟨gb155, 4, none⟩ (.bool t153))) ?hg ?ho ?hn ?hr ?_; (case ho => rfl); (case hg => rfl); (case hn => rfl); (case hr => first | (go_simp; done) | (go_simp; rfl)); intro w19 hw; have n0_ : Aside0 (w19.heap[gb148]? = some (.cells #[.int .i64 0, .int .i64 0, .int .i64 0, .bool false, .bool false] 72 (0, 0))) := ⟨(by rw [hw]; exact (uf_ BK148.out))⟩; have n1_ : Aside0 (w19.heap[gb155]? = some (.cells #[.int .i64 t149, .int .i64 t150, .int .i64 t151, .bool t152, .bool t153] 72 (0, 0))) := ⟨(by rw [hw]; exact (by (with_reducible repeat first|apply bn_|apply bd_|apply ba_); refine blk_put (cs := #[.int .i64 t149, .int .i64 t150, .int .i64 t151, .bool t152, .bool false]) ?_ 4 _ rfl; refine blk_put (cs := #[.int .i64 t149, .int .i64 t150, .int .i64 t151, .bool false, .bool false]) ?_ 3 _ rfl; refine blk_put (cs := #[.int .i64 t149, .int .i64 t150, .int .i64 0, .bool false, .bool false]) ?_ 2 _ rfl; refine blk_put (cs := #[.int .i64 t149, .int .i64 0, .int .i64 0, .bool false, .bool false]) ?_ 1 _ rfl; refine blk_put (cs := #[.int .i64 0, .int .i64 0, .int .i64 0, .bool false, .bool false]) ?_ 0 _ rfl; (with_reducible repeat first|apply bn_|apply bd_|apply ba_); exact BK155.out))⟩; have n2_ : Aside0 (Below w.heap.size w w19) := ⟨(by rw [hw]; exact (ue_ HB.out))⟩; clear hw BK148 BK155 HB; have BK148 := n0_; have BK155 := n1_; have HB := n2_; clear n0_ n1_ n2_) | ((with_reducible refine gate_dst (N := 23) rfl ?_); refine Kd.R_lit (Kd.int .i64) _ 3 ?hg (N := 23) ?hd (xs := ([] : List Int)) (inner := []) (ok := fun _ => True) (okp := fun _ => True) ?hr ?hp (fun _ hk => hk) trivial (Below.refl _ _) (Nat.le_refl _) (by simp) ?_; (case hd => rfl); (case hg => rfl); (case hr => first | (go_simp; done) | (go_simp; rfl)); (case hp => exact (Reps.none _ _)); intro v157 w20 ho21 hb hg_ hnew_; clear hg_ hnew_; (first | rw [← Ny156.out] at ho21 | (simp only [Int.reduceToNat] at ho21; rw [← Ny156.out] at ho21)); have n0_ := am_ (Kd.R_lower ho21 (below_size (ue_ HB.out))); have n1_ := am_ (bb_ BK148.out hb); have n2_ := am_ (bb_ BK155.out hb); have n3_ := am_ (below_step (ue_ HB.out) hb); clear BK148 BK155 HB; have HO158 := n0_; have BK148 := n1_; have BK155 := n2_; have HB := n3_; clear n0_ n1_ n2_ n3_; clear hb ho21))
  (try simp only [Act.put, List.setIfInBounds_toArray, List.set_cons_zero, List.set_cons_succ])
  go_loopg [10, 11] k (fun kq v10 v11 w' => ∃ (x10_1 : List Int) (x11_1 : Int) (x156000_1 : Int) (x156001_1 : Int) (x156002_1 : Int) (x156003_1 : Bool) (x156004_1 : Bool), v11 = .int .i64 x11_1 ∧ Aside0 (spec_PlaySource.l0 kq a0 a1 l2 x10_1 x11_1 x156000_1 x156001_1 x156002_1 x156003_1 x156004_1 = some (r1, r2, r3, r4, r5, r6)) ∧ Aside0 (kq ≤ k) ∧ Aside0 (Kd.R (Kd.int .i64) 3 w' w.heap.size (fun _ => True) v10 x10_1) ∧ Aside0 (w'.heap[gb148]? = some (.cells #[.int .i64 0, .int .i64 0, .int .i64 0, .bool false, .bool false] 72 (0, 0))) ∧ Aside0 (w'.heap[gb155]? = some (.cells #[.int .i64 x156000_1, .int .i64 x156001_1, .int .i64 x156002_1, .bool x156003_1, .bool x156004_1] 72 (0, 0))) ∧ Aside0 (Below w.heap.size w w'))
  case atStart => exact ⟨(y156), (0), (t149), (t150), (t151), (t152), (t153), (by first | rfl | (simp; done) | (simp [*]; done)), H', ⟨Nat.le_refl _⟩, ⟨by (with_reducible repeat (first | apply Kd.R_alloc | apply Kd.R_drewN | apply Kd.R_drew)); exact HO158.out⟩, ⟨by (with_reducible repeat first|apply bn_|apply bd_|apply ba_); exact BK148.out⟩, ⟨by (with_reducible repeat first|apply bn_|apply bd_|apply ba_); exact BK155.out⟩, ⟨ue_ HB.out⟩⟩
  case round =>
   clear H'
   try clear c1
   try clear c2
   try clear p2
   try clear c5
   try clear c5b0
   try clear c5b1
   try clear c9
   try clear c13
   try clear c17
   try clear hcz10_0
   try clear hcz10_1
   try clear hcz10_2
   try clear hcz10_3
   try clear hcz10_4
   try clear hcz12_0
   try clear hcz12_1
   try clear hcz12_2
   try clear hcz12_3
   try clear hcz12_4
   try clear hcz18_0
   try clear hcz18_1
   try clear hcz18_2
   try clear hcz18_3
   try clear hcz18_4
   try clear hfz10_0
   try clear hfz10_1
   try clear hfz10_2
   try clear hfz10_3
   try clear hfz10_4
   try clear hfz12_0
   try clear hfz12_1
   try clear hfz12_2
   try clear hfz12_3
   try clear hfz12_4
   try clear hfz18_0
   try clear hfz18_1
   try clear hfz18_2
   try clear hfz18_3
   try clear hfz18_4
   obtain ⟨x10_1, x11_1, x156000_1, x156001_1, x156002_1, x156003_1, x156004_1, rfl, HA, HK1, HO_10, BK148, BK155, HB⟩ := hrel
   cases gk with
   | zero => exact absurd HA.out (by simp [spec_PlaySource.l0])
   | succ k1 =>
    have H := HA.out
    clear HA
    simp only [spec_PlaySource.l0] at H
    by_cases c22 : x11_1 < (l2.length : Int)
    ·
     rw [if_pos c22] at H
     have c22b0 : decide (x11_1 < (l2.length : Int)) = true := decide_eq_true c22
     clear c22
     by_cases c23 : 0 ≤ x11_1
     ·
      rw [if_pos c23] at H
      have c23b0 : decide (0 ≤ x11_1) = true := decide_eq_true c23
      clear c23
      by_cases c24 : ((rd_L1 l2 x11_1).length : Int) = 3
      ·
       rw [if_pos c24] at H
       have c24b0 : (((rd_L1 l2 x11_1).length : Int) == 3) = true := beq_iff_eq.mpr c24
       have c24b1 : (((rd_L1 l2 x11_1).length : Int) != 3) = false := bne_eq_false_iff_eq.mpr c24
       clear c24
       by_cases c25 : 0 < ((rd_L1 l2 x11_1).length : Int)
       ·
        rw [if_pos c25] at H
        have c25b0 : decide (0 < ((rd_L1 l2 x11_1).length : Int)) = true := decide_eq_true c25
        have c25b1 : decide (0 < (rd_L1 l2 x11_1).length) = true := decide_eq_true (by omega)
        clear c25
        by_cases c26 : (rd (rd_L1 l2 x11_1) 0) = 0
        ·
         rw [if_pos c26] at H
         have c26b0 : ((rd (rd_L1 l2 x11_1) 0) == 0) = true := beq_iff_eq.mpr c26
         have c26b1 : ((rd (rd_L1 l2 x11_1) 0) != 0) = false := bne_eq_false_iff_eq.mpr c26
         clear c26
         by_cases c27 : 1 < ((rd_L1 l2 x11_1).length : Int)
         ·
          rw [if_pos c27] at H
          have c27b0 : decide (1 < ((rd_L1 l2 x11_1).length : Int)) = true := decide_eq_true c27
          have c27b1 : decide (1 < (rd_L1 l2 x11_1).length) = true := decide_eq_true (by omega)
          clear c27
          by_cases c28 : 2 < ((rd_L1 l2 x11_1).length : Int)
          ·
           rw [if_pos c28] at H
           have c28b0 : decide (2 < ((rd_L1 l2 x11_1).length : Int)) = true := decide_eq_true c28
           have c28b1 : decide (2 < (rd_L1 l2 x11_1).length) = true := decide_eq_true (by omega)
           clear c28
           replace H := Option.bind_eq_some_iff.mp H
           obtain ⟨⟨t163, t164, t165, t166, t167, t168⟩, A290, H⟩ := H
           replace H : (if t168 = true then (if x10_1.length < 17592186044416 then (spec_PlaySource.l0 k1 a0 a1 l2 (x10_1 ++ [t164]) (wrap64 (x11_1 + 1)) t163 t164 t165 t166 t167) else (none)) else (if x10_1.length < 17592186044416 then (spec_PlaySource.l0 k1 a0 a1 l2 (x10_1 ++ [(-2)]) (wrap64 (x11_1 + 1)) t163 t164 t165 t166 t167) else (none))) = some (r1, r2, r3, r4, r5, r6) := H
           have A29 := Aside0.mk A290
           clear A290
           by_cases c30 : t168 = true
           ·
            subst c30
            have H1 : (if x10_1.length < 17592186044416 then (spec_PlaySource.l0 k1 a0 a1 l2 (x10_1 ++ [t164]) (wrap64 (x11_1 + 1)) t163 t164 t165 t166 t167) else (none)) = some (r1, r2, r3, r4, r5, r6) := by rw [if_pos rfl] at H; exact H
            clear H
            have H := H1
            clear H1
            by_cases c31 : x10_1.length < 17592186044416
            ·
             rw [if_pos c31] at H
             have LMc31 := Aside0.mk c31
             clear c31
             obtain ⟨y169, hy169⟩ : ∃ y_ : List Int, y_ = (x10_1 ++ [t164]) := ⟨_, rfl⟩
             replace H : (spec_PlaySource.l0 k1 a0 a1 l2 y169 (wrap64 (x11_1 + 1)) t163 t164 t165 t166 t167) = some (r1, r2, r3, r4, r5, r6) := by first | (rw [hy169]; with_reducible exact H) | (have H2_ := (Option.bind_some _ _).symm.trans H; rw [hy169]; with_reducible exact H2_) | (have H2_ := (Option.bind_some _ _).symm.trans H; with_reducible exact H2_) | with_reducible exact H | (rw [hy169]; exact H) | exact H
             have Ny169 := Aside0.mk hy169
             clear hy169
             have H' := Aside0.mk H
             clear H
             have p159 : 0 ≤ (x11_1 : Int) := of_decide_eq_true ua_
             have q159 : x11_1 < (l2.length : Int) := of_decide_eq_true ua_
             obtain ⟨ad159, A159_0, c159_0, e159, hx159_0, hl159_0, hi159_0⟩ := at_L1 HR2.out x11_1 p159 q159
             cases e159
             replace hx159_0 := bc_ HB.out hx159_0
             have HR159_0 := Aside0.mk hi159_0
             have HC159_0 := Aside0.mk hl159_0
             clear hi159_0 hl159_0
             replace p159 := eq_true p159
             replace q159 := eq_true q159
             have p160 : 0 ≤ (0 : Int) := (by omega)
             have q160 : 0 < ((rd_L1 l2 x11_1).length : Int) := of_decide_eq_true ua_
             obtain ⟨ad160, e160, hx160_0⟩ := Kd.at_int HR159_0.out 0 p160 q160
             cases e160
             have qi160 : (0 < (rd_L1 l2 x11_1).length) = True := eq_true (by omega)
             (try rw [show ((0 : Int)).toNat = 0 from rfl] at hx160_0)
             (try rw [Addr.add_zero'] at hx160_0)
             replace hx160_0 := bc_ HB.out hx160_0
             replace p160 := eq_true p160
             replace q160 := eq_true q160
             try go_wp2
             have n0_ := am_ (Kd.R_drew HO_10.out)
             have n1_ := am_ (blk_drew BK148.out)
             have n2_ := am_ (blk_drew BK155.out)
             have n3_ := am_ (below_drew1 HB.out)
             clear HO_10
             clear BK148
             clear BK155
             clear HB
             have HO_10 := n0_
             have BK148 := n1_
             have BK155 := n2_
             have HB := n3_
             clear n0_ n1_ n2_ n3_
             have p161 : 0 ≤ (1 : Int) := (by omega)
             have q161 : 1 < ((rd_L1 l2 x11_1).length : Int) := of_decide_eq_true ua_
             obtain ⟨ad161, e161, hx161_0⟩ := Kd.at_int HR159_0.out 1 p161 q161
             have hw161_0 := hx161_0
             (try rw [show ((1 : Int)).toNat = 1 from rfl] at hw161_0)
             (try rw [show 1 * 1 = 1 from rfl] at hw161_0)
             (try simp only [Nat.reduceMul, Nat.reduceEqDiff, Go.Addr.add, ↓reduceIte] at hw161_0)
             obtain rfl : ad160 = ad161 := (by injection e161)
             (try simp only [show (1 : Int).toNat = 1 from rfl, Nat.reduceMul, Nat.reduceEqDiff, Go.Addr.add, ↓reduceIte] at hx161_0)
             have qi161 : (1 < (rd_L1 l2 x11_1).length) = True := eq_true (by omega)
             (try rw [show ((1 : Int)).toNat = 1 from rfl] at hx161_0)
             replace hx161_0 := bc_ HB.out hx161_0
             replace p161 := eq_true p161
             replace q161 := eq_true q161
             have p162 : 0 ≤ (2 : Int) := (by omega)
             have q162 : 2 < ((rd_L1 l2 x11_1).length : Int) := of_decide_eq_true ua_
             obtain ⟨ad162, e162, hx162_0⟩ := Kd.at_int HR159_0.out 2 p162 q162
             have hw162_0 := hx162_0
             (try rw [show ((2 : Int)).toNat = 2 from rfl] at hw162_0)
             (try rw [show 2 * 1 = 2 from rfl] at hw162_0)
             (try simp only [Nat.reduceMul, Nat.reduceEqDiff, Go.Addr.add, ↓reduceIte] at hw162_0)
             obtain rfl : ad160 = ad162 := (by injection e162)
             (try simp only [show (2 : Int).toNat = 2 from rfl, Nat.reduceMul, Nat.reduceEqDiff, Go.Addr.add, ↓reduceIte] at hx162_0)
             have qi162 : (2 < (rd_L1 l2 x11_1).length) = True := eq_true (by omega)
             (try rw [show ((2 : Int)).toNat = 2 from rfl] at hx162_0)
             replace hx162_0 := bc_ HB.out hx162_0
             replace p162 := eq_true p162
             replace q162 := eq_true q162
             refine start_ (n := 14) (S := fun w' => w'.cell? ⟨gb155, 0, none⟩ = some (.int .i64 x156000_1) ∧ w'.cell? ⟨gb155, 1, none⟩ = some (.int .i64 x156001_1) ∧ w'.cell? ⟨gb155, 2, none⟩ = some (.int .i64 x156002_1) ∧ w'.cell? ⟨gb155, 3, none⟩ = some (.bool x156003_1) ∧ w'.cell? ⟨gb155, 4, none⟩ = some (.bool x156004_1) ∧ w'.cell? ⟨ad160.block, ad160.off + 1, none⟩ = some (.int .i64 (rd (rd_L1 l2 x11_1) 1)) ∧ w'.cell? ⟨ad160.block, ad160.off + 2, none⟩ = some (.int .i64 (rd (rd_L1 l2 x11_1) 2))) (ds := [12]) #[false, false, false, false, false, false, false, false, false, false, false, false, false, false] (by kernel_rfl) rfl rfl ⟨(blk_cell BK155.out 0).trans rfl, (blk_cell BK155.out 1).trans rfl, (blk_cell BK155.out 2).trans rfl, (blk_cell BK155.out 3).trans rfl, (blk_cell BK155.out 4).trans rfl, ((HB.out.cell (World.block_lt_of_cell? w _ hw161_0)).trans hw161_0), ((HB.out.cell (World.block_lt_of_cell? w _ hw162_0)).trans hw162_0)⟩ (fun hHeld => ?_); refine with_tabW spec_PlaySource.tab13 spec_PlaySource.bits13 (fun HT_ HW_ => ?_)
             generalize wr.drew = w32 at HO_10 BK148 BK155 HB hx161_0 hx162_0 hHeld ⊢
             refine pure_ (i := 1) (N := some 44) (v := ?_) (a' := ?_) #[false, true, false, false, false, false, false, false, false, false, false, false, false, false] rfl rfl (any_of HT_.out (by kernel_rfl)) (fun _ _ _ h => h) (Or.inl ⟨by rfl, ?_⟩) ?_ ?_
             rotate_left
             ·
              intro w'
              go_simp
              with_reducible rfl
             rotate_left
             ·
              simp only [Act.put, List.setIfInBounds_toArray, List.set_cons_zero, List.set_cons_succ, i64_w, i32_w]
              rfl
             refine pure_ (i := 2) (N := some 45) (v := ?_) (a' := ?_) #[false, true, true, false, false, false, false, false, false, false, false, false, false, false] rfl rfl (any_of HT_.out (by kernel_rfl)) (fun _ _ _ h => h) (Or.inl ⟨by rfl, ?_⟩) ?_ ?_
             rotate_left
             ·
              intro w'
              go_simp
              with_reducible rfl
             rotate_left
             ·
              simp only [Act.put, List.setIfInBounds_toArray, List.set_cons_zero, List.set_cons_succ, i64_w, i32_w]
              rfl
             refine pure_ (i := 3) (N := some 46) (v := ?_) (a' := ?_) #[false, true, true, true, false, false, false, false, false, false, false, false, false, false] rfl rfl (any_of HT_.out (by kernel_rfl)) (fun _ _ _ h => h) (Or.inl ⟨by rfl, ?_⟩) ?_ ?_
             rotate_left
             ·
              intro w'
              go_simp
              with_reducible rfl
             rotate_left
             ·
              simp only [Act.put, List.setIfInBounds_toArray, List.set_cons_zero, List.set_cons_succ, i64_w, i32_w]
              rfl
             refine pure_ (i := 5) (N := some 48) (v := ?_) (a' := ?_) #[false, true, true, true, false, true, false, false, false, false, false, false, false, false] rfl rfl (any_of HT_.out (by kernel_rfl)) (fun _ _ _ h => h) (Or.inl ⟨by rfl, ?_⟩) ?_ ?_
             rotate_left
             ·
              intro w'
              go_simp
              with_reducible rfl
             rotate_left
             ·
              simp only [Act.put, List.setIfInBounds_toArray, List.set_cons_zero, List.set_cons_succ, i64_w, i32_w]
              rfl
             refine pure_ (i := 6) (N := some 49) (v := ?_) (a' := ?_) #[false, true, true, true, false, true, true, false, false, false, false, false, false, false] rfl rfl (any_of HT_.out (by kernel_rfl)) (fun _ _ _ h => h) (Or.inl ⟨by rfl, ?_⟩) ?_ ?_
             rotate_left
             ·
              intro w'
              go_simp
              with_reducible rfl
             rotate_left
             ·
              simp only [Act.put, List.setIfInBounds_toArray, List.set_cons_zero, List.set_cons_succ, i64_w, i32_w]
              rfl
             refine take_ (i := 0) (N := some 43) (v := ?_) (a' := ?_) #[true, true, true, true, false, true, true, false, false, false, false, false, false, false] rfl rfl (take_ofW HT_.out HW_.out (by kernel_rfl)) (fun _ _ _ h => h) (Or.inl ⟨by rfl, ?_⟩) hHeld ?_ ?_
             rotate_left
             ·
              rintro w' ⟨s0, s1, s2, s3, s4, s5, s6⟩
              go_simp
              with_reducible rfl
             rotate_left
             ·
              simp only [Act.put, List.setIfInBounds_toArray, List.set_cons_zero, List.set_cons_succ, i64_w, i32_w]
              rfl
             refine take_ (i := 4) (N := some 47) (v := ?_) (a' := ?_) #[true, true, true, true, true, true, true, false, false, false, false, false, false, false] rfl rfl (take_ofW HT_.out HW_.out (by kernel_rfl)) (fun _ _ _ h => h) (Or.inl ⟨by rfl, ?_⟩) hHeld ?_ ?_
             rotate_left
             ·
              rintro w' ⟨s0, s1, s2, s3, s4, s5, s6⟩
              go_simp
              with_reducible rfl
             rotate_left
             ·
              simp only [Act.put, List.setIfInBounds_toArray, List.set_cons_zero, List.set_cons_succ, i64_w, i32_w]
              rfl
             refine take_ (i := 7) (N := some 50) (v := ?_) (a' := ?_) #[true, true, true, true, true, true, true, true, false, false, false, false, false, false] rfl rfl (take_ofW HT_.out HW_.out (by kernel_rfl)) (fun _ _ _ h => h) (Or.inl ⟨by rfl, ?_⟩) hHeld ?_ ?_
             rotate_left
             ·
              rintro w' ⟨s0, s1, s2, s3, s4, s5, s6⟩
              go_simp
              with_reducible rfl
             rotate_left
             ·
              simp only [Act.put, List.setIfInBounds_toArray, List.set_cons_zero, List.set_cons_succ, i64_w, i32_w]
              rfl
             refine one_ (i := 8) (N := some 51) #[true, true, true, true, true, true, true, true, true, false, false, false, false, false] rfl rfl (one_of HT_.out (by kernel_rfl)) (by decide) (fun K hK => ?_)
             refine goes_ Try.func131 (by kernel_rfl) rfl #[.agg #[.int .i64 x156000_1, .int .i64 x156001_1, .int .i64 x156002_1, .bool x156003_1, .bool x156004_1], .int .i64 a0, .int .i64 (rd (rd_L1 l2 x11_1) 1), .int .i64 (rd (rd_L1 l2 x11_1) 2)] (by rfl) rfl rfl ul_ ?_
             with_reducible refine (spec_SeeEvent.calls k1 x156000_1 x156001_1 x156002_1 x156003_1 x156004_1 a0 (rd (rd_L1 l2 x11_1) 1) (rd (rd_L1 l2 x11_1) 2) t163 t164 t165 t166 t167 true _ A29.out).mono ?_
             rintro e w33 ⟨rfl, hb⟩
             refine ⟨_, rfl, ?_⟩
             have n0_ := am_ (Kd.R_below (ur_ HO_10.out) hb)
             have n1_ := am_ (bb_ BK148.out hb)
             have n2_ := am_ (bb_ BK155.out hb)
             have n3_ := am_ (below_step (ue_ HB.out) hb)
             clear HO_10
             clear BK148
             clear BK155
             clear HB
             have HO_10 := n0_
             have BK148 := n1_
             have BK155 := n2_
             have HB := n3_
             clear n0_ n1_ n2_ n3_
             (try clear hb)
             (try clear hb2)
             (try clear hk)
             (try clear hi)
             refine hK.out _ _ ⟨(blk_cell BK155.out 0).trans rfl, (blk_cell BK155.out 1).trans rfl, (blk_cell BK155.out 2).trans rfl, (blk_cell BK155.out 3).trans rfl, (blk_cell BK155.out 4).trans rfl, ((HB.out.cell (World.block_lt_of_cell? w _ hw161_0)).trans hw161_0), ((HB.out.cell (World.block_lt_of_cell? w _ hw162_0)).trans hw162_0)⟩ (fun hHeld => ?_)
             clear hK K
             refine norm_ (a' := ?_) ?_ ?_
             rotate_left
             ·
              show Act.put _ (some 51) _ = _
              simp only [Act.put, List.setIfInBounds_toArray, List.set_cons_zero, List.set_cons_succ, i64_w, i32_w]
              rfl
             refine pure_ (i := 9) (N := some 42) (v := ?_) (a' := ?_) #[true, true, true, true, true, true, true, true, true, true, false, false, false, false] rfl rfl (any_of HT_.out (by kernel_rfl)) (fun _ _ _ h => h) (Or.inl ⟨by rfl, ?_⟩) ?_ ?_
             rotate_left
             ·
              intro w'
              go_simp
              with_reducible rfl
             rotate_left
             ·
              simp only [Act.put, List.setIfInBounds_toArray, List.set_cons_zero, List.set_cons_succ, i64_w, i32_w]
              rfl
             refine pure_ (i := 10) (N := some 52) (v := ?_) (a' := ?_) #[true, true, true, true, true, true, true, true, true, true, true, false, false, false] rfl rfl (any_of HT_.out (by kernel_rfl)) (fun _ _ _ h => h) (Or.inl ⟨by rfl, ?_⟩) ?_ ?_
             rotate_left
             ·
              intro w'
              go_simp
              with_reducible rfl
             rotate_left
             ·
              simp only [Act.put, List.setIfInBounds_toArray, List.set_cons_zero, List.set_cons_succ, i64_w, i32_w]
              rfl
             refine pure_ (i := 11) (N := some 53) (v := ?_) (a' := ?_) #[true, true, true, true, true, true, true, true, true, true, true, true, false, false] rfl rfl (any_of HT_.out (by kernel_rfl)) (fun _ _ _ h => h) (Or.inl ⟨by rfl, ?_⟩) ?_ ?_
             rotate_left
             ·
              intro w'
              go_simp
              with_reducible rfl
             rotate_left
             ·
              simp only [Act.put, List.setIfInBounds_toArray, List.set_cons_zero, List.set_cons_succ, i64_w, i32_w]
              rfl
             refine last_ (i := 12) (N := none) #[true, true, true, true, true, true, true, true, true, true, true, true, true, false] rfl rfl (one_of HT_.out (by kernel_rfl)) (by decide) (fun K hK => ?_)
             have hs34 := cb_ BK155.out 0 rfl
             have hfs34 := blk_frozen BK155.out 0
             have hns34_0 := NB148_155.out
             have hms34_0 := NB155_148.out
             have hs35 := cb_ BK155.out 1 rfl
             have hfs35 := blk_frozen BK155.out 1
             have hns35_0 := NB148_155.out
             have hms35_0 := NB155_148.out
             have hs36 := cb_ BK155.out 2 rfl
             have hfs36 := blk_frozen BK155.out 2
             have hns36_0 := NB148_155.out
             have hms36_0 := NB155_148.out
             have hs37 := cb_ BK155.out 3 rfl
             have hfs37 := blk_frozen BK155.out 3
             have hns37_0 := NB148_155.out
             have hms37_0 := NB155_148.out
             have hs38 := cb_ BK155.out 4 rfl
             have hfs38 := blk_frozen BK155.out 4
             have hns38_0 := NB148_155.out
             have hms38_0 := NB155_148.out
             refine skip_ (w1 := ?_) (by rfl) rfl ?_ ?_
             rotate_left
             ·
              go_simp
              rfl
             refine hK.out _ _ ?_
             clear hK K
             refine pure_ (i := 13) (N := some 13) (v := ?_) (a' := ?_) #[true, true, true, true, true, true, true, true, true, true, true, true, true, true] rfl rfl (any_of HT_.out (by kernel_rfl)) (fun _ _ _ h => h) (Or.inl ⟨by rfl, ?_⟩) ?_ ?_
             rotate_left
             ·
              intro w'
              go_simp
              with_reducible rfl
             rotate_left
             ·
              simp only [Act.put, List.setIfInBounds_toArray, List.set_cons_zero, List.set_cons_succ, i64_w, i32_w]
              rfl
             refine done_ (done_of HT_.out (by kernel_rfl)) ?_
             have hnb39 := NB155_148.out
             have hnc39 := NB148_155.out
             have hcz40_0 := cb_ BK155.out 0 rfl
             have hcz40_1 := cb_ BK155.out 1 rfl
             have hcz40_2 := cb_ BK155.out 2 rfl
             have hcz40_3 := cb_ BK155.out 3 rfl
             have hcz40_4 := cb_ BK155.out 4 rfl
             have hfz40_0 := blk_frozen BK155.out 0
             have hfz40_1 := blk_frozen BK155.out 1
             have hfz40_2 := blk_frozen BK155.out 2
             have hfz40_3 := blk_frozen BK155.out 3
             have hfz40_4 := blk_frozen BK155.out 4
             try go_wp2_with (first | ((with_reducible refine gate_builtin (b := .append) (xs := #[.tmp 88, .tmp 90]) rfl ?_); at_builtin; refine Kd.R_append (Kd.int .i64) (w0 := w) w.heap.size rfl (.tmp 88) (.tmp 90) 22 3 (.int .i64 0) 8 rfl Try.underlying22 info3 rfl (by decide) (by omega) u10 x10_1 t164 [.int .i64 t164] (fun _ => True) (fun _ => False) rfl (by first | (go_simp; done) | (go_simp; rfl)) ?aP (fun _ hk => hk.elim) ?aF ?aO ?aB ?aS ?aL ?_; (case aP => exact rfl); (case aB => exact (ue_ HB.out)); (case aF => exact (fun _ _ => trivial)); (case aO => exact (by (with_reducible repeat (first | apply Kd.R_alloc | apply Kd.R_drewN | apply Kd.R_drew)); exact Kd.R_mono (Kd.R_far (p := ⟨gb155, 4, none⟩) (Kd.R_far (p := ⟨gb155, 3, none⟩) (Kd.R_far (p := ⟨gb155, 2, none⟩) (Kd.R_far (p := ⟨gb155, 1, none⟩) (Kd.R_far (p := ⟨gb155, 0, none⟩) (Kd.R_types HO_10.out BK155.out (by decide)) (fun _ hk => by first | exact hk.2 | grind) (.int .i64 t163)) (fun _ hk => by first | exact hk.2 | grind) (.int .i64 t164)) (fun _ hk => by first | exact hk.2 | grind) (.int .i64 t165)) (fun _ hk => by first | exact hk.2 | grind) (.bool t166)) (fun _ hk => by first | exact hk.2 | grind) (.bool t167)) (fun _ hk => trivial))); (case aS => exact (below_size (ue_ HB.out))); (case aL => have := LMc31.out; omega); intro v170 w41 ho hb hg hat; rw [← Ny169.out] at ho; have n0_ := am_ (blk_grown (g := gb148) (o := .cells #[.int .i64 0, .int .i64 0, .int .i64 0, .bool false, .bool false] 72 (0, 0)) (uf_ BK148.out) hg (Kd.R_ne HO_10.out BK148.out (by decide))); have n1_ := am_ (blk_grown (g := gb155) (o := .cells #[.int .i64 t163, .int .i64 t164, .int .i64 t165, .bool t166, .bool t167] 72 (0, 0)) (by (with_reducible repeat first|apply bn_|apply bd_|apply ba_); refine blk_put (cs := #[.int .i64 t163, .int .i64 t164, .int .i64 t165, .bool t166, .bool x156004_1]) ?_ 4 _ rfl; refine blk_put (cs := #[.int .i64 t163, .int .i64 t164, .int .i64 t165, .bool x156003_1, .bool x156004_1]) ?_ 3 _ rfl; refine blk_put (cs := #[.int .i64 t163, .int .i64 t164, .int .i64 x156002_1, .bool x156003_1, .bool x156004_1]) ?_ 2 _ rfl; refine blk_put (cs := #[.int .i64 t163, .int .i64 x156001_1, .int .i64 x156002_1, .bool x156003_1, .bool x156004_1]) ?_ 1 _ rfl; refine blk_put (cs := #[.int .i64 x156000_1, .int .i64 x156001_1, .int .i64 x156002_1, .bool x156003_1, .bool x156004_1]) ?_ 0 _ rfl; (with_reducible repeat first|apply bn_|apply bd_|apply ba_); exact BK155.out) hg (Kd.R_ne HO_10.out BK155.out (by decide))); have n2_ := am_ (hb); have n3_ := am_ (ho); clear BK148 BK155 HB HO_10; have BK148 := n0_; have BK155 := n1_; have HB := n2_; have HO171 := n3_; clear n0_ n1_ n2_ n3_; clear ho hb hg hat))
             go_roundg k1
             case measure => have := HK1.out; omega
             case rel => exact ⟨(y169), (wrap64 (x11_1 + 1)), (t163), (t164), (t165), (t166), (t167), (by first | rfl | (simp; done) | (simp [*]; done)), H', ⟨by have := HK1.out; omega⟩, ⟨by (with_reducible repeat (first | apply Kd.R_alloc | apply Kd.R_drewN | apply Kd.R_drew)); exact HO171.out⟩, ⟨by (with_reducible repeat first|apply bn_|apply bd_|apply ba_); exact BK148.out⟩, ⟨by (with_reducible repeat first|apply bn_|apply bd_|apply ba_); exact BK155.out⟩, ⟨ue_ HB.out⟩⟩
            ·
             rw [if_neg c31] at H
             exact absurd H (by simp)
           ·
            replace c30 := Bool.eq_false_iff.mpr c30
            subst c30
            have H1 : (if x10_1.length < 17592186044416 then (spec_PlaySource.l0 k1 a0 a1 l2 (x10_1 ++ [(-2)]) (wrap64 (x11_1 + 1)) t163 t164 t165 t166 t167) else (none)) = some (r1, r2, r3, r4, r5, r6) := by rw [if_neg (show ¬ (false = true) by decide)] at H; exact H
            clear H
            have H := H1
            clear H1
            by_cases c42 : x10_1.length < 17592186044416
            ·
             rw [if_pos c42] at H
             have LMc42 := Aside0.mk c42
             clear c42
             obtain ⟨y172, hy172⟩ : ∃ y_ : List Int, y_ = (x10_1 ++ [(-2)]) := ⟨_, rfl⟩
             replace H : (spec_PlaySource.l0 k1 a0 a1 l2 y172 (wrap64 (x11_1 + 1)) t163 t164 t165 t166 t167) = some (r1, r2, r3, r4, r5, r6) := by first | (rw [hy172]; with_reducible exact H) | (have H2_ := (Option.bind_some _ _).symm.trans H; rw [hy172]; with_reducible exact H2_) | (have H2_ := (Option.bind_some _ _).symm.trans H; with_reducible exact H2_) | with_reducible exact H | (rw [hy172]; exact H) | exact H
             have Ny172 := Aside0.mk hy172
             clear hy172
             have H' := Aside0.mk H
             clear H
             have p159 : 0 ≤ (x11_1 : Int) := of_decide_eq_true ua_
             have q159 : x11_1 < (l2.length : Int) := of_decide_eq_true ua_
             obtain ⟨ad159, A159_0, c159_0, e159, hx159_0, hl159_0, hi159_0⟩ := at_L1 HR2.out x11_1 p159 q159
             cases e159
             replace hx159_0 := bc_ HB.out hx159_0
             have HR159_0 := Aside0.mk hi159_0
             have HC159_0 := Aside0.mk hl159_0
             clear hi159_0 hl159_0
             replace p159 := eq_true p159
             replace q159 := eq_true q159
             have p160 : 0 ≤ (0 : Int) := (by omega)
             have q160 : 0 < ((rd_L1 l2 x11_1).length : Int) := of_decide_eq_true ua_
             obtain ⟨ad160, e160, hx160_0⟩ := Kd.at_int HR159_0.out 0 p160 q160
             cases e160
             have qi160 : (0 < (rd_L1 l2 x11_1).length) = True := eq_true (by omega)
             (try rw [show ((0 : Int)).toNat = 0 from rfl] at hx160_0)
             (try rw [Addr.add_zero'] at hx160_0)
             replace hx160_0 := bc_ HB.out hx160_0
             replace p160 := eq_true p160
             replace q160 := eq_true q160
             try go_wp2
             have n0_ := am_ (Kd.R_drew HO_10.out)
             have n1_ := am_ (blk_drew BK148.out)
             have n2_ := am_ (blk_drew BK155.out)
             have n3_ := am_ (below_drew1 HB.out)
             clear HO_10
             clear BK148
             clear BK155
             clear HB
             have HO_10 := n0_
             have BK148 := n1_
             have BK155 := n2_
             have HB := n3_
             clear n0_ n1_ n2_ n3_
             have p161 : 0 ≤ (1 : Int) := (by omega)
             have q161 : 1 < ((rd_L1 l2 x11_1).length : Int) := of_decide_eq_true ua_
             obtain ⟨ad161, e161, hx161_0⟩ := Kd.at_int HR159_0.out 1 p161 q161
             have hw161_0 := hx161_0
             (try rw [show ((1 : Int)).toNat = 1 from rfl] at hw161_0)
             (try rw [show 1 * 1 = 1 from rfl] at hw161_0)
             (try simp only [Nat.reduceMul, Nat.reduceEqDiff, Go.Addr.add, ↓reduceIte] at hw161_0)
             obtain rfl : ad160 = ad161 := (by injection e161)
             (try simp only [show (1 : Int).toNat = 1 from rfl, Nat.reduceMul, Nat.reduceEqDiff, Go.Addr.add, ↓reduceIte] at hx161_0)
             have qi161 : (1 < (rd_L1 l2 x11_1).length) = True := eq_true (by omega)
             (try rw [show ((1 : Int)).toNat = 1 from rfl] at hx161_0)
             replace hx161_0 := bc_ HB.out hx161_0
             replace p161 := eq_true p161
             replace q161 := eq_true q161
             have p162 : 0 ≤ (2 : Int) := (by omega)
             have q162 : 2 < ((rd_L1 l2 x11_1).length : Int) := of_decide_eq_true ua_
             obtain ⟨ad162, e162, hx162_0⟩ := Kd.at_int HR159_0.out 2 p162 q162
             have hw162_0 := hx162_0
             (try rw [show ((2 : Int)).toNat = 2 from rfl] at hw162_0)
             (try rw [show 2 * 1 = 2 from rfl] at hw162_0)
             (try simp only [Nat.reduceMul, Nat.reduceEqDiff, Go.Addr.add, ↓reduceIte] at hw162_0)
             obtain rfl : ad160 = ad162 := (by injection e162)
             (try simp only [show (2 : Int).toNat = 2 from rfl, Nat.reduceMul, Nat.reduceEqDiff, Go.Addr.add, ↓reduceIte] at hx162_0)
             have qi162 : (2 < (rd_L1 l2 x11_1).length) = True := eq_true (by omega)
             (try rw [show ((2 : Int)).toNat = 2 from rfl] at hx162_0)
             replace hx162_0 := bc_ HB.out hx162_0
             replace p162 := eq_true p162
             replace q162 := eq_true q162
             refine start_ (n := 14) (S := fun w' => w'.cell? ⟨gb155, 0, none⟩ = some (.int .i64 x156000_1) ∧ w'.cell? ⟨gb155, 1, none⟩ = some (.int .i64 x156001_1) ∧ w'.cell? ⟨gb155, 2, none⟩ = some (.int .i64 x156002_1) ∧ w'.cell? ⟨gb155, 3, none⟩ = some (.bool x156003_1) ∧ w'.cell? ⟨gb155, 4, none⟩ = some (.bool x156004_1) ∧ w'.cell? ⟨ad160.block, ad160.off + 1, none⟩ = some (.int .i64 (rd (rd_L1 l2 x11_1) 1)) ∧ w'.cell? ⟨ad160.block, ad160.off + 2, none⟩ = some (.int .i64 (rd (rd_L1 l2 x11_1) 2))) (ds := [12]) #[false, false, false, false, false, false, false, false, false, false, false, false, false, false] (by kernel_rfl) rfl rfl ⟨(blk_cell BK155.out 0).trans rfl, (blk_cell BK155.out 1).trans rfl, (blk_cell BK155.out 2).trans rfl, (blk_cell BK155.out 3).trans rfl, (blk_cell BK155.out 4).trans rfl, ((HB.out.cell (World.block_lt_of_cell? w _ hw161_0)).trans hw161_0), ((HB.out.cell (World.block_lt_of_cell? w _ hw162_0)).trans hw162_0)⟩ (fun hHeld => ?_); refine with_tabW spec_PlaySource.tab13 spec_PlaySource.bits13 (fun HT_ HW_ => ?_)
             generalize wr.drew = w43 at HO_10 BK148 BK155 HB hx161_0 hx162_0 hHeld ⊢
             refine pure_ (i := 1) (N := some 44) (v := ?_) (a' := ?_) #[false, true, false, false, false, false, false, false, false, false, false, false, false, false] rfl rfl (any_of HT_.out (by kernel_rfl)) (fun _ _ _ h => h) (Or.inl ⟨by rfl, ?_⟩) ?_ ?_
             rotate_left
             ·
              intro w'
              go_simp
              with_reducible rfl
             rotate_left
             ·
              simp only [Act.put, List.setIfInBounds_toArray, List.set_cons_zero, List.set_cons_succ, i64_w, i32_w]
              rfl
             refine pure_ (i := 2) (N := some 45) (v := ?_) (a' := ?_) #[false, true, true, false, false, false, false, false, false, false, false, false, false, false] rfl rfl (any_of HT_.out (by kernel_rfl)) (fun _ _ _ h => h) (Or.inl ⟨by rfl, ?_⟩) ?_ ?_
             rotate_left
             ·
              intro w'
              go_simp
              with_reducible rfl
             rotate_left
             ·
              simp only [Act.put, List.setIfInBounds_toArray, List.set_cons_zero, List.set_cons_succ, i64_w, i32_w]
              rfl
             refine pure_ (i := 3) (N := some 46) (v := ?_) (a' := ?_) #[false, true, true, true, false, false, false, false, false, false, false, false, false, false] rfl rfl (any_of HT_.out (by kernel_rfl)) (fun _ _ _ h => h) (Or.inl ⟨by rfl, ?_⟩) ?_ ?_
             rotate_left
             ·
              intro w'
              go_simp
              with_reducible rfl
             rotate_left
             ·
              simp only [Act.put, List.setIfInBounds_toArray, List.set_cons_zero, List.set_cons_succ, i64_w, i32_w]
              rfl
             refine pure_ (i := 5) (N := some 48) (v := ?_) (a' := ?_) #[false, true, true, true, false, true, false, false, false, false, false, false, false, false] rfl rfl (any_of HT_.out (by kernel_rfl)) (fun _ _ _ h => h) (Or.inl ⟨by rfl, ?_⟩) ?_ ?_
             rotate_left
             ·
              intro w'
              go_simp
              with_reducible rfl
             rotate_left
             ·
              simp only [Act.put, List.setIfInBounds_toArray, List.set_cons_zero, List.set_cons_succ, i64_w, i32_w]
              rfl
             refine pure_ (i := 6) (N := some 49) (v := ?_) (a' := ?_) #[false, true, true, true, false, true, true, false, false, false, false, false, false, false] rfl rfl (any_of HT_.out (by kernel_rfl)) (fun _ _ _ h => h) (Or.inl ⟨by rfl, ?_⟩) ?_ ?_
             rotate_left
             ·
              intro w'
              go_simp
              with_reducible rfl
             rotate_left
             ·
              simp only [Act.put, List.setIfInBounds_toArray, List.set_cons_zero, List.set_cons_succ, i64_w, i32_w]
              rfl
             refine take_ (i := 0) (N := some 43) (v := ?_) (a' := ?_) #[true, true, true, true, false, true, true, false, false, false, false, false, false, false] rfl rfl (take_ofW HT_.out HW_.out (by kernel_rfl)) (fun _ _ _ h => h) (Or.inl ⟨by rfl, ?_⟩) hHeld ?_ ?_
             rotate_left
             ·
              rintro w' ⟨s0, s1, s2, s3, s4, s5, s6⟩
              go_simp
              with_reducible rfl
             rotate_left
             ·
              simp only [Act.put, List.setIfInBounds_toArray, List.set_cons_zero, List.set_cons_succ, i64_w, i32_w]
              rfl
             refine take_ (i := 4) (N := some 47) (v := ?_) (a' := ?_) #[true, true, true, true, true, true, true, false, false, false, false, false, false, false] rfl rfl (take_ofW HT_.out HW_.out (by kernel_rfl)) (fun _ _ _ h => h) (Or.inl ⟨by rfl, ?_⟩) hHeld ?_ ?_
             rotate_left
             ·
              rintro w' ⟨s0, s1, s2, s3, s4, s5, s6⟩
              go_simp
              with_reducible rfl
             rotate_left
             ·
              simp only [Act.put, List.setIfInBounds_toArray, List.set_cons_zero, List.set_cons_succ, i64_w, i32_w]
              rfl
             refine take_ (i := 7) (N := some 50) (v := ?_) (a' := ?_) #[true, true, true, true, true, true, true, true, false, false, false, false, false, false] rfl rfl (take_ofW HT_.out HW_.out (by kernel_rfl)) (fun _ _ _ h => h) (Or.inl ⟨by rfl, ?_⟩) hHeld ?_ ?_
             rotate_left
             ·
              rintro w' ⟨s0, s1, s2, s3, s4, s5, s6⟩
              go_simp
              with_reducible rfl
             rotate_left
             ·
              simp only [Act.put, List.setIfInBounds_toArray, List.set_cons_zero, List.set_cons_succ, i64_w, i32_w]
              rfl
             refine one_ (i := 8) (N := some 51) #[true, true, true, true, true, true, true, true, true, false, false, false, false, false] rfl rfl (one_of HT_.out (by kernel_rfl)) (by decide) (fun K hK => ?_)
             refine goes_ Try.func131 (by kernel_rfl) rfl #[.agg #[.int .i64 x156000_1, .int .i64 x156001_1, .int .i64 x156002_1, .bool x156003_1, .bool x156004_1], .int .i64 a0, .int .i64 (rd (rd_L1 l2 x11_1) 1), .int .i64 (rd (rd_L1 l2 x11_1) 2)] (by rfl) rfl rfl ul_ ?_
             with_reducible refine (spec_SeeEvent.calls k1 x156000_1 x156001_1 x156002_1 x156003_1 x156004_1 a0 (rd (rd_L1 l2 x11_1) 1) (rd (rd_L1 l2 x11_1) 2) t163 t164 t165 t166 t167 false _ A29.out).mono ?_
             rintro e w44 ⟨rfl, hb⟩
             refine ⟨_, rfl, ?_⟩
             have n0_ := am_ (Kd.R_below (ur_ HO_10.out) hb)
             have n1_ := am_ (bb_ BK148.out hb)
             have n2_ := am_ (bb_ BK155.out hb)
             have n3_ := am_ (below_step (ue_ HB.out) hb)
             clear HO_10
             clear BK148
             clear BK155
             clear HB
             have HO_10 := n0_
             have BK148 := n1_
             have BK155 := n2_
             have HB := n3_
             clear n0_ n1_ n2_ n3_
             (try clear hb)
             (try clear hb2)
             (try clear hk)
             (try clear hi)
             refine hK.out _ _ ⟨(blk_cell BK155.out 0).trans rfl, (blk_cell BK155.out 1).trans rfl, (blk_cell BK155.out 2).trans rfl, (blk_cell BK155.out 3).trans rfl, (blk_cell BK155.out 4).trans rfl, ((HB.out.cell (World.block_lt_of_cell? w _ hw161_0)).trans hw161_0), ((HB.out.cell (World.block_lt_of_cell? w _ hw162_0)).trans hw162_0)⟩ (fun hHeld => ?_)
             clear hK K
             refine norm_ (a' := ?_) ?_ ?_
             rotate_left
             ·
              show Act.put _ (some 51) _ = _
              simp only [Act.put, List.setIfInBounds_toArray, List.set_cons_zero, List.set_cons_succ, i64_w, i32_w]
              rfl
             refine pure_ (i := 9) (N := some 42) (v := ?_) (a' := ?_) #[true, true, true, true, true, true, true, true, true, true, false, false, false, false] rfl rfl (any_of HT_.out (by kernel_rfl)) (fun _ _ _ h => h) (Or.inl ⟨by rfl, ?_⟩) ?_ ?_
             rotate_left
             ·
              intro w'
              go_simp
              with_reducible rfl
             rotate_left
             ·
              simp only [Act.put, List.setIfInBounds_toArray, List.set_cons_zero, List.set_cons_succ, i64_w, i32_w]
              rfl
             refine pure_ (i := 10) (N := some 52) (v := ?_) (a' := ?_) #[true, true, true, true, true, true, true, true, true, true, true, false, false, false] rfl rfl (any_of HT_.out (by kernel_rfl)) (fun _ _ _ h => h) (Or.inl ⟨by rfl, ?_⟩) ?_ ?_
             rotate_left
             ·
              intro w'
              go_simp
              with_reducible rfl
             rotate_left
             ·
              simp only [Act.put, List.setIfInBounds_toArray, List.set_cons_zero, List.set_cons_succ, i64_w, i32_w]
              rfl
             refine pure_ (i := 11) (N := some 53) (v := ?_) (a' := ?_) #[true, true, true, true, true, true, true, true, true, true, true, true, false, false] rfl rfl (any_of HT_.out (by kernel_rfl)) (fun _ _ _ h => h) (Or.inl ⟨by rfl, ?_⟩) ?_ ?_
             rotate_left
             ·
              intro w'
              go_simp
              with_reducible rfl
             rotate_left
             ·
              simp only [Act.put, List.setIfInBounds_toArray, List.set_cons_zero, List.set_cons_succ, i64_w, i32_w]
              rfl
             refine last_ (i := 12) (N := none) #[true, true, true, true, true, true, true, true, true, true, true, true, true, false] rfl rfl (one_of HT_.out (by kernel_rfl)) (by decide) (fun K hK => ?_)
             have hs45 := cb_ BK155.out 0 rfl
             have hfs45 := blk_frozen BK155.out 0
             have hns45_0 := NB148_155.out
             have hms45_0 := NB155_148.out
             have hs46 := cb_ BK155.out 1 rfl
             have hfs46 := blk_frozen BK155.out 1
             have hns46_0 := NB148_155.out
             have hms46_0 := NB155_148.out
             have hs47 := cb_ BK155.out 2 rfl
             have hfs47 := blk_frozen BK155.out 2
             have hns47_0 := NB148_155.out
             have hms47_0 := NB155_148.out
             have hs48 := cb_ BK155.out 3 rfl
             have hfs48 := blk_frozen BK155.out 3
             have hns48_0 := NB148_155.out
             have hms48_0 := NB155_148.out
             have hs49 := cb_ BK155.out 4 rfl
             have hfs49 := blk_frozen BK155.out 4
             have hns49_0 := NB148_155.out
             have hms49_0 := NB155_148.out
             refine skip_ (w1 := ?_) (by rfl) rfl ?_ ?_
             rotate_left
             ·
              go_simp
              rfl
             refine hK.out _ _ ?_
             clear hK K
             refine pure_ (i := 13) (N := some 13) (v := ?_) (a' := ?_) #[true, true, true, true, true, true, true, true, true, true, true, true, true, true] rfl rfl (any_of HT_.out (by kernel_rfl)) (fun _ _ _ h => h) (Or.inl ⟨by rfl, ?_⟩) ?_ ?_
             rotate_left
             ·
              intro w'
              go_simp
              with_reducible rfl
             rotate_left
             ·
              simp only [Act.put, List.setIfInBounds_toArray, List.set_cons_zero, List.set_cons_succ, i64_w, i32_w]
              rfl
             refine done_ (done_of HT_.out (by kernel_rfl)) ?_
             try go_wp2_with (first | ((with_reducible refine gate_builtin (b := .append) (xs := #[.tmp 88, .tmp 90]) rfl ?_); at_builtin; refine Kd.R_append (Kd.int .i64) (w0 := w) w.heap.size rfl (.tmp 88) (.tmp 90) 22 3 (.int .i64 0) 8 rfl Try.underlying22 info3 rfl (by decide) (by omega) u10 x10_1 (-2) [.int .i64 (-2)] (fun _ => True) (fun _ => False) rfl (by first | (go_simp; done) | (go_simp; rfl)) ?aP (fun _ hk => hk.elim) ?aF ?aO ?aB ?aS ?aL ?_; (case aP => exact rfl); (case aB => exact (ue_ HB.out)); (case aF => exact (fun _ _ => trivial)); (case aO => exact (by (with_reducible repeat (first | apply Kd.R_alloc | apply Kd.R_drewN | apply Kd.R_drew)); exact Kd.R_mono (Kd.R_far (p := ⟨gb155, 4, none⟩) (Kd.R_far (p := ⟨gb155, 3, none⟩) (Kd.R_far (p := ⟨gb155, 2, none⟩) (Kd.R_far (p := ⟨gb155, 1, none⟩) (Kd.R_far (p := ⟨gb155, 0, none⟩) (Kd.R_types HO_10.out BK155.out (by decide)) (fun _ hk => by first | exact hk.2 | grind) (.int .i64 t163)) (fun _ hk => by first | exact hk.2 | grind) (.int .i64 t164)) (fun _ hk => by first | exact hk.2 | grind) (.int .i64 t165)) (fun _ hk => by first | exact hk.2 | grind) (.bool t166)) (fun _ hk => by first | exact hk.2 | grind) (.bool t167)) (fun _ hk => trivial))); (case aS => exact (below_size (ue_ HB.out))); (case aL => have := LMc42.out; omega); intro v173 w50 ho hb hg hat; rw [← Ny172.out] at ho; have n0_ := am_ (blk_grown (g := gb148) (o := .cells #[.int .i64 0, .int .i64 0, .int .i64 0, .bool false, .bool false] 72 (0, 0)) (uf_ BK148.out) hg (Kd.R_ne HO_10.out BK148.out (by decide))); have n1_ := am_ (blk_grown (g := gb155) (o := .cells #[.int .i64 t163, .int .i64 t164, .int .i64 t165, .bool t166, .bool t167] 72 (0, 0)) (by (with_reducible repeat first|apply bn_|apply bd_|apply ba_); refine blk_put (cs := #[.int .i64 t163, .int .i64 t164, .int .i64 t165, .bool t166, .bool x156004_1]) ?_ 4 _ rfl; refine blk_put (cs := #[.int .i64 t163, .int .i64 t164, .int .i64 t165, .bool x156003_1, .bool x156004_1]) ?_ 3 _ rfl; refine blk_put (cs := #[.int .i64 t163, .int .i64 t164, .int .i64 x156002_1, .bool x156003_1, .bool x156004_1]) ?_ 2 _ rfl; refine blk_put (cs := #[.int .i64 t163, .int .i64 x156001_1, .int .i64 x156002_1, .bool x156003_1, .bool x156004_1]) ?_ 1 _ rfl; refine blk_put (cs := #[.int .i64 x156000_1, .int .i64 x156001_1, .int .i64 x156002_1, .bool x156003_1, .bool x156004_1]) ?_ 0 _ rfl; (with_reducible repeat first|apply bn_|apply bd_|apply ba_); exact BK155.out) hg (Kd.R_ne HO_10.out BK155.out (by decide))); have n2_ := am_ (hb); have n3_ := am_ (ho); clear BK148 BK155 HB HO_10; have BK148 := n0_; have BK155 := n1_; have HB := n2_; have HO174 := n3_; clear n0_ n1_ n2_ n3_; clear ho hb hg hat))
             go_roundg k1
             case measure => have := HK1.out; omega
             case rel => exact ⟨(y172), (wrap64 (x11_1 + 1)), (t163), (t164), (t165), (t166), (t167), (by first | rfl | (simp; done) | (simp [*]; done)), H', ⟨by have := HK1.out; omega⟩, ⟨by (with_reducible repeat (first | apply Kd.R_alloc | apply Kd.R_drewN | apply Kd.R_drew)); exact HO174.out⟩, ⟨by (with_reducible repeat first|apply bn_|apply bd_|apply ba_); exact BK148.out⟩, ⟨by (with_reducible repeat first|apply bn_|apply bd_|apply ba_); exact BK155.out⟩, ⟨ue_ HB.out⟩⟩
            ·
             rw [if_neg c42] at H
             exact absurd H (by simp)
          ·
           rw [if_neg c28] at H
           exact absurd H (by simp)
         ·
          rw [if_neg c27] at H
          exact absurd H (by simp)
        ·
         rw [if_neg c26] at H
         have c26b0 : ((rd (rd_L1 l2 x11_1) 0) == 0) = false := beq_eq_false_iff_ne.mpr c26
         have c26b1 : ((rd (rd_L1 l2 x11_1) 0) != 0) = true := bne_iff_ne.mpr c26
         by_cases c51 : (rd (rd_L1 l2 x11_1) 0) = 1
         ·
          rw [if_pos c51] at H
          have c51b0 : ((rd (rd_L1 l2 x11_1) 0) == 1) = true := beq_iff_eq.mpr c51
          have c51b1 : ((rd (rd_L1 l2 x11_1) 0) != 1) = false := bne_eq_false_iff_eq.mpr c51
          clear c51
          by_cases c52 : 1 < ((rd_L1 l2 x11_1).length : Int)
          ·
           rw [if_pos c52] at H
           have c52b0 : decide (1 < ((rd_L1 l2 x11_1).length : Int)) = true := decide_eq_true c52
           have c52b1 : decide (1 < (rd_L1 l2 x11_1).length) = true := decide_eq_true (by omega)
           clear c52
           by_cases c53 : 2 < ((rd_L1 l2 x11_1).length : Int)
           ·
            rw [if_pos c53] at H
            have c53b0 : decide (2 < ((rd_L1 l2 x11_1).length : Int)) = true := decide_eq_true c53
            have c53b1 : decide (2 < (rd_L1 l2 x11_1).length) = true := decide_eq_true (by omega)
            clear c53
            replace H := Option.bind_eq_some_iff.mp H
            obtain ⟨⟨t177, t178, t179, t180, t181, t182⟩, A540, H⟩ := H
            replace H : (if t182 = true then (if x10_1.length < 17592186044416 then (spec_PlaySource.l0 k1 a0 a1 l2 (x10_1 ++ [t178]) (wrap64 (x11_1 + 1)) t177 t178 t179 t180 t181) else (none)) else (if x10_1.length < 17592186044416 then (spec_PlaySource.l0 k1 a0 a1 l2 (x10_1 ++ [(-2)]) (wrap64 (x11_1 + 1)) t177 t178 t179 t180 t181) else (none))) = some (r1, r2, r3, r4, r5, r6) := H
            have A54 := Aside0.mk A540
            clear A540
            by_cases c55 : t182 = true
            ·
             subst c55
             have H1 : (if x10_1.length < 17592186044416 then (spec_PlaySource.l0 k1 a0 a1 l2 (x10_1 ++ [t178]) (wrap64 (x11_1 + 1)) t177 t178 t179 t180 t181) else (none)) = some (r1, r2, r3, r4, r5, r6) := by rw [if_pos rfl] at H; exact H
             clear H
             have H := H1
             clear H1
             by_cases c56 : x10_1.length < 17592186044416
             ·
              rw [if_pos c56] at H
              have LMc56 := Aside0.mk c56
              clear c56
              obtain ⟨y183, hy183⟩ : ∃ y_ : List Int, y_ = (x10_1 ++ [t178]) := ⟨_, rfl⟩
              replace H : (spec_PlaySource.l0 k1 a0 a1 l2 y183 (wrap64 (x11_1 + 1)) t177 t178 t179 t180 t181) = some (r1, r2, r3, r4, r5, r6) := by first | (rw [hy183]; with_reducible exact H) | (have H2_ := (Option.bind_some _ _).symm.trans H; rw [hy183]; with_reducible exact H2_) | (have H2_ := (Option.bind_some _ _).symm.trans H; with_reducible exact H2_) | with_reducible exact H | (rw [hy183]; exact H) | exact H
              have Ny183 := Aside0.mk hy183
              clear hy183
              have H' := Aside0.mk H
              clear H
              have p159 : 0 ≤ (x11_1 : Int) := of_decide_eq_true ua_
              have q159 : x11_1 < (l2.length : Int) := of_decide_eq_true ua_
              obtain ⟨ad159, A159_0, c159_0, e159, hx159_0, hl159_0, hi159_0⟩ := at_L1 HR2.out x11_1 p159 q159
              cases e159
              replace hx159_0 := bc_ HB.out hx159_0
              have HR159_0 := Aside0.mk hi159_0
              have HC159_0 := Aside0.mk hl159_0
              clear hi159_0 hl159_0
              replace p159 := eq_true p159
              replace q159 := eq_true q159
              have p160 : 0 ≤ (0 : Int) := (by omega)
              have q160 : 0 < ((rd_L1 l2 x11_1).length : Int) := of_decide_eq_true ua_
              obtain ⟨ad160, e160, hx160_0⟩ := Kd.at_int HR159_0.out 0 p160 q160
              cases e160
              have qi160 : (0 < (rd_L1 l2 x11_1).length) = True := eq_true (by omega)
              (try rw [show ((0 : Int)).toNat = 0 from rfl] at hx160_0)
              (try rw [Addr.add_zero'] at hx160_0)
              replace hx160_0 := bc_ HB.out hx160_0
              replace p160 := eq_true p160
              replace q160 := eq_true q160
              try go_wp2
              have n0_ := am_ (Kd.R_drew HO_10.out)
              have n1_ := am_ (blk_drew BK148.out)
              have n2_ := am_ (blk_drew BK155.out)
              have n3_ := am_ (below_drew1 HB.out)
              clear HO_10
              clear BK148
              clear BK155
              clear HB
              have HO_10 := n0_
              have BK148 := n1_
              have BK155 := n2_
              have HB := n3_
              clear n0_ n1_ n2_ n3_
              have p175 : 0 ≤ (1 : Int) := (by omega)
              have q175 : 1 < ((rd_L1 l2 x11_1).length : Int) := of_decide_eq_true ua_
              obtain ⟨ad175, e175, hx175_0⟩ := Kd.at_int HR159_0.out 1 p175 q175
              have hw175_0 := hx175_0
              (try rw [show ((1 : Int)).toNat = 1 from rfl] at hw175_0)
              (try rw [show 1 * 1 = 1 from rfl] at hw175_0)
              (try simp only [Nat.reduceMul, Nat.reduceEqDiff, Go.Addr.add, ↓reduceIte] at hw175_0)
              obtain rfl : ad160 = ad175 := (by injection e175)
              (try simp only [show (1 : Int).toNat = 1 from rfl, Nat.reduceMul, Nat.reduceEqDiff, Go.Addr.add, ↓reduceIte] at hx175_0)
              have qi175 : (1 < (rd_L1 l2 x11_1).length) = True := eq_true (by omega)
              (try rw [show ((1 : Int)).toNat = 1 from rfl] at hx175_0)
              replace hx175_0 := bc_ HB.out hx175_0
              replace p175 := eq_true p175
              replace q175 := eq_true q175
              have p176 : 0 ≤ (2 : Int) := (by omega)
              have q176 : 2 < ((rd_L1 l2 x11_1).length : Int) := of_decide_eq_true ua_
              obtain ⟨ad176, e176, hx176_0⟩ := Kd.at_int HR159_0.out 2 p176 q176
              have hw176_0 := hx176_0
              (try rw [show ((2 : Int)).toNat = 2 from rfl] at hw176_0)
              (try rw [show 2 * 1 = 2 from rfl] at hw176_0)
              (try simp only [Nat.reduceMul, Nat.reduceEqDiff, Go.Addr.add, ↓reduceIte] at hw176_0)
              obtain rfl : ad160 = ad176 := (by injection e176)
              (try simp only [show (2 : Int).toNat = 2 from rfl, Nat.reduceMul, Nat.reduceEqDiff, Go.Addr.add, ↓reduceIte] at hx176_0)
              have qi176 : (2 < (rd_L1 l2 x11_1).length) = True := eq_true (by omega)
              (try rw [show ((2 : Int)).toNat = 2 from rfl] at hx176_0)
              replace hx176_0 := bc_ HB.out hx176_0
              replace p176 := eq_true p176
              replace q176 := eq_true q176
              refine start_ (n := 13) (S := fun w' => w'.cell? ⟨gb155, 0, none⟩ = some (.int .i64 x156000_1) ∧ w'.cell? ⟨gb155, 1, none⟩ = some (.int .i64 x156001_1) ∧ w'.cell? ⟨gb155, 2, none⟩ = some (.int .i64 x156002_1) ∧ w'.cell? ⟨gb155, 3, none⟩ = some (.bool x156003_1) ∧ w'.cell? ⟨gb155, 4, none⟩ = some (.bool x156004_1) ∧ w'.cell? ⟨ad160.block, ad160.off + 1, none⟩ = some (.int .i64 (rd (rd_L1 l2 x11_1) 1)) ∧ w'.cell? ⟨ad160.block, ad160.off + 2, none⟩ = some (.int .i64 (rd (rd_L1 l2 x11_1) 2))) (ds := [11]) #[false, false, false, false, false, false, false, false, false, false, false, false, false] (by kernel_rfl) rfl rfl ⟨(blk_cell BK155.out 0).trans rfl, (blk_cell BK155.out 1).trans rfl, (blk_cell BK155.out 2).trans rfl, (blk_cell BK155.out 3).trans rfl, (blk_cell BK155.out 4).trans rfl, ((HB.out.cell (World.block_lt_of_cell? w _ hw175_0)).trans hw175_0), ((HB.out.cell (World.block_lt_of_cell? w _ hw176_0)).trans hw176_0)⟩ (fun hHeld => ?_); refine with_tabW spec_PlaySource.tab15 spec_PlaySource.bits15 (fun HT_ HW_ => ?_)
              generalize wr.drew = w57 at HO_10 BK148 BK155 HB hx175_0 hx176_0 hHeld ⊢
              refine pure_ (i := 1) (N := some 58) (v := ?_) (a' := ?_) #[false, true, false, false, false, false, false, false, false, false, false, false, false] rfl rfl (any_of HT_.out (by kernel_rfl)) (fun _ _ _ h => h) (Or.inl ⟨by rfl, ?_⟩) ?_ ?_
              rotate_left
              ·
               intro w'
               go_simp
               with_reducible rfl
              rotate_left
              ·
               simp only [Act.put, List.setIfInBounds_toArray, List.set_cons_zero, List.set_cons_succ, i64_w, i32_w]
               rfl
              refine pure_ (i := 2) (N := some 59) (v := ?_) (a' := ?_) #[false, true, true, false, false, false, false, false, false, false, false, false, false] rfl rfl (any_of HT_.out (by kernel_rfl)) (fun _ _ _ h => h) (Or.inl ⟨by rfl, ?_⟩) ?_ ?_
              rotate_left
              ·
               intro w'
               go_simp
               with_reducible rfl
              rotate_left
              ·
               simp only [Act.put, List.setIfInBounds_toArray, List.set_cons_zero, List.set_cons_succ, i64_w, i32_w]
               rfl
              refine pure_ (i := 4) (N := some 61) (v := ?_) (a' := ?_) #[false, true, true, false, true, false, false, false, false, false, false, false, false] rfl rfl (any_of HT_.out (by kernel_rfl)) (fun _ _ _ h => h) (Or.inl ⟨by rfl, ?_⟩) ?_ ?_
              rotate_left
              ·
               intro w'
               go_simp
               with_reducible rfl
              rotate_left
              ·
               simp only [Act.put, List.setIfInBounds_toArray, List.set_cons_zero, List.set_cons_succ, i64_w, i32_w]
               rfl
              refine pure_ (i := 5) (N := some 62) (v := ?_) (a' := ?_) #[false, true, true, false, true, true, false, false, false, false, false, false, false] rfl rfl (any_of HT_.out (by kernel_rfl)) (fun _ _ _ h => h) (Or.inl ⟨by rfl, ?_⟩) ?_ ?_
              rotate_left
              ·
               intro w'
               go_simp
               with_reducible rfl
              rotate_left
              ·
               simp only [Act.put, List.setIfInBounds_toArray, List.set_cons_zero, List.set_cons_succ, i64_w, i32_w]
               rfl
              refine take_ (i := 0) (N := some 57) (v := ?_) (a' := ?_) #[true, true, true, false, true, true, false, false, false, false, false, false, false] rfl rfl (take_ofW HT_.out HW_.out (by kernel_rfl)) (fun _ _ _ h => h) (Or.inl ⟨by rfl, ?_⟩) hHeld ?_ ?_
              rotate_left
              ·
               rintro w' ⟨s0, s1, s2, s3, s4, s5, s6⟩
               go_simp
               with_reducible rfl
              rotate_left
              ·
               simp only [Act.put, List.setIfInBounds_toArray, List.set_cons_zero, List.set_cons_succ, i64_w, i32_w]
               rfl
              refine take_ (i := 3) (N := some 60) (v := ?_) (a' := ?_) #[true, true, true, true, true, true, false, false, false, false, false, false, false] rfl rfl (take_ofW HT_.out HW_.out (by kernel_rfl)) (fun _ _ _ h => h) (Or.inl ⟨by rfl, ?_⟩) hHeld ?_ ?_
              rotate_left
              ·
               rintro w' ⟨s0, s1, s2, s3, s4, s5, s6⟩
               go_simp
               with_reducible rfl
              rotate_left
              ·
               simp only [Act.put, List.setIfInBounds_toArray, List.set_cons_zero, List.set_cons_succ, i64_w, i32_w]
               rfl
              refine take_ (i := 6) (N := some 63) (v := ?_) (a' := ?_) #[true, true, true, true, true, true, true, false, false, false, false, false, false] rfl rfl (take_ofW HT_.out HW_.out (by kernel_rfl)) (fun _ _ _ h => h) (Or.inl ⟨by rfl, ?_⟩) hHeld ?_ ?_
              rotate_left
              ·
               rintro w' ⟨s0, s1, s2, s3, s4, s5, s6⟩
               go_simp
               with_reducible rfl
              rotate_left
              ·
               simp only [Act.put, List.setIfInBounds_toArray, List.set_cons_zero, List.set_cons_succ, i64_w, i32_w]
               rfl
              refine one_ (i := 7) (N := some 64) #[true, true, true, true, true, true, true, true, false, false, false, false, false] rfl rfl (one_of HT_.out (by kernel_rfl)) (by decide) (fun K hK => ?_)
              refine goes_ Try.func132 (by kernel_rfl) rfl #[.agg #[.int .i64 x156000_1, .int .i64 x156001_1, .int .i64 x156002_1, .bool x156003_1, .bool x156004_1], .int .i64 (rd (rd_L1 l2 x11_1) 1), .int .i64 (rd (rd_L1 l2 x11_1) 2)] (by rfl) rfl rfl ul_ ?_
              with_reducible refine (spec_SeeMark.calls x156000_1 x156001_1 x156002_1 x156003_1 x156004_1 (rd (rd_L1 l2 x11_1) 1) (rd (rd_L1 l2 x11_1) 2) t177 t178 t179 t180 t181 true _ A54.out).mono ?_
              rintro e w58 ⟨rfl, hb⟩
              refine ⟨_, rfl, ?_⟩
              have n0_ := am_ (Kd.R_below (ur_ HO_10.out) hb)
              have n1_ := am_ (bb_ BK148.out hb)
              have n2_ := am_ (bb_ BK155.out hb)
              have n3_ := am_ (below_step (ue_ HB.out) hb)
              clear HO_10
              clear BK148
              clear BK155
              clear HB
              have HO_10 := n0_
              have BK148 := n1_
              have BK155 := n2_
              have HB := n3_
              clear n0_ n1_ n2_ n3_
              (try clear hb)
              (try clear hb2)
              (try clear hk)
              (try clear hi)
              refine hK.out _ _ ⟨(blk_cell BK155.out 0).trans rfl, (blk_cell BK155.out 1).trans rfl, (blk_cell BK155.out 2).trans rfl, (blk_cell BK155.out 3).trans rfl, (blk_cell BK155.out 4).trans rfl, ((HB.out.cell (World.block_lt_of_cell? w _ hw175_0)).trans hw175_0), ((HB.out.cell (World.block_lt_of_cell? w _ hw176_0)).trans hw176_0)⟩ (fun hHeld => ?_)
              clear hK K
              refine norm_ (a' := ?_) ?_ ?_
              rotate_left
              ·
               show Act.put _ (some 64) _ = _
               simp only [Act.put, List.setIfInBounds_toArray, List.set_cons_zero, List.set_cons_succ, i64_w, i32_w]
               rfl
              refine pure_ (i := 8) (N := some 56) (v := ?_) (a' := ?_) #[true, true, true, true, true, true, true, true, true, false, false, false, false] rfl rfl (any_of HT_.out (by kernel_rfl)) (fun _ _ _ h => h) (Or.inl ⟨by rfl, ?_⟩) ?_ ?_
              rotate_left
              ·
               intro w'
               go_simp
               with_reducible rfl
              rotate_left
              ·
               simp only [Act.put, List.setIfInBounds_toArray, List.set_cons_zero, List.set_cons_succ, i64_w, i32_w]
               rfl
              refine pure_ (i := 9) (N := some 65) (v := ?_) (a' := ?_) #[true, true, true, true, true, true, true, true, true, true, false, false, false] rfl rfl (any_of HT_.out (by kernel_rfl)) (fun _ _ _ h => h) (Or.inl ⟨by rfl, ?_⟩) ?_ ?_
              rotate_left
              ·
               intro w'
               go_simp
               with_reducible rfl
              rotate_left
              ·
               simp only [Act.put, List.setIfInBounds_toArray, List.set_cons_zero, List.set_cons_succ, i64_w, i32_w]
               rfl
              refine pure_ (i := 10) (N := some 66) (v := ?_) (a' := ?_) #[true, true, true, true, true, true, true, true, true, true, true, false, false] rfl rfl (any_of HT_.out (by kernel_rfl)) (fun _ _ _ h => h) (Or.inl ⟨by rfl, ?_⟩) ?_ ?_
              rotate_left
              ·
               intro w'
               go_simp
               with_reducible rfl
              rotate_left
              ·
               simp only [Act.put, List.setIfInBounds_toArray, List.set_cons_zero, List.set_cons_succ, i64_w, i32_w]
               rfl
              refine last_ (i := 11) (N := none) #[true, true, true, true, true, true, true, true, true, true, true, true, false] rfl rfl (one_of HT_.out (by kernel_rfl)) (by decide) (fun K hK => ?_)
              have hs59 := cb_ BK155.out 0 rfl
              have hfs59 := blk_frozen BK155.out 0
              have hns59_0 := NB148_155.out
              have hms59_0 := NB155_148.out
              have hs60 := cb_ BK155.out 1 rfl
              have hfs60 := blk_frozen BK155.out 1
              have hns60_0 := NB148_155.out
              have hms60_0 := NB155_148.out
              have hs61 := cb_ BK155.out 2 rfl
              have hfs61 := blk_frozen BK155.out 2
              have hns61_0 := NB148_155.out
              have hms61_0 := NB155_148.out
              have hs62 := cb_ BK155.out 3 rfl
              have hfs62 := blk_frozen BK155.out 3
              have hns62_0 := NB148_155.out
              have hms62_0 := NB155_148.out
              have hs63 := cb_ BK155.out 4 rfl
              have hfs63 := blk_frozen BK155.out 4
              have hns63_0 := NB148_155.out
              have hms63_0 := NB155_148.out
              refine skip_ (w1 := ?_) (by rfl) rfl ?_ ?_
              rotate_left
              ·
               go_simp
               rfl
              refine hK.out _ _ ?_
              clear hK K
              refine pure_ (i := 12) (N := some 13) (v := ?_) (a' := ?_) #[true, true, true, true, true, true, true, true, true, true, true, true, true] rfl rfl (any_of HT_.out (by kernel_rfl)) (fun _ _ _ h => h) (Or.inl ⟨by rfl, ?_⟩) ?_ ?_
              rotate_left
              ·
               intro w'
               go_simp
               with_reducible rfl
              rotate_left
              ·
               simp only [Act.put, List.setIfInBounds_toArray, List.set_cons_zero, List.set_cons_succ, i64_w, i32_w]
               rfl
              refine done_ (done_of HT_.out (by kernel_rfl)) ?_
              have hnb64 := NB155_148.out
              have hnc64 := NB148_155.out
              have hcz65_0 := cb_ BK155.out 0 rfl
              have hcz65_1 := cb_ BK155.out 1 rfl
              have hcz65_2 := cb_ BK155.out 2 rfl
              have hcz65_3 := cb_ BK155.out 3 rfl
              have hcz65_4 := cb_ BK155.out 4 rfl
              have hfz65_0 := blk_frozen BK155.out 0
              have hfz65_1 := blk_frozen BK155.out 1
              have hfz65_2 := blk_frozen BK155.out 2
              have hfz65_3 := blk_frozen BK155.out 3
              have hfz65_4 := blk_frozen BK155.out 4
              try go_wp2_with (first | ((with_reducible refine gate_builtin (b := .append) (xs := #[.tmp 88, .tmp 90]) rfl ?_); at_builtin; refine Kd.R_append (Kd.int .i64) (w0 := w) w.heap.size rfl (.tmp 88) (.tmp 90) 22 3 (.int .i64 0) 8 rfl Try.underlying22 info3 rfl (by decide) (by omega) u10 x10_1 t178 [.int .i64 t178] (fun _ => True) (fun _ => False) rfl (by first | (go_simp; done) | (go_simp; rfl)) ?aP (fun _ hk => hk.elim) ?aF ?aO ?aB ?aS ?aL ?_; (case aP => exact rfl); (case aB => exact (ue_ HB.out)); (case aF => exact (fun _ _ => trivial)); (case aO => exact (by (with_reducible repeat (first | apply Kd.R_alloc | apply Kd.R_drewN | apply Kd.R_drew)); exact Kd.R_mono (Kd.R_far (p := ⟨gb155, 4, none⟩) (Kd.R_far (p := ⟨gb155, 3, none⟩) (Kd.R_far (p := ⟨gb155, 2, none⟩) (Kd.R_far (p := ⟨gb155, 1, none⟩) (Kd.R_far (p := ⟨gb155, 0, none⟩) (Kd.R_types HO_10.out BK155.out (by decide)) (fun _ hk => by first | exact hk.2 | grind) (.int .i64 t177)) (fun _ hk => by first | exact hk.2 | grind) (.int .i64 t178)) (fun _ hk => by first | exact hk.2 | grind) (.int .i64 t179)) (fun _ hk => by first | exact hk.2 | grind) (.bool t180)) (fun _ hk => by first | exact hk.2 | grind) (.bool t181)) (fun _ hk => trivial))); (case aS => exact (below_size (ue_ HB.out))); (case aL => have := LMc56.out; omega); intro v184 w66 ho hb hg hat; rw [← Ny183.out] at ho; have n0_ := am_ (blk_grown (g := gb148) (o := .cells #[.int .i64 0, .int .i64 0, .int .i64 0, .bool false, .bool false] 72 (0, 0)) (uf_ BK148.out) hg (Kd.R_ne HO_10.out BK148.out (by decide))); have n1_ := am_ (blk_grown (g := gb155) (o := .cells #[.int .i64 t177, .int .i64 t178, .int .i64 t179, .bool t180, .bool t181] 72 (0, 0)) (by (with_reducible repeat first|apply bn_|apply bd_|apply ba_); refine blk_put (cs := #[.int .i64 t177, .int .i64 t178, .int .i64 t179, .bool t180, .bool x156004_1]) ?_ 4 _ rfl; refine blk_put (cs := #[.int .i64 t177, .int .i64 t178, .int .i64 t179, .bool x156003_1, .bool x156004_1]) ?_ 3 _ rfl; refine blk_put (cs := #[.int .i64 t177, .int .i64 t178, .int .i64 x156002_1, .bool x156003_1, .bool x156004_1]) ?_ 2 _ rfl; refine blk_put (cs := #[.int .i64 t177, .int .i64 x156001_1, .int .i64 x156002_1, .bool x156003_1, .bool x156004_1]) ?_ 1 _ rfl; refine blk_put (cs := #[.int .i64 x156000_1, .int .i64 x156001_1, .int .i64 x156002_1, .bool x156003_1, .bool x156004_1]) ?_ 0 _ rfl; (with_reducible repeat first|apply bn_|apply bd_|apply ba_); exact BK155.out) hg (Kd.R_ne HO_10.out BK155.out (by decide))); have n2_ := am_ (hb); have n3_ := am_ (ho); clear BK148 BK155 HB HO_10; have BK148 := n0_; have BK155 := n1_; have HB := n2_; have HO185 := n3_; clear n0_ n1_ n2_ n3_; clear ho hb hg hat))
              go_roundg k1
              case measure => have := HK1.out; omega
              case rel => exact ⟨(y183), (wrap64 (x11_1 + 1)), (t177), (t178), (t179), (t180), (t181), (by first | rfl | (simp; done) | (simp [*]; done)), H', ⟨by have := HK1.out; omega⟩, ⟨by (with_reducible repeat (first | apply Kd.R_alloc | apply Kd.R_drewN | apply Kd.R_drew)); exact HO185.out⟩, ⟨by (with_reducible repeat first|apply bn_|apply bd_|apply ba_); exact BK148.out⟩, ⟨by (with_reducible repeat first|apply bn_|apply bd_|apply ba_); exact BK155.out⟩, ⟨ue_ HB.out⟩⟩
             ·
              rw [if_neg c56] at H
              exact absurd H (by simp)
            ·
             replace c55 := Bool.eq_false_iff.mpr c55
             subst c55
             have H1 : (if x10_1.length < 17592186044416 then (spec_PlaySource.l0 k1 a0 a1 l2 (x10_1 ++ [(-2)]) (wrap64 (x11_1 + 1)) t177 t178 t179 t180 t181) else (none)) = some (r1, r2, r3, r4, r5, r6) := by rw [if_neg (show ¬ (false = true) by decide)] at H; exact H
             clear H
             have H := H1
             clear H1
             by_cases c67 : x10_1.length < 17592186044416
             ·
              rw [if_pos c67] at H
              have LMc67 := Aside0.mk c67
              clear c67
              obtain ⟨y186, hy186⟩ : ∃ y_ : List Int, y_ = (x10_1 ++ [(-2)]) := ⟨_, rfl⟩
              replace H : (spec_PlaySource.l0 k1 a0 a1 l2 y186 (wrap64 (x11_1 + 1)) t177 t178 t179 t180 t181) = some (r1, r2, r3, r4, r5, r6) := by first | (rw [hy186]; with_reducible exact H) | (have H2_ := (Option.bind_some _ _).symm.trans H; rw [hy186]; with_reducible exact H2_) | (have H2_ := (Option.bind_some _ _).symm.trans H; with_reducible exact H2_) | with_reducible exact H | (rw [hy186]; exact H) | exact H
              have Ny186 := Aside0.mk hy186
              clear hy186
              have H' := Aside0.mk H
              clear H
              have p159 : 0 ≤ (x11_1 : Int) := of_decide_eq_true ua_
              have q159 : x11_1 < (l2.length : Int) := of_decide_eq_true ua_
              obtain ⟨ad159, A159_0, c159_0, e159, hx159_0, hl159_0, hi159_0⟩ := at_L1 HR2.out x11_1 p159 q159
              cases e159
              replace hx159_0 := bc_ HB.out hx159_0
              have HR159_0 := Aside0.mk hi159_0
              have HC159_0 := Aside0.mk hl159_0
              clear hi159_0 hl159_0
              replace p159 := eq_true p159
              replace q159 := eq_true q159
              have p160 : 0 ≤ (0 : Int) := (by omega)
              have q160 : 0 < ((rd_L1 l2 x11_1).length : Int) := of_decide_eq_true ua_
              obtain ⟨ad160, e160, hx160_0⟩ := Kd.at_int HR159_0.out 0 p160 q160
              cases e160
              have qi160 : (0 < (rd_L1 l2 x11_1).length) = True := eq_true (by omega)
              (try rw [show ((0 : Int)).toNat = 0 from rfl] at hx160_0)
              (try rw [Addr.add_zero'] at hx160_0)
              replace hx160_0 := bc_ HB.out hx160_0
              replace p160 := eq_true p160
              replace q160 := eq_true q160
              try go_wp2
              have n0_ := am_ (Kd.R_drew HO_10.out)
              have n1_ := am_ (blk_drew BK148.out)
              have n2_ := am_ (blk_drew BK155.out)
              have n3_ := am_ (below_drew1 HB.out)
              clear HO_10
              clear BK148
              clear BK155
              clear HB
              have HO_10 := n0_
              have BK148 := n1_
              have BK155 := n2_
              have HB := n3_
              clear n0_ n1_ n2_ n3_
              have p175 : 0 ≤ (1 : Int) := (by omega)
              have q175 : 1 < ((rd_L1 l2 x11_1).length : Int) := of_decide_eq_true ua_
              obtain ⟨ad175, e175, hx175_0⟩ := Kd.at_int HR159_0.out 1 p175 q175
              have hw175_0 := hx175_0
              (try rw [show ((1 : Int)).toNat = 1 from rfl] at hw175_0)
              (try rw [show 1 * 1 = 1 from rfl] at hw175_0)
              (try simp only [Nat.reduceMul, Nat.reduceEqDiff, Go.Addr.add, ↓reduceIte] at hw175_0)
              obtain rfl : ad160 = ad175 := (by injection e175)
              (try simp only [show (1 : Int).toNat = 1 from rfl, Nat.reduceMul, Nat.reduceEqDiff, Go.Addr.add, ↓reduceIte] at hx175_0)
              have qi175 : (1 < (rd_L1 l2 x11_1).length) = True := eq_true (by omega)
              (try rw [show ((1 : Int)).toNat = 1 from rfl] at hx175_0)
              replace hx175_0 := bc_ HB.out hx175_0
              replace p175 := eq_true p175
              replace q175 := eq_true q175
              have p176 : 0 ≤ (2 : Int) := (by omega)
              have q176 : 2 < ((rd_L1 l2 x11_1).length : Int) := of_decide_eq_true ua_
              obtain ⟨ad176, e176, hx176_0⟩ := Kd.at_int HR159_0.out 2 p176 q176
              have hw176_0 := hx176_0
              (try rw [show ((2 : Int)).toNat = 2 from rfl] at hw176_0)
              (try rw [show 2 * 1 = 2 from rfl] at hw176_0)
              (try simp only [Nat.reduceMul, Nat.reduceEqDiff, Go.Addr.add, ↓reduceIte] at hw176_0)
              obtain rfl : ad160 = ad176 := (by injection e176)
              (try simp only [show (2 : Int).toNat = 2 from rfl, Nat.reduceMul, Nat.reduceEqDiff, Go.Addr.add, ↓reduceIte] at hx176_0)
              have qi176 : (2 < (rd_L1 l2 x11_1).length) = True := eq_true (by omega)
              (try rw [show ((2 : Int)).toNat = 2 from rfl] at hx176_0)
              replace hx176_0 := bc_ HB.out hx176_0
              replace p176 := eq_true p176
              replace q176 := eq_true q176
              refine start_ (n := 13) (S := fun w' => w'.cell? ⟨gb155, 0, none⟩ = some (.int .i64 x156000_1) ∧ w'.cell? ⟨gb155, 1, none⟩ = some (.int .i64 x156001_1) ∧ w'.cell? ⟨gb155, 2, none⟩ = some (.int .i64 x156002_1) ∧ w'.cell? ⟨gb155, 3, none⟩ = some (.bool x156003_1) ∧ w'.cell? ⟨gb155, 4, none⟩ = some (.bool x156004_1) ∧ w'.cell? ⟨ad160.block, ad160.off + 1, none⟩ = some (.int .i64 (rd (rd_L1 l2 x11_1) 1)) ∧ w'.cell? ⟨ad160.block, ad160.off + 2, none⟩ = some (.int .i64 (rd (rd_L1 l2 x11_1) 2))) (ds := [11]) #[false, false, false, false, false, false, false, false, false, false, false, false, false] (by kernel_rfl) rfl rfl ⟨(blk_cell BK155.out 0).trans rfl, (blk_cell BK155.out 1).trans rfl, (blk_cell BK155.out 2).trans rfl, (blk_cell BK155.out 3).trans rfl, (blk_cell BK155.out 4).trans rfl, ((HB.out.cell (World.block_lt_of_cell? w _ hw175_0)).trans hw175_0), ((HB.out.cell (World.block_lt_of_cell? w _ hw176_0)).trans hw176_0)⟩ (fun hHeld => ?_); refine with_tabW spec_PlaySource.tab15 spec_PlaySource.bits15 (fun HT_ HW_ => ?_)
              generalize wr.drew = w68 at HO_10 BK148 BK155 HB hx175_0 hx176_0 hHeld ⊢
              refine pure_ (i := 1) (N := some 58) (v := ?_) (a' := ?_) #[false, true, false, false, false, false, false, false, false, false, false, false, false] rfl rfl (any_of HT_.out (by kernel_rfl)) (fun _ _ _ h => h) (Or.inl ⟨by rfl, ?_⟩) ?_ ?_
              rotate_left
              ·
               intro w'
               go_simp
               with_reducible rfl
              rotate_left
              ·
               simp only [Act.put, List.setIfInBounds_toArray, List.set_cons_zero, List.set_cons_succ, i64_w, i32_w]
               rfl
              refine pure_ (i := 2) (N := some 59) (v := ?_) (a' := ?_) #[false, true, true, false, false, false, false, false, false, false, false, false, false] rfl rfl (any_of HT_.out (by kernel_rfl)) (fun _ _ _ h => h) (Or.inl ⟨by rfl, ?_⟩) ?_ ?_
              rotate_left
              ·
               intro w'
               go_simp
               with_reducible rfl
              rotate_left
              ·
               simp only [Act.put, List.setIfInBounds_toArray, List.set_cons_zero, List.set_cons_succ, i64_w, i32_w]
               rfl
              refine pure_ (i := 4) (N := some 61) (v := ?_) (a' := ?_) #[false, true, true, false, true, false, false, false, false, false, false, false, false] rfl rfl (any_of HT_.out (by kernel_rfl)) (fun _ _ _ h => h) (Or.inl ⟨by rfl, ?_⟩) ?_ ?_
              rotate_left
              ·
               intro w'
               go_simp
               with_reducible rfl
              rotate_left
              ·
               simp only [Act.put, List.setIfInBounds_toArray, List.set_cons_zero, List.set_cons_succ, i64_w, i32_w]
               rfl
              refine pure_ (i := 5) (N := some 62) (v := ?_) (a' := ?_) #[false, true, true, false, true, true, false, false, false, false, false, false, false] rfl rfl (any_of HT_.out (by kernel_rfl)) (fun _ _ _ h => h) (Or.inl ⟨by rfl, ?_⟩) ?_ ?_
              rotate_left
              ·
               intro w'
               go_simp
               with_reducible rfl
              rotate_left
              ·
               simp only [Act.put, List.setIfInBounds_toArray, List.set_cons_zero, List.set_cons_succ, i64_w, i32_w]
               rfl
              refine take_ (i := 0) (N := some 57) (v := ?_) (a' := ?_) #[true, true, true, false, true, true, false, false, false, false, false, false, false] rfl rfl (take_ofW HT_.out HW_.out (by kernel_rfl)) (fun _ _ _ h => h) (Or.inl ⟨by rfl, ?_⟩) hHeld ?_ ?_
              rotate_left
              ·
               rintro w' ⟨s0, s1, s2, s3, s4, s5, s6⟩
               go_simp
               with_reducible rfl
              rotate_left
              ·
               simp only [Act.put, List.setIfInBounds_toArray, List.set_cons_zero, List.set_cons_succ, i64_w, i32_w]
               rfl
              refine take_ (i := 3) (N := some 60) (v := ?_) (a' := ?_) #[true, true, true, true, true, true, false, false, false, false, false, false, false] rfl rfl (take_ofW HT_.out HW_.out (by kernel_rfl)) (fun _ _ _ h => h) (Or.inl ⟨by rfl, ?_⟩) hHeld ?_ ?_
              rotate_left
              ·
               rintro w' ⟨s0, s1, s2, s3, s4, s5, s6⟩
               go_simp
               with_reducible rfl
              rotate_left
              ·
               simp only [Act.put, List.setIfInBounds_toArray, List.set_cons_zero, List.set_cons_succ, i64_w, i32_w]
               rfl
              refine take_ (i := 6) (N := some 63) (v := ?_) (a' := ?_) #[true, true, true, true, true, true, true, false, false, false, false, false, false] rfl rfl (take_ofW HT_.out HW_.out (by kernel_rfl)) (fun _ _ _ h => h) (Or.inl ⟨by rfl, ?_⟩) hHeld ?_ ?_
              rotate_left
              ·
               rintro w' ⟨s0, s1, s2, s3, s4, s5, s6⟩
               go_simp
               with_reducible rfl
              rotate_left
              ·
               simp only [Act.put, List.setIfInBounds_toArray, List.set_cons_zero, List.set_cons_succ, i64_w, i32_w]
               rfl
              refine one_ (i := 7) (N := some 64) #[true, true, true, true, true, true, true, true, false, false, false, false, false] rfl rfl (one_of HT_.out (by kernel_rfl)) (by decide) (fun K hK => ?_)
              refine goes_ Try.func132 (by kernel_rfl) rfl #[.agg #[.int .i64 x156000_1, .int .i64 x156001_1, .int .i64 x156002_1, .bool x156003_1, .bool x156004_1], .int .i64 (rd (rd_L1 l2 x11_1) 1), .int .i64 (rd (rd_L1 l2 x11_1) 2)] (by rfl) rfl rfl ul_ ?_
              with_reducible refine (spec_SeeMark.calls x156000_1 x156001_1 x156002_1 x156003_1 x156004_1 (rd (rd_L1 l2 x11_1) 1) (rd (rd_L1 l2 x11_1) 2) t177 t178 t179 t180 t181 false _ A54.out).mono ?_
              rintro e w69 ⟨rfl, hb⟩
              refine ⟨_, rfl, ?_⟩
              have n0_ := am_ (Kd.R_below (ur_ HO_10.out) hb)
              have n1_ := am_ (bb_ BK148.out hb)
              have n2_ := am_ (bb_ BK155.out hb)
              have n3_ := am_ (below_step (ue_ HB.out) hb)
              clear HO_10
              clear BK148
              clear BK155
              clear HB
              have HO_10 := n0_
              have BK148 := n1_
              have BK155 := n2_
              have HB := n3_
              clear n0_ n1_ n2_ n3_
              (try clear hb)
              (try clear hb2)
              (try clear hk)
              (try clear hi)
              refine hK.out _ _ ⟨(blk_cell BK155.out 0).trans rfl, (blk_cell BK155.out 1).trans rfl, (blk_cell BK155.out 2).trans rfl, (blk_cell BK155.out 3).trans rfl, (blk_cell BK155.out 4).trans rfl, ((HB.out.cell (World.block_lt_of_cell? w _ hw175_0)).trans hw175_0), ((HB.out.cell (World.block_lt_of_cell? w _ hw176_0)).trans hw176_0)⟩ (fun hHeld => ?_)
              clear hK K
              refine norm_ (a' := ?_) ?_ ?_
              rotate_left
              ·
               show Act.put _ (some 64) _ = _
               simp only [Act.put, List.setIfInBounds_toArray, List.set_cons_zero, List.set_cons_succ, i64_w, i32_w]
               rfl
              refine pure_ (i := 8) (N := some 56) (v := ?_) (a' := ?_) #[true, true, true, true, true, true, true, true, true, false, false, false, false] rfl rfl (any_of HT_.out (by kernel_rfl)) (fun _ _ _ h => h) (Or.inl ⟨by rfl, ?_⟩) ?_ ?_
              rotate_left
              ·
               intro w'
               go_simp
               with_reducible rfl
              rotate_left
              ·
               simp only [Act.put, List.setIfInBounds_toArray, List.set_cons_zero, List.set_cons_succ, i64_w, i32_w]
               rfl
              refine pure_ (i := 9) (N := some 65) (v := ?_) (a' := ?_) #[true, true, true, true, true, true, true, true, true, true, false, false, false] rfl rfl (any_of HT_.out (by kernel_rfl)) (fun _ _ _ h => h) (Or.inl ⟨by rfl, ?_⟩) ?_ ?_
              rotate_left
              ·
               intro w'
               go_simp
               with_reducible rfl
              rotate_left
              ·
               simp only [Act.put, List.setIfInBounds_toArray, List.set_cons_zero, List.set_cons_succ, i64_w, i32_w]
               rfl
              refine pure_ (i := 10) (N := some 66) (v := ?_) (a' := ?_) #[true, true, true, true, true, true, true, true, true, true, true, false, false] rfl rfl (any_of HT_.out (by kernel_rfl)) (fun _ _ _ h => h) (Or.inl ⟨by rfl, ?_⟩) ?_ ?_
              rotate_left
              ·
               intro w'
               go_simp
               with_reducible rfl
              rotate_left
              ·
               simp only [Act.put, List.setIfInBounds_toArray, List.set_cons_zero, List.set_cons_succ, i64_w, i32_w]
               rfl
              refine last_ (i := 11) (N := none) #[true, true, true, true, true, true, true, true, true, true, true, true, false] rfl rfl (one_of HT_.out (by kernel_rfl)) (by decide) (fun K hK => ?_)
              have hs70 := cb_ BK155.out 0 rfl
              have hfs70 := blk_frozen BK155.out 0
              have hns70_0 := NB148_155.out
              have hms70_0 := NB155_148.out
              have hs71 := cb_ BK155.out 1 rfl
              have hfs71 := blk_frozen BK155.out 1
              have hns71_0 := NB148_155.out
              have hms71_0 := NB155_148.out
              have hs72 := cb_ BK155.out 2 rfl
              have hfs72 := blk_frozen BK155.out 2
              have hns72_0 := NB148_155.out
              have hms72_0 := NB155_148.out
              have hs73 := cb_ BK155.out 3 rfl
              have hfs73 := blk_frozen BK155.out 3
              have hns73_0 := NB148_155.out
              have hms73_0 := NB155_148.out
              have hs74 := cb_ BK155.out 4 rfl
              have hfs74 := blk_frozen BK155.out 4
              have hns74_0 := NB148_155.out
              have hms74_0 := NB155_148.out
              refine skip_ (w1 := ?_) (by rfl) rfl ?_ ?_
              rotate_left
              ·
               go_simp
               rfl
              refine hK.out _ _ ?_
              clear hK K
              refine pure_ (i := 12) (N := some 13) (v := ?_) (a' := ?_) #[true, true, true, true, true, true, true, true, true, true, true, true, true] rfl rfl (any_of HT_.out (by kernel_rfl)) (fun _ _ _ h => h) (Or.inl ⟨by rfl, ?_⟩) ?_ ?_
              rotate_left
              ·
               intro w'
               go_simp
               with_reducible rfl
              rotate_left
              ·
               simp only [Act.put, List.setIfInBounds_toArray, List.set_cons_zero, List.set_cons_succ, i64_w, i32_w]
               rfl
              refine done_ (done_of HT_.out (by kernel_rfl)) ?_
              try go_wp2_with (first | ((with_reducible refine gate_builtin (b := .append) (xs := #[.tmp 88, .tmp 90]) rfl ?_); at_builtin; refine Kd.R_append (Kd.int .i64) (w0 := w) w.heap.size rfl (.tmp 88) (.tmp 90) 22 3 (.int .i64 0) 8 rfl Try.underlying22 info3 rfl (by decide) (by omega) u10 x10_1 (-2) [.int .i64 (-2)] (fun _ => True) (fun _ => False) rfl (by first | (go_simp; done) | (go_simp; rfl)) ?aP (fun _ hk => hk.elim) ?aF ?aO ?aB ?aS ?aL ?_; (case aP => exact rfl); (case aB => exact (ue_ HB.out)); (case aF => exact (fun _ _ => trivial)); (case aO => exact (by (with_reducible repeat (first | apply Kd.R_alloc | apply Kd.R_drewN | apply Kd.R_drew)); exact Kd.R_mono (Kd.R_far (p := ⟨gb155, 4, none⟩) (Kd.R_far (p := ⟨gb155, 3, none⟩) (Kd.R_far (p := ⟨gb155, 2, none⟩) (Kd.R_far (p := ⟨gb155, 1, none⟩) (Kd.R_far (p := ⟨gb155, 0, none⟩) (Kd.R_types HO_10.out BK155.out (by decide)) (fun _ hk => by first | exact hk.2 | grind) (.int .i64 t177)) (fun _ hk => by first | exact hk.2 | grind) (.int .i64 t178)) (fun _ hk => by first | exact hk.2 | grind) (.int .i64 t179)) (fun _ hk => by first | exact hk.2 | grind) (.bool t180)) (fun _ hk => by first | exact hk.2 | grind) (.bool t181)) (fun _ hk => trivial))); (case aS => exact (below_size (ue_ HB.out))); (case aL => have := LMc67.out; omega); intro v187 w75 ho hb hg hat; rw [← Ny186.out] at ho; have n0_ := am_ (blk_grown (g := gb148) (o := .cells #[.int .i64 0, .int .i64 0, .int .i64 0, .bool false, .bool false] 72 (0, 0)) (uf_ BK148.out) hg (Kd.R_ne HO_10.out BK148.out (by decide))); have n1_ := am_ (blk_grown (g := gb155) (o := .cells #[.int .i64 t177, .int .i64 t178, .int .i64 t179, .bool t180, .bool t181] 72 (0, 0)) (by (with_reducible repeat first|apply bn_|apply bd_|apply ba_); refine blk_put (cs := #[.int .i64 t177, .int .i64 t178, .int .i64 t179, .bool t180, .bool x156004_1]) ?_ 4 _ rfl; refine blk_put (cs := #[.int .i64 t177, .int .i64 t178, .int .i64 t179, .bool x156003_1, .bool x156004_1]) ?_ 3 _ rfl; refine blk_put (cs := #[.int .i64 t177, .int .i64 t178, .int .i64 x156002_1, .bool x156003_1, .bool x156004_1]) ?_ 2 _ rfl; refine blk_put (cs := #[.int .i64 t177, .int .i64 x156001_1, .int .i64 x156002_1, .bool x156003_1, .bool x156004_1]) ?_ 1 _ rfl; refine blk_put (cs := #[.int .i64 x156000_1, .int .i64 x156001_1, .int .i64 x156002_1, .bool x156003_1, .bool x156004_1]) ?_ 0 _ rfl; (with_reducible repeat first|apply bn_|apply bd_|apply ba_); exact BK155.out) hg (Kd.R_ne HO_10.out BK155.out (by decide))); have n2_ := am_ (hb); have n3_ := am_ (ho); clear BK148 BK155 HB HO_10; have BK148 := n0_; have BK155 := n1_; have HB := n2_; have HO188 := n3_; clear n0_ n1_ n2_ n3_; clear ho hb hg hat))
              go_roundg k1
              case measure => have := HK1.out; omega
              case rel => exact ⟨(y186), (wrap64 (x11_1 + 1)), (t177), (t178), (t179), (t180), (t181), (by first | rfl | (simp; done) | (simp [*]; done)), H', ⟨by have := HK1.out; omega⟩, ⟨by (with_reducible repeat (first | apply Kd.R_alloc | apply Kd.R_drewN | apply Kd.R_drew)); exact HO188.out⟩, ⟨by (with_reducible repeat first|apply bn_|apply bd_|apply ba_); exact BK148.out⟩, ⟨by (with_reducible repeat first|apply bn_|apply bd_|apply ba_); exact BK155.out⟩, ⟨ue_ HB.out⟩⟩
             ·
              rw [if_neg c67] at H
              exact absurd H (by simp)
           ·
            rw [if_neg c53] at H
            exact absurd H (by simp)
          ·
           rw [if_neg c52] at H
           exact absurd H (by simp)
         ·
          rw [if_neg c51] at H
          have c51b0 : ((rd (rd_L1 l2 x11_1) 0) == 1) = false := beq_eq_false_iff_ne.mpr c51
          have c51b1 : ((rd (rd_L1 l2 x11_1) 0) != 1) = true := bne_iff_ne.mpr c51
          by_cases c76 : (rd (rd_L1 l2 x11_1) 0) = 2
          ·
           rw [if_pos c76] at H
           have c76b0 : ((rd (rd_L1 l2 x11_1) 0) == 2) = true := beq_iff_eq.mpr c76
           have c76b1 : ((rd (rd_L1 l2 x11_1) 0) != 2) = false := bne_eq_false_iff_eq.mpr c76
           clear c76
           by_cases c77 : 2 < ((rd_L1 l2 x11_1).length : Int)
           ·
            rw [if_pos c77] at H
            have c77b0 : decide (2 < ((rd_L1 l2 x11_1).length : Int)) = true := decide_eq_true c77
            have c77b1 : decide (2 < (rd_L1 l2 x11_1).length) = true := decide_eq_true (by omega)
            clear c77
            replace H := Option.bind_eq_some_iff.mp H
            obtain ⟨⟨t190, t191, t192, t193, t194, t195⟩, A780, H⟩ := H
            replace H : (if t195 = true then (if x10_1.length < 17592186044416 then (spec_PlaySource.l0 k1 a0 a1 l2 (x10_1 ++ [t191]) (wrap64 (x11_1 + 1)) t190 t191 t192 t193 t194) else (none)) else (if x10_1.length < 17592186044416 then (spec_PlaySource.l0 k1 a0 a1 l2 (x10_1 ++ [(-2)]) (wrap64 (x11_1 + 1)) t190 t191 t192 t193 t194) else (none))) = some (r1, r2, r3, r4, r5, r6) := H
            have A78 := Aside0.mk A780
            clear A780
            by_cases c79 : t195 = true
            ·
             subst c79
             have H1 : (if x10_1.length < 17592186044416 then (spec_PlaySource.l0 k1 a0 a1 l2 (x10_1 ++ [t191]) (wrap64 (x11_1 + 1)) t190 t191 t192 t193 t194) else (none)) = some (r1, r2, r3, r4, r5, r6) := by rw [if_pos rfl] at H; exact H
             clear H
             have H := H1
             clear H1
             by_cases c80 : x10_1.length < 17592186044416
             ·
              rw [if_pos c80] at H
              have LMc80 := Aside0.mk c80
              clear c80
              obtain ⟨y196, hy196⟩ : ∃ y_ : List Int, y_ = (x10_1 ++ [t191]) := ⟨_, rfl⟩
              replace H : (spec_PlaySource.l0 k1 a0 a1 l2 y196 (wrap64 (x11_1 + 1)) t190 t191 t192 t193 t194) = some (r1, r2, r3, r4, r5, r6) := by first | (rw [hy196]; with_reducible exact H) | (have H2_ := (Option.bind_some _ _).symm.trans H; rw [hy196]; with_reducible exact H2_) | (have H2_ := (Option.bind_some _ _).symm.trans H; with_reducible exact H2_) | with_reducible exact H | (rw [hy196]; exact H) | exact H
              have Ny196 := Aside0.mk hy196
              clear hy196
              have H' := Aside0.mk H
              clear H
              have p159 : 0 ≤ (x11_1 : Int) := of_decide_eq_true ua_
              have q159 : x11_1 < (l2.length : Int) := of_decide_eq_true ua_
              obtain ⟨ad159, A159_0, c159_0, e159, hx159_0, hl159_0, hi159_0⟩ := at_L1 HR2.out x11_1 p159 q159
              cases e159
              replace hx159_0 := bc_ HB.out hx159_0
              have HR159_0 := Aside0.mk hi159_0
              have HC159_0 := Aside0.mk hl159_0
              clear hi159_0 hl159_0
              replace p159 := eq_true p159
              replace q159 := eq_true q159
              have p160 : 0 ≤ (0 : Int) := (by omega)
              have q160 : 0 < ((rd_L1 l2 x11_1).length : Int) := of_decide_eq_true ua_
              obtain ⟨ad160, e160, hx160_0⟩ := Kd.at_int HR159_0.out 0 p160 q160
              cases e160
              have qi160 : (0 < (rd_L1 l2 x11_1).length) = True := eq_true (by omega)
              (try rw [show ((0 : Int)).toNat = 0 from rfl] at hx160_0)
              (try rw [Addr.add_zero'] at hx160_0)
              replace hx160_0 := bc_ HB.out hx160_0
              replace p160 := eq_true p160
              replace q160 := eq_true q160
              try go_wp2
              have n0_ := am_ (Kd.R_drew HO_10.out)
              have n1_ := am_ (blk_drew BK148.out)
              have n2_ := am_ (blk_drew BK155.out)
              have n3_ := am_ (below_drew1 HB.out)
              clear HO_10
              clear BK148
              clear BK155
              clear HB
              have HO_10 := n0_
              have BK148 := n1_
              have BK155 := n2_
              have HB := n3_
              clear n0_ n1_ n2_ n3_
              have p189 : 0 ≤ (2 : Int) := (by omega)
              have q189 : 2 < ((rd_L1 l2 x11_1).length : Int) := of_decide_eq_true ua_
              obtain ⟨ad189, e189, hx189_0⟩ := Kd.at_int HR159_0.out 2 p189 q189
              have hw189_0 := hx189_0
              (try rw [show ((2 : Int)).toNat = 2 from rfl] at hw189_0)
              (try rw [show 2 * 1 = 2 from rfl] at hw189_0)
              (try simp only [Nat.reduceMul, Nat.reduceEqDiff, Go.Addr.add, ↓reduceIte] at hw189_0)
              obtain rfl : ad160 = ad189 := (by injection e189)
              (try simp only [show (2 : Int).toNat = 2 from rfl, Nat.reduceMul, Nat.reduceEqDiff, Go.Addr.add, ↓reduceIte] at hx189_0)
              have qi189 : (2 < (rd_L1 l2 x11_1).length) = True := eq_true (by omega)
              (try rw [show ((2 : Int)).toNat = 2 from rfl] at hx189_0)
              replace hx189_0 := bc_ HB.out hx189_0
              replace p189 := eq_true p189
              replace q189 := eq_true q189
              refine start_ (n := 11) (S := fun w' => w'.cell? ⟨gb155, 0, none⟩ = some (.int .i64 x156000_1) ∧ w'.cell? ⟨gb155, 1, none⟩ = some (.int .i64 x156001_1) ∧ w'.cell? ⟨gb155, 2, none⟩ = some (.int .i64 x156002_1) ∧ w'.cell? ⟨gb155, 3, none⟩ = some (.bool x156003_1) ∧ w'.cell? ⟨gb155, 4, none⟩ = some (.bool x156004_1) ∧ w'.cell? ⟨ad160.block, ad160.off + 2, none⟩ = some (.int .i64 (rd (rd_L1 l2 x11_1) 2))) (ds := [9]) #[false, false, false, false, false, false, false, false, false, false, false] (by kernel_rfl) rfl rfl ⟨(blk_cell BK155.out 0).trans rfl, (blk_cell BK155.out 1).trans rfl, (blk_cell BK155.out 2).trans rfl, (blk_cell BK155.out 3).trans rfl, (blk_cell BK155.out 4).trans rfl, ((HB.out.cell (World.block_lt_of_cell? w _ hw189_0)).trans hw189_0)⟩ (fun hHeld => ?_); refine with_tabW spec_PlaySource.tab17 spec_PlaySource.bits17 (fun HT_ HW_ => ?_)
              generalize wr.drew = w81 at HO_10 BK148 BK155 HB hx189_0 hHeld ⊢
              refine pure_ (i := 1) (N := some 71) (v := ?_) (a' := ?_) #[false, true, false, false, false, false, false, false, false, false, false] rfl rfl (any_of HT_.out (by kernel_rfl)) (fun _ _ _ h => h) (Or.inl ⟨by rfl, ?_⟩) ?_ ?_
              rotate_left
              ·
               intro w'
               go_simp
               with_reducible rfl
              rotate_left
              ·
               simp only [Act.put, List.setIfInBounds_toArray, List.set_cons_zero, List.set_cons_succ, i64_w, i32_w]
               rfl
              refine pure_ (i := 2) (N := some 72) (v := ?_) (a' := ?_) #[false, true, true, false, false, false, false, false, false, false, false] rfl rfl (any_of HT_.out (by kernel_rfl)) (fun _ _ _ h => h) (Or.inl ⟨by rfl, ?_⟩) ?_ ?_
              rotate_left
              ·
               intro w'
               go_simp
               with_reducible rfl
              rotate_left
              ·
               simp only [Act.put, List.setIfInBounds_toArray, List.set_cons_zero, List.set_cons_succ, i64_w, i32_w]
               rfl
              refine pure_ (i := 3) (N := some 73) (v := ?_) (a' := ?_) #[false, true, true, true, false, false, false, false, false, false, false] rfl rfl (any_of HT_.out (by kernel_rfl)) (fun _ _ _ h => h) (Or.inl ⟨by rfl, ?_⟩) ?_ ?_
              rotate_left
              ·
               intro w'
               go_simp
               with_reducible rfl
              rotate_left
              ·
               simp only [Act.put, List.setIfInBounds_toArray, List.set_cons_zero, List.set_cons_succ, i64_w, i32_w]
               rfl
              refine take_ (i := 0) (N := some 70) (v := ?_) (a' := ?_) #[true, true, true, true, false, false, false, false, false, false, false] rfl rfl (take_ofW HT_.out HW_.out (by kernel_rfl)) (fun _ _ _ h => h) (Or.inl ⟨by rfl, ?_⟩) hHeld ?_ ?_
              rotate_left
              ·
               rintro w' ⟨s0, s1, s2, s3, s4, s5⟩
               go_simp
               with_reducible rfl
              rotate_left
              ·
               simp only [Act.put, List.setIfInBounds_toArray, List.set_cons_zero, List.set_cons_succ, i64_w, i32_w]
               rfl
              refine take_ (i := 4) (N := some 74) (v := ?_) (a' := ?_) #[true, true, true, true, true, false, false, false, false, false, false] rfl rfl (take_ofW HT_.out HW_.out (by kernel_rfl)) (fun _ _ _ h => h) (Or.inl ⟨by rfl, ?_⟩) hHeld ?_ ?_
              rotate_left
              ·
               rintro w' ⟨s0, s1, s2, s3, s4, s5⟩
               go_simp
               with_reducible rfl
              rotate_left
              ·
               simp only [Act.put, List.setIfInBounds_toArray, List.set_cons_zero, List.set_cons_succ, i64_w, i32_w]
               rfl
              refine one_ (i := 5) (N := some 75) #[true, true, true, true, true, true, false, false, false, false, false] rfl rfl (one_of HT_.out (by kernel_rfl)) (by decide) (fun K hK => ?_)
              refine goes_ Try.func133 (by kernel_rfl) rfl #[.agg #[.int .i64 x156000_1, .int .i64 x156001_1, .int .i64 x156002_1, .bool x156003_1, .bool x156004_1], .int .i64 a1, .int .i64 (rd (rd_L1 l2 x11_1) 2)] (by rfl) rfl rfl ul_ ?_
              with_reducible refine (spec_SeeTick.calls k1 x156000_1 x156001_1 x156002_1 x156003_1 x156004_1 a1 (rd (rd_L1 l2 x11_1) 2) t190 t191 t192 t193 t194 true _ A78.out).mono ?_
              rintro e w82 ⟨rfl, hb⟩
              refine ⟨_, rfl, ?_⟩
              have n0_ := am_ (Kd.R_below (ur_ HO_10.out) hb)
              have n1_ := am_ (bb_ BK148.out hb)
              have n2_ := am_ (bb_ BK155.out hb)
              have n3_ := am_ (below_step (ue_ HB.out) hb)
              clear HO_10
              clear BK148
              clear BK155
              clear HB
              have HO_10 := n0_
              have BK148 := n1_
              have BK155 := n2_
              have HB := n3_
              clear n0_ n1_ n2_ n3_
              (try clear hb)
              (try clear hb2)
              (try clear hk)
              (try clear hi)
              refine hK.out _ _ ⟨(blk_cell BK155.out 0).trans rfl, (blk_cell BK155.out 1).trans rfl, (blk_cell BK155.out 2).trans rfl, (blk_cell BK155.out 3).trans rfl, (blk_cell BK155.out 4).trans rfl, ((HB.out.cell (World.block_lt_of_cell? w _ hw189_0)).trans hw189_0)⟩ (fun hHeld => ?_)
              clear hK K
              refine norm_ (a' := ?_) ?_ ?_
              rotate_left
              ·
               show Act.put _ (some 75) _ = _
               simp only [Act.put, List.setIfInBounds_toArray, List.set_cons_zero, List.set_cons_succ, i64_w, i32_w]
               rfl
              refine pure_ (i := 6) (N := some 69) (v := ?_) (a' := ?_) #[true, true, true, true, true, true, true, false, false, false, false] rfl rfl (any_of HT_.out (by kernel_rfl)) (fun _ _ _ h => h) (Or.inl ⟨by rfl, ?_⟩) ?_ ?_
              rotate_left
              ·
               intro w'
               go_simp
               with_reducible rfl
              rotate_left
              ·
               simp only [Act.put, List.setIfInBounds_toArray, List.set_cons_zero, List.set_cons_succ, i64_w, i32_w]
               rfl
              refine pure_ (i := 7) (N := some 76) (v := ?_) (a' := ?_) #[true, true, true, true, true, true, true, true, false, false, false] rfl rfl (any_of HT_.out (by kernel_rfl)) (fun _ _ _ h => h) (Or.inl ⟨by rfl, ?_⟩) ?_ ?_
              rotate_left
              ·
               intro w'
               go_simp
               with_reducible rfl
              rotate_left
              ·
               simp only [Act.put, List.setIfInBounds_toArray, List.set_cons_zero, List.set_cons_succ, i64_w, i32_w]
               rfl
              refine pure_ (i := 8) (N := some 77) (v := ?_) (a' := ?_) #[true, true, true, true, true, true, true, true, true, false, false] rfl rfl (any_of HT_.out (by kernel_rfl)) (fun _ _ _ h => h) (Or.inl ⟨by rfl, ?_⟩) ?_ ?_
              rotate_left
              ·
               intro w'
               go_simp
               with_reducible rfl
              rotate_left
              ·
               simp only [Act.put, List.setIfInBounds_toArray, List.set_cons_zero, List.set_cons_succ, i64_w, i32_w]
               rfl
              refine last_ (i := 9) (N := none) #[true, true, true, true, true, true, true, true, true, true, false] rfl rfl (one_of HT_.out (by kernel_rfl)) (by decide) (fun K hK => ?_)
              have hs83 := cb_ BK155.out 0 rfl
              have hfs83 := blk_frozen BK155.out 0
              have hns83_0 := NB148_155.out
              have hms83_0 := NB155_148.out
              have hs84 := cb_ BK155.out 1 rfl
              have hfs84 := blk_frozen BK155.out 1
              have hns84_0 := NB148_155.out
              have hms84_0 := NB155_148.out
              have hs85 := cb_ BK155.out 2 rfl
              have hfs85 := blk_frozen BK155.out 2
              have hns85_0 := NB148_155.out
              have hms85_0 := NB155_148.out
              have hs86 := cb_ BK155.out 3 rfl
              have hfs86 := blk_frozen BK155.out 3
              have hns86_0 := NB148_155.out
              have hms86_0 := NB155_148.out
              have hs87 := cb_ BK155.out 4 rfl
              have hfs87 := blk_frozen BK155.out 4
              have hns87_0 := NB148_155.out
              have hms87_0 := NB155_148.out
              refine skip_ (w1 := ?_) (by rfl) rfl ?_ ?_
              rotate_left
              ·
               go_simp
               rfl
              refine hK.out _ _ ?_
              clear hK K
              refine pure_ (i := 10) (N := some 13) (v := ?_) (a' := ?_) #[true, true, true, true, true, true, true, true, true, true, true] rfl rfl (any_of HT_.out (by kernel_rfl)) (fun _ _ _ h => h) (Or.inl ⟨by rfl, ?_⟩) ?_ ?_
              rotate_left
              ·
               intro w'
               go_simp
               with_reducible rfl
              rotate_left
              ·
               simp only [Act.put, List.setIfInBounds_toArray, List.set_cons_zero, List.set_cons_succ, i64_w, i32_w]
               rfl
              refine done_ (done_of HT_.out (by kernel_rfl)) ?_
              have hnb88 := NB155_148.out
              have hnc88 := NB148_155.out
              have hcz89_0 := cb_ BK155.out 0 rfl
              have hcz89_1 := cb_ BK155.out 1 rfl
              have hcz89_2 := cb_ BK155.out 2 rfl
              have hcz89_3 := cb_ BK155.out 3 rfl
              have hcz89_4 := cb_ BK155.out 4 rfl
              have hfz89_0 := blk_frozen BK155.out 0
              have hfz89_1 := blk_frozen BK155.out 1
              have hfz89_2 := blk_frozen BK155.out 2
              have hfz89_3 := blk_frozen BK155.out 3
              have hfz89_4 := blk_frozen BK155.out 4
              try go_wp2_with (first | ((with_reducible refine gate_builtin (b := .append) (xs := #[.tmp 88, .tmp 90]) rfl ?_); at_builtin; refine Kd.R_append (Kd.int .i64) (w0 := w) w.heap.size rfl (.tmp 88) (.tmp 90) 22 3 (.int .i64 0) 8 rfl Try.underlying22 info3 rfl (by decide) (by omega) u10 x10_1 t191 [.int .i64 t191] (fun _ => True) (fun _ => False) rfl (by first | (go_simp; done) | (go_simp; rfl)) ?aP (fun _ hk => hk.elim) ?aF ?aO ?aB ?aS ?aL ?_; (case aP => exact rfl); (case aB => exact (ue_ HB.out)); (case aF => exact (fun _ _ => trivial)); (case aO => exact (by (with_reducible repeat (first | apply Kd.R_alloc | apply Kd.R_drewN | apply Kd.R_drew)); exact Kd.R_mono (Kd.R_far (p := ⟨gb155, 4, none⟩) (Kd.R_far (p := ⟨gb155, 3, none⟩) (Kd.R_far (p := ⟨gb155, 2, none⟩) (Kd.R_far (p := ⟨gb155, 1, none⟩) (Kd.R_far (p := ⟨gb155, 0, none⟩) (Kd.R_types HO_10.out BK155.out (by decide)) (fun _ hk => by first | exact hk.2 | grind) (.int .i64 t190)) (fun _ hk => by first | exact hk.2 | grind) (.int .i64 t191)) (fun _ hk => by first | exact hk.2 | grind) (.int .i64 t192)) (fun _ hk => by first | exact hk.2 | grind) (.bool t193)) (fun _ hk => by first | exact hk.2 | grind) (.bool t194)) (fun _ hk => trivial))); (case aS => exact (below_size (ue_ HB.out))); (case aL => have := LMc80.out; omega); intro v197 w90 ho hb hg hat; rw [← Ny196.out] at ho; have n0_ := am_ (blk_grown (g := gb148) (o := .cells #[.int .i64 0, .int .i64 0, .int .i64 0, .bool false, .bool false] 72 (0, 0)) (uf_ BK148.out) hg (Kd.R_ne HO_10.out BK148.out (by decide))); have n1_ := am_ (blk_grown (g := gb155) (o := .cells #[.int .i64 t190, .int .i64 t191, .int .i64 t192, .bool t193, .bool t194] 72 (0, 0)) (by (with_reducible repeat first|apply bn_|apply bd_|apply ba_); refine blk_put (cs := #[.int .i64 t190, .int .i64 t191, .int .i64 t192, .bool t193, .bool x156004_1]) ?_ 4 _ rfl; refine blk_put (cs := #[.int .i64 t190, .int .i64 t191, .int .i64 t192, .bool x156003_1, .bool x156004_1]) ?_ 3 _ rfl; refine blk_put (cs := #[.int .i64 t190, .int .i64 t191, .int .i64 x156002_1, .bool x156003_1, .bool x156004_1]) ?_ 2 _ rfl; refine blk_put (cs := #[.int .i64 t190, .int .i64 x156001_1, .int .i64 x156002_1, .bool x156003_1, .bool x156004_1]) ?_ 1 _ rfl; refine blk_put (cs := #[.int .i64 x156000_1, .int .i64 x156001_1, .int .i64 x156002_1, .bool x156003_1, .bool x156004_1]) ?_ 0 _ rfl; (with_reducible repeat first|apply bn_|apply bd_|apply ba_); exact BK155.out) hg (Kd.R_ne HO_10.out BK155.out (by decide))); have n2_ := am_ (hb); have n3_ := am_ (ho); clear BK148 BK155 HB HO_10; have BK148 := n0_; have BK155 := n1_; have HB := n2_; have HO198 := n3_; clear n0_ n1_ n2_ n3_; clear ho hb hg hat))
              go_roundg k1
              case measure => have := HK1.out; omega
              case rel => exact ⟨(y196), (wrap64 (x11_1 + 1)), (t190), (t191), (t192), (t193), (t194), (by first | rfl | (simp; done) | (simp [*]; done)), H', ⟨by have := HK1.out; omega⟩, ⟨by (with_reducible repeat (first | apply Kd.R_alloc | apply Kd.R_drewN | apply Kd.R_drew)); exact HO198.out⟩, ⟨by (with_reducible repeat first|apply bn_|apply bd_|apply ba_); exact BK148.out⟩, ⟨by (with_reducible repeat first|apply bn_|apply bd_|apply ba_); exact BK155.out⟩, ⟨ue_ HB.out⟩⟩
             ·
              rw [if_neg c80] at H
              exact absurd H (by simp)
            ·
             replace c79 := Bool.eq_false_iff.mpr c79
             subst c79
             have H1 : (if x10_1.length < 17592186044416 then (spec_PlaySource.l0 k1 a0 a1 l2 (x10_1 ++ [(-2)]) (wrap64 (x11_1 + 1)) t190 t191 t192 t193 t194) else (none)) = some (r1, r2, r3, r4, r5, r6) := by rw [if_neg (show ¬ (false = true) by decide)] at H; exact H
             clear H
             have H := H1
             clear H1
             by_cases c91 : x10_1.length < 17592186044416
             ·
              rw [if_pos c91] at H
              have LMc91 := Aside0.mk c91
              clear c91
              obtain ⟨y199, hy199⟩ : ∃ y_ : List Int, y_ = (x10_1 ++ [(-2)]) := ⟨_, rfl⟩
              replace H : (spec_PlaySource.l0 k1 a0 a1 l2 y199 (wrap64 (x11_1 + 1)) t190 t191 t192 t193 t194) = some (r1, r2, r3, r4, r5, r6) := by first | (rw [hy199]; with_reducible exact H) | (have H2_ := (Option.bind_some _ _).symm.trans H; rw [hy199]; with_reducible exact H2_) | (have H2_ := (Option.bind_some _ _).symm.trans H; with_reducible exact H2_) | with_reducible exact H | (rw [hy199]; exact H) | exact H
              have Ny199 := Aside0.mk hy199
              clear hy199
              have H' := Aside0.mk H
              clear H
              have p159 : 0 ≤ (x11_1 : Int) := of_decide_eq_true ua_
              have q159 : x11_1 < (l2.length : Int) := of_decide_eq_true ua_
              obtain ⟨ad159, A159_0, c159_0, e159, hx159_0, hl159_0, hi159_0⟩ := at_L1 HR2.out x11_1 p159 q159
              cases e159
              replace hx159_0 := bc_ HB.out hx159_0
              have HR159_0 := Aside0.mk hi159_0
              have HC159_0 := Aside0.mk hl159_0
              clear hi159_0 hl159_0
              replace p159 := eq_true p159
              replace q159 := eq_true q159
              have p160 : 0 ≤ (0 : Int) := (by omega)
              have q160 : 0 < ((rd_L1 l2 x11_1).length : Int) := of_decide_eq_true ua_
              obtain ⟨ad160, e160, hx160_0⟩ := Kd.at_int HR159_0.out 0 p160 q160
              cases e160
              have qi160 : (0 < (rd_L1 l2 x11_1).length) = True := eq_true (by omega)
              (try rw [show ((0 : Int)).toNat = 0 from rfl] at hx160_0)
              (try rw [Addr.add_zero'] at hx160_0)
              replace hx160_0 := bc_ HB.out hx160_0
              replace p160 := eq_true p160
              replace q160 := eq_true q160
              try go_wp2
              have n0_ := am_ (Kd.R_drew HO_10.out)
              have n1_ := am_ (blk_drew BK148.out)
              have n2_ := am_ (blk_drew BK155.out)
              have n3_ := am_ (below_drew1 HB.out)
              clear HO_10
              clear BK148
              clear BK155
              clear HB
              have HO_10 := n0_
              have BK148 := n1_
              have BK155 := n2_
              have HB := n3_
              clear n0_ n1_ n2_ n3_
              have p189 : 0 ≤ (2 : Int) := (by omega)
              have q189 : 2 < ((rd_L1 l2 x11_1).length : Int) := of_decide_eq_true ua_
              obtain ⟨ad189, e189, hx189_0⟩ := Kd.at_int HR159_0.out 2 p189 q189
              have hw189_0 := hx189_0
              (try rw [show ((2 : Int)).toNat = 2 from rfl] at hw189_0)
              (try rw [show 2 * 1 = 2 from rfl] at hw189_0)
              (try simp only [Nat.reduceMul, Nat.reduceEqDiff, Go.Addr.add, ↓reduceIte] at hw189_0)
              obtain rfl : ad160 = ad189 := (by injection e189)
              (try simp only [show (2 : Int).toNat = 2 from rfl, Nat.reduceMul, Nat.reduceEqDiff, Go.Addr.add, ↓reduceIte] at hx189_0)
              have qi189 : (2 < (rd_L1 l2 x11_1).length) = True := eq_true (by omega)
              (try rw [show ((2 : Int)).toNat = 2 from rfl] at hx189_0)
              replace hx189_0 := bc_ HB.out hx189_0
              replace p189 := eq_true p189
              replace q189 := eq_true q189
              refine start_ (n := 11) (S := fun w' => w'.cell? ⟨gb155, 0, none⟩ = some (.int .i64 x156000_1) ∧ w'.cell? ⟨gb155, 1, none⟩ = some (.int .i64 x156001_1) ∧ w'.cell? ⟨gb155, 2, none⟩ = some (.int .i64 x156002_1) ∧ w'.cell? ⟨gb155, 3, none⟩ = some (.bool x156003_1) ∧ w'.cell? ⟨gb155, 4, none⟩ = some (.bool x156004_1) ∧ w'.cell? ⟨ad160.block, ad160.off + 2, none⟩ = some (.int .i64 (rd (rd_L1 l2 x11_1) 2))) (ds := [9]) #[false, false, false, false, false, false, false, false, false, false, false] (by kernel_rfl) rfl rfl ⟨(blk_cell BK155.out 0).trans rfl, (blk_cell BK155.out 1).trans rfl, (blk_cell BK155.out 2).trans rfl, (blk_cell BK155.out 3).trans rfl, (blk_cell BK155.out 4).trans rfl, ((HB.out.cell (World.block_lt_of_cell? w _ hw189_0)).trans hw189_0)⟩ (fun hHeld => ?_); refine with_tabW spec_PlaySource.tab17 spec_PlaySource.bits17 (fun HT_ HW_ => ?_)
              generalize wr.drew = w92 at HO_10 BK148 BK155 HB hx189_0 hHeld ⊢
              refine pure_ (i := 1) (N := some 71) (v := ?_) (a' := ?_) #[false, true, false, false, false, false, false, false, false, false, false] rfl rfl (any_of HT_.out (by kernel_rfl)) (fun _ _ _ h => h) (Or.inl ⟨by rfl, ?_⟩) ?_ ?_
              rotate_left
              ·
               intro w'
               go_simp
               with_reducible rfl
              rotate_left
              ·
               simp only [Act.put, List.setIfInBounds_toArray, List.set_cons_zero, List.set_cons_succ, i64_w, i32_w]
               rfl
              refine pure_ (i := 2) (N := some 72) (v := ?_) (a' := ?_) #[false, true, true, false, false, false, false, false, false, false, false] rfl rfl (any_of HT_.out (by kernel_rfl)) (fun _ _ _ h => h) (Or.inl ⟨by rfl, ?_⟩) ?_ ?_
              rotate_left
              ·
               intro w'
               go_simp
               with_reducible rfl
              rotate_left
              ·
               simp only [Act.put, List.setIfInBounds_toArray, List.set_cons_zero, List.set_cons_succ, i64_w, i32_w]
               rfl
              refine pure_ (i := 3) (N := some 73) (v := ?_) (a' := ?_) #[false, true, true, true, false, false, false, false, false, false, false] rfl rfl (any_of HT_.out (by kernel_rfl)) (fun _ _ _ h => h) (Or.inl ⟨by rfl, ?_⟩) ?_ ?_
              rotate_left
              ·
               intro w'
               go_simp
               with_reducible rfl
              rotate_left
              ·
               simp only [Act.put, List.setIfInBounds_toArray, List.set_cons_zero, List.set_cons_succ, i64_w, i32_w]
               rfl
              refine take_ (i := 0) (N := some 70) (v := ?_) (a' := ?_) #[true, true, true, true, false, false, false, false, false, false, false] rfl rfl (take_ofW HT_.out HW_.out (by kernel_rfl)) (fun _ _ _ h => h) (Or.inl ⟨by rfl, ?_⟩) hHeld ?_ ?_
              rotate_left
              ·
               rintro w' ⟨s0, s1, s2, s3, s4, s5⟩
               go_simp
               with_reducible rfl
              rotate_left
              ·
               simp only [Act.put, List.setIfInBounds_toArray, List.set_cons_zero, List.set_cons_succ, i64_w, i32_w]
               rfl
              refine take_ (i := 4) (N := some 74) (v := ?_) (a' := ?_) #[true, true, true, true, true, false, false, false, false, false, false] rfl rfl (take_ofW HT_.out HW_.out (by kernel_rfl)) (fun _ _ _ h => h) (Or.inl ⟨by rfl, ?_⟩) hHeld ?_ ?_
              rotate_left
              ·
               rintro w' ⟨s0, s1, s2, s3, s4, s5⟩
               go_simp
               with_reducible rfl
              rotate_left
              ·
               simp only [Act.put, List.setIfInBounds_toArray, List.set_cons_zero, List.set_cons_succ, i64_w, i32_w]
               rfl
              refine one_ (i := 5) (N := some 75) #[true, true, true, true, true, true, false, false, false, false, false] rfl rfl (one_of HT_.out (by kernel_rfl)) (by decide) (fun K hK => ?_)
              refine goes_ Try.func133 (by kernel_rfl) rfl #[.agg #[.int .i64 x156000_1, .int .i64 x156001_1, .int .i64 x156002_1, .bool x156003_1, .bool x156004_1], .int .i64 a1, .int .i64 (rd (rd_L1 l2 x11_1) 2)] (by rfl) rfl rfl ul_ ?_
              with_reducible refine (spec_SeeTick.calls k1 x156000_1 x156001_1 x156002_1 x156003_1 x156004_1 a1 (rd (rd_L1 l2 x11_1) 2) t190 t191 t192 t193 t194 false _ A78.out).mono ?_
              rintro e w93 ⟨rfl, hb⟩
              refine ⟨_, rfl, ?_⟩
              have n0_ := am_ (Kd.R_below (ur_ HO_10.out) hb)
              have n1_ := am_ (bb_ BK148.out hb)
              have n2_ := am_ (bb_ BK155.out hb)
              have n3_ := am_ (below_step (ue_ HB.out) hb)
              clear HO_10
              clear BK148
              clear BK155
              clear HB
              have HO_10 := n0_
              have BK148 := n1_
              have BK155 := n2_
              have HB := n3_
              clear n0_ n1_ n2_ n3_
              (try clear hb)
              (try clear hb2)
              (try clear hk)
              (try clear hi)
              refine hK.out _ _ ⟨(blk_cell BK155.out 0).trans rfl, (blk_cell BK155.out 1).trans rfl, (blk_cell BK155.out 2).trans rfl, (blk_cell BK155.out 3).trans rfl, (blk_cell BK155.out 4).trans rfl, ((HB.out.cell (World.block_lt_of_cell? w _ hw189_0)).trans hw189_0)⟩ (fun hHeld => ?_)
              clear hK K
              refine norm_ (a' := ?_) ?_ ?_
              rotate_left
              ·
               show Act.put _ (some 75) _ = _
               simp only [Act.put, List.setIfInBounds_toArray, List.set_cons_zero, List.set_cons_succ, i64_w, i32_w]
               rfl
              refine pure_ (i := 6) (N := some 69) (v := ?_) (a' := ?_) #[true, true, true, true, true, true, true, false, false, false, false] rfl rfl (any_of HT_.out (by kernel_rfl)) (fun _ _ _ h => h) (Or.inl ⟨by rfl, ?_⟩) ?_ ?_
              rotate_left
              ·
               intro w'
               go_simp
               with_reducible rfl
              rotate_left
              ·
               simp only [Act.put, List.setIfInBounds_toArray, List.set_cons_zero, List.set_cons_succ, i64_w, i32_w]
               rfl
              refine pure_ (i := 7) (N := some 76) (v := ?_) (a' := ?_) #[true, true, true, true, true, true, true, true, false, false, false] rfl rfl (any_of HT_.out (by kernel_rfl)) (fun _ _ _ h => h) (Or.inl ⟨by rfl, ?_⟩) ?_ ?_
              rotate_left
              ·
               intro w'
               go_simp
               with_reducible rfl
              rotate_left
              ·
               simp only [Act.put, List.setIfInBounds_toArray, List.set_cons_zero, List.set_cons_succ, i64_w, i32_w]
               rfl
              refine pure_ (i := 8) (N := some 77) (v := ?_) (a' := ?_) #[true, true, true, true, true, true, true, true, true, false, false] rfl rfl (any_of HT_.out (by kernel_rfl)) (fun _ _ _ h => h) (Or.inl ⟨by rfl, ?_⟩) ?_ ?_
              rotate_left
              ·
               intro w'
               go_simp
               with_reducible rfl
              rotate_left
              ·
               simp only [Act.put, List.setIfInBounds_toArray, List.set_cons_zero, List.set_cons_succ, i64_w, i32_w]
               rfl
              refine last_ (i := 9) (N := none) #[true, true, true, true, true, true, true, true, true, true, false] rfl rfl (one_of HT_.out (by kernel_rfl)) (by decide) (fun K hK => ?_)
              have hs94 := cb_ BK155.out 0 rfl
              have hfs94 := blk_frozen BK155.out 0
              have hns94_0 := NB148_155.out
              have hms94_0 := NB155_148.out
              have hs95 := cb_ BK155.out 1 rfl
              have hfs95 := blk_frozen BK155.out 1
              have hns95_0 := NB148_155.out
              have hms95_0 := NB155_148.out
              have hs96 := cb_ BK155.out 2 rfl
              have hfs96 := blk_frozen BK155.out 2
              have hns96_0 := NB148_155.out
              have hms96_0 := NB155_148.out
              have hs97 := cb_ BK155.out 3 rfl
              have hfs97 := blk_frozen BK155.out 3
              have hns97_0 := NB148_155.out
              have hms97_0 := NB155_148.out
              have hs98 := cb_ BK155.out 4 rfl
              have hfs98 := blk_frozen BK155.out 4
              have hns98_0 := NB148_155.out
              have hms98_0 := NB155_148.out
              refine skip_ (w1 := ?_) (by rfl) rfl ?_ ?_
              rotate_left
              ·
               go_simp
               rfl
              refine hK.out _ _ ?_
              clear hK K
              refine pure_ (i := 10) (N := some 13) (v := ?_) (a' := ?_) #[true, true, true, true, true, true, true, true, true, true, true] rfl rfl (any_of HT_.out (by kernel_rfl)) (fun _ _ _ h => h) (Or.inl ⟨by rfl, ?_⟩) ?_ ?_
              rotate_left
              ·
               intro w'
               go_simp
               with_reducible rfl
              rotate_left
              ·
               simp only [Act.put, List.setIfInBounds_toArray, List.set_cons_zero, List.set_cons_succ, i64_w, i32_w]
               rfl
              refine done_ (done_of HT_.out (by kernel_rfl)) ?_
              try go_wp2_with (first | ((with_reducible refine gate_builtin (b := .append) (xs := #[.tmp 88, .tmp 90]) rfl ?_); at_builtin; refine Kd.R_append (Kd.int .i64) (w0 := w) w.heap.size rfl (.tmp 88) (.tmp 90) 22 3 (.int .i64 0) 8 rfl Try.underlying22 info3 rfl (by decide) (by omega) u10 x10_1 (-2) [.int .i64 (-2)] (fun _ => True) (fun _ => False) rfl (by first | (go_simp; done) | (go_simp; rfl)) ?aP (fun _ hk => hk.elim) ?aF ?aO ?aB ?aS ?aL ?_; (case aP => exact rfl); (case aB => exact (ue_ HB.out)); (case aF => exact (fun _ _ => trivial)); (case aO => exact (by (with_reducible repeat (first | apply Kd.R_alloc | apply Kd.R_drewN | apply Kd.R_drew)); exact Kd.R_mono (Kd.R_far (p := ⟨gb155, 4, none⟩) (Kd.R_far (p := ⟨gb155, 3, none⟩) (Kd.R_far (p := ⟨gb155, 2, none⟩) (Kd.R_far (p := ⟨gb155, 1, none⟩) (Kd.R_far (p := ⟨gb155, 0, none⟩) (Kd.R_types HO_10.out BK155.out (by decide)) (fun _ hk => by first | exact hk.2 | grind) (.int .i64 t190)) (fun _ hk => by first | exact hk.2 | grind) (.int .i64 t191)) (fun _ hk => by first | exact hk.2 | grind) (.int .i64 t192)) (fun _ hk => by first | exact hk.2 | grind) (.bool t193)) (fun _ hk => by first | exact hk.2 | grind) (.bool t194)) (fun _ hk => trivial))); (case aS => exact (below_size (ue_ HB.out))); (case aL => have := LMc91.out; omega); intro v200 w99 ho hb hg hat; rw [← Ny199.out] at ho; have n0_ := am_ (blk_grown (g := gb148) (o := .cells #[.int .i64 0, .int .i64 0, .int .i64 0, .bool false, .bool false] 72 (0, 0)) (uf_ BK148.out) hg (Kd.R_ne HO_10.out BK148.out (by decide))); have n1_ := am_ (blk_grown (g := gb155) (o := .cells #[.int .i64 t190, .int .i64 t191, .int .i64 t192, .bool t193, .bool t194] 72 (0, 0)) (by (with_reducible repeat first|apply bn_|apply bd_|apply ba_); refine blk_put (cs := #[.int .i64 t190, .int .i64 t191, .int .i64 t192, .bool t193, .bool x156004_1]) ?_ 4 _ rfl; refine blk_put (cs := #[.int .i64 t190, .int .i64 t191, .int .i64 t192, .bool x156003_1, .bool x156004_1]) ?_ 3 _ rfl; refine blk_put (cs := #[.int .i64 t190, .int .i64 t191, .int .i64 x156002_1, .bool x156003_1, .bool x156004_1]) ?_ 2 _ rfl; refine blk_put (cs := #[.int .i64 t190, .int .i64 x156001_1, .int .i64 x156002_1, .bool x156003_1, .bool x156004_1]) ?_ 1 _ rfl; refine blk_put (cs := #[.int .i64 x156000_1, .int .i64 x156001_1, .int .i64 x156002_1, .bool x156003_1, .bool x156004_1]) ?_ 0 _ rfl; (with_reducible repeat first|apply bn_|apply bd_|apply ba_); exact BK155.out) hg (Kd.R_ne HO_10.out BK155.out (by decide))); have n2_ := am_ (hb); have n3_ := am_ (ho); clear BK148 BK155 HB HO_10; have BK148 := n0_; have BK155 := n1_; have HB := n2_; have HO201 := n3_; clear n0_ n1_ n2_ n3_; clear ho hb hg hat))
              go_roundg k1
              case measure => have := HK1.out; omega
              case rel => exact ⟨(y199), (wrap64 (x11_1 + 1)), (t190), (t191), (t192), (t193), (t194), (by first | rfl | (simp; done) | (simp [*]; done)), H', ⟨by have := HK1.out; omega⟩, ⟨by (with_reducible repeat (first | apply Kd.R_alloc | apply Kd.R_drewN | apply Kd.R_drew)); exact HO201.out⟩, ⟨by (with_reducible repeat first|apply bn_|apply bd_|apply ba_); exact BK148.out⟩, ⟨by (with_reducible repeat first|apply bn_|apply bd_|apply ba_); exact BK155.out⟩, ⟨ue_ HB.out⟩⟩
             ·
              rw [if_neg c91] at H
              exact absurd H (by simp)
           ·
            rw [if_neg c77] at H
            exact absurd H (by simp)
          ·
           rw [if_neg c76] at H
           have c76b0 : ((rd (rd_L1 l2 x11_1) 0) == 2) = false := beq_eq_false_iff_ne.mpr c76
           have c76b1 : ((rd (rd_L1 l2 x11_1) 0) != 2) = true := bne_iff_ne.mpr c76
           by_cases c100 : (rd (rd_L1 l2 x11_1) 0) = 3
           ·
            rw [if_pos c100] at H
            have c100b0 : ((rd (rd_L1 l2 x11_1) 0) == 3) = true := beq_iff_eq.mpr c100
            have c100b1 : ((rd (rd_L1 l2 x11_1) 0) != 3) = false := bne_eq_false_iff_eq.mpr c100
            clear c100
            replace H := Option.bind_eq_some_iff.mp H
            obtain ⟨⟨t202, t203, t204, t205, t206, t207⟩, A1010, H⟩ := H
            replace H : (if t207 = true then (if x10_1.length < 17592186044416 then (spec_PlaySource.l0 k1 a0 a1 l2 (x10_1 ++ [t203]) (wrap64 (x11_1 + 1)) t202 t203 t204 t205 t206) else (none)) else (if x10_1.length < 17592186044416 then (spec_PlaySource.l0 k1 a0 a1 l2 (x10_1 ++ [(-2)]) (wrap64 (x11_1 + 1)) t202 t203 t204 t205 t206) else (none))) = some (r1, r2, r3, r4, r5, r6) := H
            have A101 := Aside0.mk A1010
            clear A1010
            by_cases c102 : t207 = true
            ·
             subst c102
             have H1 : (if x10_1.length < 17592186044416 then (spec_PlaySource.l0 k1 a0 a1 l2 (x10_1 ++ [t203]) (wrap64 (x11_1 + 1)) t202 t203 t204 t205 t206) else (none)) = some (r1, r2, r3, r4, r5, r6) := by rw [if_pos rfl] at H; exact H
             clear H
             have H := H1
             clear H1
             by_cases c103 : x10_1.length < 17592186044416
             ·
              rw [if_pos c103] at H
              have LMc103 := Aside0.mk c103
              clear c103
              obtain ⟨y208, hy208⟩ : ∃ y_ : List Int, y_ = (x10_1 ++ [t203]) := ⟨_, rfl⟩
              replace H : (spec_PlaySource.l0 k1 a0 a1 l2 y208 (wrap64 (x11_1 + 1)) t202 t203 t204 t205 t206) = some (r1, r2, r3, r4, r5, r6) := by first | (rw [hy208]; with_reducible exact H) | (have H2_ := (Option.bind_some _ _).symm.trans H; rw [hy208]; with_reducible exact H2_) | (have H2_ := (Option.bind_some _ _).symm.trans H; with_reducible exact H2_) | with_reducible exact H | (rw [hy208]; exact H) | exact H
              have Ny208 := Aside0.mk hy208
              clear hy208
              have H' := Aside0.mk H
              clear H
              have p159 : 0 ≤ (x11_1 : Int) := of_decide_eq_true ua_
              have q159 : x11_1 < (l2.length : Int) := of_decide_eq_true ua_
              obtain ⟨ad159, A159_0, c159_0, e159, hx159_0, hl159_0, hi159_0⟩ := at_L1 HR2.out x11_1 p159 q159
              cases e159
              replace hx159_0 := bc_ HB.out hx159_0
              have HR159_0 := Aside0.mk hi159_0
              have HC159_0 := Aside0.mk hl159_0
              clear hi159_0 hl159_0
              replace p159 := eq_true p159
              replace q159 := eq_true q159
              have p160 : 0 ≤ (0 : Int) := (by omega)
              have q160 : 0 < ((rd_L1 l2 x11_1).length : Int) := of_decide_eq_true ua_
              obtain ⟨ad160, e160, hx160_0⟩ := Kd.at_int HR159_0.out 0 p160 q160
              cases e160
              have qi160 : (0 < (rd_L1 l2 x11_1).length) = True := eq_true (by omega)
              (try rw [show ((0 : Int)).toNat = 0 from rfl] at hx160_0)
              (try rw [Addr.add_zero'] at hx160_0)
              replace hx160_0 := bc_ HB.out hx160_0
              replace p160 := eq_true p160
              replace q160 := eq_true q160
              have hnb104 := NB155_148.out
              have hnc104 := NB148_155.out
              have hcz105_0 := cb_ BK155.out 0 rfl
              have hcz105_1 := cb_ BK155.out 1 rfl
              have hcz105_2 := cb_ BK155.out 2 rfl
              have hcz105_3 := cb_ BK155.out 3 rfl
              have hcz105_4 := cb_ BK155.out 4 rfl
              have hfz105_0 := blk_frozen BK155.out 0
              have hfz105_1 := blk_frozen BK155.out 1
              have hfz105_2 := blk_frozen BK155.out 2
              have hfz105_3 := blk_frozen BK155.out 3
              have hfz105_4 := blk_frozen BK155.out 4
              go_wp2_with (first | ((with_reducible refine gate_callee (f := 134) rfl ?_); refine goesL_ (some 82) rfl rfl Try.func134 (by kernel_rfl) rfl #[.agg #[.int .i64 x156000_1, .int .i64 x156001_1, .int .i64 x156002_1, .bool x156003_1, .bool x156004_1]] rfl ul_ ?_; (with_reducible refine (spec_CloseSource.calls x156000_1 x156001_1 x156002_1 x156003_1 x156004_1 t202 t203 t204 t205 t206 true _ A101.out).mono ?_); rintro e w106 ⟨rfl, hb⟩; refine ⟨_, rfl, ?_⟩; have n0_ := am_ (Kd.R_below (ur_ HO_10.out) hb); have n1_ := am_ (bb_ BK148.out hb); have n2_ := am_ (bb_ BK155.out hb); have n3_ := am_ (below_step (ue_ HB.out) hb); clear HO_10 BK148 BK155 HB; have HO_10 := n0_; have BK148 := n1_; have BK155 := n2_; have HB := n3_; clear n0_ n1_ n2_ n3_; (try clear hb); (try clear hb2); (try clear hk); (try clear hi); obtain ⟨hcz107_0, hcz107_1, hcz107_2, hcz107_3, hcz107_4⟩ := cb5_ BK155.out; obtain ⟨hfz107_0, hfz107_1, hfz107_2, hfz107_3⟩ := bf4_ BK155.out; have hfz107_4 := blk_frozen BK155.out 4) | ((with_reducible refine gate_store (t := 72) (p := 8) rfl ?_); refine store_event (t := 72) (p := 8) (v := ?vo_w108) (w1 := (((((w106.setCell ⟨gb155, 0, none⟩ (.int .i64 t202)).setCell ⟨gb155, 1, none⟩ (.int .i64 t203)).setCell ⟨gb155, 2, none⟩ (.int .i64 t204)).setCell ⟨gb155, 3, none⟩ (.bool t205)).setCell ⟨gb155, 4, none⟩ (.bool t206))) ?hg ?ho ?hn ?hr ?_; (case ho => rfl); (case hg => rfl); (case hn => rfl); (case hr => first | (go_simp; done) | (go_simp; rfl)); intro w108 hw; have n0_ : Aside0 (Kd.R (Kd.int .i64) 3 w108 w.heap.size (fun _ => True) u10 x10_1) := ⟨(by rw [hw]; exact (by (with_reducible repeat (first | apply Kd.R_alloc | apply Kd.R_drewN | apply Kd.R_drew)); exact Kd.R_mono (Kd.R_far (p := ⟨gb155, 4, none⟩) (Kd.R_far (p := ⟨gb155, 3, none⟩) (Kd.R_far (p := ⟨gb155, 2, none⟩) (Kd.R_far (p := ⟨gb155, 1, none⟩) (Kd.R_far (p := ⟨gb155, 0, none⟩) (Kd.R_types HO_10.out BK155.out (by decide)) (fun _ hk => by first | exact hk.2 | grind) (.int .i64 t202)) (fun _ hk => by first | exact hk.2 | grind) (.int .i64 t203)) (fun _ hk => by first | exact hk.2 | grind) (.int .i64 t204)) (fun _ hk => by first | exact hk.2 | grind) (.bool t205)) (fun _ hk => by first | exact hk.2 | grind) (.bool t206)) (fun _ hk => trivial)))⟩; have n1_ : Aside0 (w108.heap[gb148]? = some (.cells #[.int .i64 0, .int .i64 0, .int .i64 0, .bool false, .bool false] 72 (0, 0))) := ⟨(by rw [hw]; exact (uf_ BK148.out))⟩; have n2_ : Aside0 (w108.heap[gb155]? = some (.cells #[.int .i64 t202, .int .i64 t203, .int .i64 t204, .bool t205, .bool t206] 72 (0, 0))) := ⟨(by rw [hw]; exact (by (with_reducible repeat first|apply bn_|apply bd_|apply ba_); refine blk_put (cs := #[.int .i64 t202, .int .i64 t203, .int .i64 t204, .bool t205, .bool x156004_1]) ?_ 4 _ rfl; refine blk_put (cs := #[.int .i64 t202, .int .i64 t203, .int .i64 t204, .bool x156003_1, .bool x156004_1]) ?_ 3 _ rfl; refine blk_put (cs := #[.int .i64 t202, .int .i64 t203, .int .i64 x156002_1, .bool x156003_1, .bool x156004_1]) ?_ 2 _ rfl; refine blk_put (cs := #[.int .i64 t202, .int .i64 x156001_1, .int .i64 x156002_1, .bool x156003_1, .bool x156004_1]) ?_ 1 _ rfl; refine blk_put (cs := #[.int .i64 x156000_1, .int .i64 x156001_1, .int .i64 x156002_1, .bool x156003_1, .bool x156004_1]) ?_ 0 _ rfl; (with_reducible repeat first|apply bn_|apply bd_|apply ba_); exact BK155.out))⟩; have n3_ : Aside0 (Below w.heap.size w w108) := ⟨(by rw [hw]; exact (ue_ HB.out))⟩; clear hw HO_10 BK148 BK155 HB; have HO_10 := n0_; have BK148 := n1_; have BK155 := n2_; have HB := n3_; clear n0_ n1_ n2_ n3_; obtain ⟨hcz109_0, hcz109_1, hcz109_2, hcz109_3, hcz109_4⟩ := cb5_ BK155.out; obtain ⟨hfz109_0, hfz109_1, hfz109_2, hfz109_3⟩ := bf4_ BK155.out; have hfz109_4 := blk_frozen BK155.out 4) | ((with_reducible refine gate_builtin (b := .append) (xs := #[.tmp 88, .tmp 90]) rfl ?_); at_builtin; refine Kd.R_append (Kd.int .i64) (w0 := w) w.heap.size rfl (.tmp 88) (.tmp 90) 22 3 (.int .i64 0) 8 rfl Try.underlying22 info3 rfl (by decide) (by omega) u10 x10_1 t203 [.int .i64 t203] (fun _ => True) (fun _ => False) rfl rfl ?aP (fun _ hk => hk.elim) ?aF ?aO ?aB ?aS ?aL ?_; (case aP => exact rfl); (case aB => exact (ue_ HB.out)); (case aF => exact (fun _ _ => trivial)); (case aO => exact (ur_ HO_10.out)); (case aS => exact (below_size (ue_ HB.out))); (case aL => have := LMc103.out; omega); intro v209 w110 ho hb hg hat; rw [← Ny208.out] at ho; have n0_ := am_ (blk_grown (g := gb148) (o := .cells #[.int .i64 0, .int .i64 0, .int .i64 0, .bool false, .bool false] 72 (0, 0)) (ub_ BK148.out) hg (Kd.R_ne HO_10.out BK148.out (by decide))); have n1_ := am_ (blk_grown (g := gb155) (o := .cells #[.int .i64 t202, .int .i64 t203, .int .i64 t204, .bool t205, .bool t206] 72 (0, 0)) (ub_ BK155.out) hg (Kd.R_ne HO_10.out BK155.out (by decide))); have n2_ := am_ (hb); have n3_ := am_ (ho); clear BK148 BK155 HB HO_10; have BK148 := n0_; have BK155 := n1_; have HB := n2_; have HO210 := n3_; clear n0_ n1_ n2_ n3_; clear ho hb hg hat))
              go_roundg k1
              case measure => have := HK1.out; omega
              case rel => exact ⟨(y208), (wrap64 (x11_1 + 1)), (t202), (t203), (t204), (t205), (t206), (by first | rfl | (simp; done) | (simp [*]; done)), H', ⟨by have := HK1.out; omega⟩, ⟨by (with_reducible repeat (first | apply Kd.R_alloc | apply Kd.R_drewN | apply Kd.R_drew)); exact HO210.out⟩, ⟨by (with_reducible repeat first|apply bn_|apply bd_|apply ba_); exact BK148.out⟩, ⟨by (with_reducible repeat first|apply bn_|apply bd_|apply ba_); exact BK155.out⟩, ⟨ue_ HB.out⟩⟩
             ·
              rw [if_neg c103] at H
              exact absurd H (by simp)
            ·
             replace c102 := Bool.eq_false_iff.mpr c102
             subst c102
             have H1 : (if x10_1.length < 17592186044416 then (spec_PlaySource.l0 k1 a0 a1 l2 (x10_1 ++ [(-2)]) (wrap64 (x11_1 + 1)) t202 t203 t204 t205 t206) else (none)) = some (r1, r2, r3, r4, r5, r6) := by rw [if_neg (show ¬ (false = true) by decide)] at H; exact H
             clear H
             have H := H1
             clear H1
             by_cases c111 : x10_1.length < 17592186044416
             ·
              rw [if_pos c111] at H
              have LMc111 := Aside0.mk c111
              clear c111
              obtain ⟨y211, hy211⟩ : ∃ y_ : List Int, y_ = (x10_1 ++ [(-2)]) := ⟨_, rfl⟩
              replace H : (spec_PlaySource.l0 k1 a0 a1 l2 y211 (wrap64 (x11_1 + 1)) t202 t203 t204 t205 t206) = some (r1, r2, r3, r4, r5, r6) := by first | (rw [hy211]; with_reducible exact H) | (have H2_ := (Option.bind_some _ _).symm.trans H; rw [hy211]; with_reducible exact H2_) | (have H2_ := (Option.bind_some _ _).symm.trans H; with_reducible exact H2_) | with_reducible exact H | (rw [hy211]; exact H) | exact H
              have Ny211 := Aside0.mk hy211
              clear hy211
              have H' := Aside0.mk H
              clear H
              have p159 : 0 ≤ (x11_1 : Int) := of_decide_eq_true ua_
              have q159 : x11_1 < (l2.length : Int) := of_decide_eq_true ua_
              obtain ⟨ad159, A159_0, c159_0, e159, hx159_0, hl159_0, hi159_0⟩ := at_L1 HR2.out x11_1 p159 q159
              cases e159
              replace hx159_0 := bc_ HB.out hx159_0
              have HR159_0 := Aside0.mk hi159_0
              have HC159_0 := Aside0.mk hl159_0
              clear hi159_0 hl159_0
              replace p159 := eq_true p159
              replace q159 := eq_true q159
              have p160 : 0 ≤ (0 : Int) := (by omega)
              have q160 : 0 < ((rd_L1 l2 x11_1).length : Int) := of_decide_eq_true ua_
              obtain ⟨ad160, e160, hx160_0⟩ := Kd.at_int HR159_0.out 0 p160 q160
              cases e160
              have qi160 : (0 < (rd_L1 l2 x11_1).length) = True := eq_true (by omega)
              (try rw [show ((0 : Int)).toNat = 0 from rfl] at hx160_0)
              (try rw [Addr.add_zero'] at hx160_0)
              replace hx160_0 := bc_ HB.out hx160_0
              replace p160 := eq_true p160
              replace q160 := eq_true q160
              have hnb112 := NB155_148.out
              have hnc112 := NB148_155.out
              have hcz113_0 := cb_ BK155.out 0 rfl
              have hcz113_1 := cb_ BK155.out 1 rfl
              have hcz113_2 := cb_ BK155.out 2 rfl
              have hcz113_3 := cb_ BK155.out 3 rfl
              have hcz113_4 := cb_ BK155.out 4 rfl
              have hfz113_0 := blk_frozen BK155.out 0
              have hfz113_1 := blk_frozen BK155.out 1
              have hfz113_2 := blk_frozen BK155.out 2
              have hfz113_3 := blk_frozen BK155.out 3
              have hfz113_4 := blk_frozen BK155.out 4
              go_wp2_with (first | ((with_reducible refine gate_callee (f := 134) rfl ?_); refine goesL_ (some 82) rfl rfl Try.func134 (by kernel_rfl) rfl #[.agg #[.int .i64 x156000_1, .int .i64 x156001_1, .int .i64 x156002_1, .bool x156003_1, .bool x156004_1]] rfl ul_ ?_; (with_reducible refine (spec_CloseSource.calls x156000_1 x156001_1 x156002_1 x156003_1 x156004_1 t202 t203 t204 t205 t206 false _ A101.out).mono ?_); rintro e w114 ⟨rfl, hb⟩; refine ⟨_, rfl, ?_⟩; have n0_ := am_ (Kd.R_below (ur_ HO_10.out) hb); have n1_ := am_ (bb_ BK148.out hb); have n2_ := am_ (bb_ BK155.out hb); have n3_ := am_ (below_step (ue_ HB.out) hb); clear HO_10 BK148 BK155 HB; have HO_10 := n0_; have BK148 := n1_; have BK155 := n2_; have HB := n3_; clear n0_ n1_ n2_ n3_; (try clear hb); (try clear hb2); (try clear hk); (try clear hi); obtain ⟨hcz115_0, hcz115_1, hcz115_2, hcz115_3, hcz115_4⟩ := cb5_ BK155.out; obtain ⟨hfz115_0, hfz115_1, hfz115_2, hfz115_3⟩ := bf4_ BK155.out; have hfz115_4 := blk_frozen BK155.out 4) | ((with_reducible refine gate_store (t := 72) (p := 8) rfl ?_); refine store_event (t := 72) (p := 8) (v := ?vo_w116) (w1 := (((((w114.setCell ⟨gb155, 0, none⟩ (.int .i64 t202)).setCell ⟨gb155, 1, none⟩ (.int .i64 t203)).setCell ⟨gb155, 2, none⟩ (.int .i64 t204)).setCell ⟨gb155, 3, none⟩ (.bool t205)).setCell ⟨gb155, 4, none⟩ (.bool t206))) ?hg ?ho ?hn ?hr ?_; (case ho => rfl); (case hg => rfl); (case hn => rfl); (case hr => first | (go_simp; done) | (go_simp; rfl)); intro w116 hw; have n0_ : Aside0 (Kd.R (Kd.int .i64) 3 w116 w.heap.size (fun _ => True) u10 x10_1) := ⟨(by rw [hw]; exact (by (with_reducible repeat (first | apply Kd.R_alloc | apply Kd.R_drewN | apply Kd.R_drew)); exact Kd.R_mono (Kd.R_far (p := ⟨gb155, 4, none⟩) (Kd.R_far (p := ⟨gb155, 3, none⟩) (Kd.R_far (p := ⟨gb155, 2, none⟩) (Kd.R_far (p := ⟨gb155, 1, none⟩) (Kd.R_far (p := ⟨gb155, 0, none⟩) (Kd.R_types HO_10.out BK155.out (by decide)) (fun _ hk => by first | exact hk.2 | grind) (.int .i64 t202)) (fun _ hk => by first | exact hk.2 | grind) (.int .i64 t203)) (fun _ hk => by first | exact hk.2 | grind) (.int .i64 t204)) (fun _ hk => by first | exact hk.2 | grind) (.bool t205)) (fun _ hk => by first | exact hk.2 | grind) (.bool t206)) (fun _ hk => trivial)))⟩; have n1_ : Aside0 (w116.heap[gb148]? = some (.cells #[.int .i64 0, .int .i64 0, .int .i64 0, .bool false, .bool false] 72 (0, 0))) := ⟨(by rw [hw]; exact (uf_ BK148.out))⟩; have n2_ : Aside0 (w116.heap[gb155]? = some (.cells #[.int .i64 t202, .int .i64 t203, .int .i64 t204, .bool t205, .bool t206] 72 (0, 0))) := ⟨(by rw [hw]; exact (by (with_reducible repeat first|apply bn_|apply bd_|apply ba_); refine blk_put (cs := #[.int .i64 t202, .int .i64 t203, .int .i64 t204, .bool t205, .bool x156004_1]) ?_ 4 _ rfl; refine blk_put (cs := #[.int .i64 t202, .int .i64 t203, .int .i64 t204, .bool x156003_1, .bool x156004_1]) ?_ 3 _ rfl; refine blk_put (cs := #[.int .i64 t202, .int .i64 t203, .int .i64 x156002_1, .bool x156003_1, .bool x156004_1]) ?_ 2 _ rfl; refine blk_put (cs := #[.int .i64 t202, .int .i64 x156001_1, .int .i64 x156002_1, .bool x156003_1, .bool x156004_1]) ?_ 1 _ rfl; refine blk_put (cs := #[.int .i64 x156000_1, .int .i64 x156001_1, .int .i64 x156002_1, .bool x156003_1, .bool x156004_1]) ?_ 0 _ rfl; (with_reducible repeat first|apply bn_|apply bd_|apply ba_); exact BK155.out))⟩; have n3_ : Aside0 (Below w.heap.size w w116) := ⟨(by rw [hw]; exact (ue_ HB.out))⟩; clear hw HO_10 BK148 BK155 HB; have HO_10 := n0_; have BK148 := n1_; have BK155 := n2_; have HB := n3_; clear n0_ n1_ n2_ n3_) | ((with_reducible refine gate_builtin (b := .append) (xs := #[.tmp 88, .tmp 90]) rfl ?_); at_builtin; refine Kd.R_append (Kd.int .i64) (w0 := w) w.heap.size rfl (.tmp 88) (.tmp 90) 22 3 (.int .i64 0) 8 rfl Try.underlying22 info3 rfl (by decide) (by omega) u10 x10_1 (-2) [.int .i64 (-2)] (fun _ => True) (fun _ => False) rfl rfl ?aP (fun _ hk => hk.elim) ?aF ?aO ?aB ?aS ?aL ?_; (case aP => exact rfl); (case aB => exact (ue_ HB.out)); (case aF => exact (fun _ _ => trivial)); (case aO => exact (ur_ HO_10.out)); (case aS => exact (below_size (ue_ HB.out))); (case aL => have := LMc111.out; omega); intro v212 w117 ho hb hg hat; rw [← Ny211.out] at ho; have n0_ := am_ (blk_grown (g := gb148) (o := .cells #[.int .i64 0, .int .i64 0, .int .i64 0, .bool false, .bool false] 72 (0, 0)) (ub_ BK148.out) hg (Kd.R_ne HO_10.out BK148.out (by decide))); have n1_ := am_ (blk_grown (g := gb155) (o := .cells #[.int .i64 t202, .int .i64 t203, .int .i64 t204, .bool t205, .bool t206] 72 (0, 0)) (ub_ BK155.out) hg (Kd.R_ne HO_10.out BK155.out (by decide))); have n2_ := am_ (hb); have n3_ := am_ (ho); clear BK148 BK155 HB HO_10; have BK148 := n0_; have BK155 := n1_; have HB := n2_; have HO213 := n3_; clear n0_ n1_ n2_ n3_; clear ho hb hg hat))
              go_roundg k1
              case measure => have := HK1.out; omega
              case rel => exact ⟨(y211), (wrap64 (x11_1 + 1)), (t202), (t203), (t204), (t205), (t206), (by first | rfl | (simp; done) | (simp [*]; done)), H', ⟨by have := HK1.out; omega⟩, ⟨by (with_reducible repeat (first | apply Kd.R_alloc | apply Kd.R_drewN | apply Kd.R_drew)); exact HO213.out⟩, ⟨by (with_reducible repeat first|apply bn_|apply bd_|apply ba_); exact BK148.out⟩, ⟨by (with_reducible repeat first|apply bn_|apply bd_|apply ba_); exact BK155.out⟩, ⟨ue_ HB.out⟩⟩
             ·
              rw [if_neg c111] at H
              exact absurd H (by simp)
           ·
            rw [if_neg c100] at H
            have c100b0 : ((rd (rd_L1 l2 x11_1) 0) == 3) = false := beq_eq_false_iff_ne.mpr c100
            have c100b1 : ((rd (rd_L1 l2 x11_1) 0) != 3) = true := bne_iff_ne.mpr c100
            by_cases c118 : x10_1.length < 17592186044416
            ·
             rw [if_pos c118] at H
             have LMc118 := Aside0.mk c118
             clear c118
             obtain ⟨y214, hy214⟩ : ∃ y_ : List Int, y_ = (x10_1 ++ [(-2)]) := ⟨_, rfl⟩
             replace H : (spec_PlaySource.l0 k1 a0 a1 l2 y214 (wrap64 (x11_1 + 1)) x156000_1 x156001_1 x156002_1 x156003_1 x156004_1) = some (r1, r2, r3, r4, r5, r6) := by first | (rw [hy214]; with_reducible exact H) | (have H2_ := (Option.bind_some _ _).symm.trans H; rw [hy214]; with_reducible exact H2_) | (have H2_ := (Option.bind_some _ _).symm.trans H; with_reducible exact H2_) | with_reducible exact H | (rw [hy214]; exact H) | exact H
             have Ny214 := Aside0.mk hy214
             clear hy214
             have H' := Aside0.mk H
             clear H
             have p159 : 0 ≤ (x11_1 : Int) := of_decide_eq_true ua_
             have q159 : x11_1 < (l2.length : Int) := of_decide_eq_true ua_
             obtain ⟨ad159, A159_0, c159_0, e159, hx159_0, hl159_0, hi159_0⟩ := at_L1 HR2.out x11_1 p159 q159
             cases e159
             replace hx159_0 := bc_ HB.out hx159_0
             have HR159_0 := Aside0.mk hi159_0
             have HC159_0 := Aside0.mk hl159_0
             clear hi159_0 hl159_0
             replace p159 := eq_true p159
             replace q159 := eq_true q159
             have p160 : 0 ≤ (0 : Int) := (by omega)
             have q160 : 0 < ((rd_L1 l2 x11_1).length : Int) := of_decide_eq_true ua_
             obtain ⟨ad160, e160, hx160_0⟩ := Kd.at_int HR159_0.out 0 p160 q160
             cases e160
             have qi160 : (0 < (rd_L1 l2 x11_1).length) = True := eq_true (by omega)
             (try rw [show ((0 : Int)).toNat = 0 from rfl] at hx160_0)
             (try rw [Addr.add_zero'] at hx160_0)
             replace hx160_0 := bc_ HB.out hx160_0
             replace p160 := eq_true p160
             replace q160 := eq_true q160
             go_wp2_with (first | ((with_reducible refine gate_builtin (b := .append) (xs := #[.tmp 88, .tmp 90]) rfl ?_); at_builtin; refine Kd.R_append (Kd.int .i64) (w0 := w) w.heap.size rfl (.tmp 88) (.tmp 90) 22 3 (.int .i64 0) 8 rfl Try.underlying22 info3 rfl (by decide) (by omega) u10 x10_1 (-2) [.int .i64 (-2)] (fun _ => True) (fun _ => False) rfl rfl ?aP (fun _ hk => hk.elim) ?aF ?aO ?aB ?aS ?aL ?_; (case aP => exact rfl); (case aB => exact (ue_ HB.out)); (case aF => exact (fun _ _ => trivial)); (case aO => exact (ur_ HO_10.out)); (case aS => exact (below_size (ue_ HB.out))); (case aL => have := LMc118.out; omega); intro v215 w119 ho hb hg hat; rw [← Ny214.out] at ho; have n0_ := am_ (blk_grown (g := gb148) (o := .cells #[.int .i64 0, .int .i64 0, .int .i64 0, .bool false, .bool false] 72 (0, 0)) (ub_ BK148.out) hg (Kd.R_ne HO_10.out BK148.out (by decide))); have n1_ := am_ (blk_grown (g := gb155) (o := .cells #[.int .i64 x156000_1, .int .i64 x156001_1, .int .i64 x156002_1, .bool x156003_1, .bool x156004_1] 72 (0, 0)) (ub_ BK155.out) hg (Kd.R_ne HO_10.out BK155.out (by decide))); have n2_ := am_ (hb); have n3_ := am_ (ho); clear BK148 BK155 HB HO_10; have BK148 := n0_; have BK155 := n1_; have HB := n2_; have HO216 := n3_; clear n0_ n1_ n2_ n3_; clear ho hb hg hat))
             go_roundg k1
             case measure => have := HK1.out; omega
             case rel => exact ⟨(y214), (wrap64 (x11_1 + 1)), (x156000_1), (x156001_1), (x156002_1), (x156003_1), (x156004_1), (by first | rfl | (simp; done) | (simp [*]; done)), H', ⟨by have := HK1.out; omega⟩, ⟨by (with_reducible repeat (first | apply Kd.R_alloc | apply Kd.R_drewN | apply Kd.R_drew)); exact HO216.out⟩, ⟨by (with_reducible repeat first|apply bn_|apply bd_|apply ba_); exact BK148.out⟩, ⟨by (with_reducible repeat first|apply bn_|apply bd_|apply ba_); exact BK155.out⟩, ⟨ue_ HB.out⟩⟩
            ·
             rw [if_neg c118] at H
             exact absurd H (by simp)
       ·
        rw [if_neg c25] at H
        exact absurd H (by simp)
      ·
       rw [if_neg c24] at H
       have c24b0 : (((rd_L1 l2 x11_1).length : Int) == 3) = false := beq_eq_false_iff_ne.mpr c24
       have c24b1 : (((rd_L1 l2 x11_1).length : Int) != 3) = true := bne_iff_ne.mpr c24
       by_cases c120 : x10_1.length < 17592186044416
       ·
        rw [if_pos c120] at H
        have LMc120 := Aside0.mk c120
        clear c120
        obtain ⟨y217, hy217⟩ : ∃ y_ : List Int, y_ = (x10_1 ++ [(-2)]) := ⟨_, rfl⟩
        replace H : (spec_PlaySource.l0 k1 a0 a1 l2 y217 (wrap64 (x11_1 + 1)) x156000_1 x156001_1 x156002_1 x156003_1 x156004_1) = some (r1, r2, r3, r4, r5, r6) := by first | (rw [hy217]; with_reducible exact H) | (have H2_ := (Option.bind_some _ _).symm.trans H; rw [hy217]; with_reducible exact H2_) | (have H2_ := (Option.bind_some _ _).symm.trans H; with_reducible exact H2_) | with_reducible exact H | (rw [hy217]; exact H) | exact H
        have Ny217 := Aside0.mk hy217
        clear hy217
        have H' := Aside0.mk H
        clear H
        have p159 : 0 ≤ (x11_1 : Int) := of_decide_eq_true ua_
        have q159 : x11_1 < (l2.length : Int) := of_decide_eq_true ua_
        obtain ⟨ad159, A159_0, c159_0, e159, hx159_0, hl159_0, hi159_0⟩ := at_L1 HR2.out x11_1 p159 q159
        cases e159
        replace hx159_0 := bc_ HB.out hx159_0
        have HR159_0 := Aside0.mk hi159_0
        have HC159_0 := Aside0.mk hl159_0
        clear hi159_0 hl159_0
        replace p159 := eq_true p159
        replace q159 := eq_true q159
        go_wp2_with (first | ((with_reducible refine gate_builtin (b := .append) (xs := #[.tmp 88, .tmp 90]) rfl ?_); at_builtin; refine Kd.R_append (Kd.int .i64) (w0 := w) w.heap.size rfl (.tmp 88) (.tmp 90) 22 3 (.int .i64 0) 8 rfl Try.underlying22 info3 rfl (by decide) (by omega) u10 x10_1 (-2) [.int .i64 (-2)] (fun _ => True) (fun _ => False) rfl rfl ?aP (fun _ hk => hk.elim) ?aF ?aO ?aB ?aS ?aL ?_; (case aP => exact rfl); (case aB => exact (ue_ HB.out)); (case aF => exact (fun _ _ => trivial)); (case aO => exact (ur_ HO_10.out)); (case aS => exact (below_size (ue_ HB.out))); (case aL => have := LMc120.out; omega); intro v218 w121 ho hb hg hat; rw [← Ny217.out] at ho; have n0_ := am_ (blk_grown (g := gb148) (o := .cells #[.int .i64 0, .int .i64 0, .int .i64 0, .bool false, .bool false] 72 (0, 0)) (ub_ BK148.out) hg (Kd.R_ne HO_10.out BK148.out (by decide))); have n1_ := am_ (blk_grown (g := gb155) (o := .cells #[.int .i64 x156000_1, .int .i64 x156001_1, .int .i64 x156002_1, .bool x156003_1, .bool x156004_1] 72 (0, 0)) (ub_ BK155.out) hg (Kd.R_ne HO_10.out BK155.out (by decide))); have n2_ := am_ (hb); have n3_ := am_ (ho); clear BK148 BK155 HB HO_10; have BK148 := n0_; have BK155 := n1_; have HB := n2_; have HO219 := n3_; clear n0_ n1_ n2_ n3_; clear ho hb hg hat))
        go_roundg k1
        case measure => have := HK1.out; omega
        case rel => exact ⟨(y217), (wrap64 (x11_1 + 1)), (x156000_1), (x156001_1), (x156002_1), (x156003_1), (x156004_1), (by first | rfl | (simp; done) | (simp [*]; done)), H', ⟨by have := HK1.out; omega⟩, ⟨by (with_reducible repeat (first | apply Kd.R_alloc | apply Kd.R_drewN | apply Kd.R_drew)); exact HO219.out⟩, ⟨by (with_reducible repeat first|apply bn_|apply bd_|apply ba_); exact BK148.out⟩, ⟨by (with_reducible repeat first|apply bn_|apply bd_|apply ba_); exact BK155.out⟩, ⟨ue_ HB.out⟩⟩
       ·
        rw [if_neg c120] at H
        exact absurd H (by simp)
     ·
      rw [if_neg c23] at H
      exact absurd H (by simp)
    ·
     rw [if_neg c22] at H
     have c22b0 : decide (x11_1 < (l2.length : Int)) = false := decide_eq_false c22
     clear c22
     simp only [Option.some.injEq, Prod.mk.injEq] at H
     obtain ⟨rfl, rfl, rfl, rfl, rfl, rfl⟩ := H
     have hnb122 := NB155_148.out
     have hnc122 := NB148_155.out
     have hcz123_0 := cb_ BK155.out 0 rfl
     have hcz123_1 := cb_ BK155.out 1 rfl
     have hcz123_2 := cb_ BK155.out 2 rfl
     have hcz123_3 := cb_ BK155.out 3 rfl
     have hcz123_4 := cb_ BK155.out 4 rfl
     have hfz123_0 := blk_frozen BK155.out 0
     have hfz123_1 := blk_frozen BK155.out 1
     have hfz123_2 := blk_frozen BK155.out 2
     have hfz123_3 := blk_frozen BK155.out 3
     have hfz123_4 := blk_frozen BK155.out 4
     have hcz124_0 := cb_ BK148.out 0 rfl
     have hcz124_1 := cb_ BK148.out 1 rfl
     have hcz124_2 := cb_ BK148.out 2 rfl
     have hcz124_3 := cb_ BK148.out 3 rfl
     have hcz124_4 := cb_ BK148.out 4 rfl
     have hfz124_0 := blk_frozen BK148.out 0
     have hfz124_1 := blk_frozen BK148.out 1
     have hfz124_2 := blk_frozen BK148.out 2
     have hfz124_3 := blk_frozen BK148.out 3
     have hfz124_4 := blk_frozen BK148.out 4
     go_wp2_with (first | ((with_reducible refine gate_store (t := 72) (p := 6) rfl ?_); refine store_event (t := 72) (p := 6) (v := ?vo_w125) (w1 := (((((wr.setCell ⟨gb148, 0, none⟩ (.int .i64 x156000_1)).setCell ⟨gb148, 1, none⟩ (.int .i64 x156001_1)).setCell ⟨gb148, 2, none⟩ (.int .i64 x156002_1)).setCell ⟨gb148, 3, none⟩ (.bool x156003_1)).setCell ⟨gb148, 4, none⟩ (.bool x156004_1))) ?hg ?ho ?hn ?hr ?_; (case ho => rfl); (case hg => rfl); (case hn => rfl); (case hr => first | (go_simp; done) | (go_simp; rfl)); intro w125 hw; have n0_ : Aside0 (Kd.R (Kd.int .i64) 3 w125 w.heap.size (fun _ => True) u10 x10_1) := ⟨(by rw [hw]; exact (by (with_reducible repeat (first | apply Kd.R_alloc | apply Kd.R_drewN | apply Kd.R_drew)); exact Kd.R_mono (Kd.R_far (p := ⟨gb148, 4, none⟩) (Kd.R_far (p := ⟨gb148, 3, none⟩) (Kd.R_far (p := ⟨gb148, 2, none⟩) (Kd.R_far (p := ⟨gb148, 1, none⟩) (Kd.R_far (p := ⟨gb148, 0, none⟩) (Kd.R_types HO_10.out BK148.out (by decide)) (fun _ hk => by first | exact hk.2 | grind) (.int .i64 x156000_1)) (fun _ hk => by first | exact hk.2 | grind) (.int .i64 x156001_1)) (fun _ hk => by first | exact hk.2 | grind) (.int .i64 x156002_1)) (fun _ hk => by first | exact hk.2 | grind) (.bool x156003_1)) (fun _ hk => by first | exact hk.2 | grind) (.bool x156004_1)) (fun _ hk => trivial)))⟩; have n1_ : Aside0 (w125.heap[gb148]? = some (.cells #[.int .i64 x156000_1, .int .i64 x156001_1, .int .i64 x156002_1, .bool x156003_1, .bool x156004_1] 72 (0, 0))) := ⟨(by rw [hw]; exact (by (with_reducible repeat first|apply bn_|apply bd_|apply ba_); refine blk_put (cs := #[.int .i64 x156000_1, .int .i64 x156001_1, .int .i64 x156002_1, .bool x156003_1, .bool false]) ?_ 4 _ rfl; refine blk_put (cs := #[.int .i64 x156000_1, .int .i64 x156001_1, .int .i64 x156002_1, .bool false, .bool false]) ?_ 3 _ rfl; refine blk_put (cs := #[.int .i64 x156000_1, .int .i64 x156001_1, .int .i64 0, .bool false, .bool false]) ?_ 2 _ rfl; refine blk_put (cs := #[.int .i64 x156000_1, .int .i64 0, .int .i64 0, .bool false, .bool false]) ?_ 1 _ rfl; refine blk_put (cs := #[.int .i64 0, .int .i64 0, .int .i64 0, .bool false, .bool false]) ?_ 0 _ rfl; (with_reducible repeat first|apply bn_|apply bd_|apply ba_); exact BK148.out))⟩; have n2_ : Aside0 (w125.heap[gb155]? = some (.cells #[.int .i64 x156000_1, .int .i64 x156001_1, .int .i64 x156002_1, .bool x156003_1, .bool x156004_1] 72 (0, 0))) := ⟨(by rw [hw]; exact (uf_ BK155.out))⟩; have n3_ : Aside0 (Below w.heap.size w w125) := ⟨(by rw [hw]; exact (ue_ HB.out))⟩; clear hw HO_10 BK148 BK155 HB; have HO_10 := n0_; have BK148 := n1_; have BK155 := n2_; have HB := n3_; clear n0_ n1_ n2_ n3_))
     refine bodyPost_ret (results_ct rfl _ _ gb148 72 #[.int .i64 x156000_1, .int .i64 x156001_1, .int .i64 x156002_1, .bool x156003_1, .bool x156004_1] (0, 0) _ rfl (ub_ BK148.out) Try.underlying72 rfl (by kernel_rfl)) rfl ?_
     exact ⟨_, ew_, by (with_reducible repeat (first | apply Kd.R_alloc | apply Kd.R_drewN | apply Kd.R_drew)); exact HO_10.out, ue_ HB.out⟩

end Go.Proofs.Ytcflalomjehiiaa.QFnExactPlaySource
