/- The machine side of a law: Lean functions with the Go functions' answers and the walks that show it. No condition. -/
import Derived.Test.YtcflalomjehiiaaQFnExactRaiseMarkx0
namespace Go.Proofs.Ytcflalomjehiiaa.QFnExactRaiseMark
open Go.RowKit Go.Proofs.YtcflalomjehiiaaW.PrintWords Go.Proofs.YtcflalomjehiiaaW.PrintLast Go.Proofs.YtcflalomjehiiaaW.PrintMore
attribute [local go_sem] max2_int min2_int max_two min_two max_three min_three max_four min_four   -- for this text's walks alone
set_option linter.unusedVariables false
set_option linter.unusedSimpArgs false

/-! ### laws_szAggS: function 92 -/
def laws_szAggS.f (l0 : List (S152)) (a1 : Int) : Option (Int) := if (wrap64 (a1 - (l0.length : Int))) < 0 then (some (-1)) else (some (wrap64 (a1 - (l0.length : Int))))
set_option maxHeartbeats 8000000 in
set_option maxRecDepth 100000 in
theorem laws_szAggS.calls (A0 : Option Addr) (c0 : Nat) (l0 : List (S152)) (a1 : Int) (r : Int) (w : World) (hr0 : Kd.C k152 w A0 l0.length l0) (hc0 : l0.length ≤ c0) (h : laws_szAggS.f l0 a1 = some r) :
  Calls Try.prog 92 #[.slice A0 l0.length c0, .int .i64 a1] w fun e w' => e = .returned (.int .i64 r) ∧ Drawn0 w w' := by
 have HR0 := Aside0.mk hr0
 have HC0 := Aside0.mk hc0
 clear hr0 hc0
 have H : (if (wrap64 (a1 - (l0.length : Int))) < 0 then (some (-1)) else (some (wrap64 (a1 - (l0.length : Int))))) = some r := h
 clear h
 by_cases c3 : (wrap64 (a1 - (l0.length : Int))) < 0
 ·
  rw [if_pos c3] at H
  have c3b0 : decide ((wrap64 (a1 - (l0.length : Int))) < 0) = true := decide_eq_true c3
  clear c3
  obtain rfl := Option.some.inj H
  go_enter Try.func92, Try.ntmps92
  go_wp2
  go_ret
  exact ⟨by first | rfl | (simp; done) | (simp [*]; done), by repeat (first | exact Drawn0.refl _ | apply Drawn0.step)⟩
 ·
  rw [if_neg c3] at H
  have c3b0 : decide ((wrap64 (a1 - (l0.length : Int))) < 0) = false := decide_eq_false c3
  clear c3
  obtain rfl := Option.some.inj H
  go_enter Try.func92, Try.ntmps92
  go_wp2
  go_ret
  exact ⟨by first | rfl | (simp; done) | (simp [*]; done), by repeat (first | exact Drawn0.refl _ | apply Drawn0.step)⟩

/-! ### laws_szShard: function 24 -/
def laws_szShard.f (l0_0 : List (S152)) (a0_1 : Int) (a0_2 : Int) (a0_3 : Int) (a1 : Int) : Option (Int) := (laws_szAggS.f l0_0 a1).bind fun t102 => (if t102 < 0 then (some (-1)) else (some t102))
set_option maxHeartbeats 8000000 in
set_option maxRecDepth 100000 in
theorem laws_szShard.calls (A0_0 : Option Addr) (c0_0 : Nat) (l0_0 : List (S152)) (a0_1 : Int) (a0_2 : Int) (a0_3 : Int) (a1 : Int) (r : Int) (w : World) (hr0_0 : Kd.C k152 w A0_0 l0_0.length l0_0) (hc0_0 : l0_0.length ≤ c0_0) (h : laws_szShard.f l0_0 a0_1 a0_2 a0_3 a1 = some r) :
  Calls Try.prog 24 #[.agg #[.slice A0_0 l0_0.length c0_0, .int .i64 a0_1, .int .i64 a0_2, .int .i64 a0_3], .int .i64 a1] w fun e w' => e = .returned (.int .i64 r) ∧ Below w.heap.size w w' := by
 have hu38 := Try.underlying38
 have HR0_0 := Aside0.mk hr0_0
 have HC0_0 := Aside0.mk hc0_0
 clear hr0_0 hc0_0
 have HB := am_ (Below.refl w.heap.size w)
 have H : ((laws_szAggS.f l0_0 a1).bind fun t102 => (if t102 < 0 then (some (-1)) else (some t102))) = some r := h
 clear h
 replace H := Option.bind_eq_some_iff.mp H
 obtain ⟨t102, A30, H⟩ := H
 replace H : (if t102 < 0 then (some (-1)) else (some t102)) = some r := H
 have A3 := Aside0.mk A30
 clear A30
 by_cases c4 : t102 < 0
 ·
  rw [if_pos c4] at H
  have c4b0 : decide (t102 < 0) = true := decide_eq_true c4
  clear c4
  obtain rfl := Option.some.inj H
  go_enter Try.func24, Try.ntmps24
  go_wp2_with (first | ((with_reducible refine gate_dst (N := 2) rfl ?_); refine box_event ?hg (N := 2) ?hd (cs := #[.slice A0_0 l0_0.length c0_0, .int .i64 a0_1, .int .i64 a0_2, .int .i64 a0_3]) (t := 38) ?hr ?_; (case hd => rfl); (case hg => rfl); (case hr => first | (go_simp; done) | (go_simp; rfl)); intro gb101 hg w5 hbox hb; have n0_ := am_ (below_step (ue_ HB.out) hb); have n1_ := am_ (hbox); have n2_ := am_ ((by rw [hg]; exact (below_size (ue_ HB.out)) : w.heap.size ≤ gb101)); have n3_ := am_ ((by rw [hg]; exact (below_size (ue_ HB.out)) : w.heap.size ≤ gb101)); clear HB; have HB := n0_; have BK101 := n1_; have GW101 := n2_; have GE101 := n3_; clear n0_ n1_ n2_ n3_; clear hb hbox hg; obtain ⟨hcz6_0, hcz6_1, hcz6_2, hcz6_3⟩ := cb4_ BK101.out; obtain ⟨hfz6_0, hfz6_1, hfz6_2⟩ := bf3_ BK101.out; have hfz6_3 := blk_frozen BK101.out 3) | ((with_reducible refine gate_callee (f := 92) rfl ?_); refine goesL_ (some 8) rfl rfl Try.func92 (by kernel_rfl) rfl #[.slice A0_0 l0_0.length c0_0, .int .i64 a1] rfl ul_ ?_; (with_reducible refine (laws_szAggS.calls _ _ l0_0 a1 t102 _ ?side1 ?side2 A3.out).mono ?_); (case side1 => repeat (first | exact (Kd.C_below HR0_0.out HB.out) | (with_reducible refine Kd.C_alloc ?_ _) | (with_reducible refine Kd.C_drewN ?_ _) | (with_reducible refine Kd.C_drew ?_))); (case side2 => exact HC0_0.out); rintro e w' ⟨rfl, ⟨nd, rfl⟩⟩; refine ⟨_, rfl, ?_⟩))
  go_ret
  exact ⟨ew_, ue_ HB.out⟩
 ·
  rw [if_neg c4] at H
  have c4b0 : decide (t102 < 0) = false := decide_eq_false c4
  clear c4
  obtain rfl := Option.some.inj H
  go_enter Try.func24, Try.ntmps24
  go_wp2_with (first | ((with_reducible refine gate_dst (N := 2) rfl ?_); refine box_event ?hg (N := 2) ?hd (cs := #[.slice A0_0 l0_0.length c0_0, .int .i64 a0_1, .int .i64 a0_2, .int .i64 a0_3]) (t := 38) ?hr ?_; (case hd => rfl); (case hg => rfl); (case hr => first | (go_simp; done) | (go_simp; rfl)); intro gb101 hg w7 hbox hb; have n0_ := am_ (below_step (ue_ HB.out) hb); have n1_ := am_ (hbox); have n2_ := am_ ((by rw [hg]; exact (below_size (ue_ HB.out)) : w.heap.size ≤ gb101)); have n3_ := am_ ((by rw [hg]; exact (below_size (ue_ HB.out)) : w.heap.size ≤ gb101)); clear HB; have HB := n0_; have BK101 := n1_; have GW101 := n2_; have GE101 := n3_; clear n0_ n1_ n2_ n3_; clear hb hbox hg; obtain ⟨hcz8_0, hcz8_1, hcz8_2, hcz8_3⟩ := cb4_ BK101.out; obtain ⟨hfz8_0, hfz8_1, hfz8_2⟩ := bf3_ BK101.out; have hfz8_3 := blk_frozen BK101.out 3) | ((with_reducible refine gate_callee (f := 92) rfl ?_); refine goesL_ (some 8) rfl rfl Try.func92 (by kernel_rfl) rfl #[.slice A0_0 l0_0.length c0_0, .int .i64 a1] rfl ul_ ?_; (with_reducible refine (laws_szAggS.calls _ _ l0_0 a1 t102 _ ?side1 ?side2 A3.out).mono ?_); (case side1 => repeat (first | exact (Kd.C_below HR0_0.out HB.out) | (with_reducible refine Kd.C_alloc ?_ _) | (with_reducible refine Kd.C_drewN ?_ _) | (with_reducible refine Kd.C_drew ?_))); (case side2 => exact HC0_0.out); rintro e w' ⟨rfl, ⟨nd, rfl⟩⟩; refine ⟨_, rfl, ?_⟩))
  go_ret
  exact ⟨ew_, ue_ HB.out⟩

/-! ### spec_l05Copy: function 93 -/
def spec_l05Copy.l0 : Nat → Int → List (S80) → Int → Int → Int → List (S80) → Int → Int → Int → Option ((List (S80)) × Int × Int × Int)
 | 0, _, _, _, _, _, _, _, _, _ => none
 | k + 1, x4, x104000, x104001, x104002, x104003, x106000, x106001, x106002, x106003 => if x4 < (x104000.length : Int) then (if 0 ≤ x4 then (if x106000.length < 2932031007402 then (spec_l05Copy.l0 k (wrap64 (x4 + 1)) x104000 x104001 x104002 x104003 (x106000 ++ [(⟨(rd_T80 x104000 x4).f0, (rd_T80 x104000 x4).f1, (rd_T80 x104000 x4).f2, (rd_T80 x104000 x4).f3, (rd_T80 x104000 x4).f4, (rd_T80 x104000 x4).f5⟩ : S80)]) x106001 x106002 x106003) else (none)) else (none)) else (some (x106000, x106001, x106002, x106003))
def spec_l05Copy.f (k : Nat) (l0_0 : List (S80)) (a0_1 : Int) (a0_2 : Int) (a0_3 : Int) : Option ((List (S80)) × Int × Int × Int) := spec_l05Copy.l0 k 0 l0_0 a0_1 a0_2 a0_3 ([] : List (S80)) a0_1 a0_2 a0_3
theorem spec_l05Copy.mono_l : ∀ k, (∀ y0 y1 y2 y3 y4 y5 y6 y7 y8, LeO (spec_l05Copy.l0 k y0 y1 y2 y3 y4 y5 y6 y7 y8) (spec_l05Copy.l0 (k + 1) y0 y1 y2 y3 y4 y5 y6 y7 y8))
 | 0 => fun _ _ _ _ _ _ _ _ _ r h => by simp [spec_l05Copy.l0] at h
 | k + 1 => by
  have ih0 := spec_l05Copy.mono_l k
  ·
   intro y0 y1 y2 y3 y4 y5 y6 y7 y8
   unfold spec_l05Copy.l0
   repeat' first
   | (with_reducible exact ih0 _ _ _ _ _ _ _ _ _)
   | (with_reducible exact LeO.refl _)
   | (with_reducible exact LeO.none _)
   | (with_reducible refine LeO.ite ?_ ?_)
   | (with_reducible refine LeO.bind ?_ (fun _ => ?_))
   | exact ih0 _ _ _ _ _ _ _ _ _
   | exact LeO.none _
   | refine LeO.ite ?_ ?_
   | refine LeO.bind ?_ (fun _ => ?_)
theorem spec_l05Copy.mono : ∀ a0 a1 a2 a3 k, LeO (spec_l05Copy.f k a0 a1 a2 a3) (spec_l05Copy.f (k + 1) a0 a1 a2 a3) := by
 intro a0 a1 a2 a3 k
 have ih0 := spec_l05Copy.mono_l k
 unfold spec_l05Copy.f
 repeat' first
   | (with_reducible exact ih0 _ _ _ _ _ _ _ _ _)
   | (with_reducible exact LeO.refl _)
   | (with_reducible exact LeO.none _)
   | (with_reducible refine LeO.ite ?_ ?_)
   | (with_reducible refine LeO.bind ?_ (fun _ => ?_))
   | exact ih0 _ _ _ _ _ _ _ _ _
   | exact LeO.none _
   | refine LeO.ite ?_ ?_
   | refine LeO.bind ?_ (fun _ => ?_)
def spec_l05Copy.T5 : Bool × List (List Nat × List Nat) := (true, [([], []), ([0], [0]), ([], []), ([2], [2]), ([], []), ([3, 4], [3, 4]), ([5], [5]), ([6], [6]), ([1, 7], [1, 7]), ([0, 1, 2, 3, 4, 5, 6, 7, 8], []), ([9, 8, 8, 0, 1, 2, 3, 4, 5, 6, 7, 8], [8, 9])])
def spec_l05Copy.B5 : List Nat := [0, 1, 0, 4, 0, 28, 60, 124, 255, 511, 1023]
theorem spec_l05Copy.tab5 : rtab .any (opsOf Try.f93 5) = spec_l05Copy.T5 := by kernel_rfl
theorem spec_l05Copy.bits5 : waitsOk spec_l05Copy.T5.2 spec_l05Copy.B5 = true := by kernel_rfl
set_option maxHeartbeats 8000000 in
set_option maxRecDepth 100000 in
theorem spec_l05Copy.calls (k : Nat) (A0_0 : Option Addr) (c0_0 : Nat) (l0_0 : List (S80)) (a0_1 : Int) (a0_2 : Int) (a0_3 : Int) (r1 : List (S80)) (r2 : Int) (r3 : Int) (r4 : Int) (w : World) (hr0_0 : Kd.C k80 w A0_0 l0_0.length l0_0) (hc0_0 : l0_0.length ≤ c0_0) (h : spec_l05Copy.f k l0_0 a0_1 a0_2 a0_3 = some (r1, r2, r3, r4)) :
  Calls Try.prog 93 #[.agg #[.slice A0_0 l0_0.length c0_0, .int .i64 a0_1, .int .i64 a0_2, .int .i64 a0_3]] w fun e w' => ∃ v0_ : Value, e = .returned (.agg #[v0_, .int .i64 r2, .int .i64 r3, .int .i64 r4]) ∧ Kd.R k80 80 w' w.heap.size (fun _ => True) v0_ r1 ∧ Below w.heap.size w w' := by
 have hu42 := Try.underlying42
 have hu80 := Try.underlying80
 have HR0_0 := Aside0.mk hr0_0
 have HC0_0 := Aside0.mk hc0_0
 clear hr0_0 hc0_0
 have HB := am_ (Below.refl w.heap.size w)
 have H : (spec_l05Copy.l0 k 0 l0_0 a0_1 a0_2 a0_3 ([] : List (S80)) a0_1 a0_2 a0_3) = some (r1, r2, r3, r4) := h
 clear h
 have H' := Aside0.mk H
 clear H
 go_enter Try.func93, Try.ntmps93
 go_wp2_with (first | ((with_reducible refine gate_dst (N := 1) rfl ?_); refine box_event ?hg (N := 1) ?hd (cs := #[.slice A0_0 l0_0.length c0_0, .int .i64 a0_1, .int .i64 a0_2, .int .i64 a0_3]) (t := 42) ?hr ?_; (case hd => rfl); (case hg => rfl); (case hr => first | (go_simp; done) | (go_simp; rfl)); intro gb103 hg w2 hbox hb; have n0_ := am_ (below_step (ue_ HB.out) hb); have n1_ := am_ (hbox); have n2_ := am_ ((by rw [hg]; exact (below_size (ue_ HB.out)) : w.heap.size ≤ gb103)); have n3_ := am_ ((by rw [hg]; exact (below_size (ue_ HB.out)) : w.heap.size ≤ gb103)); clear HB; have HB := n0_; have BK103 := n1_; have GW103 := n2_; have GE103 := n3_; clear n0_ n1_ n2_ n3_; clear hb hbox hg) | ((with_reducible refine gate_dst (N := 2) rfl ?_); refine box_event ?hg (N := 2) ?hd (cs := #[.slice none 0 0, .int .i64 0, .int .i64 0, .int .i64 0]) (t := 42) ?hr ?_; (case hd => rfl); (case hg => rfl); (case hr => first | (go_simp; done) | (go_simp; rfl)); intro gb104 hg w3 hbox hb; have n0_ := am_ (bb_ BK103.out hb); have n1_ := am_ (below_step (ue_ HB.out) hb); have n2_ := am_ (hbox); have n3_ := am_ ((by rw [hg]; exact (below_size (ue_ HB.out)) : w.heap.size ≤ gb104)); have n4_ := am_ ((by rw [hg]; exact (below_size (ue_ HB.out)) : w.heap.size ≤ gb104)); have n5_ := am_ ((by rw [hg]; exact Nat.ne_of_lt (bl_ BK103.out) : gb103 ≠ gb104)); have n6_ := am_ ((by rw [hg]; exact Nat.ne_of_gt (bl_ BK103.out) : gb104 ≠ gb103)); clear BK103 HB; have BK103 := n0_; have HB := n1_; have BK104 := n2_; have GW104 := n3_; have GE104 := n4_; have NB103_104 := n5_; have NB104_103 := n6_; clear n0_ n1_ n2_ n3_ n4_ n5_ n6_; clear hb hbox hg; have hnb4 := NB103_104.out; have hnc4 := NB104_103.out; obtain ⟨hcz5_0, hcz5_1, hcz5_2, hcz5_3⟩ := cb4_ BK103.out; obtain ⟨hfz5_0, hfz5_1, hfz5_2⟩ := bf3_ BK103.out; have hfz5_3 := blk_frozen BK103.out 3) | ((with_reducible refine gate_dst (N := 3) rfl ?_); refine box_event ?hg (N := 3) ?hd (cs := #[.slice none 0 0, .int .i64 0, .int .i64 0, .int .i64 0]) (t := 42) ?hr ?_; (case hd => rfl); (case hg => rfl); (case hr => first | (go_simp; done) | (go_simp; rfl)); intro gb105 hg w6 hbox hb; have n0_ := am_ (bb_ BK103.out hb); have n1_ := am_ (bb_ BK104.out hb); have n2_ := am_ (below_step (ue_ HB.out) hb); have n3_ := am_ (hbox); have n4_ := am_ ((by rw [hg]; exact (below_size (ue_ HB.out)) : w.heap.size ≤ gb105)); have n5_ := am_ ((by rw [hg]; exact (below_size (ue_ HB.out)) : w.heap.size ≤ gb105)); have n6_ := am_ ((by rw [hg]; exact Nat.ne_of_lt (bl_ BK103.out) : gb103 ≠ gb105)); have n7_ := am_ ((by rw [hg]; exact Nat.ne_of_gt (bl_ BK103.out) : gb105 ≠ gb103)); have n8_ := am_ ((by rw [hg]; exact Nat.ne_of_lt (bl_ BK104.out) : gb104 ≠ gb105)); have n9_ := am_ ((by rw [hg]; exact Nat.ne_of_gt (bl_ BK104.out) : gb105 ≠ gb104)); clear BK103 BK104 HB; have BK103 := n0_; have BK104 := n1_; have HB := n2_; have BK105 := n3_; have GW105 := n4_; have GE105 := n5_; have NB103_105 := n6_; have NB105_103 := n7_; have NB104_105 := n8_; have NB105_104 := n9_; clear n0_ n1_ n2_ n3_ n4_ n5_ n6_ n7_ n8_ n9_; clear hb hbox hg; have hnb7 := NB105_103.out; have hnc7 := NB103_105.out; have hnb8 := NB105_104.out; have hnc8 := NB104_105.out; obtain ⟨hcz9_0, hcz9_1, hcz9_2, hcz9_3⟩ := cb4_ BK105.out; obtain ⟨hfz9_0, hfz9_1, hfz9_2⟩ := bf3_ BK105.out; have hfz9_3 := blk_frozen BK105.out 3) | ((with_reducible refine gate_store (t := 42) (p := 3) rfl ?_); refine store_event (t := 42) (p := 3) (v := ?vo_w10) (w1 := ((((w6.setCell ⟨gb105, 0, none⟩ (.slice none 0 0)).setCell ⟨gb105, 1, none⟩ (.int .i64 a0_1)).setCell ⟨gb105, 2, none⟩ (.int .i64 a0_2)).setCell ⟨gb105, 3, none⟩ (.int .i64 a0_3))) ?hg ?ho ?hn ?hr ?_; (case ho => rfl); (case hg => rfl); (case hn => rfl); (case hr => first | (go_simp; done) | (go_simp; rfl)); intro w10 hw; have n0_ : Aside0 (w10.heap[gb103]? = some (.cells #[.slice A0_0 l0_0.length c0_0, .int .i64 a0_1, .int .i64 a0_2, .int .i64 a0_3] 42 (0, 0))) := ⟨(by rw [hw]; exact (uf_ BK103.out))⟩; have n1_ : Aside0 (w10.heap[gb104]? = some (.cells #[.slice none 0 0, .int .i64 0, .int .i64 0, .int .i64 0] 42 (0, 0))) := ⟨(by rw [hw]; exact (uf_ BK104.out))⟩; have n2_ : Aside0 (w10.heap[gb105]? = some (.cells #[.slice none 0 0, .int .i64 a0_1, .int .i64 a0_2, .int .i64 a0_3] 42 (0, 0))) := ⟨(by rw [hw]; exact (by (with_reducible repeat first|apply bn_|apply bd_|apply ba_); refine blk_put (cs := #[.slice none 0 0, .int .i64 a0_1, .int .i64 a0_2, .int .i64 0]) ?_ 3 _ rfl; refine blk_put (cs := #[.slice none 0 0, .int .i64 a0_1, .int .i64 0, .int .i64 0]) ?_ 2 _ rfl; refine blk_put (cs := #[.slice none 0 0, .int .i64 0, .int .i64 0, .int .i64 0]) ?_ 1 _ rfl; refine blk_put (cs := #[.slice none 0 0, .int .i64 0, .int .i64 0, .int .i64 0]) ?_ 0 _ rfl; (with_reducible repeat first|apply bn_|apply bd_|apply ba_); exact BK105.out))⟩; have n3_ : Aside0 (Below w.heap.size w w10) := ⟨(by rw [hw]; exact (ue_ HB.out))⟩; clear hw BK103 BK104 BK105 HB; have BK103 := n0_; have BK104 := n1_; have BK105 := n2_; have HB := n3_; clear n0_ n1_ n2_ n3_))
 go_loopg [4] k (fun kq v4 w' => ∃ (x4_1 : Int) (x106000_1 : List (S80)) (u106000 : Value), v4 = .int .i64 x4_1 ∧ Aside0 (spec_l05Copy.l0 kq x4_1 l0_0 a0_1 a0_2 a0_3 x106000_1 a0_1 a0_2 a0_3 = some (r1, r2, r3, r4)) ∧ Aside0 (kq ≤ k) ∧ Aside0 (Kd.R k80 80 w' w.heap.size (fun _ => True) u106000 x106000_1) ∧ Aside0 (w'.heap[gb103]? = some (.cells #[(.slice A0_0 l0_0.length c0_0), .int .i64 a0_1, .int .i64 a0_2, .int .i64 a0_3] 42 (0, 0))) ∧ Aside0 (w'.heap[gb104]? = some (.cells #[(.slice none 0 0), .int .i64 0, .int .i64 0, .int .i64 0] 42 (0, 0))) ∧ Aside0 (w'.heap[gb105]? = some (.cells #[u106000, .int .i64 a0_1, .int .i64 a0_2, .int .i64 a0_3] 42 (0, 0))) ∧ Aside0 (Below w.heap.size w w'))
 case atStart => exact ⟨(0), (([] : List (S80))), (.slice none 0 0), (by first | rfl | (simp; done) | (simp [*]; done)), H', ⟨Nat.le_refl _⟩, ⟨by first | exact Kd.R_nil _ _ _ _ _ | exact Kd.N_nil _ _ _ _ _ | exact Kd.V_nil _ _ _ _ _ | exact Kd.Q_nil _ _ _ _ _ | exact Kd.S_nil _ _ _ _ _⟩, ⟨by (with_reducible repeat first|apply bn_|apply bd_|apply ba_); exact BK103.out⟩, ⟨by (with_reducible repeat first|apply bn_|apply bd_|apply ba_); exact BK104.out⟩, ⟨by (with_reducible repeat first|apply bn_|apply bd_|apply ba_); exact BK105.out⟩, ⟨ue_ HB.out⟩⟩
 case round =>
  clear H'
  try clear p2
  try clear c4
  try clear c7
  try clear c8
  try clear c9
  try clear hcz5_0
  try clear hcz5_1
  try clear hcz5_2
  try clear hcz5_3
  try clear hcz9_0
  try clear hcz9_1
  try clear hcz9_2
  try clear hcz9_3
  try clear hfz5_0
  try clear hfz5_1
  try clear hfz5_2
  try clear hfz5_3
  try clear hfz9_0
  try clear hfz9_1
  try clear hfz9_2
  try clear hfz9_3
  obtain ⟨x4_1, x106000_1, u106000, rfl, HA, HK1, HO_106000, BK103, BK104, BK105, HB⟩ := hrel
  cases gk with
  | zero => exact absurd HA.out (by simp [spec_l05Copy.l0])
  | succ k1 =>
   have H := HA.out
   clear HA
   simp only [spec_l05Copy.l0] at H
   by_cases c11 : x4_1 < (l0_0.length : Int)
   ·
    rw [if_pos c11] at H
    have c11b0 : decide (x4_1 < (l0_0.length : Int)) = true := decide_eq_true c11
    clear c11
    by_cases c12 : 0 ≤ x4_1
    ·
     rw [if_pos c12] at H
     have c12b0 : decide (0 ≤ x4_1) = true := decide_eq_true c12
     clear c12
     by_cases c13 : x106000_1.length < 2932031007402
     ·
      rw [if_pos c13] at H
      have LMc13 := Aside0.mk c13
      clear c13
      obtain ⟨y107, hy107⟩ : ∃ y_ : List (S80), y_ = (x106000_1 ++ [(⟨(rd_T80 l0_0 x4_1).f0, (rd_T80 l0_0 x4_1).f1, (rd_T80 l0_0 x4_1).f2, (rd_T80 l0_0 x4_1).f3, (rd_T80 l0_0 x4_1).f4, (rd_T80 l0_0 x4_1).f5⟩ : S80)]) := ⟨_, rfl⟩
      replace H : (spec_l05Copy.l0 k1 (wrap64 (x4_1 + 1)) l0_0 a0_1 a0_2 a0_3 y107 a0_1 a0_2 a0_3) = some (r1, r2, r3, r4) := by first | (rw [hy107]; with_reducible exact H) | (have H2_ := (Option.bind_some _ _).symm.trans H; rw [hy107]; with_reducible exact H2_) | (have H2_ := (Option.bind_some _ _).symm.trans H; with_reducible exact H2_) | with_reducible exact H | (rw [hy107]; exact H) | exact H
      have Ny107 := Aside0.mk hy107
      clear hy107
      have H' := Aside0.mk H
      clear H
      have hnb14 := NB103_104.out
      have hnc14 := NB104_103.out
      have hnb15 := NB103_105.out
      have hnc15 := NB105_103.out
      have hcz16_0 := cb_ BK103.out 0 rfl
      have hcz16_1 := cb_ BK103.out 1 rfl
      have hcz16_2 := cb_ BK103.out 2 rfl
      have hcz16_3 := cb_ BK103.out 3 rfl
      have hfz16_0 := blk_frozen BK103.out 0
      have hfz16_1 := blk_frozen BK103.out 1
      have hfz16_2 := blk_frozen BK103.out 2
      have hfz16_3 := blk_frozen BK103.out 3
      try go_wp2
      have n0_ := am_ (Kd.R_drew HO_106000.out)
      have n1_ := am_ (blk_drew BK103.out)
      have n2_ := am_ (blk_drew BK104.out)
      have n3_ := am_ (blk_drew BK105.out)
      have n4_ := am_ (below_drew1 HB.out)
      clear HO_106000
      clear BK103
      clear BK104
      clear BK105
      clear HB
      have HO_106000 := n0_
      have BK103 := n1_
      have BK104 := n2_
      have BK105 := n3_
      have HB := n4_
      clear n0_ n1_ n2_ n3_ n4_
      have p106 : 0 ≤ (x4_1 : Int) := of_decide_eq_true ua_
      have q106 : x4_1 < (l0_0.length : Int) := of_decide_eq_true ua_
      obtain ⟨ad106, e106, hx106_0, hx106_1, hx106_2, hx106_3, hx106_4, hx106_5⟩ := at_T80 HR0_0.out x4_1 p106 q106
      have hw106_5 := hx106_5
      have hw106_4 := hx106_4
      have hw106_3 := hx106_3
      have hw106_2 := hx106_2
      have hw106_1 := hx106_1
      have hw106_0 := hx106_0
      cases e106
      replace hx106_0 := bc_ HB.out hx106_0
      replace hx106_1 := bc_ HB.out hx106_1
      replace hx106_2 := bc_ HB.out hx106_2
      replace hx106_3 := bc_ HB.out hx106_3
      replace hx106_4 := bc_ HB.out hx106_4
      replace hx106_5 := bc_ HB.out hx106_5
      replace p106 := eq_true p106
      replace q106 := eq_true q106
      refine start_ (n := 11) (S := fun w' => w'.cell? ⟨gb105, 0, none⟩ = some (u106000) ∧ w'.cell? ⟨gb105, 1, none⟩ = some (.int .i64 a0_1) ∧ w'.cell? ⟨gb105, 2, none⟩ = some (.int .i64 a0_2) ∧ w'.cell? ⟨gb105, 3, none⟩ = some (.int .i64 a0_3) ∧ w'.cell? ⟨gb103, 0, none⟩ = some (.slice (some ad106) l0_0.length c0_0) ∧ w'.cell? ⟨gb103, 1, none⟩ = some (.int .i64 a0_1) ∧ w'.cell? ⟨gb103, 2, none⟩ = some (.int .i64 a0_2) ∧ w'.cell? ⟨gb103, 3, none⟩ = some (.int .i64 a0_3) ∧ w'.cell? (ad106.add ((x4_1).toNat * 6)) = some (.int .i64 ((rd_T80 l0_0 x4_1).f0)) ∧ w'.cell? ⟨(ad106.add ((x4_1).toNat * 6)).block, (ad106.add ((x4_1).toNat * 6)).off + 1, none⟩ = some (.int .i64 ((rd_T80 l0_0 x4_1).f1)) ∧ w'.cell? ⟨(ad106.add ((x4_1).toNat * 6)).block, (ad106.add ((x4_1).toNat * 6)).off + 2, none⟩ = some (.int .i64 ((rd_T80 l0_0 x4_1).f2)) ∧ w'.cell? ⟨(ad106.add ((x4_1).toNat * 6)).block, (ad106.add ((x4_1).toNat * 6)).off + 3, none⟩ = some (.int .i64 ((rd_T80 l0_0 x4_1).f3)) ∧ w'.cell? ⟨(ad106.add ((x4_1).toNat * 6)).block, (ad106.add ((x4_1).toNat * 6)).off + 4, none⟩ = some (.int .i64 ((rd_T80 l0_0 x4_1).f4)) ∧ w'.cell? ⟨(ad106.add ((x4_1).toNat * 6)).block, (ad106.add ((x4_1).toNat * 6)).off + 5, none⟩ = some (.int .i64 ((rd_T80 l0_0 x4_1).f5))) (ds := [10]) #[false, false, false, false, false, false, false, false, false, false, false] (by kernel_rfl) rfl rfl ⟨(blk_cell BK105.out 0).trans rfl, (blk_cell BK105.out 1).trans rfl, (blk_cell BK105.out 2).trans rfl, (blk_cell BK105.out 3).trans rfl, (blk_cell BK103.out 0).trans rfl, (blk_cell BK103.out 1).trans rfl, (blk_cell BK103.out 2).trans rfl, (blk_cell BK103.out 3).trans rfl, ((HB.out.cell (World.block_lt_of_cell? w _ hw106_0)).trans hw106_0), ((HB.out.cell (World.block_lt_of_cell? w _ hw106_1)).trans hw106_1), ((HB.out.cell (World.block_lt_of_cell? w _ hw106_2)).trans hw106_2), ((HB.out.cell (World.block_lt_of_cell? w _ hw106_3)).trans hw106_3), ((HB.out.cell (World.block_lt_of_cell? w _ hw106_4)).trans hw106_4), ((HB.out.cell (World.block_lt_of_cell? w _ hw106_5)).trans hw106_5)⟩ (fun hHeld => ?_); refine with_tabW spec_l05Copy.tab5 spec_l05Copy.bits5 (fun HT_ HW_ => ?_)
      generalize wr.drew = w17 at HO_106000 BK103 BK104 BK105 HB hx106_0 hx106_1 hx106_2 hx106_3 hx106_4 hx106_5 hHeld ⊢
      refine pure_ (i := 0) (N := some 19) (v := ?_) (a' := ?_) #[true, false, false, false, false, false, false, false, false, false, false] rfl rfl (any_of HT_.out (by kernel_rfl)) (fun _ _ _ h => h) (Or.inl ⟨by rfl, ?_⟩) ?_ ?_
      rotate_left
      ·
       intro w'
       go_simp
       with_reducible rfl
      rotate_left
      ·
       simp only [Act.put, List.setIfInBounds_toArray, List.set_cons_zero, List.set_cons_succ, i64_w, i32_w]
       rfl
      refine pure_ (i := 2) (N := some 21) (v := ?_) (a' := ?_) #[true, false, true, false, false, false, false, false, false, false, false] rfl rfl (any_of HT_.out (by kernel_rfl)) (fun _ _ _ h => h) (Or.inl ⟨by rfl, ?_⟩) ?_ ?_
      rotate_left
      ·
       intro w'
       go_simp
       with_reducible rfl
      rotate_left
      ·
       simp only [Act.put, List.setIfInBounds_toArray, List.set_cons_zero, List.set_cons_succ, i64_w, i32_w]
       rfl
      refine pure_ (i := 4) (N := some 23) (v := ?_) (a' := ?_) #[true, false, true, false, true, false, false, false, false, false, false] rfl rfl (any_of HT_.out (by kernel_rfl)) (fun _ _ _ h => h) (Or.inl ⟨by rfl, ?_⟩) ?_ ?_
      rotate_left
      ·
       intro w'
       go_simp
       with_reducible rfl
      rotate_left
      ·
       simp only [Act.put, List.setIfInBounds_toArray, List.set_cons_zero, List.set_cons_succ, i64_w, i32_w]
       rfl
      refine take_ (i := 1) (N := some 20) (v := ?_) (a' := ?_) #[true, true, true, false, true, false, false, false, false, false, false] rfl rfl (take_ofW HT_.out HW_.out (by kernel_rfl)) (fun _ _ _ h => h) (Or.inl ⟨by rfl, ?_⟩) hHeld ?_ ?_
      rotate_left
      ·
       rintro w' ⟨s0, s1, s2, s3, s4, s5, s6, s7, s8, s9, s10, s11, s12, s13⟩
       go_simp
       with_reducible rfl
      rotate_left
      ·
       simp only [Act.put, List.setIfInBounds_toArray, List.set_cons_zero, List.set_cons_succ, i64_w, i32_w]
       rfl
      refine take_ (i := 3) (N := some 22) (v := ?_) (a' := ?_) #[true, true, true, true, true, false, false, false, false, false, false] rfl rfl (take_ofW HT_.out HW_.out (by kernel_rfl)) (fun _ _ _ h => h) (Or.inl ⟨by rfl, ?_⟩) hHeld ?_ ?_
      rotate_left
      ·
       rintro w' ⟨s0, s1, s2, s3, s4, s5, s6, s7, s8, s9, s10, s11, s12, s13⟩
       go_simp
       with_reducible rfl
      rotate_left
      ·
       simp only [Act.put, List.setIfInBounds_toArray, List.set_cons_zero, List.set_cons_succ, i64_w, i32_w]
       rfl
      refine pure_ (i := 5) (N := some 24) (v := ?_) (a' := ?_) #[true, true, true, true, true, true, false, false, false, false, false] rfl rfl (any_of HT_.out (by kernel_rfl)) (fun _ _ _ h => h) (Or.inl ⟨by rfl, ?_⟩) ?_ ?_
      rotate_left
      ·
       intro w'
       go_simp
       with_reducible rfl
      rotate_left
      ·
       simp only [Act.put, List.setIfInBounds_toArray, List.set_cons_zero, List.set_cons_succ, i64_w, i32_w]
       rfl
      refine take_ (i := 6) (N := some 25) (v := ?_) (a' := ?_) #[true, true, true, true, true, true, true, false, false, false, false] rfl rfl (take_ofW HT_.out HW_.out (by kernel_rfl)) (fun _ _ _ h => h) (Or.inl ⟨by rfl, ?_⟩) hHeld ?_ ?_
      rotate_left
      ·
       rintro w' ⟨s0, s1, s2, s3, s4, s5, s6, s7, s8, s9, s10, s11, s12, s13⟩
       go_simp
       with_reducible rfl
      rotate_left
      ·
       simp only [Act.put, List.setIfInBounds_toArray, List.set_cons_zero, List.set_cons_succ, i64_w, i32_w]
       rfl
      refine one_ (i := 7) (N := some 26) #[true, true, true, true, true, true, true, true, false, false, false] rfl rfl (one_of HT_.out (by kernel_rfl)) (by decide) (fun K hK => ?_)
      refine value_ (w1 := ?_) (v := ?_) (by rfl) rfl ?_ ?_
      rotate_left 2
      ·
       go_simp
       constructor
       ·
        rfl
       ·
        rfl
      refine hK.out _ _ ⟨(blk_cell (blk_alloc BK105.out _) 0).trans rfl, (blk_cell (blk_alloc BK105.out _) 1).trans rfl, (blk_cell (blk_alloc BK105.out _) 2).trans rfl, (blk_cell (blk_alloc BK105.out _) 3).trans rfl, (blk_cell (blk_alloc BK103.out _) 0).trans rfl, (blk_cell (blk_alloc BK103.out _) 1).trans rfl, (blk_cell (blk_alloc BK103.out _) 2).trans rfl, (blk_cell (blk_alloc BK103.out _) 3).trans rfl, (World.cell?_alloc_lt _ _ _ (World.block_lt_of_cell? _ _ (((HB.out.cell (World.block_lt_of_cell? w _ hw106_0)).trans hw106_0)))).trans (((HB.out.cell (World.block_lt_of_cell? w _ hw106_0)).trans hw106_0)), (World.cell?_alloc_lt _ _ _ (World.block_lt_of_cell? _ _ (((HB.out.cell (World.block_lt_of_cell? w _ hw106_1)).trans hw106_1)))).trans (((HB.out.cell (World.block_lt_of_cell? w _ hw106_1)).trans hw106_1)), (World.cell?_alloc_lt _ _ _ (World.block_lt_of_cell? _ _ (((HB.out.cell (World.block_lt_of_cell? w _ hw106_2)).trans hw106_2)))).trans (((HB.out.cell (World.block_lt_of_cell? w _ hw106_2)).trans hw106_2)), (World.cell?_alloc_lt _ _ _ (World.block_lt_of_cell? _ _ (((HB.out.cell (World.block_lt_of_cell? w _ hw106_3)).trans hw106_3)))).trans (((HB.out.cell (World.block_lt_of_cell? w _ hw106_3)).trans hw106_3)), (World.cell?_alloc_lt _ _ _ (World.block_lt_of_cell? _ _ (((HB.out.cell (World.block_lt_of_cell? w _ hw106_4)).trans hw106_4)))).trans (((HB.out.cell (World.block_lt_of_cell? w _ hw106_4)).trans hw106_4)), (World.cell?_alloc_lt _ _ _ (World.block_lt_of_cell? _ _ (((HB.out.cell (World.block_lt_of_cell? w _ hw106_5)).trans hw106_5)))).trans (((HB.out.cell (World.block_lt_of_cell? w _ hw106_5)).trans hw106_5))⟩ (fun hHeld => ?_)
      clear hK K
      refine norm_ (a' := ?_) ?_ ?_
      rotate_left
      ·
       show Act.put _ (some 26) _ = _
       simp only [Act.put, List.setIfInBounds_toArray, List.set_cons_zero, List.set_cons_succ, i64_w, i32_w]
       rfl
      refine one_ (i := 8) (N := some 27) #[true, true, true, true, true, true, true, true, true, false, false] rfl rfl (one_of HT_.out (by kernel_rfl)) (by decide) (fun K hK => ?_)
      refine Kd.R_append_step k80 (w0 := w) w.heap.size (by rfl) (.tmp 20) (.tmp 26) 40 80 (.agg #[(.int .i64 0), (.int .i64 0), (.int .i64 0), (.int .i64 0), (.int .i64 0), (.int .i64 0)]) 48 rfl Try.underlying40 info80 rfl (by decide) (by omega) u106000 x106000_1 (⟨(rd_T80 l0_0 x4_1).f0, (rd_T80 l0_0 x4_1).f1, (rd_T80 l0_0 x4_1).f2, (rd_T80 l0_0 x4_1).f3, (rd_T80 l0_0 x4_1).f4, (rd_T80 l0_0 x4_1).f5⟩ : S80) [.int .i64 ((rd_T80 l0_0 x4_1).f0), .int .i64 ((rd_T80 l0_0 x4_1).f1), .int .i64 ((rd_T80 l0_0 x4_1).f2), .int .i64 ((rd_T80 l0_0 x4_1).f3), .int .i64 ((rd_T80 l0_0 x4_1).f4), .int .i64 ((rd_T80 l0_0 x4_1).f5)] (fun _ => True) (fun _ => False) rfl rfl ?aP (fun _ hk => hk.elim) ?aF ?aO ?aB ?aS ?aL ?_
      (case aP => exact k80_mkM _ _ _ (⟨(rd_T80 l0_0 x4_1).f0, (rd_T80 l0_0 x4_1).f1, (rd_T80 l0_0 x4_1).f2, (rd_T80 l0_0 x4_1).f3, (rd_T80 l0_0 x4_1).f4, (rd_T80 l0_0 x4_1).f5⟩ : S80))
      (case aB => exact (ue_ HB.out))
      (case aF => exact (fun _ _ => trivial))
      (case aO => exact (ur_ HO_106000.out))
      (case aS => exact (below_size (ue_ HB.out)))
      (case aL => have := LMc13.out; omega)
      intro v108 w18 ho hb hg hat
      rw [← Ny107.out] at ho
      have n0_ := am_ (blk_grown (g := gb103) (o := .cells #[.slice (some ad106) l0_0.length c0_0, .int .i64 a0_1, .int .i64 a0_2, .int .i64 a0_3] 42 (0, 0)) (ub_ BK103.out) hg (Kd.R_ne HO_106000.out BK103.out (by decide)))
      have n1_ := am_ (blk_grown (g := gb104) (o := .cells #[.slice none 0 0, .int .i64 0, .int .i64 0, .int .i64 0] 42 (0, 0)) (ub_ BK104.out) hg (Kd.R_ne HO_106000.out BK104.out (by decide)))
      have n2_ := am_ (blk_grown (g := gb105) (o := .cells #[u106000, .int .i64 a0_1, .int .i64 a0_2, .int .i64 a0_3] 42 (0, 0)) (ub_ BK105.out) hg (Kd.R_ne HO_106000.out BK105.out (by decide)))
      have n3_ := am_ (hb)
      have n4_ := am_ (ho)
      clear BK103
      clear BK104
      clear BK105
      clear HB
      clear HO_106000
      have BK103 := n0_
      have BK104 := n1_
      have BK105 := n2_
      have HB := n3_
      have HO109 := n4_
      clear n0_ n1_ n2_ n3_ n4_
      clear ho hb hg hat
      obtain ⟨Ao19, co19, eo19⟩ := Kd.R_slice HO109.out
      (first | subst eo19 | (injection eo19 with f1_ f2_ f3_; have f4_ := f1_.symm; have f5_ := f3_.symm; clear f1_ f2_ f3_; subst f4_; subst f5_))
      refine hK.out _ _ ⟨(blk_cell BK105.out 0).trans rfl, (blk_cell BK105.out 1).trans rfl, (blk_cell BK105.out 2).trans rfl, (blk_cell BK105.out 3).trans rfl, (blk_cell BK103.out 0).trans rfl, (blk_cell BK103.out 1).trans rfl, (blk_cell BK103.out 2).trans rfl, (blk_cell BK103.out 3).trans rfl, ((HB.out.cell (World.block_lt_of_cell? w _ hw106_0)).trans hw106_0), ((HB.out.cell (World.block_lt_of_cell? w _ hw106_1)).trans hw106_1), ((HB.out.cell (World.block_lt_of_cell? w _ hw106_2)).trans hw106_2), ((HB.out.cell (World.block_lt_of_cell? w _ hw106_3)).trans hw106_3), ((HB.out.cell (World.block_lt_of_cell? w _ hw106_4)).trans hw106_4), ((HB.out.cell (World.block_lt_of_cell? w _ hw106_5)).trans hw106_5)⟩ (fun hHeld => ?_)
      clear hK K
      refine norm_ (a' := ?_) ?_ ?_
      rotate_left
      ·
       show Act.put _ (some 27) _ = _
       simp only [Act.put, List.setIfInBounds_toArray, List.set_cons_zero, List.set_cons_succ, i64_w, i32_w]
       rfl
      refine pure_ (i := 9) (N := some 28) (v := ?_) (a' := ?_) #[true, true, true, true, true, true, true, true, true, true, false] rfl rfl (any_of HT_.out (by kernel_rfl)) (fun _ _ _ h => h) (Or.inl ⟨by rfl, ?_⟩) ?_ ?_
      rotate_left
      ·
       intro w'
       go_simp
       with_reducible rfl
      rotate_left
      ·
       simp only [Act.put, List.setIfInBounds_toArray, List.set_cons_zero, List.set_cons_succ, i64_w, i32_w]
       rfl
      refine last_ (i := 10) (N := none) #[true, true, true, true, true, true, true, true, true, true, true] rfl rfl (one_of HT_.out (by kernel_rfl)) (by decide) (fun K hK => ?_)
      have hs20 := cb_ BK105.out 0 rfl
      have hfs20 := blk_frozen BK105.out 0
      have hns20_0 := NB103_105.out
      have hns20_1 := NB104_105.out
      have hms20_0 := NB105_103.out
      have hms20_1 := NB105_104.out
      refine skip_ (w1 := ?_) (by rfl) rfl ?_ ?_
      rotate_left
      ·
       go_simp
       rfl
      refine hK.out _ _ ?_
      clear hK K
      refine done_ (done_of HT_.out (by kernel_rfl)) ?_
      try go_wp2
      go_roundg k1
      case measure => have := HK1.out; omega
      case rel => exact ⟨(wrap64 (x4_1 + 1)), (y107), (.slice Ao19 y107.length co19), (by first | rfl | (simp; done) | (simp [*]; done)), H', ⟨by have := HK1.out; omega⟩, ⟨by (with_reducible repeat (first | apply Kd.R_alloc | apply Kd.R_drewN | apply Kd.R_drew)); exact Kd.R_mono (Kd.R_far (p := ⟨gb105, 0, none⟩) (Kd.R_types HO109.out BK105.out (by decide)) (fun _ hk => by first | exact hk.2 | grind) (.slice Ao19 y107.length co19)) (fun _ hk => trivial)⟩, ⟨by (with_reducible repeat first|apply bn_|apply bd_|apply ba_); refine blk_far ?_ NB103_105.out _; (with_reducible repeat first|apply bn_|apply bd_|apply ba_); exact BK103.out⟩, ⟨by (with_reducible repeat first|apply bn_|apply bd_|apply ba_); refine blk_far ?_ NB104_105.out _; (with_reducible repeat first|apply bn_|apply bd_|apply ba_); exact BK104.out⟩, ⟨by (with_reducible repeat first|apply bn_|apply bd_|apply ba_); refine blk_put (cs := #[u106000, .int .i64 a0_1, .int .i64 a0_2, .int .i64 a0_3]) ?_ 0 _ rfl; (with_reducible repeat first|apply bn_|apply bd_|apply ba_); exact BK105.out⟩, ⟨ue_ HB.out⟩⟩
     ·
      rw [if_neg c13] at H
      exact absurd H (by simp)
    ·
     rw [if_neg c12] at H
     exact absurd H (by simp)
   ·
    rw [if_neg c11] at H
    have c11b0 : decide (x4_1 < (l0_0.length : Int)) = false := decide_eq_false c11
    clear c11
    simp only [Option.some.injEq, Prod.mk.injEq] at H
    obtain ⟨rfl, rfl, rfl, rfl⟩ := H
    have hnb21 := NB103_104.out
    have hnc21 := NB104_103.out
    have hnb22 := NB103_105.out
    have hnc22 := NB105_103.out
    have hcz23_0 := cb_ BK103.out 0 rfl
    have hcz23_1 := cb_ BK103.out 1 rfl
    have hcz23_2 := cb_ BK103.out 2 rfl
    have hcz23_3 := cb_ BK103.out 3 rfl
    have hfz23_0 := blk_frozen BK103.out 0
    have hfz23_1 := blk_frozen BK103.out 1
    have hfz23_2 := blk_frozen BK103.out 2
    have hfz23_3 := blk_frozen BK103.out 3
    have hnb24 := NB105_104.out
    have hnc24 := NB104_105.out
    have hcz25_0 := cb_ BK105.out 0 rfl
    have hcz25_1 := cb_ BK105.out 1 rfl
    have hcz25_2 := cb_ BK105.out 2 rfl
    have hcz25_3 := cb_ BK105.out 3 rfl
    have hfz25_0 := blk_frozen BK105.out 0
    have hfz25_1 := blk_frozen BK105.out 1
    have hfz25_2 := blk_frozen BK105.out 2
    have hfz25_3 := blk_frozen BK105.out 3
    obtain ⟨Ao26, co26, eo26⟩ := Kd.R_slice HO_106000.out
    subst eo26
    have hcz27_0 := cb_ BK104.out 0 rfl
    have hcz27_1 := cb_ BK104.out 1 rfl
    have hcz27_2 := cb_ BK104.out 2 rfl
    have hcz27_3 := cb_ BK104.out 3 rfl
    have hfz27_0 := blk_frozen BK104.out 0
    have hfz27_1 := blk_frozen BK104.out 1
    have hfz27_2 := blk_frozen BK104.out 2
    have hfz27_3 := blk_frozen BK104.out 3
    go_wp2_with (first | ((with_reducible refine gate_store (t := 42) (p := 2) rfl ?_); refine store_event (t := 42) (p := 2) (v := ?vo_w28) (w1 := ((((wr.setCell ⟨gb104, 0, none⟩ (.slice Ao26 x106000_1.length co26)).setCell ⟨gb104, 1, none⟩ (.int .i64 a0_1)).setCell ⟨gb104, 2, none⟩ (.int .i64 a0_2)).setCell ⟨gb104, 3, none⟩ (.int .i64 a0_3))) ?hg ?ho ?hn ?hr ?_; (case ho => rfl); (case hg => rfl); (case hn => rfl); (case hr => first | (go_simp; done) | (go_simp; rfl)); intro w28 hw; have n0_ : Aside0 (Kd.R k80 80 w28 w.heap.size (fun _ => True) (.slice Ao26 x106000_1.length co26) x106000_1) := ⟨(by rw [hw]; exact (by (with_reducible repeat (first | apply Kd.R_alloc | apply Kd.R_drewN | apply Kd.R_drew)); exact Kd.R_mono (Kd.R_far (p := ⟨gb104, 3, none⟩) (Kd.R_far (p := ⟨gb104, 2, none⟩) (Kd.R_far (p := ⟨gb104, 1, none⟩) (Kd.R_far (p := ⟨gb104, 0, none⟩) (Kd.R_types HO_106000.out BK104.out (by decide)) (fun _ hk => by first | exact hk.2 | grind) (.slice Ao26 x106000_1.length co26)) (fun _ hk => by first | exact hk.2 | grind) (.int .i64 a0_1)) (fun _ hk => by first | exact hk.2 | grind) (.int .i64 a0_2)) (fun _ hk => by first | exact hk.2 | grind) (.int .i64 a0_3)) (fun _ hk => trivial)))⟩; have n1_ : Aside0 (w28.heap[gb103]? = some (.cells #[.slice A0_0 l0_0.length c0_0, .int .i64 a0_1, .int .i64 a0_2, .int .i64 a0_3] 42 (0, 0))) := ⟨(by rw [hw]; exact (uf_ BK103.out))⟩; have n2_ : Aside0 (w28.heap[gb104]? = some (.cells #[.slice Ao26 x106000_1.length co26, .int .i64 a0_1, .int .i64 a0_2, .int .i64 a0_3] 42 (0, 0))) := ⟨(by rw [hw]; exact (by (with_reducible repeat first|apply bn_|apply bd_|apply ba_); refine blk_put (cs := #[.slice Ao26 x106000_1.length co26, .int .i64 a0_1, .int .i64 a0_2, .int .i64 0]) ?_ 3 _ rfl; refine blk_put (cs := #[.slice Ao26 x106000_1.length co26, .int .i64 a0_1, .int .i64 0, .int .i64 0]) ?_ 2 _ rfl; refine blk_put (cs := #[.slice Ao26 x106000_1.length co26, .int .i64 0, .int .i64 0, .int .i64 0]) ?_ 1 _ rfl; refine blk_put (cs := #[.slice none 0 0, .int .i64 0, .int .i64 0, .int .i64 0]) ?_ 0 _ rfl; (with_reducible repeat first|apply bn_|apply bd_|apply ba_); exact BK104.out))⟩; have n3_ : Aside0 (w28.heap[gb105]? = some (.cells #[.slice Ao26 x106000_1.length co26, .int .i64 a0_1, .int .i64 a0_2, .int .i64 a0_3] 42 (0, 0))) := ⟨(by rw [hw]; exact (uf_ BK105.out))⟩; have n4_ : Aside0 (Below w.heap.size w w28) := ⟨(by rw [hw]; exact (ue_ HB.out))⟩; clear hw HO_106000 BK103 BK104 BK105 HB; have HO_106000 := n0_; have BK103 := n1_; have BK104 := n2_; have BK105 := n3_; have HB := n4_; clear n0_ n1_ n2_ n3_ n4_))
    refine bodyPost_ret (results_cell_row rfl _ _ gb104 42 #[.slice Ao26 x106000_1.length co26, .int .i64 a0_1, .int .i64 a0_2, .int .i64 a0_3] (0, 0) _ rfl (ub_ BK104.out) Try.underlying42 rfl (by kernel_rfl)) rfl ?_
    exact ⟨_, ew_, by (with_reducible repeat (first | apply Kd.R_alloc | apply Kd.R_drewN | apply Kd.R_drew)); exact HO_106000.out, ue_ HB.out⟩

/-! ### spec_l01In: function 111 -/
def spec_l01In.f (a0 : Int) (a1 : Int) (a2 : Int) : Option (Bool) := if a1 ≤ a0 then (some (decide (a0 ≤ a2))) else (some false)
set_option maxHeartbeats 8000000 in
set_option maxRecDepth 100000 in
theorem spec_l01In.calls (a0 : Int) (a1 : Int) (a2 : Int) (r : Bool) (w : World) (h : spec_l01In.f a0 a1 a2 = some r) :
  Calls Try.prog 111 #[.int .i64 a0, .int .i64 a1, .int .i64 a2] w fun e w' => e = .returned (.bool r) ∧ Drawn0 w w' := by
 have H : (if a1 ≤ a0 then (some (decide (a0 ≤ a2))) else (some false)) = some r := h
 clear h
 by_cases c4 : a1 ≤ a0
 ·
  rw [if_pos c4] at H
  have c4b0 : decide (a1 ≤ a0) = true := decide_eq_true c4
  clear c4
  obtain rfl := Option.some.inj H
  go_enter Try.func111, Try.ntmps111
  go_wp2
  go_ret
  exact ⟨by first | rfl | (simp; done) | (simp [*]; done), by repeat (first | exact Drawn0.refl _ | apply Drawn0.step)⟩
 ·
  rw [if_neg c4] at H
  have c4b0 : decide (a1 ≤ a0) = false := decide_eq_false c4
  clear c4
  obtain rfl := Option.some.inj H
  go_enter Try.func111, Try.ntmps111
  go_wp2
  go_ret
  exact ⟨by first | rfl | (simp; done) | (simp [*]; done), by repeat (first | exact Drawn0.refl _ | apply Drawn0.step)⟩

/-! ### spec_l04Mark: function 95 -/
def spec_l04Mark.f (a0 : Int) : Option (Bool) := (spec_l01In.f a0 (-1) 1000000).bind fun t110 => (some t110)
set_option maxHeartbeats 8000000 in
set_option maxRecDepth 100000 in
theorem spec_l04Mark.calls (a0 : Int) (r : Bool) (w : World) (h : spec_l04Mark.f a0 = some r) :
  Calls Try.prog 95 #[.int .i64 a0] w fun e w' => e = .returned (.bool r) ∧ Drawn0 w w' := by
 have H : ((spec_l01In.f a0 (-1) 1000000).bind fun t110 => (some t110)) = some r := h
 clear h
 replace H := Option.bind_eq_some_iff.mp H
 obtain ⟨t110, A20, H⟩ := H
 replace H : (some t110) = some r := H
 have A2 := Aside0.mk A20
 clear A20
 obtain rfl := Option.some.inj H
 go_enter Try.func95, Try.ntmps95
 go_wp2_with (first | ((with_reducible refine gate_callee (f := 111) rfl ?_); refine goesL_ (some 4) rfl rfl Try.func111 (by kernel_rfl) rfl #[.int .i64 a0, .int .i64 (-1), .int .i64 1000000] rfl ul_ ?_; (with_reducible refine (spec_l01In.calls a0 (-1) 1000000 t110 _ A2.out).mono ?_); rintro e w' ⟨rfl, ⟨nd, rfl⟩⟩; refine ⟨_, rfl, ?_⟩))
 go_ret
 exact ⟨by first | rfl | (simp; done) | (simp [*]; done), by repeat (first | exact Drawn0.refl _ | apply Drawn0.step)⟩

/-! ### spec_l05Value: function 183 -/
def spec_l05Value.f (a0 : Int) : Option (Bool) := (spec_l01In.f a0 (-1000000) 1000000).bind fun t111 => (some t111)
set_option maxHeartbeats 8000000 in
set_option maxRecDepth 100000 in
theorem spec_l05Value.calls (a0 : Int) (r : Bool) (w : World) (h : spec_l05Value.f a0 = some r) :
  Calls Try.prog 183 #[.int .i64 a0] w fun e w' => e = .returned (.bool r) ∧ Drawn0 w w' := by
 have H : ((spec_l01In.f a0 (-1000000) 1000000).bind fun t111 => (some t111)) = some r := h
 clear h
 replace H := Option.bind_eq_some_iff.mp H
 obtain ⟨t111, A20, H⟩ := H
 replace H : (some t111) = some r := H
 have A2 := Aside0.mk A20
 clear A20
 obtain rfl := Option.some.inj H
 go_enter Try.func183, Try.ntmps183
 go_wp2_with (first | ((with_reducible refine gate_callee (f := 111) rfl ?_); refine goesL_ (some 4) rfl rfl Try.func111 (by kernel_rfl) rfl #[.int .i64 a0, .int .i64 (-1000000), .int .i64 1000000] rfl ul_ ?_; (with_reducible refine (spec_l01In.calls a0 (-1000000) 1000000 t111 _ A2.out).mono ?_); rintro e w' ⟨rfl, ⟨nd, rfl⟩⟩; refine ⟨_, rfl, ?_⟩))
 go_ret
 exact ⟨by first | rfl | (simp; done) | (simp [*]; done), by repeat (first | exact Drawn0.refl _ | apply Drawn0.step)⟩

/-! ### spec_AggOk: function 157 -/
def spec_AggOk.f (a0_0 : Int) (a0_1 : Int) (a0_2 : Int) (a0_3 : Int) (a0_4 : Int) (a0_5 : Int) : Option (Bool) := (spec_l01In.f a0_0 0 1000000).bind fun t113 => (if t113 = true then ((spec_l01In.f a0_1 0 65535).bind fun t114 => (if t114 = true then ((spec_l01In.f a0_2 1 1000000000).bind fun t115 => (if t115 = true then ((spec_l01In.f a0_3 (-1000000000) 1000000000).bind fun t116 => (if t116 = true then ((spec_l05Value.f a0_4).bind fun t117 => (if t117 = true then ((spec_l05Value.f a0_5).bind fun t118 => (if t118 = true then (some (decide (a0_4 ≤ a0_5))) else (some false))) else (some false))) else (some false))) else (some false))) else (some false))) else (some false))
set_option maxHeartbeats 8000000 in
set_option maxRecDepth 100000 in
theorem spec_AggOk.calls (a0_0 : Int) (a0_1 : Int) (a0_2 : Int) (a0_3 : Int) (a0_4 : Int) (a0_5 : Int) (r : Bool) (w : World) (h : spec_AggOk.f a0_0 a0_1 a0_2 a0_3 a0_4 a0_5 = some r) :
  Calls Try.prog 157 #[.agg #[.int .i64 a0_0, .int .i64 a0_1, .int .i64 a0_2, .int .i64 a0_3, .int .i64 a0_4, .int .i64 a0_5]] w fun e w' => e = .returned (.bool r) ∧ Below w.heap.size w w' := by
 have hu80 := Try.underlying80
 have HB := am_ (Below.refl w.heap.size w)
 have H : ((spec_l01In.f a0_0 0 1000000).bind fun t113 => (if t113 = true then ((spec_l01In.f a0_1 0 65535).bind fun t114 => (if t114 = true then ((spec_l01In.f a0_2 1 1000000000).bind fun t115 => (if t115 = true then ((spec_l01In.f a0_3 (-1000000000) 1000000000).bind fun t116 => (if t116 = true then ((spec_l05Value.f a0_4).bind fun t117 => (if t117 = true then ((spec_l05Value.f a0_5).bind fun t118 => (if t118 = true then (some (decide (a0_4 ≤ a0_5))) else (some false))) else (some false))) else (some false))) else (some false))) else (some false))) else (some false))) = some r := h
 clear h
 replace H := Option.bind_eq_some_iff.mp H
 obtain ⟨t113, A20, H⟩ := H
 replace H : (if t113 = true then ((spec_l01In.f a0_1 0 65535).bind fun t114 => (if t114 = true then ((spec_l01In.f a0_2 1 1000000000).bind fun t115 => (if t115 = true then ((spec_l01In.f a0_3 (-1000000000) 1000000000).bind fun t116 => (if t116 = true then ((spec_l05Value.f a0_4).bind fun t117 => (if t117 = true then ((spec_l05Value.f a0_5).bind fun t118 => (if t118 = true then (some (decide (a0_4 ≤ a0_5))) else (some false))) else (some false))) else (some false))) else (some false))) else (some false))) else (some false)) = some r := H
 have A2 := Aside0.mk A20
 clear A20
 by_cases c3 : t113 = true
 ·
  subst c3
  have H1 : ((spec_l01In.f a0_1 0 65535).bind fun t114 => (if t114 = true then ((spec_l01In.f a0_2 1 1000000000).bind fun t115 => (if t115 = true then ((spec_l01In.f a0_3 (-1000000000) 1000000000).bind fun t116 => (if t116 = true then ((spec_l05Value.f a0_4).bind fun t117 => (if t117 = true then ((spec_l05Value.f a0_5).bind fun t118 => (if t118 = true then (some (decide (a0_4 ≤ a0_5))) else (some false))) else (some false))) else (some false))) else (some false))) else (some false))) = some r := by rw [if_pos rfl] at H; exact H
  clear H
  have H := H1
  clear H1
  replace H := Option.bind_eq_some_iff.mp H
  obtain ⟨t114, A40, H⟩ := H
  replace H : (if t114 = true then ((spec_l01In.f a0_2 1 1000000000).bind fun t115 => (if t115 = true then ((spec_l01In.f a0_3 (-1000000000) 1000000000).bind fun t116 => (if t116 = true then ((spec_l05Value.f a0_4).bind fun t117 => (if t117 = true then ((spec_l05Value.f a0_5).bind fun t118 => (if t118 = true then (some (decide (a0_4 ≤ a0_5))) else (some false))) else (some false))) else (some false))) else (some false))) else (some false)) = some r := H
  have A4 := Aside0.mk A40
  clear A40
  by_cases c5 : t114 = true
  ·
   subst c5
   have H1 : ((spec_l01In.f a0_2 1 1000000000).bind fun t115 => (if t115 = true then ((spec_l01In.f a0_3 (-1000000000) 1000000000).bind fun t116 => (if t116 = true then ((spec_l05Value.f a0_4).bind fun t117 => (if t117 = true then ((spec_l05Value.f a0_5).bind fun t118 => (if t118 = true then (some (decide (a0_4 ≤ a0_5))) else (some false))) else (some false))) else (some false))) else (some false))) = some r := by rw [if_pos rfl] at H; exact H
   clear H
   have H := H1
   clear H1
   replace H := Option.bind_eq_some_iff.mp H
   obtain ⟨t115, A60, H⟩ := H
   replace H : (if t115 = true then ((spec_l01In.f a0_3 (-1000000000) 1000000000).bind fun t116 => (if t116 = true then ((spec_l05Value.f a0_4).bind fun t117 => (if t117 = true then ((spec_l05Value.f a0_5).bind fun t118 => (if t118 = true then (some (decide (a0_4 ≤ a0_5))) else (some false))) else (some false))) else (some false))) else (some false)) = some r := H
   have A6 := Aside0.mk A60
   clear A60
   by_cases c7 : t115 = true
   ·
    subst c7
    have H1 : ((spec_l01In.f a0_3 (-1000000000) 1000000000).bind fun t116 => (if t116 = true then ((spec_l05Value.f a0_4).bind fun t117 => (if t117 = true then ((spec_l05Value.f a0_5).bind fun t118 => (if t118 = true then (some (decide (a0_4 ≤ a0_5))) else (some false))) else (some false))) else (some false))) = some r := by rw [if_pos rfl] at H; exact H
    clear H
    have H := H1
    clear H1
    replace H := Option.bind_eq_some_iff.mp H
    obtain ⟨t116, A80, H⟩ := H
    replace H : (if t116 = true then ((spec_l05Value.f a0_4).bind fun t117 => (if t117 = true then ((spec_l05Value.f a0_5).bind fun t118 => (if t118 = true then (some (decide (a0_4 ≤ a0_5))) else (some false))) else (some false))) else (some false)) = some r := H
    have A8 := Aside0.mk A80
    clear A80
    by_cases c9 : t116 = true
    ·
     subst c9
     have H1 : ((spec_l05Value.f a0_4).bind fun t117 => (if t117 = true then ((spec_l05Value.f a0_5).bind fun t118 => (if t118 = true then (some (decide (a0_4 ≤ a0_5))) else (some false))) else (some false))) = some r := by rw [if_pos rfl] at H; exact H
     clear H
     have H := H1
     clear H1
     replace H := Option.bind_eq_some_iff.mp H
     obtain ⟨t117, A100, H⟩ := H
     replace H : (if t117 = true then ((spec_l05Value.f a0_5).bind fun t118 => (if t118 = true then (some (decide (a0_4 ≤ a0_5))) else (some false))) else (some false)) = some r := H
     have A10 := Aside0.mk A100
     clear A100
     by_cases c11 : t117 = true
     ·
      subst c11
      have H1 : ((spec_l05Value.f a0_5).bind fun t118 => (if t118 = true then (some (decide (a0_4 ≤ a0_5))) else (some false))) = some r := by rw [if_pos rfl] at H; exact H
      clear H
      have H := H1
      clear H1
      replace H := Option.bind_eq_some_iff.mp H
      obtain ⟨t118, A120, H⟩ := H
      replace H : (if t118 = true then (some (decide (a0_4 ≤ a0_5))) else (some false)) = some r := H
      have A12 := Aside0.mk A120
      clear A120
      by_cases c13 : t118 = true
      ·
       subst c13
       have H1 : (some (decide (a0_4 ≤ a0_5))) = some r := by rw [if_pos rfl] at H; exact H
       clear H
       have H := H1
       clear H1
       obtain rfl := Option.some.inj H
       go_enter Try.func157, Try.ntmps157
       go_wp2_with (first | ((with_reducible refine gate_dst (N := 1) rfl ?_); refine box_event ?hg (N := 1) ?hd (cs := #[.int .i64 a0_0, .int .i64 a0_1, .int .i64 a0_2, .int .i64 a0_3, .int .i64 a0_4, .int .i64 a0_5]) (t := 80) ?hr ?_; (case hd => rfl); (case hg => rfl); (case hr => first | (go_simp; done) | (go_simp; rfl)); intro gb112 hg w14 hbox hb; have n0_ := am_ (below_step (ue_ HB.out) hb); have n1_ := am_ (hbox); have n2_ := am_ ((by rw [hg]; exact (below_size (ue_ HB.out)) : w.heap.size ≤ gb112)); have n3_ := am_ ((by rw [hg]; exact (below_size (ue_ HB.out)) : w.heap.size ≤ gb112)); clear HB; have HB := n0_; have BK112 := n1_; have GW112 := n2_; have GE112 := n3_; clear n0_ n1_ n2_ n3_; clear hb hbox hg; obtain ⟨hcz15_0, hcz15_1, hcz15_2, hcz15_3, hcz15_4, hcz15_5⟩ := cb6_ BK112.out; obtain ⟨hfz15_0, hfz15_1, hfz15_2, hfz15_3, hfz15_4⟩ := bf5_ BK112.out; have hfz15_5 := blk_frozen BK112.out 5) | ((with_reducible refine gate_callee (f := 111) rfl ?_); refine goesL_ (some 5) rfl rfl Try.func111 (by kernel_rfl) rfl #[.int .i64 a0_0, .int .i64 0, .int .i64 1000000] rfl ul_ ?_; (with_reducible refine (spec_l01In.calls a0_0 0 1000000 true _ A2.out).mono ?_); rintro e w' ⟨rfl, ⟨nd, rfl⟩⟩; refine ⟨_, rfl, ?_⟩) | (go_at_call 111; (with_reducible refine (spec_l01In.calls a0_1 0 65535 true _ A4.out).mono ?_); rintro e w' ⟨rfl, ⟨nd, rfl⟩⟩) | (go_at_call 111; (with_reducible refine (spec_l01In.calls a0_2 1 1000000000 true _ A6.out).mono ?_); rintro e w' ⟨rfl, ⟨nd, rfl⟩⟩) | (go_at_call 111; (with_reducible refine (spec_l01In.calls a0_3 (-1000000000) 1000000000 true _ A8.out).mono ?_); rintro e w' ⟨rfl, ⟨nd, rfl⟩⟩) | (go_at_call 183; (with_reducible refine (spec_l05Value.calls a0_4 true _ A10.out).mono ?_); rintro e w' ⟨rfl, ⟨nd, rfl⟩⟩) | (go_at_call 183; (with_reducible refine (spec_l05Value.calls a0_5 true _ A12.out).mono ?_); rintro e w' ⟨rfl, ⟨nd, rfl⟩⟩))
       go_ret
       exact ⟨ew_, ue_ HB.out⟩
      ·
       replace c13 := Bool.eq_false_iff.mpr c13
       subst c13
       have H1 : (some false) = some r := by rw [if_neg (show ¬ (false = true) by decide)] at H; exact H
       clear H
       have H := H1
       clear H1
       obtain rfl := Option.some.inj H
       go_enter Try.func157, Try.ntmps157
       go_wp2_with (first | ((with_reducible refine gate_dst (N := 1) rfl ?_); refine box_event ?hg (N := 1) ?hd (cs := #[.int .i64 a0_0, .int .i64 a0_1, .int .i64 a0_2, .int .i64 a0_3, .int .i64 a0_4, .int .i64 a0_5]) (t := 80) ?hr ?_; (case hd => rfl); (case hg => rfl); (case hr => first | (go_simp; done) | (go_simp; rfl)); intro gb112 hg w16 hbox hb; have n0_ := am_ (below_step (ue_ HB.out) hb); have n1_ := am_ (hbox); have n2_ := am_ ((by rw [hg]; exact (below_size (ue_ HB.out)) : w.heap.size ≤ gb112)); have n3_ := am_ ((by rw [hg]; exact (below_size (ue_ HB.out)) : w.heap.size ≤ gb112)); clear HB; have HB := n0_; have BK112 := n1_; have GW112 := n2_; have GE112 := n3_; clear n0_ n1_ n2_ n3_; clear hb hbox hg; obtain ⟨hcz17_0, hcz17_1, hcz17_2, hcz17_3, hcz17_4, hcz17_5⟩ := cb6_ BK112.out; obtain ⟨hfz17_0, hfz17_1, hfz17_2, hfz17_3, hfz17_4⟩ := bf5_ BK112.out; have hfz17_5 := blk_frozen BK112.out 5) | ((with_reducible refine gate_callee (f := 111) rfl ?_); refine goesL_ (some 5) rfl rfl Try.func111 (by kernel_rfl) rfl #[.int .i64 a0_0, .int .i64 0, .int .i64 1000000] rfl ul_ ?_; (with_reducible refine (spec_l01In.calls a0_0 0 1000000 true _ A2.out).mono ?_); rintro e w' ⟨rfl, ⟨nd, rfl⟩⟩; refine ⟨_, rfl, ?_⟩) | (go_at_call 111; (with_reducible refine (spec_l01In.calls a0_1 0 65535 true _ A4.out).mono ?_); rintro e w' ⟨rfl, ⟨nd, rfl⟩⟩) | (go_at_call 111; (with_reducible refine (spec_l01In.calls a0_2 1 1000000000 true _ A6.out).mono ?_); rintro e w' ⟨rfl, ⟨nd, rfl⟩⟩) | (go_at_call 111; (with_reducible refine (spec_l01In.calls a0_3 (-1000000000) 1000000000 true _ A8.out).mono ?_); rintro e w' ⟨rfl, ⟨nd, rfl⟩⟩) | (go_at_call 183; (with_reducible refine (spec_l05Value.calls a0_4 true _ A10.out).mono ?_); rintro e w' ⟨rfl, ⟨nd, rfl⟩⟩) | (go_at_call 183; (with_reducible refine (spec_l05Value.calls a0_5 false _ A12.out).mono ?_); rintro e w' ⟨rfl, ⟨nd, rfl⟩⟩))
       go_ret
       exact ⟨ew_, ue_ HB.out⟩
     ·
      replace c11 := Bool.eq_false_iff.mpr c11
      subst c11
      have H1 : (some false) = some r := by rw [if_neg (show ¬ (false = true) by decide)] at H; exact H
      clear H
      have H := H1
      clear H1
      obtain rfl := Option.some.inj H
      go_enter Try.func157, Try.ntmps157
      go_wp2_with (first | ((with_reducible refine gate_dst (N := 1) rfl ?_); refine box_event ?hg (N := 1) ?hd (cs := #[.int .i64 a0_0, .int .i64 a0_1, .int .i64 a0_2, .int .i64 a0_3, .int .i64 a0_4, .int .i64 a0_5]) (t := 80) ?hr ?_; (case hd => rfl); (case hg => rfl); (case hr => first | (go_simp; done) | (go_simp; rfl)); intro gb112 hg w18 hbox hb; have n0_ := am_ (below_step (ue_ HB.out) hb); have n1_ := am_ (hbox); have n2_ := am_ ((by rw [hg]; exact (below_size (ue_ HB.out)) : w.heap.size ≤ gb112)); have n3_ := am_ ((by rw [hg]; exact (below_size (ue_ HB.out)) : w.heap.size ≤ gb112)); clear HB; have HB := n0_; have BK112 := n1_; have GW112 := n2_; have GE112 := n3_; clear n0_ n1_ n2_ n3_; clear hb hbox hg; obtain ⟨hcz19_0, hcz19_1, hcz19_2, hcz19_3, hcz19_4, hcz19_5⟩ := cb6_ BK112.out; obtain ⟨hfz19_0, hfz19_1, hfz19_2, hfz19_3, hfz19_4⟩ := bf5_ BK112.out; have hfz19_5 := blk_frozen BK112.out 5) | ((with_reducible refine gate_callee (f := 111) rfl ?_); refine goesL_ (some 5) rfl rfl Try.func111 (by kernel_rfl) rfl #[.int .i64 a0_0, .int .i64 0, .int .i64 1000000] rfl ul_ ?_; (with_reducible refine (spec_l01In.calls a0_0 0 1000000 true _ A2.out).mono ?_); rintro e w' ⟨rfl, ⟨nd, rfl⟩⟩; refine ⟨_, rfl, ?_⟩) | (go_at_call 111; (with_reducible refine (spec_l01In.calls a0_1 0 65535 true _ A4.out).mono ?_); rintro e w' ⟨rfl, ⟨nd, rfl⟩⟩) | (go_at_call 111; (with_reducible refine (spec_l01In.calls a0_2 1 1000000000 true _ A6.out).mono ?_); rintro e w' ⟨rfl, ⟨nd, rfl⟩⟩) | (go_at_call 111; (with_reducible refine (spec_l01In.calls a0_3 (-1000000000) 1000000000 true _ A8.out).mono ?_); rintro e w' ⟨rfl, ⟨nd, rfl⟩⟩) | (go_at_call 183; (with_reducible refine (spec_l05Value.calls a0_4 false _ A10.out).mono ?_); rintro e w' ⟨rfl, ⟨nd, rfl⟩⟩))
      go_ret
      exact ⟨ew_, ue_ HB.out⟩
    ·
     replace c9 := Bool.eq_false_iff.mpr c9
     subst c9
     have H1 : (some false) = some r := by rw [if_neg (show ¬ (false = true) by decide)] at H; exact H
     clear H
     have H := H1
     clear H1
     obtain rfl := Option.some.inj H
     go_enter Try.func157, Try.ntmps157
     go_wp2_with (first | ((with_reducible refine gate_dst (N := 1) rfl ?_); refine box_event ?hg (N := 1) ?hd (cs := #[.int .i64 a0_0, .int .i64 a0_1, .int .i64 a0_2, .int .i64 a0_3, .int .i64 a0_4, .int .i64 a0_5]) (t := 80) ?hr ?_; (case hd => rfl); (case hg => rfl); (case hr => first | (go_simp; done) | (go_simp; rfl)); intro gb112 hg w20 hbox hb; have n0_ := am_ (below_step (ue_ HB.out) hb); have n1_ := am_ (hbox); have n2_ := am_ ((by rw [hg]; exact (below_size (ue_ HB.out)) : w.heap.size ≤ gb112)); have n3_ := am_ ((by rw [hg]; exact (below_size (ue_ HB.out)) : w.heap.size ≤ gb112)); clear HB; have HB := n0_; have BK112 := n1_; have GW112 := n2_; have GE112 := n3_; clear n0_ n1_ n2_ n3_; clear hb hbox hg; obtain ⟨hcz21_0, hcz21_1, hcz21_2, hcz21_3, hcz21_4, hcz21_5⟩ := cb6_ BK112.out; obtain ⟨hfz21_0, hfz21_1, hfz21_2, hfz21_3, hfz21_4⟩ := bf5_ BK112.out; have hfz21_5 := blk_frozen BK112.out 5) | ((with_reducible refine gate_callee (f := 111) rfl ?_); refine goesL_ (some 5) rfl rfl Try.func111 (by kernel_rfl) rfl #[.int .i64 a0_0, .int .i64 0, .int .i64 1000000] rfl ul_ ?_; (with_reducible refine (spec_l01In.calls a0_0 0 1000000 true _ A2.out).mono ?_); rintro e w' ⟨rfl, ⟨nd, rfl⟩⟩; refine ⟨_, rfl, ?_⟩) | (go_at_call 111; (with_reducible refine (spec_l01In.calls a0_1 0 65535 true _ A4.out).mono ?_); rintro e w' ⟨rfl, ⟨nd, rfl⟩⟩) | (go_at_call 111; (with_reducible refine (spec_l01In.calls a0_2 1 1000000000 true _ A6.out).mono ?_); rintro e w' ⟨rfl, ⟨nd, rfl⟩⟩) | (go_at_call 111; (with_reducible refine (spec_l01In.calls a0_3 (-1000000000) 1000000000 false _ A8.out).mono ?_); rintro e w' ⟨rfl, ⟨nd, rfl⟩⟩))
     go_ret
     exact ⟨ew_, ue_ HB.out⟩
   ·
    replace c7 := Bool.eq_false_iff.mpr c7
    subst c7
    have H1 : (some false) = some r := by rw [if_neg (show ¬ (false = true) by decide)] at H; exact H
    clear H
    have H := H1
    clear H1
    obtain rfl := Option.some.inj H
    go_enter Try.func157, Try.ntmps157
    go_wp2_with (first | ((with_reducible refine gate_dst (N := 1) rfl ?_); refine box_event ?hg (N := 1) ?hd (cs := #[.int .i64 a0_0, .int .i64 a0_1, .int .i64 a0_2, .int .i64 a0_3, .int .i64 a0_4, .int .i64 a0_5]) (t := 80) ?hr ?_; (case hd => rfl); (case hg => rfl); (case hr => first | (go_simp; done) | (go_simp; rfl)); intro gb112 hg w22 hbox hb; have n0_ := am_ (below_step (ue_ HB.out) hb); have n1_ := am_ (hbox); have n2_ := am_ ((by rw [hg]; exact (below_size (ue_ HB.out)) : w.heap.size ≤ gb112)); have n3_ := am_ ((by rw [hg]; exact (below_size (ue_ HB.out)) : w.heap.size ≤ gb112)); clear HB; have HB := n0_; have BK112 := n1_; have GW112 := n2_; have GE112 := n3_; clear n0_ n1_ n2_ n3_; clear hb hbox hg; obtain ⟨hcz23_0, hcz23_1, hcz23_2, hcz23_3, hcz23_4, hcz23_5⟩ := cb6_ BK112.out; obtain ⟨hfz23_0, hfz23_1, hfz23_2, hfz23_3, hfz23_4⟩ := bf5_ BK112.out; have hfz23_5 := blk_frozen BK112.out 5) | ((with_reducible refine gate_callee (f := 111) rfl ?_); refine goesL_ (some 5) rfl rfl Try.func111 (by kernel_rfl) rfl #[.int .i64 a0_0, .int .i64 0, .int .i64 1000000] rfl ul_ ?_; (with_reducible refine (spec_l01In.calls a0_0 0 1000000 true _ A2.out).mono ?_); rintro e w' ⟨rfl, ⟨nd, rfl⟩⟩; refine ⟨_, rfl, ?_⟩) | (go_at_call 111; (with_reducible refine (spec_l01In.calls a0_1 0 65535 true _ A4.out).mono ?_); rintro e w' ⟨rfl, ⟨nd, rfl⟩⟩) | (go_at_call 111; (with_reducible refine (spec_l01In.calls a0_2 1 1000000000 false _ A6.out).mono ?_); rintro e w' ⟨rfl, ⟨nd, rfl⟩⟩))
    go_ret
    exact ⟨ew_, ue_ HB.out⟩
  ·
   replace c5 := Bool.eq_false_iff.mpr c5
   subst c5
   have H1 : (some false) = some r := by rw [if_neg (show ¬ (false = true) by decide)] at H; exact H
   clear H
   have H := H1
   clear H1
   obtain rfl := Option.some.inj H
   go_enter Try.func157, Try.ntmps157
   go_wp2_with (first | ((with_reducible refine gate_dst (N := 1) rfl ?_); refine box_event ?hg (N := 1) ?hd (cs := #[.int .i64 a0_0, .int .i64 a0_1, .int .i64 a0_2, .int .i64 a0_3, .int .i64 a0_4, .int .i64 a0_5]) (t := 80) ?hr ?_; (case hd => rfl); (case hg => rfl); (case hr => first | (go_simp; done) | (go_simp; rfl)); intro gb112 hg w24 hbox hb; have n0_ := am_ (below_step (ue_ HB.out) hb); have n1_ := am_ (hbox); have n2_ := am_ ((by rw [hg]; exact (below_size (ue_ HB.out)) : w.heap.size ≤ gb112)); have n3_ := am_ ((by rw [hg]; exact (below_size (ue_ HB.out)) : w.heap.size ≤ gb112)); clear HB; have HB := n0_; have BK112 := n1_; have GW112 := n2_; have GE112 := n3_; clear n0_ n1_ n2_ n3_; clear hb hbox hg; obtain ⟨hcz25_0, hcz25_1, hcz25_2, hcz25_3, hcz25_4, hcz25_5⟩ := cb6_ BK112.out; obtain ⟨hfz25_0, hfz25_1, hfz25_2, hfz25_3, hfz25_4⟩ := bf5_ BK112.out; have hfz25_5 := blk_frozen BK112.out 5) | ((with_reducible refine gate_callee (f := 111) rfl ?_); refine goesL_ (some 5) rfl rfl Try.func111 (by kernel_rfl) rfl #[.int .i64 a0_0, .int .i64 0, .int .i64 1000000] rfl ul_ ?_; (with_reducible refine (spec_l01In.calls a0_0 0 1000000 true _ A2.out).mono ?_); rintro e w' ⟨rfl, ⟨nd, rfl⟩⟩; refine ⟨_, rfl, ?_⟩) | (go_at_call 111; (with_reducible refine (spec_l01In.calls a0_1 0 65535 false _ A4.out).mono ?_); rintro e w' ⟨rfl, ⟨nd, rfl⟩⟩))
   go_ret
   exact ⟨ew_, ue_ HB.out⟩
 ·
  replace c3 := Bool.eq_false_iff.mpr c3
  subst c3
  have H1 : (some false) = some r := by rw [if_neg (show ¬ (false = true) by decide)] at H; exact H
  clear H
  have H := H1
  clear H1
  obtain rfl := Option.some.inj H
  go_enter Try.func157, Try.ntmps157
  go_wp2_with (first | ((with_reducible refine gate_dst (N := 1) rfl ?_); refine box_event ?hg (N := 1) ?hd (cs := #[.int .i64 a0_0, .int .i64 a0_1, .int .i64 a0_2, .int .i64 a0_3, .int .i64 a0_4, .int .i64 a0_5]) (t := 80) ?hr ?_; (case hd => rfl); (case hg => rfl); (case hr => first | (go_simp; done) | (go_simp; rfl)); intro gb112 hg w26 hbox hb; have n0_ := am_ (below_step (ue_ HB.out) hb); have n1_ := am_ (hbox); have n2_ := am_ ((by rw [hg]; exact (below_size (ue_ HB.out)) : w.heap.size ≤ gb112)); have n3_ := am_ ((by rw [hg]; exact (below_size (ue_ HB.out)) : w.heap.size ≤ gb112)); clear HB; have HB := n0_; have BK112 := n1_; have GW112 := n2_; have GE112 := n3_; clear n0_ n1_ n2_ n3_; clear hb hbox hg; obtain ⟨hcz27_0, hcz27_1, hcz27_2, hcz27_3, hcz27_4, hcz27_5⟩ := cb6_ BK112.out; obtain ⟨hfz27_0, hfz27_1, hfz27_2, hfz27_3, hfz27_4⟩ := bf5_ BK112.out; have hfz27_5 := blk_frozen BK112.out 5) | ((with_reducible refine gate_callee (f := 111) rfl ?_); refine goesL_ (some 5) rfl rfl Try.func111 (by kernel_rfl) rfl #[.int .i64 a0_0, .int .i64 0, .int .i64 1000000] rfl ul_ ?_; (with_reducible refine (spec_l01In.calls a0_0 0 1000000 false _ A2.out).mono ?_); rintro e w' ⟨rfl, ⟨nd, rfl⟩⟩; refine ⟨_, rfl, ?_⟩))
  go_ret
  exact ⟨ew_, ue_ HB.out⟩

/-! ### spec_l05Ahead: function 158 -/
def spec_l05Ahead.f (a0_0 : Int) (a0_1 : Int) (a0_2 : Int) (a0_3 : Int) (a0_4 : Int) (a0_5 : Int) (a1_0 : Int) (a1_1 : Int) (a1_2 : Int) (a1_3 : Int) (a1_4 : Int) (a1_5 : Int) : Option (Bool) := if a0_0 < a1_0 then (some true) else (if a0_0 = a1_0 then (some (decide (a0_1 < a1_1))) else (some false))
set_option maxHeartbeats 8000000 in
set_option maxRecDepth 100000 in
theorem spec_l05Ahead.calls (a0_0 : Int) (a0_1 : Int) (a0_2 : Int) (a0_3 : Int) (a0_4 : Int) (a0_5 : Int) (a1_0 : Int) (a1_1 : Int) (a1_2 : Int) (a1_3 : Int) (a1_4 : Int) (a1_5 : Int) (r : Bool) (w : World) (h : spec_l05Ahead.f a0_0 a0_1 a0_2 a0_3 a0_4 a0_5 a1_0 a1_1 a1_2 a1_3 a1_4 a1_5 = some r) :
  Calls Try.prog 158 #[.agg #[.int .i64 a0_0, .int .i64 a0_1, .int .i64 a0_2, .int .i64 a0_3, .int .i64 a0_4, .int .i64 a0_5], .agg #[.int .i64 a1_0, .int .i64 a1_1, .int .i64 a1_2, .int .i64 a1_3, .int .i64 a1_4, .int .i64 a1_5]] w fun e w' => e = .returned (.bool r) ∧ Below w.heap.size w w' := by
 have hu80 := Try.underlying80
 have HB := am_ (Below.refl w.heap.size w)
 have H : (if a0_0 < a1_0 then (some true) else (if a0_0 = a1_0 then (some (decide (a0_1 < a1_1))) else (some false))) = some r := h
 clear h
 by_cases c3 : a0_0 < a1_0
 ·
  rw [if_pos c3] at H
  have c3b0 : decide (a0_0 < a1_0) = true := decide_eq_true c3
  clear c3
  obtain rfl := Option.some.inj H
  go_enter Try.func158, Try.ntmps158
  go_wp2_with (first | ((with_reducible refine gate_dst (N := 2) rfl ?_); refine box_event ?hg (N := 2) ?hd (cs := #[.int .i64 a0_0, .int .i64 a0_1, .int .i64 a0_2, .int .i64 a0_3, .int .i64 a0_4, .int .i64 a0_5]) (t := 80) ?hr ?_; (case hd => rfl); (case hg => rfl); (case hr => first | (go_simp; done) | (go_simp; rfl)); intro gb119 hg w4 hbox hb; have n0_ := am_ (below_step (ue_ HB.out) hb); have n1_ := am_ (hbox); have n2_ := am_ ((by rw [hg]; exact (below_size (ue_ HB.out)) : w.heap.size ≤ gb119)); have n3_ := am_ ((by rw [hg]; exact (below_size (ue_ HB.out)) : w.heap.size ≤ gb119)); clear HB; have HB := n0_; have BK119 := n1_; have GW119 := n2_; have GE119 := n3_; clear n0_ n1_ n2_ n3_; clear hb hbox hg) | ((with_reducible refine gate_dst (N := 3) rfl ?_); refine box_event ?hg (N := 3) ?hd (cs := #[.int .i64 a1_0, .int .i64 a1_1, .int .i64 a1_2, .int .i64 a1_3, .int .i64 a1_4, .int .i64 a1_5]) (t := 80) ?hr ?_; (case hd => rfl); (case hg => rfl); (case hr => first | (go_simp; done) | (go_simp; rfl)); intro gb120 hg w5 hbox hb; have n0_ := am_ (bb_ BK119.out hb); have n1_ := am_ (below_step (ue_ HB.out) hb); have n2_ := am_ (hbox); have n3_ := am_ ((by rw [hg]; exact (below_size (ue_ HB.out)) : w.heap.size ≤ gb120)); have n4_ := am_ ((by rw [hg]; exact (below_size (ue_ HB.out)) : w.heap.size ≤ gb120)); have n5_ := am_ ((by rw [hg]; exact Nat.ne_of_lt (bl_ BK119.out) : gb119 ≠ gb120)); have n6_ := am_ ((by rw [hg]; exact Nat.ne_of_gt (bl_ BK119.out) : gb120 ≠ gb119)); clear BK119 HB; have BK119 := n0_; have HB := n1_; have BK120 := n2_; have GW120 := n3_; have GE120 := n4_; have NB119_120 := n5_; have NB120_119 := n6_; clear n0_ n1_ n2_ n3_ n4_ n5_ n6_; clear hb hbox hg; have hnb6 := NB119_120.out; have hnc6 := NB120_119.out; obtain ⟨hcz7_0, hcz7_1, hcz7_2, hcz7_3, hcz7_4, hcz7_5⟩ := cb6_ BK119.out; obtain ⟨hfz7_0, hfz7_1, hfz7_2, hfz7_3, hfz7_4, hfz7_5⟩ := bf6_ BK119.out; obtain ⟨hcz8_0, hcz8_1, hcz8_2, hcz8_3, hcz8_4, hcz8_5⟩ := cb6_ BK120.out; obtain ⟨hfz8_0, hfz8_1, hfz8_2, hfz8_3, hfz8_4⟩ := bf5_ BK120.out; have hfz8_5 := blk_frozen BK120.out 5))
  go_ret
  exact ⟨ew_, ue_ HB.out⟩
 ·
  rw [if_neg c3] at H
  have c3b0 : decide (a0_0 < a1_0) = false := decide_eq_false c3
  clear c3
  by_cases c9 : a0_0 = a1_0
  ·
   rw [if_pos c9] at H
   have c9b0 : (a0_0 == a1_0) = true := beq_iff_eq.mpr c9
   have c9b1 : (a0_0 != a1_0) = false := bne_eq_false_iff_eq.mpr c9
   clear c9
   obtain rfl := Option.some.inj H
   go_enter Try.func158, Try.ntmps158
   go_wp2_with (first | ((with_reducible refine gate_dst (N := 2) rfl ?_); refine box_event ?hg (N := 2) ?hd (cs := #[.int .i64 a0_0, .int .i64 a0_1, .int .i64 a0_2, .int .i64 a0_3, .int .i64 a0_4, .int .i64 a0_5]) (t := 80) ?hr ?_; (case hd => rfl); (case hg => rfl); (case hr => first | (go_simp; done) | (go_simp; rfl)); intro gb119 hg w10 hbox hb; have n0_ := am_ (below_step (ue_ HB.out) hb); have n1_ := am_ (hbox); have n2_ := am_ ((by rw [hg]; exact (below_size (ue_ HB.out)) : w.heap.size ≤ gb119)); have n3_ := am_ ((by rw [hg]; exact (below_size (ue_ HB.out)) : w.heap.size ≤ gb119)); clear HB; have HB := n0_; have BK119 := n1_; have GW119 := n2_; have GE119 := n3_; clear n0_ n1_ n2_ n3_; clear hb hbox hg) | ((with_reducible refine gate_dst (N := 3) rfl ?_); refine box_event ?hg (N := 3) ?hd (cs := #[.int .i64 a1_0, .int .i64 a1_1, .int .i64 a1_2, .int .i64 a1_3, .int .i64 a1_4, .int .i64 a1_5]) (t := 80) ?hr ?_; (case hd => rfl); (case hg => rfl); (case hr => first | (go_simp; done) | (go_simp; rfl)); intro gb120 hg w11 hbox hb; have n0_ := am_ (bb_ BK119.out hb); have n1_ := am_ (below_step (ue_ HB.out) hb); have n2_ := am_ (hbox); have n3_ := am_ ((by rw [hg]; exact (below_size (ue_ HB.out)) : w.heap.size ≤ gb120)); have n4_ := am_ ((by rw [hg]; exact (below_size (ue_ HB.out)) : w.heap.size ≤ gb120)); have n5_ := am_ ((by rw [hg]; exact Nat.ne_of_lt (bl_ BK119.out) : gb119 ≠ gb120)); have n6_ := am_ ((by rw [hg]; exact Nat.ne_of_gt (bl_ BK119.out) : gb120 ≠ gb119)); clear BK119 HB; have BK119 := n0_; have HB := n1_; have BK120 := n2_; have GW120 := n3_; have GE120 := n4_; have NB119_120 := n5_; have NB120_119 := n6_; clear n0_ n1_ n2_ n3_ n4_ n5_ n6_; clear hb hbox hg; have hnb12 := NB119_120.out; have hnc12 := NB120_119.out; obtain ⟨hcz13_0, hcz13_1, hcz13_2, hcz13_3, hcz13_4, hcz13_5⟩ := cb6_ BK119.out; obtain ⟨hfz13_0, hfz13_1, hfz13_2, hfz13_3, hfz13_4, hfz13_5⟩ := bf6_ BK119.out; obtain ⟨hcz14_0, hcz14_1, hcz14_2, hcz14_3, hcz14_4, hcz14_5⟩ := cb6_ BK120.out; obtain ⟨hfz14_0, hfz14_1, hfz14_2, hfz14_3, hfz14_4⟩ := bf5_ BK120.out; have hfz14_5 := blk_frozen BK120.out 5))
   go_ret
   exact ⟨ew_, ue_ HB.out⟩
  ·
   rw [if_neg c9] at H
   have c9b0 : (a0_0 == a1_0) = false := beq_eq_false_iff_ne.mpr c9
   have c9b1 : (a0_0 != a1_0) = true := bne_iff_ne.mpr c9
   obtain rfl := Option.some.inj H
   go_enter Try.func158, Try.ntmps158
   go_wp2_with (first | ((with_reducible refine gate_dst (N := 2) rfl ?_); refine box_event ?hg (N := 2) ?hd (cs := #[.int .i64 a0_0, .int .i64 a0_1, .int .i64 a0_2, .int .i64 a0_3, .int .i64 a0_4, .int .i64 a0_5]) (t := 80) ?hr ?_; (case hd => rfl); (case hg => rfl); (case hr => first | (go_simp; done) | (go_simp; rfl)); intro gb119 hg w15 hbox hb; have n0_ := am_ (below_step (ue_ HB.out) hb); have n1_ := am_ (hbox); have n2_ := am_ ((by rw [hg]; exact (below_size (ue_ HB.out)) : w.heap.size ≤ gb119)); have n3_ := am_ ((by rw [hg]; exact (below_size (ue_ HB.out)) : w.heap.size ≤ gb119)); clear HB; have HB := n0_; have BK119 := n1_; have GW119 := n2_; have GE119 := n3_; clear n0_ n1_ n2_ n3_; clear hb hbox hg) | ((with_reducible refine gate_dst (N := 3) rfl ?_); refine box_event ?hg (N := 3) ?hd (cs := #[.int .i64 a1_0, .int .i64 a1_1, .int .i64 a1_2, .int .i64 a1_3, .int .i64 a1_4, .int .i64 a1_5]) (t := 80) ?hr ?_; (case hd => rfl); (case hg => rfl); (case hr => first | (go_simp; done) | (go_simp; rfl)); intro gb120 hg w16 hbox hb; have n0_ := am_ (bb_ BK119.out hb); have n1_ := am_ (below_step (ue_ HB.out) hb); have n2_ := am_ (hbox); have n3_ := am_ ((by rw [hg]; exact (below_size (ue_ HB.out)) : w.heap.size ≤ gb120)); have n4_ := am_ ((by rw [hg]; exact (below_size (ue_ HB.out)) : w.heap.size ≤ gb120)); have n5_ := am_ ((by rw [hg]; exact Nat.ne_of_lt (bl_ BK119.out) : gb119 ≠ gb120)); have n6_ := am_ ((by rw [hg]; exact Nat.ne_of_gt (bl_ BK119.out) : gb120 ≠ gb119)); clear BK119 HB; have BK119 := n0_; have HB := n1_; have BK120 := n2_; have GW120 := n3_; have GE120 := n4_; have NB119_120 := n5_; have NB120_119 := n6_; clear n0_ n1_ n2_ n3_ n4_ n5_ n6_; clear hb hbox hg; have hnb17 := NB119_120.out; have hnc17 := NB120_119.out; obtain ⟨hcz18_0, hcz18_1, hcz18_2, hcz18_3, hcz18_4, hcz18_5⟩ := cb6_ BK119.out; obtain ⟨hfz18_0, hfz18_1, hfz18_2, hfz18_3, hfz18_4, hfz18_5⟩ := bf6_ BK119.out; obtain ⟨hcz19_0, hcz19_1, hcz19_2, hcz19_3, hcz19_4, hcz19_5⟩ := cb6_ BK120.out; obtain ⟨hfz19_0, hfz19_1, hfz19_2, hfz19_3, hfz19_4⟩ := bf5_ BK120.out; have hfz19_5 := blk_frozen BK120.out 5))
   go_ret
   exact ⟨ew_, ue_ HB.out⟩

end Go.Proofs.Ytcflalomjehiiaa.QFnExactRaiseMark
