/- The machine side of a law: Lean functions with the Go functions' answers and the walks that show it. No condition. -/
import Derived.Test.YtcflalomjehiiaaQFnRingsx0
import Derived.Test.YtcflalomjehiiaaQFnRingsx1
import Derived.Test.YtcflalomjehiiaaQFnRingsx2
namespace Go.Proofs.Ytcflalomjehiiaa.QFnRings
open Go.RowKit Go.Proofs.YtcflalomjehiiaaW.PrintWords Go.Proofs.YtcflalomjehiiaaW.PrintLast Go.Proofs.YtcflalomjehiiaaW.PrintMore
attribute [local go_sem] max2_int min2_int max_two min_two max_three min_three max_four min_four   -- for this text's walks alone
set_option linter.unusedVariables false
set_option linter.unusedSimpArgs false

/-! ### spec_PlayLink: function 14 -/
mutual
def spec_PlayLink.j0 : Nat → Int → List Int → Bool → List Int → Int → Int → Option (List Int × Int × Int × Int × Int × List Int)
 | 0, _, _, _, _, _, _ => none
 | k + 1, x0, x1, x29, x162000, x162001, x162002 => if x29 = true then (some (([] : List Int), 0, 0, 0, 0, ([] : List Int))) else (spec_PlayLink.l0 k x1 (([] : List Int)) 0 x162000 x162001 x162002 x0 0)
def spec_PlayLink.l0 : Nat → List Int → List Int → Int → List Int → Int → Int → Int → Int → Option (List Int × Int × Int × Int × Int × List Int)
 | 0, _, _, _, _, _, _, _, _ => none
 | k + 1, x1, x10, x11, x162000, x162001, x162002, x163000, x163001 => if x11 < (x1.length : Int) then (if 0 ≤ x11 then (if (rd x1 x11) ≥ 0 then ((spec_SpendCredit.f x163000 x163001).bind fun bt167 => (if bt167.2.2 = true then ((spec_PushRing.f k x162000 x162001 x162002 (rd x1 x11)).bind fun bt172 => (if x10.length < 17592186044416 then (spec_PlayLink.l0 k x1 (x10 ++ [1]) (wrap64 (x11 + 1)) bt172.1 bt172.2.1 bt172.2.2.1 bt167.1 bt167.2.1) else (none))) else (if x10.length < 17592186044416 then (spec_PlayLink.l0 k x1 (x10 ++ [0]) (wrap64 (x11 + 1)) x162000 x162001 x162002 x163000 x163001) else (none)))) else ((spec_PopRing.f k x162000 x162001 x162002).bind fun bt184 => (if bt184.2.2.2.2 = true then ((spec_ReturnCredit.f x163000 x163001).bind fun bt192 => (if x10.length < 17592186044416 then (spec_PlayLink.l0 k x1 (x10 ++ [bt184.2.2.2.1]) (wrap64 (x11 + 1)) bt184.1 bt184.2.1 bt184.2.2.1 bt192.1 bt192.2.1) else (none))) else (if x10.length < 17592186044416 then (spec_PlayLink.l0 k x1 (x10 ++ [(-1)]) (wrap64 (x11 + 1)) x162000 x162001 x162002 x163000 x163001) else (none))))) else (none)) else (some (x162000, x162001, x162002, x163000, x163001, x10))
end
def spec_PlayLink.f (k : Nat) (a0 : Int) (l1 : List Int) : Option (List Int × Int × Int × Int × Int × List Int) := (spec_NewRing.f a0).bind fun bt155 => (if bt155.2.2.2 = true then (spec_PlayLink.j0 k a0 l1 (decide ((l1.length : Int) > 300)) bt155.1 bt155.2.1 bt155.2.2.1) else (spec_PlayLink.j0 k a0 l1 true bt155.1 bt155.2.1 bt155.2.2.1))
theorem spec_PlayLink.mono_l : ∀ k, (∀ y0 y1 y2 y3 y4 y5, LeO (spec_PlayLink.j0 k y0 y1 y2 y3 y4 y5) (spec_PlayLink.j0 (k + 1) y0 y1 y2 y3 y4 y5)) ∧ (∀ y0 y1 y2 y3 y4 y5 y6 y7, LeO (spec_PlayLink.l0 k y0 y1 y2 y3 y4 y5 y6 y7) (spec_PlayLink.l0 (k + 1) y0 y1 y2 y3 y4 y5 y6 y7))
 | 0 => ⟨fun _ _ _ _ _ _ r h => by simp [spec_PlayLink.j0] at h, fun _ _ _ _ _ _ _ _ r h => by simp [spec_PlayLink.l0] at h⟩
 | k + 1 => by
  obtain ⟨ih0, ih1⟩ := spec_PlayLink.mono_l k
  refine ⟨?_, ?_⟩
  ·
   intro y0 y1 y2 y3 y4 y5
   unfold spec_PlayLink.j0
   repeat' first
   | (with_reducible exact ih0 _ _ _ _ _ _)
   | (with_reducible exact ih1 _ _ _ _ _ _ _ _)
   | (with_reducible exact spec_PopRing.mono _ _ _ _)
   | (with_reducible exact spec_PushRing.mono _ _ _ _ _)
   | (with_reducible exact LeO.refl _)
   | (with_reducible exact LeO.none _)
   | (with_reducible refine LeO.ite ?_ ?_)
   | (with_reducible refine LeO.bind ?_ (fun _ => ?_))
   | exact ih0 _ _ _ _ _ _
   | exact ih1 _ _ _ _ _ _ _ _
   | exact spec_PopRing.mono _ _ _ _
   | exact spec_PushRing.mono _ _ _ _ _
   | exact LeO.none _
   | refine LeO.ite ?_ ?_
   | refine LeO.bind ?_ (fun _ => ?_)
  ·
   intro y0 y1 y2 y3 y4 y5 y6 y7
   unfold spec_PlayLink.l0
   repeat' first
   | (with_reducible exact ih0 _ _ _ _ _ _)
   | (with_reducible exact ih1 _ _ _ _ _ _ _ _)
   | (with_reducible exact spec_PopRing.mono _ _ _ _)
   | (with_reducible exact spec_PushRing.mono _ _ _ _ _)
   | (with_reducible exact LeO.refl _)
   | (with_reducible exact LeO.none _)
   | (with_reducible refine LeO.ite ?_ ?_)
   | (with_reducible refine LeO.bind ?_ (fun _ => ?_))
   | exact ih0 _ _ _ _ _ _
   | exact ih1 _ _ _ _ _ _ _ _
   | exact spec_PopRing.mono _ _ _ _
   | exact spec_PushRing.mono _ _ _ _ _
   | exact LeO.none _
   | refine LeO.ite ?_ ?_
   | refine LeO.bind ?_ (fun _ => ?_)
theorem spec_PlayLink.mono : ∀ a0 a1 k, LeO (spec_PlayLink.f k a0 a1) (spec_PlayLink.f (k + 1) a0 a1) := by
 intro a0 a1 k
 obtain ⟨ih0, ih1⟩ := spec_PlayLink.mono_l k
 unfold spec_PlayLink.f
 repeat' first
   | (with_reducible exact ih0 _ _ _ _ _ _)
   | (with_reducible exact ih1 _ _ _ _ _ _ _ _)
   | (with_reducible exact spec_PopRing.mono _ _ _ _)
   | (with_reducible exact spec_PushRing.mono _ _ _ _ _)
   | (with_reducible exact LeO.refl _)
   | (with_reducible exact LeO.none _)
   | (with_reducible refine LeO.ite ?_ ?_)
   | (with_reducible refine LeO.bind ?_ (fun _ => ?_))
   | exact ih0 _ _ _ _ _ _
   | exact ih1 _ _ _ _ _ _ _ _
   | exact spec_PopRing.mono _ _ _ _
   | exact spec_PushRing.mono _ _ _ _ _
   | exact LeO.none _
   | refine LeO.ite ?_ ?_
   | refine LeO.bind ?_ (fun _ => ?_)
def spec_PlayLink.T14 : Bool × List (List Nat × List Nat) := (true, [([], []), ([], []), ([], []), ([1, 2], [1, 2]), ([3], [3]), ([0, 4], [0, 4]), ([5], [5]), ([6], [6]), ([6], [6]), ([7, 5, 0, 1, 2, 3, 4, 5, 6, 7], [7])])
def spec_PlayLink.B14 : List Nat := [0, 0, 0, 6, 14, 31, 63, 127, 127, 255]
theorem spec_PlayLink.tab14 : rtab .any (opsOf Try.f14 14) = spec_PlayLink.T14 := by kernel_rfl
theorem spec_PlayLink.bits14 : waitsOk spec_PlayLink.T14.2 spec_PlayLink.B14 = true := by kernel_rfl
set_option maxHeartbeats 8000000 in
set_option maxRecDepth 100000 in
theorem spec_PlayLink.calls (k : Nat) (a0 : Int) (A1 : Option Addr) (c1 : Nat) (l1 : List Int) (r1 : List Int) (r2 : Int) (r3 : Int) (r4 : Int) (r5 : Int) (r6 : List Int) (w : World) (hr1 : Kd.C (Kd.int .i64) w A1 l1.length l1) (hc1 : l1.length ≤ c1) (h : spec_PlayLink.f k a0 l1 = some (r1, r2, r3, r4, r5, r6)) :
  Calls Try.prog 14 #[.int .i64 a0, .slice A1 l1.length c1] w fun e w' => ∃ v0_ v5_ : Value, e = .returned (.tuple #[.agg #[v0_, .int .i64 r2, .int .i64 r3], .agg #[.int .i64 r4, .int .i64 r5], v5_]) ∧ Kd.R (Kd.int .i64) 3 w' w.heap.size (fun k_ => some k_ ≠ (v5_ : Value).ownBlock) v0_ r1 ∧ Kd.R (Kd.int .i64) 3 w' w.heap.size (fun k_ => some k_ ≠ (v0_ : Value).ownBlock) v5_ r6 ∧ Below w.heap.size w w' := by
 have hu24 := Try.underlying24
 have hu26 := Try.underlying26
 have HR1 := Aside0.mk hr1
 have HC1 := Aside0.mk hc1
 clear hr1 hc1
 have HB := am_ (Below.refl w.heap.size w)
 have H : ((spec_NewRing.f a0).bind fun bt155 => (if bt155.2.2.2 = true then (spec_PlayLink.j0 k a0 l1 (decide ((l1.length : Int) > 300)) bt155.1 bt155.2.1 bt155.2.2.1) else (spec_PlayLink.j0 k a0 l1 true bt155.1 bt155.2.1 bt155.2.2.1))) = some (r1, r2, r3, r4, r5, r6) := h
 clear h
 replace H := Option.bind_eq_some_iff.mp H
 obtain ⟨⟨t155, t158, t159, t160⟩, A30, H⟩ := H
 replace H : (if t160 = true then (spec_PlayLink.j0 k a0 l1 (decide ((l1.length : Int) > 300)) t155 t158 t159) else (spec_PlayLink.j0 k a0 l1 true t155 t158 t159)) = some (r1, r2, r3, r4, r5, r6) := H
 have A3 := Aside0.mk A30
 clear A30
 have HC4 := Aside0.mk H
 clear H
 go_enter Try.func14, Try.ntmps14
 go_upto_region 2 with (first | ((with_reducible refine gate_dst (N := 4) rfl ?_); (try (refine gate_guard (by rfl) ?_; dsimp only)); refine box_event ?hg (N := 4) ?hd (cs := #[.slice none 0 0, .int .i64 0, .int .i64 0]) (t := 24) ?hr ?_; (case hd => rfl); (case hg => rfl); (case hr => first | (go_simp; done) | (go_simp; rfl)); intro gb153 hg w5 hbox hb; have n0_ := am_ (below_step (ue_ HB.out) hb); have n1_ := am_ (hbox); have n2_ := am_ ((by rw [hg]; exact (below_size (ue_ HB.out)) : w.heap.size ≤ gb153)); have n3_ := am_ ((by rw [hg]; exact (below_size (ue_ HB.out)) : w.heap.size ≤ gb153)); clear HB; have HB := n0_; have BK153 := n1_; have GW153 := n2_; have GE153 := n3_; clear n0_ n1_ n2_ n3_; clear hb hbox hg) | ((with_reducible refine gate_dst (N := 5) rfl ?_); (try (refine gate_guard (by rfl) ?_; dsimp only)); refine box_event ?hg (N := 5) ?hd (cs := #[.int .i64 0, .int .i64 0]) (t := 26) ?hr ?_; (case hd => rfl); (case hg => rfl); (case hr => first | (go_simp; done) | (go_simp; rfl)); intro gb154 hg w6 hbox hb; have n0_ := am_ (bb_ BK153.out hb); have n1_ := am_ (below_step (ue_ HB.out) hb); have n2_ := am_ (hbox); have n3_ := am_ ((by rw [hg]; exact (below_size (ue_ HB.out)) : w.heap.size ≤ gb154)); have n4_ := am_ ((by rw [hg]; exact (below_size (ue_ HB.out)) : w.heap.size ≤ gb154)); have n5_ := am_ ((by rw [hg]; exact Nat.ne_of_lt (bl_ BK153.out) : gb153 ≠ gb154)); have n6_ := am_ ((by rw [hg]; exact Nat.ne_of_gt (bl_ BK153.out) : gb154 ≠ gb153)); clear BK153 HB; have BK153 := n0_; have HB := n1_; have BK154 := n2_; have GW154 := n3_; have GE154 := n4_; have NB153_154 := n5_; have NB154_153 := n6_; clear n0_ n1_ n2_ n3_ n4_ n5_ n6_; clear hb hbox hg) | ((with_reducible refine gate_callee (f := 82) rfl ?_); refine goesL_ (some 20) rfl rfl Try.func82 (by kernel_rfl) rfl #[.int .i64 a0] rfl ul_ ?_; (with_reducible refine (spec_NewRing.calls a0 t155 t158 t159 t160 _ A3.out).mono ?_); rintro e w7 ⟨v156, rfl, ho0, hb⟩; refine ⟨_, rfl, ?_⟩; have n0_ := am_ (Kd.R_lower ho0 (below_size (ue_ HB.out))); have n1_ := am_ (bb_ BK153.out hb); have n2_ := am_ (bb_ BK154.out hb); have n3_ := am_ (below_step (ue_ HB.out) hb); clear BK153 BK154 HB; have HO157 := n0_; have BK153 := n1_; have BK154 := n2_; have HB := n3_; clear n0_ n1_ n2_ n3_; (try clear hb); (try clear hb2); (try clear hk); (try clear hi); (try clear ho0)) | ((with_reducible refine gate_dst (N := 7) rfl ?_); (try (refine gate_guard (by rfl) ?_; dsimp only)); refine box_event ?hg (N := 7) ?hd (cs := #[.slice none 0 0, .int .i64 0, .int .i64 0]) (t := 24) ?hr ?_; (case hd => rfl); (case hg => rfl); (case hr => first | (go_simp; done) | (go_simp; rfl)); intro gb161 hg w8 hbox hb; have n0_ := am_ (Kd.R_below (ur_ HO157.out) hb); have n1_ := am_ (bb_ BK153.out hb); have n2_ := am_ (bb_ BK154.out hb); have n3_ := am_ (below_step (ue_ HB.out) hb); have n4_ := am_ (hbox); have n5_ := am_ ((by rw [hg]; exact (below_size (ue_ HB.out)) : w.heap.size ≤ gb161)); have n6_ := am_ ((by rw [hg]; exact (below_size (ue_ HB.out)) : w.heap.size ≤ gb161)); have n7_ := am_ ((by rw [hg]; exact Nat.ne_of_lt (bl_ BK153.out) : gb153 ≠ gb161)); have n8_ := am_ ((by rw [hg]; exact Nat.ne_of_gt (bl_ BK153.out) : gb161 ≠ gb153)); have n9_ := am_ ((by rw [hg]; exact Nat.ne_of_lt (bl_ BK154.out) : gb154 ≠ gb161)); have n10_ := am_ ((by rw [hg]; exact Nat.ne_of_gt (bl_ BK154.out) : gb161 ≠ gb154)); clear HO157 BK153 BK154 HB; have HO157 := n0_; have BK153 := n1_; have BK154 := n2_; have HB := n3_; have BK161 := n4_; have GW161 := n5_; have GE161 := n6_; have NB153_161 := n7_; have NB161_153 := n8_; have NB154_161 := n9_; have NB161_154 := n10_; clear n0_ n1_ n2_ n3_ n4_ n5_ n6_ n7_ n8_ n9_ n10_; clear hb hbox hg; obtain ⟨Ao9, co9, eo9⟩ := Kd.R_slice HO157.out; subst eo9; have hnb10 := NB161_153.out; have hnc10 := NB153_161.out; have hnb11 := NB161_154.out; have hnc11 := NB154_161.out; obtain ⟨hcz12_0, hcz12_1, hcz12_2⟩ := cb3_ BK161.out; obtain ⟨hfz12_0, hfz12_1⟩ := bf2_ BK161.out; have hfz12_2 := blk_frozen BK161.out 2) | ((with_reducible refine gate_store (t := 24) (p := 7) rfl ?_); refine store_event (t := 24) (p := 7) (v := ?vo_w13) (w1 := (((w8.setCell ⟨gb161, 0, none⟩ (.slice Ao9 t155.length co9)).setCell ⟨gb161, 1, none⟩ (.int .i64 t158)).setCell ⟨gb161, 2, none⟩ (.int .i64 t159))) ?hg ?ho ?hn ?hr ?_; (case ho => rfl); (case hg => rfl); (case hn => rfl); (case hr => first | (go_simp; done) | (go_simp; rfl)); intro w13 hw; have n0_ : Aside0 (Kd.R (Kd.int .i64) 3 w13 w.heap.size (fun _ => True) (.slice Ao9 t155.length co9) t155) := ⟨(by rw [hw]; exact (by (with_reducible repeat (first | apply Kd.R_alloc | apply Kd.R_drewN | apply Kd.R_drew)); exact Kd.R_mono (Kd.R_far (p := ⟨gb161, 2, none⟩) (Kd.R_far (p := ⟨gb161, 1, none⟩) (Kd.R_far (p := ⟨gb161, 0, none⟩) (Kd.R_types HO157.out BK161.out (by decide)) (fun _ hk => by first | exact hk.2 | grind) (.slice Ao9 t155.length co9)) (fun _ hk => by first | exact hk.2 | grind) (.int .i64 t158)) (fun _ hk => by first | exact hk.2 | grind) (.int .i64 t159)) (fun _ hk => trivial)))⟩; have n1_ : Aside0 (w13.heap[gb153]? = some (.cells #[.slice none 0 0, .int .i64 0, .int .i64 0] 24 (0, 0))) := ⟨(by rw [hw]; exact (uf_ BK153.out))⟩; have n2_ : Aside0 (w13.heap[gb154]? = some (.cells #[.int .i64 0, .int .i64 0] 26 (0, 0))) := ⟨(by rw [hw]; exact (uf_ BK154.out))⟩; have n3_ : Aside0 (w13.heap[gb161]? = some (.cells #[.slice Ao9 t155.length co9, .int .i64 t158, .int .i64 t159] 24 (0, 0))) := ⟨(by rw [hw]; exact (by (with_reducible repeat first|apply bn_|apply bd_|apply ba_); refine blk_put (cs := #[.slice Ao9 t155.length co9, .int .i64 t158, .int .i64 0]) ?_ 2 _ rfl; refine blk_put (cs := #[.slice Ao9 t155.length co9, .int .i64 0, .int .i64 0]) ?_ 1 _ rfl; refine blk_put (cs := #[.slice none 0 0, .int .i64 0, .int .i64 0]) ?_ 0 _ rfl; (with_reducible repeat first|apply bn_|apply bd_|apply ba_); exact BK161.out))⟩; have n4_ : Aside0 (Below w.heap.size w w13) := ⟨(by rw [hw]; exact (ue_ HB.out))⟩; clear hw HO157 BK153 BK154 BK161 HB; have HO157 := n0_; have BK153 := n1_; have BK154 := n2_; have BK161 := n3_; have HB := n4_; clear n0_ n1_ n2_ n3_ n4_))
 (try simp only [Act.put, List.setIfInBounds_toArray, List.set_cons_zero, List.set_cons_succ])
 go_cut [29] (fun v29 wc => ∃ (kq : Nat) (x29_3 : Bool), v29 = .bool x29_3 ∧ Aside0 (spec_PlayLink.j0 kq a0 l1 x29_3 t155 t158 t159 = some (r1, r2, r3, r4, r5, r6)) ∧ Aside0 (kq ≤ k) ∧ Aside0 (Kd.R (Kd.int .i64) 3 wc w.heap.size (fun _ => True) (.slice Ao9 t155.length co9) t155) ∧ Aside0 (wc.heap[gb153]? = some (.cells #[(.slice none 0 0), .int .i64 0, .int .i64 0] 24 (0, 0))) ∧ Aside0 (wc.heap[gb154]? = some (.cells #[.int .i64 0, .int .i64 0] 26 (0, 0))) ∧ Aside0 (wc.heap[gb161]? = some (.cells #[(.slice Ao9 t155.length co9), .int .i64 t158, .int .i64 t159] 24 (0, 0))) ∧ Aside0 (Below w.heap.size w wc))
 case first =>
  have H := HC4.out
  clear HC4
  by_cases c14 : t160 = true
  ·
   subst c14
   have H1 : (spec_PlayLink.j0 k a0 l1 (decide ((l1.length : Int) > 300)) t155 t158 t159) = some (r1, r2, r3, r4, r5, r6) := by rw [if_pos rfl] at H; exact H
   clear H
   have H := H1
   clear H1
   have H' := Aside0.mk H
   clear H
   go_wp2
   go_meet
   case rel => exact ⟨_, (decide ((l1.length : Int) > 300)), (by first | rfl | (simp; done) | (simp [*]; done)), H', ⟨by first | omega | exact Nat.le_refl _⟩, ⟨by (with_reducible repeat (first | apply Kd.R_alloc | apply Kd.R_drewN | apply Kd.R_drew)); exact HO157.out⟩, ⟨by (with_reducible repeat first|apply bn_|apply bd_|apply ba_); exact BK153.out⟩, ⟨by (with_reducible repeat first|apply bn_|apply bd_|apply ba_); exact BK154.out⟩, ⟨by (with_reducible repeat first|apply bn_|apply bd_|apply ba_); exact BK161.out⟩, ⟨ue_ HB.out⟩⟩
  ·
   replace c14 := Bool.eq_false_iff.mpr c14
   subst c14
   have H1 : (spec_PlayLink.j0 k a0 l1 true t155 t158 t159) = some (r1, r2, r3, r4, r5, r6) := by rw [if_neg (show ¬ (false = true) by decide)] at H; exact H
   clear H
   have H := H1
   clear H1
   have H' := Aside0.mk H
   clear H
   go_wp2
   go_meet
   case rel => exact ⟨_, (true), (by first | rfl | (simp; done) | (simp [*]; done)), H', ⟨by first | omega | exact Nat.le_refl _⟩, ⟨by (with_reducible repeat (first | apply Kd.R_alloc | apply Kd.R_drewN | apply Kd.R_drew)); exact HO157.out⟩, ⟨by (with_reducible repeat first|apply bn_|apply bd_|apply ba_); exact BK153.out⟩, ⟨by (with_reducible repeat first|apply bn_|apply bd_|apply ba_); exact BK154.out⟩, ⟨by (with_reducible repeat first|apply bn_|apply bd_|apply ba_); exact BK161.out⟩, ⟨ue_ HB.out⟩⟩
 case rest =>
  clear HC4
  try clear c1
  try clear p2
  try clear c8
  try clear c10
  try clear c11
  try clear c14
  try clear hcz12_0
  try clear hcz12_1
  try clear hcz12_2
  try clear hfz12_0
  try clear hfz12_1
  try clear hfz12_2
  obtain ⟨kq, x29_3, rfl, HA, HJ3, HO_162000, BK153, BK154, BK161, HB⟩ := hcut
  cases kq with
  | zero => exact absurd HA.out (by simp [spec_PlayLink.j0])
  | succ kj3 =>
   have H := HA.out
   clear HA
   simp only [spec_PlayLink.j0] at H
   by_cases c15 : x29_3 = true
   ·
    subst c15
    have H1 : (some (([] : List Int), 0, 0, 0, 0, ([] : List Int))) = some (r1, r2, r3, r4, r5, r6) := by rw [if_pos rfl] at H; exact H
    clear H
    have H := H1
    clear H1
    simp only [Option.some.injEq, Prod.mk.injEq] at H
    obtain ⟨rfl, rfl, rfl, rfl, rfl, rfl⟩ := H
    have hnb16 := NB153_154.out
    have hnc16 := NB154_153.out
    have hnb17 := NB153_161.out
    have hnc17 := NB161_153.out
    have hcz18_0 := cb_ BK153.out 0 rfl
    have hcz18_1 := cb_ BK153.out 1 rfl
    have hcz18_2 := cb_ BK153.out 2 rfl
    have hfz18_0 := blk_frozen BK153.out 0
    have hfz18_1 := blk_frozen BK153.out 1
    have hfz18_2 := blk_frozen BK153.out 2
    go_wp2_with (first | ((with_reducible refine gate_store (t := 24) (p := 4) rfl ?_); refine store_event (t := 24) (p := 4) (v := ?vo_w19) (w1 := (((wc.setCell ⟨gb153, 0, none⟩ (.slice none 0 0)).setCell ⟨gb153, 1, none⟩ (.int .i64 0)).setCell ⟨gb153, 2, none⟩ (.int .i64 0))) ?hg ?ho ?hn ?hr ?_; (case ho => rfl); (case hg => rfl); (case hn => rfl); (case hr => first | (go_simp; done) | (go_simp; rfl)); intro w19 hw; have n0_ : Aside0 (Kd.R (Kd.int .i64) 3 w19 w.heap.size (fun _ => True) (.slice Ao9 t155.length co9) t155) := ⟨(by rw [hw]; exact (by (with_reducible repeat (first | apply Kd.R_alloc | apply Kd.R_drewN | apply Kd.R_drew)); exact Kd.R_mono (Kd.R_far (p := ⟨gb153, 2, none⟩) (Kd.R_far (p := ⟨gb153, 1, none⟩) (Kd.R_far (p := ⟨gb153, 0, none⟩) (Kd.R_types HO_162000.out BK153.out (by decide)) (fun _ hk => by first | exact hk.2 | grind) (.slice none 0 0)) (fun _ hk => by first | exact hk.2 | grind) (.int .i64 0)) (fun _ hk => by first | exact hk.2 | grind) (.int .i64 0)) (fun _ hk => trivial)))⟩; have n1_ : Aside0 (w19.heap[gb153]? = some (.cells #[.slice none 0 0, .int .i64 0, .int .i64 0] 24 (0, 0))) := ⟨(by rw [hw]; exact (by (with_reducible repeat first|apply bn_|apply bd_|apply ba_); refine blk_put (cs := #[.slice none 0 0, .int .i64 0, .int .i64 0]) ?_ 2 _ rfl; refine blk_put (cs := #[.slice none 0 0, .int .i64 0, .int .i64 0]) ?_ 1 _ rfl; refine blk_put (cs := #[.slice none 0 0, .int .i64 0, .int .i64 0]) ?_ 0 _ rfl; (with_reducible repeat first|apply bn_|apply bd_|apply ba_); exact BK153.out))⟩; have n2_ : Aside0 (w19.heap[gb154]? = some (.cells #[.int .i64 0, .int .i64 0] 26 (0, 0))) := ⟨(by rw [hw]; exact (uf_ BK154.out))⟩; have n3_ : Aside0 (w19.heap[gb161]? = some (.cells #[.slice Ao9 t155.length co9, .int .i64 t158, .int .i64 t159] 24 (0, 0))) := ⟨(by rw [hw]; exact (uf_ BK161.out))⟩; have n4_ : Aside0 (Below w.heap.size w w19) := ⟨(by rw [hw]; exact (ue_ HB.out))⟩; clear hw HO_162000 BK153 BK154 BK161 HB; have HO_162000 := n0_; have BK153 := n1_; have BK154 := n2_; have BK161 := n3_; have HB := n4_; clear n0_ n1_ n2_ n3_ n4_; have hnb20 := NB154_161.out; have hnc20 := NB161_154.out; obtain ⟨hcz21_0, hcz21_1⟩ := cb2_ BK154.out; have hfz21_0 := blk_frozen BK154.out 0; have hfz21_1 := blk_frozen BK154.out 1) | ((with_reducible refine gate_store (t := 26) (p := 5) rfl ?_); refine store_event (t := 26) (p := 5) (v := ?vo_w22) (w1 := ((w19.setCell ⟨gb154, 0, none⟩ (.int .i64 0)).setCell ⟨gb154, 1, none⟩ (.int .i64 0))) ?hg ?ho ?hn ?hr ?_; (case ho => rfl); (case hg => rfl); (case hn => rfl); (case hr => first | (go_simp; done) | (go_simp; rfl)); intro w22 hw; have n0_ : Aside0 (Kd.R (Kd.int .i64) 3 w22 w.heap.size (fun _ => True) (.slice Ao9 t155.length co9) t155) := ⟨(by rw [hw]; exact (by (with_reducible repeat (first | apply Kd.R_alloc | apply Kd.R_drewN | apply Kd.R_drew)); exact Kd.R_mono (Kd.R_far (p := ⟨gb154, 1, none⟩) (Kd.R_far (p := ⟨gb154, 0, none⟩) (Kd.R_types HO_162000.out BK154.out (by decide)) (fun _ hk => by first | exact hk.2 | grind) (.int .i64 0)) (fun _ hk => by first | exact hk.2 | grind) (.int .i64 0)) (fun _ hk => trivial)))⟩; have n1_ : Aside0 (w22.heap[gb153]? = some (.cells #[.slice none 0 0, .int .i64 0, .int .i64 0] 24 (0, 0))) := ⟨(by rw [hw]; exact (uf_ BK153.out))⟩; have n2_ : Aside0 (w22.heap[gb154]? = some (.cells #[.int .i64 0, .int .i64 0] 26 (0, 0))) := ⟨(by rw [hw]; exact (by (with_reducible repeat first|apply bn_|apply bd_|apply ba_); refine blk_put (cs := #[.int .i64 0, .int .i64 0]) ?_ 1 _ rfl; refine blk_put (cs := #[.int .i64 0, .int .i64 0]) ?_ 0 _ rfl; (with_reducible repeat first|apply bn_|apply bd_|apply ba_); exact BK154.out))⟩; have n3_ : Aside0 (w22.heap[gb161]? = some (.cells #[.slice Ao9 t155.length co9, .int .i64 t158, .int .i64 t159] 24 (0, 0))) := ⟨(by rw [hw]; exact (uf_ BK161.out))⟩; have n4_ : Aside0 (Below w.heap.size w w22) := ⟨(by rw [hw]; exact (ue_ HB.out))⟩; clear hw HO_162000 BK153 BK154 BK161 HB; have HO_162000 := n0_; have BK153 := n1_; have BK154 := n2_; have BK161 := n3_; have HB := n4_; clear n0_ n1_ n2_ n3_ n4_))
    refine bodyPost_ret (results_list (rs := [.cell 4 24, .cell 5 26, .tmp 6]) rfl (by simp) (.cell gb153 24 #[.slice none 0 0, .int .i64 0, .int .i64 0] (0, 0) _ rfl (ub_ BK153.out) Try.underlying24 rfl (by kernel_rfl) (.cell gb154 26 #[.int .i64 0, .int .i64 0] (0, 0) _ rfl (ub_ BK154.out) Try.underlying26 rfl (by kernel_rfl) (.tmp .nil)))) rfl ?_
    exact ⟨_, _, ew_, by first | exact Kd.R_nil _ _ _ _ _ | exact Kd.N_nil _ _ _ _ _ | exact Kd.V_nil _ _ _ _ _ | exact Kd.Q_nil _ _ _ _ _ | exact Kd.S_nil _ _ _ _ _, by first | exact Kd.R_nil _ _ _ _ _ | exact Kd.N_nil _ _ _ _ _ | exact Kd.V_nil _ _ _ _ _ | exact Kd.Q_nil _ _ _ _ _ | exact Kd.S_nil _ _ _ _ _, ue_ HB.out⟩
   ·
    replace c15 := Bool.eq_false_iff.mpr c15
    subst c15
    have H1 : (spec_PlayLink.l0 kj3 l1 (([] : List Int)) 0 t155 t158 t159 a0 0) = some (r1, r2, r3, r4, r5, r6) := by rw [if_neg (show ¬ (false = true) by decide)] at H; exact H
    clear H
    have H := H1
    clear H1
    obtain ⟨y163, hy163⟩ : ∃ y_ : List Int, y_ = (([] : List Int)) := ⟨_, rfl⟩
    replace H : (spec_PlayLink.l0 kj3 l1 y163 0 t155 t158 t159 a0 0) = some (r1, r2, r3, r4, r5, r6) := by first | (rw [hy163]; with_reducible exact H) | (have H2_ := (Option.bind_some _ _).symm.trans H; rw [hy163]; with_reducible exact H2_) | (have H2_ := (Option.bind_some _ _).symm.trans H; with_reducible exact H2_) | with_reducible exact H | (rw [hy163]; exact H) | exact H
    have Ny163 := Aside0.mk hy163
    clear hy163
    have H' := Aside0.mk H
    clear H
    go_wp2_with (first | ((with_reducible refine gate_dst (N := 9) rfl ?_); (try (refine gate_guard (by rfl) ?_; dsimp only)); refine box_event ?hg (N := 9) ?hd (cs := #[.int .i64 0, .int .i64 0]) (t := 26) ?hr ?_; (case hd => rfl); (case hg => rfl); (case hr => first | (go_simp; done) | (go_simp; rfl)); intro gb162 hg w23 hbox hb; have n0_ := am_ (Kd.R_below (ur_ HO_162000.out) hb); have n1_ := am_ (bb_ BK153.out hb); have n2_ := am_ (bb_ BK154.out hb); have n3_ := am_ (bb_ BK161.out hb); have n4_ := am_ (below_step (ue_ HB.out) hb); have n5_ := am_ (hbox); have n6_ := am_ ((by rw [hg]; exact (below_size (ue_ HB.out)) : w.heap.size ≤ gb162)); have n7_ := am_ ((by rw [hg]; exact (below_size (ue_ HB.out)) : w.heap.size ≤ gb162)); have n8_ := am_ ((by rw [hg]; exact Nat.ne_of_lt (bl_ BK153.out) : gb153 ≠ gb162)); have n9_ := am_ ((by rw [hg]; exact Nat.ne_of_gt (bl_ BK153.out) : gb162 ≠ gb153)); have n10_ := am_ ((by rw [hg]; exact Nat.ne_of_lt (bl_ BK154.out) : gb154 ≠ gb162)); have n11_ := am_ ((by rw [hg]; exact Nat.ne_of_gt (bl_ BK154.out) : gb162 ≠ gb154)); have n12_ := am_ ((by rw [hg]; exact Nat.ne_of_lt (bl_ BK161.out) : gb161 ≠ gb162)); have n13_ := am_ ((by rw [hg]; exact Nat.ne_of_gt (bl_ BK161.out) : gb162 ≠ gb161)); clear HO_162000 BK153 BK154 BK161 HB; have HO_162000 := n0_; have BK153 := n1_; have BK154 := n2_; have BK161 := n3_; have HB := n4_; have BK162 := n5_; have GW162 := n6_; have GE162 := n7_; have NB153_162 := n8_; have NB162_153 := n9_; have NB154_162 := n10_; have NB162_154 := n11_; have NB161_162 := n12_; have NB162_161 := n13_; clear n0_ n1_ n2_ n3_ n4_ n5_ n6_ n7_ n8_ n9_ n10_ n11_ n12_ n13_; clear hb hbox hg; have hnb24 := NB162_153.out; have hnc24 := NB153_162.out; have hnb25 := NB162_154.out; have hnc25 := NB154_162.out; have hnb26 := NB162_161.out; have hnc26 := NB161_162.out; obtain ⟨hcz27_0, hcz27_1⟩ := cb2_ BK162.out; have hfz27_0 := blk_frozen BK162.out 0; have hfz27_1 := blk_frozen BK162.out 1) | ((with_reducible refine gate_store (t := 26) (p := 9) rfl ?_); refine store_event (t := 26) (p := 9) (v := ?vo_w28) (w1 := ((w23.setCell ⟨gb162, 0, none⟩ (.int .i64 a0)).setCell ⟨gb162, 1, none⟩ (.int .i64 0))) ?hg ?ho ?hn ?hr ?_; (case ho => rfl); (case hg => rfl); (case hn => rfl); (case hr => first | (go_simp; done) | (go_simp; rfl)); intro w28 hw; have n0_ : Aside0 (Kd.R (Kd.int .i64) 3 w28 w.heap.size (fun _ => True) (.slice Ao9 t155.length co9) t155) := ⟨(by rw [hw]; exact (by (with_reducible repeat (first | apply Kd.R_alloc | apply Kd.R_drewN | apply Kd.R_drew)); exact Kd.R_mono (Kd.R_far (p := ⟨gb162, 1, none⟩) (Kd.R_far (p := ⟨gb162, 0, none⟩) (Kd.R_types HO_162000.out BK162.out (by decide)) (fun _ hk => by first | exact hk.2 | grind) (.int .i64 a0)) (fun _ hk => by first | exact hk.2 | grind) (.int .i64 0)) (fun _ hk => trivial)))⟩; have n1_ : Aside0 (w28.heap[gb153]? = some (.cells #[.slice none 0 0, .int .i64 0, .int .i64 0] 24 (0, 0))) := ⟨(by rw [hw]; exact (uf_ BK153.out))⟩; have n2_ : Aside0 (w28.heap[gb154]? = some (.cells #[.int .i64 0, .int .i64 0] 26 (0, 0))) := ⟨(by rw [hw]; exact (uf_ BK154.out))⟩; have n3_ : Aside0 (w28.heap[gb161]? = some (.cells #[.slice Ao9 t155.length co9, .int .i64 t158, .int .i64 t159] 24 (0, 0))) := ⟨(by rw [hw]; exact (uf_ BK161.out))⟩; have n4_ : Aside0 (w28.heap[gb162]? = some (.cells #[.int .i64 a0, .int .i64 0] 26 (0, 0))) := ⟨(by rw [hw]; exact (by (with_reducible repeat first|apply bn_|apply bd_|apply ba_); refine blk_put (cs := #[.int .i64 a0, .int .i64 0]) ?_ 1 _ rfl; refine blk_put (cs := #[.int .i64 0, .int .i64 0]) ?_ 0 _ rfl; (with_reducible repeat first|apply bn_|apply bd_|apply ba_); exact BK162.out))⟩; have n5_ : Aside0 (Below w.heap.size w w28) := ⟨(by rw [hw]; exact (ue_ HB.out))⟩; clear hw HO_162000 BK153 BK154 BK161 BK162 HB; have HO_162000 := n0_; have BK153 := n1_; have BK154 := n2_; have BK161 := n3_; have BK162 := n4_; have HB := n5_; clear n0_ n1_ n2_ n3_ n4_ n5_) | ((with_reducible refine gate_dst (N := 34) rfl ?_); (try (refine gate_guard (by rfl) ?_; dsimp only)); refine Kd.R_lit (Kd.int .i64) _ 3 ?hg (N := 34) ?hd (xs := ([] : List Int)) (inner := []) (ok := fun _ => True) (okp := fun _ => True) ?hr ?hp (fun _ hk => hk) trivial (Below.refl _ _) (Nat.le_refl _) (by simp) ?_; (case hd => rfl); (case hg => rfl); (case hr => first | (go_simp; done) | (go_simp; rfl)); (case hp => exact (Reps.none _ _)); intro v164 w29 ho30 hb hg_ hnew_; clear hg_ hnew_; (first | rw [← Ny163.out] at ho30 | (simp only [Int.reduceToNat] at ho30; rw [← Ny163.out] at ho30)); have n0_ := am_ (Kd.R_elder' (ur_ HO_162000.out) (Kd.R_base ho30) hb); have n1_ := am_ (Kd.R_lower (Kd.R_new' ho30 (Kd.R_lt (ur_ HO_162000.out))) (below_size (ue_ HB.out))); have n2_ := am_ (bb_ BK153.out hb); have n3_ := am_ (bb_ BK154.out hb); have n4_ := am_ (bb_ BK161.out hb); have n5_ := am_ (bb_ BK162.out hb); have n6_ := am_ (below_step (ue_ HB.out) hb); clear HO_162000 BK153 BK154 BK161 BK162 HB; have HO_162000 := n0_; have HO165 := n1_; have BK153 := n2_; have BK154 := n3_; have BK161 := n4_; have BK162 := n5_; have HB := n6_; clear n0_ n1_ n2_ n3_ n4_ n5_ n6_; clear hb ho30))
    (try simp only [Act.put, List.setIfInBounds_toArray, List.set_cons_zero, List.set_cons_succ])
    go_loopg [10, 11] kj3 (fun kq v10 v11 w' => ∃ (x10_2 : List Int) (x11_2 : Int) (x162000_2 : List Int) (x162001_2 : Int) (x162002_2 : Int) (x163000_2 : Int) (x163001_2 : Int) (u162000 : Value), v11 = .int .i64 x11_2 ∧ Aside0 (spec_PlayLink.l0 kq l1 x10_2 x11_2 x162000_2 x162001_2 x162002_2 x163000_2 x163001_2 = some (r1, r2, r3, r4, r5, r6)) ∧ Aside0 (kq ≤ kj3) ∧ Aside0 (Kd.R (Kd.int .i64) 3 w' w.heap.size (fun k_ => some k_ ≠ (u162000 : Value).ownBlock) v10 x10_2) ∧ Aside0 (Kd.R (Kd.int .i64) 3 w' w.heap.size (fun k_ => some k_ ≠ (v10 : Value).ownBlock) u162000 x162000_2) ∧ Aside0 (w'.heap[gb153]? = some (.cells #[(.slice none 0 0), .int .i64 0, .int .i64 0] 24 (0, 0))) ∧ Aside0 (w'.heap[gb154]? = some (.cells #[.int .i64 0, .int .i64 0] 26 (0, 0))) ∧ Aside0 (w'.heap[gb161]? = some (.cells #[u162000, .int .i64 x162001_2, .int .i64 x162002_2] 24 (0, 0))) ∧ Aside0 (w'.heap[gb162]? = some (.cells #[.int .i64 x163000_2, .int .i64 x163001_2] 26 (0, 0))) ∧ Aside0 (Below w.heap.size w w'))
    case atStart => exact ⟨(y163), (0), (t155), (t158), (t159), (a0), (0), (.slice Ao9 t155.length co9), (by first | rfl | (simp; done) | (simp [*]; done)), H', ⟨Nat.le_refl _⟩, ⟨by (with_reducible repeat (first | apply Kd.R_alloc | apply Kd.R_drewN | apply Kd.R_drew)); exact Kd.R_mono HO165.out (fun _ hk => by first | exact hk.2 | grind)⟩, ⟨by (with_reducible repeat (first | apply Kd.R_alloc | apply Kd.R_drewN | apply Kd.R_drew)); exact Kd.R_mono HO_162000.out (fun _ hk => by first | exact hk.2 | grind)⟩, ⟨by (with_reducible repeat first|apply bn_|apply bd_|apply ba_); exact BK153.out⟩, ⟨by (with_reducible repeat first|apply bn_|apply bd_|apply ba_); exact BK154.out⟩, ⟨by (with_reducible repeat first|apply bn_|apply bd_|apply ba_); exact BK161.out⟩, ⟨by (with_reducible repeat first|apply bn_|apply bd_|apply ba_); exact BK162.out⟩, ⟨ue_ HB.out⟩⟩
    case round =>
     clear H'
     try clear c1
     try clear c2
     try clear p2
     try clear c8
     try clear c10
     try clear c11
     try clear c14
     try clear c15
     try clear c16
     try clear c17
     try clear c20
     try clear c24
     try clear c25
     try clear c26
     try clear hcz12_0
     try clear hcz12_1
     try clear hcz12_2
     try clear hcz18_0
     try clear hcz18_1
     try clear hcz18_2
     try clear hcz21_0
     try clear hcz21_1
     try clear hcz27_0
     try clear hcz27_1
     try clear hfz12_0
     try clear hfz12_1
     try clear hfz12_2
     try clear hfz18_0
     try clear hfz18_1
     try clear hfz18_2
     try clear hfz21_0
     try clear hfz21_1
     try clear hfz27_0
     try clear hfz27_1
     try clear p2
     obtain ⟨x10_2, x11_2, x162000_2, x162001_2, x162002_2, x163000_2, x163001_2, u162000, rfl, HA, HK2, HO_10, HO_162000, BK153, BK154, BK161, BK162, HB⟩ := hrel
     cases gk with
     | zero => exact absurd HA.out (by simp [spec_PlayLink.l0])
     | succ k2 =>
      have H := HA.out
      clear HA
      simp only [spec_PlayLink.l0] at H
      by_cases c31 : x11_2 < (l1.length : Int)
      ·
       rw [if_pos c31] at H
       have c31b0 : decide (x11_2 < (l1.length : Int)) = true := decide_eq_true c31
       clear c31
       by_cases c32 : 0 ≤ x11_2
       ·
        rw [if_pos c32] at H
        have c32b0 : decide (0 ≤ x11_2) = true := decide_eq_true c32
        clear c32
        by_cases c33 : (rd l1 x11_2) ≥ 0
        ·
         rw [if_pos c33] at H
         have c33b0 : decide (0 ≤ (rd l1 x11_2)) = true := decide_eq_true c33
         clear c33
         replace H := Option.bind_eq_some_iff.mp H
         obtain ⟨⟨t167, t168, t169⟩, A340, H⟩ := H
         replace H : (if t169 = true then ((spec_PushRing.f k2 x162000_2 x162001_2 x162002_2 (rd l1 x11_2)).bind fun bt172 => (if x10_2.length < 17592186044416 then (spec_PlayLink.l0 k2 l1 (x10_2 ++ [1]) (wrap64 (x11_2 + 1)) bt172.1 bt172.2.1 bt172.2.2.1 t167 t168) else (none))) else (if x10_2.length < 17592186044416 then (spec_PlayLink.l0 k2 l1 (x10_2 ++ [0]) (wrap64 (x11_2 + 1)) x162000_2 x162001_2 x162002_2 x163000_2 x163001_2) else (none))) = some (r1, r2, r3, r4, r5, r6) := H
         have A34 := Aside0.mk A340
         clear A340
         by_cases c35 : t169 = true
         ·
          subst c35
          have H1 : ((spec_PushRing.f k2 x162000_2 x162001_2 x162002_2 (rd l1 x11_2)).bind fun bt172 => (if x10_2.length < 17592186044416 then (spec_PlayLink.l0 k2 l1 (x10_2 ++ [1]) (wrap64 (x11_2 + 1)) bt172.1 bt172.2.1 bt172.2.2.1 t167 t168) else (none))) = some (r1, r2, r3, r4, r5, r6) := by rw [if_pos rfl] at H; exact H
          clear H
          have H := H1
          clear H1
          replace H := Option.bind_eq_some_iff.mp H
          obtain ⟨⟨t172, t175, t176, t177⟩, A360, H⟩ := H
          replace H : (if x10_2.length < 17592186044416 then (spec_PlayLink.l0 k2 l1 (x10_2 ++ [1]) (wrap64 (x11_2 + 1)) t172 t175 t176 t167 t168) else (none)) = some (r1, r2, r3, r4, r5, r6) := H
          have A36 := Aside0.mk A360
          clear A360
          by_cases c37 : x10_2.length < 17592186044416
          ·
           rw [if_pos c37] at H
           have LMc37 := Aside0.mk c37
           clear c37
           obtain ⟨y178, hy178⟩ : ∃ y_ : List Int, y_ = (x10_2 ++ [1]) := ⟨_, rfl⟩
           replace H : (spec_PlayLink.l0 k2 l1 y178 (wrap64 (x11_2 + 1)) t172 t175 t176 t167 t168) = some (r1, r2, r3, r4, r5, r6) := by first | (rw [hy178]; with_reducible exact H) | (have H2_ := (Option.bind_some _ _).symm.trans H; rw [hy178]; with_reducible exact H2_) | (have H2_ := (Option.bind_some _ _).symm.trans H; with_reducible exact H2_) | with_reducible exact H | (rw [hy178]; exact H) | exact H
           have Ny178 := Aside0.mk hy178
           clear hy178
           have H' := Aside0.mk H
           clear H
           have p166 : 0 ≤ (x11_2 : Int) := of_decide_eq_true ua_
           have q166 : x11_2 < (l1.length : Int) := of_decide_eq_true ua_
           obtain ⟨ad166, e166, hx166_0⟩ := Kd.at_int HR1.out x11_2 p166 q166
           cases e166
           replace hx166_0 := bc_ HB.out hx166_0
           replace p166 := eq_true p166
           replace q166 := eq_true q166
           have hnb38 := NB162_153.out
           have hnc38 := NB153_162.out
           have hnb39 := NB162_154.out
           have hnc39 := NB154_162.out
           have hnb40 := NB162_161.out
           have hnc40 := NB161_162.out
           have hcz41_0 := cb_ BK162.out 0 rfl
           have hcz41_1 := cb_ BK162.out 1 rfl
           have hfz41_0 := blk_frozen BK162.out 0
           have hfz41_1 := blk_frozen BK162.out 1
           try go_wp2_with (first | ((with_reducible refine gate_callee (f := 83) rfl ?_); refine goesL_ (some 48) rfl rfl Try.func83 (by kernel_rfl) rfl #[.agg #[.int .i64 x163000_2, .int .i64 x163001_2]] rfl ul_ ?_; (with_reducible refine (spec_SpendCredit.calls x163000_2 x163001_2 t167 t168 true _ A34.out).mono ?_); rintro e w42 ⟨rfl, hb⟩; refine ⟨_, rfl, ?_⟩; have n0_ := am_ (Kd.R_below (ur_ HO_10.out) hb); have n1_ := am_ (Kd.R_below (ur_ HO_162000.out) hb); have n2_ := am_ (bb_ BK153.out hb); have n3_ := am_ (bb_ BK154.out hb); have n4_ := am_ (bb_ BK161.out hb); have n5_ := am_ (bb_ BK162.out hb); have n6_ := am_ (below_step (ue_ HB.out) hb); clear HO_10 HO_162000 BK153 BK154 BK161 BK162 HB; have HO_10 := n0_; have HO_162000 := n1_; have BK153 := n2_; have BK154 := n3_; have BK161 := n4_; have BK162 := n5_; have HB := n6_; clear n0_ n1_ n2_ n3_ n4_ n5_ n6_; (try clear hb); (try clear hb2); (try clear hk); (try clear hi)) | ((with_reducible refine gate_dst (N := 13) rfl ?_); (try (refine gate_guard (by rfl) ?_; dsimp only)); refine box_event ?hg (N := 13) ?hd (cs := #[.int .i64 0, .int .i64 0]) (t := 26) ?hr ?_; (case hd => rfl); (case hg => rfl); (case hr => first | (go_simp; done) | (go_simp; rfl)); intro gb170 hg w43 hbox hb; have n0_ := am_ (Kd.R_below (ur_ HO_10.out) hb); have n1_ := am_ (Kd.R_below (ur_ HO_162000.out) hb); have n2_ := am_ (bb_ BK153.out hb); have n3_ := am_ (bb_ BK154.out hb); have n4_ := am_ (bb_ BK161.out hb); have n5_ := am_ (bb_ BK162.out hb); have n6_ := am_ (below_step (ue_ HB.out) hb); have n7_ := am_ (hbox); have n8_ := am_ ((by rw [hg]; exact (below_size (ue_ HB.out)) : w.heap.size ≤ gb170)); have n9_ := am_ ((by rw [hg]; exact (below_size (ue_ HB.out)) : w.heap.size ≤ gb170)); have n10_ := am_ ((by rw [hg]; exact Nat.ne_of_lt (bl_ BK153.out) : gb153 ≠ gb170)); have n11_ := am_ ((by rw [hg]; exact Nat.ne_of_gt (bl_ BK153.out) : gb170 ≠ gb153)); have n12_ := am_ ((by rw [hg]; exact Nat.ne_of_lt (bl_ BK154.out) : gb154 ≠ gb170)); have n13_ := am_ ((by rw [hg]; exact Nat.ne_of_gt (bl_ BK154.out) : gb170 ≠ gb154)); have n14_ := am_ ((by rw [hg]; exact Nat.ne_of_lt (bl_ BK161.out) : gb161 ≠ gb170)); have n15_ := am_ ((by rw [hg]; exact Nat.ne_of_gt (bl_ BK161.out) : gb170 ≠ gb161)); have n16_ := am_ ((by rw [hg]; exact Nat.ne_of_lt (bl_ BK162.out) : gb162 ≠ gb170)); have n17_ := am_ ((by rw [hg]; exact Nat.ne_of_gt (bl_ BK162.out) : gb170 ≠ gb162)); clear HO_10 HO_162000 BK153 BK154 BK161 BK162 HB; have HO_10 := n0_; have HO_162000 := n1_; have BK153 := n2_; have BK154 := n3_; have BK161 := n4_; have BK162 := n5_; have HB := n6_; have BK170 := n7_; have GW170 := n8_; have GE170 := n9_; have NB153_170 := n10_; have NB170_153 := n11_; have NB154_170 := n12_; have NB170_154 := n13_; have NB161_170 := n14_; have NB170_161 := n15_; have NB162_170 := n16_; have NB170_162 := n17_; clear n0_ n1_ n2_ n3_ n4_ n5_ n6_ n7_ n8_ n9_ n10_ n11_ n12_ n13_ n14_ n15_ n16_ n17_; clear hb hbox hg; have hnb44 := NB170_153.out; have hnc44 := NB153_170.out; have hnb45 := NB170_154.out; have hnc45 := NB154_170.out; have hnb46 := NB170_161.out; have hnc46 := NB161_170.out; have hnb47 := NB170_162.out; have hnc47 := NB162_170.out; obtain ⟨hcz48_0, hcz48_1⟩ := cb2_ BK170.out; have hfz48_0 := blk_frozen BK170.out 0; have hfz48_1 := blk_frozen BK170.out 1) | ((with_reducible refine gate_store (t := 26) (p := 13) rfl ?_); refine store_event (t := 26) (p := 13) (v := ?vo_w49) (w1 := ((w43.setCell ⟨gb170, 0, none⟩ (.int .i64 t167)).setCell ⟨gb170, 1, none⟩ (.int .i64 t168))) ?hg ?ho ?hn ?hr ?_; (case ho => rfl); (case hg => rfl); (case hn => rfl); (case hr => first | (go_simp; done) | (go_simp; rfl)); intro w49 hw; have n0_ : Aside0 (Kd.R (Kd.int .i64) 3 w49 w.heap.size (fun k_ => some k_ ≠ (u162000 : Value).ownBlock) u10 x10_2) := ⟨(by rw [hw]; exact (by (with_reducible repeat (first | apply Kd.R_alloc | apply Kd.R_drewN | apply Kd.R_drew)); exact Kd.R_mono (Kd.R_far (p := ⟨gb170, 1, none⟩) (Kd.R_far (p := ⟨gb170, 0, none⟩) (Kd.R_types HO_10.out BK170.out (by decide)) (fun _ hk => by first | exact hk.2 | grind) (.int .i64 t167)) (fun _ hk => by first | exact hk.2 | grind) (.int .i64 t168)) (fun _ hk => by first | exact hk.1 | grind)))⟩; have n1_ : Aside0 (Kd.R (Kd.int .i64) 3 w49 w.heap.size (fun k_ => some k_ ≠ (u10 : Value).ownBlock) u162000 x162000_2) := ⟨(by rw [hw]; exact (by (with_reducible repeat (first | apply Kd.R_alloc | apply Kd.R_drewN | apply Kd.R_drew)); exact Kd.R_mono (Kd.R_far (p := ⟨gb170, 1, none⟩) (Kd.R_far (p := ⟨gb170, 0, none⟩) (Kd.R_types HO_162000.out BK170.out (by decide)) (fun _ hk => by first | exact hk.2 | grind) (.int .i64 t167)) (fun _ hk => by first | exact hk.2 | grind) (.int .i64 t168)) (fun _ hk => by first | exact hk.1 | grind)))⟩; have n2_ : Aside0 (w49.heap[gb153]? = some (.cells #[.slice none 0 0, .int .i64 0, .int .i64 0] 24 (0, 0))) := ⟨(by rw [hw]; exact (uf_ BK153.out))⟩; have n3_ : Aside0 (w49.heap[gb154]? = some (.cells #[.int .i64 0, .int .i64 0] 26 (0, 0))) := ⟨(by rw [hw]; exact (uf_ BK154.out))⟩; have n4_ : Aside0 (w49.heap[gb161]? = some (.cells #[u162000, .int .i64 x162001_2, .int .i64 x162002_2] 24 (0, 0))) := ⟨(by rw [hw]; exact (uf_ BK161.out))⟩; have n5_ : Aside0 (w49.heap[gb162]? = some (.cells #[.int .i64 x163000_2, .int .i64 x163001_2] 26 (0, 0))) := ⟨(by rw [hw]; exact (uf_ BK162.out))⟩; have n6_ : Aside0 (w49.heap[gb170]? = some (.cells #[.int .i64 t167, .int .i64 t168] 26 (0, 0))) := ⟨(by rw [hw]; exact (by (with_reducible repeat first|apply bn_|apply bd_|apply ba_); refine blk_put (cs := #[.int .i64 t167, .int .i64 0]) ?_ 1 _ rfl; refine blk_put (cs := #[.int .i64 0, .int .i64 0]) ?_ 0 _ rfl; (with_reducible repeat first|apply bn_|apply bd_|apply ba_); exact BK170.out))⟩; have n7_ : Aside0 (Below w.heap.size w w49) := ⟨(by rw [hw]; exact (ue_ HB.out))⟩; clear hw HO_10 HO_162000 BK153 BK154 BK161 BK162 BK170 HB; have HO_10 := n0_; have HO_162000 := n1_; have BK153 := n2_; have BK154 := n3_; have BK161 := n4_; have BK162 := n5_; have BK170 := n6_; have HB := n7_; clear n0_ n1_ n2_ n3_ n4_ n5_ n6_ n7_; obtain ⟨hcz50_0, hcz50_1⟩ := cb2_ BK170.out; obtain ⟨hfz50_0, hfz50_1⟩ := bf2_ BK170.out; obtain ⟨hcz51_0, hcz51_1⟩ := cb2_ BK162.out; have hfz51_0 := blk_frozen BK162.out 0; have hfz51_1 := blk_frozen BK162.out 1) | ((with_reducible refine gate_store (t := 26) (p := 9) rfl ?_); refine store_event (t := 26) (p := 9) (v := ?vo_w52) (w1 := ((w49.setCell ⟨gb162, 0, none⟩ (.int .i64 t167)).setCell ⟨gb162, 1, none⟩ (.int .i64 t168))) ?hg ?ho ?hn ?hr ?_; (case ho => rfl); (case hg => rfl); (case hn => rfl); (case hr => first | (go_simp; done) | (go_simp; rfl)); intro w52 hw; have n0_ : Aside0 (Kd.R (Kd.int .i64) 3 w52 w.heap.size (fun k_ => some k_ ≠ (u162000 : Value).ownBlock) u10 x10_2) := ⟨(by rw [hw]; exact (by (with_reducible repeat (first | apply Kd.R_alloc | apply Kd.R_drewN | apply Kd.R_drew)); exact Kd.R_mono (Kd.R_far (p := ⟨gb162, 1, none⟩) (Kd.R_far (p := ⟨gb162, 0, none⟩) (Kd.R_types HO_10.out BK162.out (by decide)) (fun _ hk => by first | exact hk.2 | grind) (.int .i64 t167)) (fun _ hk => by first | exact hk.2 | grind) (.int .i64 t168)) (fun _ hk => by first | exact hk.1 | grind)))⟩; have n1_ : Aside0 (Kd.R (Kd.int .i64) 3 w52 w.heap.size (fun k_ => some k_ ≠ (u10 : Value).ownBlock) u162000 x162000_2) := ⟨(by rw [hw]; exact (by (with_reducible repeat (first | apply Kd.R_alloc | apply Kd.R_drewN | apply Kd.R_drew)); exact Kd.R_mono (Kd.R_far (p := ⟨gb162, 1, none⟩) (Kd.R_far (p := ⟨gb162, 0, none⟩) (Kd.R_types HO_162000.out BK162.out (by decide)) (fun _ hk => by first | exact hk.2 | grind) (.int .i64 t167)) (fun _ hk => by first | exact hk.2 | grind) (.int .i64 t168)) (fun _ hk => by first | exact hk.1 | grind)))⟩; have n2_ : Aside0 (w52.heap[gb153]? = some (.cells #[.slice none 0 0, .int .i64 0, .int .i64 0] 24 (0, 0))) := ⟨(by rw [hw]; exact (uf_ BK153.out))⟩; have n3_ : Aside0 (w52.heap[gb154]? = some (.cells #[.int .i64 0, .int .i64 0] 26 (0, 0))) := ⟨(by rw [hw]; exact (uf_ BK154.out))⟩; have n4_ : Aside0 (w52.heap[gb161]? = some (.cells #[u162000, .int .i64 x162001_2, .int .i64 x162002_2] 24 (0, 0))) := ⟨(by rw [hw]; exact (uf_ BK161.out))⟩; have n5_ : Aside0 (w52.heap[gb162]? = some (.cells #[.int .i64 t167, .int .i64 t168] 26 (0, 0))) := ⟨(by rw [hw]; exact (by (with_reducible repeat first|apply bn_|apply bd_|apply ba_); refine blk_put (cs := #[.int .i64 t167, .int .i64 x163001_2]) ?_ 1 _ rfl; refine blk_put (cs := #[.int .i64 x163000_2, .int .i64 x163001_2]) ?_ 0 _ rfl; (with_reducible repeat first|apply bn_|apply bd_|apply ba_); exact BK162.out))⟩; have n6_ : Aside0 (w52.heap[gb170]? = some (.cells #[.int .i64 t167, .int .i64 t168] 26 (0, 0))) := ⟨(by rw [hw]; exact (uf_ BK170.out))⟩; have n7_ : Aside0 (Below w.heap.size w w52) := ⟨(by rw [hw]; exact (ue_ HB.out))⟩; clear hw HO_10 HO_162000 BK153 BK154 BK161 BK162 BK170 HB; have HO_10 := n0_; have HO_162000 := n1_; have BK153 := n2_; have BK154 := n3_; have BK161 := n4_; have BK162 := n5_; have BK170 := n6_; have HB := n7_; clear n0_ n1_ n2_ n3_ n4_ n5_ n6_ n7_))
           have n0_ := am_ (Kd.R_drew HO_10.out)
           have n1_ := am_ (Kd.R_drew HO_162000.out)
           have n2_ := am_ (blk_drew BK153.out)
           have n3_ := am_ (blk_drew BK154.out)
           have n4_ := am_ (blk_drew BK161.out)
           have n5_ := am_ (blk_drew BK162.out)
           have n6_ := am_ (blk_drew BK170.out)
           have n7_ := am_ (below_drew1 HB.out)
           clear HO_10
           clear HO_162000
           clear BK153
           clear BK154
           clear BK161
           clear BK162
           clear BK170
           clear HB
           have HO_10 := n0_
           have HO_162000 := n1_
           have BK153 := n2_
           have BK154 := n3_
           have BK161 := n4_
           have BK162 := n5_
           have BK170 := n6_
           have HB := n7_
           clear n0_ n1_ n2_ n3_ n4_ n5_ n6_ n7_
           have p171 : 0 ≤ (x11_2 : Int) := of_decide_eq_true ua_
           have q171 : x11_2 < (l1.length : Int) := of_decide_eq_true ua_
           obtain ⟨ad171, e171, hx171_0⟩ := Kd.at_int HR1.out x11_2 p171 q171
           have hw171_0 := hx171_0
           obtain rfl : ad166 = ad171 := (by injection e171)
           replace hx171_0 := bc_ HB.out hx171_0
           replace p171 := eq_true p171
           replace q171 := eq_true q171
           obtain ⟨Ao54, co54, eo54⟩ := Kd.R_slice HO_162000.out
           (first | subst eo54 | (injection eo54 with f1_ f2_ f3_; have f4_ := f1_.symm; have f5_ := f3_.symm; clear f1_ f2_ f3_; subst f4_; subst f5_))
           refine start_ (n := 10) (S := fun w' => w'.cell? ⟨gb161, 0, none⟩ = some (.slice Ao54 x162000_2.length co54) ∧ w'.cell? ⟨gb161, 1, none⟩ = some (.int .i64 x162001_2) ∧ w'.cell? ⟨gb161, 2, none⟩ = some (.int .i64 x162002_2) ∧ w'.cell? (ad166.add (x11_2).toNat) = some (.int .i64 (rd l1 x11_2))) (ds := [9]) #[false, false, false, false, false, false, false, false, false, false] (by kernel_rfl) rfl rfl ⟨(blk_cell BK161.out 0).trans rfl, (blk_cell BK161.out 1).trans rfl, (blk_cell BK161.out 2).trans rfl, ((HB.out.cell (World.block_lt_of_cell? w _ hw171_0)).trans hw171_0)⟩ (fun hHeld => ?_); refine with_tabW spec_PlayLink.tab14 spec_PlayLink.bits14 (fun HT_ HW_ => ?_)
           generalize w52.drew = w53 at HO_10 HO_162000 BK153 BK154 BK161 BK162 BK170 HB hx171_0 hHeld ⊢
           refine pure_ (i := 1) (N := some 55) (v := ?_) (a' := ?_) #[false, true, false, false, false, false, false, false, false, false] rfl rfl (any_of HT_.out (by kernel_rfl)) (fun _ _ _ h => h) (Or.inl ⟨by rfl, ?_⟩) ?_ ?_
           rotate_left
           ·
            intro w'
            go_simp
            with_reducible rfl
           rotate_left
           ·
            simp only [Act.put, List.setIfInBounds_toArray, List.set_cons_zero, List.set_cons_succ, i64_w, i32_w]
            rfl
           refine pure_ (i := 2) (N := some 56) (v := ?_) (a' := ?_) #[false, true, true, false, false, false, false, false, false, false] rfl rfl (any_of HT_.out (by kernel_rfl)) (fun _ _ _ h => h) (Or.inl ⟨by rfl, ?_⟩) ?_ ?_
           rotate_left
           ·
            intro w'
            go_simp
            with_reducible rfl
           rotate_left
           ·
            simp only [Act.put, List.setIfInBounds_toArray, List.set_cons_zero, List.set_cons_succ, i64_w, i32_w]
            rfl
           refine pure_ (i := 3) (N := some 57) (v := ?_) (a' := ?_) #[false, true, true, true, false, false, false, false, false, false] rfl rfl (any_of HT_.out (by kernel_rfl)) (fun _ _ _ h => h) (Or.inl ⟨by rfl, ?_⟩) ?_ ?_
           rotate_left
           ·
            intro w'
            go_simp
            with_reducible rfl
           rotate_left
           ·
            simp only [Act.put, List.setIfInBounds_toArray, List.set_cons_zero, List.set_cons_succ, i64_w, i32_w]
            rfl
           refine take_ (i := 0) (N := some 54) (v := ?_) (a' := ?_) #[true, true, true, true, false, false, false, false, false, false] rfl rfl (take_ofW HT_.out HW_.out (by kernel_rfl)) (fun _ _ _ h => h) (Or.inl ⟨by rfl, ?_⟩) hHeld ?_ ?_
           rotate_left
           ·
            rintro w' ⟨s0, s1, s2, s3⟩
            go_simp
            with_reducible rfl
           rotate_left
           ·
            simp only [Act.put, List.setIfInBounds_toArray, List.set_cons_zero, List.set_cons_succ, i64_w, i32_w]
            rfl
           refine take_ (i := 4) (N := some 58) (v := ?_) (a' := ?_) #[true, true, true, true, true, false, false, false, false, false] rfl rfl (take_ofW HT_.out HW_.out (by kernel_rfl)) (fun _ _ _ h => h) (Or.inl ⟨by rfl, ?_⟩) hHeld ?_ ?_
           rotate_left
           ·
            rintro w' ⟨s0, s1, s2, s3⟩
            go_simp
            with_reducible rfl
           rotate_left
           ·
            simp only [Act.put, List.setIfInBounds_toArray, List.set_cons_zero, List.set_cons_succ, i64_w, i32_w]
            rfl
           refine one_ (i := 5) (N := some 59) #[true, true, true, true, true, true, false, false, false, false] rfl rfl (one_of HT_.out (by kernel_rfl)) (by decide) (fun K hK => ?_)
           refine goes_ Try.func84 (by kernel_rfl) rfl #[.agg #[.slice Ao54 x162000_2.length co54, .int .i64 x162001_2, .int .i64 x162002_2], .int .i64 (rd l1 x11_2)] (by rfl) rfl rfl ul_ ?_
           with_reducible refine (spec_PushRing.calls k2 _ _ x162000_2 x162001_2 x162002_2 (rd l1 x11_2) t172 t175 t176 t177 _ ?side1 ?side2 A36.out).mono ?_
           (case side1 => repeat (first | exact (Kd.R_reads' HO_162000.out).2.2 | (with_reducible refine Kd.C_alloc ?_ _) | (with_reducible refine Kd.C_drewN ?_ _) | (with_reducible refine Kd.C_drew ?_)))
           (case side2 => exact (Kd.R_reads' HO_162000.out).2.1)
           rintro e w55 ⟨v173, rfl, ho0, hb⟩
           refine ⟨_, rfl, ?_⟩
           have n0_ := am_ (Kd.R_elder' (ur_ HO_10.out) (Kd.R_base ho0) hb)
           have n1_ := am_ (Kd.R_elder' (ur_ HO_162000.out) (Kd.R_base ho0) hb)
           have n2_ := am_ (Kd.R_lower (Kd.R_new' (Kd.R_new' ho0 (Kd.R_lt (ur_ HO_10.out))) (Kd.R_lt (ur_ HO_162000.out))) (below_size (ue_ HB.out)))
           have n3_ := am_ (bb_ BK153.out hb)
           have n4_ := am_ (bb_ BK154.out hb)
           have n5_ := am_ (bb_ BK161.out hb)
           have n6_ := am_ (bb_ BK162.out hb)
           have n7_ := am_ (bb_ BK170.out hb)
           have n8_ := am_ (below_step (ue_ HB.out) hb)
           clear HO_10
           clear HO_162000
           clear BK153
           clear BK154
           clear BK161
           clear BK162
           clear BK170
           clear HB
           have HO_10 := n0_
           have HO_162000 := n1_
           have HO174 := n2_
           have BK153 := n3_
           have BK154 := n4_
           have BK161 := n5_
           have BK162 := n6_
           have BK170 := n7_
           have HB := n8_
           clear n0_ n1_ n2_ n3_ n4_ n5_ n6_ n7_ n8_
           (try clear hb)
           (try clear hb2)
           (try clear hk)
           (try clear hi)
           (try clear ho0)
           obtain ⟨Ao56, co56, eo56⟩ := Kd.R_slice HO174.out
           (first | subst eo56 | (injection eo56 with f1_ f2_ f3_; have f4_ := f1_.symm; have f5_ := f3_.symm; clear f1_ f2_ f3_; subst f4_; subst f5_))
           refine hK.out _ _ ⟨(blk_cell BK161.out 0).trans rfl, (blk_cell BK161.out 1).trans rfl, (blk_cell BK161.out 2).trans rfl, ((HB.out.cell (World.block_lt_of_cell? w _ hw171_0)).trans hw171_0)⟩ (fun hHeld => ?_)
           clear hK K
           refine norm_ (a' := ?_) ?_ ?_
           rotate_left
           ·
            show Act.put _ (some 59) _ = _
            simp only [Act.put, List.setIfInBounds_toArray, List.set_cons_zero, List.set_cons_succ, i64_w, i32_w]
            rfl
           refine pure_ (i := 6) (N := some 53) (v := ?_) (a' := ?_) #[true, true, true, true, true, true, true, false, false, false] rfl rfl (any_of HT_.out (by kernel_rfl)) (fun _ _ _ h => h) (Or.inl ⟨by rfl, ?_⟩) ?_ ?_
           rotate_left
           ·
            intro w'
            go_simp
            with_reducible rfl
           rotate_left
           ·
            simp only [Act.put, List.setIfInBounds_toArray, List.set_cons_zero, List.set_cons_succ, i64_w, i32_w]
            rfl
           refine pure_ (i := 7) (N := some 60) (v := ?_) (a' := ?_) #[true, true, true, true, true, true, true, true, false, false] rfl rfl (any_of HT_.out (by kernel_rfl)) (fun _ _ _ h => h) (Or.inl ⟨by rfl, ?_⟩) ?_ ?_
           rotate_left
           ·
            intro w'
            go_simp
            with_reducible rfl
           rotate_left
           ·
            simp only [Act.put, List.setIfInBounds_toArray, List.set_cons_zero, List.set_cons_succ, i64_w, i32_w]
            rfl
           refine pure_ (i := 8) (N := some 61) (v := ?_) (a' := ?_) #[true, true, true, true, true, true, true, true, true, false] rfl rfl (any_of HT_.out (by kernel_rfl)) (fun _ _ _ h => h) (Or.inl ⟨by rfl, ?_⟩) ?_ ?_
           rotate_left
           ·
            intro w'
            go_simp
            with_reducible rfl
           rotate_left
           ·
            simp only [Act.put, List.setIfInBounds_toArray, List.set_cons_zero, List.set_cons_succ, i64_w, i32_w]
            rfl
           refine last_ (i := 9) (N := none) #[true, true, true, true, true, true, true, true, true, true] rfl rfl (one_of HT_.out (by kernel_rfl)) (by decide) (fun K hK => ?_)
           have hs57 := cb_ BK161.out 0 rfl
           have hfs57 := blk_frozen BK161.out 0
           have hns57_0 := NB153_161.out
           have hns57_1 := NB154_161.out
           have hns57_3 := NB162_161.out
           have hns57_4 := NB170_161.out
           have hms57_0 := NB161_153.out
           have hms57_1 := NB161_154.out
           have hms57_3 := NB161_162.out
           have hms57_4 := NB161_170.out
           have hs58 := cb_ BK161.out 1 rfl
           have hfs58 := blk_frozen BK161.out 1
           have hns58_0 := NB153_161.out
           have hns58_1 := NB154_161.out
           have hns58_3 := NB162_161.out
           have hns58_4 := NB170_161.out
           have hms58_0 := NB161_153.out
           have hms58_1 := NB161_154.out
           have hms58_3 := NB161_162.out
           have hms58_4 := NB161_170.out
           have hs59 := cb_ BK161.out 2 rfl
           have hfs59 := blk_frozen BK161.out 2
           have hns59_0 := NB153_161.out
           have hns59_1 := NB154_161.out
           have hns59_3 := NB162_161.out
           have hns59_4 := NB170_161.out
           have hms59_0 := NB161_153.out
           have hms59_1 := NB161_154.out
           have hms59_3 := NB161_162.out
           have hms59_4 := NB161_170.out
           refine skip_ (w1 := ?_) (by rfl) rfl ?_ ?_
           rotate_left
           ·
            go_simp
            rfl
           refine hK.out _ _ ?_
           clear hK K
           refine done_ (done_of HT_.out (by kernel_rfl)) ?_
           try go_wp2_with (first | ((with_reducible refine gate_builtin (b := .append) (xs := #[.tmp 76, .tmp 78]) rfl ?_); (try (refine gate_guard (by rfl) ?_; dsimp only)); at_builtin; refine Kd.R_append (Kd.int .i64) (w0 := w) w.heap.size rfl (.tmp 76) (.tmp 78) 22 3 (.int .i64 0) 8 rfl Try.underlying22 info3 rfl (by decide) (by omega) u10 x10_2 1 [.int .i64 1] (fun k_ => some k_ ≠ (.slice Ao54 x162000_2.length co54 : Value).ownBlock ∧ some k_ ≠ (.slice Ao56 t172.length co56 : Value).ownBlock) (fun _ => False) rfl (by first | (go_simp; done) | (go_simp; rfl)) ?aP (fun _ hk => hk.elim) ?aF ?aO ?aB ?aS ?aL ?_; (case aP => exact rfl); (case aB => exact (ue_ HB.out)); (case aF => exact (fun k_ hk => ⟨Kd.fresh' (Kd.R_lt (by (with_reducible repeat (first | apply Kd.R_alloc | apply Kd.R_drewN | apply Kd.R_drew)); exact (Kd.R_mono (Kd.R_far (p := ⟨gb161, 2, none⟩) (Kd.R_far (p := ⟨gb161, 1, none⟩) (Kd.R_far (p := ⟨gb161, 0, none⟩) (Kd.R_types HO_162000.out BK161.out (by decide)) (fun _ hk => by first | exact hk.2 | grind) (.slice Ao56 t172.length co56)) (fun _ hk => by first | exact hk.2 | grind) (.int .i64 t175)) (fun _ hk => by first | exact hk.2 | grind) (.int .i64 t176)) (fun _ h_ => h_.1)))) k_ hk, Kd.fresh' (Kd.R_lt (by (with_reducible repeat (first | apply Kd.R_alloc | apply Kd.R_drewN | apply Kd.R_drew)); exact (Kd.R_mono (Kd.R_far (p := ⟨gb161, 2, none⟩) (Kd.R_far (p := ⟨gb161, 1, none⟩) (Kd.R_far (p := ⟨gb161, 0, none⟩) (Kd.R_types HO174.out BK161.out (by decide)) (fun _ hk => by first | exact hk.2 | grind) (.slice Ao56 t172.length co56)) (fun _ hk => by first | exact hk.2 | grind) (.int .i64 t175)) (fun _ hk => by first | exact hk.2 | grind) (.int .i64 t176)) (fun _ h_ => h_.1)))) k_ hk⟩)); (case aO => exact (by (with_reducible repeat (first | apply Kd.R_alloc | apply Kd.R_drewN | apply Kd.R_drew)); exact Kd.R_mono (Kd.R_far (p := ⟨gb161, 2, none⟩) (Kd.R_far (p := ⟨gb161, 1, none⟩) (Kd.R_far (p := ⟨gb161, 0, none⟩) (Kd.R_types HO_10.out BK161.out (by decide)) (fun _ hk => by first | exact hk.2 | grind) (.slice Ao56 t172.length co56)) (fun _ hk => by first | exact hk.2 | grind) (.int .i64 t175)) (fun _ hk => by first | exact hk.2 | grind) (.int .i64 t176)) (fun _ hk => by first | exact ⟨hk.1.1, hk.1.2⟩ | grind))); (case aS => exact (below_size (ue_ HB.out))); (case aL => have := LMc37.out; omega); intro v179 w60 ho hb hg hat; rw [← Ny178.out] at ho; have n0_ := am_ (Kd.R_after (ok := (fun k_ => some k_ ≠ (.slice Ao56 t172.length co56 : Value).ownBlock)) (by (with_reducible repeat (first | apply Kd.R_alloc | apply Kd.R_drewN | apply Kd.R_drew)); exact Kd.R_mono (Kd.R_far (p := ⟨gb161, 2, none⟩) (Kd.R_far (p := ⟨gb161, 1, none⟩) (Kd.R_far (p := ⟨gb161, 0, none⟩) (Kd.R_types HO_162000.out BK161.out (by decide)) (fun _ hk => by first | exact hk.2 | grind) (.slice Ao56 t172.length co56)) (fun _ hk => by first | exact hk.2 | grind) (.int .i64 t175)) (fun _ hk => by first | exact hk.2 | grind) (.int .i64 t176)) (fun _ hk => by first | exact ⟨hk.1.2, hk.1.1⟩ | grind)) hg hat); have n1_ := am_ (blk_grown (g := gb153) (o := .cells #[.slice none 0 0, .int .i64 0, .int .i64 0] 24 (0, 0)) (uf_ BK153.out) hg (Kd.R_ne HO_10.out BK153.out (by decide))); have n2_ := am_ (blk_grown (g := gb154) (o := .cells #[.int .i64 0, .int .i64 0] 26 (0, 0)) (uf_ BK154.out) hg (Kd.R_ne HO_10.out BK154.out (by decide))); have n3_ := am_ (blk_grown (g := gb161) (o := .cells #[.slice Ao56 t172.length co56, .int .i64 t175, .int .i64 t176] 24 (0, 0)) (by (with_reducible repeat first|apply bn_|apply bd_|apply ba_); refine blk_put (cs := #[.slice Ao56 t172.length co56, .int .i64 t175, .int .i64 x162002_2]) ?_ 2 _ rfl; refine blk_put (cs := #[.slice Ao56 t172.length co56, .int .i64 x162001_2, .int .i64 x162002_2]) ?_ 1 _ rfl; refine blk_put (cs := #[.slice Ao54 x162000_2.length co54, .int .i64 x162001_2, .int .i64 x162002_2]) ?_ 0 _ rfl; (with_reducible repeat first|apply bn_|apply bd_|apply ba_); exact BK161.out) hg (Kd.R_ne HO_10.out BK161.out (by decide))); have n4_ := am_ (blk_grown (g := gb162) (o := .cells #[.int .i64 t167, .int .i64 t168] 26 (0, 0)) (uf_ BK162.out) hg (Kd.R_ne HO_10.out BK162.out (by decide))); have n5_ := am_ (blk_grown (g := gb170) (o := .cells #[.int .i64 t167, .int .i64 t168] 26 (0, 0)) (uf_ BK170.out) hg (Kd.R_ne HO_10.out BK170.out (by decide))); have n6_ := am_ (Kd.R_after (ok := (fun k_ => some k_ ≠ (.slice Ao54 x162000_2.length co54 : Value).ownBlock)) (by (with_reducible repeat (first | apply Kd.R_alloc | apply Kd.R_drewN | apply Kd.R_drew)); exact Kd.R_mono (Kd.R_far (p := ⟨gb161, 2, none⟩) (Kd.R_far (p := ⟨gb161, 1, none⟩) (Kd.R_far (p := ⟨gb161, 0, none⟩) (Kd.R_types HO174.out BK161.out (by decide)) (fun _ hk => by first | exact hk.2 | grind) (.slice Ao56 t172.length co56)) (fun _ hk => by first | exact hk.2 | grind) (.int .i64 t175)) (fun _ hk => by first | exact hk.2 | grind) (.int .i64 t176)) (fun _ hk => by first | exact ⟨hk.1.2, hk.1.1.2⟩ | grind)) hg hat); have n7_ := am_ (hb); have n8_ := am_ (ho); clear HO_162000 BK153 BK154 BK161 BK162 BK170 HO174 HB HO_10; have HO_162000 := n0_; have BK153 := n1_; have BK154 := n2_; have BK161 := n3_; have BK162 := n4_; have BK170 := n5_; have HO174 := n6_; have HB := n7_; have HO180 := n8_; clear n0_ n1_ n2_ n3_ n4_ n5_ n6_ n7_ n8_; clear ho hb hg hat))
           go_roundg k2
           case measure => have := HJ3.out; have := HK2.out; omega
           case rel => exact ⟨(y178), (wrap64 (x11_2 + 1)), (t172), (t175), (t176), (t167), (t168), (.slice Ao56 t172.length co56), (by first | rfl | (simp; done) | (simp [*]; done)), H', ⟨by have := HJ3.out; have := HK2.out; omega⟩, ⟨by (with_reducible repeat (first | apply Kd.R_alloc | apply Kd.R_drewN | apply Kd.R_drew)); exact Kd.R_mono HO180.out (fun _ hk => by first | exact hk.2 | grind)⟩, ⟨by (with_reducible repeat (first | apply Kd.R_alloc | apply Kd.R_drewN | apply Kd.R_drew)); exact Kd.R_mono HO174.out (fun _ hk => by first | exact hk.2 | grind)⟩, ⟨by (with_reducible repeat first|apply bn_|apply bd_|apply ba_); exact BK153.out⟩, ⟨by (with_reducible repeat first|apply bn_|apply bd_|apply ba_); exact BK154.out⟩, ⟨by (with_reducible repeat first|apply bn_|apply bd_|apply ba_); exact BK161.out⟩, ⟨by (with_reducible repeat first|apply bn_|apply bd_|apply ba_); exact BK162.out⟩, ⟨ue_ HB.out⟩⟩
          ·
           rw [if_neg c37] at H
           exact absurd H (by simp)
         ·
          replace c35 := Bool.eq_false_iff.mpr c35
          subst c35
          have H1 : (if x10_2.length < 17592186044416 then (spec_PlayLink.l0 k2 l1 (x10_2 ++ [0]) (wrap64 (x11_2 + 1)) x162000_2 x162001_2 x162002_2 x163000_2 x163001_2) else (none)) = some (r1, r2, r3, r4, r5, r6) := by rw [if_neg (show ¬ (false = true) by decide)] at H; exact H
          clear H
          have H := H1
          clear H1
          by_cases c61 : x10_2.length < 17592186044416
          ·
           rw [if_pos c61] at H
           have LMc61 := Aside0.mk c61
           clear c61
           obtain ⟨y181, hy181⟩ : ∃ y_ : List Int, y_ = (x10_2 ++ [0]) := ⟨_, rfl⟩
           replace H : (spec_PlayLink.l0 k2 l1 y181 (wrap64 (x11_2 + 1)) x162000_2 x162001_2 x162002_2 x163000_2 x163001_2) = some (r1, r2, r3, r4, r5, r6) := by first | (rw [hy181]; with_reducible exact H) | (have H2_ := (Option.bind_some _ _).symm.trans H; rw [hy181]; with_reducible exact H2_) | (have H2_ := (Option.bind_some _ _).symm.trans H; with_reducible exact H2_) | with_reducible exact H | (rw [hy181]; exact H) | exact H
           have Ny181 := Aside0.mk hy181
           clear hy181
           have H' := Aside0.mk H
           clear H
           have p166 : 0 ≤ (x11_2 : Int) := of_decide_eq_true ua_
           have q166 : x11_2 < (l1.length : Int) := of_decide_eq_true ua_
           obtain ⟨ad166, e166, hx166_0⟩ := Kd.at_int HR1.out x11_2 p166 q166
           cases e166
           replace hx166_0 := bc_ HB.out hx166_0
           replace p166 := eq_true p166
           replace q166 := eq_true q166
           have hnb62 := NB162_153.out
           have hnc62 := NB153_162.out
           have hnb63 := NB162_154.out
           have hnc63 := NB154_162.out
           have hnb64 := NB162_161.out
           have hnc64 := NB161_162.out
           have hcz65_0 := cb_ BK162.out 0 rfl
           have hcz65_1 := cb_ BK162.out 1 rfl
           have hfz65_0 := blk_frozen BK162.out 0
           have hfz65_1 := blk_frozen BK162.out 1
           go_wp2_with (first | ((with_reducible refine gate_callee (f := 83) rfl ?_); refine goesL_ (some 48) rfl rfl Try.func83 (by kernel_rfl) rfl #[.agg #[.int .i64 x163000_2, .int .i64 x163001_2]] rfl ul_ ?_; (with_reducible refine (spec_SpendCredit.calls x163000_2 x163001_2 t167 t168 false _ A34.out).mono ?_); rintro e w66 ⟨rfl, hb⟩; refine ⟨_, rfl, ?_⟩; have n0_ := am_ (Kd.R_below (ur_ HO_10.out) hb); have n1_ := am_ (Kd.R_below (ur_ HO_162000.out) hb); have n2_ := am_ (bb_ BK153.out hb); have n3_ := am_ (bb_ BK154.out hb); have n4_ := am_ (bb_ BK161.out hb); have n5_ := am_ (bb_ BK162.out hb); have n6_ := am_ (below_step (ue_ HB.out) hb); clear HO_10 HO_162000 BK153 BK154 BK161 BK162 HB; have HO_10 := n0_; have HO_162000 := n1_; have BK153 := n2_; have BK154 := n3_; have BK161 := n4_; have BK162 := n5_; have HB := n6_; clear n0_ n1_ n2_ n3_ n4_ n5_ n6_; (try clear hb); (try clear hb2); (try clear hk); (try clear hi)) | ((with_reducible refine gate_dst (N := 13) rfl ?_); (try (refine gate_guard (by rfl) ?_; dsimp only)); refine box_event ?hg (N := 13) ?hd (cs := #[.int .i64 0, .int .i64 0]) (t := 26) ?hr ?_; (case hd => rfl); (case hg => rfl); (case hr => first | (go_simp; done) | (go_simp; rfl)); intro gb170 hg w67 hbox hb; have n0_ := am_ (Kd.R_below (ur_ HO_10.out) hb); have n1_ := am_ (Kd.R_below (ur_ HO_162000.out) hb); have n2_ := am_ (bb_ BK153.out hb); have n3_ := am_ (bb_ BK154.out hb); have n4_ := am_ (bb_ BK161.out hb); have n5_ := am_ (bb_ BK162.out hb); have n6_ := am_ (below_step (ue_ HB.out) hb); have n7_ := am_ (hbox); have n8_ := am_ ((by rw [hg]; exact (below_size (ue_ HB.out)) : w.heap.size ≤ gb170)); have n9_ := am_ ((by rw [hg]; exact (below_size (ue_ HB.out)) : w.heap.size ≤ gb170)); have n10_ := am_ ((by rw [hg]; exact Nat.ne_of_lt (bl_ BK153.out) : gb153 ≠ gb170)); have n11_ := am_ ((by rw [hg]; exact Nat.ne_of_gt (bl_ BK153.out) : gb170 ≠ gb153)); have n12_ := am_ ((by rw [hg]; exact Nat.ne_of_lt (bl_ BK154.out) : gb154 ≠ gb170)); have n13_ := am_ ((by rw [hg]; exact Nat.ne_of_gt (bl_ BK154.out) : gb170 ≠ gb154)); have n14_ := am_ ((by rw [hg]; exact Nat.ne_of_lt (bl_ BK161.out) : gb161 ≠ gb170)); have n15_ := am_ ((by rw [hg]; exact Nat.ne_of_gt (bl_ BK161.out) : gb170 ≠ gb161)); have n16_ := am_ ((by rw [hg]; exact Nat.ne_of_lt (bl_ BK162.out) : gb162 ≠ gb170)); have n17_ := am_ ((by rw [hg]; exact Nat.ne_of_gt (bl_ BK162.out) : gb170 ≠ gb162)); clear HO_10 HO_162000 BK153 BK154 BK161 BK162 HB; have HO_10 := n0_; have HO_162000 := n1_; have BK153 := n2_; have BK154 := n3_; have BK161 := n4_; have BK162 := n5_; have HB := n6_; have BK170 := n7_; have GW170 := n8_; have GE170 := n9_; have NB153_170 := n10_; have NB170_153 := n11_; have NB154_170 := n12_; have NB170_154 := n13_; have NB161_170 := n14_; have NB170_161 := n15_; have NB162_170 := n16_; have NB170_162 := n17_; clear n0_ n1_ n2_ n3_ n4_ n5_ n6_ n7_ n8_ n9_ n10_ n11_ n12_ n13_ n14_ n15_ n16_ n17_; clear hb hbox hg; have hnb68 := NB170_153.out; have hnc68 := NB153_170.out; have hnb69 := NB170_154.out; have hnc69 := NB154_170.out; have hnb70 := NB170_161.out; have hnc70 := NB161_170.out; have hnb71 := NB170_162.out; have hnc71 := NB162_170.out; obtain ⟨hcz72_0, hcz72_1⟩ := cb2_ BK170.out; have hfz72_0 := blk_frozen BK170.out 0; have hfz72_1 := blk_frozen BK170.out 1) | ((with_reducible refine gate_store (t := 26) (p := 13) rfl ?_); refine store_event (t := 26) (p := 13) (v := ?vo_w73) (w1 := ((w67.setCell ⟨gb170, 0, none⟩ (.int .i64 t167)).setCell ⟨gb170, 1, none⟩ (.int .i64 t168))) ?hg ?ho ?hn ?hr ?_; (case ho => rfl); (case hg => rfl); (case hn => rfl); (case hr => first | (go_simp; done) | (go_simp; rfl)); intro w73 hw; have n0_ : Aside0 (Kd.R (Kd.int .i64) 3 w73 w.heap.size (fun k_ => some k_ ≠ (u162000 : Value).ownBlock) u10 x10_2) := ⟨(by rw [hw]; exact (by (with_reducible repeat (first | apply Kd.R_alloc | apply Kd.R_drewN | apply Kd.R_drew)); exact Kd.R_mono (Kd.R_far (p := ⟨gb170, 1, none⟩) (Kd.R_far (p := ⟨gb170, 0, none⟩) (Kd.R_types HO_10.out BK170.out (by decide)) (fun _ hk => by first | exact hk.2 | grind) (.int .i64 t167)) (fun _ hk => by first | exact hk.2 | grind) (.int .i64 t168)) (fun _ hk => by first | exact hk.1 | grind)))⟩; have n1_ : Aside0 (Kd.R (Kd.int .i64) 3 w73 w.heap.size (fun k_ => some k_ ≠ (u10 : Value).ownBlock) u162000 x162000_2) := ⟨(by rw [hw]; exact (by (with_reducible repeat (first | apply Kd.R_alloc | apply Kd.R_drewN | apply Kd.R_drew)); exact Kd.R_mono (Kd.R_far (p := ⟨gb170, 1, none⟩) (Kd.R_far (p := ⟨gb170, 0, none⟩) (Kd.R_types HO_162000.out BK170.out (by decide)) (fun _ hk => by first | exact hk.2 | grind) (.int .i64 t167)) (fun _ hk => by first | exact hk.2 | grind) (.int .i64 t168)) (fun _ hk => by first | exact hk.1 | grind)))⟩; have n2_ : Aside0 (w73.heap[gb153]? = some (.cells #[.slice none 0 0, .int .i64 0, .int .i64 0] 24 (0, 0))) := ⟨(by rw [hw]; exact (uf_ BK153.out))⟩; have n3_ : Aside0 (w73.heap[gb154]? = some (.cells #[.int .i64 0, .int .i64 0] 26 (0, 0))) := ⟨(by rw [hw]; exact (uf_ BK154.out))⟩; have n4_ : Aside0 (w73.heap[gb161]? = some (.cells #[u162000, .int .i64 x162001_2, .int .i64 x162002_2] 24 (0, 0))) := ⟨(by rw [hw]; exact (uf_ BK161.out))⟩; have n5_ : Aside0 (w73.heap[gb162]? = some (.cells #[.int .i64 x163000_2, .int .i64 x163001_2] 26 (0, 0))) := ⟨(by rw [hw]; exact (uf_ BK162.out))⟩; have n6_ : Aside0 (w73.heap[gb170]? = some (.cells #[.int .i64 t167, .int .i64 t168] 26 (0, 0))) := ⟨(by rw [hw]; exact (by (with_reducible repeat first|apply bn_|apply bd_|apply ba_); refine blk_put (cs := #[.int .i64 t167, .int .i64 0]) ?_ 1 _ rfl; refine blk_put (cs := #[.int .i64 0, .int .i64 0]) ?_ 0 _ rfl; (with_reducible repeat first|apply bn_|apply bd_|apply ba_); exact BK170.out))⟩; have n7_ : Aside0 (Below w.heap.size w w73) := ⟨(by rw [hw]; exact (ue_ HB.out))⟩; clear hw HO_10 HO_162000 BK153 BK154 BK161 BK162 BK170 HB; have HO_10 := n0_; have HO_162000 := n1_; have BK153 := n2_; have BK154 := n3_; have BK161 := n4_; have BK162 := n5_; have BK170 := n6_; have HB := n7_; clear n0_ n1_ n2_ n3_ n4_ n5_ n6_ n7_) | ((with_reducible refine gate_builtin (b := .append) (xs := #[.tmp 76, .tmp 78]) rfl ?_); (try (refine gate_guard (by rfl) ?_; dsimp only)); at_builtin; refine Kd.R_append (Kd.int .i64) (w0 := w) w.heap.size rfl (.tmp 76) (.tmp 78) 22 3 (.int .i64 0) 8 rfl Try.underlying22 info3 rfl (by decide) (by omega) u10 x10_2 0 [.int .i64 0] (fun k_ => some k_ ≠ (u162000 : Value).ownBlock) (fun _ => False) rfl rfl ?aP (fun _ hk => hk.elim) ?aF ?aO ?aB ?aS ?aL ?_; (case aP => exact rfl); (case aB => exact (ue_ HB.out)); (case aF => exact (fun k_ hk => Kd.fresh' (Kd.R_lt (ur_ HO_162000.out)) k_ hk)); (case aO => exact (ur_ HO_10.out)); (case aS => exact (below_size (ue_ HB.out))); (case aL => have := LMc61.out; omega); intro v182 w74 ho hb hg hat; rw [← Ny181.out] at ho; have n0_ := am_ (Kd.R_after (ok := (fun _ => True)) (by (with_reducible repeat (first | apply Kd.R_alloc | apply Kd.R_drewN | apply Kd.R_drew)); exact Kd.R_mono HO_162000.out (fun _ hk => ⟨trivial, hk⟩)) hg hat); have n1_ := am_ (blk_grown (g := gb153) (o := .cells #[.slice none 0 0, .int .i64 0, .int .i64 0] 24 (0, 0)) (ub_ BK153.out) hg (Kd.R_ne HO_10.out BK153.out (by decide))); have n2_ := am_ (blk_grown (g := gb154) (o := .cells #[.int .i64 0, .int .i64 0] 26 (0, 0)) (ub_ BK154.out) hg (Kd.R_ne HO_10.out BK154.out (by decide))); have n3_ := am_ (blk_grown (g := gb161) (o := .cells #[u162000, .int .i64 x162001_2, .int .i64 x162002_2] 24 (0, 0)) (ub_ BK161.out) hg (Kd.R_ne HO_10.out BK161.out (by decide))); have n4_ := am_ (blk_grown (g := gb162) (o := .cells #[.int .i64 x163000_2, .int .i64 x163001_2] 26 (0, 0)) (ub_ BK162.out) hg (Kd.R_ne HO_10.out BK162.out (by decide))); have n5_ := am_ (blk_grown (g := gb170) (o := .cells #[.int .i64 t167, .int .i64 t168] 26 (0, 0)) (ub_ BK170.out) hg (Kd.R_ne HO_10.out BK170.out (by decide))); have n6_ := am_ (hb); have n7_ := am_ (ho); clear HO_162000 BK153 BK154 BK161 BK162 BK170 HB HO_10; have HO_162000 := n0_; have BK153 := n1_; have BK154 := n2_; have BK161 := n3_; have BK162 := n4_; have BK170 := n5_; have HB := n6_; have HO183 := n7_; clear n0_ n1_ n2_ n3_ n4_ n5_ n6_ n7_; clear ho hb hg hat))
           go_roundg k2
           case measure => have := HJ3.out; have := HK2.out; omega
           case rel => exact ⟨(y181), (wrap64 (x11_2 + 1)), (x162000_2), (x162001_2), (x162002_2), (x163000_2), (x163001_2), (u162000), (by first | rfl | (simp; done) | (simp [*]; done)), H', ⟨by have := HJ3.out; have := HK2.out; omega⟩, ⟨by (with_reducible repeat (first | apply Kd.R_alloc | apply Kd.R_drewN | apply Kd.R_drew)); exact HO183.out⟩, ⟨by (with_reducible repeat (first | apply Kd.R_alloc | apply Kd.R_drewN | apply Kd.R_drew)); exact Kd.R_mono HO_162000.out (fun _ hk => by first | exact hk.2 | grind)⟩, ⟨by (with_reducible repeat first|apply bn_|apply bd_|apply ba_); exact BK153.out⟩, ⟨by (with_reducible repeat first|apply bn_|apply bd_|apply ba_); exact BK154.out⟩, ⟨by (with_reducible repeat first|apply bn_|apply bd_|apply ba_); exact BK161.out⟩, ⟨by (with_reducible repeat first|apply bn_|apply bd_|apply ba_); exact BK162.out⟩, ⟨ue_ HB.out⟩⟩
          ·
           rw [if_neg c61] at H
           exact absurd H (by simp)
        ·
         rw [if_neg c33] at H
         have c33b0 : decide (0 ≤ (rd l1 x11_2)) = false := decide_eq_false c33
         clear c33
         replace H := Option.bind_eq_some_iff.mp H
         obtain ⟨⟨t184, t187, t188, t189, t190⟩, A750, H⟩ := H
         replace H : (if t190 = true then ((spec_ReturnCredit.f x163000_2 x163001_2).bind fun bt192 => (if x10_2.length < 17592186044416 then (spec_PlayLink.l0 k2 l1 (x10_2 ++ [t189]) (wrap64 (x11_2 + 1)) t184 t187 t188 bt192.1 bt192.2.1) else (none))) else (if x10_2.length < 17592186044416 then (spec_PlayLink.l0 k2 l1 (x10_2 ++ [(-1)]) (wrap64 (x11_2 + 1)) x162000_2 x162001_2 x162002_2 x163000_2 x163001_2) else (none))) = some (r1, r2, r3, r4, r5, r6) := H
         have A75 := Aside0.mk A750
         clear A750
         by_cases c76 : t190 = true
         ·
          subst c76
          have H1 : ((spec_ReturnCredit.f x163000_2 x163001_2).bind fun bt192 => (if x10_2.length < 17592186044416 then (spec_PlayLink.l0 k2 l1 (x10_2 ++ [t189]) (wrap64 (x11_2 + 1)) t184 t187 t188 bt192.1 bt192.2.1) else (none))) = some (r1, r2, r3, r4, r5, r6) := by rw [if_pos rfl] at H; exact H
          clear H
          have H := H1
          clear H1
          replace H := Option.bind_eq_some_iff.mp H
          obtain ⟨⟨t192, t193, t194⟩, A770, H⟩ := H
          replace H : (if x10_2.length < 17592186044416 then (spec_PlayLink.l0 k2 l1 (x10_2 ++ [t189]) (wrap64 (x11_2 + 1)) t184 t187 t188 t192 t193) else (none)) = some (r1, r2, r3, r4, r5, r6) := H
          have A77 := Aside0.mk A770
          clear A770
          by_cases c78 : x10_2.length < 17592186044416
          ·
           rw [if_pos c78] at H
           have LMc78 := Aside0.mk c78
           clear c78
           obtain ⟨y195, hy195⟩ : ∃ y_ : List Int, y_ = (x10_2 ++ [t189]) := ⟨_, rfl⟩
           replace H : (spec_PlayLink.l0 k2 l1 y195 (wrap64 (x11_2 + 1)) t184 t187 t188 t192 t193) = some (r1, r2, r3, r4, r5, r6) := by first | (rw [hy195]; with_reducible exact H) | (have H2_ := (Option.bind_some _ _).symm.trans H; rw [hy195]; with_reducible exact H2_) | (have H2_ := (Option.bind_some _ _).symm.trans H; with_reducible exact H2_) | with_reducible exact H | (rw [hy195]; exact H) | exact H
           have Ny195 := Aside0.mk hy195
           clear hy195
           have H' := Aside0.mk H
           clear H
           have p166 : 0 ≤ (x11_2 : Int) := of_decide_eq_true ua_
           have q166 : x11_2 < (l1.length : Int) := of_decide_eq_true ua_
           obtain ⟨ad166, e166, hx166_0⟩ := Kd.at_int HR1.out x11_2 p166 q166
           cases e166
           replace hx166_0 := bc_ HB.out hx166_0
           replace p166 := eq_true p166
           replace q166 := eq_true q166
           have hnb79 := NB161_153.out
           have hnc79 := NB153_161.out
           have hnb80 := NB161_154.out
           have hnc80 := NB154_161.out
           have hnb81 := NB161_162.out
           have hnc81 := NB162_161.out
           have hcz82_0 := cb_ BK161.out 0 rfl
           have hcz82_1 := cb_ BK161.out 1 rfl
           have hcz82_2 := cb_ BK161.out 2 rfl
           have hfz82_0 := blk_frozen BK161.out 0
           have hfz82_1 := blk_frozen BK161.out 1
           have hfz82_2 := blk_frozen BK161.out 2
           obtain ⟨Ao83, co83, eo83⟩ := Kd.R_slice HO_162000.out
           subst eo83
           go_wp2_with (first | ((with_reducible refine gate_callee (f := 85) rfl ?_); refine goesL_ (some 64) rfl rfl Try.func85 (by kernel_rfl) rfl #[.agg #[.slice Ao83 x162000_2.length co83, .int .i64 x162001_2, .int .i64 x162002_2]] rfl ul_ ?_; (with_reducible refine (spec_PopRing.calls k2 _ _ x162000_2 x162001_2 x162002_2 t184 t187 t188 t189 true _ ?side1 ?side2 A75.out).mono ?_); (case side1 => repeat (first | exact (Kd.R_reads' HO_162000.out).2.2 | (with_reducible refine Kd.C_alloc ?_ _) | (with_reducible refine Kd.C_drewN ?_ _) | (with_reducible refine Kd.C_drew ?_))); (case side2 => exact (Kd.R_reads' HO_162000.out).2.1); rintro e w84 ⟨v185, rfl, ho0, hb⟩; refine ⟨_, rfl, ?_⟩; have n0_ := am_ (Kd.R_elder' (ur_ HO_10.out) (Kd.R_base ho0) hb); have n1_ := am_ (Kd.R_elder' (ur_ HO_162000.out) (Kd.R_base ho0) hb); have n2_ := am_ (Kd.R_lower (Kd.R_new' (Kd.R_new' ho0 (Kd.R_lt (ur_ HO_10.out))) (Kd.R_lt (ur_ HO_162000.out))) (below_size (ue_ HB.out))); have n3_ := am_ (bb_ BK153.out hb); have n4_ := am_ (bb_ BK154.out hb); have n5_ := am_ (bb_ BK161.out hb); have n6_ := am_ (bb_ BK162.out hb); have n7_ := am_ (below_step (ue_ HB.out) hb); clear HO_10 HO_162000 BK153 BK154 BK161 BK162 HB; have HO_10 := n0_; have HO_162000 := n1_; have HO186 := n2_; have BK153 := n3_; have BK154 := n4_; have BK161 := n5_; have BK162 := n6_; have HB := n7_; clear n0_ n1_ n2_ n3_ n4_ n5_ n6_ n7_; (try clear hb); (try clear hb2); (try clear hk); (try clear hi); (try clear ho0)) | ((with_reducible refine gate_dst (N := 15) rfl ?_); (try (refine gate_guard (by rfl) ?_; dsimp only)); refine box_event ?hg (N := 15) ?hd (cs := #[.slice none 0 0, .int .i64 0, .int .i64 0]) (t := 24) ?hr ?_; (case hd => rfl); (case hg => rfl); (case hr => first | (go_simp; done) | (go_simp; rfl)); intro gb191 hg w85 hbox hb; have n0_ := am_ (Kd.R_below (ur_ HO_10.out) hb); have n1_ := am_ (Kd.R_below (ur_ HO_162000.out) hb); have n2_ := am_ (Kd.R_below (ur_ HO186.out) hb); have n3_ := am_ (bb_ BK153.out hb); have n4_ := am_ (bb_ BK154.out hb); have n5_ := am_ (bb_ BK161.out hb); have n6_ := am_ (bb_ BK162.out hb); have n7_ := am_ (below_step (ue_ HB.out) hb); have n8_ := am_ (hbox); have n9_ := am_ ((by rw [hg]; exact (below_size (ue_ HB.out)) : w.heap.size ≤ gb191)); have n10_ := am_ ((by rw [hg]; exact (below_size (ue_ HB.out)) : w.heap.size ≤ gb191)); have n11_ := am_ ((by rw [hg]; exact Nat.ne_of_lt (bl_ BK153.out) : gb153 ≠ gb191)); have n12_ := am_ ((by rw [hg]; exact Nat.ne_of_gt (bl_ BK153.out) : gb191 ≠ gb153)); have n13_ := am_ ((by rw [hg]; exact Nat.ne_of_lt (bl_ BK154.out) : gb154 ≠ gb191)); have n14_ := am_ ((by rw [hg]; exact Nat.ne_of_gt (bl_ BK154.out) : gb191 ≠ gb154)); have n15_ := am_ ((by rw [hg]; exact Nat.ne_of_lt (bl_ BK161.out) : gb161 ≠ gb191)); have n16_ := am_ ((by rw [hg]; exact Nat.ne_of_gt (bl_ BK161.out) : gb191 ≠ gb161)); have n17_ := am_ ((by rw [hg]; exact Nat.ne_of_lt (bl_ BK162.out) : gb162 ≠ gb191)); have n18_ := am_ ((by rw [hg]; exact Nat.ne_of_gt (bl_ BK162.out) : gb191 ≠ gb162)); clear HO_10 HO_162000 HO186 BK153 BK154 BK161 BK162 HB; have HO_10 := n0_; have HO_162000 := n1_; have HO186 := n2_; have BK153 := n3_; have BK154 := n4_; have BK161 := n5_; have BK162 := n6_; have HB := n7_; have BK191 := n8_; have GW191 := n9_; have GE191 := n10_; have NB153_191 := n11_; have NB191_153 := n12_; have NB154_191 := n13_; have NB191_154 := n14_; have NB161_191 := n15_; have NB191_161 := n16_; have NB162_191 := n17_; have NB191_162 := n18_; clear n0_ n1_ n2_ n3_ n4_ n5_ n6_ n7_ n8_ n9_ n10_ n11_ n12_ n13_ n14_ n15_ n16_ n17_ n18_; clear hb hbox hg; obtain ⟨Ao86, co86, eo86⟩ := Kd.R_slice HO186.out; subst eo86; have hnb87 := NB191_153.out; have hnc87 := NB153_191.out; have hnb88 := NB191_154.out; have hnc88 := NB154_191.out; have hnb89 := NB191_161.out; have hnc89 := NB161_191.out; have hnb90 := NB191_162.out; have hnc90 := NB162_191.out; obtain ⟨hcz91_0, hcz91_1, hcz91_2⟩ := cb3_ BK191.out; obtain ⟨hfz91_0, hfz91_1⟩ := bf2_ BK191.out; have hfz91_2 := blk_frozen BK191.out 2) | ((with_reducible refine gate_store (t := 24) (p := 15) rfl ?_); refine store_event (t := 24) (p := 15) (v := ?vo_w92) (w1 := (((w85.setCell ⟨gb191, 0, none⟩ (.slice Ao86 t184.length co86)).setCell ⟨gb191, 1, none⟩ (.int .i64 t187)).setCell ⟨gb191, 2, none⟩ (.int .i64 t188))) ?hg ?ho ?hn ?hr ?_; (case ho => rfl); (case hg => rfl); (case hn => rfl); (case hr => first | (go_simp; done) | (go_simp; rfl)); intro w92 hw; have n0_ : Aside0 (Kd.R (Kd.int .i64) 3 w92 w.heap.size (fun k_ => some k_ ≠ (.slice Ao83 x162000_2.length co83 : Value).ownBlock ∧ some k_ ≠ (.slice Ao86 t184.length co86 : Value).ownBlock) u10 x10_2) := ⟨(by rw [hw]; exact (by (with_reducible repeat (first | apply Kd.R_alloc | apply Kd.R_drewN | apply Kd.R_drew)); exact Kd.R_mono (Kd.R_far (p := ⟨gb191, 2, none⟩) (Kd.R_far (p := ⟨gb191, 1, none⟩) (Kd.R_far (p := ⟨gb191, 0, none⟩) (Kd.R_types HO_10.out BK191.out (by decide)) (fun _ hk => by first | exact hk.2 | grind) (.slice Ao86 t184.length co86)) (fun _ hk => by first | exact hk.2 | grind) (.int .i64 t187)) (fun _ hk => by first | exact hk.2 | grind) (.int .i64 t188)) (fun _ hk => by first | exact ⟨hk.1.1, hk.1.2⟩ | grind)))⟩; have n1_ : Aside0 (Kd.R (Kd.int .i64) 3 w92 w.heap.size (fun k_ => some k_ ≠ (u10 : Value).ownBlock ∧ some k_ ≠ (.slice Ao86 t184.length co86 : Value).ownBlock) (.slice Ao83 x162000_2.length co83) x162000_2) := ⟨(by rw [hw]; exact (by (with_reducible repeat (first | apply Kd.R_alloc | apply Kd.R_drewN | apply Kd.R_drew)); exact Kd.R_mono (Kd.R_far (p := ⟨gb191, 2, none⟩) (Kd.R_far (p := ⟨gb191, 1, none⟩) (Kd.R_far (p := ⟨gb191, 0, none⟩) (Kd.R_types HO_162000.out BK191.out (by decide)) (fun _ hk => by first | exact hk.2 | grind) (.slice Ao86 t184.length co86)) (fun _ hk => by first | exact hk.2 | grind) (.int .i64 t187)) (fun _ hk => by first | exact hk.2 | grind) (.int .i64 t188)) (fun _ hk => by first | exact ⟨hk.1.1, hk.1.2⟩ | grind)))⟩; have n2_ : Aside0 (Kd.R (Kd.int .i64) 3 w92 w.heap.size (fun k_ => some k_ ≠ (u10 : Value).ownBlock ∧ some k_ ≠ (.slice Ao83 x162000_2.length co83 : Value).ownBlock) (.slice Ao86 t184.length co86) t184) := ⟨(by rw [hw]; exact (by (with_reducible repeat (first | apply Kd.R_alloc | apply Kd.R_drewN | apply Kd.R_drew)); exact Kd.R_mono (Kd.R_far (p := ⟨gb191, 2, none⟩) (Kd.R_far (p := ⟨gb191, 1, none⟩) (Kd.R_far (p := ⟨gb191, 0, none⟩) (Kd.R_types HO186.out BK191.out (by decide)) (fun _ hk => by first | exact hk.2 | grind) (.slice Ao86 t184.length co86)) (fun _ hk => by first | exact hk.2 | grind) (.int .i64 t187)) (fun _ hk => by first | exact hk.2 | grind) (.int .i64 t188)) (fun _ hk => by first | exact ⟨hk.1.1.2, hk.1.2⟩ | grind)))⟩; have n3_ : Aside0 (w92.heap[gb153]? = some (.cells #[.slice none 0 0, .int .i64 0, .int .i64 0] 24 (0, 0))) := ⟨(by rw [hw]; exact (uf_ BK153.out))⟩; have n4_ : Aside0 (w92.heap[gb154]? = some (.cells #[.int .i64 0, .int .i64 0] 26 (0, 0))) := ⟨(by rw [hw]; exact (uf_ BK154.out))⟩; have n5_ : Aside0 (w92.heap[gb161]? = some (.cells #[.slice Ao83 x162000_2.length co83, .int .i64 x162001_2, .int .i64 x162002_2] 24 (0, 0))) := ⟨(by rw [hw]; exact (uf_ BK161.out))⟩; have n6_ : Aside0 (w92.heap[gb162]? = some (.cells #[.int .i64 x163000_2, .int .i64 x163001_2] 26 (0, 0))) := ⟨(by rw [hw]; exact (uf_ BK162.out))⟩; have n7_ : Aside0 (w92.heap[gb191]? = some (.cells #[.slice Ao86 t184.length co86, .int .i64 t187, .int .i64 t188] 24 (0, 0))) := ⟨(by rw [hw]; exact (by (with_reducible repeat first|apply bn_|apply bd_|apply ba_); refine blk_put (cs := #[.slice Ao86 t184.length co86, .int .i64 t187, .int .i64 0]) ?_ 2 _ rfl; refine blk_put (cs := #[.slice Ao86 t184.length co86, .int .i64 0, .int .i64 0]) ?_ 1 _ rfl; refine blk_put (cs := #[.slice none 0 0, .int .i64 0, .int .i64 0]) ?_ 0 _ rfl; (with_reducible repeat first|apply bn_|apply bd_|apply ba_); exact BK191.out))⟩; have n8_ : Aside0 (Below w.heap.size w w92) := ⟨(by rw [hw]; exact (ue_ HB.out))⟩; clear hw HO_10 HO_162000 HO186 BK153 BK154 BK161 BK162 BK191 HB; have HO_10 := n0_; have HO_162000 := n1_; have HO186 := n2_; have BK153 := n3_; have BK154 := n4_; have BK161 := n5_; have BK162 := n6_; have BK191 := n7_; have HB := n8_; clear n0_ n1_ n2_ n3_ n4_ n5_ n6_ n7_ n8_; obtain ⟨hcz93_0, hcz93_1, hcz93_2⟩ := cb3_ BK191.out; obtain ⟨hfz93_0, hfz93_1, hfz93_2⟩ := bf3_ BK191.out; obtain ⟨hcz94_0, hcz94_1, hcz94_2⟩ := cb3_ BK161.out; obtain ⟨hfz94_0, hfz94_1⟩ := bf2_ BK161.out; have hfz94_2 := blk_frozen BK161.out 2) | ((with_reducible refine gate_store (t := 24) (p := 7) rfl ?_); refine store_event (t := 24) (p := 7) (v := ?vo_w95) (w1 := (((w92.setCell ⟨gb161, 0, none⟩ (.slice Ao86 t184.length co86)).setCell ⟨gb161, 1, none⟩ (.int .i64 t187)).setCell ⟨gb161, 2, none⟩ (.int .i64 t188))) ?hg ?ho ?hn ?hr ?_; (case ho => rfl); (case hg => rfl); (case hn => rfl); (case hr => first | (go_simp; done) | (go_simp; rfl)); intro w95 hw; have n0_ : Aside0 (Kd.R (Kd.int .i64) 3 w95 w.heap.size (fun k_ => some k_ ≠ (.slice Ao83 x162000_2.length co83 : Value).ownBlock ∧ some k_ ≠ (.slice Ao86 t184.length co86 : Value).ownBlock) u10 x10_2) := ⟨(by rw [hw]; exact (by (with_reducible repeat (first | apply Kd.R_alloc | apply Kd.R_drewN | apply Kd.R_drew)); exact Kd.R_mono (Kd.R_far (p := ⟨gb161, 2, none⟩) (Kd.R_far (p := ⟨gb161, 1, none⟩) (Kd.R_far (p := ⟨gb161, 0, none⟩) (Kd.R_types HO_10.out BK161.out (by decide)) (fun _ hk => by first | exact hk.2 | grind) (.slice Ao86 t184.length co86)) (fun _ hk => by first | exact hk.2 | grind) (.int .i64 t187)) (fun _ hk => by first | exact hk.2 | grind) (.int .i64 t188)) (fun _ hk => by first | exact ⟨hk.1.1, hk.1.2⟩ | grind)))⟩; have n1_ : Aside0 (Kd.R (Kd.int .i64) 3 w95 w.heap.size (fun k_ => some k_ ≠ (u10 : Value).ownBlock ∧ some k_ ≠ (.slice Ao86 t184.length co86 : Value).ownBlock) (.slice Ao83 x162000_2.length co83) x162000_2) := ⟨(by rw [hw]; exact (by (with_reducible repeat (first | apply Kd.R_alloc | apply Kd.R_drewN | apply Kd.R_drew)); exact Kd.R_mono (Kd.R_far (p := ⟨gb161, 2, none⟩) (Kd.R_far (p := ⟨gb161, 1, none⟩) (Kd.R_far (p := ⟨gb161, 0, none⟩) (Kd.R_types HO_162000.out BK161.out (by decide)) (fun _ hk => by first | exact hk.2 | grind) (.slice Ao86 t184.length co86)) (fun _ hk => by first | exact hk.2 | grind) (.int .i64 t187)) (fun _ hk => by first | exact hk.2 | grind) (.int .i64 t188)) (fun _ hk => by first | exact ⟨hk.1.1, hk.1.2⟩ | grind)))⟩; have n2_ : Aside0 (Kd.R (Kd.int .i64) 3 w95 w.heap.size (fun k_ => some k_ ≠ (u10 : Value).ownBlock ∧ some k_ ≠ (.slice Ao83 x162000_2.length co83 : Value).ownBlock) (.slice Ao86 t184.length co86) t184) := ⟨(by rw [hw]; exact (by (with_reducible repeat (first | apply Kd.R_alloc | apply Kd.R_drewN | apply Kd.R_drew)); exact Kd.R_mono (Kd.R_far (p := ⟨gb161, 2, none⟩) (Kd.R_far (p := ⟨gb161, 1, none⟩) (Kd.R_far (p := ⟨gb161, 0, none⟩) (Kd.R_types HO186.out BK161.out (by decide)) (fun _ hk => by first | exact hk.2 | grind) (.slice Ao86 t184.length co86)) (fun _ hk => by first | exact hk.2 | grind) (.int .i64 t187)) (fun _ hk => by first | exact hk.2 | grind) (.int .i64 t188)) (fun _ hk => by first | exact ⟨hk.1.1, hk.1.2⟩ | grind)))⟩; have n3_ : Aside0 (w95.heap[gb153]? = some (.cells #[.slice none 0 0, .int .i64 0, .int .i64 0] 24 (0, 0))) := ⟨(by rw [hw]; exact (uf_ BK153.out))⟩; have n4_ : Aside0 (w95.heap[gb154]? = some (.cells #[.int .i64 0, .int .i64 0] 26 (0, 0))) := ⟨(by rw [hw]; exact (uf_ BK154.out))⟩; have n5_ : Aside0 (w95.heap[gb161]? = some (.cells #[.slice Ao86 t184.length co86, .int .i64 t187, .int .i64 t188] 24 (0, 0))) := ⟨(by rw [hw]; exact (by (with_reducible repeat first|apply bn_|apply bd_|apply ba_); refine blk_put (cs := #[.slice Ao86 t184.length co86, .int .i64 t187, .int .i64 x162002_2]) ?_ 2 _ rfl; refine blk_put (cs := #[.slice Ao86 t184.length co86, .int .i64 x162001_2, .int .i64 x162002_2]) ?_ 1 _ rfl; refine blk_put (cs := #[.slice Ao83 x162000_2.length co83, .int .i64 x162001_2, .int .i64 x162002_2]) ?_ 0 _ rfl; (with_reducible repeat first|apply bn_|apply bd_|apply ba_); exact BK161.out))⟩; have n6_ : Aside0 (w95.heap[gb162]? = some (.cells #[.int .i64 x163000_2, .int .i64 x163001_2] 26 (0, 0))) := ⟨(by rw [hw]; exact (uf_ BK162.out))⟩; have n7_ : Aside0 (w95.heap[gb191]? = some (.cells #[.slice Ao86 t184.length co86, .int .i64 t187, .int .i64 t188] 24 (0, 0))) := ⟨(by rw [hw]; exact (uf_ BK191.out))⟩; have n8_ : Aside0 (Below w.heap.size w w95) := ⟨(by rw [hw]; exact (ue_ HB.out))⟩; clear hw HO_10 HO_162000 HO186 BK153 BK154 BK161 BK162 BK191 HB; have HO_10 := n0_; have HO_162000 := n1_; have HO186 := n2_; have BK153 := n3_; have BK154 := n4_; have BK161 := n5_; have BK162 := n6_; have BK191 := n7_; have HB := n8_; clear n0_ n1_ n2_ n3_ n4_ n5_ n6_ n7_ n8_; have hnb96 := NB162_153.out; have hnc96 := NB153_162.out; have hnb97 := NB162_154.out; have hnc97 := NB154_162.out; obtain ⟨hcz98_0, hcz98_1⟩ := cb2_ BK162.out; have hfz98_0 := blk_frozen BK162.out 0; have hfz98_1 := blk_frozen BK162.out 1) | ((with_reducible refine gate_callee (f := 86) rfl ?_); refine goesL_ (some 72) rfl rfl Try.func86 (by kernel_rfl) rfl #[.agg #[.int .i64 x163000_2, .int .i64 x163001_2]] rfl ul_ ?_; (with_reducible refine (spec_ReturnCredit.calls x163000_2 x163001_2 t192 t193 t194 _ A77.out).mono ?_); rintro e w99 ⟨rfl, hb⟩; refine ⟨_, rfl, ?_⟩; have n0_ := am_ (Kd.R_below (ur_ HO_10.out) hb); have n1_ := am_ (Kd.R_below (ur_ HO_162000.out) hb); have n2_ := am_ (Kd.R_below (ur_ HO186.out) hb); have n3_ := am_ (bb_ BK153.out hb); have n4_ := am_ (bb_ BK154.out hb); have n5_ := am_ (bb_ BK161.out hb); have n6_ := am_ (bb_ BK162.out hb); have n7_ := am_ (bb_ BK191.out hb); have n8_ := am_ (below_step (ue_ HB.out) hb); clear HO_10 HO_162000 HO186 BK153 BK154 BK161 BK162 BK191 HB; have HO_10 := n0_; have HO_162000 := n1_; have HO186 := n2_; have BK153 := n3_; have BK154 := n4_; have BK161 := n5_; have BK162 := n6_; have BK191 := n7_; have HB := n8_; clear n0_ n1_ n2_ n3_ n4_ n5_ n6_ n7_ n8_; (try clear hb); (try clear hb2); (try clear hk); (try clear hi); obtain ⟨hcz100_0, hcz100_1⟩ := cb2_ BK162.out; have hfz100_0 := blk_frozen BK162.out 0; have hfz100_1 := blk_frozen BK162.out 1) | ((with_reducible refine gate_store (t := 26) (p := 9) rfl ?_); refine store_event (t := 26) (p := 9) (v := ?vo_w101) (w1 := ((w99.setCell ⟨gb162, 0, none⟩ (.int .i64 t192)).setCell ⟨gb162, 1, none⟩ (.int .i64 t193))) ?hg ?ho ?hn ?hr ?_; (case ho => rfl); (case hg => rfl); (case hn => rfl); (case hr => first | (go_simp; done) | (go_simp; rfl)); intro w101 hw; have n0_ : Aside0 (Kd.R (Kd.int .i64) 3 w101 w.heap.size (fun k_ => some k_ ≠ (.slice Ao83 x162000_2.length co83 : Value).ownBlock ∧ some k_ ≠ (.slice Ao86 t184.length co86 : Value).ownBlock) u10 x10_2) := ⟨(by rw [hw]; exact (by (with_reducible repeat (first | apply Kd.R_alloc | apply Kd.R_drewN | apply Kd.R_drew)); exact Kd.R_mono (Kd.R_far (p := ⟨gb162, 1, none⟩) (Kd.R_far (p := ⟨gb162, 0, none⟩) (Kd.R_types HO_10.out BK162.out (by decide)) (fun _ hk => by first | exact hk.2 | grind) (.int .i64 t192)) (fun _ hk => by first | exact hk.2 | grind) (.int .i64 t193)) (fun _ hk => by first | exact ⟨hk.1.1, hk.1.2⟩ | grind)))⟩; have n1_ : Aside0 (Kd.R (Kd.int .i64) 3 w101 w.heap.size (fun k_ => some k_ ≠ (u10 : Value).ownBlock ∧ some k_ ≠ (.slice Ao86 t184.length co86 : Value).ownBlock) (.slice Ao83 x162000_2.length co83) x162000_2) := ⟨(by rw [hw]; exact (by (with_reducible repeat (first | apply Kd.R_alloc | apply Kd.R_drewN | apply Kd.R_drew)); exact Kd.R_mono (Kd.R_far (p := ⟨gb162, 1, none⟩) (Kd.R_far (p := ⟨gb162, 0, none⟩) (Kd.R_types HO_162000.out BK162.out (by decide)) (fun _ hk => by first | exact hk.2 | grind) (.int .i64 t192)) (fun _ hk => by first | exact hk.2 | grind) (.int .i64 t193)) (fun _ hk => by first | exact ⟨hk.1.1, hk.1.2⟩ | grind)))⟩; have n2_ : Aside0 (Kd.R (Kd.int .i64) 3 w101 w.heap.size (fun k_ => some k_ ≠ (u10 : Value).ownBlock ∧ some k_ ≠ (.slice Ao83 x162000_2.length co83 : Value).ownBlock) (.slice Ao86 t184.length co86) t184) := ⟨(by rw [hw]; exact (by (with_reducible repeat (first | apply Kd.R_alloc | apply Kd.R_drewN | apply Kd.R_drew)); exact Kd.R_mono (Kd.R_far (p := ⟨gb162, 1, none⟩) (Kd.R_far (p := ⟨gb162, 0, none⟩) (Kd.R_types HO186.out BK162.out (by decide)) (fun _ hk => by first | exact hk.2 | grind) (.int .i64 t192)) (fun _ hk => by first | exact hk.2 | grind) (.int .i64 t193)) (fun _ hk => by first | exact ⟨hk.1.1, hk.1.2⟩ | grind)))⟩; have n3_ : Aside0 (w101.heap[gb153]? = some (.cells #[.slice none 0 0, .int .i64 0, .int .i64 0] 24 (0, 0))) := ⟨(by rw [hw]; exact (uf_ BK153.out))⟩; have n4_ : Aside0 (w101.heap[gb154]? = some (.cells #[.int .i64 0, .int .i64 0] 26 (0, 0))) := ⟨(by rw [hw]; exact (uf_ BK154.out))⟩; have n5_ : Aside0 (w101.heap[gb161]? = some (.cells #[.slice Ao86 t184.length co86, .int .i64 t187, .int .i64 t188] 24 (0, 0))) := ⟨(by rw [hw]; exact (uf_ BK161.out))⟩; have n6_ : Aside0 (w101.heap[gb162]? = some (.cells #[.int .i64 t192, .int .i64 t193] 26 (0, 0))) := ⟨(by rw [hw]; exact (by (with_reducible repeat first|apply bn_|apply bd_|apply ba_); refine blk_put (cs := #[.int .i64 t192, .int .i64 x163001_2]) ?_ 1 _ rfl; refine blk_put (cs := #[.int .i64 x163000_2, .int .i64 x163001_2]) ?_ 0 _ rfl; (with_reducible repeat first|apply bn_|apply bd_|apply ba_); exact BK162.out))⟩; have n7_ : Aside0 (w101.heap[gb191]? = some (.cells #[.slice Ao86 t184.length co86, .int .i64 t187, .int .i64 t188] 24 (0, 0))) := ⟨(by rw [hw]; exact (uf_ BK191.out))⟩; have n8_ : Aside0 (Below w.heap.size w w101) := ⟨(by rw [hw]; exact (ue_ HB.out))⟩; clear hw HO_10 HO_162000 HO186 BK153 BK154 BK161 BK162 BK191 HB; have HO_10 := n0_; have HO_162000 := n1_; have HO186 := n2_; have BK153 := n3_; have BK154 := n4_; have BK161 := n5_; have BK162 := n6_; have BK191 := n7_; have HB := n8_; clear n0_ n1_ n2_ n3_ n4_ n5_ n6_ n7_ n8_) | ((with_reducible refine gate_builtin (b := .append) (xs := #[.tmp 76, .tmp 78]) rfl ?_); (try (refine gate_guard (by rfl) ?_; dsimp only)); at_builtin; refine Kd.R_append (Kd.int .i64) (w0 := w) w.heap.size rfl (.tmp 76) (.tmp 78) 22 3 (.int .i64 0) 8 rfl Try.underlying22 info3 rfl (by decide) (by omega) u10 x10_2 t189 [.int .i64 t189] (fun k_ => some k_ ≠ (.slice Ao83 x162000_2.length co83 : Value).ownBlock ∧ some k_ ≠ (.slice Ao86 t184.length co86 : Value).ownBlock) (fun _ => False) rfl rfl ?aP (fun _ hk => hk.elim) ?aF ?aO ?aB ?aS ?aL ?_; (case aP => exact rfl); (case aB => exact (ue_ HB.out)); (case aF => exact (fun k_ hk => ⟨Kd.fresh' (Kd.R_lt (ur_ HO_162000.out)) k_ hk, Kd.fresh' (Kd.R_lt (ur_ HO186.out)) k_ hk⟩)); (case aO => exact (ur_ HO_10.out)); (case aS => exact (below_size (ue_ HB.out))); (case aL => have := LMc78.out; omega); intro v196 w102 ho hb hg hat; rw [← Ny195.out] at ho; have n0_ := am_ (Kd.R_after (ok := (fun k_ => some k_ ≠ (.slice Ao86 t184.length co86 : Value).ownBlock)) (by (with_reducible repeat (first | apply Kd.R_alloc | apply Kd.R_drewN | apply Kd.R_drew)); exact Kd.R_mono HO_162000.out (fun _ hk => by first | exact ⟨hk.2, hk.1⟩ | grind)) hg hat); have n1_ := am_ (blk_grown (g := gb153) (o := .cells #[.slice none 0 0, .int .i64 0, .int .i64 0] 24 (0, 0)) (ub_ BK153.out) hg (Kd.R_ne HO_10.out BK153.out (by decide))); have n2_ := am_ (blk_grown (g := gb154) (o := .cells #[.int .i64 0, .int .i64 0] 26 (0, 0)) (ub_ BK154.out) hg (Kd.R_ne HO_10.out BK154.out (by decide))); have n3_ := am_ (blk_grown (g := gb161) (o := .cells #[.slice Ao86 t184.length co86, .int .i64 t187, .int .i64 t188] 24 (0, 0)) (ub_ BK161.out) hg (Kd.R_ne HO_10.out BK161.out (by decide))); have n4_ := am_ (blk_grown (g := gb162) (o := .cells #[.int .i64 t192, .int .i64 t193] 26 (0, 0)) (ub_ BK162.out) hg (Kd.R_ne HO_10.out BK162.out (by decide))); have n5_ := am_ (Kd.R_after (ok := (fun k_ => some k_ ≠ (.slice Ao83 x162000_2.length co83 : Value).ownBlock)) (by (with_reducible repeat (first | apply Kd.R_alloc | apply Kd.R_drewN | apply Kd.R_drew)); exact Kd.R_mono HO186.out (fun _ hk => by first | exact ⟨hk.2, hk.1⟩ | grind)) hg hat); have n6_ := am_ (blk_grown (g := gb191) (o := .cells #[.slice Ao86 t184.length co86, .int .i64 t187, .int .i64 t188] 24 (0, 0)) (ub_ BK191.out) hg (Kd.R_ne HO_10.out BK191.out (by decide))); have n7_ := am_ (hb); have n8_ := am_ (ho); clear HO_162000 BK153 BK154 BK161 BK162 HO186 BK191 HB HO_10; have HO_162000 := n0_; have BK153 := n1_; have BK154 := n2_; have BK161 := n3_; have BK162 := n4_; have HO186 := n5_; have BK191 := n6_; have HB := n7_; have HO197 := n8_; clear n0_ n1_ n2_ n3_ n4_ n5_ n6_ n7_ n8_; clear ho hb hg hat))
           go_roundg k2
           case measure => have := HJ3.out; have := HK2.out; omega
           case rel => exact ⟨(y195), (wrap64 (x11_2 + 1)), (t184), (t187), (t188), (t192), (t193), (.slice Ao86 t184.length co86), (by first | rfl | (simp; done) | (simp [*]; done)), H', ⟨by have := HJ3.out; have := HK2.out; omega⟩, ⟨by (with_reducible repeat (first | apply Kd.R_alloc | apply Kd.R_drewN | apply Kd.R_drew)); exact Kd.R_mono HO197.out (fun _ hk => by first | exact hk.2 | grind)⟩, ⟨by (with_reducible repeat (first | apply Kd.R_alloc | apply Kd.R_drewN | apply Kd.R_drew)); exact Kd.R_mono HO186.out (fun _ hk => by first | exact hk.2 | grind)⟩, ⟨by (with_reducible repeat first|apply bn_|apply bd_|apply ba_); exact BK153.out⟩, ⟨by (with_reducible repeat first|apply bn_|apply bd_|apply ba_); exact BK154.out⟩, ⟨by (with_reducible repeat first|apply bn_|apply bd_|apply ba_); exact BK161.out⟩, ⟨by (with_reducible repeat first|apply bn_|apply bd_|apply ba_); exact BK162.out⟩, ⟨ue_ HB.out⟩⟩
          ·
           rw [if_neg c78] at H
           exact absurd H (by simp)
         ·
          replace c76 := Bool.eq_false_iff.mpr c76
          subst c76
          have H1 : (if x10_2.length < 17592186044416 then (spec_PlayLink.l0 k2 l1 (x10_2 ++ [(-1)]) (wrap64 (x11_2 + 1)) x162000_2 x162001_2 x162002_2 x163000_2 x163001_2) else (none)) = some (r1, r2, r3, r4, r5, r6) := by rw [if_neg (show ¬ (false = true) by decide)] at H; exact H
          clear H
          have H := H1
          clear H1
          by_cases c103 : x10_2.length < 17592186044416
          ·
           rw [if_pos c103] at H
           have LMc103 := Aside0.mk c103
           clear c103
           obtain ⟨y198, hy198⟩ : ∃ y_ : List Int, y_ = (x10_2 ++ [(-1)]) := ⟨_, rfl⟩
           replace H : (spec_PlayLink.l0 k2 l1 y198 (wrap64 (x11_2 + 1)) x162000_2 x162001_2 x162002_2 x163000_2 x163001_2) = some (r1, r2, r3, r4, r5, r6) := by first | (rw [hy198]; with_reducible exact H) | (have H2_ := (Option.bind_some _ _).symm.trans H; rw [hy198]; with_reducible exact H2_) | (have H2_ := (Option.bind_some _ _).symm.trans H; with_reducible exact H2_) | with_reducible exact H | (rw [hy198]; exact H) | exact H
           have Ny198 := Aside0.mk hy198
           clear hy198
           have H' := Aside0.mk H
           clear H
           have p166 : 0 ≤ (x11_2 : Int) := of_decide_eq_true ua_
           have q166 : x11_2 < (l1.length : Int) := of_decide_eq_true ua_
           obtain ⟨ad166, e166, hx166_0⟩ := Kd.at_int HR1.out x11_2 p166 q166
           cases e166
           replace hx166_0 := bc_ HB.out hx166_0
           replace p166 := eq_true p166
           replace q166 := eq_true q166
           have hnb104 := NB161_153.out
           have hnc104 := NB153_161.out
           have hnb105 := NB161_154.out
           have hnc105 := NB154_161.out
           have hnb106 := NB161_162.out
           have hnc106 := NB162_161.out
           have hcz107_0 := cb_ BK161.out 0 rfl
           have hcz107_1 := cb_ BK161.out 1 rfl
           have hcz107_2 := cb_ BK161.out 2 rfl
           have hfz107_0 := blk_frozen BK161.out 0
           have hfz107_1 := blk_frozen BK161.out 1
           have hfz107_2 := blk_frozen BK161.out 2
           obtain ⟨Ao108, co108, eo108⟩ := Kd.R_slice HO_162000.out
           subst eo108
           go_wp2_with (first | ((with_reducible refine gate_callee (f := 85) rfl ?_); refine goesL_ (some 64) rfl rfl Try.func85 (by kernel_rfl) rfl #[.agg #[.slice Ao108 x162000_2.length co108, .int .i64 x162001_2, .int .i64 x162002_2]] rfl ul_ ?_; (with_reducible refine (spec_PopRing.calls k2 _ _ x162000_2 x162001_2 x162002_2 t184 t187 t188 t189 false _ ?side1 ?side2 A75.out).mono ?_); (case side1 => repeat (first | exact (Kd.R_reads' HO_162000.out).2.2 | (with_reducible refine Kd.C_alloc ?_ _) | (with_reducible refine Kd.C_drewN ?_ _) | (with_reducible refine Kd.C_drew ?_))); (case side2 => exact (Kd.R_reads' HO_162000.out).2.1); rintro e w109 ⟨v185, rfl, ho0, hb⟩; refine ⟨_, rfl, ?_⟩; have n0_ := am_ (Kd.R_elder' (ur_ HO_10.out) (Kd.R_base ho0) hb); have n1_ := am_ (Kd.R_elder' (ur_ HO_162000.out) (Kd.R_base ho0) hb); have n2_ := am_ (Kd.R_lower (Kd.R_new' (Kd.R_new' ho0 (Kd.R_lt (ur_ HO_10.out))) (Kd.R_lt (ur_ HO_162000.out))) (below_size (ue_ HB.out))); have n3_ := am_ (bb_ BK153.out hb); have n4_ := am_ (bb_ BK154.out hb); have n5_ := am_ (bb_ BK161.out hb); have n6_ := am_ (bb_ BK162.out hb); have n7_ := am_ (below_step (ue_ HB.out) hb); clear HO_10 HO_162000 BK153 BK154 BK161 BK162 HB; have HO_10 := n0_; have HO_162000 := n1_; have HO186 := n2_; have BK153 := n3_; have BK154 := n4_; have BK161 := n5_; have BK162 := n6_; have HB := n7_; clear n0_ n1_ n2_ n3_ n4_ n5_ n6_ n7_; (try clear hb); (try clear hb2); (try clear hk); (try clear hi); (try clear ho0)) | ((with_reducible refine gate_dst (N := 15) rfl ?_); (try (refine gate_guard (by rfl) ?_; dsimp only)); refine box_event ?hg (N := 15) ?hd (cs := #[.slice none 0 0, .int .i64 0, .int .i64 0]) (t := 24) ?hr ?_; (case hd => rfl); (case hg => rfl); (case hr => first | (go_simp; done) | (go_simp; rfl)); intro gb191 hg w110 hbox hb; have n0_ := am_ (Kd.R_below (ur_ HO_10.out) hb); have n1_ := am_ (Kd.R_below (ur_ HO_162000.out) hb); have n2_ := am_ (Kd.R_below (ur_ HO186.out) hb); have n3_ := am_ (bb_ BK153.out hb); have n4_ := am_ (bb_ BK154.out hb); have n5_ := am_ (bb_ BK161.out hb); have n6_ := am_ (bb_ BK162.out hb); have n7_ := am_ (below_step (ue_ HB.out) hb); have n8_ := am_ (hbox); have n9_ := am_ ((by rw [hg]; exact (below_size (ue_ HB.out)) : w.heap.size ≤ gb191)); have n10_ := am_ ((by rw [hg]; exact (below_size (ue_ HB.out)) : w.heap.size ≤ gb191)); have n11_ := am_ ((by rw [hg]; exact Nat.ne_of_lt (bl_ BK153.out) : gb153 ≠ gb191)); have n12_ := am_ ((by rw [hg]; exact Nat.ne_of_gt (bl_ BK153.out) : gb191 ≠ gb153)); have n13_ := am_ ((by rw [hg]; exact Nat.ne_of_lt (bl_ BK154.out) : gb154 ≠ gb191)); have n14_ := am_ ((by rw [hg]; exact Nat.ne_of_gt (bl_ BK154.out) : gb191 ≠ gb154)); have n15_ := am_ ((by rw [hg]; exact Nat.ne_of_lt (bl_ BK161.out) : gb161 ≠ gb191)); have n16_ := am_ ((by rw [hg]; exact Nat.ne_of_gt (bl_ BK161.out) : gb191 ≠ gb161)); have n17_ := am_ ((by rw [hg]; exact Nat.ne_of_lt (bl_ BK162.out) : gb162 ≠ gb191)); have n18_ := am_ ((by rw [hg]; exact Nat.ne_of_gt (bl_ BK162.out) : gb191 ≠ gb162)); clear HO_10 HO_162000 HO186 BK153 BK154 BK161 BK162 HB; have HO_10 := n0_; have HO_162000 := n1_; have HO186 := n2_; have BK153 := n3_; have BK154 := n4_; have BK161 := n5_; have BK162 := n6_; have HB := n7_; have BK191 := n8_; have GW191 := n9_; have GE191 := n10_; have NB153_191 := n11_; have NB191_153 := n12_; have NB154_191 := n13_; have NB191_154 := n14_; have NB161_191 := n15_; have NB191_161 := n16_; have NB162_191 := n17_; have NB191_162 := n18_; clear n0_ n1_ n2_ n3_ n4_ n5_ n6_ n7_ n8_ n9_ n10_ n11_ n12_ n13_ n14_ n15_ n16_ n17_ n18_; clear hb hbox hg; obtain ⟨Ao111, co111, eo111⟩ := Kd.R_slice HO186.out; subst eo111; have hnb112 := NB191_153.out; have hnc112 := NB153_191.out; have hnb113 := NB191_154.out; have hnc113 := NB154_191.out; have hnb114 := NB191_161.out; have hnc114 := NB161_191.out; have hnb115 := NB191_162.out; have hnc115 := NB162_191.out; obtain ⟨hcz116_0, hcz116_1, hcz116_2⟩ := cb3_ BK191.out; obtain ⟨hfz116_0, hfz116_1⟩ := bf2_ BK191.out; have hfz116_2 := blk_frozen BK191.out 2) | ((with_reducible refine gate_store (t := 24) (p := 15) rfl ?_); refine store_event (t := 24) (p := 15) (v := ?vo_w117) (w1 := (((w110.setCell ⟨gb191, 0, none⟩ (.slice Ao111 t184.length co111)).setCell ⟨gb191, 1, none⟩ (.int .i64 t187)).setCell ⟨gb191, 2, none⟩ (.int .i64 t188))) ?hg ?ho ?hn ?hr ?_; (case ho => rfl); (case hg => rfl); (case hn => rfl); (case hr => first | (go_simp; done) | (go_simp; rfl)); intro w117 hw; have n0_ : Aside0 (Kd.R (Kd.int .i64) 3 w117 w.heap.size (fun k_ => some k_ ≠ (.slice Ao108 x162000_2.length co108 : Value).ownBlock ∧ some k_ ≠ (.slice Ao111 t184.length co111 : Value).ownBlock) u10 x10_2) := ⟨(by rw [hw]; exact (by (with_reducible repeat (first | apply Kd.R_alloc | apply Kd.R_drewN | apply Kd.R_drew)); exact Kd.R_mono (Kd.R_far (p := ⟨gb191, 2, none⟩) (Kd.R_far (p := ⟨gb191, 1, none⟩) (Kd.R_far (p := ⟨gb191, 0, none⟩) (Kd.R_types HO_10.out BK191.out (by decide)) (fun _ hk => by first | exact hk.2 | grind) (.slice Ao111 t184.length co111)) (fun _ hk => by first | exact hk.2 | grind) (.int .i64 t187)) (fun _ hk => by first | exact hk.2 | grind) (.int .i64 t188)) (fun _ hk => by first | exact ⟨hk.1.1, hk.1.2⟩ | grind)))⟩; have n1_ : Aside0 (Kd.R (Kd.int .i64) 3 w117 w.heap.size (fun k_ => some k_ ≠ (u10 : Value).ownBlock ∧ some k_ ≠ (.slice Ao111 t184.length co111 : Value).ownBlock) (.slice Ao108 x162000_2.length co108) x162000_2) := ⟨(by rw [hw]; exact (by (with_reducible repeat (first | apply Kd.R_alloc | apply Kd.R_drewN | apply Kd.R_drew)); exact Kd.R_mono (Kd.R_far (p := ⟨gb191, 2, none⟩) (Kd.R_far (p := ⟨gb191, 1, none⟩) (Kd.R_far (p := ⟨gb191, 0, none⟩) (Kd.R_types HO_162000.out BK191.out (by decide)) (fun _ hk => by first | exact hk.2 | grind) (.slice Ao111 t184.length co111)) (fun _ hk => by first | exact hk.2 | grind) (.int .i64 t187)) (fun _ hk => by first | exact hk.2 | grind) (.int .i64 t188)) (fun _ hk => by first | exact ⟨hk.1.1, hk.1.2⟩ | grind)))⟩; have n2_ : Aside0 (Kd.R (Kd.int .i64) 3 w117 w.heap.size (fun k_ => some k_ ≠ (u10 : Value).ownBlock ∧ some k_ ≠ (.slice Ao108 x162000_2.length co108 : Value).ownBlock) (.slice Ao111 t184.length co111) t184) := ⟨(by rw [hw]; exact (by (with_reducible repeat (first | apply Kd.R_alloc | apply Kd.R_drewN | apply Kd.R_drew)); exact Kd.R_mono (Kd.R_far (p := ⟨gb191, 2, none⟩) (Kd.R_far (p := ⟨gb191, 1, none⟩) (Kd.R_far (p := ⟨gb191, 0, none⟩) (Kd.R_types HO186.out BK191.out (by decide)) (fun _ hk => by first | exact hk.2 | grind) (.slice Ao111 t184.length co111)) (fun _ hk => by first | exact hk.2 | grind) (.int .i64 t187)) (fun _ hk => by first | exact hk.2 | grind) (.int .i64 t188)) (fun _ hk => by first | exact ⟨hk.1.1.2, hk.1.2⟩ | grind)))⟩; have n3_ : Aside0 (w117.heap[gb153]? = some (.cells #[.slice none 0 0, .int .i64 0, .int .i64 0] 24 (0, 0))) := ⟨(by rw [hw]; exact (uf_ BK153.out))⟩; have n4_ : Aside0 (w117.heap[gb154]? = some (.cells #[.int .i64 0, .int .i64 0] 26 (0, 0))) := ⟨(by rw [hw]; exact (uf_ BK154.out))⟩; have n5_ : Aside0 (w117.heap[gb161]? = some (.cells #[.slice Ao108 x162000_2.length co108, .int .i64 x162001_2, .int .i64 x162002_2] 24 (0, 0))) := ⟨(by rw [hw]; exact (uf_ BK161.out))⟩; have n6_ : Aside0 (w117.heap[gb162]? = some (.cells #[.int .i64 x163000_2, .int .i64 x163001_2] 26 (0, 0))) := ⟨(by rw [hw]; exact (uf_ BK162.out))⟩; have n7_ : Aside0 (w117.heap[gb191]? = some (.cells #[.slice Ao111 t184.length co111, .int .i64 t187, .int .i64 t188] 24 (0, 0))) := ⟨(by rw [hw]; exact (by (with_reducible repeat first|apply bn_|apply bd_|apply ba_); refine blk_put (cs := #[.slice Ao111 t184.length co111, .int .i64 t187, .int .i64 0]) ?_ 2 _ rfl; refine blk_put (cs := #[.slice Ao111 t184.length co111, .int .i64 0, .int .i64 0]) ?_ 1 _ rfl; refine blk_put (cs := #[.slice none 0 0, .int .i64 0, .int .i64 0]) ?_ 0 _ rfl; (with_reducible repeat first|apply bn_|apply bd_|apply ba_); exact BK191.out))⟩; have n8_ : Aside0 (Below w.heap.size w w117) := ⟨(by rw [hw]; exact (ue_ HB.out))⟩; clear hw HO_10 HO_162000 HO186 BK153 BK154 BK161 BK162 BK191 HB; have HO_10 := n0_; have HO_162000 := n1_; have HO186 := n2_; have BK153 := n3_; have BK154 := n4_; have BK161 := n5_; have BK162 := n6_; have BK191 := n7_; have HB := n8_; clear n0_ n1_ n2_ n3_ n4_ n5_ n6_ n7_ n8_) | ((with_reducible refine gate_builtin (b := .append) (xs := #[.tmp 76, .tmp 78]) rfl ?_); (try (refine gate_guard (by rfl) ?_; dsimp only)); at_builtin; refine Kd.R_append (Kd.int .i64) (w0 := w) w.heap.size rfl (.tmp 76) (.tmp 78) 22 3 (.int .i64 0) 8 rfl Try.underlying22 info3 rfl (by decide) (by omega) u10 x10_2 (-1) [.int .i64 (-1)] (fun k_ => some k_ ≠ (.slice Ao108 x162000_2.length co108 : Value).ownBlock ∧ some k_ ≠ (.slice Ao111 t184.length co111 : Value).ownBlock) (fun _ => False) rfl rfl ?aP (fun _ hk => hk.elim) ?aF ?aO ?aB ?aS ?aL ?_; (case aP => exact rfl); (case aB => exact (ue_ HB.out)); (case aF => exact (fun k_ hk => ⟨Kd.fresh' (Kd.R_lt (ur_ HO_162000.out)) k_ hk, Kd.fresh' (Kd.R_lt (ur_ HO186.out)) k_ hk⟩)); (case aO => exact (ur_ HO_10.out)); (case aS => exact (below_size (ue_ HB.out))); (case aL => have := LMc103.out; omega); intro v199 w118 ho hb hg hat; rw [← Ny198.out] at ho; have n0_ := am_ (Kd.R_after (ok := (fun k_ => some k_ ≠ (.slice Ao111 t184.length co111 : Value).ownBlock)) (by (with_reducible repeat (first | apply Kd.R_alloc | apply Kd.R_drewN | apply Kd.R_drew)); exact Kd.R_mono HO_162000.out (fun _ hk => by first | exact ⟨hk.2, hk.1⟩ | grind)) hg hat); have n1_ := am_ (blk_grown (g := gb153) (o := .cells #[.slice none 0 0, .int .i64 0, .int .i64 0] 24 (0, 0)) (ub_ BK153.out) hg (Kd.R_ne HO_10.out BK153.out (by decide))); have n2_ := am_ (blk_grown (g := gb154) (o := .cells #[.int .i64 0, .int .i64 0] 26 (0, 0)) (ub_ BK154.out) hg (Kd.R_ne HO_10.out BK154.out (by decide))); have n3_ := am_ (blk_grown (g := gb161) (o := .cells #[.slice Ao108 x162000_2.length co108, .int .i64 x162001_2, .int .i64 x162002_2] 24 (0, 0)) (ub_ BK161.out) hg (Kd.R_ne HO_10.out BK161.out (by decide))); have n4_ := am_ (blk_grown (g := gb162) (o := .cells #[.int .i64 x163000_2, .int .i64 x163001_2] 26 (0, 0)) (ub_ BK162.out) hg (Kd.R_ne HO_10.out BK162.out (by decide))); have n5_ := am_ (Kd.R_after (ok := (fun k_ => some k_ ≠ (.slice Ao108 x162000_2.length co108 : Value).ownBlock)) (by (with_reducible repeat (first | apply Kd.R_alloc | apply Kd.R_drewN | apply Kd.R_drew)); exact Kd.R_mono HO186.out (fun _ hk => by first | exact ⟨hk.2, hk.1⟩ | grind)) hg hat); have n6_ := am_ (blk_grown (g := gb191) (o := .cells #[.slice Ao111 t184.length co111, .int .i64 t187, .int .i64 t188] 24 (0, 0)) (ub_ BK191.out) hg (Kd.R_ne HO_10.out BK191.out (by decide))); have n7_ := am_ (hb); have n8_ := am_ (ho); clear HO_162000 BK153 BK154 BK161 BK162 HO186 BK191 HB HO_10; have HO_162000 := n0_; have BK153 := n1_; have BK154 := n2_; have BK161 := n3_; have BK162 := n4_; have HO186 := n5_; have BK191 := n6_; have HB := n7_; have HO200 := n8_; clear n0_ n1_ n2_ n3_ n4_ n5_ n6_ n7_ n8_; clear ho hb hg hat))
           go_roundg k2
           case measure => have := HJ3.out; have := HK2.out; omega
           case rel => exact ⟨(y198), (wrap64 (x11_2 + 1)), (x162000_2), (x162001_2), (x162002_2), (x163000_2), (x163001_2), (.slice Ao108 x162000_2.length co108), (by first | rfl | (simp; done) | (simp [*]; done)), H', ⟨by have := HJ3.out; have := HK2.out; omega⟩, ⟨by (with_reducible repeat (first | apply Kd.R_alloc | apply Kd.R_drewN | apply Kd.R_drew)); exact Kd.R_mono HO200.out (fun _ hk => by first | exact hk.1 | grind)⟩, ⟨by (with_reducible repeat (first | apply Kd.R_alloc | apply Kd.R_drewN | apply Kd.R_drew)); exact Kd.R_mono HO_162000.out (fun _ hk => by first | exact hk.2 | grind)⟩, ⟨by (with_reducible repeat first|apply bn_|apply bd_|apply ba_); exact BK153.out⟩, ⟨by (with_reducible repeat first|apply bn_|apply bd_|apply ba_); exact BK154.out⟩, ⟨by (with_reducible repeat first|apply bn_|apply bd_|apply ba_); exact BK161.out⟩, ⟨by (with_reducible repeat first|apply bn_|apply bd_|apply ba_); exact BK162.out⟩, ⟨ue_ HB.out⟩⟩
          ·
           rw [if_neg c103] at H
           exact absurd H (by simp)
       ·
        rw [if_neg c32] at H
        exact absurd H (by simp)
      ·
       rw [if_neg c31] at H
       have c31b0 : decide (x11_2 < (l1.length : Int)) = false := decide_eq_false c31
       clear c31
       simp only [Option.some.injEq, Prod.mk.injEq] at H
       obtain ⟨rfl, rfl, rfl, rfl, rfl, rfl⟩ := H
       try go_wp2
       have n0_ := am_ (Kd.R_drew HO_10.out)
       have n1_ := am_ (Kd.R_drew HO_162000.out)
       have n2_ := am_ (blk_drew BK153.out)
       have n3_ := am_ (blk_drew BK154.out)
       have n4_ := am_ (blk_drew BK161.out)
       have n5_ := am_ (blk_drew BK162.out)
       have n6_ := am_ (below_drew1 HB.out)
       clear HO_10
       clear HO_162000
       clear BK153
       clear BK154
       clear BK161
       clear BK162
       clear HB
       have HO_10 := n0_
       have HO_162000 := n1_
       have BK153 := n2_
       have BK154 := n3_
       have BK161 := n4_
       have BK162 := n5_
       have HB := n6_
       clear n0_ n1_ n2_ n3_ n4_ n5_ n6_
       obtain ⟨Ao120, co120, eo120⟩ := Kd.R_slice HO_162000.out
       (first | subst eo120 | (injection eo120 with f1_ f2_ f3_; have f4_ := f1_.symm; have f5_ := f3_.symm; clear f1_ f2_ f3_; subst f4_; subst f5_))
       refine start_ (n := 6) (S := fun w' => w'.cell? ⟨gb161, 0, none⟩ = some (.slice Ao120 x162000_2.length co120) ∧ w'.cell? ⟨gb161, 1, none⟩ = some (.int .i64 x162001_2) ∧ w'.cell? ⟨gb161, 2, none⟩ = some (.int .i64 x162002_2) ∧ w'.cell? ⟨gb162, 0, none⟩ = some (.int .i64 x163000_2) ∧ w'.cell? ⟨gb162, 1, none⟩ = some (.int .i64 x163001_2)) (ds := []) #[false, false, false, false, false, false] (by kernel_rfl) rfl rfl ⟨(blk_cell BK161.out 0).trans rfl, (blk_cell BK161.out 1).trans rfl, (blk_cell BK161.out 2).trans rfl, (blk_cell BK162.out 0).trans rfl, (blk_cell BK162.out 1).trans rfl⟩ (fun hHeld => ?_)
       generalize wr.drew = w119 at HO_10 HO_162000 BK153 BK154 BK161 BK162 HB hHeld ⊢
       refine pure_ (i := 2) (N := some 82) (v := ?_) (a' := ?_) #[false, false, true, false, false, false] rfl rfl (by kernel_rfl) (fun _ _ _ h => h) (Or.inl ⟨by rfl, ?_⟩) ?_ ?_
       rotate_left
       ·
        intro w'
        go_simp
        with_reducible rfl
       rotate_left
       ·
        simp only [Act.put, List.setIfInBounds_toArray, List.set_cons_zero, List.set_cons_succ, i64_w, i32_w]
        rfl
       refine take_ (i := 0) (N := some 80) (v := ?_) (a' := ?_) #[true, false, true, false, false, false] rfl rfl (by kernel_rfl) (fun _ _ _ h => h) (Or.inl ⟨by rfl, ?_⟩) hHeld ?_ ?_
       rotate_left
       ·
        rintro w' ⟨s0, s1, s2, s3, s4⟩
        go_simp
        with_reducible rfl
       rotate_left
       ·
        simp only [Act.put, List.setIfInBounds_toArray, List.set_cons_zero, List.set_cons_succ, i64_w, i32_w]
        rfl
       refine take_ (i := 1) (N := some 81) (v := ?_) (a' := ?_) #[true, true, true, false, false, false] rfl rfl (by kernel_rfl) (fun _ _ _ h => h) (Or.inl ⟨by rfl, ?_⟩) hHeld ?_ ?_
       rotate_left
       ·
        rintro w' ⟨s0, s1, s2, s3, s4⟩
        go_simp
        with_reducible rfl
       rotate_left
       ·
        simp only [Act.put, List.setIfInBounds_toArray, List.set_cons_zero, List.set_cons_succ, i64_w, i32_w]
        rfl
       refine one_ (i := 3) (N := none) #[true, true, true, true, false, false] rfl rfl (by kernel_rfl) (by decide) (fun K hK => ?_)
       have hs121 := cb_ BK153.out 0 rfl
       have hfs121 := blk_frozen BK153.out 0
       have hns121_1 := NB154_153.out
       have hns121_2 := NB161_153.out
       have hns121_3 := NB162_153.out
       have hms121_1 := NB153_154.out
       have hms121_2 := NB153_161.out
       have hms121_3 := NB153_162.out
       have hs122 := cb_ BK153.out 1 rfl
       have hfs122 := blk_frozen BK153.out 1
       have hns122_1 := NB154_153.out
       have hns122_2 := NB161_153.out
       have hns122_3 := NB162_153.out
       have hms122_1 := NB153_154.out
       have hms122_2 := NB153_161.out
       have hms122_3 := NB153_162.out
       have hs123 := cb_ BK153.out 2 rfl
       have hfs123 := blk_frozen BK153.out 2
       have hns123_1 := NB154_153.out
       have hns123_2 := NB161_153.out
       have hns123_3 := NB162_153.out
       have hms123_1 := NB153_154.out
       have hms123_2 := NB153_161.out
       have hms123_3 := NB153_162.out
       refine skip_ (w1 := ?_) (by rfl) rfl ?_ ?_
       rotate_left
       ·
        go_simp
        rfl
       refine hK.out _ _ ⟨((cell_far (p := ⟨gb153, _, none⟩) NB161_153.out _).trans (((cell_far (p := ⟨gb153, _, none⟩) NB161_153.out _).trans (((cell_far (p := ⟨gb153, _, none⟩) NB161_153.out _).trans (hHeld.1)))))), ((cell_far (p := ⟨gb153, _, none⟩) NB161_153.out _).trans (((cell_far (p := ⟨gb153, _, none⟩) NB161_153.out _).trans (((cell_far (p := ⟨gb153, _, none⟩) NB161_153.out _).trans (hHeld.2.1)))))), ((cell_far (p := ⟨gb153, _, none⟩) NB161_153.out _).trans (((cell_far (p := ⟨gb153, _, none⟩) NB161_153.out _).trans (((cell_far (p := ⟨gb153, _, none⟩) NB161_153.out _).trans (hHeld.2.2.1)))))), ((cell_far (p := ⟨gb153, _, none⟩) NB162_153.out _).trans (((cell_far (p := ⟨gb153, _, none⟩) NB162_153.out _).trans (((cell_far (p := ⟨gb153, _, none⟩) NB162_153.out _).trans (hHeld.2.2.2.1)))))), ((cell_far (p := ⟨gb153, _, none⟩) NB162_153.out _).trans (((cell_far (p := ⟨gb153, _, none⟩) NB162_153.out _).trans (((cell_far (p := ⟨gb153, _, none⟩) NB162_153.out _).trans (hHeld.2.2.2.2))))))⟩ (fun hHeld => ?_)
       clear hK K
       refine one_ (i := 4) (N := none) #[true, true, true, true, true, false] rfl rfl (by kernel_rfl) (by decide) (fun K hK => ?_)
       have hs124 := cb_ BK154.out 0 rfl
       have hfs124 := blk_frozen BK154.out 0
       have hns124_0 := NB153_154.out
       have hns124_2 := NB161_154.out
       have hns124_3 := NB162_154.out
       have hms124_0 := NB154_153.out
       have hms124_2 := NB154_161.out
       have hms124_3 := NB154_162.out
       have hs125 := cb_ BK154.out 1 rfl
       have hfs125 := blk_frozen BK154.out 1
       have hns125_0 := NB153_154.out
       have hns125_2 := NB161_154.out
       have hns125_3 := NB162_154.out
       have hms125_0 := NB154_153.out
       have hms125_2 := NB154_161.out
       have hms125_3 := NB154_162.out
       refine skip_ (w1 := ?_) (by rfl) rfl ?_ ?_
       rotate_left
       ·
        go_simp
        rfl
       refine hK.out _ _ ⟨((cell_far (p := ⟨gb154, _, none⟩) NB161_154.out _).trans (((cell_far (p := ⟨gb154, _, none⟩) NB161_154.out _).trans (hHeld.1)))), ((cell_far (p := ⟨gb154, _, none⟩) NB161_154.out _).trans (((cell_far (p := ⟨gb154, _, none⟩) NB161_154.out _).trans (hHeld.2.1)))), ((cell_far (p := ⟨gb154, _, none⟩) NB161_154.out _).trans (((cell_far (p := ⟨gb154, _, none⟩) NB161_154.out _).trans (hHeld.2.2.1)))), ((cell_far (p := ⟨gb154, _, none⟩) NB162_154.out _).trans (((cell_far (p := ⟨gb154, _, none⟩) NB162_154.out _).trans (hHeld.2.2.2.1)))), ((cell_far (p := ⟨gb154, _, none⟩) NB162_154.out _).trans (((cell_far (p := ⟨gb154, _, none⟩) NB162_154.out _).trans (hHeld.2.2.2.2))))⟩ (fun hHeld => ?_)
       clear hK K
       refine pure_ (i := 5) (N := some 6) (v := ?_) (a' := ?_) #[true, true, true, true, true, true] rfl rfl (by kernel_rfl) (fun _ _ _ h => h) (Or.inl ⟨by rfl, ?_⟩) ?_ ?_
       rotate_left
       ·
        intro w'
        go_simp
        with_reducible rfl
       rotate_left
       ·
        simp only [Act.put, List.setIfInBounds_toArray, List.set_cons_zero, List.set_cons_succ, i64_w, i32_w]
        rfl
       refine done_ (by kernel_rfl) ?_
       try go_wp2
       refine bodyPost_ret (results_list (rs := [.cell 4 24, .cell 5 26, .tmp 6]) rfl (by simp) (.cell gb153 24 #[.slice Ao120 x162000_2.length co120, .int .i64 x162001_2, .int .i64 x162002_2] (0, 0) _ rfl (by (with_reducible repeat first|apply bn_|apply bd_|apply ba_); refine blk_far ?_ NB153_154.out _; refine blk_far ?_ NB153_154.out _; refine blk_put (cs := #[.slice Ao120 x162000_2.length co120, .int .i64 x162001_2, .int .i64 0]) ?_ 2 _ rfl; refine blk_put (cs := #[.slice Ao120 x162000_2.length co120, .int .i64 0, .int .i64 0]) ?_ 1 _ rfl; refine blk_put (cs := #[.slice none 0 0, .int .i64 0, .int .i64 0]) ?_ 0 _ rfl; (with_reducible repeat first|apply bn_|apply bd_|apply ba_); exact BK153.out) Try.underlying24 rfl (by kernel_rfl) (.cell gb154 26 #[.int .i64 x163000_2, .int .i64 x163001_2] (0, 0) _ rfl (by (with_reducible repeat first|apply bn_|apply bd_|apply ba_); refine blk_put (cs := #[.int .i64 x163000_2, .int .i64 0]) ?_ 1 _ rfl; refine blk_put (cs := #[.int .i64 0, .int .i64 0]) ?_ 0 _ rfl; refine blk_far ?_ NB154_153.out _; refine blk_far ?_ NB154_153.out _; refine blk_far ?_ NB154_153.out _; (with_reducible repeat first|apply bn_|apply bd_|apply ba_); exact BK154.out) Try.underlying26 rfl (by kernel_rfl) (.tmp .nil)))) rfl ?_
       exact ⟨_, _, ew_, by (with_reducible repeat (first | apply Kd.R_alloc | apply Kd.R_drewN | apply Kd.R_drew)); exact Kd.R_mono (Kd.R_far (p := ⟨gb154, 1, none⟩) (Kd.R_far (p := ⟨gb154, 0, none⟩) (Kd.R_far (p := ⟨gb153, 2, none⟩) (Kd.R_far (p := ⟨gb153, 1, none⟩) (Kd.R_far (p := ⟨gb153, 0, none⟩) (Kd.R_types (Kd.R_types HO_162000.out BK153.out (by decide)) BK154.out (by decide)) (fun _ hk => by first | exact hk.1.2 | grind) (.slice Ao120 x162000_2.length co120)) (fun _ hk => by first | exact hk.1.2 | grind) (.int .i64 x162001_2)) (fun _ hk => by first | exact hk.1.2 | grind) (.int .i64 x162002_2)) (fun _ hk => by first | exact hk.2 | grind) (.int .i64 x163000_2)) (fun _ hk => by first | exact hk.2 | grind) (.int .i64 x163001_2)) (fun _ hk => by first | exact hk.1.1 | grind), by (with_reducible repeat (first | apply Kd.R_alloc | apply Kd.R_drewN | apply Kd.R_drew)); exact Kd.R_mono (Kd.R_far (p := ⟨gb154, 1, none⟩) (Kd.R_far (p := ⟨gb154, 0, none⟩) (Kd.R_far (p := ⟨gb153, 2, none⟩) (Kd.R_far (p := ⟨gb153, 1, none⟩) (Kd.R_far (p := ⟨gb153, 0, none⟩) (Kd.R_types (Kd.R_types HO_10.out BK153.out (by decide)) BK154.out (by decide)) (fun _ hk => by first | exact hk.1.2 | grind) (.slice Ao120 x162000_2.length co120)) (fun _ hk => by first | exact hk.1.2 | grind) (.int .i64 x162001_2)) (fun _ hk => by first | exact hk.1.2 | grind) (.int .i64 x162002_2)) (fun _ hk => by first | exact hk.2 | grind) (.int .i64 x163000_2)) (fun _ hk => by first | exact hk.2 | grind) (.int .i64 x163001_2)) (fun _ hk => by first | exact hk.1.1 | grind), ue_ HB.out⟩

/-! ### impl_within: function 106 -/
def impl_within.f (a0 : Int) (a1 : Int) (a2 : Int) : Option (Bool) := if a1 ≤ a0 then (some (decide (a0 ≤ a2))) else (some false)
set_option maxHeartbeats 8000000 in
set_option maxRecDepth 100000 in
theorem impl_within.calls (a0 : Int) (a1 : Int) (a2 : Int) (r : Bool) (w : World) (h : impl_within.f a0 a1 a2 = some r) :
  Calls Try.prog 106 #[.int .i64 a0, .int .i64 a1, .int .i64 a2] w fun e w' => e = .returned (.bool r) ∧ Drawn0 w w' := by
 have H : (if a1 ≤ a0 then (some (decide (a0 ≤ a2))) else (some false)) = some r := h
 clear h
 by_cases c4 : a1 ≤ a0
 ·
  rw [if_pos c4] at H
  have c4b0 : decide (a1 ≤ a0) = true := decide_eq_true c4
  clear c4
  obtain rfl := Option.some.inj H
  go_enter Try.func106, Try.ntmps106
  go_wp2
  go_ret
  exact ⟨by first | rfl | (simp; done) | (simp [*]; done), by repeat (first | exact Drawn0.refl _ | apply Drawn0.step)⟩
 ·
  rw [if_neg c4] at H
  have c4b0 : decide (a1 ≤ a0) = false := decide_eq_false c4
  clear c4
  obtain rfl := Option.some.inj H
  go_enter Try.func106, Try.ntmps106
  go_wp2
  go_ret
  exact ⟨by first | rfl | (simp; done) | (simp [*]; done), by repeat (first | exact Drawn0.refl _ | apply Drawn0.step)⟩

/-! ### impl_NewRing: function 87 -/
def impl_NewRing.f (a0 : Int) : Option (List Int × Int × Int × Bool) := (impl_within.f a0 1 20).bind fun t202 => (if t202 = true then (if 0 ≤ a0 then (if (a0 : Int).toNat ≤ 35184372088832 then (some ((List.replicate (a0 : Int).toNat 0), 0, 0, true)) else (none)) else (none)) else (some (([] : List Int), 0, 0, false)))
set_option maxHeartbeats 8000000 in
set_option maxRecDepth 100000 in
theorem impl_NewRing.calls (a0 : Int) (r1 : List Int) (r2 : Int) (r3 : Int) (r4 : Bool) (w : World) (h : impl_NewRing.f a0 = some (r1, r2, r3, r4)) :
  Calls Try.prog 87 #[.int .i64 a0] w fun e w' => ∃ v0_ : Value, e = .returned (.tuple #[.agg #[v0_, .int .i64 r2, .int .i64 r3], .bool r4]) ∧ Kd.R (Kd.int .i64) 3 w' w.heap.size (fun _ => True) v0_ r1 ∧ Below w.heap.size w w' := by
 have hu24 := Try.underlying24
 have HB := am_ (Below.refl w.heap.size w)
 have H : ((impl_within.f a0 1 20).bind fun t202 => (if t202 = true then (if 0 ≤ a0 then (if (a0 : Int).toNat ≤ 35184372088832 then (some ((List.replicate (a0 : Int).toNat 0), 0, 0, true)) else (none)) else (none)) else (some (([] : List Int), 0, 0, false)))) = some (r1, r2, r3, r4) := h
 clear h
 replace H := Option.bind_eq_some_iff.mp H
 obtain ⟨t202, A20, H⟩ := H
 replace H : (if t202 = true then (if 0 ≤ a0 then (if (a0 : Int).toNat ≤ 35184372088832 then (some ((List.replicate (a0 : Int).toNat 0), 0, 0, true)) else (none)) else (none)) else (some (([] : List Int), 0, 0, false))) = some (r1, r2, r3, r4) := H
 have A2 := Aside0.mk A20
 clear A20
 by_cases c3 : t202 = true
 ·
  subst c3
  have H1 : (if 0 ≤ a0 then (if (a0 : Int).toNat ≤ 35184372088832 then (some ((List.replicate (a0 : Int).toNat 0), 0, 0, true)) else (none)) else (none)) = some (r1, r2, r3, r4) := by rw [if_pos rfl] at H; exact H
  clear H
  have H := H1
  clear H1
  by_cases c4 : 0 ≤ a0
  ·
   rw [if_pos c4] at H
   have c4b0 := eq_true c4
   have c4b1 : decide (0 ≤ a0) = true := decide_eq_true c4
   clear c4
   by_cases c5 : (a0 : Int).toNat ≤ 35184372088832
   ·
    rw [if_pos c5] at H
    have c5b0 := eq_true c5
    have c5b1 : decide ((a0 : Int).toNat ≤ 35184372088832) = true := decide_eq_true c5
    clear c5
    obtain ⟨y203, hy203⟩ : ∃ y_ : List Int, y_ = (List.replicate (a0 : Int).toNat 0) := ⟨_, rfl⟩
    replace H : (some (y203, 0, 0, true)) = some (r1, r2, r3, r4) := by first | (rw [hy203]; with_reducible exact H) | (have H2_ := (Option.bind_some _ _).symm.trans H; rw [hy203]; with_reducible exact H2_) | (have H2_ := (Option.bind_some _ _).symm.trans H; with_reducible exact H2_) | with_reducible exact H | (rw [hy203]; exact H) | exact H
    have Ny203 := Aside0.mk hy203
    clear hy203
    simp only [Option.some.injEq, Prod.mk.injEq] at H
    obtain ⟨rfl, rfl, rfl, rfl⟩ := H
    go_enter Try.func87, Try.ntmps87
    go_wp2_with (first | ((with_reducible refine gate_dst (N := 2) rfl ?_); refine box_event ?hg (N := 2) ?hd (cs := #[.slice none 0 0, .int .i64 0, .int .i64 0]) (t := 24) ?hr ?_; (case hd => rfl); (case hg => rfl); (case hr => first | (go_simp; done) | (go_simp; rfl)); intro gb201 hg w6 hbox hb; have n0_ := am_ (below_step (ue_ HB.out) hb); have n1_ := am_ (hbox); have n2_ := am_ ((by rw [hg]; exact (below_size (ue_ HB.out)) : w.heap.size ≤ gb201)); have n3_ := am_ ((by rw [hg]; exact (below_size (ue_ HB.out)) : w.heap.size ≤ gb201)); clear HB; have HB := n0_; have BK201 := n1_; have GW201 := n2_; have GE201 := n3_; clear n0_ n1_ n2_ n3_; clear hb hbox hg) | ((with_reducible refine gate_callee (f := 106) rfl ?_); refine goesL_ (some 5) rfl rfl Try.func106 (by kernel_rfl) rfl #[.int .i64 a0, .int .i64 1, .int .i64 20] rfl ul_ ?_; (with_reducible refine (impl_within.calls a0 1 20 true _ A2.out).mono ?_); rintro e w' ⟨rfl, ⟨nd, rfl⟩⟩; refine ⟨_, rfl, ?_⟩; (try (rw [drewN_self w6]; generalize hq_ : World.drewN w6 _ = w6; have n0_ : Aside0 (w6.heap[gb201]? = some (.cells #[.slice none 0 0, .int .i64 0, .int .i64 0] 24 (0, 0))) := ⟨by rw [← hq_]; exact (ub_ BK201.out)⟩; have n1_ : Aside0 (Below w.heap.size w w6) := ⟨by rw [← hq_]; exact (ue_ HB.out)⟩; clear BK201 HB hq_; have BK201 := n0_; have HB := n1_; clear n0_ n1_))) | ((with_reducible refine gate_dst (N := 9) rfl ?_); refine Kd.R_make (Kd.int .i64) _ 3 rfl (N := 9) rfl 22 _ _ rfl a0 rfl rfl Try.underlying22 (.int .i64 0) 8 info3 rfl (by decide) (by omega) 0 (ok := fun _ => True) (okp := fun _ => True) rfl (fun _ hk => hk) trivial (of_decide_eq_true ua_) (Nat.le_trans (Nat.mul_le_mul_right _ (of_decide_eq_true ua_ : a0.toNat ≤ 35184372088832)) (by omega)) (Below.refl _ _) (Nat.le_refl _) ?_; intro v204 w7 ho8 hb hg_ hnew_; clear hg_ hnew_; (first | rw [← Ny203.out] at ho8 | (simp only [Int.reduceToNat] at ho8; rw [← Ny203.out] at ho8)); have n0_ := am_ (Kd.R_lower ho8 (below_size (ue_ HB.out))); have n1_ := am_ (bb_ BK201.out hb); have n2_ := am_ (below_step (ue_ HB.out) hb); clear BK201 HB; have HO205 := n0_; have BK201 := n1_; have HB := n2_; clear n0_ n1_ n2_; clear hb ho8; obtain ⟨Ao9, co9, eo9⟩ := Kd.R_slice HO205.out; subst eo9; obtain ⟨hcz10_0, hcz10_1, hcz10_2⟩ := cb3_ BK201.out; obtain ⟨hfz10_0, hfz10_1⟩ := bf2_ BK201.out; have hfz10_2 := blk_frozen BK201.out 2) | ((with_reducible refine gate_store (t := 24) (p := 2) rfl ?_); refine store_event (t := 24) (p := 2) (v := ?vo_w11) (w1 := (((w7.setCell ⟨gb201, 0, none⟩ (.slice Ao9 y203.length co9)).setCell ⟨gb201, 1, none⟩ (.int .i64 0)).setCell ⟨gb201, 2, none⟩ (.int .i64 0))) ?hg ?ho ?hn ?hr ?_; (case ho => rfl); (case hg => rfl); (case hn => rfl); (case hr => first | (go_simp; done) | (go_simp; rfl)); intro w11 hw; have n0_ : Aside0 (Kd.R (Kd.int .i64) 3 w11 w.heap.size (fun _ => True) (.slice Ao9 y203.length co9) y203) := ⟨(by rw [hw]; exact (by (with_reducible repeat (first | apply Kd.R_alloc | apply Kd.R_drewN | apply Kd.R_drew)); exact Kd.R_mono (Kd.R_far (p := ⟨gb201, 2, none⟩) (Kd.R_far (p := ⟨gb201, 1, none⟩) (Kd.R_far (p := ⟨gb201, 0, none⟩) (Kd.R_types HO205.out BK201.out (by decide)) (fun _ hk => by first | exact hk.2 | grind) (.slice Ao9 y203.length co9)) (fun _ hk => by first | exact hk.2 | grind) (.int .i64 0)) (fun _ hk => by first | exact hk.2 | grind) (.int .i64 0)) (fun _ hk => trivial)))⟩; have n1_ : Aside0 (w11.heap[gb201]? = some (.cells #[.slice Ao9 y203.length co9, .int .i64 0, .int .i64 0] 24 (0, 0))) := ⟨(by rw [hw]; exact (by (with_reducible repeat first|apply bn_|apply bd_|apply ba_); refine blk_put (cs := #[.slice Ao9 y203.length co9, .int .i64 0, .int .i64 0]) ?_ 2 _ rfl; refine blk_put (cs := #[.slice Ao9 y203.length co9, .int .i64 0, .int .i64 0]) ?_ 1 _ rfl; refine blk_put (cs := #[.slice none 0 0, .int .i64 0, .int .i64 0]) ?_ 0 _ rfl; (with_reducible repeat first|apply bn_|apply bd_|apply ba_); exact BK201.out))⟩; have n2_ : Aside0 (Below w.heap.size w w11) := ⟨(by rw [hw]; exact (ue_ HB.out))⟩; clear hw HO205 BK201 HB; have HO205 := n0_; have BK201 := n1_; have HB := n2_; clear n0_ n1_ n2_))
    refine bodyPost_ret (results_ct rfl _ _ gb201 24 #[.slice Ao9 y203.length co9, .int .i64 0, .int .i64 0] (0, 0) _ rfl (ub_ BK201.out) Try.underlying24 rfl (by kernel_rfl)) rfl ?_
    exact ⟨_, ew_, by (with_reducible repeat (first | apply Kd.R_alloc | apply Kd.R_drewN | apply Kd.R_drew)); exact HO205.out, ue_ HB.out⟩
   ·
    rw [if_neg c5] at H
    exact absurd H (by simp)
  ·
   rw [if_neg c4] at H
   exact absurd H (by simp)
 ·
  replace c3 := Bool.eq_false_iff.mpr c3
  subst c3
  have H1 : (some (([] : List Int), 0, 0, false)) = some (r1, r2, r3, r4) := by rw [if_neg (show ¬ (false = true) by decide)] at H; exact H
  clear H
  have H := H1
  clear H1
  simp only [Option.some.injEq, Prod.mk.injEq] at H
  obtain ⟨rfl, rfl, rfl, rfl⟩ := H
  go_enter Try.func87, Try.ntmps87
  go_wp2_with (first | ((with_reducible refine gate_dst (N := 2) rfl ?_); refine box_event ?hg (N := 2) ?hd (cs := #[.slice none 0 0, .int .i64 0, .int .i64 0]) (t := 24) ?hr ?_; (case hd => rfl); (case hg => rfl); (case hr => first | (go_simp; done) | (go_simp; rfl)); intro gb201 hg w12 hbox hb; have n0_ := am_ (below_step (ue_ HB.out) hb); have n1_ := am_ (hbox); have n2_ := am_ ((by rw [hg]; exact (below_size (ue_ HB.out)) : w.heap.size ≤ gb201)); have n3_ := am_ ((by rw [hg]; exact (below_size (ue_ HB.out)) : w.heap.size ≤ gb201)); clear HB; have HB := n0_; have BK201 := n1_; have GW201 := n2_; have GE201 := n3_; clear n0_ n1_ n2_ n3_; clear hb hbox hg) | ((with_reducible refine gate_callee (f := 106) rfl ?_); refine goesL_ (some 5) rfl rfl Try.func106 (by kernel_rfl) rfl #[.int .i64 a0, .int .i64 1, .int .i64 20] rfl ul_ ?_; (with_reducible refine (impl_within.calls a0 1 20 false _ A2.out).mono ?_); rintro e w' ⟨rfl, ⟨nd, rfl⟩⟩; refine ⟨_, rfl, ?_⟩; (try (rw [drewN_self w12]; generalize hq_ : World.drewN w12 _ = w12; have n0_ : Aside0 (w12.heap[gb201]? = some (.cells #[.slice none 0 0, .int .i64 0, .int .i64 0] 24 (0, 0))) := ⟨by rw [← hq_]; exact (ub_ BK201.out)⟩; have n1_ : Aside0 (Below w.heap.size w w12) := ⟨by rw [← hq_]; exact (ue_ HB.out)⟩; clear BK201 HB hq_; have BK201 := n0_; have HB := n1_; clear n0_ n1_)); obtain ⟨hcz13_0, hcz13_1, hcz13_2⟩ := cb3_ BK201.out; obtain ⟨hfz13_0, hfz13_1⟩ := bf2_ BK201.out; have hfz13_2 := blk_frozen BK201.out 2) | ((with_reducible refine gate_store (t := 24) (p := 2) rfl ?_); refine store_event (t := 24) (p := 2) (v := ?vo_w14) (w1 := (((w12.setCell ⟨gb201, 0, none⟩ (.slice none 0 0)).setCell ⟨gb201, 1, none⟩ (.int .i64 0)).setCell ⟨gb201, 2, none⟩ (.int .i64 0))) ?hg ?ho ?hn ?hr ?_; (case ho => rfl); (case hg => rfl); (case hn => rfl); (case hr => first | (go_simp; done) | (go_simp; rfl)); intro w14 hw; have n0_ : Aside0 (w14.heap[gb201]? = some (.cells #[.slice none 0 0, .int .i64 0, .int .i64 0] 24 (0, 0))) := ⟨(by rw [hw]; exact (by (with_reducible repeat first|apply bn_|apply bd_|apply ba_); refine blk_put (cs := #[.slice none 0 0, .int .i64 0, .int .i64 0]) ?_ 2 _ rfl; refine blk_put (cs := #[.slice none 0 0, .int .i64 0, .int .i64 0]) ?_ 1 _ rfl; refine blk_put (cs := #[.slice none 0 0, .int .i64 0, .int .i64 0]) ?_ 0 _ rfl; (with_reducible repeat first|apply bn_|apply bd_|apply ba_); exact BK201.out))⟩; have n1_ : Aside0 (Below w.heap.size w w14) := ⟨(by rw [hw]; exact (ue_ HB.out))⟩; clear hw BK201 HB; have BK201 := n0_; have HB := n1_; clear n0_ n1_))
  refine bodyPost_ret (results_ct rfl _ _ gb201 24 #[.slice none 0 0, .int .i64 0, .int .i64 0] (0, 0) _ rfl (ub_ BK201.out) Try.underlying24 rfl (by kernel_rfl)) rfl ?_
  exact ⟨_, ew_, by first | exact Kd.R_nil _ _ _ _ _ | exact Kd.N_nil _ _ _ _ _ | exact Kd.V_nil _ _ _ _ _ | exact Kd.Q_nil _ _ _ _ _ | exact Kd.S_nil _ _ _ _ _, ue_ HB.out⟩

end Go.Proofs.Ytcflalomjehiiaa.QFnRings
