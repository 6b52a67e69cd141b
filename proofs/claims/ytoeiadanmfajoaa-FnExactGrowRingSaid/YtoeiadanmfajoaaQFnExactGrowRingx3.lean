/- The machine side of a law: Lean functions with the Go functions' answers and the walks that show it. No condition. -/
import Derived.Test.YtoeiadanmfajoaaQFnExactGrowRingx0
import Derived.Test.YtoeiadanmfajoaaQFnExactGrowRingx1
import Derived.Test.YtoeiadanmfajoaaQFnExactGrowRingx2
namespace Go.Proofs.Ytoeiadanmfajoaa.QFnExactGrowRing
open Go.RowKit Go.Proofs.YtoeiadanmfajoaaW.PrintWords Go.Proofs.YtoeiadanmfajoaaW.PrintLast Go.Proofs.YtoeiadanmfajoaaW.PrintMore
attribute [local go_sem] max2_int min2_int max_two min_two max_three min_three max_four min_four   -- for this text's walks alone
set_option linter.unusedVariables false
set_option linter.unusedSimpArgs false

/-! ### spec_l03Copy: function 90 -/
def spec_l03Copy.f (k : Nat) (l0_0 : List Int) (a0_1 : Int) (a0_2 : Int) : Option (List Int × Int × Int) := (spec_l01Copy.f k l0_0).bind fun t149 => (some (t149, a0_1, a0_2))
theorem spec_l03Copy.mono : ∀ a0 a1 a2 k, LeO (spec_l03Copy.f k a0 a1 a2) (spec_l03Copy.f (k + 1) a0 a1 a2) := by
 intro a0 a1 a2 k
 unfold spec_l03Copy.f
 repeat' first
   | (with_reducible exact spec_l01Copy.mono _ _)
   | (with_reducible exact LeO.refl _)
   | (with_reducible exact LeO.none _)
   | (with_reducible refine LeO.ite ?_ ?_)
   | (with_reducible refine LeO.bind ?_ (fun _ => ?_))
   | exact spec_l01Copy.mono _ _
   | exact LeO.none _
   | refine LeO.ite ?_ ?_
   | refine LeO.bind ?_ (fun _ => ?_)
def spec_l03Copy.T1 : Bool × List (List Nat × List Nat) := (true, [([], []), ([0], [0]), ([1], [1]), ([], []), ([3], [3]), ([], []), ([5], [5]), ([2, 4, 6], [2, 4, 6]), ([7, 2, 0, 1, 2, 3, 4, 5, 6, 7], [7])])
def spec_l03Copy.B1 : List Nat := [0, 1, 3, 0, 8, 0, 32, 127, 255]
theorem spec_l03Copy.tab1 : rtab .any (opsOf Try.f90 1) = spec_l03Copy.T1 := by kernel_rfl
theorem spec_l03Copy.bits1 : waitsOk spec_l03Copy.T1.2 spec_l03Copy.B1 = true := by kernel_rfl
set_option maxHeartbeats 8000000 in
set_option maxRecDepth 100000 in
theorem spec_l03Copy.calls (k : Nat) (A0_0 : Option Addr) (c0_0 : Nat) (l0_0 : List Int) (a0_1 : Int) (a0_2 : Int) (r1 : List Int) (r2 : Int) (r3 : Int) (w : World) (hr0_0 : Kd.C (Kd.int .i64) w A0_0 l0_0.length l0_0) (hc0_0 : l0_0.length ≤ c0_0) (h : spec_l03Copy.f k l0_0 a0_1 a0_2 = some (r1, r2, r3)) :
  Calls Try.prog 90 #[.agg #[.slice A0_0 l0_0.length c0_0, .int .i64 a0_1, .int .i64 a0_2]] w fun e w' => ∃ v0_ : Value, e = .returned (.agg #[v0_, .int .i64 r2, .int .i64 r3]) ∧ Kd.R (Kd.int .i64) 3 w' w.heap.size (fun _ => True) v0_ r1 ∧ Below w.heap.size w w' := by
 have hu29 := Try.underlying29
 have HR0_0 := Aside0.mk hr0_0
 have HC0_0 := Aside0.mk hc0_0
 clear hr0_0 hc0_0
 have HB := am_ (Below.refl w.heap.size w)
 have H : ((spec_l01Copy.f k l0_0).bind fun t149 => (some (t149, a0_1, a0_2))) = some (r1, r2, r3) := h
 clear h
 replace H := Option.bind_eq_some_iff.mp H
 obtain ⟨t149, A20, H⟩ := H
 replace H : (some (t149, a0_1, a0_2)) = some (r1, r2, r3) := H
 have A2 := Aside0.mk A20
 clear A20
 simp only [Option.some.injEq, Prod.mk.injEq] at H
 obtain ⟨rfl, rfl, rfl⟩ := H
 go_enter Try.func90, Try.ntmps90
 try go_wp2_with (first | ((with_reducible refine gate_dst (N := 1) rfl ?_); refine box_event ?hg (N := 1) ?hd (cs := #[.slice A0_0 l0_0.length c0_0, .int .i64 a0_1, .int .i64 a0_2]) (t := 29) ?hr ?_; (case hd => rfl); (case hg => rfl); (case hr => first | (go_simp; done) | (go_simp; rfl)); intro gb147 hg w3 hbox hb; have n0_ := am_ (below_step (ue_ HB.out) hb); have n1_ := am_ (hbox); have n2_ := am_ ((by rw [hg]; exact (below_size (ue_ HB.out)) : w.heap.size ≤ gb147)); have n3_ := am_ ((by rw [hg]; exact (below_size (ue_ HB.out)) : w.heap.size ≤ gb147)); clear HB; have HB := n0_; have BK147 := n1_; have GW147 := n2_; have GE147 := n3_; clear n0_ n1_ n2_ n3_; clear hb hbox hg) | ((with_reducible refine gate_dst (N := 2) rfl ?_); refine box_event ?hg (N := 2) ?hd (cs := #[.slice none 0 0, .int .i64 0, .int .i64 0]) (t := 29) ?hr ?_; (case hd => rfl); (case hg => rfl); (case hr => first | (go_simp; done) | (go_simp; rfl)); intro gb148 hg w4 hbox hb; have n0_ := am_ (bb_ BK147.out hb); have n1_ := am_ (below_step (ue_ HB.out) hb); have n2_ := am_ (hbox); have n3_ := am_ ((by rw [hg]; exact (below_size (ue_ HB.out)) : w.heap.size ≤ gb148)); have n4_ := am_ ((by rw [hg]; exact (below_size (ue_ HB.out)) : w.heap.size ≤ gb148)); have n5_ := am_ ((by rw [hg]; exact Nat.ne_of_lt (bl_ BK147.out) : gb147 ≠ gb148)); have n6_ := am_ ((by rw [hg]; exact Nat.ne_of_gt (bl_ BK147.out) : gb148 ≠ gb147)); clear BK147 HB; have BK147 := n0_; have HB := n1_; have BK148 := n2_; have GW148 := n3_; have GE148 := n4_; have NB147_148 := n5_; have NB148_147 := n6_; clear n0_ n1_ n2_ n3_ n4_ n5_ n6_; clear hb hbox hg))
 have n0_ := am_ (blk_drew BK147.out)
 have n1_ := am_ (blk_drew BK148.out)
 have n2_ := am_ (below_drew1 HB.out)
 clear BK147
 clear BK148
 clear HB
 have BK147 := n0_
 have BK148 := n1_
 have HB := n2_
 clear n0_ n1_ n2_
 refine start_ (n := 9) (S := fun w' => w'.cell? ⟨gb147, 0, none⟩ = some (.slice A0_0 l0_0.length c0_0) ∧ w'.cell? ⟨gb147, 1, none⟩ = some (.int .i64 a0_1) ∧ w'.cell? ⟨gb147, 2, none⟩ = some (.int .i64 a0_2)) (ds := []) #[false, false, false, false, false, false, false, false, false] (by kernel_rfl) rfl rfl ⟨(blk_cell BK147.out 0).trans rfl, (blk_cell BK147.out 1).trans rfl, (blk_cell BK147.out 2).trans rfl⟩ (fun hHeld => ?_); refine with_tabW spec_l03Copy.tab1 spec_l03Copy.bits1 (fun HT_ HW_ => ?_)
 generalize w4.drew = w5 at BK147 BK148 HB hHeld ⊢
 refine pure_ (i := 0) (N := some 3) (v := ?_) (a' := ?_) #[true, false, false, false, false, false, false, false, false] rfl rfl (any_of HT_.out (by kernel_rfl)) (fun _ _ _ h => h) (Or.inl ⟨by rfl, ?_⟩) ?_ ?_
 rotate_left
 ·
  intro w'
  go_simp
  with_reducible rfl
 rotate_left
 ·
  simp only [Act.put, List.setIfInBounds_toArray, List.set_cons_zero, List.set_cons_succ, i64_w, i32_w]
  rfl
 refine pure_ (i := 3) (N := some 6) (v := ?_) (a' := ?_) #[true, false, false, true, false, false, false, false, false] rfl rfl (any_of HT_.out (by kernel_rfl)) (fun _ _ _ h => h) (Or.inl ⟨by rfl, ?_⟩) ?_ ?_
 rotate_left
 ·
  intro w'
  go_simp
  with_reducible rfl
 rotate_left
 ·
  simp only [Act.put, List.setIfInBounds_toArray, List.set_cons_zero, List.set_cons_succ, i64_w, i32_w]
  rfl
 refine pure_ (i := 5) (N := some 8) (v := ?_) (a' := ?_) #[true, false, false, true, false, true, false, false, false] rfl rfl (any_of HT_.out (by kernel_rfl)) (fun _ _ _ h => h) (Or.inl ⟨by rfl, ?_⟩) ?_ ?_
 rotate_left
 ·
  intro w'
  go_simp
  with_reducible rfl
 rotate_left
 ·
  simp only [Act.put, List.setIfInBounds_toArray, List.set_cons_zero, List.set_cons_succ, i64_w, i32_w]
  rfl
 refine take_ (i := 1) (N := some 4) (v := ?_) (a' := ?_) #[true, true, false, true, false, true, false, false, false] rfl rfl (take_ofW HT_.out HW_.out (by kernel_rfl)) (fun _ _ _ h => h) (Or.inl ⟨by rfl, ?_⟩) hHeld ?_ ?_
 rotate_left
 ·
  rintro w' ⟨s0, s1, s2⟩
  go_simp
  with_reducible rfl
 rotate_left
 ·
  simp only [Act.put, List.setIfInBounds_toArray, List.set_cons_zero, List.set_cons_succ, i64_w, i32_w]
  rfl
 refine take_ (i := 4) (N := some 7) (v := ?_) (a' := ?_) #[true, true, false, true, true, true, false, false, false] rfl rfl (take_ofW HT_.out HW_.out (by kernel_rfl)) (fun _ _ _ h => h) (Or.inl ⟨by rfl, ?_⟩) hHeld ?_ ?_
 rotate_left
 ·
  rintro w' ⟨s0, s1, s2⟩
  go_simp
  with_reducible rfl
 rotate_left
 ·
  simp only [Act.put, List.setIfInBounds_toArray, List.set_cons_zero, List.set_cons_succ, i64_w, i32_w]
  rfl
 refine take_ (i := 6) (N := some 9) (v := ?_) (a' := ?_) #[true, true, false, true, true, true, true, false, false] rfl rfl (take_ofW HT_.out HW_.out (by kernel_rfl)) (fun _ _ _ h => h) (Or.inl ⟨by rfl, ?_⟩) hHeld ?_ ?_
 rotate_left
 ·
  rintro w' ⟨s0, s1, s2⟩
  go_simp
  with_reducible rfl
 rotate_left
 ·
  simp only [Act.put, List.setIfInBounds_toArray, List.set_cons_zero, List.set_cons_succ, i64_w, i32_w]
  rfl
 refine one_ (i := 2) (N := some 5) #[true, true, true, true, true, true, true, false, false] rfl rfl (one_of HT_.out (by kernel_rfl)) (by decide) (fun K hK => ?_)
 refine goes_ Try.func122 (by kernel_rfl) rfl #[.slice A0_0 l0_0.length c0_0] (by rfl) rfl rfl ul_ ?_
 with_reducible refine (spec_l01Copy.calls k _ _ l0_0 t149 _ ?side1 ?side2 A2.out).mono ?_
 (case side1 => repeat (first | exact (Kd.C_below HR0_0.out HB.out) | (with_reducible refine Kd.C_alloc ?_ _) | (with_reducible refine Kd.C_drewN ?_ _) | (with_reducible refine Kd.C_drew ?_)))
 (case side2 => exact HC0_0.out)
 rintro e w6 ⟨v150, rfl, ho0, hb⟩
 refine ⟨_, rfl, ?_⟩
 have n0_ := am_ (Kd.R_lower ho0 (below_size (ue_ HB.out)))
 have n1_ := am_ (bb_ BK147.out hb)
 have n2_ := am_ (bb_ BK148.out hb)
 have n3_ := am_ (below_step (ue_ HB.out) hb)
 clear BK147
 clear BK148
 clear HB
 have HO151 := n0_
 have BK147 := n1_
 have BK148 := n2_
 have HB := n3_
 clear n0_ n1_ n2_ n3_
 (try clear hb)
 (try clear hb2)
 (try clear hk)
 (try clear hi)
 (try clear ho0)
 obtain ⟨Ao7, co7, eo7⟩ := Kd.R_slice HO151.out
 (first | subst eo7 | (injection eo7 with f1_ f2_ f3_; have f4_ := f1_.symm; have f5_ := f3_.symm; clear f1_ f2_ f3_; subst f4_; subst f5_))
 refine hK.out _ _ ⟨(blk_cell BK147.out 0).trans rfl, (blk_cell BK147.out 1).trans rfl, (blk_cell BK147.out 2).trans rfl⟩ (fun hHeld => ?_)
 clear hK K
 refine norm_ (a' := ?_) ?_ ?_
 rotate_left
 ·
  show Act.put _ (some 5) _ = _
  simp only [Act.put, List.setIfInBounds_toArray, List.set_cons_zero, List.set_cons_succ, i64_w, i32_w]
  rfl
 refine pure_ (i := 7) (N := some 10) (v := ?_) (a' := ?_) #[true, true, true, true, true, true, true, true, false] rfl rfl (any_of HT_.out (by kernel_rfl)) (fun _ _ _ h => h) (Or.inl ⟨by rfl, ?_⟩) ?_ ?_
 rotate_left
 ·
  intro w'
  go_simp
  with_reducible rfl
 rotate_left
 ·
  simp only [Act.put, List.setIfInBounds_toArray, List.set_cons_zero, List.set_cons_succ, i64_w, i32_w]
  rfl
 refine one_ (i := 8) (N := none) #[true, true, true, true, true, true, true, true, true] rfl rfl (one_of HT_.out (by kernel_rfl)) (by decide) (fun K hK => ?_)
 have hs8 := cb_ BK148.out 0 rfl
 have hfs8 := blk_frozen BK148.out 0
 have hns8_0 := NB147_148.out
 have hms8_0 := NB148_147.out
 have hs9 := cb_ BK148.out 1 rfl
 have hfs9 := blk_frozen BK148.out 1
 have hns9_0 := NB147_148.out
 have hms9_0 := NB148_147.out
 have hs10 := cb_ BK148.out 2 rfl
 have hfs10 := blk_frozen BK148.out 2
 have hns10_0 := NB147_148.out
 have hms10_0 := NB148_147.out
 refine skip_ (w1 := ?_) (by rfl) rfl ?_ ?_
 rotate_left
 ·
  go_simp
  rfl
 refine hK.out _ _ ⟨((cell_far (p := ⟨gb148, _, none⟩) NB147_148.out _).trans (((cell_far (p := ⟨gb148, _, none⟩) NB147_148.out _).trans (((cell_far (p := ⟨gb148, _, none⟩) NB147_148.out _).trans (hHeld.1)))))), ((cell_far (p := ⟨gb148, _, none⟩) NB147_148.out _).trans (((cell_far (p := ⟨gb148, _, none⟩) NB147_148.out _).trans (((cell_far (p := ⟨gb148, _, none⟩) NB147_148.out _).trans (hHeld.2.1)))))), ((cell_far (p := ⟨gb148, _, none⟩) NB147_148.out _).trans (((cell_far (p := ⟨gb148, _, none⟩) NB147_148.out _).trans (((cell_far (p := ⟨gb148, _, none⟩) NB147_148.out _).trans (hHeld.2.2))))))⟩ (fun hHeld => ?_)
 clear hK K
 refine done_ (done_of HT_.out (by kernel_rfl)) ?_
 try go_wp2
 refine bodyPost_ret (results_cell_row rfl _ _ gb148 29 #[.slice Ao7 t149.length co7, .int .i64 a0_1, .int .i64 a0_2] (0, 0) _ rfl (by (with_reducible repeat first|apply bn_|apply bd_|apply ba_); refine blk_put (cs := #[.slice Ao7 t149.length co7, .int .i64 a0_1, .int .i64 0]) ?_ 2 _ rfl; refine blk_put (cs := #[.slice Ao7 t149.length co7, .int .i64 0, .int .i64 0]) ?_ 1 _ rfl; refine blk_put (cs := #[.slice none 0 0, .int .i64 0, .int .i64 0]) ?_ 0 _ rfl; (with_reducible repeat first|apply bn_|apply bd_|apply ba_); exact BK148.out) Try.underlying29 rfl (by kernel_rfl)) rfl ?_
 exact ⟨_, ew_, by (with_reducible repeat (first | apply Kd.R_alloc | apply Kd.R_drewN | apply Kd.R_drew)); exact Kd.R_mono (Kd.R_far (p := ⟨gb148, 2, none⟩) (Kd.R_far (p := ⟨gb148, 1, none⟩) (Kd.R_far (p := ⟨gb148, 0, none⟩) (Kd.R_types HO151.out BK148.out (by decide)) (fun _ hk => by first | exact hk.2 | grind) (.slice Ao7 t149.length co7)) (fun _ hk => by first | exact hk.2 | grind) (.int .i64 a0_1)) (fun _ hk => by first | exact hk.2 | grind) (.int .i64 a0_2)) (fun _ hk => trivial), ue_ HB.out⟩

/-! ### spec_PushRing: function 50 -/
def spec_PushRing.f (k : Nat) (l0_0 : List Int) (a0_1 : Int) (a0_2 : Int) (a1 : Int) : Option (List Int × Int × Int × Bool) := (spec_l03Copy.f k l0_0 a0_1 a0_2).bind fun bt154 => ((spec_RingOk.f k l0_0 a0_1 a0_2).bind fun t160 => (if t160 = true then (if a0_2 = (l0_0.length : Int) then (some (bt154.1, bt154.2.1, bt154.2.2, false)) else (if (l0_0.length : Int) = 0 then (none) else (if 0 ≤ (Int.tmod (wrap64 (a0_1 + a0_2)) (l0_0.length : Int)) then (if (Int.tmod (wrap64 (a0_1 + a0_2)) (l0_0.length : Int)) < (bt154.1.length : Int) then (some ((bt154.1.set ((Int.tmod (wrap64 (a0_1 + a0_2)) (l0_0.length : Int)) : Int).toNat a1), bt154.2.1, wrap64 (a0_2 + 1), true)) else (none)) else (none)))) else (some (bt154.1, bt154.2.1, bt154.2.2, false))))
theorem spec_PushRing.mono : ∀ a0 a1 a2 a3 k, LeO (spec_PushRing.f k a0 a1 a2 a3) (spec_PushRing.f (k + 1) a0 a1 a2 a3) := by
 intro a0 a1 a2 a3 k
 unfold spec_PushRing.f
 repeat' first
   | (with_reducible exact spec_RingOk.mono _ _ _ _)
   | (with_reducible exact spec_l03Copy.mono _ _ _ _)
   | (with_reducible exact LeO.refl _)
   | (with_reducible exact LeO.none _)
   | (with_reducible refine LeO.ite ?_ ?_)
   | (with_reducible refine LeO.bind ?_ (fun _ => ?_))
   | exact spec_RingOk.mono _ _ _ _
   | exact spec_l03Copy.mono _ _ _ _
   | exact LeO.none _
   | refine LeO.ite ?_ ?_
   | refine LeO.bind ?_ (fun _ => ?_)
def spec_PushRing.T4 : Bool × List (List Nat × List Nat) := (true, [([], []), ([0], [0]), ([], []), ([2], [2]), ([], []), ([4], [4]), ([3, 5], [3, 5]), ([], []), ([7], [7]), ([8], [8]), ([6, 9], [6, 9]), ([], []), ([1, 10, 0, 1, 2, 3, 4, 5, 6, 7, 8, 9, 10, 11], [1, 10]), ([12, 11, 0, 1, 2, 3, 4, 5, 6, 7, 8, 9, 10, 11], [11, 12])])
def spec_PushRing.B4 : List Nat := [0, 1, 0, 4, 0, 16, 60, 0, 128, 384, 1020, 0, 4095, 8191]
theorem spec_PushRing.tab4 : rtab .any (opsOf Try.f50 4) = spec_PushRing.T4 := by kernel_rfl
theorem spec_PushRing.bits4 : waitsOk spec_PushRing.T4.2 spec_PushRing.B4 = true := by kernel_rfl
set_option maxHeartbeats 8000000 in
set_option maxRecDepth 100000 in
theorem spec_PushRing.calls (k : Nat) (A0_0 : Option Addr) (c0_0 : Nat) (l0_0 : List Int) (a0_1 : Int) (a0_2 : Int) (a1 : Int) (r1 : List Int) (r2 : Int) (r3 : Int) (r4 : Bool) (w : World) (hr0_0 : Kd.C (Kd.int .i64) w A0_0 l0_0.length l0_0) (hc0_0 : l0_0.length ≤ c0_0) (h : spec_PushRing.f k l0_0 a0_1 a0_2 a1 = some (r1, r2, r3, r4)) :
  Calls Try.prog 50 #[.agg #[.slice A0_0 l0_0.length c0_0, .int .i64 a0_1, .int .i64 a0_2], .int .i64 a1] w fun e w' => ∃ v0_ : Value, e = .returned (.tuple #[.agg #[v0_, .int .i64 r2, .int .i64 r3], .bool r4]) ∧ Kd.R (Kd.int .i64) 3 w' w.heap.size (fun _ => True) v0_ r1 ∧ Below w.heap.size w w' := by
 have hu29 := Try.underlying29
 have HR0_0 := Aside0.mk hr0_0
 have HC0_0 := Aside0.mk hc0_0
 clear hr0_0 hc0_0
 have HB := am_ (Below.refl w.heap.size w)
 have H : ((spec_l03Copy.f k l0_0 a0_1 a0_2).bind fun bt154 => ((spec_RingOk.f k l0_0 a0_1 a0_2).bind fun t160 => (if t160 = true then (if a0_2 = (l0_0.length : Int) then (some (bt154.1, bt154.2.1, bt154.2.2, false)) else (if (l0_0.length : Int) = 0 then (none) else (if 0 ≤ (Int.tmod (wrap64 (a0_1 + a0_2)) (l0_0.length : Int)) then (if (Int.tmod (wrap64 (a0_1 + a0_2)) (l0_0.length : Int)) < (bt154.1.length : Int) then (some ((bt154.1.set ((Int.tmod (wrap64 (a0_1 + a0_2)) (l0_0.length : Int)) : Int).toNat a1), bt154.2.1, wrap64 (a0_2 + 1), true)) else (none)) else (none)))) else (some (bt154.1, bt154.2.1, bt154.2.2, false))))) = some (r1, r2, r3, r4) := h
 clear h
 replace H := Option.bind_eq_some_iff.mp H
 obtain ⟨⟨t154, t157, t158⟩, A30, H⟩ := H
 replace H : ((spec_RingOk.f k l0_0 a0_1 a0_2).bind fun t160 => (if t160 = true then (if a0_2 = (l0_0.length : Int) then (some (t154, t157, t158, false)) else (if (l0_0.length : Int) = 0 then (none) else (if 0 ≤ (Int.tmod (wrap64 (a0_1 + a0_2)) (l0_0.length : Int)) then (if (Int.tmod (wrap64 (a0_1 + a0_2)) (l0_0.length : Int)) < (t154.length : Int) then (some ((t154.set ((Int.tmod (wrap64 (a0_1 + a0_2)) (l0_0.length : Int)) : Int).toNat a1), t157, wrap64 (a0_2 + 1), true)) else (none)) else (none)))) else (some (t154, t157, t158, false)))) = some (r1, r2, r3, r4) := H
 have A3 := Aside0.mk A30
 clear A30
 replace H := Option.bind_eq_some_iff.mp H
 obtain ⟨t160, A40, H⟩ := H
 replace H : (if t160 = true then (if a0_2 = (l0_0.length : Int) then (some (t154, t157, t158, false)) else (if (l0_0.length : Int) = 0 then (none) else (if 0 ≤ (Int.tmod (wrap64 (a0_1 + a0_2)) (l0_0.length : Int)) then (if (Int.tmod (wrap64 (a0_1 + a0_2)) (l0_0.length : Int)) < (t154.length : Int) then (some ((t154.set ((Int.tmod (wrap64 (a0_1 + a0_2)) (l0_0.length : Int)) : Int).toNat a1), t157, wrap64 (a0_2 + 1), true)) else (none)) else (none)))) else (some (t154, t157, t158, false))) = some (r1, r2, r3, r4) := H
 have A4 := Aside0.mk A40
 clear A40
 by_cases c5 : t160 = true
 ·
  subst c5
  have H1 : (if a0_2 = (l0_0.length : Int) then (some (t154, t157, t158, false)) else (if (l0_0.length : Int) = 0 then (none) else (if 0 ≤ (Int.tmod (wrap64 (a0_1 + a0_2)) (l0_0.length : Int)) then (if (Int.tmod (wrap64 (a0_1 + a0_2)) (l0_0.length : Int)) < (t154.length : Int) then (some ((t154.set ((Int.tmod (wrap64 (a0_1 + a0_2)) (l0_0.length : Int)) : Int).toNat a1), t157, wrap64 (a0_2 + 1), true)) else (none)) else (none)))) = some (r1, r2, r3, r4) := by rw [if_pos rfl] at H; exact H
  clear H
  have H := H1
  clear H1
  by_cases c6 : a0_2 = (l0_0.length : Int)
  ·
   rw [if_pos c6] at H
   have c6b0 : (a0_2 == (l0_0.length : Int)) = true := beq_iff_eq.mpr c6
   have c6b1 : (a0_2 != (l0_0.length : Int)) = false := bne_eq_false_iff_eq.mpr c6
   clear c6
   simp only [Option.some.injEq, Prod.mk.injEq] at H
   obtain ⟨rfl, rfl, rfl, rfl⟩ := H
   go_enter Try.func50, Try.ntmps50
   go_wp2_with (first | ((with_reducible refine gate_dst (N := 2) rfl ?_); (try (refine gate_guard (by rfl) ?_; dsimp only)); refine box_event ?hg (N := 2) ?hd (cs := #[.slice A0_0 l0_0.length c0_0, .int .i64 a0_1, .int .i64 a0_2]) (t := 29) ?hr ?_; (case hd => rfl); (case hg => rfl); (case hr => first | (go_simp; done) | (go_simp; rfl)); intro gb152 hg w7 hbox hb; have n0_ := am_ (below_step (ue_ HB.out) hb); have n1_ := am_ (hbox); have n2_ := am_ ((by rw [hg]; exact (below_size (ue_ HB.out)) : w.heap.size ≤ gb152)); have n3_ := am_ ((by rw [hg]; exact (below_size (ue_ HB.out)) : w.heap.size ≤ gb152)); clear HB; have HB := n0_; have BK152 := n1_; have GW152 := n2_; have GE152 := n3_; clear n0_ n1_ n2_ n3_; clear hb hbox hg) | ((with_reducible refine gate_dst (N := 4) rfl ?_); (try (refine gate_guard (by rfl) ?_; dsimp only)); refine box_event ?hg (N := 4) ?hd (cs := #[.slice none 0 0, .int .i64 0, .int .i64 0]) (t := 29) ?hr ?_; (case hd => rfl); (case hg => rfl); (case hr => first | (go_simp; done) | (go_simp; rfl)); intro gb153 hg w8 hbox hb; have n0_ := am_ (bb_ BK152.out hb); have n1_ := am_ (below_step (ue_ HB.out) hb); have n2_ := am_ (hbox); have n3_ := am_ ((by rw [hg]; exact (below_size (ue_ HB.out)) : w.heap.size ≤ gb153)); have n4_ := am_ ((by rw [hg]; exact (below_size (ue_ HB.out)) : w.heap.size ≤ gb153)); have n5_ := am_ ((by rw [hg]; exact Nat.ne_of_lt (bl_ BK152.out) : gb152 ≠ gb153)); have n6_ := am_ ((by rw [hg]; exact Nat.ne_of_gt (bl_ BK152.out) : gb153 ≠ gb152)); clear BK152 HB; have BK152 := n0_; have HB := n1_; have BK153 := n2_; have GW153 := n3_; have GE153 := n4_; have NB152_153 := n5_; have NB153_152 := n6_; clear n0_ n1_ n2_ n3_ n4_ n5_ n6_; clear hb hbox hg; have hnb9 := NB152_153.out; have hnc9 := NB153_152.out; obtain ⟨hcz10_0, hcz10_1, hcz10_2⟩ := cb3_ BK152.out; obtain ⟨hfz10_0, hfz10_1⟩ := bf2_ BK152.out; have hfz10_2 := blk_frozen BK152.out 2) | ((with_reducible refine gate_callee (f := 90) rfl ?_); refine goesL_ (some 8) rfl rfl Try.func90 (by kernel_rfl) rfl #[.agg #[.slice A0_0 l0_0.length c0_0, .int .i64 a0_1, .int .i64 a0_2]] rfl ul_ ?_; (with_reducible refine (spec_l03Copy.calls k _ _ l0_0 a0_1 a0_2 t154 t157 t158 _ ?side1 ?side2 A3.out).mono ?_); (case side1 => repeat (first | exact (Kd.C_below HR0_0.out HB.out) | (with_reducible refine Kd.C_alloc ?_ _) | (with_reducible refine Kd.C_drewN ?_ _) | (with_reducible refine Kd.C_drew ?_))); (case side2 => exact HC0_0.out); rintro e w11 ⟨v155, rfl, ho0, hb⟩; refine ⟨_, rfl, ?_⟩; have n0_ := am_ (Kd.R_lower ho0 (below_size (ue_ HB.out))); have n1_ := am_ (bb_ BK152.out hb); have n2_ := am_ (bb_ BK153.out hb); have n3_ := am_ (below_step (ue_ HB.out) hb); clear BK152 BK153 HB; have HO156 := n0_; have BK152 := n1_; have BK153 := n2_; have HB := n3_; clear n0_ n1_ n2_ n3_; (try clear hb); (try clear hb2); (try clear hk); (try clear hi); (try clear ho0)) | ((with_reducible refine gate_dst (N := 6) rfl ?_); (try (refine gate_guard (by rfl) ?_; dsimp only)); refine box_event ?hg (N := 6) ?hd (cs := #[.slice none 0 0, .int .i64 0, .int .i64 0]) (t := 29) ?hr ?_; (case hd => rfl); (case hg => rfl); (case hr => first | (go_simp; done) | (go_simp; rfl)); intro gb159 hg w12 hbox hb; have n0_ := am_ (Kd.R_below (ur_ HO156.out) hb); have n1_ := am_ (bb_ BK152.out hb); have n2_ := am_ (bb_ BK153.out hb); have n3_ := am_ (below_step (ue_ HB.out) hb); have n4_ := am_ (hbox); have n5_ := am_ ((by rw [hg]; exact (below_size (ue_ HB.out)) : w.heap.size ≤ gb159)); have n6_ := am_ ((by rw [hg]; exact (below_size (ue_ HB.out)) : w.heap.size ≤ gb159)); have n7_ := am_ ((by rw [hg]; exact Nat.ne_of_lt (bl_ BK152.out) : gb152 ≠ gb159)); have n8_ := am_ ((by rw [hg]; exact Nat.ne_of_gt (bl_ BK152.out) : gb159 ≠ gb152)); have n9_ := am_ ((by rw [hg]; exact Nat.ne_of_lt (bl_ BK153.out) : gb153 ≠ gb159)); have n10_ := am_ ((by rw [hg]; exact Nat.ne_of_gt (bl_ BK153.out) : gb159 ≠ gb153)); clear HO156 BK152 BK153 HB; have HO156 := n0_; have BK152 := n1_; have BK153 := n2_; have HB := n3_; have BK159 := n4_; have GW159 := n5_; have GE159 := n6_; have NB152_159 := n7_; have NB159_152 := n8_; have NB153_159 := n9_; have NB159_153 := n10_; clear n0_ n1_ n2_ n3_ n4_ n5_ n6_ n7_ n8_ n9_ n10_; clear hb hbox hg; obtain ⟨Ao13, co13, eo13⟩ := Kd.R_slice HO156.out; subst eo13; have hnb14 := NB159_152.out; have hnc14 := NB152_159.out; have hnb15 := NB159_153.out; have hnc15 := NB153_159.out; obtain ⟨hcz16_0, hcz16_1, hcz16_2⟩ := cb3_ BK159.out; obtain ⟨hfz16_0, hfz16_1⟩ := bf2_ BK159.out; have hfz16_2 := blk_frozen BK159.out 2) | ((with_reducible refine gate_store (t := 29) (p := 6) rfl ?_); refine store_event (t := 29) (p := 6) (v := ?vo_w17) (w1 := (((w12.setCell ⟨gb159, 0, none⟩ (.slice Ao13 t154.length co13)).setCell ⟨gb159, 1, none⟩ (.int .i64 t157)).setCell ⟨gb159, 2, none⟩ (.int .i64 t158))) ?hg ?ho ?hn ?hr ?_; (case ho => rfl); (case hg => rfl); (case hn => rfl); (case hr => first | (go_simp; done) | (go_simp; rfl)); intro w17 hw; have n0_ : Aside0 (Kd.R (Kd.int .i64) 3 w17 w.heap.size (fun _ => True) (.slice Ao13 t154.length co13) t154) := ⟨(by rw [hw]; exact (by (with_reducible repeat (first | apply Kd.R_alloc | apply Kd.R_drewN | apply Kd.R_drew)); exact Kd.R_mono (Kd.R_far (p := ⟨gb159, 2, none⟩) (Kd.R_far (p := ⟨gb159, 1, none⟩) (Kd.R_far (p := ⟨gb159, 0, none⟩) (Kd.R_types HO156.out BK159.out (by decide)) (fun _ hk => by first | exact hk.2 | grind) (.slice Ao13 t154.length co13)) (fun _ hk => by first | exact hk.2 | grind) (.int .i64 t157)) (fun _ hk => by first | exact hk.2 | grind) (.int .i64 t158)) (fun _ hk => trivial)))⟩; have n1_ : Aside0 (w17.heap[gb152]? = some (.cells #[.slice A0_0 l0_0.length c0_0, .int .i64 a0_1, .int .i64 a0_2] 29 (0, 0))) := ⟨(by rw [hw]; exact (uf_ BK152.out))⟩; have n2_ : Aside0 (w17.heap[gb153]? = some (.cells #[.slice none 0 0, .int .i64 0, .int .i64 0] 29 (0, 0))) := ⟨(by rw [hw]; exact (uf_ BK153.out))⟩; have n3_ : Aside0 (w17.heap[gb159]? = some (.cells #[.slice Ao13 t154.length co13, .int .i64 t157, .int .i64 t158] 29 (0, 0))) := ⟨(by rw [hw]; exact (by (with_reducible repeat first|apply bn_|apply bd_|apply ba_); refine blk_put (cs := #[.slice Ao13 t154.length co13, .int .i64 t157, .int .i64 0]) ?_ 2 _ rfl; refine blk_put (cs := #[.slice Ao13 t154.length co13, .int .i64 0, .int .i64 0]) ?_ 1 _ rfl; refine blk_put (cs := #[.slice none 0 0, .int .i64 0, .int .i64 0]) ?_ 0 _ rfl; (with_reducible repeat first|apply bn_|apply bd_|apply ba_); exact BK159.out))⟩; have n4_ : Aside0 (Below w.heap.size w w17) := ⟨(by rw [hw]; exact (ue_ HB.out))⟩; clear hw HO156 BK152 BK153 BK159 HB; have HO156 := n0_; have BK152 := n1_; have BK153 := n2_; have BK159 := n3_; have HB := n4_; clear n0_ n1_ n2_ n3_ n4_; obtain ⟨hcz18_0, hcz18_1, hcz18_2⟩ := cb3_ BK152.out; obtain ⟨hfz18_0, hfz18_1⟩ := bf2_ BK152.out; have hfz18_2 := blk_frozen BK152.out 2) | ((with_reducible refine gate_callee (f := 66) rfl ?_); refine goesL_ (some 10) rfl rfl Try.func66 (by kernel_rfl) rfl #[.agg #[.slice A0_0 l0_0.length c0_0, .int .i64 a0_1, .int .i64 a0_2]] rfl ul_ ?_; (with_reducible refine (spec_RingOk.calls k _ _ l0_0 a0_1 a0_2 true _ ?side1 ?side2 A4.out).mono ?_); (case side1 => repeat (first | exact (Kd.C_below HR0_0.out HB.out) | (with_reducible refine Kd.C_alloc ?_ _) | (with_reducible refine Kd.C_drewN ?_ _) | (with_reducible refine Kd.C_drew ?_))); (case side2 => exact HC0_0.out); rintro e w19 ⟨rfl, hb⟩; refine ⟨_, rfl, ?_⟩; have n0_ := am_ (Kd.R_below (ur_ HO156.out) hb); have n1_ := am_ (bb_ BK152.out hb); have n2_ := am_ (bb_ BK153.out hb); have n3_ := am_ (bb_ BK159.out hb); have n4_ := am_ (below_step (ue_ HB.out) hb); clear HO156 BK152 BK153 BK159 HB; have HO156 := n0_; have BK152 := n1_; have BK153 := n2_; have BK159 := n3_; have HB := n4_; clear n0_ n1_ n2_ n3_ n4_; (try clear hb); (try clear hb2); (try clear hk); (try clear hi); obtain ⟨hcz20_0, hcz20_1, hcz20_2⟩ := cb3_ BK152.out; obtain ⟨hfz20_0, hfz20_1, hfz20_2⟩ := bf3_ BK152.out; obtain ⟨hcz21_0, hcz21_1, hcz21_2⟩ := cb3_ BK159.out; obtain ⟨hfz21_0, hfz21_1, hfz21_2⟩ := bf3_ BK159.out; obtain ⟨hcz22_0, hcz22_1, hcz22_2⟩ := cb3_ BK153.out; obtain ⟨hfz22_0, hfz22_1⟩ := bf2_ BK153.out; have hfz22_2 := blk_frozen BK153.out 2) | ((with_reducible refine gate_store (t := 29) (p := 4) rfl ?_); refine store_event (t := 29) (p := 4) (v := ?vo_w23) (w1 := (((w19.setCell ⟨gb153, 0, none⟩ (.slice Ao13 t154.length co13)).setCell ⟨gb153, 1, none⟩ (.int .i64 t157)).setCell ⟨gb153, 2, none⟩ (.int .i64 t158))) ?hg ?ho ?hn ?hr ?_; (case ho => rfl); (case hg => rfl); (case hn => rfl); (case hr => first | (go_simp; done) | (go_simp; rfl)); intro w23 hw; have n0_ : Aside0 (Kd.R (Kd.int .i64) 3 w23 w.heap.size (fun _ => True) (.slice Ao13 t154.length co13) t154) := ⟨(by rw [hw]; exact (by (with_reducible repeat (first | apply Kd.R_alloc | apply Kd.R_drewN | apply Kd.R_drew)); exact Kd.R_mono (Kd.R_far (p := ⟨gb153, 2, none⟩) (Kd.R_far (p := ⟨gb153, 1, none⟩) (Kd.R_far (p := ⟨gb153, 0, none⟩) (Kd.R_types HO156.out BK153.out (by decide)) (fun _ hk => by first | exact hk.2 | grind) (.slice Ao13 t154.length co13)) (fun _ hk => by first | exact hk.2 | grind) (.int .i64 t157)) (fun _ hk => by first | exact hk.2 | grind) (.int .i64 t158)) (fun _ hk => trivial)))⟩; have n1_ : Aside0 (w23.heap[gb152]? = some (.cells #[.slice A0_0 l0_0.length c0_0, .int .i64 a0_1, .int .i64 a0_2] 29 (0, 0))) := ⟨(by rw [hw]; exact (uf_ BK152.out))⟩; have n2_ : Aside0 (w23.heap[gb153]? = some (.cells #[.slice Ao13 t154.length co13, .int .i64 t157, .int .i64 t158] 29 (0, 0))) := ⟨(by rw [hw]; exact (by (with_reducible repeat first|apply bn_|apply bd_|apply ba_); refine blk_put (cs := #[.slice Ao13 t154.length co13, .int .i64 t157, .int .i64 0]) ?_ 2 _ rfl; refine blk_put (cs := #[.slice Ao13 t154.length co13, .int .i64 0, .int .i64 0]) ?_ 1 _ rfl; refine blk_put (cs := #[.slice none 0 0, .int .i64 0, .int .i64 0]) ?_ 0 _ rfl; (with_reducible repeat first|apply bn_|apply bd_|apply ba_); exact BK153.out))⟩; have n3_ : Aside0 (w23.heap[gb159]? = some (.cells #[.slice Ao13 t154.length co13, .int .i64 t157, .int .i64 t158] 29 (0, 0))) := ⟨(by rw [hw]; exact (uf_ BK159.out))⟩; have n4_ : Aside0 (Below w.heap.size w w23) := ⟨(by rw [hw]; exact (ue_ HB.out))⟩; clear hw HO156 BK152 BK153 BK159 HB; have HO156 := n0_; have BK152 := n1_; have BK153 := n2_; have BK159 := n3_; have HB := n4_; clear n0_ n1_ n2_ n3_ n4_))
   refine bodyPost_ret (results_ct rfl _ _ gb153 29 #[.slice Ao13 t154.length co13, .int .i64 t157, .int .i64 t158] (0, 0) _ rfl (ub_ BK153.out) Try.underlying29 rfl (by kernel_rfl)) rfl ?_
   exact ⟨_, ew_, by (with_reducible repeat (first | apply Kd.R_alloc | apply Kd.R_drewN | apply Kd.R_drew)); exact HO156.out, ue_ HB.out⟩
  ·
   rw [if_neg c6] at H
   have c6b0 : (a0_2 == (l0_0.length : Int)) = false := beq_eq_false_iff_ne.mpr c6
   have c6b1 : (a0_2 != (l0_0.length : Int)) = true := bne_iff_ne.mpr c6
   by_cases c24 : (l0_0.length : Int) = 0
   ·
    rw [if_pos c24] at H
    exact absurd H (by simp)
   ·
    rw [if_neg c24] at H
    have c24b0 : ((l0_0.length : Int) == 0) = false := beq_eq_false_iff_ne.mpr c24
    have c24b1 : ((l0_0.length : Int) != 0) = true := bne_iff_ne.mpr c24
    have c24b2 : ¬ (l0_0 = []) := fun h_ => c24 (by rw [h_]; rfl)
    obtain ⟨ji25, hji25⟩ : ∃ j_ : Int, (Int.tmod (wrap64 (a0_1 + a0_2)) (l0_0.length : Int)) = j_ := ⟨_, rfl⟩
    replace H : (if 0 ≤ (ji25) then (if (ji25) < (t154.length : Int) then (some ((t154.set ((ji25) : Int).toNat a1), t157, wrap64 (a0_2 + 1), true)) else (none)) else (none)) = some (r1, r2, r3, r4) := by first | (rw [hji25] at H; exact H) | (simp only [hji25] at H ⊢; exact H)
    (try rw [hji25] at A3)
    (try rw [hji25] at A4)
    by_cases c26 : 0 ≤ (ji25)
    ·
     rw [if_pos c26] at H
     have c26b0 : decide (0 ≤ (ji25)) = true := decide_eq_true c26
     clear c26
     by_cases c27 : (ji25) < (t154.length : Int)
     ·
      rw [if_pos c27] at H
      have c27b0 : decide ((ji25) < (t154.length : Int)) = true := decide_eq_true c27
      clear c27
      obtain ⟨y161, hy161⟩ : ∃ y_ : List Int, y_ = (t154.set ((ji25) : Int).toNat a1) := ⟨_, rfl⟩
      replace H : (some (y161, t157, wrap64 (a0_2 + 1), true)) = some (r1, r2, r3, r4) := by first | (rw [hy161]; with_reducible exact H) | (have H2_ := (Option.bind_some _ _).symm.trans H; rw [hy161]; with_reducible exact H2_) | (have H2_ := (Option.bind_some _ _).symm.trans H; with_reducible exact H2_) | with_reducible exact H | (rw [hy161]; exact H) | exact H
      have Ny161 := Aside0.mk hy161
      clear hy161
      simp only [Option.some.injEq, Prod.mk.injEq] at H
      obtain ⟨rfl, rfl, rfl, rfl⟩ := H
      go_enter Try.func50, Try.ntmps50
      try go_wp2_with (first | ((with_reducible refine gate_dst (N := 2) rfl ?_); (try (refine gate_guard (by rfl) ?_; dsimp only)); refine box_event ?hg (N := 2) ?hd (cs := #[.slice A0_0 l0_0.length c0_0, .int .i64 a0_1, .int .i64 a0_2]) (t := 29) ?hr ?_; (case hd => rfl); (case hg => rfl); (case hr => first | (go_simp; done) | (go_simp; rfl)); intro gb152 hg w29 hbox hb; have n0_ := am_ (below_step (ue_ HB.out) hb); have n1_ := am_ (hbox); have n2_ := am_ ((by rw [hg]; exact (below_size (ue_ HB.out)) : w.heap.size ≤ gb152)); have n3_ := am_ ((by rw [hg]; exact (below_size (ue_ HB.out)) : w.heap.size ≤ gb152)); clear HB; have HB := n0_; have BK152 := n1_; have GW152 := n2_; have GE152 := n3_; clear n0_ n1_ n2_ n3_; clear hb hbox hg) | ((with_reducible refine gate_dst (N := 4) rfl ?_); (try (refine gate_guard (by rfl) ?_; dsimp only)); refine box_event ?hg (N := 4) ?hd (cs := #[.slice none 0 0, .int .i64 0, .int .i64 0]) (t := 29) ?hr ?_; (case hd => rfl); (case hg => rfl); (case hr => first | (go_simp; done) | (go_simp; rfl)); intro gb153 hg w30 hbox hb; have n0_ := am_ (bb_ BK152.out hb); have n1_ := am_ (below_step (ue_ HB.out) hb); have n2_ := am_ (hbox); have n3_ := am_ ((by rw [hg]; exact (below_size (ue_ HB.out)) : w.heap.size ≤ gb153)); have n4_ := am_ ((by rw [hg]; exact (below_size (ue_ HB.out)) : w.heap.size ≤ gb153)); have n5_ := am_ ((by rw [hg]; exact Nat.ne_of_lt (bl_ BK152.out) : gb152 ≠ gb153)); have n6_ := am_ ((by rw [hg]; exact Nat.ne_of_gt (bl_ BK152.out) : gb153 ≠ gb152)); clear BK152 HB; have BK152 := n0_; have HB := n1_; have BK153 := n2_; have GW153 := n3_; have GE153 := n4_; have NB152_153 := n5_; have NB153_152 := n6_; clear n0_ n1_ n2_ n3_ n4_ n5_ n6_; clear hb hbox hg; have hnb31 := NB152_153.out; have hnc31 := NB153_152.out; obtain ⟨hcz32_0, hcz32_1, hcz32_2⟩ := cb3_ BK152.out; obtain ⟨hfz32_0, hfz32_1⟩ := bf2_ BK152.out; have hfz32_2 := blk_frozen BK152.out 2) | ((with_reducible refine gate_callee (f := 90) rfl ?_); refine goesL_ (some 8) rfl rfl Try.func90 (by kernel_rfl) rfl #[.agg #[.slice A0_0 l0_0.length c0_0, .int .i64 a0_1, .int .i64 a0_2]] rfl ul_ ?_; (with_reducible refine (spec_l03Copy.calls k _ _ l0_0 a0_1 a0_2 t154 t157 t158 _ ?side1 ?side2 A3.out).mono ?_); (case side1 => repeat (first | exact (Kd.C_below HR0_0.out HB.out) | (with_reducible refine Kd.C_alloc ?_ _) | (with_reducible refine Kd.C_drewN ?_ _) | (with_reducible refine Kd.C_drew ?_))); (case side2 => exact HC0_0.out); rintro e w33 ⟨v155, rfl, ho0, hb⟩; refine ⟨_, rfl, ?_⟩; have n0_ := am_ (Kd.R_lower ho0 (below_size (ue_ HB.out))); have n1_ := am_ (bb_ BK152.out hb); have n2_ := am_ (bb_ BK153.out hb); have n3_ := am_ (below_step (ue_ HB.out) hb); clear BK152 BK153 HB; have HO156 := n0_; have BK152 := n1_; have BK153 := n2_; have HB := n3_; clear n0_ n1_ n2_ n3_; (try clear hb); (try clear hb2); (try clear hk); (try clear hi); (try clear ho0)) | ((with_reducible refine gate_dst (N := 6) rfl ?_); (try (refine gate_guard (by rfl) ?_; dsimp only)); refine box_event ?hg (N := 6) ?hd (cs := #[.slice none 0 0, .int .i64 0, .int .i64 0]) (t := 29) ?hr ?_; (case hd => rfl); (case hg => rfl); (case hr => first | (go_simp; done) | (go_simp; rfl)); intro gb159 hg w34 hbox hb; have n0_ := am_ (Kd.R_below (ur_ HO156.out) hb); have n1_ := am_ (bb_ BK152.out hb); have n2_ := am_ (bb_ BK153.out hb); have n3_ := am_ (below_step (ue_ HB.out) hb); have n4_ := am_ (hbox); have n5_ := am_ ((by rw [hg]; exact (below_size (ue_ HB.out)) : w.heap.size ≤ gb159)); have n6_ := am_ ((by rw [hg]; exact (below_size (ue_ HB.out)) : w.heap.size ≤ gb159)); have n7_ := am_ ((by rw [hg]; exact Nat.ne_of_lt (bl_ BK152.out) : gb152 ≠ gb159)); have n8_ := am_ ((by rw [hg]; exact Nat.ne_of_gt (bl_ BK152.out) : gb159 ≠ gb152)); have n9_ := am_ ((by rw [hg]; exact Nat.ne_of_lt (bl_ BK153.out) : gb153 ≠ gb159)); have n10_ := am_ ((by rw [hg]; exact Nat.ne_of_gt (bl_ BK153.out) : gb159 ≠ gb153)); clear HO156 BK152 BK153 HB; have HO156 := n0_; have BK152 := n1_; have BK153 := n2_; have HB := n3_; have BK159 := n4_; have GW159 := n5_; have GE159 := n6_; have NB152_159 := n7_; have NB159_152 := n8_; have NB153_159 := n9_; have NB159_153 := n10_; clear n0_ n1_ n2_ n3_ n4_ n5_ n6_ n7_ n8_ n9_ n10_; clear hb hbox hg; obtain ⟨Ao35, co35, eo35⟩ := Kd.R_slice HO156.out; subst eo35; have hnb36 := NB159_152.out; have hnc36 := NB152_159.out; have hnb37 := NB159_153.out; have hnc37 := NB153_159.out; obtain ⟨hcz38_0, hcz38_1, hcz38_2⟩ := cb3_ BK159.out; obtain ⟨hfz38_0, hfz38_1⟩ := bf2_ BK159.out; have hfz38_2 := blk_frozen BK159.out 2) | ((with_reducible refine gate_store (t := 29) (p := 6) rfl ?_); refine store_event (t := 29) (p := 6) (v := ?vo_w39) (w1 := (((w34.setCell ⟨gb159, 0, none⟩ (.slice Ao35 t154.length co35)).setCell ⟨gb159, 1, none⟩ (.int .i64 t157)).setCell ⟨gb159, 2, none⟩ (.int .i64 t158))) ?hg ?ho ?hn ?hr ?_; (case ho => rfl); (case hg => rfl); (case hn => rfl); (case hr => first | (go_simp; done) | (go_simp; rfl)); intro w39 hw; have n0_ : Aside0 (Kd.R (Kd.int .i64) 3 w39 w.heap.size (fun _ => True) (.slice Ao35 t154.length co35) t154) := ⟨(by rw [hw]; exact (by (with_reducible repeat (first | apply Kd.R_alloc | apply Kd.R_drewN | apply Kd.R_drew)); exact Kd.R_mono (Kd.R_far (p := ⟨gb159, 2, none⟩) (Kd.R_far (p := ⟨gb159, 1, none⟩) (Kd.R_far (p := ⟨gb159, 0, none⟩) (Kd.R_types HO156.out BK159.out (by decide)) (fun _ hk => by first | exact hk.2 | grind) (.slice Ao35 t154.length co35)) (fun _ hk => by first | exact hk.2 | grind) (.int .i64 t157)) (fun _ hk => by first | exact hk.2 | grind) (.int .i64 t158)) (fun _ hk => trivial)))⟩; have n1_ : Aside0 (w39.heap[gb152]? = some (.cells #[.slice A0_0 l0_0.length c0_0, .int .i64 a0_1, .int .i64 a0_2] 29 (0, 0))) := ⟨(by rw [hw]; exact (uf_ BK152.out))⟩; have n2_ : Aside0 (w39.heap[gb153]? = some (.cells #[.slice none 0 0, .int .i64 0, .int .i64 0] 29 (0, 0))) := ⟨(by rw [hw]; exact (uf_ BK153.out))⟩; have n3_ : Aside0 (w39.heap[gb159]? = some (.cells #[.slice Ao35 t154.length co35, .int .i64 t157, .int .i64 t158] 29 (0, 0))) := ⟨(by rw [hw]; exact (by (with_reducible repeat first|apply bn_|apply bd_|apply ba_); refine blk_put (cs := #[.slice Ao35 t154.length co35, .int .i64 t157, .int .i64 0]) ?_ 2 _ rfl; refine blk_put (cs := #[.slice Ao35 t154.length co35, .int .i64 0, .int .i64 0]) ?_ 1 _ rfl; refine blk_put (cs := #[.slice none 0 0, .int .i64 0, .int .i64 0]) ?_ 0 _ rfl; (with_reducible repeat first|apply bn_|apply bd_|apply ba_); exact BK159.out))⟩; have n4_ : Aside0 (Below w.heap.size w w39) := ⟨(by rw [hw]; exact (ue_ HB.out))⟩; clear hw HO156 BK152 BK153 BK159 HB; have HO156 := n0_; have BK152 := n1_; have BK153 := n2_; have BK159 := n3_; have HB := n4_; clear n0_ n1_ n2_ n3_ n4_; obtain ⟨hcz40_0, hcz40_1, hcz40_2⟩ := cb3_ BK152.out; obtain ⟨hfz40_0, hfz40_1⟩ := bf2_ BK152.out; have hfz40_2 := blk_frozen BK152.out 2) | ((with_reducible refine gate_callee (f := 66) rfl ?_); refine goesL_ (some 10) rfl rfl Try.func66 (by kernel_rfl) rfl #[.agg #[.slice A0_0 l0_0.length c0_0, .int .i64 a0_1, .int .i64 a0_2]] rfl ul_ ?_; (with_reducible refine (spec_RingOk.calls k _ _ l0_0 a0_1 a0_2 true _ ?side1 ?side2 A4.out).mono ?_); (case side1 => repeat (first | exact (Kd.C_below HR0_0.out HB.out) | (with_reducible refine Kd.C_alloc ?_ _) | (with_reducible refine Kd.C_drewN ?_ _) | (with_reducible refine Kd.C_drew ?_))); (case side2 => exact HC0_0.out); rintro e w41 ⟨rfl, hb⟩; refine ⟨_, rfl, ?_⟩; have n0_ := am_ (Kd.R_below (ur_ HO156.out) hb); have n1_ := am_ (bb_ BK152.out hb); have n2_ := am_ (bb_ BK153.out hb); have n3_ := am_ (bb_ BK159.out hb); have n4_ := am_ (below_step (ue_ HB.out) hb); clear HO156 BK152 BK153 BK159 HB; have HO156 := n0_; have BK152 := n1_; have BK153 := n2_; have BK159 := n3_; have HB := n4_; clear n0_ n1_ n2_ n3_ n4_; (try clear hb); (try clear hb2); (try clear hk); (try clear hi); obtain ⟨hcz42_0, hcz42_1, hcz42_2⟩ := cb3_ BK152.out; obtain ⟨hfz42_0, hfz42_1⟩ := bf2_ BK152.out; have hfz42_2 := blk_frozen BK152.out 2))
      have n0_ := am_ (Kd.R_drew HO156.out)
      have n1_ := am_ (blk_drew BK152.out)
      have n2_ := am_ (blk_drew BK153.out)
      have n3_ := am_ (blk_drew BK159.out)
      have n4_ := am_ (below_drew1 HB.out)
      clear HO156
      clear BK152
      clear BK153
      clear BK159
      clear HB
      have HO156 := n0_
      have BK152 := n1_
      have BK153 := n2_
      have BK159 := n3_
      have HB := n4_
      clear n0_ n1_ n2_ n3_ n4_
      have p28 : 0 ≤ ((ji25) : Int) := of_decide_eq_true ua_
      have q28 : ((ji25) : Int) < ((t154.length : Int) : Int) := of_decide_eq_true ua_
      obtain ⟨go28, co28, eo28, gb28, gl28, cl28, HG28⟩ := Kd.R_form HO156.out (by omega)
      (first | cases eo28 | (injection eo28 with ea_ en_ ec_; (first | subst ea_ | (injection ea_ with ea_; subst ea_)); subst ec_; clear en_))
      have GB28 := Aside0.mk gb28
      have GG28 := Aside0.mk HG28
      clear gb28 gl28 HG28
      obtain ⟨hx28_0, hf28_0⟩ := Kd.R_celln 0 HO156.out ((ji25) : Int) p28 q28
      replace p28 := eq_true p28
      replace q28 := eq_true q28
      have HP44 := Kd.R_putn HO156.out ((ji25) : Int) a1
      rw [← Ny161.out] at HP44
      have HQ44 := Aside0.mk HP44
      clear HP44
      refine start_ (n := 14) (S := fun w' => w'.cell? ⟨gb159, 0, none⟩ = some (.slice (some ⟨go28, 0, none⟩) t154.length co35) ∧ w'.cell? ⟨gb159, 1, none⟩ = some (.int .i64 t157) ∧ w'.cell? ⟨gb159, 2, none⟩ = some (.int .i64 t158) ∧ w'.cell? ⟨gb152, 0, none⟩ = some (.slice A0_0 l0_0.length c0_0) ∧ w'.cell? ⟨gb152, 1, none⟩ = some (.int .i64 a0_1) ∧ w'.cell? ⟨gb152, 2, none⟩ = some (.int .i64 a0_2)) (ds := [13]) #[false, false, false, false, false, false, false, false, false, false, false, false, false, false] (by kernel_rfl) rfl rfl ⟨(blk_cell BK159.out 0).trans rfl, (blk_cell BK159.out 1).trans rfl, (blk_cell BK159.out 2).trans rfl, (blk_cell BK152.out 0).trans rfl, (blk_cell BK152.out 1).trans rfl, (blk_cell BK152.out 2).trans rfl⟩ (fun hHeld => ?_); refine with_tabW spec_PushRing.tab4 spec_PushRing.bits4 (fun HT_ HW_ => ?_)
      generalize w41.drew = w43 at HO156 BK152 BK153 BK159 HB GG28 HQ44 hf28_0 hx28_0 hHeld ⊢
      refine pure_ (i := 0) (N := some 21) (v := ?_) (a' := ?_) #[true, false, false, false, false, false, false, false, false, false, false, false, false, false] rfl rfl (any_of HT_.out (by kernel_rfl)) (fun _ _ _ h => h) (Or.inl ⟨by rfl, ?_⟩) ?_ ?_
      rotate_left
      ·
       intro w'
       go_simp
       with_reducible rfl
      rotate_left
      ·
       simp only [Act.put, List.setIfInBounds_toArray, List.set_cons_zero, List.set_cons_succ, i64_w, i32_w]
       rfl
      refine pure_ (i := 2) (N := some 23) (v := ?_) (a' := ?_) #[true, false, true, false, false, false, false, false, false, false, false, false, false, false] rfl rfl (any_of HT_.out (by kernel_rfl)) (fun _ _ _ h => h) (Or.inl ⟨by rfl, ?_⟩) ?_ ?_
      rotate_left
      ·
       intro w'
       go_simp
       with_reducible rfl
      rotate_left
      ·
       simp only [Act.put, List.setIfInBounds_toArray, List.set_cons_zero, List.set_cons_succ, i64_w, i32_w]
       rfl
      refine pure_ (i := 4) (N := some 25) (v := ?_) (a' := ?_) #[true, false, true, false, true, false, false, false, false, false, false, false, false, false] rfl rfl (any_of HT_.out (by kernel_rfl)) (fun _ _ _ h => h) (Or.inl ⟨by rfl, ?_⟩) ?_ ?_
      rotate_left
      ·
       intro w'
       go_simp
       with_reducible rfl
      rotate_left
      ·
       simp only [Act.put, List.setIfInBounds_toArray, List.set_cons_zero, List.set_cons_succ, i64_w, i32_w]
       rfl
      refine pure_ (i := 7) (N := some 28) (v := ?_) (a' := ?_) #[true, false, true, false, true, false, false, true, false, false, false, false, false, false] rfl rfl (any_of HT_.out (by kernel_rfl)) (fun _ _ _ h => h) (Or.inl ⟨by rfl, ?_⟩) ?_ ?_
      rotate_left
      ·
       intro w'
       go_simp
       with_reducible rfl
      rotate_left
      ·
       simp only [Act.put, List.setIfInBounds_toArray, List.set_cons_zero, List.set_cons_succ, i64_w, i32_w]
       rfl
      refine pure_ (i := 11) (N := some 32) (v := ?_) (a' := ?_) #[true, false, true, false, true, false, false, true, false, false, false, true, false, false] rfl rfl (any_of HT_.out (by kernel_rfl)) (fun _ _ _ h => h) (Or.inl ⟨by rfl, ?_⟩) ?_ ?_
      rotate_left
      ·
       intro w'
       go_simp
       with_reducible rfl
      rotate_left
      ·
       simp only [Act.put, List.setIfInBounds_toArray, List.set_cons_zero, List.set_cons_succ, i64_w, i32_w]
       rfl
      refine take_ (i := 1) (N := some 22) (v := ?_) (a' := ?_) #[true, true, true, false, true, false, false, true, false, false, false, true, false, false] rfl rfl (take_ofW HT_.out HW_.out (by kernel_rfl)) (fun _ _ _ h => h) (Or.inl ⟨by rfl, ?_⟩) hHeld ?_ ?_
      rotate_left
      ·
       rintro w' ⟨s0, s1, s2, s3, s4, s5⟩
       go_simp
       with_reducible rfl
      rotate_left
      ·
       simp only [Act.put, List.setIfInBounds_toArray, List.set_cons_zero, List.set_cons_succ, i64_w, i32_w]
       rfl
      refine take_ (i := 3) (N := some 24) (v := ?_) (a' := ?_) #[true, true, true, true, true, false, false, true, false, false, false, true, false, false] rfl rfl (take_ofW HT_.out HW_.out (by kernel_rfl)) (fun _ _ _ h => h) (Or.inl ⟨by rfl, ?_⟩) hHeld ?_ ?_
      rotate_left
      ·
       rintro w' ⟨s0, s1, s2, s3, s4, s5⟩
       go_simp
       with_reducible rfl
      rotate_left
      ·
       simp only [Act.put, List.setIfInBounds_toArray, List.set_cons_zero, List.set_cons_succ, i64_w, i32_w]
       rfl
      refine take_ (i := 5) (N := some 26) (v := ?_) (a' := ?_) #[true, true, true, true, true, true, false, true, false, false, false, true, false, false] rfl rfl (take_ofW HT_.out HW_.out (by kernel_rfl)) (fun _ _ _ h => h) (Or.inl ⟨by rfl, ?_⟩) hHeld ?_ ?_
      rotate_left
      ·
       rintro w' ⟨s0, s1, s2, s3, s4, s5⟩
       go_simp
       with_reducible rfl
      rotate_left
      ·
       simp only [Act.put, List.setIfInBounds_toArray, List.set_cons_zero, List.set_cons_succ, i64_w, i32_w]
       rfl
      refine pure_ (i := 6) (N := some 27) (v := ?_) (a' := ?_) #[true, true, true, true, true, true, true, true, false, false, false, true, false, false] rfl rfl (any_of HT_.out (by kernel_rfl)) (fun _ _ _ h => h) (Or.inl ⟨by rfl, ?_⟩) ?_ ?_
      rotate_left
      ·
       intro w'
       go_simp
       with_reducible rfl
      rotate_left
      ·
       simp only [Act.put, List.setIfInBounds_toArray, List.set_cons_zero, List.set_cons_succ, i64_w, i32_w]
       rfl
      refine take_ (i := 8) (N := some 29) (v := ?_) (a' := ?_) #[true, true, true, true, true, true, true, true, true, false, false, true, false, false] rfl rfl (take_ofW HT_.out HW_.out (by kernel_rfl)) (fun _ _ _ h => h) (Or.inl ⟨by rfl, ?_⟩) hHeld ?_ ?_
      rotate_left
      ·
       rintro w' ⟨s0, s1, s2, s3, s4, s5⟩
       go_simp
       with_reducible rfl
      rotate_left
      ·
       simp only [Act.put, List.setIfInBounds_toArray, List.set_cons_zero, List.set_cons_succ, i64_w, i32_w]
       rfl
      refine pure_ (i := 9) (N := some 30) (v := ?_) (a' := ?_) #[true, true, true, true, true, true, true, true, true, true, false, true, false, false] rfl rfl (any_of HT_.out (by kernel_rfl)) (fun _ _ _ h => h) (Or.inl ⟨by rfl, ?_⟩) ?_ ?_
      rotate_left
      ·
       intro w'
       go_simp
       with_reducible rfl
      rotate_left
      ·
       simp only [Act.put, List.setIfInBounds_toArray, List.set_cons_zero, List.set_cons_succ, i64_w, i32_w]
       rfl
      refine pure_ (i := 10) (N := some 31) (v := ?_) (a' := ?_) #[true, true, true, true, true, true, true, true, true, true, true, true, false, false] rfl rfl (any_of HT_.out (by kernel_rfl)) (fun _ _ _ h => h) (Or.inl ⟨by rfl, ?_⟩) ?_ ?_
      rotate_left
      ·
       intro w'
       go_simp
       with_reducible rfl
      rotate_left
      ·
       simp only [Act.put, List.setIfInBounds_toArray, List.set_cons_zero, List.set_cons_succ, i64_w, i32_w]
       rfl
      refine pure_ (i := 12) (N := some 33) (v := ?_) (a' := ?_) #[true, true, true, true, true, true, true, true, true, true, true, true, true, false] rfl rfl (any_of HT_.out (by kernel_rfl)) (fun _ _ _ h => h) (Or.inl ⟨by rfl, ?_⟩) ?_ ?_
      rotate_left
      ·
       intro w'
       go_simp
       with_reducible rfl
      rotate_left
      ·
       simp only [Act.put, List.setIfInBounds_toArray, List.set_cons_zero, List.set_cons_succ, i64_w, i32_w]
       rfl
      refine last_ (i := 13) (N := none) #[true, true, true, true, true, true, true, true, true, true, true, true, true, true] rfl rfl (one_of HT_.out (by kernel_rfl)) (by decide) (fun K hK => ?_)
      refine skip_ (w1 := ?_) (by rfl) rfl ?_ ?_
      rotate_left
      ·
       go_simp
       rfl
      refine hK.out _ _ ?_
      clear hK K
      refine done_ (done_of HT_.out (by kernel_rfl)) ?_
      have n0_ : Aside0 (Kd.R (Kd.int .i64) 3 (w43.setCell ⟨go28, ((ji25) : Int).toNat, none⟩ (.int .i64 a1)) w.heap.size (fun _ => True) (.slice (some ⟨go28, 0, none⟩) t154.length co35) y161) := ⟨by (with_reducible repeat (first | apply Kd.R_alloc | apply Kd.R_drewN | apply Kd.R_drew)); exact HQ44.out⟩
      have n1_ : Aside0 ((w43.setCell ⟨go28, ((ji25) : Int).toNat, none⟩ (.int .i64 a1)).heap[gb152]? = some (.cells #[.slice A0_0 l0_0.length c0_0, .int .i64 a0_1, .int .i64 a0_2] 29 (0, 0))) := ⟨by (with_reducible repeat first|apply bn_|apply bd_|apply ba_); refine blk_far ?_ (by have h_ := Kd.R_ne HO156.out BK152.out (by decide); intro e_; exact h_ (by rw [e_]; rfl)) _; (with_reducible repeat first|apply bn_|apply bd_|apply ba_); exact BK152.out⟩
      have n2_ : Aside0 ((w43.setCell ⟨go28, ((ji25) : Int).toNat, none⟩ (.int .i64 a1)).heap[gb153]? = some (.cells #[.slice none 0 0, .int .i64 0, .int .i64 0] 29 (0, 0))) := ⟨by (with_reducible repeat first|apply bn_|apply bd_|apply ba_); refine blk_far ?_ (by have h_ := Kd.R_ne HO156.out BK153.out (by decide); intro e_; exact h_ (by rw [e_]; rfl)) _; (with_reducible repeat first|apply bn_|apply bd_|apply ba_); exact BK153.out⟩
      have n3_ : Aside0 ((w43.setCell ⟨go28, ((ji25) : Int).toNat, none⟩ (.int .i64 a1)).heap[gb159]? = some (.cells #[.slice (some ⟨go28, 0, none⟩) t154.length co35, .int .i64 t157, .int .i64 t158] 29 (0, 0))) := ⟨by (with_reducible repeat first|apply bn_|apply bd_|apply ba_); refine blk_far ?_ (by have h_ := Kd.R_ne HO156.out BK159.out (by decide); intro e_; exact h_ (by rw [e_]; rfl)) _; (with_reducible repeat first|apply bn_|apply bd_|apply ba_); exact BK159.out⟩
      have n4_ : Aside0 (Below w.heap.size w (w43.setCell ⟨go28, ((ji25) : Int).toNat, none⟩ (.int .i64 a1))) := ⟨by repeat (first | (with_reducible first | exact HB.out | apply below_alloc | apply pw_below_drewN | apply below_drew1 | refine below_set ?_ GB28.out | refine below_set ?_ GE152.out | refine below_set ?_ GE153.out | refine below_set ?_ GE159.out) | exact HB.out)⟩
      (try clear HO156)
      (try clear BK152)
      (try clear BK153)
      (try clear BK159)
      (try clear HB)
      generalize (w43.setCell ⟨go28, ((ji25) : Int).toNat, none⟩ (.int .i64 a1)) = w45 at n0_ n1_ n2_ n3_ n4_ ⊢
      have HO156 := n0_
      have BK152 := n1_
      have BK153 := n2_
      have BK159 := n3_
      have HB := n4_
      clear n0_ n1_ n2_ n3_ n4_
      have hcz46_0 := cb_ BK152.out 0 rfl
      have hcz46_1 := cb_ BK152.out 1 rfl
      have hcz46_2 := cb_ BK152.out 2 rfl
      have hfz46_0 := blk_frozen BK152.out 0
      have hfz46_1 := blk_frozen BK152.out 1
      have hfz46_2 := blk_frozen BK152.out 2
      have hcz47_0 := cb_ BK159.out 0 rfl
      have hcz47_1 := cb_ BK159.out 1 rfl
      have hcz47_2 := cb_ BK159.out 2 rfl
      have hfz47_0 := blk_frozen BK159.out 0
      have hfz47_1 := blk_frozen BK159.out 1
      have hfz47_2 := blk_frozen BK159.out 2
      try go_wp2_with (first | ((with_reducible refine gate_store (t := 3) (p := 37) rfl ?_); refine store_event (t := 3) (p := 37) (v := ?vo_w48) (w1 := (w45.setCell ⟨gb159, 2, none⟩ (.int .i64 (wrap64 (a0_2 + 1))))) ?hg ?ho ?hn ?hr ?_; (case ho => rfl); (case hg => rfl); (case hn => rfl); (case hr => first | (go_simp; done) | (go_simp; rfl)); intro w48 hw; have n0_ : Aside0 (Kd.R (Kd.int .i64) 3 w48 w.heap.size (fun _ => True) (.slice (some ⟨go28, 0, none⟩) t154.length co35) y161) := ⟨(by rw [hw]; exact (by (with_reducible repeat (first | apply Kd.R_alloc | apply Kd.R_drewN | apply Kd.R_drew)); exact Kd.R_mono (Kd.R_far (p := ⟨gb159, 2, none⟩) (Kd.R_types HO156.out BK159.out (by decide)) (fun _ hk => by first | exact hk.2 | grind) (.int .i64 (wrap64 (a0_2 + 1)))) (fun _ hk => trivial)))⟩; have n1_ : Aside0 (w48.heap[gb152]? = some (.cells #[.slice A0_0 l0_0.length c0_0, .int .i64 a0_1, .int .i64 a0_2] 29 (0, 0))) := ⟨(by rw [hw]; exact (uf_ BK152.out))⟩; have n2_ : Aside0 (w48.heap[gb153]? = some (.cells #[.slice none 0 0, .int .i64 0, .int .i64 0] 29 (0, 0))) := ⟨(by rw [hw]; exact (uf_ BK153.out))⟩; have n3_ : Aside0 (w48.heap[gb159]? = some (.cells #[.slice (some ⟨go28, 0, none⟩) t154.length co35, .int .i64 t157, .int .i64 (wrap64 (a0_2 + 1))] 29 (0, 0))) := ⟨(by rw [hw]; exact (by (with_reducible repeat first|apply bn_|apply bd_|apply ba_); refine blk_put (cs := #[.slice (some ⟨go28, 0, none⟩) t154.length co35, .int .i64 t157, .int .i64 t158]) ?_ 2 _ rfl; (with_reducible repeat first|apply bn_|apply bd_|apply ba_); exact BK159.out))⟩; have n4_ : Aside0 (Below w.heap.size w w48) := ⟨(by rw [hw]; exact (ue_ HB.out))⟩; clear hw HO156 BK152 BK153 BK159 HB; have HO156 := n0_; have BK152 := n1_; have BK153 := n2_; have BK159 := n3_; have HB := n4_; clear n0_ n1_ n2_ n3_ n4_; obtain ⟨hcz49_0, hcz49_1, hcz49_2⟩ := cb3_ BK159.out; obtain ⟨hfz49_0, hfz49_1, hfz49_2⟩ := bf3_ BK159.out; obtain ⟨hcz50_0, hcz50_1, hcz50_2⟩ := cb3_ BK153.out; obtain ⟨hfz50_0, hfz50_1⟩ := bf2_ BK153.out; have hfz50_2 := blk_frozen BK153.out 2) | ((with_reducible refine gate_store (t := 29) (p := 4) rfl ?_); refine store_event (t := 29) (p := 4) (v := ?vo_w51) (w1 := (((w48.setCell ⟨gb153, 0, none⟩ (.slice (some ⟨go28, 0, none⟩) t154.length co35)).setCell ⟨gb153, 1, none⟩ (.int .i64 t157)).setCell ⟨gb153, 2, none⟩ (.int .i64 (wrap64 (a0_2 + 1))))) ?hg ?ho ?hn ?hr ?_; (case ho => rfl); (case hg => rfl); (case hn => rfl); (case hr => first | (go_simp; done) | (go_simp; rfl)); intro w51 hw; have n0_ : Aside0 (Kd.R (Kd.int .i64) 3 w51 w.heap.size (fun _ => True) (.slice (some ⟨go28, 0, none⟩) t154.length co35) y161) := ⟨(by rw [hw]; exact (by (with_reducible repeat (first | apply Kd.R_alloc | apply Kd.R_drewN | apply Kd.R_drew)); exact Kd.R_mono (Kd.R_far (p := ⟨gb153, 2, none⟩) (Kd.R_far (p := ⟨gb153, 1, none⟩) (Kd.R_far (p := ⟨gb153, 0, none⟩) (Kd.R_types HO156.out BK153.out (by decide)) (fun _ hk => by first | exact hk.2 | grind) (.slice (some ⟨go28, 0, none⟩) t154.length co35)) (fun _ hk => by first | exact hk.2 | grind) (.int .i64 t157)) (fun _ hk => by first | exact hk.2 | grind) (.int .i64 (wrap64 (a0_2 + 1)))) (fun _ hk => trivial)))⟩; have n1_ : Aside0 (w51.heap[gb152]? = some (.cells #[.slice A0_0 l0_0.length c0_0, .int .i64 a0_1, .int .i64 a0_2] 29 (0, 0))) := ⟨(by rw [hw]; exact (uf_ BK152.out))⟩; have n2_ : Aside0 (w51.heap[gb153]? = some (.cells #[.slice (some ⟨go28, 0, none⟩) t154.length co35, .int .i64 t157, .int .i64 (wrap64 (a0_2 + 1))] 29 (0, 0))) := ⟨(by rw [hw]; exact (by (with_reducible repeat first|apply bn_|apply bd_|apply ba_); refine blk_put (cs := #[.slice (some ⟨go28, 0, none⟩) t154.length co35, .int .i64 t157, .int .i64 0]) ?_ 2 _ rfl; refine blk_put (cs := #[.slice (some ⟨go28, 0, none⟩) t154.length co35, .int .i64 0, .int .i64 0]) ?_ 1 _ rfl; refine blk_put (cs := #[.slice none 0 0, .int .i64 0, .int .i64 0]) ?_ 0 _ rfl; (with_reducible repeat first|apply bn_|apply bd_|apply ba_); exact BK153.out))⟩; have n3_ : Aside0 (w51.heap[gb159]? = some (.cells #[.slice (some ⟨go28, 0, none⟩) t154.length co35, .int .i64 t157, .int .i64 (wrap64 (a0_2 + 1))] 29 (0, 0))) := ⟨(by rw [hw]; exact (uf_ BK159.out))⟩; have n4_ : Aside0 (Below w.heap.size w w51) := ⟨(by rw [hw]; exact (ue_ HB.out))⟩; clear hw HO156 BK152 BK153 BK159 HB; have HO156 := n0_; have BK152 := n1_; have BK153 := n2_; have BK159 := n3_; have HB := n4_; clear n0_ n1_ n2_ n3_ n4_))
      refine bodyPost_ret (results_ct rfl _ _ gb153 29 #[.slice (some ⟨go28, 0, none⟩) t154.length co35, .int .i64 t157, .int .i64 (wrap64 (a0_2 + 1))] (0, 0) _ rfl (ub_ BK153.out) Try.underlying29 rfl (by kernel_rfl)) rfl ?_
      exact ⟨_, by first | rfl | (simp [errW_none, errW_some] <;> rfl) | (simp only [← hji25]; first | rfl | (simp [errW_none, errW_some] <;> rfl)) | (simp [*, errW_none, errW_some] <;> rfl), by (with_reducible repeat (first | apply Kd.R_alloc | apply Kd.R_drewN | apply Kd.R_drew)); exact HO156.out, ue_ HB.out⟩
     ·
      rw [if_neg c27] at H
      exact absurd H (by simp)
    ·
     rw [if_neg c26] at H
     exact absurd H (by simp)
 ·
  replace c5 := Bool.eq_false_iff.mpr c5
  subst c5
  have H1 : (some (t154, t157, t158, false)) = some (r1, r2, r3, r4) := by rw [if_neg (show ¬ (false = true) by decide)] at H; exact H
  clear H
  have H := H1
  clear H1
  simp only [Option.some.injEq, Prod.mk.injEq] at H
  obtain ⟨rfl, rfl, rfl, rfl⟩ := H
  go_enter Try.func50, Try.ntmps50
  go_wp2_with (first | ((with_reducible refine gate_dst (N := 2) rfl ?_); (try (refine gate_guard (by rfl) ?_; dsimp only)); refine box_event ?hg (N := 2) ?hd (cs := #[.slice A0_0 l0_0.length c0_0, .int .i64 a0_1, .int .i64 a0_2]) (t := 29) ?hr ?_; (case hd => rfl); (case hg => rfl); (case hr => first | (go_simp; done) | (go_simp; rfl)); intro gb152 hg w52 hbox hb; have n0_ := am_ (below_step (ue_ HB.out) hb); have n1_ := am_ (hbox); have n2_ := am_ ((by rw [hg]; exact (below_size (ue_ HB.out)) : w.heap.size ≤ gb152)); have n3_ := am_ ((by rw [hg]; exact (below_size (ue_ HB.out)) : w.heap.size ≤ gb152)); clear HB; have HB := n0_; have BK152 := n1_; have GW152 := n2_; have GE152 := n3_; clear n0_ n1_ n2_ n3_; clear hb hbox hg) | ((with_reducible refine gate_dst (N := 4) rfl ?_); (try (refine gate_guard (by rfl) ?_; dsimp only)); refine box_event ?hg (N := 4) ?hd (cs := #[.slice none 0 0, .int .i64 0, .int .i64 0]) (t := 29) ?hr ?_; (case hd => rfl); (case hg => rfl); (case hr => first | (go_simp; done) | (go_simp; rfl)); intro gb153 hg w53 hbox hb; have n0_ := am_ (bb_ BK152.out hb); have n1_ := am_ (below_step (ue_ HB.out) hb); have n2_ := am_ (hbox); have n3_ := am_ ((by rw [hg]; exact (below_size (ue_ HB.out)) : w.heap.size ≤ gb153)); have n4_ := am_ ((by rw [hg]; exact (below_size (ue_ HB.out)) : w.heap.size ≤ gb153)); have n5_ := am_ ((by rw [hg]; exact Nat.ne_of_lt (bl_ BK152.out) : gb152 ≠ gb153)); have n6_ := am_ ((by rw [hg]; exact Nat.ne_of_gt (bl_ BK152.out) : gb153 ≠ gb152)); clear BK152 HB; have BK152 := n0_; have HB := n1_; have BK153 := n2_; have GW153 := n3_; have GE153 := n4_; have NB152_153 := n5_; have NB153_152 := n6_; clear n0_ n1_ n2_ n3_ n4_ n5_ n6_; clear hb hbox hg; have hnb54 := NB152_153.out; have hnc54 := NB153_152.out; obtain ⟨hcz55_0, hcz55_1, hcz55_2⟩ := cb3_ BK152.out; obtain ⟨hfz55_0, hfz55_1⟩ := bf2_ BK152.out; have hfz55_2 := blk_frozen BK152.out 2) | ((with_reducible refine gate_callee (f := 90) rfl ?_); refine goesL_ (some 8) rfl rfl Try.func90 (by kernel_rfl) rfl #[.agg #[.slice A0_0 l0_0.length c0_0, .int .i64 a0_1, .int .i64 a0_2]] rfl ul_ ?_; (with_reducible refine (spec_l03Copy.calls k _ _ l0_0 a0_1 a0_2 t154 t157 t158 _ ?side1 ?side2 A3.out).mono ?_); (case side1 => repeat (first | exact (Kd.C_below HR0_0.out HB.out) | (with_reducible refine Kd.C_alloc ?_ _) | (with_reducible refine Kd.C_drewN ?_ _) | (with_reducible refine Kd.C_drew ?_))); (case side2 => exact HC0_0.out); rintro e w56 ⟨v155, rfl, ho0, hb⟩; refine ⟨_, rfl, ?_⟩; have n0_ := am_ (Kd.R_lower ho0 (below_size (ue_ HB.out))); have n1_ := am_ (bb_ BK152.out hb); have n2_ := am_ (bb_ BK153.out hb); have n3_ := am_ (below_step (ue_ HB.out) hb); clear BK152 BK153 HB; have HO156 := n0_; have BK152 := n1_; have BK153 := n2_; have HB := n3_; clear n0_ n1_ n2_ n3_; (try clear hb); (try clear hb2); (try clear hk); (try clear hi); (try clear ho0)) | ((with_reducible refine gate_dst (N := 6) rfl ?_); (try (refine gate_guard (by rfl) ?_; dsimp only)); refine box_event ?hg (N := 6) ?hd (cs := #[.slice none 0 0, .int .i64 0, .int .i64 0]) (t := 29) ?hr ?_; (case hd => rfl); (case hg => rfl); (case hr => first | (go_simp; done) | (go_simp; rfl)); intro gb159 hg w57 hbox hb; have n0_ := am_ (Kd.R_below (ur_ HO156.out) hb); have n1_ := am_ (bb_ BK152.out hb); have n2_ := am_ (bb_ BK153.out hb); have n3_ := am_ (below_step (ue_ HB.out) hb); have n4_ := am_ (hbox); have n5_ := am_ ((by rw [hg]; exact (below_size (ue_ HB.out)) : w.heap.size ≤ gb159)); have n6_ := am_ ((by rw [hg]; exact (below_size (ue_ HB.out)) : w.heap.size ≤ gb159)); have n7_ := am_ ((by rw [hg]; exact Nat.ne_of_lt (bl_ BK152.out) : gb152 ≠ gb159)); have n8_ := am_ ((by rw [hg]; exact Nat.ne_of_gt (bl_ BK152.out) : gb159 ≠ gb152)); have n9_ := am_ ((by rw [hg]; exact Nat.ne_of_lt (bl_ BK153.out) : gb153 ≠ gb159)); have n10_ := am_ ((by rw [hg]; exact Nat.ne_of_gt (bl_ BK153.out) : gb159 ≠ gb153)); clear HO156 BK152 BK153 HB; have HO156 := n0_; have BK152 := n1_; have BK153 := n2_; have HB := n3_; have BK159 := n4_; have GW159 := n5_; have GE159 := n6_; have NB152_159 := n7_; have NB159_152 := n8_; have NB153_159 := n9_; have NB159_153 := n10_; clear n0_ n1_ n2_ n3_ n4_ n5_ n6_ n7_ n8_ n9_ n10_; clear hb hbox hg; obtain ⟨Ao58, co58, eo58⟩ := Kd.R_slice HO156.out; subst eo58; have hnb59 := NB159_152.out; have hnc59 := NB152_159.out; have hnb60 := NB159_153.out; have hnc60 := NB153_159.out; obtain ⟨hcz61_0, hcz61_1, hcz61_2⟩ := cb3_ BK159.out; obtain ⟨hfz61_0, hfz61_1⟩ := bf2_ BK159.out; have hfz61_2 := blk_frozen BK159.out 2) | ((with_reducible refine gate_store (t := 29) (p := 6) rfl ?_); refine store_event (t := 29) (p := 6) (v := ?vo_w62) (w1 := (((w57.setCell ⟨gb159, 0, none⟩ (.slice Ao58 t154.length co58)).setCell ⟨gb159, 1, none⟩ (.int .i64 t157)).setCell ⟨gb159, 2, none⟩ (.int .i64 t158))) ?hg ?ho ?hn ?hr ?_; (case ho => rfl); (case hg => rfl); (case hn => rfl); (case hr => first | (go_simp; done) | (go_simp; rfl)); intro w62 hw; have n0_ : Aside0 (Kd.R (Kd.int .i64) 3 w62 w.heap.size (fun _ => True) (.slice Ao58 t154.length co58) t154) := ⟨(by rw [hw]; exact (by (with_reducible repeat (first | apply Kd.R_alloc | apply Kd.R_drewN | apply Kd.R_drew)); exact Kd.R_mono (Kd.R_far (p := ⟨gb159, 2, none⟩) (Kd.R_far (p := ⟨gb159, 1, none⟩) (Kd.R_far (p := ⟨gb159, 0, none⟩) (Kd.R_types HO156.out BK159.out (by decide)) (fun _ hk => by first | exact hk.2 | grind) (.slice Ao58 t154.length co58)) (fun _ hk => by first | exact hk.2 | grind) (.int .i64 t157)) (fun _ hk => by first | exact hk.2 | grind) (.int .i64 t158)) (fun _ hk => trivial)))⟩; have n1_ : Aside0 (w62.heap[gb152]? = some (.cells #[.slice A0_0 l0_0.length c0_0, .int .i64 a0_1, .int .i64 a0_2] 29 (0, 0))) := ⟨(by rw [hw]; exact (uf_ BK152.out))⟩; have n2_ : Aside0 (w62.heap[gb153]? = some (.cells #[.slice none 0 0, .int .i64 0, .int .i64 0] 29 (0, 0))) := ⟨(by rw [hw]; exact (uf_ BK153.out))⟩; have n3_ : Aside0 (w62.heap[gb159]? = some (.cells #[.slice Ao58 t154.length co58, .int .i64 t157, .int .i64 t158] 29 (0, 0))) := ⟨(by rw [hw]; exact (by (with_reducible repeat first|apply bn_|apply bd_|apply ba_); refine blk_put (cs := #[.slice Ao58 t154.length co58, .int .i64 t157, .int .i64 0]) ?_ 2 _ rfl; refine blk_put (cs := #[.slice Ao58 t154.length co58, .int .i64 0, .int .i64 0]) ?_ 1 _ rfl; refine blk_put (cs := #[.slice none 0 0, .int .i64 0, .int .i64 0]) ?_ 0 _ rfl; (with_reducible repeat first|apply bn_|apply bd_|apply ba_); exact BK159.out))⟩; have n4_ : Aside0 (Below w.heap.size w w62) := ⟨(by rw [hw]; exact (ue_ HB.out))⟩; clear hw HO156 BK152 BK153 BK159 HB; have HO156 := n0_; have BK152 := n1_; have BK153 := n2_; have BK159 := n3_; have HB := n4_; clear n0_ n1_ n2_ n3_ n4_; obtain ⟨hcz63_0, hcz63_1, hcz63_2⟩ := cb3_ BK152.out; obtain ⟨hfz63_0, hfz63_1⟩ := bf2_ BK152.out; have hfz63_2 := blk_frozen BK152.out 2) | ((with_reducible refine gate_callee (f := 66) rfl ?_); refine goesL_ (some 10) rfl rfl Try.func66 (by kernel_rfl) rfl #[.agg #[.slice A0_0 l0_0.length c0_0, .int .i64 a0_1, .int .i64 a0_2]] rfl ul_ ?_; (with_reducible refine (spec_RingOk.calls k _ _ l0_0 a0_1 a0_2 false _ ?side1 ?side2 A4.out).mono ?_); (case side1 => repeat (first | exact (Kd.C_below HR0_0.out HB.out) | (with_reducible refine Kd.C_alloc ?_ _) | (with_reducible refine Kd.C_drewN ?_ _) | (with_reducible refine Kd.C_drew ?_))); (case side2 => exact HC0_0.out); rintro e w64 ⟨rfl, hb⟩; refine ⟨_, rfl, ?_⟩; have n0_ := am_ (Kd.R_below (ur_ HO156.out) hb); have n1_ := am_ (bb_ BK152.out hb); have n2_ := am_ (bb_ BK153.out hb); have n3_ := am_ (bb_ BK159.out hb); have n4_ := am_ (below_step (ue_ HB.out) hb); clear HO156 BK152 BK153 BK159 HB; have HO156 := n0_; have BK152 := n1_; have BK153 := n2_; have BK159 := n3_; have HB := n4_; clear n0_ n1_ n2_ n3_ n4_; (try clear hb); (try clear hb2); (try clear hk); (try clear hi); obtain ⟨hcz65_0, hcz65_1, hcz65_2⟩ := cb3_ BK159.out; obtain ⟨hfz65_0, hfz65_1, hfz65_2⟩ := bf3_ BK159.out; obtain ⟨hcz66_0, hcz66_1, hcz66_2⟩ := cb3_ BK153.out; obtain ⟨hfz66_0, hfz66_1⟩ := bf2_ BK153.out; have hfz66_2 := blk_frozen BK153.out 2) | ((with_reducible refine gate_store (t := 29) (p := 4) rfl ?_); refine store_event (t := 29) (p := 4) (v := ?vo_w67) (w1 := (((w64.setCell ⟨gb153, 0, none⟩ (.slice Ao58 t154.length co58)).setCell ⟨gb153, 1, none⟩ (.int .i64 t157)).setCell ⟨gb153, 2, none⟩ (.int .i64 t158))) ?hg ?ho ?hn ?hr ?_; (case ho => rfl); (case hg => rfl); (case hn => rfl); (case hr => first | (go_simp; done) | (go_simp; rfl)); intro w67 hw; have n0_ : Aside0 (Kd.R (Kd.int .i64) 3 w67 w.heap.size (fun _ => True) (.slice Ao58 t154.length co58) t154) := ⟨(by rw [hw]; exact (by (with_reducible repeat (first | apply Kd.R_alloc | apply Kd.R_drewN | apply Kd.R_drew)); exact Kd.R_mono (Kd.R_far (p := ⟨gb153, 2, none⟩) (Kd.R_far (p := ⟨gb153, 1, none⟩) (Kd.R_far (p := ⟨gb153, 0, none⟩) (Kd.R_types HO156.out BK153.out (by decide)) (fun _ hk => by first | exact hk.2 | grind) (.slice Ao58 t154.length co58)) (fun _ hk => by first | exact hk.2 | grind) (.int .i64 t157)) (fun _ hk => by first | exact hk.2 | grind) (.int .i64 t158)) (fun _ hk => trivial)))⟩; have n1_ : Aside0 (w67.heap[gb152]? = some (.cells #[.slice A0_0 l0_0.length c0_0, .int .i64 a0_1, .int .i64 a0_2] 29 (0, 0))) := ⟨(by rw [hw]; exact (uf_ BK152.out))⟩; have n2_ : Aside0 (w67.heap[gb153]? = some (.cells #[.slice Ao58 t154.length co58, .int .i64 t157, .int .i64 t158] 29 (0, 0))) := ⟨(by rw [hw]; exact (by (with_reducible repeat first|apply bn_|apply bd_|apply ba_); refine blk_put (cs := #[.slice Ao58 t154.length co58, .int .i64 t157, .int .i64 0]) ?_ 2 _ rfl; refine blk_put (cs := #[.slice Ao58 t154.length co58, .int .i64 0, .int .i64 0]) ?_ 1 _ rfl; refine blk_put (cs := #[.slice none 0 0, .int .i64 0, .int .i64 0]) ?_ 0 _ rfl; (with_reducible repeat first|apply bn_|apply bd_|apply ba_); exact BK153.out))⟩; have n3_ : Aside0 (w67.heap[gb159]? = some (.cells #[.slice Ao58 t154.length co58, .int .i64 t157, .int .i64 t158] 29 (0, 0))) := ⟨(by rw [hw]; exact (uf_ BK159.out))⟩; have n4_ : Aside0 (Below w.heap.size w w67) := ⟨(by rw [hw]; exact (ue_ HB.out))⟩; clear hw HO156 BK152 BK153 BK159 HB; have HO156 := n0_; have BK152 := n1_; have BK153 := n2_; have BK159 := n3_; have HB := n4_; clear n0_ n1_ n2_ n3_ n4_))
  refine bodyPost_ret (results_ct rfl _ _ gb153 29 #[.slice Ao58 t154.length co58, .int .i64 t157, .int .i64 t158] (0, 0) _ rfl (ub_ BK153.out) Try.underlying29 rfl (by kernel_rfl)) rfl ?_
  exact ⟨_, ew_, by (with_reducible repeat (first | apply Kd.R_alloc | apply Kd.R_drewN | apply Kd.R_drew)); exact HO156.out, ue_ HB.out⟩

/-! ### spec_NewRing: function 107 -/
def spec_NewRing.f (a0 : Int) : Option (List Int × Int × Int × Bool) := (spec_l01In.f a0 1 20).bind fun t163 => (if t163 = true then (if 0 ≤ a0 then (if (a0 : Int).toNat ≤ 35184372088832 then (some ((List.replicate (a0 : Int).toNat 0), 0, 0, true)) else (none)) else (none)) else (some (([] : List Int), 0, 0, false)))
set_option maxHeartbeats 8000000 in
set_option maxRecDepth 100000 in
theorem spec_NewRing.calls (a0 : Int) (r1 : List Int) (r2 : Int) (r3 : Int) (r4 : Bool) (w : World) (h : spec_NewRing.f a0 = some (r1, r2, r3, r4)) :
  Calls Try.prog 107 #[.int .i64 a0] w fun e w' => ∃ v0_ : Value, e = .returned (.tuple #[.agg #[v0_, .int .i64 r2, .int .i64 r3], .bool r4]) ∧ Kd.R (Kd.int .i64) 3 w' w.heap.size (fun _ => True) v0_ r1 ∧ Below w.heap.size w w' := by
 have hu29 := Try.underlying29
 have HB := am_ (Below.refl w.heap.size w)
 have H : ((spec_l01In.f a0 1 20).bind fun t163 => (if t163 = true then (if 0 ≤ a0 then (if (a0 : Int).toNat ≤ 35184372088832 then (some ((List.replicate (a0 : Int).toNat 0), 0, 0, true)) else (none)) else (none)) else (some (([] : List Int), 0, 0, false)))) = some (r1, r2, r3, r4) := h
 clear h
 replace H := Option.bind_eq_some_iff.mp H
 obtain ⟨t163, A20, H⟩ := H
 replace H : (if t163 = true then (if 0 ≤ a0 then (if (a0 : Int).toNat ≤ 35184372088832 then (some ((List.replicate (a0 : Int).toNat 0), 0, 0, true)) else (none)) else (none)) else (some (([] : List Int), 0, 0, false))) = some (r1, r2, r3, r4) := H
 have A2 := Aside0.mk A20
 clear A20
 by_cases c3 : t163 = true
 ·
  subst c3
  have H1 : (if 0 ≤ a0 then (if (a0 : Int).toNat ≤ 35184372088832 then (some ((List.replicate (a0 : Int).toNat 0), 0, 0, true)) else (none)) else (none)) = some (r1, r2, r3, r4) := by rw [if_pos rfl] at H; exact H
  clear H
  have H := H1
  clear H1
  by_cases c4 : 0 ≤ a0
  ·
   rw [if_pos c4] at H
   have c4b0 := eq_true c4
   have c4b1 : decide (0 ≤ a0) = true := decide_eq_true c4
   clear c4
   by_cases c5 : (a0 : Int).toNat ≤ 35184372088832
   ·
    rw [if_pos c5] at H
    have c5b0 := eq_true c5
    have c5b1 : decide ((a0 : Int).toNat ≤ 35184372088832) = true := decide_eq_true c5
    clear c5
    obtain ⟨y164, hy164⟩ : ∃ y_ : List Int, y_ = (List.replicate (a0 : Int).toNat 0) := ⟨_, rfl⟩
    replace H : (some (y164, 0, 0, true)) = some (r1, r2, r3, r4) := by first | (rw [hy164]; with_reducible exact H) | (have H2_ := (Option.bind_some _ _).symm.trans H; rw [hy164]; with_reducible exact H2_) | (have H2_ := (Option.bind_some _ _).symm.trans H; with_reducible exact H2_) | with_reducible exact H | (rw [hy164]; exact H) | exact H
    have Ny164 := Aside0.mk hy164
    clear hy164
    simp only [Option.some.injEq, Prod.mk.injEq] at H
    obtain ⟨rfl, rfl, rfl, rfl⟩ := H
    go_enter Try.func107, Try.ntmps107
    go_wp2_with (first | ((with_reducible refine gate_dst (N := 2) rfl ?_); refine box_event ?hg (N := 2) ?hd (cs := #[.slice none 0 0, .int .i64 0, .int .i64 0]) (t := 29) ?hr ?_; (case hd => rfl); (case hg => rfl); (case hr => first | (go_simp; done) | (go_simp; rfl)); intro gb162 hg w6 hbox hb; have n0_ := am_ (below_step (ue_ HB.out) hb); have n1_ := am_ (hbox); have n2_ := am_ ((by rw [hg]; exact (below_size (ue_ HB.out)) : w.heap.size ≤ gb162)); have n3_ := am_ ((by rw [hg]; exact (below_size (ue_ HB.out)) : w.heap.size ≤ gb162)); clear HB; have HB := n0_; have BK162 := n1_; have GW162 := n2_; have GE162 := n3_; clear n0_ n1_ n2_ n3_; clear hb hbox hg) | ((with_reducible refine gate_callee (f := 101) rfl ?_); refine goesL_ (some 5) rfl rfl Try.func101 (by kernel_rfl) rfl #[.int .i64 a0, .int .i64 1, .int .i64 20] rfl ul_ ?_; (with_reducible refine (spec_l01In.calls a0 1 20 true _ A2.out).mono ?_); rintro e w' ⟨rfl, ⟨nd, rfl⟩⟩; refine ⟨_, rfl, ?_⟩; (try (rw [drewN_self w6]; generalize hq_ : World.drewN w6 _ = w6; have n0_ : Aside0 (w6.heap[gb162]? = some (.cells #[.slice none 0 0, .int .i64 0, .int .i64 0] 29 (0, 0))) := ⟨by rw [← hq_]; exact (ub_ BK162.out)⟩; have n1_ : Aside0 (Below w.heap.size w w6) := ⟨by rw [← hq_]; exact (ue_ HB.out)⟩; clear BK162 HB hq_; have BK162 := n0_; have HB := n1_; clear n0_ n1_))) | ((with_reducible refine gate_dst (N := 9) rfl ?_); refine Kd.R_make (Kd.int .i64) _ 3 rfl (N := 9) rfl 22 _ _ rfl a0 rfl rfl Try.underlying22 (.int .i64 0) 8 info3 rfl (by decide) (by omega) 0 (ok := fun _ => True) (okp := fun _ => True) rfl (fun _ hk => hk) trivial (of_decide_eq_true ua_) (Nat.le_trans (Nat.mul_le_mul_right _ (of_decide_eq_true ua_ : a0.toNat ≤ 35184372088832)) (by omega)) (Below.refl _ _) (Nat.le_refl _) ?_; intro v165 w7 ho8 hb hg_ hnew_; clear hg_ hnew_; (first | rw [← Ny164.out] at ho8 | (simp only [Int.reduceToNat] at ho8; rw [← Ny164.out] at ho8)); have n0_ := am_ (Kd.R_lower ho8 (below_size (ue_ HB.out))); have n1_ := am_ (bb_ BK162.out hb); have n2_ := am_ (below_step (ue_ HB.out) hb); clear BK162 HB; have HO166 := n0_; have BK162 := n1_; have HB := n2_; clear n0_ n1_ n2_; clear hb ho8; obtain ⟨Ao9, co9, eo9⟩ := Kd.R_slice HO166.out; subst eo9; obtain ⟨hcz10_0, hcz10_1, hcz10_2⟩ := cb3_ BK162.out; obtain ⟨hfz10_0, hfz10_1⟩ := bf2_ BK162.out; have hfz10_2 := blk_frozen BK162.out 2) | ((with_reducible refine gate_store (t := 29) (p := 2) rfl ?_); refine store_event (t := 29) (p := 2) (v := ?vo_w11) (w1 := (((w7.setCell ⟨gb162, 0, none⟩ (.slice Ao9 y164.length co9)).setCell ⟨gb162, 1, none⟩ (.int .i64 0)).setCell ⟨gb162, 2, none⟩ (.int .i64 0))) ?hg ?ho ?hn ?hr ?_; (case ho => rfl); (case hg => rfl); (case hn => rfl); (case hr => first | (go_simp; done) | (go_simp; rfl)); intro w11 hw; have n0_ : Aside0 (Kd.R (Kd.int .i64) 3 w11 w.heap.size (fun _ => True) (.slice Ao9 y164.length co9) y164) := ⟨(by rw [hw]; exact (by (with_reducible repeat (first | apply Kd.R_alloc | apply Kd.R_drewN | apply Kd.R_drew)); exact Kd.R_mono (Kd.R_far (p := ⟨gb162, 2, none⟩) (Kd.R_far (p := ⟨gb162, 1, none⟩) (Kd.R_far (p := ⟨gb162, 0, none⟩) (Kd.R_types HO166.out BK162.out (by decide)) (fun _ hk => by first | exact hk.2 | grind) (.slice Ao9 y164.length co9)) (fun _ hk => by first | exact hk.2 | grind) (.int .i64 0)) (fun _ hk => by first | exact hk.2 | grind) (.int .i64 0)) (fun _ hk => trivial)))⟩; have n1_ : Aside0 (w11.heap[gb162]? = some (.cells #[.slice Ao9 y164.length co9, .int .i64 0, .int .i64 0] 29 (0, 0))) := ⟨(by rw [hw]; exact (by (with_reducible repeat first|apply bn_|apply bd_|apply ba_); refine blk_put (cs := #[.slice Ao9 y164.length co9, .int .i64 0, .int .i64 0]) ?_ 2 _ rfl; refine blk_put (cs := #[.slice Ao9 y164.length co9, .int .i64 0, .int .i64 0]) ?_ 1 _ rfl; refine blk_put (cs := #[.slice none 0 0, .int .i64 0, .int .i64 0]) ?_ 0 _ rfl; (with_reducible repeat first|apply bn_|apply bd_|apply ba_); exact BK162.out))⟩; have n2_ : Aside0 (Below w.heap.size w w11) := ⟨(by rw [hw]; exact (ue_ HB.out))⟩; clear hw HO166 BK162 HB; have HO166 := n0_; have BK162 := n1_; have HB := n2_; clear n0_ n1_ n2_))
    refine bodyPost_ret (results_ct rfl _ _ gb162 29 #[.slice Ao9 y164.length co9, .int .i64 0, .int .i64 0] (0, 0) _ rfl (ub_ BK162.out) Try.underlying29 rfl (by kernel_rfl)) rfl ?_
    exact ⟨_, ew_, by (with_reducible repeat (first | apply Kd.R_alloc | apply Kd.R_drewN | apply Kd.R_drew)); exact HO166.out, ue_ HB.out⟩
   ·
    rw [if_neg c5] at H
    exact absurd H (by simp)
  ·
   rw [if_neg c4] at H
   exact absurd H (by simp)
 ·
  replace c3 := Bool.eq_false_iff.mpr c3
  subst c3
  have H1 : (some (([] : List Int), 0, 0, false)) = some (r1, r2, r3, r4) := by rw [if_neg (show ¬ (false = true) by decide)] at H; exact H
  clear H
  have H := H1
  clear H1
  simp only [Option.some.injEq, Prod.mk.injEq] at H
  obtain ⟨rfl, rfl, rfl, rfl⟩ := H
  go_enter Try.func107, Try.ntmps107
  go_wp2_with (first | ((with_reducible refine gate_dst (N := 2) rfl ?_); refine box_event ?hg (N := 2) ?hd (cs := #[.slice none 0 0, .int .i64 0, .int .i64 0]) (t := 29) ?hr ?_; (case hd => rfl); (case hg => rfl); (case hr => first | (go_simp; done) | (go_simp; rfl)); intro gb162 hg w12 hbox hb; have n0_ := am_ (below_step (ue_ HB.out) hb); have n1_ := am_ (hbox); have n2_ := am_ ((by rw [hg]; exact (below_size (ue_ HB.out)) : w.heap.size ≤ gb162)); have n3_ := am_ ((by rw [hg]; exact (below_size (ue_ HB.out)) : w.heap.size ≤ gb162)); clear HB; have HB := n0_; have BK162 := n1_; have GW162 := n2_; have GE162 := n3_; clear n0_ n1_ n2_ n3_; clear hb hbox hg) | ((with_reducible refine gate_callee (f := 101) rfl ?_); refine goesL_ (some 5) rfl rfl Try.func101 (by kernel_rfl) rfl #[.int .i64 a0, .int .i64 1, .int .i64 20] rfl ul_ ?_; (with_reducible refine (spec_l01In.calls a0 1 20 false _ A2.out).mono ?_); rintro e w' ⟨rfl, ⟨nd, rfl⟩⟩; refine ⟨_, rfl, ?_⟩; (try (rw [drewN_self w12]; generalize hq_ : World.drewN w12 _ = w12; have n0_ : Aside0 (w12.heap[gb162]? = some (.cells #[.slice none 0 0, .int .i64 0, .int .i64 0] 29 (0, 0))) := ⟨by rw [← hq_]; exact (ub_ BK162.out)⟩; have n1_ : Aside0 (Below w.heap.size w w12) := ⟨by rw [← hq_]; exact (ue_ HB.out)⟩; clear BK162 HB hq_; have BK162 := n0_; have HB := n1_; clear n0_ n1_)); obtain ⟨hcz13_0, hcz13_1, hcz13_2⟩ := cb3_ BK162.out; obtain ⟨hfz13_0, hfz13_1⟩ := bf2_ BK162.out; have hfz13_2 := blk_frozen BK162.out 2) | ((with_reducible refine gate_store (t := 29) (p := 2) rfl ?_); refine store_event (t := 29) (p := 2) (v := ?vo_w14) (w1 := (((w12.setCell ⟨gb162, 0, none⟩ (.slice none 0 0)).setCell ⟨gb162, 1, none⟩ (.int .i64 0)).setCell ⟨gb162, 2, none⟩ (.int .i64 0))) ?hg ?ho ?hn ?hr ?_; (case ho => rfl); (case hg => rfl); (case hn => rfl); (case hr => first | (go_simp; done) | (go_simp; rfl)); intro w14 hw; have n0_ : Aside0 (w14.heap[gb162]? = some (.cells #[.slice none 0 0, .int .i64 0, .int .i64 0] 29 (0, 0))) := ⟨(by rw [hw]; exact (by (with_reducible repeat first|apply bn_|apply bd_|apply ba_); refine blk_put (cs := #[.slice none 0 0, .int .i64 0, .int .i64 0]) ?_ 2 _ rfl; refine blk_put (cs := #[.slice none 0 0, .int .i64 0, .int .i64 0]) ?_ 1 _ rfl; refine blk_put (cs := #[.slice none 0 0, .int .i64 0, .int .i64 0]) ?_ 0 _ rfl; (with_reducible repeat first|apply bn_|apply bd_|apply ba_); exact BK162.out))⟩; have n1_ : Aside0 (Below w.heap.size w w14) := ⟨(by rw [hw]; exact (ue_ HB.out))⟩; clear hw BK162 HB; have BK162 := n0_; have HB := n1_; clear n0_ n1_))
  refine bodyPost_ret (results_ct rfl _ _ gb162 29 #[.slice none 0 0, .int .i64 0, .int .i64 0] (0, 0) _ rfl (ub_ BK162.out) Try.underlying29 rfl (by kernel_rfl)) rfl ?_
  exact ⟨_, ew_, by first | exact Kd.R_nil _ _ _ _ _ | exact Kd.N_nil _ _ _ _ _ | exact Kd.V_nil _ _ _ _ _ | exact Kd.Q_nil _ _ _ _ _ | exact Kd.S_nil _ _ _ _ _, ue_ HB.out⟩

end Go.Proofs.Ytoeiadanmfajoaa.QFnExactGrowRing
