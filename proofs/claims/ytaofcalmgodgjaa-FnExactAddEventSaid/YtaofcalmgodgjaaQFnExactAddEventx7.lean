/- The machine side of a law: Lean functions with the Go functions' answers and the walks that show it. No condition. -/
import Derived.Test.YtaofcalmgodgjaaQFnExactAddEventx0
import Derived.Test.YtaofcalmgodgjaaQFnExactAddEventx6
namespace Go.Proofs.Ytaofcalmgodgjaa.QFnExactAddEvent
open Go.RowKit Go.Proofs.YtaofcalmgodgjaaW.PrintWords Go.Proofs.YtaofcalmgodgjaaW.PrintLast Go.Proofs.YtaofcalmgodgjaaW.PrintMore
attribute [local go_sem] max2_int min2_int max_two min_two max_three min_three max_four min_four   -- for this text's walks alone
set_option linter.unusedVariables false
set_option linter.unusedSimpArgs false

/-! ### impl_aggOrder: function 41 -/
def impl_aggOrder.f (k : Nat) (a0_0 : Int) (a0_1 : Int) (a0_2 : Int) (a0_3 : Int) (a0_4 : Int) (a0_5 : Int) (a1_0 : Int) (a1_1 : Int) (a1_2 : Int) (a1_3 : Int) (a1_4 : Int) (a1_5 : Int) : Option (Int) := (cmp_Compare_int.f a0_0 a1_0).bind fun t249 => ((cmp_Compare_int.f a0_1 a1_1).bind fun t250 => ((cmp_Or_int.f k (([t249, t250] : List Int))).bind fun t254 => (some t254)))
theorem impl_aggOrder.mono : ∀ a0 a1 a2 a3 a4 a5 a6 a7 a8 a9 a10 a11 k, LeO (impl_aggOrder.f k a0 a1 a2 a3 a4 a5 a6 a7 a8 a9 a10 a11) (impl_aggOrder.f (k + 1) a0 a1 a2 a3 a4 a5 a6 a7 a8 a9 a10 a11) := by
 intro a0 a1 a2 a3 a4 a5 a6 a7 a8 a9 a10 a11 k
 unfold impl_aggOrder.f
 repeat' first
   | (with_reducible exact cmp_Or_int.mono _ _)
   | (with_reducible exact LeO.refl _)
   | (with_reducible exact LeO.none _)
   | (with_reducible refine LeO.ite ?_ ?_)
   | (with_reducible refine LeO.bind ?_ (fun _ => ?_))
   | exact cmp_Or_int.mono _ _
   | exact LeO.none _
   | refine LeO.ite ?_ ?_
   | refine LeO.bind ?_ (fun _ => ?_)
def impl_aggOrder.T1 : Bool × List (List Nat × List Nat) := (true, [([], []), ([0], [0]), ([], []), ([2], [2]), ([1, 3], [1, 3]), ([], []), ([5], [5]), ([], []), ([7], [7]), ([6, 8, 4], [6, 8]), ([4, 9], [4, 9]), ([10, 9], [10]), ([11, 11, 0, 1, 2, 3, 4, 5, 6, 7, 8, 9, 10, 11], [11])])
def impl_aggOrder.B1 : List Nat := [0, 1, 0, 4, 15, 0, 32, 0, 128, 511, 1023, 2047, 4095]
theorem impl_aggOrder.tab1 : rtab .any (opsOf Try.f41 1) = impl_aggOrder.T1 := by kernel_rfl
theorem impl_aggOrder.bits1 : waitsOk impl_aggOrder.T1.2 impl_aggOrder.B1 = true := by kernel_rfl
set_option maxHeartbeats 8000000 in
set_option maxRecDepth 100000 in
theorem impl_aggOrder.calls (k : Nat) (a0_0 : Int) (a0_1 : Int) (a0_2 : Int) (a0_3 : Int) (a0_4 : Int) (a0_5 : Int) (a1_0 : Int) (a1_1 : Int) (a1_2 : Int) (a1_3 : Int) (a1_4 : Int) (a1_5 : Int) (r : Int) (w : World) (h : impl_aggOrder.f k a0_0 a0_1 a0_2 a0_3 a0_4 a0_5 a1_0 a1_1 a1_2 a1_3 a1_4 a1_5 = some r) :
  Calls Try.prog 41 #[.agg #[.int .i64 a0_0, .int .i64 a0_1, .int .i64 a0_2, .int .i64 a0_3, .int .i64 a0_4, .int .i64 a0_5], .agg #[.int .i64 a1_0, .int .i64 a1_1, .int .i64 a1_2, .int .i64 a1_3, .int .i64 a1_4, .int .i64 a1_5]] w fun e w' => e = .returned (.int .i64 r) ∧ Below w.heap.size w w' := by
 have hu62 := Try.underlying62
 have HB := am_ (Below.refl w.heap.size w)
 have H : ((cmp_Compare_int.f a0_0 a1_0).bind fun t249 => ((cmp_Compare_int.f a0_1 a1_1).bind fun t250 => ((cmp_Or_int.f k (([t249, t250] : List Int))).bind fun t254 => (some t254)))) = some r := h
 clear h
 replace H := Option.bind_eq_some_iff.mp H
 obtain ⟨t249, A30, H⟩ := H
 replace H : ((cmp_Compare_int.f a0_1 a1_1).bind fun t250 => ((cmp_Or_int.f k (([t249, t250] : List Int))).bind fun t254 => (some t254))) = some r := H
 have A3 := Aside0.mk A30
 clear A30
 replace H := Option.bind_eq_some_iff.mp H
 obtain ⟨t250, A40, H⟩ := H
 replace H : ((cmp_Or_int.f k (([t249, t250] : List Int))).bind fun t254 => (some t254)) = some r := H
 have A4 := Aside0.mk A40
 clear A40
 obtain ⟨y251, hy251⟩ : ∃ y_ : List Int, y_ = (([t249, t250] : List Int)) := ⟨_, rfl⟩
 replace H : ((cmp_Or_int.f k y251).bind fun t254 => (some t254)) = some r := by first | (rw [hy251]; with_reducible exact H) | (have H2_ := (Option.bind_some _ _).symm.trans H; rw [hy251]; with_reducible exact H2_) | (have H2_ := (Option.bind_some _ _).symm.trans H; with_reducible exact H2_) | with_reducible exact H | (rw [hy251]; exact H) | exact H
 have Ny251 := Aside0.mk hy251
 clear hy251
 replace H := Option.bind_eq_some_iff.mp H
 obtain ⟨t254, A50, H⟩ := H
 replace H : (some t254) = some r := H
 have A5 := Aside0.mk A50
 clear A50
 obtain rfl := Option.some.inj H
 go_enter Try.func41, Try.ntmps41
 try go_wp2_with (first | ((with_reducible refine gate_dst (N := 2) rfl ?_); refine bx_ (N := 2) (cs := #[.int .i64 a0_0, .int .i64 a0_1, .int .i64 a0_2, .int .i64 a0_3, .int .i64 a0_4, .int .i64 a0_5]) (t := 62) ?_; intro gb247 hg w6 hbox hb; have BK247 := am_ (hbox); have GW247 := gs_ hg HB.out; have GE247 := gs_ hg HB.out; replace HB := hs_ HB hb; clear hb hbox hg) | ((with_reducible refine gate_dst (N := 3) rfl ?_); refine bx_ (N := 3) (cs := #[.int .i64 a1_0, .int .i64 a1_1, .int .i64 a1_2, .int .i64 a1_3, .int .i64 a1_4, .int .i64 a1_5]) (t := 62) ?_; intro gb248 hg w7 hbox hb; have BK248 := am_ (hbox); have GW248 := gs_ hg HB.out; have GE248 := gs_ hg HB.out; replace HB := hs_ HB hb; have NB247_248 := nl_ hg BK247.out; have NB248_247 := ng_ hg BK247.out; replace BK247 := bs_ BK247 hb; clear hb hbox hg))
 replace BK247 := am_ (blk_drew BK247.out)
 replace BK248 := am_ (blk_drew BK248.out)
 replace HB := am_ (below_drew1 HB.out)
 refine start_ (n := 13) (S := fun w' => w'.cell? ⟨gb247, 0, none⟩ = some (.int .i64 a0_0) ∧ w'.cell? ⟨gb247, 1, none⟩ = some (.int .i64 a0_1) ∧ w'.cell? ⟨gb247, 2, none⟩ = some (.int .i64 a0_2) ∧ w'.cell? ⟨gb247, 3, none⟩ = some (.int .i64 a0_3) ∧ w'.cell? ⟨gb247, 4, none⟩ = some (.int .i64 a0_4) ∧ w'.cell? ⟨gb247, 5, none⟩ = some (.int .i64 a0_5) ∧ w'.cell? ⟨gb248, 0, none⟩ = some (.int .i64 a1_0) ∧ w'.cell? ⟨gb248, 1, none⟩ = some (.int .i64 a1_1) ∧ w'.cell? ⟨gb248, 2, none⟩ = some (.int .i64 a1_2) ∧ w'.cell? ⟨gb248, 3, none⟩ = some (.int .i64 a1_3) ∧ w'.cell? ⟨gb248, 4, none⟩ = some (.int .i64 a1_4) ∧ w'.cell? ⟨gb248, 5, none⟩ = some (.int .i64 a1_5)) (ds := []) #[false, false, false, false, false, false, false, false, false, false, false, false, false] (by kernel_rfl) rfl rfl ⟨cb_ BK247.out 0 rfl, cb_ BK247.out 1 rfl, cb_ BK247.out 2 rfl, cb_ BK247.out 3 rfl, cb_ BK247.out 4 rfl, cb_ BK247.out 5 rfl, cb_ BK248.out 0 rfl, cb_ BK248.out 1 rfl, cb_ BK248.out 2 rfl, cb_ BK248.out 3 rfl, cb_ BK248.out 4 rfl, cb_ BK248.out 5 rfl⟩ (fun hHeld => ?_); refine with_tabW impl_aggOrder.tab1 impl_aggOrder.bits1 (fun HT_ HW_ => ?_)
 generalize w7.drew = w8 at BK247 BK248 HB hHeld ⊢
 refine pu_ (i := 0) (N := some 5) #[true, false, false, false, false, false, false, false, false, false, false, false, false] HT_ ?_
 refine pu_ (i := 2) (N := some 7) #[true, false, true, false, false, false, false, false, false, false, false, false, false] HT_ ?_
 refine pu_ (i := 5) (N := some 10) #[true, false, true, false, false, true, false, false, false, false, false, false, false] HT_ ?_
 refine pu_ (i := 7) (N := some 12) #[true, false, true, false, false, true, false, true, false, false, false, false, false] HT_ ?_
 refine tk_ (i := 1) (N := some 6) #[true, true, true, false, false, true, false, true, false, false, false, false, false] HT_ HW_ hHeld ?_
 refine tk_ (i := 3) (N := some 8) #[true, true, true, true, false, true, false, true, false, false, false, false, false] HT_ HW_ hHeld ?_
 refine tk_ (i := 6) (N := some 11) #[true, true, true, true, false, true, true, true, false, false, false, false, false] HT_ HW_ hHeld ?_
 refine tk_ (i := 8) (N := some 13) #[true, true, true, true, false, true, true, true, true, false, false, false, false] HT_ HW_ hHeld ?_
 refine one_ (i := 4) (N := some 9) #[true, true, true, true, true, true, true, true, true, false, false, false, false] rfl rfl (one_of HT_.out (by kernel_rfl)) (by decide) (fun K hK => ?_)
 refine goes_ Try.func70 (by kernel_rfl) rfl #[.int .i64 a0_0, .int .i64 a1_0] (by rfl) rfl rfl ul_ ?_
 with_reducible refine (cmp_Compare_int.calls a0_0 a1_0 t249 _ A3.out).mono ?_
 rintro e w' ⟨rfl, ⟨nd, rfl⟩⟩
 refine ⟨_, rfl, ?_⟩
 refine hK.out _ _ ⟨cb_ BK247.out 0 rfl, cb_ BK247.out 1 rfl, cb_ BK247.out 2 rfl, cb_ BK247.out 3 rfl, cb_ BK247.out 4 rfl, cb_ BK247.out 5 rfl, cb_ BK248.out 0 rfl, cb_ BK248.out 1 rfl, cb_ BK248.out 2 rfl, cb_ BK248.out 3 rfl, cb_ BK248.out 4 rfl, cb_ BK248.out 5 rfl⟩ (fun hHeld => ?_)
 clear hK K
 refine norm_ (a' := ?_) ?_ ?_
 rotate_left
 ·
  show Act.put _ (some 9) _ = _
  simp only [Act.put, List.setIfInBounds_toArray, List.set_cons_zero, List.set_cons_succ, i64_w, i32_w]
  rfl
 refine one_ (i := 9) (N := some 14) #[true, true, true, true, true, true, true, true, true, true, false, false, false] rfl rfl (one_of HT_.out (by kernel_rfl)) (by decide) (fun K hK => ?_)
 refine goes_ Try.func70 (by kernel_rfl) rfl #[.int .i64 a0_1, .int .i64 a1_1] (by rfl) rfl rfl ul_ ?_
 with_reducible refine (cmp_Compare_int.calls a0_1 a1_1 t250 _ A4.out).mono ?_
 rintro e w' ⟨rfl, ⟨nd, rfl⟩⟩
 refine ⟨_, rfl, ?_⟩
 refine hK.out _ _ ⟨cb_ BK247.out 0 rfl, cb_ BK247.out 1 rfl, cb_ BK247.out 2 rfl, cb_ BK247.out 3 rfl, cb_ BK247.out 4 rfl, cb_ BK247.out 5 rfl, cb_ BK248.out 0 rfl, cb_ BK248.out 1 rfl, cb_ BK248.out 2 rfl, cb_ BK248.out 3 rfl, cb_ BK248.out 4 rfl, cb_ BK248.out 5 rfl⟩ (fun hHeld => ?_)
 clear hK K
 refine norm_ (a' := ?_) ?_ ?_
 rotate_left
 ·
  show Act.put _ (some 14) _ = _
  simp only [Act.put, List.setIfInBounds_toArray, List.set_cons_zero, List.set_cons_succ, i64_w, i32_w]
  rfl
 refine one_ (i := 10) (N := some 15) #[true, true, true, true, true, true, true, true, true, true, true, false, false] rfl rfl (one_of HT_.out (by kernel_rfl)) (by decide) (fun K hK => ?_)
 refine Kd.R_lit_step (Kd.int .i64) _ 3 ?hg (N := 15) ?hd (xs := ([t249, t250] : List Int)) (inner := [.int .i64 t249, .int .i64 t250]) (ok := fun _ => True) (okp := fun _ => True) ?hr ?hp (fun _ hk => hk) trivial (Below.refl _ _) (Nat.le_refl _) (by simp) ?_; (case hd => rfl); (case hg => rfl); (case hr => first | (go_simp; done) | (go_simp; rfl)); (case hp => exact (Reps.one (show Kd.M (Kd.int .i64) _ _ _ t249 [.int .i64 t249] from rfl) (Reps.one (show Kd.M (Kd.int .i64) _ _ _ t250 [.int .i64 t250] from rfl) (Reps.none _ _))))
 intro v252 w9 ho10 hb hg_ hnew_
 clear hg_ hnew_
 (first | rw [← Ny251.out] at ho10 | (simp only [Int.reduceToNat] at ho10; rw [← Ny251.out] at ho10))
 have HO253 := am_ (Kd.R_lower ho10 (below_size (ue_ HB.out)))
 replace BK247 := bs_ BK247 hb
 replace BK248 := bs_ BK248 hb
 replace HB := hs_ HB hb
 clear hb ho10
 obtain ⟨Ao11, co11, eo11⟩ := Kd.R_slice HO253.out
 (first | subst eo11 | (injection eo11 with f1_ f2_ f3_; have f4_ := f1_.symm; have f5_ := f3_.symm; clear f1_ f2_ f3_; subst f4_; subst f5_))
 refine hK.out _ _ ⟨cb_ BK247.out 0 rfl, cb_ BK247.out 1 rfl, cb_ BK247.out 2 rfl, cb_ BK247.out 3 rfl, cb_ BK247.out 4 rfl, cb_ BK247.out 5 rfl, cb_ BK248.out 0 rfl, cb_ BK248.out 1 rfl, cb_ BK248.out 2 rfl, cb_ BK248.out 3 rfl, cb_ BK248.out 4 rfl, cb_ BK248.out 5 rfl⟩ (fun hHeld => ?_)
 clear hK K
 refine norm_ (a' := ?_) ?_ ?_
 rotate_left
 ·
  show Act.put _ (some 15) _ = _
  simp only [Act.put, List.setIfInBounds_toArray, List.set_cons_zero, List.set_cons_succ, i64_w, i32_w]
  rfl
 refine one_ (i := 11) (N := some 16) #[true, true, true, true, true, true, true, true, true, true, true, true, false] rfl rfl (one_of HT_.out (by kernel_rfl)) (by decide) (fun K hK => ?_)
 refine goes_ Try.func69 (by kernel_rfl) rfl #[.slice Ao11 y251.length co11] (by rfl) rfl rfl ul_ ?_
 with_reducible refine (cmp_Or_int.calls k _ _ y251 t254 _ ?side1 ?side2 A5.out).mono ?_
 (case side1 => repeat (first | exact (Kd.R_reads' HO253.out).2.2 | (with_reducible refine Kd.C_alloc ?_ _) | (with_reducible refine Kd.C_drewN ?_ _) | (with_reducible refine Kd.C_drew ?_)))
 (case side2 => exact (Kd.R_reads' HO253.out).2.1)
 rintro e w' ⟨rfl, ⟨nd, rfl⟩⟩
 refine ⟨_, rfl, ?_⟩
 refine hK.out _ _ ⟨cb_ BK247.out 0 rfl, cb_ BK247.out 1 rfl, cb_ BK247.out 2 rfl, cb_ BK247.out 3 rfl, cb_ BK247.out 4 rfl, cb_ BK247.out 5 rfl, cb_ BK248.out 0 rfl, cb_ BK248.out 1 rfl, cb_ BK248.out 2 rfl, cb_ BK248.out 3 rfl, cb_ BK248.out 4 rfl, cb_ BK248.out 5 rfl⟩ (fun hHeld => ?_)
 clear hK K
 refine norm_ (a' := ?_) ?_ ?_
 rotate_left
 ·
  show Act.put _ (some 16) _ = _
  simp only [Act.put, List.setIfInBounds_toArray, List.set_cons_zero, List.set_cons_succ, i64_w, i32_w]
  rfl
 refine pu_ (i := 12) (N := some 4) #[true, true, true, true, true, true, true, true, true, true, true, true, true] HT_ ?_
 refine done_ (done_of HT_.out (by kernel_rfl)) ?_
 try go_wp2
 go_ret
 exact ⟨ew_, ue_ HB.out⟩

/-! ### impl_areSorted: function 64 -/
def impl_areSorted.l0 : Nat → List (S62) → Int → Option (Bool)
 | 0, _, _ => none
 | k + 1, x0, x3 => if x3 < (x0.length : Int) then (if 0 ≤ (wrap64 (x3 - 1)) then (if (wrap64 (x3 - 1)) < (x0.length : Int) then (if 0 ≤ x3 then ((impl_aggOrder.f k ((rd_T62 x0 (wrap64 (x3 - 1))).f0) ((rd_T62 x0 (wrap64 (x3 - 1))).f1) ((rd_T62 x0 (wrap64 (x3 - 1))).f2) ((rd_T62 x0 (wrap64 (x3 - 1))).f3) ((rd_T62 x0 (wrap64 (x3 - 1))).f4) ((rd_T62 x0 (wrap64 (x3 - 1))).f5) ((rd_T62 x0 x3).f0) ((rd_T62 x0 x3).f1) ((rd_T62 x0 x3).f2) ((rd_T62 x0 x3).f3) ((rd_T62 x0 x3).f4) ((rd_T62 x0 x3).f5)).bind fun t257 => (if t257 ≥ 0 then (some false) else (impl_areSorted.l0 k x0 (wrap64 (x3 + 1))))) else (none)) else (none)) else (none)) else (some true)
def impl_areSorted.f (k : Nat) (l0 : List (S62)) : Option (Bool) := impl_areSorted.l0 k l0 1
theorem impl_areSorted.mono_l : ∀ k, (∀ y0 y1, LeO (impl_areSorted.l0 k y0 y1) (impl_areSorted.l0 (k + 1) y0 y1))
 | 0 => fun _ _ r h => by simp [impl_areSorted.l0] at h
 | k + 1 => by
  have ih0 := impl_areSorted.mono_l k
  intro y0 y1
  unfold impl_areSorted.l0
  repeat' first
  | (with_reducible exact ih0 _ _)
  | (with_reducible exact impl_aggOrder.mono _ _ _ _ _ _ _ _ _ _ _ _ _)
  | (with_reducible exact LeO.refl _)
  | (with_reducible exact LeO.none _)
  | (with_reducible refine LeO.ite ?_ ?_)
  | (with_reducible refine LeO.bind ?_ (fun _ => ?_))
  | exact ih0 _ _
  | exact impl_aggOrder.mono _ _ _ _ _ _ _ _ _ _ _ _ _
  | exact LeO.none _
  | refine LeO.ite ?_ ?_
  | refine LeO.bind ?_ (fun _ => ?_)
theorem impl_areSorted.mono : ∀ a0 k, LeO (impl_areSorted.f k a0) (impl_areSorted.f (k + 1) a0) := by
 intro a0 k
 have ih0 := impl_areSorted.mono_l k
 unfold impl_areSorted.f
 repeat' first
   | (with_reducible exact ih0 _ _)
   | (with_reducible exact impl_aggOrder.mono _ _ _ _ _ _ _ _ _ _ _ _ _)
   | (with_reducible exact LeO.refl _)
   | (with_reducible exact LeO.none _)
   | (with_reducible refine LeO.ite ?_ ?_)
   | (with_reducible refine LeO.bind ?_ (fun _ => ?_))
   | exact ih0 _ _
   | exact impl_aggOrder.mono _ _ _ _ _ _ _ _ _ _ _ _ _
   | exact LeO.none _
   | refine LeO.ite ?_ ?_
   | refine LeO.bind ?_ (fun _ => ?_)
def impl_areSorted.T4 : Bool × List (List Nat × List Nat) := (true, [([], []), ([], []), ([1], [1]), ([0, 2], [0, 2]), ([3], [3]), ([], []), ([], []), ([5, 6], [5, 6]), ([7], [7]), ([4, 8], [4, 8]), ([9], [9])])
def impl_areSorted.B4 : List Nat := [0, 0, 2, 7, 15, 0, 0, 96, 224, 511, 1023]
theorem impl_areSorted.tab4 : rtab .any (opsOf Try.f64 4) = impl_areSorted.T4 := by kernel_rfl
theorem impl_areSorted.bits4 : waitsOk impl_areSorted.T4.2 impl_areSorted.B4 = true := by kernel_rfl
set_option maxHeartbeats 8000000 in
set_option maxRecDepth 100000 in
theorem impl_areSorted.calls (k : Nat) (A0 : Option Addr) (c0 : Nat) (l0 : List (S62)) (r : Bool) (w : World) (hr0 : Kd.C k62 w A0 l0.length l0) (hc0 : l0.length ≤ c0) (h : impl_areSorted.f k l0 = some r) :
  Calls Try.prog 64 #[.slice A0 l0.length c0] w fun e w' => e = .returned (.bool r) ∧ Below w.heap.size w w' := by
 have hu62 := Try.underlying62
 have HR0 := Aside0.mk hr0
 have HC0 := Aside0.mk hc0
 clear hr0 hc0
 have HB := am_ (Below.refl w.heap.size w)
 have H : (impl_areSorted.l0 k l0 1) = some r := h
 clear h
 have H' := Aside0.mk H
 clear H
 go_enter Try.func64, Try.ntmps64
 go_wp2
 (try simp only [Act.put, List.setIfInBounds_toArray, List.set_cons_zero, List.set_cons_succ])
 go_loopg [3] k (fun kq v3 w' => ∃ (x3_1 : Int), v3 = .int .i64 x3_1 ∧ Aside0 (impl_areSorted.l0 kq l0 x3_1 = some r) ∧ Aside0 (kq ≤ k) ∧ Aside0 (Below w.heap.size w w'))
 case atStart => exact ⟨(1), (by first | rfl | (simp; done) | (simp [*]; done)), H', ⟨Nat.le_refl _⟩, ⟨ue_ HB.out⟩⟩
 case round =>
  clear H'
  obtain ⟨x3_1, rfl, HA, HK1, HB⟩ := hrel
  cases gk with
  | zero => exact absurd HA.out (by simp [impl_areSorted.l0])
  | succ k1 =>
   have H := HA.out
   clear HA
   simp only [impl_areSorted.l0] at H
   by_cases c2 : x3_1 < (l0.length : Int)
   ·
    rw [if_pos c2] at H
    have c2b0 : decide (x3_1 < (l0.length : Int)) = true := decide_eq_true c2
    clear c2
    obtain ⟨ji3, hji3⟩ : ∃ j_ : Int, (wrap64 (x3_1 - 1)) = j_ := ⟨_, rfl⟩
    replace H : (if 0 ≤ (ji3) then (if (ji3) < (l0.length : Int) then (if 0 ≤ x3_1 then ((impl_aggOrder.f k1 ((rd_T62 l0 (ji3)).f0) ((rd_T62 l0 (ji3)).f1) ((rd_T62 l0 (ji3)).f2) ((rd_T62 l0 (ji3)).f3) ((rd_T62 l0 (ji3)).f4) ((rd_T62 l0 (ji3)).f5) ((rd_T62 l0 x3_1).f0) ((rd_T62 l0 x3_1).f1) ((rd_T62 l0 x3_1).f2) ((rd_T62 l0 x3_1).f3) ((rd_T62 l0 x3_1).f4) ((rd_T62 l0 x3_1).f5)).bind fun t257 => (if t257 ≥ 0 then (some false) else (impl_areSorted.l0 k1 l0 (wrap64 (x3_1 + 1))))) else (none)) else (none)) else (none)) = some r := by first | (rw [hji3] at H; exact H) | (simp only [hji3] at H ⊢; exact H)
    have hji3w : (IntKind.i64.wrap (x3_1 - 1)) = ji3 := (i64_w _).trans hji3
    by_cases c4 : 0 ≤ (ji3)
    ·
     rw [if_pos c4] at H
     have c4b0 : decide (0 ≤ (ji3)) = true := decide_eq_true c4
     clear c4
     by_cases c5 : (ji3) < (l0.length : Int)
     ·
      rw [if_pos c5] at H
      have c5b0 : decide ((ji3) < (l0.length : Int)) = true := decide_eq_true c5
      clear c5
      by_cases c6 : 0 ≤ x3_1
      ·
       rw [if_pos c6] at H
       have c6b0 : decide (0 ≤ x3_1) = true := decide_eq_true c6
       clear c6
       replace H := Option.bind_eq_some_iff.mp H
       obtain ⟨t257, A70, H⟩ := H
       replace H : (if t257 ≥ 0 then (some false) else (impl_areSorted.l0 k1 l0 (wrap64 (x3_1 + 1)))) = some r := H
       have A7 := Aside0.mk A70
       clear A70
       by_cases c8 : t257 ≥ 0
       ·
        rw [if_pos c8] at H
        have c8b0 : decide (0 ≤ t257) = true := decide_eq_true c8
        clear c8
        obtain rfl := Option.some.inj H
        try go_wp2
        replace HB := am_ (below_drew1 HB.out)
        have p255 : 0 ≤ ((ji3) : Int) := of_decide_eq_true ua_
        have q255 : (ji3) < (l0.length : Int) := of_decide_eq_true ua_
        obtain ⟨ad255, e255, hx255_0, hx255_1, hx255_2, hx255_3, hx255_4, hx255_5⟩ := at_T62 HR0.out (ji3) p255 q255
        have hw255_5 := hx255_5
        have hw255_4 := hx255_4
        have hw255_3 := hx255_3
        have hw255_2 := hx255_2
        have hw255_1 := hx255_1
        have hw255_0 := hx255_0
        cases e255
        replace hx255_0 := bc_ HB.out hx255_0
        replace hx255_1 := bc_ HB.out hx255_1
        replace hx255_2 := bc_ HB.out hx255_2
        replace hx255_3 := bc_ HB.out hx255_3
        replace hx255_4 := bc_ HB.out hx255_4
        replace hx255_5 := bc_ HB.out hx255_5
        replace p255 := eq_true p255
        replace q255 := eq_true q255
        have p256 : 0 ≤ (x3_1 : Int) := of_decide_eq_true ua_
        have q256 : x3_1 < (l0.length : Int) := of_decide_eq_true ua_
        obtain ⟨ad256, e256, hx256_0, hx256_1, hx256_2, hx256_3, hx256_4, hx256_5⟩ := at_T62 HR0.out x3_1 p256 q256
        have hw256_5 := hx256_5
        have hw256_4 := hx256_4
        have hw256_3 := hx256_3
        have hw256_2 := hx256_2
        have hw256_1 := hx256_1
        have hw256_0 := hx256_0
        obtain rfl : ad255 = ad256 := (by injection e256)
        replace hx256_0 := bc_ HB.out hx256_0
        replace hx256_1 := bc_ HB.out hx256_1
        replace hx256_2 := bc_ HB.out hx256_2
        replace hx256_3 := bc_ HB.out hx256_3
        replace hx256_4 := bc_ HB.out hx256_4
        replace hx256_5 := bc_ HB.out hx256_5
        replace p256 := eq_true p256
        replace q256 := eq_true q256
        refine start_ (n := 11) (S := fun w' => w'.cell? (ad255.add (((ji3)).toNat * 6)) = some (.int .i64 ((rd_T62 l0 (ji3)).f0)) ∧ w'.cell? ⟨(ad255.add (((ji3)).toNat * 6)).block, (ad255.add (((ji3)).toNat * 6)).off + 1, none⟩ = some (.int .i64 ((rd_T62 l0 (ji3)).f1)) ∧ w'.cell? ⟨(ad255.add (((ji3)).toNat * 6)).block, (ad255.add (((ji3)).toNat * 6)).off + 2, none⟩ = some (.int .i64 ((rd_T62 l0 (ji3)).f2)) ∧ w'.cell? ⟨(ad255.add (((ji3)).toNat * 6)).block, (ad255.add (((ji3)).toNat * 6)).off + 3, none⟩ = some (.int .i64 ((rd_T62 l0 (ji3)).f3)) ∧ w'.cell? ⟨(ad255.add (((ji3)).toNat * 6)).block, (ad255.add (((ji3)).toNat * 6)).off + 4, none⟩ = some (.int .i64 ((rd_T62 l0 (ji3)).f4)) ∧ w'.cell? ⟨(ad255.add (((ji3)).toNat * 6)).block, (ad255.add (((ji3)).toNat * 6)).off + 5, none⟩ = some (.int .i64 ((rd_T62 l0 (ji3)).f5)) ∧ w'.cell? (ad255.add ((x3_1).toNat * 6)) = some (.int .i64 ((rd_T62 l0 x3_1).f0)) ∧ w'.cell? ⟨(ad255.add ((x3_1).toNat * 6)).block, (ad255.add ((x3_1).toNat * 6)).off + 1, none⟩ = some (.int .i64 ((rd_T62 l0 x3_1).f1)) ∧ w'.cell? ⟨(ad255.add ((x3_1).toNat * 6)).block, (ad255.add ((x3_1).toNat * 6)).off + 2, none⟩ = some (.int .i64 ((rd_T62 l0 x3_1).f2)) ∧ w'.cell? ⟨(ad255.add ((x3_1).toNat * 6)).block, (ad255.add ((x3_1).toNat * 6)).off + 3, none⟩ = some (.int .i64 ((rd_T62 l0 x3_1).f3)) ∧ w'.cell? ⟨(ad255.add ((x3_1).toNat * 6)).block, (ad255.add ((x3_1).toNat * 6)).off + 4, none⟩ = some (.int .i64 ((rd_T62 l0 x3_1).f4)) ∧ w'.cell? ⟨(ad255.add ((x3_1).toNat * 6)).block, (ad255.add ((x3_1).toNat * 6)).off + 5, none⟩ = some (.int .i64 ((rd_T62 l0 x3_1).f5))) (ds := []) #[false, false, false, false, false, false, false, false, false, false, false] (by kernel_rfl) rfl rfl ⟨bc_ HB.out hw255_0, bc_ HB.out hw255_1, bc_ HB.out hw255_2, bc_ HB.out hw255_3, bc_ HB.out hw255_4, bc_ HB.out hw255_5, bc_ HB.out hw256_0, bc_ HB.out hw256_1, bc_ HB.out hw256_2, bc_ HB.out hw256_3, bc_ HB.out hw256_4, bc_ HB.out hw256_5⟩ (fun hHeld => ?_); refine with_tabW impl_areSorted.tab4 impl_areSorted.bits4 (fun HT_ HW_ => ?_)
        generalize wr.drew = w9 at HB hx255_0 hx255_1 hx255_2 hx255_3 hx255_4 hx255_5 hx256_0 hx256_1 hx256_2 hx256_3 hx256_4 hx256_5 hHeld ⊢
        refine pu_ (i := 0) (N := some 10) #[true, false, false, false, false, false, false, false, false, false, false] HT_ ?_
        refine pu_ (i := 1) (N := some 11) #[true, true, false, false, false, false, false, false, false, false, false] HT_ ?_
        refine pu_ (i := 2) (N := some 12) #[true, true, true, false, false, false, false, false, false, false, false] HT_ ?_
        refine pu_ (i := 3) (N := some 13) #[true, true, true, true, false, false, false, false, false, false, false] HT_ ?_
        refine pu_ (i := 5) (N := some 15) #[true, true, true, true, false, true, false, false, false, false, false] HT_ ?_
        refine pu_ (i := 6) (N := some 16) #[true, true, true, true, false, true, true, false, false, false, false] HT_ ?_
        refine pu_ (i := 7) (N := some 17) #[true, true, true, true, false, true, true, true, false, false, false] HT_ ?_
        refine tk_ (i := 4) (N := some 14) #[true, true, true, true, true, true, true, true, false, false, false] HT_ HW_ hHeld ?_
        refine tk_ (i := 8) (N := some 18) #[true, true, true, true, true, true, true, true, true, false, false] HT_ HW_ hHeld ?_
        refine one_ (i := 9) (N := some 19) #[true, true, true, true, true, true, true, true, true, true, false] rfl rfl (one_of HT_.out (by kernel_rfl)) (by decide) (fun K hK => ?_)
        refine goes_ Try.func41 (by kernel_rfl) rfl #[.agg #[.int .i64 ((rd_T62 l0 (ji3)).f0), .int .i64 ((rd_T62 l0 (ji3)).f1), .int .i64 ((rd_T62 l0 (ji3)).f2), .int .i64 ((rd_T62 l0 (ji3)).f3), .int .i64 ((rd_T62 l0 (ji3)).f4), .int .i64 ((rd_T62 l0 (ji3)).f5)], .agg #[.int .i64 ((rd_T62 l0 x3_1).f0), .int .i64 ((rd_T62 l0 x3_1).f1), .int .i64 ((rd_T62 l0 x3_1).f2), .int .i64 ((rd_T62 l0 x3_1).f3), .int .i64 ((rd_T62 l0 x3_1).f4), .int .i64 ((rd_T62 l0 x3_1).f5)]] (by rfl) rfl rfl (by (try simp only [List.map_toArray, List.map_cons, List.map_nil]); first | done | (simp only [hji3]; rfl) | rfl | (simp only [List.length_drop, List.length_take]; rfl)) ?_
        with_reducible refine (impl_aggOrder.calls k1 ((rd_T62 l0 (ji3)).f0) ((rd_T62 l0 (ji3)).f1) ((rd_T62 l0 (ji3)).f2) ((rd_T62 l0 (ji3)).f3) ((rd_T62 l0 (ji3)).f4) ((rd_T62 l0 (ji3)).f5) ((rd_T62 l0 x3_1).f0) ((rd_T62 l0 x3_1).f1) ((rd_T62 l0 x3_1).f2) ((rd_T62 l0 x3_1).f3) ((rd_T62 l0 x3_1).f4) ((rd_T62 l0 x3_1).f5) t257 _ A7.out).mono ?_
        rintro e w10 ⟨rfl, hb⟩
        refine ⟨_, rfl, ?_⟩
        replace HB := hs_ HB hb
        (try clear hb)
        (try clear hb2)
        (try clear hk)
        (try clear hi)
        refine hK.out _ _ ⟨bc_ HB.out hw255_0, bc_ HB.out hw255_1, bc_ HB.out hw255_2, bc_ HB.out hw255_3, bc_ HB.out hw255_4, bc_ HB.out hw255_5, bc_ HB.out hw256_0, bc_ HB.out hw256_1, bc_ HB.out hw256_2, bc_ HB.out hw256_3, bc_ HB.out hw256_4, bc_ HB.out hw256_5⟩ (fun hHeld => ?_)
        clear hK K
        refine norm_ (a' := ?_) ?_ ?_
        rotate_left
        ·
         show Act.put _ (some 19) _ = _
         simp only [Act.put, List.setIfInBounds_toArray, List.set_cons_zero, List.set_cons_succ, i64_w, i32_w]
         rfl
        refine pu_ (i := 10) (N := some 20) #[true, true, true, true, true, true, true, true, true, true, true] HT_ ?_
        refine done_ (done_of HT_.out (by kernel_rfl)) ?_
        try go_wp2
        go_ret
        exact ⟨by first | rfl | (simp [errW_none, errW_some] <;> rfl) | (simp only [← hji3]; first | rfl | (simp [errW_none, errW_some] <;> rfl)) | (simp [*, errW_none, errW_some] <;> rfl), ue_ HB.out⟩
       rw [if_neg c8] at H
       have c8b0 : decide (0 ≤ t257) = false := decide_eq_false c8
       clear c8
       have H' := Aside0.mk H
       clear H
       try go_wp2
       replace HB := am_ (below_drew1 HB.out)
       have p255 : 0 ≤ ((ji3) : Int) := of_decide_eq_true ua_
       have q255 : (ji3) < (l0.length : Int) := of_decide_eq_true ua_
       obtain ⟨ad255, e255, hx255_0, hx255_1, hx255_2, hx255_3, hx255_4, hx255_5⟩ := at_T62 HR0.out (ji3) p255 q255
       have hw255_5 := hx255_5
       have hw255_4 := hx255_4
       have hw255_3 := hx255_3
       have hw255_2 := hx255_2
       have hw255_1 := hx255_1
       have hw255_0 := hx255_0
       cases e255
       replace hx255_0 := bc_ HB.out hx255_0
       replace hx255_1 := bc_ HB.out hx255_1
       replace hx255_2 := bc_ HB.out hx255_2
       replace hx255_3 := bc_ HB.out hx255_3
       replace hx255_4 := bc_ HB.out hx255_4
       replace hx255_5 := bc_ HB.out hx255_5
       replace p255 := eq_true p255
       replace q255 := eq_true q255
       have p256 : 0 ≤ (x3_1 : Int) := of_decide_eq_true ua_
       have q256 : x3_1 < (l0.length : Int) := of_decide_eq_true ua_
       obtain ⟨ad256, e256, hx256_0, hx256_1, hx256_2, hx256_3, hx256_4, hx256_5⟩ := at_T62 HR0.out x3_1 p256 q256
       have hw256_5 := hx256_5
       have hw256_4 := hx256_4
       have hw256_3 := hx256_3
       have hw256_2 := hx256_2
       have hw256_1 := hx256_1
       have hw256_0 := hx256_0
       obtain rfl : ad255 = ad256 := (by injection e256)
       replace hx256_0 := bc_ HB.out hx256_0
       replace hx256_1 := bc_ HB.out hx256_1
       replace hx256_2 := bc_ HB.out hx256_2
       replace hx256_3 := bc_ HB.out hx256_3
       replace hx256_4 := bc_ HB.out hx256_4
       replace hx256_5 := bc_ HB.out hx256_5
       replace p256 := eq_true p256
       replace q256 := eq_true q256
       refine start_ (n := 11) (S := fun w' => w'.cell? (ad255.add (((ji3)).toNat * 6)) = some (.int .i64 ((rd_T62 l0 (ji3)).f0)) ∧ w'.cell? ⟨(ad255.add (((ji3)).toNat * 6)).block, (ad255.add (((ji3)).toNat * 6)).off + 1, none⟩ = some (.int .i64 ((rd_T62 l0 (ji3)).f1)) ∧ w'.cell? ⟨(ad255.add (((ji3)).toNat * 6)).block, (ad255.add (((ji3)).toNat * 6)).off + 2, none⟩ = some (.int .i64 ((rd_T62 l0 (ji3)).f2)) ∧ w'.cell? ⟨(ad255.add (((ji3)).toNat * 6)).block, (ad255.add (((ji3)).toNat * 6)).off + 3, none⟩ = some (.int .i64 ((rd_T62 l0 (ji3)).f3)) ∧ w'.cell? ⟨(ad255.add (((ji3)).toNat * 6)).block, (ad255.add (((ji3)).toNat * 6)).off + 4, none⟩ = some (.int .i64 ((rd_T62 l0 (ji3)).f4)) ∧ w'.cell? ⟨(ad255.add (((ji3)).toNat * 6)).block, (ad255.add (((ji3)).toNat * 6)).off + 5, none⟩ = some (.int .i64 ((rd_T62 l0 (ji3)).f5)) ∧ w'.cell? (ad255.add ((x3_1).toNat * 6)) = some (.int .i64 ((rd_T62 l0 x3_1).f0)) ∧ w'.cell? ⟨(ad255.add ((x3_1).toNat * 6)).block, (ad255.add ((x3_1).toNat * 6)).off + 1, none⟩ = some (.int .i64 ((rd_T62 l0 x3_1).f1)) ∧ w'.cell? ⟨(ad255.add ((x3_1).toNat * 6)).block, (ad255.add ((x3_1).toNat * 6)).off + 2, none⟩ = some (.int .i64 ((rd_T62 l0 x3_1).f2)) ∧ w'.cell? ⟨(ad255.add ((x3_1).toNat * 6)).block, (ad255.add ((x3_1).toNat * 6)).off + 3, none⟩ = some (.int .i64 ((rd_T62 l0 x3_1).f3)) ∧ w'.cell? ⟨(ad255.add ((x3_1).toNat * 6)).block, (ad255.add ((x3_1).toNat * 6)).off + 4, none⟩ = some (.int .i64 ((rd_T62 l0 x3_1).f4)) ∧ w'.cell? ⟨(ad255.add ((x3_1).toNat * 6)).block, (ad255.add ((x3_1).toNat * 6)).off + 5, none⟩ = some (.int .i64 ((rd_T62 l0 x3_1).f5))) (ds := []) #[false, false, false, false, false, false, false, false, false, false, false] (by kernel_rfl) rfl rfl ⟨bc_ HB.out hw255_0, bc_ HB.out hw255_1, bc_ HB.out hw255_2, bc_ HB.out hw255_3, bc_ HB.out hw255_4, bc_ HB.out hw255_5, bc_ HB.out hw256_0, bc_ HB.out hw256_1, bc_ HB.out hw256_2, bc_ HB.out hw256_3, bc_ HB.out hw256_4, bc_ HB.out hw256_5⟩ (fun hHeld => ?_); refine with_tabW impl_areSorted.tab4 impl_areSorted.bits4 (fun HT_ HW_ => ?_)
       generalize wr.drew = w11 at HB hx255_0 hx255_1 hx255_2 hx255_3 hx255_4 hx255_5 hx256_0 hx256_1 hx256_2 hx256_3 hx256_4 hx256_5 hHeld ⊢
       refine pu_ (i := 0) (N := some 10) #[true, false, false, false, false, false, false, false, false, false, false] HT_ ?_
       refine pu_ (i := 1) (N := some 11) #[true, true, false, false, false, false, false, false, false, false, false] HT_ ?_
       refine pu_ (i := 2) (N := some 12) #[true, true, true, false, false, false, false, false, false, false, false] HT_ ?_
       refine pu_ (i := 3) (N := some 13) #[true, true, true, true, false, false, false, false, false, false, false] HT_ ?_
       refine pu_ (i := 5) (N := some 15) #[true, true, true, true, false, true, false, false, false, false, false] HT_ ?_
       refine pu_ (i := 6) (N := some 16) #[true, true, true, true, false, true, true, false, false, false, false] HT_ ?_
       refine pu_ (i := 7) (N := some 17) #[true, true, true, true, false, true, true, true, false, false, false] HT_ ?_
       refine tk_ (i := 4) (N := some 14) #[true, true, true, true, true, true, true, true, false, false, false] HT_ HW_ hHeld ?_
       refine tk_ (i := 8) (N := some 18) #[true, true, true, true, true, true, true, true, true, false, false] HT_ HW_ hHeld ?_
       refine one_ (i := 9) (N := some 19) #[true, true, true, true, true, true, true, true, true, true, false] rfl rfl (one_of HT_.out (by kernel_rfl)) (by decide) (fun K hK => ?_)
       refine goes_ Try.func41 (by kernel_rfl) rfl #[.agg #[.int .i64 ((rd_T62 l0 (ji3)).f0), .int .i64 ((rd_T62 l0 (ji3)).f1), .int .i64 ((rd_T62 l0 (ji3)).f2), .int .i64 ((rd_T62 l0 (ji3)).f3), .int .i64 ((rd_T62 l0 (ji3)).f4), .int .i64 ((rd_T62 l0 (ji3)).f5)], .agg #[.int .i64 ((rd_T62 l0 x3_1).f0), .int .i64 ((rd_T62 l0 x3_1).f1), .int .i64 ((rd_T62 l0 x3_1).f2), .int .i64 ((rd_T62 l0 x3_1).f3), .int .i64 ((rd_T62 l0 x3_1).f4), .int .i64 ((rd_T62 l0 x3_1).f5)]] (by rfl) rfl rfl (by (try simp only [List.map_toArray, List.map_cons, List.map_nil]); first | done | (simp only [hji3]; rfl) | rfl | (simp only [List.length_drop, List.length_take]; rfl)) ?_
       with_reducible refine (impl_aggOrder.calls k1 ((rd_T62 l0 (ji3)).f0) ((rd_T62 l0 (ji3)).f1) ((rd_T62 l0 (ji3)).f2) ((rd_T62 l0 (ji3)).f3) ((rd_T62 l0 (ji3)).f4) ((rd_T62 l0 (ji3)).f5) ((rd_T62 l0 x3_1).f0) ((rd_T62 l0 x3_1).f1) ((rd_T62 l0 x3_1).f2) ((rd_T62 l0 x3_1).f3) ((rd_T62 l0 x3_1).f4) ((rd_T62 l0 x3_1).f5) t257 _ A7.out).mono ?_
       rintro e w12 ⟨rfl, hb⟩
       refine ⟨_, rfl, ?_⟩
       replace HB := hs_ HB hb
       (try clear hb)
       (try clear hb2)
       (try clear hk)
       (try clear hi)
       refine hK.out _ _ ⟨bc_ HB.out hw255_0, bc_ HB.out hw255_1, bc_ HB.out hw255_2, bc_ HB.out hw255_3, bc_ HB.out hw255_4, bc_ HB.out hw255_5, bc_ HB.out hw256_0, bc_ HB.out hw256_1, bc_ HB.out hw256_2, bc_ HB.out hw256_3, bc_ HB.out hw256_4, bc_ HB.out hw256_5⟩ (fun hHeld => ?_)
       clear hK K
       refine norm_ (a' := ?_) ?_ ?_
       rotate_left
       ·
        show Act.put _ (some 19) _ = _
        simp only [Act.put, List.setIfInBounds_toArray, List.set_cons_zero, List.set_cons_succ, i64_w, i32_w]
        rfl
       refine pu_ (i := 10) (N := some 20) #[true, true, true, true, true, true, true, true, true, true, true] HT_ ?_
       refine done_ (done_of HT_.out (by kernel_rfl)) ?_
       try go_wp2
       go_roundg k1
       case measure => have := HK1.out; omega
       case rel => exact ⟨(wrap64 (x3_1 + 1)), (by first | rfl | (simp; done) | (simp [*]; done)), H', ⟨by have := HK1.out; omega⟩, ⟨ue_ HB.out⟩⟩
      rw [if_neg c6] at H
      exact absurd H (by simp)
     rw [if_neg c5] at H
     exact absurd H (by simp)
    rw [if_neg c4] at H
    exact absurd H (by simp)
   rw [if_neg c2] at H
   have c2b0 : decide (x3_1 < (l0.length : Int)) = false := decide_eq_false c2
   clear c2
   obtain rfl := Option.some.inj H
   go_wp2
   go_ret
   exact ⟨ew_, ue_ HB.out⟩

/-! ### impl_isMark: function 65 -/
def impl_isMark.f (a0 : Int) : Option (Bool) := (impl_within.f a0 (-1) 1000000).bind fun t258 => (some t258)
set_option maxHeartbeats 8000000 in
set_option maxRecDepth 100000 in
theorem impl_isMark.calls (a0 : Int) (r : Bool) (w : World) (h : impl_isMark.f a0 = some r) :
  Calls Try.prog 65 #[.int .i64 a0] w fun e w' => e = .returned (.bool r) ∧ Drawn0 w w' := by
 have H : ((impl_within.f a0 (-1) 1000000).bind fun t258 => (some t258)) = some r := h
 clear h
 replace H := Option.bind_eq_some_iff.mp H
 obtain ⟨t258, A20, H⟩ := H
 replace H : (some t258) = some r := H
 have A2 := Aside0.mk A20
 clear A20
 obtain rfl := Option.some.inj H
 go_enter Try.func65, Try.ntmps65
 go_wp2_with (first | ((with_reducible refine gate_callee (f := 36) rfl ?_); refine goesL_ (some 4) rfl rfl Try.func36 (by kernel_rfl) rfl #[.int .i64 a0, .int .i64 (-1), .int .i64 1000000] rfl ul_ ?_; (with_reducible refine (impl_within.calls a0 (-1) 1000000 t258 _ A2.out).mono ?_); rintro e w' ⟨rfl, ⟨nd, rfl⟩⟩; refine ⟨_, rfl, ?_⟩))
 go_ret
 exact ⟨by first | rfl | (simp; done) | (simp [*]; done), by repeat (first | exact Drawn0.refl _ | apply Drawn0.step)⟩

/-! ### impl_isMany: function 66 -/
def impl_isMany.f (a0 : Int) : Option (Bool) := (impl_within.f a0 0 1000000000).bind fun t259 => (some t259)
set_option maxHeartbeats 8000000 in
set_option maxRecDepth 100000 in
theorem impl_isMany.calls (a0 : Int) (r : Bool) (w : World) (h : impl_isMany.f a0 = some r) :
  Calls Try.prog 66 #[.int .i64 a0] w fun e w' => e = .returned (.bool r) ∧ Drawn0 w w' := by
 have H : ((impl_within.f a0 0 1000000000).bind fun t259 => (some t259)) = some r := h
 clear h
 replace H := Option.bind_eq_some_iff.mp H
 obtain ⟨t259, A20, H⟩ := H
 replace H : (some t259) = some r := H
 have A2 := Aside0.mk A20
 clear A20
 obtain rfl := Option.some.inj H
 go_enter Try.func66, Try.ntmps66
 go_wp2_with (first | ((with_reducible refine gate_callee (f := 36) rfl ?_); refine goesL_ (some 4) rfl rfl Try.func36 (by kernel_rfl) rfl #[.int .i64 a0, .int .i64 0, .int .i64 1000000000] rfl ul_ ?_; (with_reducible refine (impl_within.calls a0 0 1000000000 t259 _ A2.out).mono ?_); rintro e w' ⟨rfl, ⟨nd, rfl⟩⟩; refine ⟨_, rfl, ?_⟩))
 go_ret
 exact ⟨by first | rfl | (simp; done) | (simp [*]; done), by repeat (first | exact Drawn0.refl _ | apply Drawn0.step)⟩

/-! ### impl_ShardOk: function 34 -/
def impl_ShardOk.f (k : Nat) (l0_0 : List (S62)) (a0_1 : Int) (a0_2 : Int) (a0_3 : Int) : Option (Bool) := if (l0_0.length : Int) ≤ 40 then ((impl_areAggs.f l0_0).bind fun t261 => (if t261 = true then ((impl_areSorted.f k l0_0).bind fun t262 => (if t262 = true then ((impl_isMark.f a0_1).bind fun t263 => (if t263 = true then ((impl_isMany.f a0_2).bind fun t264 => (if t264 = true then ((impl_isMany.f a0_3).bind fun t265 => (some t265)) else (some false))) else (some false))) else (some false))) else (some false))) else (some false)
theorem impl_ShardOk.mono : ∀ a0 a1 a2 a3 k, LeO (impl_ShardOk.f k a0 a1 a2 a3) (impl_ShardOk.f (k + 1) a0 a1 a2 a3) := by
 intro a0 a1 a2 a3 k
 unfold impl_ShardOk.f
 repeat' first
   | (with_reducible exact impl_areSorted.mono _ _)
   | (with_reducible exact LeO.refl _)
   | (with_reducible exact LeO.none _)
   | (with_reducible refine LeO.ite ?_ ?_)
   | (with_reducible refine LeO.bind ?_ (fun _ => ?_))
   | exact impl_areSorted.mono _ _
   | exact LeO.none _
   | refine LeO.ite ?_ ?_
   | refine LeO.bind ?_ (fun _ => ?_)
set_option maxHeartbeats 8000000 in
set_option maxRecDepth 100000 in
theorem impl_ShardOk.calls (k : Nat) (A0_0 : Option Addr) (c0_0 : Nat) (l0_0 : List (S62)) (a0_1 : Int) (a0_2 : Int) (a0_3 : Int) (r : Bool) (w : World) (hr0_0 : Kd.C k62 w A0_0 l0_0.length l0_0) (hc0_0 : l0_0.length ≤ c0_0) (h : impl_ShardOk.f k l0_0 a0_1 a0_2 a0_3 = some r) :
  Calls Try.prog 34 #[.agg #[.slice A0_0 l0_0.length c0_0, .int .i64 a0_1, .int .i64 a0_2, .int .i64 a0_3]] w fun e w' => e = .returned (.bool r) ∧ Below w.heap.size w w' := by
 have hu30 := Try.underlying30
 have HR0_0 := Aside0.mk hr0_0
 have HC0_0 := Aside0.mk hc0_0
 clear hr0_0 hc0_0
 have HB := am_ (Below.refl w.heap.size w)
 have H : (if (l0_0.length : Int) ≤ 40 then ((impl_areAggs.f l0_0).bind fun t261 => (if t261 = true then ((impl_areSorted.f k l0_0).bind fun t262 => (if t262 = true then ((impl_isMark.f a0_1).bind fun t263 => (if t263 = true then ((impl_isMany.f a0_2).bind fun t264 => (if t264 = true then ((impl_isMany.f a0_3).bind fun t265 => (some t265)) else (some false))) else (some false))) else (some false))) else (some false))) else (some false)) = some r := h
 clear h
 by_cases c2 : (l0_0.length : Int) ≤ 40
 ·
  rw [if_pos c2] at H
  have c2b0 : decide ((l0_0.length : Int) ≤ 40) = true := decide_eq_true c2
  have c2b1 : decide (l0_0.length ≤ 40) = true := decide_eq_true (by omega)
  clear c2
  replace H := Option.bind_eq_some_iff.mp H
  obtain ⟨t261, A30, H⟩ := H
  replace H : (if t261 = true then ((impl_areSorted.f k l0_0).bind fun t262 => (if t262 = true then ((impl_isMark.f a0_1).bind fun t263 => (if t263 = true then ((impl_isMany.f a0_2).bind fun t264 => (if t264 = true then ((impl_isMany.f a0_3).bind fun t265 => (some t265)) else (some false))) else (some false))) else (some false))) else (some false)) = some r := H
  have A3 := Aside0.mk A30
  clear A30
  by_cases c4 : t261 = true
  ·
   subst c4
   have H1 : ((impl_areSorted.f k l0_0).bind fun t262 => (if t262 = true then ((impl_isMark.f a0_1).bind fun t263 => (if t263 = true then ((impl_isMany.f a0_2).bind fun t264 => (if t264 = true then ((impl_isMany.f a0_3).bind fun t265 => (some t265)) else (some false))) else (some false))) else (some false))) = some r := by rw [if_pos rfl] at H; exact H
   clear H
   have H := H1
   clear H1
   replace H := Option.bind_eq_some_iff.mp H
   obtain ⟨t262, A50, H⟩ := H
   replace H : (if t262 = true then ((impl_isMark.f a0_1).bind fun t263 => (if t263 = true then ((impl_isMany.f a0_2).bind fun t264 => (if t264 = true then ((impl_isMany.f a0_3).bind fun t265 => (some t265)) else (some false))) else (some false))) else (some false)) = some r := H
   have A5 := Aside0.mk A50
   clear A50
   by_cases c6 : t262 = true
   ·
    subst c6
    have H1 : ((impl_isMark.f a0_1).bind fun t263 => (if t263 = true then ((impl_isMany.f a0_2).bind fun t264 => (if t264 = true then ((impl_isMany.f a0_3).bind fun t265 => (some t265)) else (some false))) else (some false))) = some r := by rw [if_pos rfl] at H; exact H
    clear H
    have H := H1
    clear H1
    replace H := Option.bind_eq_some_iff.mp H
    obtain ⟨t263, A70, H⟩ := H
    replace H : (if t263 = true then ((impl_isMany.f a0_2).bind fun t264 => (if t264 = true then ((impl_isMany.f a0_3).bind fun t265 => (some t265)) else (some false))) else (some false)) = some r := H
    have A7 := Aside0.mk A70
    clear A70
    by_cases c8 : t263 = true
    ·
     subst c8
     have H1 : ((impl_isMany.f a0_2).bind fun t264 => (if t264 = true then ((impl_isMany.f a0_3).bind fun t265 => (some t265)) else (some false))) = some r := by rw [if_pos rfl] at H; exact H
     clear H
     have H := H1
     clear H1
     replace H := Option.bind_eq_some_iff.mp H
     obtain ⟨t264, A90, H⟩ := H
     replace H : (if t264 = true then ((impl_isMany.f a0_3).bind fun t265 => (some t265)) else (some false)) = some r := H
     have A9 := Aside0.mk A90
     clear A90
     by_cases c10 : t264 = true
     ·
      subst c10
      have H1 : ((impl_isMany.f a0_3).bind fun t265 => (some t265)) = some r := by rw [if_pos rfl] at H; exact H
      clear H
      have H := H1
      clear H1
      replace H := Option.bind_eq_some_iff.mp H
      obtain ⟨t265, A110, H⟩ := H
      replace H : (some t265) = some r := H
      have A11 := Aside0.mk A110
      clear A110
      obtain rfl := Option.some.inj H
      go_enter Try.func34, Try.ntmps34
      go_wp2_with (first | ((with_reducible refine gate_dst (N := 1) rfl ?_); refine bx_ (N := 1) (cs := #[.slice A0_0 l0_0.length c0_0, .int .i64 a0_1, .int .i64 a0_2, .int .i64 a0_3]) (t := 30) ?_; intro gb260 hg w12 hbox hb; have BK260 := am_ (hbox); have GW260 := gs_ hg HB.out; have GE260 := gs_ hg HB.out; replace HB := hs_ HB hb; clear hb hbox hg; obtain ⟨hcz13_0, hcz13_1, hcz13_2, hcz13_3⟩ := cb4_ BK260.out; obtain ⟨hfz13_0, hfz13_1, hfz13_2⟩ := bf3_ BK260.out; have hfz13_3 := blk_frozen BK260.out 3) | (go_at_call 63; (with_reducible refine (impl_areAggs.calls _ _ l0_0 true _ ?side1 ?side2 A3.out).mono ?_); (case side1 => repeat (first | exact (Kd.C_below HR0_0.out HB.out) | (with_reducible refine Kd.C_alloc ?_ _) | (with_reducible refine Kd.C_drewN ?_ _) | (with_reducible refine Kd.C_drew ?_))); (case side2 => exact HC0_0.out); rintro e w14 ⟨rfl, hb⟩; replace BK260 := bs_ BK260 hb; replace HB := hs_ HB hb; (try clear hb); (try clear hb2); (try clear hk); (try clear hi); obtain ⟨hcz15_0, hcz15_1, hcz15_2, hcz15_3⟩ := cb4_ BK260.out; obtain ⟨hfz15_0, hfz15_1, hfz15_2⟩ := bf3_ BK260.out; have hfz15_3 := blk_frozen BK260.out 3) | (go_at_call 64; (with_reducible refine (impl_areSorted.calls k _ _ l0_0 true _ ?side1 ?side2 A5.out).mono ?_); (case side1 => repeat (first | exact (Kd.C_below HR0_0.out HB.out) | (with_reducible refine Kd.C_alloc ?_ _) | (with_reducible refine Kd.C_drewN ?_ _) | (with_reducible refine Kd.C_drew ?_))); (case side2 => exact HC0_0.out); rintro e w16 ⟨rfl, hb⟩; replace BK260 := bs_ BK260 hb; replace HB := hs_ HB hb; (try clear hb); (try clear hb2); (try clear hk); (try clear hi); obtain ⟨hcz17_0, hcz17_1, hcz17_2, hcz17_3⟩ := cb4_ BK260.out; obtain ⟨hfz17_0, hfz17_1, hfz17_2⟩ := bf3_ BK260.out; have hfz17_3 := blk_frozen BK260.out 3) | (go_at_call 65; (with_reducible refine (impl_isMark.calls a0_1 true _ A7.out).mono ?_); rintro e w' ⟨rfl, ⟨nd, rfl⟩⟩) | (go_at_call 66; (with_reducible refine (impl_isMany.calls a0_2 true _ A9.out).mono ?_); rintro e w' ⟨rfl, ⟨nd, rfl⟩⟩) | (go_at_call 66; (with_reducible refine (impl_isMany.calls a0_3 t265 _ A11.out).mono ?_); rintro e w' ⟨rfl, ⟨nd, rfl⟩⟩))
      go_ret
      exact ⟨ew_, ue_ HB.out⟩
     replace c10 := Bool.eq_false_iff.mpr c10
     subst c10
     have H1 : (some false) = some r := by rw [if_neg (show ¬ (false = true) by decide)] at H; exact H
     clear H
     have H := H1
     clear H1
     obtain rfl := Option.some.inj H
     go_enter Try.func34, Try.ntmps34
     go_wp2_with (first | ((with_reducible refine gate_dst (N := 1) rfl ?_); refine bx_ (N := 1) (cs := #[.slice A0_0 l0_0.length c0_0, .int .i64 a0_1, .int .i64 a0_2, .int .i64 a0_3]) (t := 30) ?_; intro gb260 hg w18 hbox hb; have BK260 := am_ (hbox); have GW260 := gs_ hg HB.out; have GE260 := gs_ hg HB.out; replace HB := hs_ HB hb; clear hb hbox hg; obtain ⟨hcz19_0, hcz19_1, hcz19_2, hcz19_3⟩ := cb4_ BK260.out; obtain ⟨hfz19_0, hfz19_1, hfz19_2⟩ := bf3_ BK260.out; have hfz19_3 := blk_frozen BK260.out 3) | (go_at_call 63; (with_reducible refine (impl_areAggs.calls _ _ l0_0 true _ ?side1 ?side2 A3.out).mono ?_); (case side1 => repeat (first | exact (Kd.C_below HR0_0.out HB.out) | (with_reducible refine Kd.C_alloc ?_ _) | (with_reducible refine Kd.C_drewN ?_ _) | (with_reducible refine Kd.C_drew ?_))); (case side2 => exact HC0_0.out); rintro e w20 ⟨rfl, hb⟩; replace BK260 := bs_ BK260 hb; replace HB := hs_ HB hb; (try clear hb); (try clear hb2); (try clear hk); (try clear hi); obtain ⟨hcz21_0, hcz21_1, hcz21_2, hcz21_3⟩ := cb4_ BK260.out; obtain ⟨hfz21_0, hfz21_1, hfz21_2⟩ := bf3_ BK260.out; have hfz21_3 := blk_frozen BK260.out 3) | (go_at_call 64; (with_reducible refine (impl_areSorted.calls k _ _ l0_0 true _ ?side1 ?side2 A5.out).mono ?_); (case side1 => repeat (first | exact (Kd.C_below HR0_0.out HB.out) | (with_reducible refine Kd.C_alloc ?_ _) | (with_reducible refine Kd.C_drewN ?_ _) | (with_reducible refine Kd.C_drew ?_))); (case side2 => exact HC0_0.out); rintro e w22 ⟨rfl, hb⟩; replace BK260 := bs_ BK260 hb; replace HB := hs_ HB hb; (try clear hb); (try clear hb2); (try clear hk); (try clear hi); obtain ⟨hcz23_0, hcz23_1, hcz23_2, hcz23_3⟩ := cb4_ BK260.out; obtain ⟨hfz23_0, hfz23_1, hfz23_2⟩ := bf3_ BK260.out; have hfz23_3 := blk_frozen BK260.out 3) | (go_at_call 65; (with_reducible refine (impl_isMark.calls a0_1 true _ A7.out).mono ?_); rintro e w' ⟨rfl, ⟨nd, rfl⟩⟩) | (go_at_call 66; (with_reducible refine (impl_isMany.calls a0_2 false _ A9.out).mono ?_); rintro e w' ⟨rfl, ⟨nd, rfl⟩⟩))
     go_ret
     exact ⟨ew_, ue_ HB.out⟩
    replace c8 := Bool.eq_false_iff.mpr c8
    subst c8
    have H1 : (some false) = some r := by rw [if_neg (show ¬ (false = true) by decide)] at H; exact H
    clear H
    have H := H1
    clear H1
    obtain rfl := Option.some.inj H
    go_enter Try.func34, Try.ntmps34
    go_wp2_with (first | ((with_reducible refine gate_dst (N := 1) rfl ?_); refine bx_ (N := 1) (cs := #[.slice A0_0 l0_0.length c0_0, .int .i64 a0_1, .int .i64 a0_2, .int .i64 a0_3]) (t := 30) ?_; intro gb260 hg w24 hbox hb; have BK260 := am_ (hbox); have GW260 := gs_ hg HB.out; have GE260 := gs_ hg HB.out; replace HB := hs_ HB hb; clear hb hbox hg; obtain ⟨hcz25_0, hcz25_1, hcz25_2, hcz25_3⟩ := cb4_ BK260.out; obtain ⟨hfz25_0, hfz25_1, hfz25_2⟩ := bf3_ BK260.out; have hfz25_3 := blk_frozen BK260.out 3) | (go_at_call 63; (with_reducible refine (impl_areAggs.calls _ _ l0_0 true _ ?side1 ?side2 A3.out).mono ?_); (case side1 => repeat (first | exact (Kd.C_below HR0_0.out HB.out) | (with_reducible refine Kd.C_alloc ?_ _) | (with_reducible refine Kd.C_drewN ?_ _) | (with_reducible refine Kd.C_drew ?_))); (case side2 => exact HC0_0.out); rintro e w26 ⟨rfl, hb⟩; replace BK260 := bs_ BK260 hb; replace HB := hs_ HB hb; (try clear hb); (try clear hb2); (try clear hk); (try clear hi); obtain ⟨hcz27_0, hcz27_1, hcz27_2, hcz27_3⟩ := cb4_ BK260.out; obtain ⟨hfz27_0, hfz27_1, hfz27_2⟩ := bf3_ BK260.out; have hfz27_3 := blk_frozen BK260.out 3) | (go_at_call 64; (with_reducible refine (impl_areSorted.calls k _ _ l0_0 true _ ?side1 ?side2 A5.out).mono ?_); (case side1 => repeat (first | exact (Kd.C_below HR0_0.out HB.out) | (with_reducible refine Kd.C_alloc ?_ _) | (with_reducible refine Kd.C_drewN ?_ _) | (with_reducible refine Kd.C_drew ?_))); (case side2 => exact HC0_0.out); rintro e w28 ⟨rfl, hb⟩; replace BK260 := bs_ BK260 hb; replace HB := hs_ HB hb; (try clear hb); (try clear hb2); (try clear hk); (try clear hi); obtain ⟨hcz29_0, hcz29_1, hcz29_2, hcz29_3⟩ := cb4_ BK260.out; obtain ⟨hfz29_0, hfz29_1, hfz29_2⟩ := bf3_ BK260.out; have hfz29_3 := blk_frozen BK260.out 3) | (go_at_call 65; (with_reducible refine (impl_isMark.calls a0_1 false _ A7.out).mono ?_); rintro e w' ⟨rfl, ⟨nd, rfl⟩⟩))
    go_ret
    exact ⟨ew_, ue_ HB.out⟩
   replace c6 := Bool.eq_false_iff.mpr c6
   subst c6
   have H1 : (some false) = some r := by rw [if_neg (show ¬ (false = true) by decide)] at H; exact H
   clear H
   have H := H1
   clear H1
   obtain rfl := Option.some.inj H
   go_enter Try.func34, Try.ntmps34
   go_wp2_with (first | ((with_reducible refine gate_dst (N := 1) rfl ?_); refine bx_ (N := 1) (cs := #[.slice A0_0 l0_0.length c0_0, .int .i64 a0_1, .int .i64 a0_2, .int .i64 a0_3]) (t := 30) ?_; intro gb260 hg w30 hbox hb; have BK260 := am_ (hbox); have GW260 := gs_ hg HB.out; have GE260 := gs_ hg HB.out; replace HB := hs_ HB hb; clear hb hbox hg; obtain ⟨hcz31_0, hcz31_1, hcz31_2, hcz31_3⟩ := cb4_ BK260.out; obtain ⟨hfz31_0, hfz31_1, hfz31_2⟩ := bf3_ BK260.out; have hfz31_3 := blk_frozen BK260.out 3) | (go_at_call 63; (with_reducible refine (impl_areAggs.calls _ _ l0_0 true _ ?side1 ?side2 A3.out).mono ?_); (case side1 => repeat (first | exact (Kd.C_below HR0_0.out HB.out) | (with_reducible refine Kd.C_alloc ?_ _) | (with_reducible refine Kd.C_drewN ?_ _) | (with_reducible refine Kd.C_drew ?_))); (case side2 => exact HC0_0.out); rintro e w32 ⟨rfl, hb⟩; replace BK260 := bs_ BK260 hb; replace HB := hs_ HB hb; (try clear hb); (try clear hb2); (try clear hk); (try clear hi); obtain ⟨hcz33_0, hcz33_1, hcz33_2, hcz33_3⟩ := cb4_ BK260.out; obtain ⟨hfz33_0, hfz33_1, hfz33_2⟩ := bf3_ BK260.out; have hfz33_3 := blk_frozen BK260.out 3) | (go_at_call 64; (with_reducible refine (impl_areSorted.calls k _ _ l0_0 false _ ?side1 ?side2 A5.out).mono ?_); (case side1 => repeat (first | exact (Kd.C_below HR0_0.out HB.out) | (with_reducible refine Kd.C_alloc ?_ _) | (with_reducible refine Kd.C_drewN ?_ _) | (with_reducible refine Kd.C_drew ?_))); (case side2 => exact HC0_0.out); rintro e w34 ⟨rfl, hb⟩; replace BK260 := bs_ BK260 hb; replace HB := hs_ HB hb; (try clear hb); (try clear hb2); (try clear hk); (try clear hi)))
   go_ret
   exact ⟨ew_, ue_ HB.out⟩
  replace c4 := Bool.eq_false_iff.mpr c4
  subst c4
  have H1 : (some false) = some r := by rw [if_neg (show ¬ (false = true) by decide)] at H; exact H
  clear H
  have H := H1
  clear H1
  obtain rfl := Option.some.inj H
  go_enter Try.func34, Try.ntmps34
  go_wp2_with (first | ((with_reducible refine gate_dst (N := 1) rfl ?_); refine bx_ (N := 1) (cs := #[.slice A0_0 l0_0.length c0_0, .int .i64 a0_1, .int .i64 a0_2, .int .i64 a0_3]) (t := 30) ?_; intro gb260 hg w35 hbox hb; have BK260 := am_ (hbox); have GW260 := gs_ hg HB.out; have GE260 := gs_ hg HB.out; replace HB := hs_ HB hb; clear hb hbox hg; obtain ⟨hcz36_0, hcz36_1, hcz36_2, hcz36_3⟩ := cb4_ BK260.out; obtain ⟨hfz36_0, hfz36_1, hfz36_2⟩ := bf3_ BK260.out; have hfz36_3 := blk_frozen BK260.out 3) | (go_at_call 63; (with_reducible refine (impl_areAggs.calls _ _ l0_0 false _ ?side1 ?side2 A3.out).mono ?_); (case side1 => repeat (first | exact (Kd.C_below HR0_0.out HB.out) | (with_reducible refine Kd.C_alloc ?_ _) | (with_reducible refine Kd.C_drewN ?_ _) | (with_reducible refine Kd.C_drew ?_))); (case side2 => exact HC0_0.out); rintro e w37 ⟨rfl, hb⟩; replace BK260 := bs_ BK260 hb; replace HB := hs_ HB hb; (try clear hb); (try clear hb2); (try clear hk); (try clear hi)))
  go_ret
  exact ⟨ew_, ue_ HB.out⟩
 rw [if_neg c2] at H
 have c2b0 : decide ((l0_0.length : Int) ≤ 40) = false := decide_eq_false c2
 have c2b1 : decide (l0_0.length ≤ 40) = false := decide_eq_false (by omega)
 clear c2
 obtain rfl := Option.some.inj H
 go_enter Try.func34, Try.ntmps34
 go_wp2_with (first | ((with_reducible refine gate_dst (N := 1) rfl ?_); refine bx_ (N := 1) (cs := #[.slice A0_0 l0_0.length c0_0, .int .i64 a0_1, .int .i64 a0_2, .int .i64 a0_3]) (t := 30) ?_; intro gb260 hg w38 hbox hb; have BK260 := am_ (hbox); have GW260 := gs_ hg HB.out; have GE260 := gs_ hg HB.out; replace HB := hs_ HB hb; clear hb hbox hg; obtain ⟨hcz39_0, hcz39_1, hcz39_2, hcz39_3⟩ := cb4_ BK260.out; obtain ⟨hfz39_0, hfz39_1, hfz39_2⟩ := bf3_ BK260.out; have hfz39_3 := blk_frozen BK260.out 3))
 go_ret
 exact ⟨ew_, ue_ HB.out⟩

/-! ### impl_isSize: function 35 -/
def impl_isSize.f (a0 : Int) : Option (Bool) := (impl_within.f a0 1 1000000).bind fun t266 => (some t266)
set_option maxHeartbeats 8000000 in
set_option maxRecDepth 100000 in
theorem impl_isSize.calls (a0 : Int) (r : Bool) (w : World) (h : impl_isSize.f a0 = some r) :
  Calls Try.prog 35 #[.int .i64 a0] w fun e w' => e = .returned (.bool r) ∧ Drawn0 w w' := by
 have H : ((impl_within.f a0 1 1000000).bind fun t266 => (some t266)) = some r := h
 clear h
 replace H := Option.bind_eq_some_iff.mp H
 obtain ⟨t266, A20, H⟩ := H
 replace H : (some t266) = some r := H
 have A2 := Aside0.mk A20
 clear A20
 obtain rfl := Option.some.inj H
 go_enter Try.func35, Try.ntmps35
 go_wp2_with (first | ((with_reducible refine gate_callee (f := 36) rfl ?_); refine goesL_ (some 4) rfl rfl Try.func36 (by kernel_rfl) rfl #[.int .i64 a0, .int .i64 1, .int .i64 1000000] rfl ul_ ?_; (with_reducible refine (impl_within.calls a0 1 1000000 t266 _ A2.out).mono ?_); rintro e w' ⟨rfl, ⟨nd, rfl⟩⟩; refine ⟨_, rfl, ?_⟩))
 go_ret
 exact ⟨by first | rfl | (simp; done) | (simp [*]; done), by repeat (first | exact Drawn0.refl _ | apply Drawn0.step)⟩

end Go.Proofs.Ytaofcalmgodgjaa.QFnExactAddEvent
