/- The machine side of a law: Lean functions with the Go functions' answers and the walks that show it. No condition. -/
import Derived.Test.YtaofcalmgodgjaaQFnPiecesx0
import Derived.Test.YtaofcalmgodgjaaQFnPiecesx10
namespace Go.Proofs.Ytaofcalmgodgjaa.QFnPieces
open Go.RowKit Go.Proofs.YtaofcalmgodgjaaW.PrintWords Go.Proofs.YtaofcalmgodgjaaW.PrintLast Go.Proofs.YtaofcalmgodgjaaW.PrintMore
attribute [local go_sem] max2_int min2_int max_two min_two max_three min_three max_four min_four   -- for this text's walks alone
set_option linter.unusedVariables false
set_option linter.unusedSimpArgs false

/-! ### slices_Clone_byte_byte: function 58 -/
def slices_Clone_byte_byte.f (l0 : List Int) : Option (List Int) := (some (([] : List Int) : List Int)).bind fun y491 => (if y491.length + l0.length < 140737488355328 then (some (y491 ++ l0)) else (none))
set_option maxHeartbeats 8000000 in
set_option maxRecDepth 100000 in
theorem slices_Clone_byte_byte.calls (A0 : Option Addr) (c0 : Nat) (l0 : List Int) (r : List Int) (w : World) (hr0 : Kd.C (Kd.int .u8) w A0 l0.length l0) (hc0 : l0.length ≤ c0) (h : slices_Clone_byte_byte.f l0 = some r) :
  Calls Try.prog 58 #[.slice A0 l0.length c0] w fun e w' => ∃ v0_ : Value, e = .returned (v0_) ∧ Kd.R (Kd.int .u8) 5 w' w.heap.size (fun _ => True) v0_ r ∧ Below w.heap.size w w' := by
 have HR0 := Aside0.mk hr0
 have HC0 := Aside0.mk hc0
 clear hr0 hc0
 have HB := am_ (Below.refl w.heap.size w)
 have H : ((some (([] : List Int) : List Int)).bind fun y491 => (if y491.length + l0.length < 140737488355328 then (some (y491 ++ l0)) else (none))) = some r := h
 clear h
 obtain ⟨y491, hy491⟩ : ∃ y_ : List Int, y_ = (([] : List Int)) := ⟨_, rfl⟩
 replace H : (if y491.length + l0.length < 140737488355328 then (some (y491 ++ l0)) else (none)) = some r := by first | (rw [hy491]; with_reducible exact H) | (have H2_ := (Option.bind_some _ _).symm.trans H; rw [hy491]; with_reducible exact H2_) | (have H2_ := (Option.bind_some _ _).symm.trans H; with_reducible exact H2_) | with_reducible exact H | (rw [hy491]; exact H) | exact H
 have Ny491 := Aside0.mk hy491
 clear hy491
 by_cases c2 : y491.length + l0.length < 140737488355328
 ·
  rw [if_pos c2] at H
  have LMc2 := Aside0.mk c2
  clear c2
  obtain ⟨y494, hy494⟩ : ∃ y_ : List Int, y_ = (y491 ++ l0) := ⟨_, rfl⟩
  replace H : (some y494) = some r := by first | (rw [hy494]; with_reducible exact H) | (have H2_ := (Option.bind_some _ _).symm.trans H; rw [hy494]; with_reducible exact H2_) | (have H2_ := (Option.bind_some _ _).symm.trans H; with_reducible exact H2_) | with_reducible exact H | (rw [hy494]; exact H) | exact H
  have Ny494 := Aside0.mk hy494
  clear hy494
  obtain rfl := Option.some.inj H
  have qn_ : ∀ (w : World) (a : Option Addr) (n c n' c' : Nat), (binOp .eql 39 (.slice a n c) (.slice none n' c')).run Try.prog w = .ok (.bool a.isNone) w := fun w a n c n' c' => Go.Lib.run_eql_slice_nil w _ _ a n c n' c' Try.underlying39
  cases A0 with
  | none =>
   have e0 : l0 = [] := by
    by_cases hz : 0 < l0.length
    ·
     obtain ⟨ad, e, _⟩ := HR0.out.2.2 hz
     cases e
    exact List.eq_nil_of_length_eq_zero (by omega)
   have e1 : y494 = [] := by rw [Ny494.out, Ny491.out, e0]; rfl
   go_enter Try.func58, Try.ntmps58
   go_wp2
   go_ret
   exact ⟨_, rfl, by first | exact Kd.R_nil _ _ _ _ _ | (rw [e1]; exact Kd.R_nil _ _ _ _ _), ue_ HB.out⟩
  | some A1 =>
   go_enter Try.func58, Try.ntmps58
   go_wp2_with (first | ((with_reducible refine gate_dst (N := 5) rfl ?_); refine Kd.R_lit (Kd.int .u8) _ 5 ?hg (N := 5) ?hd (xs := ([] : List Int)) (inner := []) (ok := fun _ => True) (okp := fun _ => True) ?hr ?hp (fun _ hk => hk) trivial (Below.refl _ _) (Nat.le_refl _) (by simp) ?_; (case hd => rfl); (case hg => rfl); (case hr => first | (go_simp; done) | (go_simp; rfl)); (case hp => exact (Reps.none _ _)); intro v492 w3 ho4 hb hg_ hnew_; clear hg_ hnew_; (first | rw [← Ny491.out] at ho4 | (simp only [Int.reduceToNat] at ho4; rw [← Ny491.out] at ho4)); have HO493 := am_ (Kd.R_lower ho4 (below_size (ue_ HB.out))); replace HB := am_ (below_step (ue_ HB.out) hb); clear hb ho4) | ((with_reducible refine gate_builtin (b := .append) (xs := #[.tmp 5, .tmp 6]) rfl ?_); at_builtin; refine Kd.R_append_rows (Kd.int .u8) (w0 := w) w.heap.size rfl (.tmp 5) (.tmp 6) 39 5 (.int .u8 0) 1 rfl Try.underlying39 info5 rfl (by decide) (by omega) v492 y491 l0 _ _ _ (fun _ => True) (fun _ => False) rfl rfl ?aO ?aR (fun _ _ h => h) (fun _ h => h.elim) ?aF ?aB ?aS ?aL ?_; (case aR => repeat (first | exact (Kd.C_below HR0.out HB.out) | (with_reducible refine Kd.C_alloc ?_ _) | (with_reducible refine Kd.C_drewN ?_ _) | (with_reducible refine Kd.C_drew ?_))); (case aB => exact (ue_ HB.out)); (case aF => exact (fun _ _ => trivial)); (case aO => exact (ur_ HO493.out)); (case aS => exact (below_size (ue_ HB.out))); (case aL => have := LMc2.out; omega); intro v495 w5 ho hb hg hat; rw [← Ny494.out] at ho; replace HB := am_ (hb); have HO496 := am_ (ho); clear HO493; clear ho hb hg hat))
   go_ret
   exact ⟨_, ew_, by (with_reducible repeat (first | apply Kd.R_alloc | apply Kd.R_drewN | apply Kd.R_drew)); exact HO496.out, ue_ HB.out⟩
 rw [if_neg c2] at H
 exact absurd H (by simp)

/-! ### impl_ownDecoder: function 56 -/
def impl_ownDecoder.f (l0_0 : List Int) (a0_1 : Bool) : Option (List Int × Bool) := (slices_Clone_byte_byte.f l0_0).bind fun t499 => (some (t499, a0_1))
set_option maxHeartbeats 8000000 in
set_option maxRecDepth 100000 in
theorem impl_ownDecoder.calls (A0_0 : Option Addr) (c0_0 : Nat) (l0_0 : List Int) (a0_1 : Bool) (r1 : List Int) (r2 : Bool) (w : World) (hr0_0 : Kd.C (Kd.int .u8) w A0_0 l0_0.length l0_0) (hc0_0 : l0_0.length ≤ c0_0) (h : impl_ownDecoder.f l0_0 a0_1 = some (r1, r2)) :
  Calls Try.prog 56 #[.agg #[.slice A0_0 l0_0.length c0_0, .bool a0_1]] w fun e w' => ∃ v0_ : Value, e = .returned (.agg #[v0_, .bool r2]) ∧ Kd.R (Kd.int .u8) 5 w' w.heap.size (fun _ => True) v0_ r1 ∧ Below w.heap.size w w' := by
 have hu47 := Try.underlying47
 have HR0_0 := Aside0.mk hr0_0
 have HC0_0 := Aside0.mk hc0_0
 clear hr0_0 hc0_0
 have HB := am_ (Below.refl w.heap.size w)
 have H : ((slices_Clone_byte_byte.f l0_0).bind fun t499 => (some (t499, a0_1))) = some (r1, r2) := h
 clear h
 replace H := Option.bind_eq_some_iff.mp H
 obtain ⟨t499, A20, H⟩ := H
 replace H : (some (t499, a0_1)) = some (r1, r2) := H
 have A2 := Aside0.mk A20
 clear A20
 simp only [Option.some.injEq, Prod.mk.injEq] at H
 obtain ⟨rfl, rfl⟩ := H
 go_enter Try.func56, Try.ntmps56
 try go_wp2_with (first | ((with_reducible refine gate_dst (N := 1) rfl ?_); refine bx_ (N := 1) (cs := #[.slice A0_0 l0_0.length c0_0, .bool a0_1]) (t := 47) ?_; intro gb497 hg w3 hbox hb; have BK497 := am_ (hbox); have GW497 := am_ ((by rw [hg]; exact (below_size (ue_ HB.out)) : w.heap.size ≤ gb497)); have GE497 := am_ ((by rw [hg]; exact (below_size (ue_ HB.out)) : w.heap.size ≤ gb497)); replace HB := am_ (below_step (ue_ HB.out) hb); clear hb hbox hg) | ((with_reducible refine gate_dst (N := 2) rfl ?_); refine bx_ (N := 2) (cs := #[.slice none 0 0, .bool false]) (t := 47) ?_; intro gb498 hg w4 hbox hb; have BK498 := am_ (hbox); have GW498 := am_ ((by rw [hg]; exact (below_size (ue_ HB.out)) : w.heap.size ≤ gb498)); have GE498 := am_ ((by rw [hg]; exact (below_size (ue_ HB.out)) : w.heap.size ≤ gb498)); replace HB := am_ (below_step (ue_ HB.out) hb); have NB497_498 := am_ ((by rw [hg]; exact Nat.ne_of_lt (bl_ BK497.out) : gb497 ≠ gb498)); have NB498_497 := am_ ((by rw [hg]; exact Nat.ne_of_gt (bl_ BK497.out) : gb498 ≠ gb497)); replace BK497 := am_ (bb_ BK497.out hb); clear hb hbox hg))
 have n0_ := am_ (blk_drew BK497.out)
 have n1_ := am_ (blk_drew BK498.out)
 have n2_ := am_ (below_drew1 HB.out)
 clear BK497
 clear BK498
 clear HB
 have BK497 := n0_
 have BK498 := n1_
 have HB := n2_
 clear n0_ n1_ n2_
 refine start_ (n := 7) (S := fun w' => w'.cell? ⟨gb497, 0, none⟩ = some (.slice A0_0 l0_0.length c0_0) ∧ w'.cell? ⟨gb497, 1, none⟩ = some (.bool a0_1)) (ds := []) #[false, false, false, false, false, false, false] (by kernel_rfl) rfl rfl ⟨(blk_cell BK497.out 0).trans rfl, (blk_cell BK497.out 1).trans rfl⟩ (fun hHeld => ?_)
 generalize w4.drew = w5 at BK497 BK498 HB hHeld ⊢
 refine pure_ (i := 0) (N := some 3) (v := ?_) (a' := ?_) #[true, false, false, false, false, false, false] rfl rfl (by kernel_rfl) (fun _ _ _ h => h) (Or.inl ⟨by rfl, ?_⟩) ?_ ?_
 rotate_left
 ·
  intro w'
  go_simp
  with_reducible rfl
 rotate_left
 ·
  simp only [Act.put, List.setIfInBounds_toArray, List.set_cons_zero, List.set_cons_succ, i64_w, i32_w]
  rfl
 refine pure_ (i := 3) (N := some 6) (v := ?_) (a' := ?_) #[true, false, false, true, false, false, false] rfl rfl (by kernel_rfl) (fun _ _ _ h => h) (Or.inl ⟨by rfl, ?_⟩) ?_ ?_
 rotate_left
 ·
  intro w'
  go_simp
  with_reducible rfl
 rotate_left
 ·
  simp only [Act.put, List.setIfInBounds_toArray, List.set_cons_zero, List.set_cons_succ, i64_w, i32_w]
  rfl
 refine take_ (i := 1) (N := some 4) (v := ?_) (a' := ?_) #[true, true, false, true, false, false, false] rfl rfl (by kernel_rfl) (fun _ _ _ h => h) (Or.inl ⟨by rfl, ?_⟩) hHeld ?_ ?_
 rotate_left
 ·
  rintro w' ⟨s0, s1⟩
  go_simp
  with_reducible rfl
 rotate_left
 ·
  simp only [Act.put, List.setIfInBounds_toArray, List.set_cons_zero, List.set_cons_succ, i64_w, i32_w]
  rfl
 refine take_ (i := 4) (N := some 7) (v := ?_) (a' := ?_) #[true, true, false, true, true, false, false] rfl rfl (by kernel_rfl) (fun _ _ _ h => h) (Or.inl ⟨by rfl, ?_⟩) hHeld ?_ ?_
 rotate_left
 ·
  rintro w' ⟨s0, s1⟩
  go_simp
  with_reducible rfl
 rotate_left
 ·
  simp only [Act.put, List.setIfInBounds_toArray, List.set_cons_zero, List.set_cons_succ, i64_w, i32_w]
  rfl
 refine one_ (i := 2) (N := some 5) #[true, true, true, true, true, false, false] rfl rfl (by kernel_rfl) (by decide) (fun K hK => ?_)
 refine goes_ Try.func58 (by kernel_rfl) rfl #[.slice A0_0 l0_0.length c0_0] (by rfl) rfl rfl ul_ ?_
 with_reducible refine (slices_Clone_byte_byte.calls _ _ l0_0 t499 _ ?side1 ?side2 A2.out).mono ?_
 (case side1 => repeat (first | exact (Kd.C_below HR0_0.out HB.out) | (with_reducible refine Kd.C_alloc ?_ _) | (with_reducible refine Kd.C_drewN ?_ _) | (with_reducible refine Kd.C_drew ?_)))
 (case side2 => exact HC0_0.out)
 rintro e w6 ⟨v500, rfl, ho0, hb⟩
 refine ⟨_, rfl, ?_⟩
 have n0_ := am_ (Kd.R_lower ho0 (below_size (ue_ HB.out)))
 have n1_ := am_ (bb_ BK497.out hb)
 have n2_ := am_ (bb_ BK498.out hb)
 have n3_ := am_ (below_step (ue_ HB.out) hb)
 clear BK497
 clear BK498
 clear HB
 have HO501 := n0_
 have BK497 := n1_
 have BK498 := n2_
 have HB := n3_
 clear n0_ n1_ n2_ n3_
 (try clear hb)
 (try clear hb2)
 (try clear hk)
 (try clear hi)
 (try clear ho0)
 obtain ⟨Ao7, co7, eo7⟩ := Kd.R_slice HO501.out
 (first | subst eo7 | (injection eo7 with f1_ f2_ f3_; have f4_ := f1_.symm; have f5_ := f3_.symm; clear f1_ f2_ f3_; subst f4_; subst f5_))
 refine hK.out _ _ ⟨(blk_cell BK497.out 0).trans rfl, (blk_cell BK497.out 1).trans rfl⟩ (fun hHeld => ?_)
 clear hK K
 refine norm_ (a' := ?_) ?_ ?_
 rotate_left
 ·
  show Act.put _ (some 5) _ = _
  simp only [Act.put, List.setIfInBounds_toArray, List.set_cons_zero, List.set_cons_succ, i64_w, i32_w]
  rfl
 refine pure_ (i := 5) (N := some 8) (v := ?_) (a' := ?_) #[true, true, true, true, true, true, false] rfl rfl (by kernel_rfl) (fun _ _ _ h => h) (Or.inl ⟨by rfl, ?_⟩) ?_ ?_
 rotate_left
 ·
  intro w'
  go_simp
  with_reducible rfl
 rotate_left
 ·
  simp only [Act.put, List.setIfInBounds_toArray, List.set_cons_zero, List.set_cons_succ, i64_w, i32_w]
  rfl
 refine one_ (i := 6) (N := none) #[true, true, true, true, true, true, true] rfl rfl (by kernel_rfl) (by decide) (fun K hK => ?_)
 have hs8 := cb_ BK498.out 0 rfl
 have hfs8 := blk_frozen BK498.out 0
 have hns8_0 := NB497_498.out
 have hms8_0 := NB498_497.out
 have hs9 := cb_ BK498.out 1 rfl
 have hfs9 := blk_frozen BK498.out 1
 have hns9_0 := NB497_498.out
 have hms9_0 := NB498_497.out
 refine skip_ (w1 := ?_) (by rfl) rfl ?_ ?_
 rotate_left
 ·
  go_simp
  rfl
 refine hK.out _ _ ⟨((cell_far (p := ⟨gb498, _, none⟩) NB497_498.out _).trans (((cell_far (p := ⟨gb498, _, none⟩) NB497_498.out _).trans (hHeld.1)))), ((cell_far (p := ⟨gb498, _, none⟩) NB497_498.out _).trans (((cell_far (p := ⟨gb498, _, none⟩) NB497_498.out _).trans (hHeld.2))))⟩ (fun hHeld => ?_)
 clear hK K
 refine done_ (by kernel_rfl) ?_
 try go_wp2
 refine bodyPost_ret (results_cell_row rfl _ _ gb498 47 #[.slice Ao7 t499.length co7, .bool a0_1] (0, 0) _ rfl (by (with_reducible repeat first|apply bn_|apply bd_|apply ba_); apply bp2_; (with_reducible repeat first|apply bn_|apply bd_|apply ba_); exact BK498.out) Try.underlying47 rfl (by kernel_rfl)) rfl ?_
 exact ⟨_, ew_, by (with_reducible repeat (first | apply Kd.R_alloc | apply Kd.R_drewN | apply Kd.R_drew)); exact Kd.R_mono (Rf2_ (g := gb498) (Kd.R_types HO501.out BK498.out (by decide))) (fun _ hk => trivial), ue_ HB.out⟩

/-! ### impl_DecoderOk: function 57 -/
def impl_DecoderOk.f (l0_0 : List Int) (a0_1 : Bool) : Option (Bool) := if (l0_0.length : Int) ≤ 400 then (if a0_1 = true then (some ((l0_0.length : Int) == 0)) else (some true)) else (some false)
set_option maxHeartbeats 8000000 in
set_option maxRecDepth 100000 in
theorem impl_DecoderOk.calls (A0_0 : Option Addr) (c0_0 : Nat) (l0_0 : List Int) (a0_1 : Bool) (r : Bool) (w : World) (hr0_0 : Kd.C (Kd.int .u8) w A0_0 l0_0.length l0_0) (hc0_0 : l0_0.length ≤ c0_0) (h : impl_DecoderOk.f l0_0 a0_1 = some r) :
  Calls Try.prog 57 #[.agg #[.slice A0_0 l0_0.length c0_0, .bool a0_1]] w fun e w' => e = .returned (.bool r) ∧ Below w.heap.size w w' := by
 have hu47 := Try.underlying47
 have HR0_0 := Aside0.mk hr0_0
 have HC0_0 := Aside0.mk hc0_0
 clear hr0_0 hc0_0
 have HB := am_ (Below.refl w.heap.size w)
 have H : (if (l0_0.length : Int) ≤ 400 then (if a0_1 = true then (some ((l0_0.length : Int) == 0)) else (some true)) else (some false)) = some r := h
 clear h
 by_cases c2 : (l0_0.length : Int) ≤ 400
 ·
  rw [if_pos c2] at H
  have c2b0 : decide ((l0_0.length : Int) ≤ 400) = true := decide_eq_true c2
  have c2b1 : decide (l0_0.length ≤ 400) = true := decide_eq_true (by omega)
  clear c2
  by_cases c3 : a0_1 = true
  ·
   subst c3
   have H1 : (some ((l0_0.length : Int) == 0)) = some r := by rw [if_pos rfl] at H; exact H
   clear H
   have H := H1
   clear H1
   obtain rfl := Option.some.inj H
   go_enter Try.func57, Try.ntmps57
   go_wp2_with (first | ((with_reducible refine gate_dst (N := 1) rfl ?_); (try (refine gate_guard (by rfl) ?_; dsimp only)); refine bx_ (N := 1) (cs := #[.slice A0_0 l0_0.length c0_0, .bool true]) (t := 47) ?_; intro gb502 hg w4 hbox hb; have BK502 := am_ (hbox); have GW502 := am_ ((by rw [hg]; exact (below_size (ue_ HB.out)) : w.heap.size ≤ gb502)); have GE502 := am_ ((by rw [hg]; exact (below_size (ue_ HB.out)) : w.heap.size ≤ gb502)); replace HB := am_ (below_step (ue_ HB.out) hb); clear hb hbox hg; obtain ⟨hcz5_0, hcz5_1⟩ := cb2_ BK502.out; have hfz5_0 := blk_frozen BK502.out 0; have hfz5_1 := blk_frozen BK502.out 1))
   go_ret
   exact ⟨ew_, ue_ HB.out⟩
  replace c3 := Bool.eq_false_iff.mpr c3
  subst c3
  have H1 : (some true) = some r := by rw [if_neg (show ¬ (false = true) by decide)] at H; exact H
  clear H
  have H := H1
  clear H1
  obtain rfl := Option.some.inj H
  go_enter Try.func57, Try.ntmps57
  go_wp2_with (first | ((with_reducible refine gate_dst (N := 1) rfl ?_); (try (refine gate_guard (by rfl) ?_; dsimp only)); refine bx_ (N := 1) (cs := #[.slice A0_0 l0_0.length c0_0, .bool false]) (t := 47) ?_; intro gb502 hg w6 hbox hb; have BK502 := am_ (hbox); have GW502 := am_ ((by rw [hg]; exact (below_size (ue_ HB.out)) : w.heap.size ≤ gb502)); have GE502 := am_ ((by rw [hg]; exact (below_size (ue_ HB.out)) : w.heap.size ≤ gb502)); replace HB := am_ (below_step (ue_ HB.out) hb); clear hb hbox hg; obtain ⟨hcz7_0, hcz7_1⟩ := cb2_ BK502.out; have hfz7_0 := blk_frozen BK502.out 0; have hfz7_1 := blk_frozen BK502.out 1))
  go_ret
  exact ⟨ew_, ue_ HB.out⟩
 rw [if_neg c2] at H
 have c2b0 : decide ((l0_0.length : Int) ≤ 400) = false := decide_eq_false c2
 have c2b1 : decide (l0_0.length ≤ 400) = false := decide_eq_false (by omega)
 clear c2
 obtain rfl := Option.some.inj H
 go_enter Try.func57, Try.ntmps57
 go_wp2_with (first | ((with_reducible refine gate_dst (N := 1) rfl ?_); (try (refine gate_guard (by rfl) ?_; dsimp only)); refine bx_ (N := 1) (cs := #[.slice A0_0 l0_0.length c0_0, .bool a0_1]) (t := 47) ?_; intro gb502 hg w8 hbox hb; have BK502 := am_ (hbox); have GW502 := am_ ((by rw [hg]; exact (below_size (ue_ HB.out)) : w.heap.size ≤ gb502)); have GE502 := am_ ((by rw [hg]; exact (below_size (ue_ HB.out)) : w.heap.size ≤ gb502)); replace HB := am_ (below_step (ue_ HB.out) hb); clear hb hbox hg; obtain ⟨hcz9_0, hcz9_1⟩ := cb2_ BK502.out; have hfz9_0 := blk_frozen BK502.out 0; have hfz9_1 := blk_frozen BK502.out 1))
 go_ret
 exact ⟨ew_, ue_ HB.out⟩

/-! ### impl_FeedBytes: function 19 -/
def impl_FeedBytes.f (l0_0 : List Int) (a0_1 : Bool) (l1 : List Int) : Option (List Int × Bool × Bool) := (impl_ownDecoder.f l0_0 a0_1).bind fun bt505 => ((impl_DecoderOk.f l0_0 a0_1).bind fun t510 => (if t510 = true then (if a0_1 = true then (some (bt505.1, bt505.2, false)) else (if (wrap64 ((l0_0.length : Int) + (l1.length : Int))) > 400 then (some (bt505.1, bt505.2, false)) else (if bt505.1.length + l1.length < 140737488355328 then (some ((bt505.1 ++ l1), bt505.2, true)) else (none)))) else (some (bt505.1, bt505.2, false))))
set_option maxHeartbeats 8000000 in
set_option maxRecDepth 100000 in
theorem impl_FeedBytes.calls (A0_0 : Option Addr) (c0_0 : Nat) (l0_0 : List Int) (a0_1 : Bool) (A1 : Option Addr) (c1 : Nat) (l1 : List Int) (r1 : List Int) (r2 : Bool) (r3 : Bool) (w : World) (hr0_0 : Kd.C (Kd.int .u8) w A0_0 l0_0.length l0_0) (hc0_0 : l0_0.length ≤ c0_0) (hr1 : Kd.C (Kd.int .u8) w A1 l1.length l1) (hc1 : l1.length ≤ c1) (h : impl_FeedBytes.f l0_0 a0_1 l1 = some (r1, r2, r3)) :
  Calls Try.prog 19 #[.agg #[.slice A0_0 l0_0.length c0_0, .bool a0_1], .slice A1 l1.length c1] w fun e w' => ∃ v0_ : Value, e = .returned (.tuple #[.agg #[v0_, .bool r2], .bool r3]) ∧ Kd.R (Kd.int .u8) 5 w' w.heap.size (fun _ => True) v0_ r1 ∧ Below w.heap.size w w' := by
 have hu47 := Try.underlying47
 have HR0_0 := Aside0.mk hr0_0
 have HC0_0 := Aside0.mk hc0_0
 clear hr0_0 hc0_0
 have HR1 := Aside0.mk hr1
 have HC1 := Aside0.mk hc1
 clear hr1 hc1
 have HB := am_ (Below.refl w.heap.size w)
 have H : ((impl_ownDecoder.f l0_0 a0_1).bind fun bt505 => ((impl_DecoderOk.f l0_0 a0_1).bind fun t510 => (if t510 = true then (if a0_1 = true then (some (bt505.1, bt505.2, false)) else (if (wrap64 ((l0_0.length : Int) + (l1.length : Int))) > 400 then (some (bt505.1, bt505.2, false)) else (if bt505.1.length + l1.length < 140737488355328 then (some ((bt505.1 ++ l1), bt505.2, true)) else (none)))) else (some (bt505.1, bt505.2, false))))) = some (r1, r2, r3) := h
 clear h
 replace H := Option.bind_eq_some_iff.mp H
 obtain ⟨⟨t505, t508⟩, A30, H⟩ := H
 replace H : ((impl_DecoderOk.f l0_0 a0_1).bind fun t510 => (if t510 = true then (if a0_1 = true then (some (t505, t508, false)) else (if (wrap64 ((l0_0.length : Int) + (l1.length : Int))) > 400 then (some (t505, t508, false)) else (if t505.length + l1.length < 140737488355328 then (some ((t505 ++ l1), t508, true)) else (none)))) else (some (t505, t508, false)))) = some (r1, r2, r3) := H
 have A3 := Aside0.mk A30
 clear A30
 replace H := Option.bind_eq_some_iff.mp H
 obtain ⟨t510, A40, H⟩ := H
 replace H : (if t510 = true then (if a0_1 = true then (some (t505, t508, false)) else (if (wrap64 ((l0_0.length : Int) + (l1.length : Int))) > 400 then (some (t505, t508, false)) else (if t505.length + l1.length < 140737488355328 then (some ((t505 ++ l1), t508, true)) else (none)))) else (some (t505, t508, false))) = some (r1, r2, r3) := H
 have A4 := Aside0.mk A40
 clear A40
 by_cases c5 : t510 = true
 ·
  subst c5
  have H1 : (if a0_1 = true then (some (t505, t508, false)) else (if (wrap64 ((l0_0.length : Int) + (l1.length : Int))) > 400 then (some (t505, t508, false)) else (if t505.length + l1.length < 140737488355328 then (some ((t505 ++ l1), t508, true)) else (none)))) = some (r1, r2, r3) := by rw [if_pos rfl] at H; exact H
  clear H
  have H := H1
  clear H1
  by_cases c6 : a0_1 = true
  ·
   subst c6
   have H1 : (some (t505, t508, false)) = some (r1, r2, r3) := by rw [if_pos rfl] at H; exact H
   clear H
   have H := H1
   clear H1
   simp only [Option.some.injEq, Prod.mk.injEq] at H
   obtain ⟨rfl, rfl, rfl⟩ := H
   go_enter Try.func19, Try.ntmps19
   go_wp2_with (first | ((with_reducible refine gate_dst (N := 2) rfl ?_); (try (refine gate_guard (by rfl) ?_; dsimp only)); refine bx_ (N := 2) (cs := #[.slice A0_0 l0_0.length c0_0, .bool true]) (t := 47) ?_; intro gb503 hg w7 hbox hb; have BK503 := am_ (hbox); have GW503 := am_ ((by rw [hg]; exact (below_size (ue_ HB.out)) : w.heap.size ≤ gb503)); have GE503 := am_ ((by rw [hg]; exact (below_size (ue_ HB.out)) : w.heap.size ≤ gb503)); replace HB := am_ (below_step (ue_ HB.out) hb); clear hb hbox hg) | ((with_reducible refine gate_dst (N := 4) rfl ?_); (try (refine gate_guard (by rfl) ?_; dsimp only)); refine bx_ (N := 4) (cs := #[.slice none 0 0, .bool false]) (t := 47) ?_; intro gb504 hg w8 hbox hb; have BK504 := am_ (hbox); have GW504 := am_ ((by rw [hg]; exact (below_size (ue_ HB.out)) : w.heap.size ≤ gb504)); have GE504 := am_ ((by rw [hg]; exact (below_size (ue_ HB.out)) : w.heap.size ≤ gb504)); replace HB := am_ (below_step (ue_ HB.out) hb); have NB503_504 := am_ ((by rw [hg]; exact Nat.ne_of_lt (bl_ BK503.out) : gb503 ≠ gb504)); have NB504_503 := am_ ((by rw [hg]; exact Nat.ne_of_gt (bl_ BK503.out) : gb504 ≠ gb503)); replace BK503 := am_ (bb_ BK503.out hb); clear hb hbox hg; have hnb9 := NB503_504.out; have hnc9 := NB504_503.out; obtain ⟨hcz10_0, hcz10_1⟩ := cb2_ BK503.out; have hfz10_0 := blk_frozen BK503.out 0; have hfz10_1 := blk_frozen BK503.out 1) | ((with_reducible refine gate_callee (f := 56) rfl ?_); refine goesL_ (some 8) rfl rfl Try.func56 (by kernel_rfl) rfl #[.agg #[.slice A0_0 l0_0.length c0_0, .bool true]] rfl ul_ ?_; (with_reducible refine (impl_ownDecoder.calls _ _ l0_0 true t505 t508 _ ?side1 ?side2 A3.out).mono ?_); (case side1 => repeat (first | exact (Kd.C_below HR0_0.out HB.out) | (with_reducible refine Kd.C_alloc ?_ _) | (with_reducible refine Kd.C_drewN ?_ _) | (with_reducible refine Kd.C_drew ?_))); (case side2 => exact HC0_0.out); rintro e w11 ⟨v506, rfl, ho0, hb⟩; refine ⟨_, rfl, ?_⟩; have HO507 := am_ (Kd.R_lower ho0 (below_size (ue_ HB.out))); replace BK503 := am_ (bb_ BK503.out hb); replace BK504 := am_ (bb_ BK504.out hb); replace HB := am_ (below_step (ue_ HB.out) hb); (try clear hb); (try clear hb2); (try clear hk); (try clear hi); (try clear ho0)) | ((with_reducible refine gate_dst (N := 6) rfl ?_); (try (refine gate_guard (by rfl) ?_; dsimp only)); refine bx_ (N := 6) (cs := #[.slice none 0 0, .bool false]) (t := 47) ?_; intro gb509 hg w12 hbox hb; replace HO507 := am_ (Kd.R_below (ur_ HO507.out) hb); have BK509 := am_ (hbox); have GW509 := am_ ((by rw [hg]; exact (below_size (ue_ HB.out)) : w.heap.size ≤ gb509)); have GE509 := am_ ((by rw [hg]; exact (below_size (ue_ HB.out)) : w.heap.size ≤ gb509)); replace HB := am_ (below_step (ue_ HB.out) hb); have NB503_509 := am_ ((by rw [hg]; exact Nat.ne_of_lt (bl_ BK503.out) : gb503 ≠ gb509)); have NB509_503 := am_ ((by rw [hg]; exact Nat.ne_of_gt (bl_ BK503.out) : gb509 ≠ gb503)); replace BK503 := am_ (bb_ BK503.out hb); have NB504_509 := am_ ((by rw [hg]; exact Nat.ne_of_lt (bl_ BK504.out) : gb504 ≠ gb509)); have NB509_504 := am_ ((by rw [hg]; exact Nat.ne_of_gt (bl_ BK504.out) : gb509 ≠ gb504)); replace BK504 := am_ (bb_ BK504.out hb); clear hb hbox hg; obtain ⟨Ao13, co13, eo13⟩ := Kd.R_slice HO507.out; subst eo13; have hnb14 := NB509_503.out; have hnc14 := NB503_509.out; have hnb15 := NB509_504.out; have hnc15 := NB504_509.out; obtain ⟨hcz16_0, hcz16_1⟩ := cb2_ BK509.out; have hfz16_0 := blk_frozen BK509.out 0; have hfz16_1 := blk_frozen BK509.out 1) | ((with_reducible refine gate_store (t := 47) (p := 6) rfl ?_); refine st_ (w1 := ((w12.setCell ⟨gb509, 0, none⟩ (.slice Ao13 t505.length co13)).setCell ⟨gb509, 1, none⟩ (.bool t508))) ?_; intro w17 hw; replace HO507 : Aside0 (Kd.R (Kd.int .u8) 5 w17 w.heap.size (fun _ => True) (.slice Ao13 t505.length co13) t505) := ⟨(by rw [hw]; exact (by (with_reducible repeat (first | apply Kd.R_alloc | apply Kd.R_drewN | apply Kd.R_drew)); exact Kd.R_mono (Rf2_ (g := gb509) (Kd.R_types HO507.out BK509.out (by decide))) (fun _ hk => trivial)))⟩; replace BK503 : Aside0 (w17.heap[gb503]? = some (.cells #[.slice A0_0 l0_0.length c0_0, .bool true] 47 (0, 0))) := ⟨(by rw [hw]; exact (uf_ BK503.out))⟩; replace BK504 : Aside0 (w17.heap[gb504]? = some (.cells #[.slice none 0 0, .bool false] 47 (0, 0))) := ⟨(by rw [hw]; exact (uf_ BK504.out))⟩; replace BK509 : Aside0 (w17.heap[gb509]? = some (.cells #[.slice Ao13 t505.length co13, .bool t508] 47 (0, 0))) := ⟨(by rw [hw]; exact (by (with_reducible repeat first|apply bn_|apply bd_|apply ba_); apply bp2_; (with_reducible repeat first|apply bn_|apply bd_|apply ba_); exact BK509.out))⟩; replace HB : Aside0 (Below w.heap.size w w17) := ⟨(by rw [hw]; exact (ue_ HB.out))⟩; clear hw; obtain ⟨hcz18_0, hcz18_1⟩ := cb2_ BK503.out; have hfz18_0 := blk_frozen BK503.out 0; have hfz18_1 := blk_frozen BK503.out 1) | ((with_reducible refine gate_callee (f := 57) rfl ?_); refine goesL_ (some 10) rfl rfl Try.func57 (by kernel_rfl) rfl #[.agg #[.slice A0_0 l0_0.length c0_0, .bool true]] rfl ul_ ?_; (with_reducible refine (impl_DecoderOk.calls _ _ l0_0 true true _ ?side1 ?side2 A4.out).mono ?_); (case side1 => repeat (first | exact (Kd.C_below HR0_0.out HB.out) | (with_reducible refine Kd.C_alloc ?_ _) | (with_reducible refine Kd.C_drewN ?_ _) | (with_reducible refine Kd.C_drew ?_))); (case side2 => exact HC0_0.out); rintro e w19 ⟨rfl, hb⟩; refine ⟨_, rfl, ?_⟩; replace HO507 := am_ (Kd.R_below (ur_ HO507.out) hb); replace BK503 := am_ (bb_ BK503.out hb); replace BK504 := am_ (bb_ BK504.out hb); replace BK509 := am_ (bb_ BK509.out hb); replace HB := am_ (below_step (ue_ HB.out) hb); (try clear hb); (try clear hb2); (try clear hk); (try clear hi); obtain ⟨hcz20_0, hcz20_1⟩ := cb2_ BK503.out; obtain ⟨hfz20_0, hfz20_1⟩ := bf2_ BK503.out; obtain ⟨hcz21_0, hcz21_1⟩ := cb2_ BK509.out; obtain ⟨hfz21_0, hfz21_1⟩ := bf2_ BK509.out; obtain ⟨hcz22_0, hcz22_1⟩ := cb2_ BK504.out; have hfz22_0 := blk_frozen BK504.out 0; have hfz22_1 := blk_frozen BK504.out 1) | ((with_reducible refine gate_store (t := 47) (p := 4) rfl ?_); refine st_ (w1 := ((w19.setCell ⟨gb504, 0, none⟩ (.slice Ao13 t505.length co13)).setCell ⟨gb504, 1, none⟩ (.bool t508))) ?_; intro w23 hw; replace HO507 : Aside0 (Kd.R (Kd.int .u8) 5 w23 w.heap.size (fun _ => True) (.slice Ao13 t505.length co13) t505) := ⟨(by rw [hw]; exact (by (with_reducible repeat (first | apply Kd.R_alloc | apply Kd.R_drewN | apply Kd.R_drew)); exact Kd.R_mono (Rf2_ (g := gb504) (Kd.R_types HO507.out BK504.out (by decide))) (fun _ hk => trivial)))⟩; replace BK503 : Aside0 (w23.heap[gb503]? = some (.cells #[.slice A0_0 l0_0.length c0_0, .bool true] 47 (0, 0))) := ⟨(by rw [hw]; exact (uf_ BK503.out))⟩; replace BK504 : Aside0 (w23.heap[gb504]? = some (.cells #[.slice Ao13 t505.length co13, .bool t508] 47 (0, 0))) := ⟨(by rw [hw]; exact (by (with_reducible repeat first|apply bn_|apply bd_|apply ba_); apply bp2_; (with_reducible repeat first|apply bn_|apply bd_|apply ba_); exact BK504.out))⟩; replace BK509 : Aside0 (w23.heap[gb509]? = some (.cells #[.slice Ao13 t505.length co13, .bool t508] 47 (0, 0))) := ⟨(by rw [hw]; exact (uf_ BK509.out))⟩; replace HB : Aside0 (Below w.heap.size w w23) := ⟨(by rw [hw]; exact (ue_ HB.out))⟩; clear hw))
   refine bodyPost_ret (results_ct rfl _ _ gb504 47 #[.slice Ao13 t505.length co13, .bool t508] (0, 0) _ rfl (ub_ BK504.out) Try.underlying47 rfl (by kernel_rfl)) rfl ?_
   exact ⟨_, ew_, by (with_reducible repeat (first | apply Kd.R_alloc | apply Kd.R_drewN | apply Kd.R_drew)); exact HO507.out, ue_ HB.out⟩
  replace c6 := Bool.eq_false_iff.mpr c6
  subst c6
  have H1 : (if (wrap64 ((l0_0.length : Int) + (l1.length : Int))) > 400 then (some (t505, t508, false)) else (if t505.length + l1.length < 140737488355328 then (some ((t505 ++ l1), t508, true)) else (none))) = some (r1, r2, r3) := by rw [if_neg (show ¬ (false = true) by decide)] at H; exact H
  clear H
  have H := H1
  clear H1
  by_cases c24 : (wrap64 ((l0_0.length : Int) + (l1.length : Int))) > 400
  ·
   rw [if_pos c24] at H
   have c24b0 : decide (400 < (wrap64 ((l0_0.length : Int) + (l1.length : Int)))) = true := decide_eq_true c24
   clear c24
   simp only [Option.some.injEq, Prod.mk.injEq] at H
   obtain ⟨rfl, rfl, rfl⟩ := H
   go_enter Try.func19, Try.ntmps19
   go_wp2_with (first | ((with_reducible refine gate_dst (N := 2) rfl ?_); (try (refine gate_guard (by rfl) ?_; dsimp only)); refine bx_ (N := 2) (cs := #[.slice A0_0 l0_0.length c0_0, .bool false]) (t := 47) ?_; intro gb503 hg w25 hbox hb; have BK503 := am_ (hbox); have GW503 := am_ ((by rw [hg]; exact (below_size (ue_ HB.out)) : w.heap.size ≤ gb503)); have GE503 := am_ ((by rw [hg]; exact (below_size (ue_ HB.out)) : w.heap.size ≤ gb503)); replace HB := am_ (below_step (ue_ HB.out) hb); clear hb hbox hg) | ((with_reducible refine gate_dst (N := 4) rfl ?_); (try (refine gate_guard (by rfl) ?_; dsimp only)); refine bx_ (N := 4) (cs := #[.slice none 0 0, .bool false]) (t := 47) ?_; intro gb504 hg w26 hbox hb; have BK504 := am_ (hbox); have GW504 := am_ ((by rw [hg]; exact (below_size (ue_ HB.out)) : w.heap.size ≤ gb504)); have GE504 := am_ ((by rw [hg]; exact (below_size (ue_ HB.out)) : w.heap.size ≤ gb504)); replace HB := am_ (below_step (ue_ HB.out) hb); have NB503_504 := am_ ((by rw [hg]; exact Nat.ne_of_lt (bl_ BK503.out) : gb503 ≠ gb504)); have NB504_503 := am_ ((by rw [hg]; exact Nat.ne_of_gt (bl_ BK503.out) : gb504 ≠ gb503)); replace BK503 := am_ (bb_ BK503.out hb); clear hb hbox hg; have hnb27 := NB503_504.out; have hnc27 := NB504_503.out; obtain ⟨hcz28_0, hcz28_1⟩ := cb2_ BK503.out; have hfz28_0 := blk_frozen BK503.out 0; have hfz28_1 := blk_frozen BK503.out 1) | ((with_reducible refine gate_callee (f := 56) rfl ?_); refine goesL_ (some 8) rfl rfl Try.func56 (by kernel_rfl) rfl #[.agg #[.slice A0_0 l0_0.length c0_0, .bool false]] rfl ul_ ?_; (with_reducible refine (impl_ownDecoder.calls _ _ l0_0 false t505 t508 _ ?side1 ?side2 A3.out).mono ?_); (case side1 => repeat (first | exact (Kd.C_below HR0_0.out HB.out) | (with_reducible refine Kd.C_alloc ?_ _) | (with_reducible refine Kd.C_drewN ?_ _) | (with_reducible refine Kd.C_drew ?_))); (case side2 => exact HC0_0.out); rintro e w29 ⟨v506, rfl, ho0, hb⟩; refine ⟨_, rfl, ?_⟩; have HO507 := am_ (Kd.R_lower ho0 (below_size (ue_ HB.out))); replace BK503 := am_ (bb_ BK503.out hb); replace BK504 := am_ (bb_ BK504.out hb); replace HB := am_ (below_step (ue_ HB.out) hb); (try clear hb); (try clear hb2); (try clear hk); (try clear hi); (try clear ho0)) | ((with_reducible refine gate_dst (N := 6) rfl ?_); (try (refine gate_guard (by rfl) ?_; dsimp only)); refine bx_ (N := 6) (cs := #[.slice none 0 0, .bool false]) (t := 47) ?_; intro gb509 hg w30 hbox hb; replace HO507 := am_ (Kd.R_below (ur_ HO507.out) hb); have BK509 := am_ (hbox); have GW509 := am_ ((by rw [hg]; exact (below_size (ue_ HB.out)) : w.heap.size ≤ gb509)); have GE509 := am_ ((by rw [hg]; exact (below_size (ue_ HB.out)) : w.heap.size ≤ gb509)); replace HB := am_ (below_step (ue_ HB.out) hb); have NB503_509 := am_ ((by rw [hg]; exact Nat.ne_of_lt (bl_ BK503.out) : gb503 ≠ gb509)); have NB509_503 := am_ ((by rw [hg]; exact Nat.ne_of_gt (bl_ BK503.out) : gb509 ≠ gb503)); replace BK503 := am_ (bb_ BK503.out hb); have NB504_509 := am_ ((by rw [hg]; exact Nat.ne_of_lt (bl_ BK504.out) : gb504 ≠ gb509)); have NB509_504 := am_ ((by rw [hg]; exact Nat.ne_of_gt (bl_ BK504.out) : gb509 ≠ gb504)); replace BK504 := am_ (bb_ BK504.out hb); clear hb hbox hg; obtain ⟨Ao31, co31, eo31⟩ := Kd.R_slice HO507.out; subst eo31; have hnb32 := NB509_503.out; have hnc32 := NB503_509.out; have hnb33 := NB509_504.out; have hnc33 := NB504_509.out; obtain ⟨hcz34_0, hcz34_1⟩ := cb2_ BK509.out; have hfz34_0 := blk_frozen BK509.out 0; have hfz34_1 := blk_frozen BK509.out 1) | ((with_reducible refine gate_store (t := 47) (p := 6) rfl ?_); refine st_ (w1 := ((w30.setCell ⟨gb509, 0, none⟩ (.slice Ao31 t505.length co31)).setCell ⟨gb509, 1, none⟩ (.bool t508))) ?_; intro w35 hw; replace HO507 : Aside0 (Kd.R (Kd.int .u8) 5 w35 w.heap.size (fun _ => True) (.slice Ao31 t505.length co31) t505) := ⟨(by rw [hw]; exact (by (with_reducible repeat (first | apply Kd.R_alloc | apply Kd.R_drewN | apply Kd.R_drew)); exact Kd.R_mono (Rf2_ (g := gb509) (Kd.R_types HO507.out BK509.out (by decide))) (fun _ hk => trivial)))⟩; replace BK503 : Aside0 (w35.heap[gb503]? = some (.cells #[.slice A0_0 l0_0.length c0_0, .bool false] 47 (0, 0))) := ⟨(by rw [hw]; exact (uf_ BK503.out))⟩; replace BK504 : Aside0 (w35.heap[gb504]? = some (.cells #[.slice none 0 0, .bool false] 47 (0, 0))) := ⟨(by rw [hw]; exact (uf_ BK504.out))⟩; replace BK509 : Aside0 (w35.heap[gb509]? = some (.cells #[.slice Ao31 t505.length co31, .bool t508] 47 (0, 0))) := ⟨(by rw [hw]; exact (by (with_reducible repeat first|apply bn_|apply bd_|apply ba_); apply bp2_; (with_reducible repeat first|apply bn_|apply bd_|apply ba_); exact BK509.out))⟩; replace HB : Aside0 (Below w.heap.size w w35) := ⟨(by rw [hw]; exact (ue_ HB.out))⟩; clear hw; obtain ⟨hcz36_0, hcz36_1⟩ := cb2_ BK503.out; have hfz36_0 := blk_frozen BK503.out 0; have hfz36_1 := blk_frozen BK503.out 1) | ((with_reducible refine gate_callee (f := 57) rfl ?_); refine goesL_ (some 10) rfl rfl Try.func57 (by kernel_rfl) rfl #[.agg #[.slice A0_0 l0_0.length c0_0, .bool false]] rfl ul_ ?_; (with_reducible refine (impl_DecoderOk.calls _ _ l0_0 false true _ ?side1 ?side2 A4.out).mono ?_); (case side1 => repeat (first | exact (Kd.C_below HR0_0.out HB.out) | (with_reducible refine Kd.C_alloc ?_ _) | (with_reducible refine Kd.C_drewN ?_ _) | (with_reducible refine Kd.C_drew ?_))); (case side2 => exact HC0_0.out); rintro e w37 ⟨rfl, hb⟩; refine ⟨_, rfl, ?_⟩; replace HO507 := am_ (Kd.R_below (ur_ HO507.out) hb); replace BK503 := am_ (bb_ BK503.out hb); replace BK504 := am_ (bb_ BK504.out hb); replace BK509 := am_ (bb_ BK509.out hb); replace HB := am_ (below_step (ue_ HB.out) hb); (try clear hb); (try clear hb2); (try clear hk); (try clear hi); obtain ⟨hcz38_0, hcz38_1⟩ := cb2_ BK503.out; obtain ⟨hfz38_0, hfz38_1⟩ := bf2_ BK503.out; obtain ⟨hcz39_0, hcz39_1⟩ := cb2_ BK509.out; obtain ⟨hfz39_0, hfz39_1⟩ := bf2_ BK509.out; obtain ⟨hcz40_0, hcz40_1⟩ := cb2_ BK504.out; have hfz40_0 := blk_frozen BK504.out 0; have hfz40_1 := blk_frozen BK504.out 1) | ((with_reducible refine gate_store (t := 47) (p := 4) rfl ?_); refine st_ (w1 := ((w37.setCell ⟨gb504, 0, none⟩ (.slice Ao31 t505.length co31)).setCell ⟨gb504, 1, none⟩ (.bool t508))) ?_; intro w41 hw; replace HO507 : Aside0 (Kd.R (Kd.int .u8) 5 w41 w.heap.size (fun _ => True) (.slice Ao31 t505.length co31) t505) := ⟨(by rw [hw]; exact (by (with_reducible repeat (first | apply Kd.R_alloc | apply Kd.R_drewN | apply Kd.R_drew)); exact Kd.R_mono (Rf2_ (g := gb504) (Kd.R_types HO507.out BK504.out (by decide))) (fun _ hk => trivial)))⟩; replace BK503 : Aside0 (w41.heap[gb503]? = some (.cells #[.slice A0_0 l0_0.length c0_0, .bool false] 47 (0, 0))) := ⟨(by rw [hw]; exact (uf_ BK503.out))⟩; replace BK504 : Aside0 (w41.heap[gb504]? = some (.cells #[.slice Ao31 t505.length co31, .bool t508] 47 (0, 0))) := ⟨(by rw [hw]; exact (by (with_reducible repeat first|apply bn_|apply bd_|apply ba_); apply bp2_; (with_reducible repeat first|apply bn_|apply bd_|apply ba_); exact BK504.out))⟩; replace BK509 : Aside0 (w41.heap[gb509]? = some (.cells #[.slice Ao31 t505.length co31, .bool t508] 47 (0, 0))) := ⟨(by rw [hw]; exact (uf_ BK509.out))⟩; replace HB : Aside0 (Below w.heap.size w w41) := ⟨(by rw [hw]; exact (ue_ HB.out))⟩; clear hw))
   refine bodyPost_ret (results_ct rfl _ _ gb504 47 #[.slice Ao31 t505.length co31, .bool t508] (0, 0) _ rfl (ub_ BK504.out) Try.underlying47 rfl (by kernel_rfl)) rfl ?_
   exact ⟨_, ew_, by (with_reducible repeat (first | apply Kd.R_alloc | apply Kd.R_drewN | apply Kd.R_drew)); exact HO507.out, ue_ HB.out⟩
  rw [if_neg c24] at H
  have c24b0 : decide (400 < (wrap64 ((l0_0.length : Int) + (l1.length : Int)))) = false := decide_eq_false c24
  clear c24
  by_cases c42 : t505.length + l1.length < 140737488355328
  ·
   rw [if_pos c42] at H
   have LMc42 := Aside0.mk c42
   clear c42
   obtain ⟨y511, hy511⟩ : ∃ y_ : List Int, y_ = (t505 ++ l1) := ⟨_, rfl⟩
   replace H : (some (y511, t508, true)) = some (r1, r2, r3) := by first | (rw [hy511]; with_reducible exact H) | (have H2_ := (Option.bind_some _ _).symm.trans H; rw [hy511]; with_reducible exact H2_) | (have H2_ := (Option.bind_some _ _).symm.trans H; with_reducible exact H2_) | with_reducible exact H | (rw [hy511]; exact H) | exact H
   have Ny511 := Aside0.mk hy511
   clear hy511
   simp only [Option.some.injEq, Prod.mk.injEq] at H
   obtain ⟨rfl, rfl, rfl⟩ := H
   go_enter Try.func19, Try.ntmps19
   go_wp2_with (first | ((with_reducible refine gate_dst (N := 2) rfl ?_); (try (refine gate_guard (by rfl) ?_; dsimp only)); refine bx_ (N := 2) (cs := #[.slice A0_0 l0_0.length c0_0, .bool false]) (t := 47) ?_; intro gb503 hg w43 hbox hb; have BK503 := am_ (hbox); have GW503 := am_ ((by rw [hg]; exact (below_size (ue_ HB.out)) : w.heap.size ≤ gb503)); have GE503 := am_ ((by rw [hg]; exact (below_size (ue_ HB.out)) : w.heap.size ≤ gb503)); replace HB := am_ (below_step (ue_ HB.out) hb); clear hb hbox hg) | ((with_reducible refine gate_dst (N := 4) rfl ?_); (try (refine gate_guard (by rfl) ?_; dsimp only)); refine bx_ (N := 4) (cs := #[.slice none 0 0, .bool false]) (t := 47) ?_; intro gb504 hg w44 hbox hb; have BK504 := am_ (hbox); have GW504 := am_ ((by rw [hg]; exact (below_size (ue_ HB.out)) : w.heap.size ≤ gb504)); have GE504 := am_ ((by rw [hg]; exact (below_size (ue_ HB.out)) : w.heap.size ≤ gb504)); replace HB := am_ (below_step (ue_ HB.out) hb); have NB503_504 := am_ ((by rw [hg]; exact Nat.ne_of_lt (bl_ BK503.out) : gb503 ≠ gb504)); have NB504_503 := am_ ((by rw [hg]; exact Nat.ne_of_gt (bl_ BK503.out) : gb504 ≠ gb503)); replace BK503 := am_ (bb_ BK503.out hb); clear hb hbox hg; have hnb45 := NB503_504.out; have hnc45 := NB504_503.out; obtain ⟨hcz46_0, hcz46_1⟩ := cb2_ BK503.out; have hfz46_0 := blk_frozen BK503.out 0; have hfz46_1 := blk_frozen BK503.out 1) | ((with_reducible refine gate_callee (f := 56) rfl ?_); refine goesL_ (some 8) rfl rfl Try.func56 (by kernel_rfl) rfl #[.agg #[.slice A0_0 l0_0.length c0_0, .bool false]] rfl ul_ ?_; (with_reducible refine (impl_ownDecoder.calls _ _ l0_0 false t505 t508 _ ?side1 ?side2 A3.out).mono ?_); (case side1 => repeat (first | exact (Kd.C_below HR0_0.out HB.out) | (with_reducible refine Kd.C_alloc ?_ _) | (with_reducible refine Kd.C_drewN ?_ _) | (with_reducible refine Kd.C_drew ?_))); (case side2 => exact HC0_0.out); rintro e w47 ⟨v506, rfl, ho0, hb⟩; refine ⟨_, rfl, ?_⟩; have HO507 := am_ (Kd.R_lower ho0 (below_size (ue_ HB.out))); replace BK503 := am_ (bb_ BK503.out hb); replace BK504 := am_ (bb_ BK504.out hb); replace HB := am_ (below_step (ue_ HB.out) hb); (try clear hb); (try clear hb2); (try clear hk); (try clear hi); (try clear ho0)) | ((with_reducible refine gate_dst (N := 6) rfl ?_); (try (refine gate_guard (by rfl) ?_; dsimp only)); refine bx_ (N := 6) (cs := #[.slice none 0 0, .bool false]) (t := 47) ?_; intro gb509 hg w48 hbox hb; replace HO507 := am_ (Kd.R_below (ur_ HO507.out) hb); have BK509 := am_ (hbox); have GW509 := am_ ((by rw [hg]; exact (below_size (ue_ HB.out)) : w.heap.size ≤ gb509)); have GE509 := am_ ((by rw [hg]; exact (below_size (ue_ HB.out)) : w.heap.size ≤ gb509)); replace HB := am_ (below_step (ue_ HB.out) hb); have NB503_509 := am_ ((by rw [hg]; exact Nat.ne_of_lt (bl_ BK503.out) : gb503 ≠ gb509)); have NB509_503 := am_ ((by rw [hg]; exact Nat.ne_of_gt (bl_ BK503.out) : gb509 ≠ gb503)); replace BK503 := am_ (bb_ BK503.out hb); have NB504_509 := am_ ((by rw [hg]; exact Nat.ne_of_lt (bl_ BK504.out) : gb504 ≠ gb509)); have NB509_504 := am_ ((by rw [hg]; exact Nat.ne_of_gt (bl_ BK504.out) : gb509 ≠ gb504)); replace BK504 := am_ (bb_ BK504.out hb); clear hb hbox hg; obtain ⟨Ao49, co49, eo49⟩ := Kd.R_slice HO507.out; subst eo49; have hnb50 := NB509_503.out; have hnc50 := NB503_509.out; have hnb51 := NB509_504.out; have hnc51 := NB504_509.out; obtain ⟨hcz52_0, hcz52_1⟩ := cb2_ BK509.out; have hfz52_0 := blk_frozen BK509.out 0; have hfz52_1 := blk_frozen BK509.out 1) | ((with_reducible refine gate_store (t := 47) (p := 6) rfl ?_); refine st_ (w1 := ((w48.setCell ⟨gb509, 0, none⟩ (.slice Ao49 t505.length co49)).setCell ⟨gb509, 1, none⟩ (.bool t508))) ?_; intro w53 hw; replace HO507 : Aside0 (Kd.R (Kd.int .u8) 5 w53 w.heap.size (fun _ => True) (.slice Ao49 t505.length co49) t505) := ⟨(by rw [hw]; exact (by (with_reducible repeat (first | apply Kd.R_alloc | apply Kd.R_drewN | apply Kd.R_drew)); exact Kd.R_mono (Rf2_ (g := gb509) (Kd.R_types HO507.out BK509.out (by decide))) (fun _ hk => trivial)))⟩; replace BK503 : Aside0 (w53.heap[gb503]? = some (.cells #[.slice A0_0 l0_0.length c0_0, .bool false] 47 (0, 0))) := ⟨(by rw [hw]; exact (uf_ BK503.out))⟩; replace BK504 : Aside0 (w53.heap[gb504]? = some (.cells #[.slice none 0 0, .bool false] 47 (0, 0))) := ⟨(by rw [hw]; exact (uf_ BK504.out))⟩; replace BK509 : Aside0 (w53.heap[gb509]? = some (.cells #[.slice Ao49 t505.length co49, .bool t508] 47 (0, 0))) := ⟨(by rw [hw]; exact (by (with_reducible repeat first|apply bn_|apply bd_|apply ba_); apply bp2_; (with_reducible repeat first|apply bn_|apply bd_|apply ba_); exact BK509.out))⟩; replace HB : Aside0 (Below w.heap.size w w53) := ⟨(by rw [hw]; exact (ue_ HB.out))⟩; clear hw; obtain ⟨hcz54_0, hcz54_1⟩ := cb2_ BK503.out; have hfz54_0 := blk_frozen BK503.out 0; have hfz54_1 := blk_frozen BK503.out 1) | ((with_reducible refine gate_callee (f := 57) rfl ?_); refine goesL_ (some 10) rfl rfl Try.func57 (by kernel_rfl) rfl #[.agg #[.slice A0_0 l0_0.length c0_0, .bool false]] rfl ul_ ?_; (with_reducible refine (impl_DecoderOk.calls _ _ l0_0 false true _ ?side1 ?side2 A4.out).mono ?_); (case side1 => repeat (first | exact (Kd.C_below HR0_0.out HB.out) | (with_reducible refine Kd.C_alloc ?_ _) | (with_reducible refine Kd.C_drewN ?_ _) | (with_reducible refine Kd.C_drew ?_))); (case side2 => exact HC0_0.out); rintro e w55 ⟨rfl, hb⟩; refine ⟨_, rfl, ?_⟩; replace HO507 := am_ (Kd.R_below (ur_ HO507.out) hb); replace BK503 := am_ (bb_ BK503.out hb); replace BK504 := am_ (bb_ BK504.out hb); replace BK509 := am_ (bb_ BK509.out hb); replace HB := am_ (below_step (ue_ HB.out) hb); (try clear hb); (try clear hb2); (try clear hk); (try clear hi); obtain ⟨hcz56_0, hcz56_1⟩ := cb2_ BK503.out; obtain ⟨hfz56_0, hfz56_1⟩ := bf2_ BK503.out; obtain ⟨hcz57_0, hcz57_1⟩ := cb2_ BK509.out; have hfz57_0 := blk_frozen BK509.out 0; have hfz57_1 := blk_frozen BK509.out 1) | ((with_reducible refine gate_builtin (b := .append) (xs := #[.tmp 27, .tmp 28]) rfl ?_); (try (refine gate_guard (by rfl) ?_; dsimp only)); at_builtin; refine Kd.R_append_rows (Kd.int .u8) (w0 := w) w.heap.size rfl (.tmp 27) (.tmp 28) 39 5 (.int .u8 0) 1 rfl Try.underlying39 info5 rfl (by decide) (by omega) (.slice Ao49 t505.length co49) t505 l1 _ _ _ (fun _ => True) (fun _ => False) rfl rfl ?aO ?aR (fun _ _ h => h) (fun _ h => h.elim) ?aF ?aB ?aS ?aL ?_; (case aR => repeat (first | exact (Kd.C_below HR1.out HB.out) | (with_reducible refine Kd.C_alloc ?_ _) | (with_reducible refine Kd.C_drewN ?_ _) | (with_reducible refine Kd.C_drew ?_))); (case aB => exact (ue_ HB.out)); (case aF => exact (fun _ _ => trivial)); (case aO => exact (ur_ HO507.out)); (case aS => exact (below_size (ue_ HB.out))); (case aL => have := LMc42.out; omega); intro v512 w58 ho hb hg hat; rw [← Ny511.out] at ho; replace BK503 := am_ (blk_grown (g := gb503) (o := .cells #[.slice A0_0 l0_0.length c0_0, .bool false] 47 (0, 0)) (ub_ BK503.out) hg (Kd.R_ne HO507.out BK503.out (by decide))); replace BK504 := am_ (blk_grown (g := gb504) (o := .cells #[.slice none 0 0, .bool false] 47 (0, 0)) (ub_ BK504.out) hg (Kd.R_ne HO507.out BK504.out (by decide))); replace BK509 := am_ (blk_grown (g := gb509) (o := .cells #[.slice Ao49 t505.length co49, .bool t508] 47 (0, 0)) (ub_ BK509.out) hg (Kd.R_ne HO507.out BK509.out (by decide))); replace HB := am_ (hb); have HO513 := am_ (ho); clear HO507; clear ho hb hg hat; obtain ⟨Ao59, co59, eo59⟩ := Kd.R_slice HO513.out; subst eo59; obtain ⟨hcz60_0, hcz60_1⟩ := cb2_ BK509.out; have hfz60_0 := blk_frozen BK509.out 0; have hfz60_1 := blk_frozen BK509.out 1) | ((with_reducible refine gate_store (t := 39) (p := 30) rfl ?_); refine st_ (w1 := (w58.setCell ⟨gb509, 0, none⟩ (.slice Ao59 y511.length co59))) ?_; intro w61 hw; replace HO513 : Aside0 (Kd.R (Kd.int .u8) 5 w61 w.heap.size (fun _ => True) (.slice Ao59 y511.length co59) y511) := ⟨(by rw [hw]; exact (by (with_reducible repeat (first | apply Kd.R_alloc | apply Kd.R_drewN | apply Kd.R_drew)); exact Kd.R_mono (Kd.R_far (p := ⟨gb509, 0, none⟩) (Kd.R_types HO513.out BK509.out (by decide)) h2_ (.slice Ao59 y511.length co59)) (fun _ hk => trivial)))⟩; replace BK503 : Aside0 (w61.heap[gb503]? = some (.cells #[.slice A0_0 l0_0.length c0_0, .bool false] 47 (0, 0))) := ⟨(by rw [hw]; exact (uf_ BK503.out))⟩; replace BK504 : Aside0 (w61.heap[gb504]? = some (.cells #[.slice none 0 0, .bool false] 47 (0, 0))) := ⟨(by rw [hw]; exact (uf_ BK504.out))⟩; replace BK509 : Aside0 (w61.heap[gb509]? = some (.cells #[.slice Ao59 y511.length co59, .bool t508] 47 (0, 0))) := ⟨(by rw [hw]; exact (by (with_reducible repeat first|apply bn_|apply bd_|apply ba_); refine blk_put (cs := #[.slice Ao49 t505.length co49, .bool t508]) ?_ 0 _ rfl; (with_reducible repeat first|apply bn_|apply bd_|apply ba_); exact BK509.out))⟩; replace HB : Aside0 (Below w.heap.size w w61) := ⟨(by rw [hw]; exact (ue_ HB.out))⟩; clear hw; obtain ⟨hcz62_0, hcz62_1⟩ := cb2_ BK509.out; obtain ⟨hfz62_0, hfz62_1⟩ := bf2_ BK509.out; obtain ⟨hcz63_0, hcz63_1⟩ := cb2_ BK504.out; have hfz63_0 := blk_frozen BK504.out 0; have hfz63_1 := blk_frozen BK504.out 1) | ((with_reducible refine gate_store (t := 47) (p := 4) rfl ?_); refine st_ (w1 := ((w61.setCell ⟨gb504, 0, none⟩ (.slice Ao59 y511.length co59)).setCell ⟨gb504, 1, none⟩ (.bool t508))) ?_; intro w64 hw; replace HO513 : Aside0 (Kd.R (Kd.int .u8) 5 w64 w.heap.size (fun _ => True) (.slice Ao59 y511.length co59) y511) := ⟨(by rw [hw]; exact (by (with_reducible repeat (first | apply Kd.R_alloc | apply Kd.R_drewN | apply Kd.R_drew)); exact Kd.R_mono (Rf2_ (g := gb504) (Kd.R_types HO513.out BK504.out (by decide))) (fun _ hk => trivial)))⟩; replace BK503 : Aside0 (w64.heap[gb503]? = some (.cells #[.slice A0_0 l0_0.length c0_0, .bool false] 47 (0, 0))) := ⟨(by rw [hw]; exact (uf_ BK503.out))⟩; replace BK504 : Aside0 (w64.heap[gb504]? = some (.cells #[.slice Ao59 y511.length co59, .bool t508] 47 (0, 0))) := ⟨(by rw [hw]; exact (by (with_reducible repeat first|apply bn_|apply bd_|apply ba_); apply bp2_; (with_reducible repeat first|apply bn_|apply bd_|apply ba_); exact BK504.out))⟩; replace BK509 : Aside0 (w64.heap[gb509]? = some (.cells #[.slice Ao59 y511.length co59, .bool t508] 47 (0, 0))) := ⟨(by rw [hw]; exact (uf_ BK509.out))⟩; replace HB : Aside0 (Below w.heap.size w w64) := ⟨(by rw [hw]; exact (ue_ HB.out))⟩; clear hw))
   refine bodyPost_ret (results_ct rfl _ _ gb504 47 #[.slice Ao59 y511.length co59, .bool t508] (0, 0) _ rfl (ub_ BK504.out) Try.underlying47 rfl (by kernel_rfl)) rfl ?_
   exact ⟨_, ew_, by (with_reducible repeat (first | apply Kd.R_alloc | apply Kd.R_drewN | apply Kd.R_drew)); exact HO513.out, ue_ HB.out⟩
  rw [if_neg c42] at H
  exact absurd H (by simp)
 replace c5 := Bool.eq_false_iff.mpr c5
 subst c5
 have H1 : (some (t505, t508, false)) = some (r1, r2, r3) := by rw [if_neg (show ¬ (false = true) by decide)] at H; exact H
 clear H
 have H := H1
 clear H1
 simp only [Option.some.injEq, Prod.mk.injEq] at H
 obtain ⟨rfl, rfl, rfl⟩ := H
 go_enter Try.func19, Try.ntmps19
 go_wp2_with (first | ((with_reducible refine gate_dst (N := 2) rfl ?_); (try (refine gate_guard (by rfl) ?_; dsimp only)); refine bx_ (N := 2) (cs := #[.slice A0_0 l0_0.length c0_0, .bool a0_1]) (t := 47) ?_; intro gb503 hg w65 hbox hb; have BK503 := am_ (hbox); have GW503 := am_ ((by rw [hg]; exact (below_size (ue_ HB.out)) : w.heap.size ≤ gb503)); have GE503 := am_ ((by rw [hg]; exact (below_size (ue_ HB.out)) : w.heap.size ≤ gb503)); replace HB := am_ (below_step (ue_ HB.out) hb); clear hb hbox hg) | ((with_reducible refine gate_dst (N := 4) rfl ?_); (try (refine gate_guard (by rfl) ?_; dsimp only)); refine bx_ (N := 4) (cs := #[.slice none 0 0, .bool false]) (t := 47) ?_; intro gb504 hg w66 hbox hb; have BK504 := am_ (hbox); have GW504 := am_ ((by rw [hg]; exact (below_size (ue_ HB.out)) : w.heap.size ≤ gb504)); have GE504 := am_ ((by rw [hg]; exact (below_size (ue_ HB.out)) : w.heap.size ≤ gb504)); replace HB := am_ (below_step (ue_ HB.out) hb); have NB503_504 := am_ ((by rw [hg]; exact Nat.ne_of_lt (bl_ BK503.out) : gb503 ≠ gb504)); have NB504_503 := am_ ((by rw [hg]; exact Nat.ne_of_gt (bl_ BK503.out) : gb504 ≠ gb503)); replace BK503 := am_ (bb_ BK503.out hb); clear hb hbox hg; have hnb67 := NB503_504.out; have hnc67 := NB504_503.out; obtain ⟨hcz68_0, hcz68_1⟩ := cb2_ BK503.out; have hfz68_0 := blk_frozen BK503.out 0; have hfz68_1 := blk_frozen BK503.out 1) | ((with_reducible refine gate_callee (f := 56) rfl ?_); refine goesL_ (some 8) rfl rfl Try.func56 (by kernel_rfl) rfl #[.agg #[.slice A0_0 l0_0.length c0_0, .bool a0_1]] rfl ul_ ?_; (with_reducible refine (impl_ownDecoder.calls _ _ l0_0 a0_1 t505 t508 _ ?side1 ?side2 A3.out).mono ?_); (case side1 => repeat (first | exact (Kd.C_below HR0_0.out HB.out) | (with_reducible refine Kd.C_alloc ?_ _) | (with_reducible refine Kd.C_drewN ?_ _) | (with_reducible refine Kd.C_drew ?_))); (case side2 => exact HC0_0.out); rintro e w69 ⟨v506, rfl, ho0, hb⟩; refine ⟨_, rfl, ?_⟩; have HO507 := am_ (Kd.R_lower ho0 (below_size (ue_ HB.out))); replace BK503 := am_ (bb_ BK503.out hb); replace BK504 := am_ (bb_ BK504.out hb); replace HB := am_ (below_step (ue_ HB.out) hb); (try clear hb); (try clear hb2); (try clear hk); (try clear hi); (try clear ho0)) | ((with_reducible refine gate_dst (N := 6) rfl ?_); (try (refine gate_guard (by rfl) ?_; dsimp only)); refine bx_ (N := 6) (cs := #[.slice none 0 0, .bool false]) (t := 47) ?_; intro gb509 hg w70 hbox hb; replace HO507 := am_ (Kd.R_below (ur_ HO507.out) hb); have BK509 := am_ (hbox); have GW509 := am_ ((by rw [hg]; exact (below_size (ue_ HB.out)) : w.heap.size ≤ gb509)); have GE509 := am_ ((by rw [hg]; exact (below_size (ue_ HB.out)) : w.heap.size ≤ gb509)); replace HB := am_ (below_step (ue_ HB.out) hb); have NB503_509 := am_ ((by rw [hg]; exact Nat.ne_of_lt (bl_ BK503.out) : gb503 ≠ gb509)); have NB509_503 := am_ ((by rw [hg]; exact Nat.ne_of_gt (bl_ BK503.out) : gb509 ≠ gb503)); replace BK503 := am_ (bb_ BK503.out hb); have NB504_509 := am_ ((by rw [hg]; exact Nat.ne_of_lt (bl_ BK504.out) : gb504 ≠ gb509)); have NB509_504 := am_ ((by rw [hg]; exact Nat.ne_of_gt (bl_ BK504.out) : gb509 ≠ gb504)); replace BK504 := am_ (bb_ BK504.out hb); clear hb hbox hg; obtain ⟨Ao71, co71, eo71⟩ := Kd.R_slice HO507.out; subst eo71; have hnb72 := NB509_503.out; have hnc72 := NB503_509.out; have hnb73 := NB509_504.out; have hnc73 := NB504_509.out; obtain ⟨hcz74_0, hcz74_1⟩ := cb2_ BK509.out; have hfz74_0 := blk_frozen BK509.out 0; have hfz74_1 := blk_frozen BK509.out 1) | ((with_reducible refine gate_store (t := 47) (p := 6) rfl ?_); refine st_ (w1 := ((w70.setCell ⟨gb509, 0, none⟩ (.slice Ao71 t505.length co71)).setCell ⟨gb509, 1, none⟩ (.bool t508))) ?_; intro w75 hw; replace HO507 : Aside0 (Kd.R (Kd.int .u8) 5 w75 w.heap.size (fun _ => True) (.slice Ao71 t505.length co71) t505) := ⟨(by rw [hw]; exact (by (with_reducible repeat (first | apply Kd.R_alloc | apply Kd.R_drewN | apply Kd.R_drew)); exact Kd.R_mono (Rf2_ (g := gb509) (Kd.R_types HO507.out BK509.out (by decide))) (fun _ hk => trivial)))⟩; replace BK503 : Aside0 (w75.heap[gb503]? = some (.cells #[.slice A0_0 l0_0.length c0_0, .bool a0_1] 47 (0, 0))) := ⟨(by rw [hw]; exact (uf_ BK503.out))⟩; replace BK504 : Aside0 (w75.heap[gb504]? = some (.cells #[.slice none 0 0, .bool false] 47 (0, 0))) := ⟨(by rw [hw]; exact (uf_ BK504.out))⟩; replace BK509 : Aside0 (w75.heap[gb509]? = some (.cells #[.slice Ao71 t505.length co71, .bool t508] 47 (0, 0))) := ⟨(by rw [hw]; exact (by (with_reducible repeat first|apply bn_|apply bd_|apply ba_); apply bp2_; (with_reducible repeat first|apply bn_|apply bd_|apply ba_); exact BK509.out))⟩; replace HB : Aside0 (Below w.heap.size w w75) := ⟨(by rw [hw]; exact (ue_ HB.out))⟩; clear hw; obtain ⟨hcz76_0, hcz76_1⟩ := cb2_ BK503.out; have hfz76_0 := blk_frozen BK503.out 0; have hfz76_1 := blk_frozen BK503.out 1) | ((with_reducible refine gate_callee (f := 57) rfl ?_); refine goesL_ (some 10) rfl rfl Try.func57 (by kernel_rfl) rfl #[.agg #[.slice A0_0 l0_0.length c0_0, .bool a0_1]] rfl ul_ ?_; (with_reducible refine (impl_DecoderOk.calls _ _ l0_0 a0_1 false _ ?side1 ?side2 A4.out).mono ?_); (case side1 => repeat (first | exact (Kd.C_below HR0_0.out HB.out) | (with_reducible refine Kd.C_alloc ?_ _) | (with_reducible refine Kd.C_drewN ?_ _) | (with_reducible refine Kd.C_drew ?_))); (case side2 => exact HC0_0.out); rintro e w77 ⟨rfl, hb⟩; refine ⟨_, rfl, ?_⟩; replace HO507 := am_ (Kd.R_below (ur_ HO507.out) hb); replace BK503 := am_ (bb_ BK503.out hb); replace BK504 := am_ (bb_ BK504.out hb); replace BK509 := am_ (bb_ BK509.out hb); replace HB := am_ (below_step (ue_ HB.out) hb); (try clear hb); (try clear hb2); (try clear hk); (try clear hi); obtain ⟨hcz78_0, hcz78_1⟩ := cb2_ BK509.out; obtain ⟨hfz78_0, hfz78_1⟩ := bf2_ BK509.out; obtain ⟨hcz79_0, hcz79_1⟩ := cb2_ BK504.out; have hfz79_0 := blk_frozen BK504.out 0; have hfz79_1 := blk_frozen BK504.out 1) | ((with_reducible refine gate_store (t := 47) (p := 4) rfl ?_); refine st_ (w1 := ((w77.setCell ⟨gb504, 0, none⟩ (.slice Ao71 t505.length co71)).setCell ⟨gb504, 1, none⟩ (.bool t508))) ?_; intro w80 hw; replace HO507 : Aside0 (Kd.R (Kd.int .u8) 5 w80 w.heap.size (fun _ => True) (.slice Ao71 t505.length co71) t505) := ⟨(by rw [hw]; exact (by (with_reducible repeat (first | apply Kd.R_alloc | apply Kd.R_drewN | apply Kd.R_drew)); exact Kd.R_mono (Rf2_ (g := gb504) (Kd.R_types HO507.out BK504.out (by decide))) (fun _ hk => trivial)))⟩; replace BK503 : Aside0 (w80.heap[gb503]? = some (.cells #[.slice A0_0 l0_0.length c0_0, .bool a0_1] 47 (0, 0))) := ⟨(by rw [hw]; exact (uf_ BK503.out))⟩; replace BK504 : Aside0 (w80.heap[gb504]? = some (.cells #[.slice Ao71 t505.length co71, .bool t508] 47 (0, 0))) := ⟨(by rw [hw]; exact (by (with_reducible repeat first|apply bn_|apply bd_|apply ba_); apply bp2_; (with_reducible repeat first|apply bn_|apply bd_|apply ba_); exact BK504.out))⟩; replace BK509 : Aside0 (w80.heap[gb509]? = some (.cells #[.slice Ao71 t505.length co71, .bool t508] 47 (0, 0))) := ⟨(by rw [hw]; exact (uf_ BK509.out))⟩; replace HB : Aside0 (Below w.heap.size w w80) := ⟨(by rw [hw]; exact (ue_ HB.out))⟩; clear hw))
 refine bodyPost_ret (results_ct rfl _ _ gb504 47 #[.slice Ao71 t505.length co71, .bool t508] (0, 0) _ rfl (ub_ BK504.out) Try.underlying47 rfl (by kernel_rfl)) rfl ?_
 exact ⟨_, ew_, by (with_reducible repeat (first | apply Kd.R_alloc | apply Kd.R_drewN | apply Kd.R_drew)); exact HO507.out, ue_ HB.out⟩

/-! ### impl_TakeNext: function 20 -/
def impl_TakeNext.j0 : Nat → Bool → List Int → Bool → Option (List Int × Bool × Int × Int × Int × Int × Int)
 | 0, _, _, _ => none
 | k + 1, x13, x515000, x515001 => if x13 = true then ((impl_ownDecoder.f x515000 x515001).bind fun bt518 => (some (bt518.1, bt518.2, 0, 0, 0, 0, 2))) else ((impl_TakeFrame.f k x515000).bind fun bt522 => (if bt522.2.2.2.2 = (-1) then (some (([] : List Int), true, 0, 0, 0, 0, 2)) else (if bt522.2.2.2.2 = 0 then ((impl_ownDecoder.f x515000 x515001).bind fun bt528 => (some (bt528.1, bt528.2, 0, 0, 0, 0, 1))) else (if 0 ≤ bt522.2.2.2.2 then (if bt522.2.2.2.2 ≤ (x515000.length : Int) then ((slices_Clone_byte_byte.f (x515000.drop (bt522.2.2.2.2 : Int).toNat)).bind fun t533 => (some (t533, false, bt522.1, bt522.2.1, bt522.2.2.1, bt522.2.2.2.1, 0))) else (none)) else (none)))))
def impl_TakeNext.f (k : Nat) (l0_0 : List Int) (a0_1 : Bool) : Option (List Int × Bool × Int × Int × Int × Int × Int) := (impl_DecoderOk.f l0_0 a0_1).bind fun t517 => (if t517 = true then (impl_TakeNext.j0 k a0_1 l0_0 a0_1) else (impl_TakeNext.j0 k true l0_0 a0_1))
theorem impl_TakeNext.mono_l : ∀ k, (∀ y0 y1 y2, LeO (impl_TakeNext.j0 k y0 y1 y2) (impl_TakeNext.j0 (k + 1) y0 y1 y2))
 | 0 => fun _ _ _ r h => by simp [impl_TakeNext.j0] at h
 | k + 1 => by
  have ih0 := impl_TakeNext.mono_l k
  intro y0 y1 y2
  unfold impl_TakeNext.j0
  repeat' first
  | (with_reducible exact ih0 _ _ _)
  | (with_reducible exact impl_TakeFrame.mono _ _)
  | (with_reducible exact LeO.refl _)
  | (with_reducible exact LeO.none _)
  | (with_reducible refine LeO.ite ?_ ?_)
  | (with_reducible refine LeO.bind ?_ (fun _ => ?_))
  | exact ih0 _ _ _
  | exact impl_TakeFrame.mono _ _
  | exact LeO.none _
  | refine LeO.ite ?_ ?_
  | refine LeO.bind ?_ (fun _ => ?_)
theorem impl_TakeNext.mono : ∀ a0 a1 k, LeO (impl_TakeNext.f k a0 a1) (impl_TakeNext.f (k + 1) a0 a1) := by
 intro a0 a1 k
 have ih0 := impl_TakeNext.mono_l k
 unfold impl_TakeNext.f
 repeat' first
   | (with_reducible exact ih0 _ _ _)
   | (with_reducible exact impl_TakeFrame.mono _ _)
   | (with_reducible exact LeO.refl _)
   | (with_reducible exact LeO.none _)
   | (with_reducible refine LeO.ite ?_ ?_)
   | (with_reducible refine LeO.bind ?_ (fun _ => ?_))
   | exact ih0 _ _ _
   | exact impl_TakeFrame.mono _ _
   | exact LeO.none _
   | refine LeO.ite ?_ ?_
   | refine LeO.bind ?_ (fun _ => ?_)
def impl_TakeNext.T9 : Bool × List (List Nat × List Nat) := (true, [([], []), ([0], [0]), ([], []), ([1, 2], [1, 2]), ([3], [3]), ([4], [4]), ([], []), ([5, 4, 0, 1, 2, 3, 4, 5], [5]), ([6, 7, 0, 1, 2, 3, 4, 5, 6, 7], [6]), ([8, 0, 1, 2, 3, 4, 5, 6, 7, 8], [])])
def impl_TakeNext.B9 : List Nat := [0, 1, 0, 7, 15, 31, 0, 63, 255, 511]
theorem impl_TakeNext.tab9 : rtab .any (opsOf Try.f20 9) = impl_TakeNext.T9 := by kernel_rfl
theorem impl_TakeNext.bits9 : waitsOk impl_TakeNext.T9.2 impl_TakeNext.B9 = true := by kernel_rfl
set_option maxHeartbeats 8000000 in
set_option maxRecDepth 100000 in
theorem impl_TakeNext.calls (k : Nat) (A0_0 : Option Addr) (c0_0 : Nat) (l0_0 : List Int) (a0_1 : Bool) (r1 : List Int) (r2 : Bool) (r3 : Int) (r4 : Int) (r5 : Int) (r6 : Int) (r7 : Int) (w : World) (hr0_0 : Kd.C (Kd.int .u8) w A0_0 l0_0.length l0_0) (hc0_0 : l0_0.length ≤ c0_0) (h : impl_TakeNext.f k l0_0 a0_1 = some (r1, r2, r3, r4, r5, r6, r7)) :
  Calls Try.prog 20 #[.agg #[.slice A0_0 l0_0.length c0_0, .bool a0_1]] w fun e w' => ∃ v0_ : Value, e = .returned (.tuple #[.agg #[v0_, .bool r2], .agg #[.int .i64 r3, .int .i64 r4, .int .i64 r5, .int .i64 r6], .int .i64 r7]) ∧ Kd.R (Kd.int .u8) 5 w' w.heap.size (fun _ => True) v0_ r1 ∧ Below w.heap.size w w' := by
 have hu47 := Try.underlying47
 have hu34 := Try.underlying34
 have HR0_0 := Aside0.mk hr0_0
 have HC0_0 := Aside0.mk hc0_0
 clear hr0_0 hc0_0
 have HB := am_ (Below.refl w.heap.size w)
 have H : ((impl_DecoderOk.f l0_0 a0_1).bind fun t517 => (if t517 = true then (impl_TakeNext.j0 k a0_1 l0_0 a0_1) else (impl_TakeNext.j0 k true l0_0 a0_1))) = some (r1, r2, r3, r4, r5, r6, r7) := h
 clear h
 have HC2 := Aside0.mk H
 clear H
 go_enter Try.func20, Try.ntmps20
 go_upto_region 1 with (first | ((with_reducible refine gate_dst (N := 1) rfl ?_); refine bx_ (N := 1) (cs := #[.slice A0_0 l0_0.length c0_0, .bool a0_1]) (t := 47) ?_; intro gb514 hg w3 hbox hb; have BK514 := am_ (hbox); have GW514 := am_ ((by rw [hg]; exact (below_size (ue_ HB.out)) : w.heap.size ≤ gb514)); have GE514 := am_ ((by rw [hg]; exact (below_size (ue_ HB.out)) : w.heap.size ≤ gb514)); replace HB := am_ (below_step (ue_ HB.out) hb); clear hb hbox hg) | ((with_reducible refine gate_dst (N := 2) rfl ?_); refine bx_ (N := 2) (cs := #[.slice none 0 0, .bool false]) (t := 47) ?_; intro gb515 hg w4 hbox hb; have BK515 := am_ (hbox); have GW515 := am_ ((by rw [hg]; exact (below_size (ue_ HB.out)) : w.heap.size ≤ gb515)); have GE515 := am_ ((by rw [hg]; exact (below_size (ue_ HB.out)) : w.heap.size ≤ gb515)); replace HB := am_ (below_step (ue_ HB.out) hb); have NB514_515 := am_ ((by rw [hg]; exact Nat.ne_of_lt (bl_ BK514.out) : gb514 ≠ gb515)); have NB515_514 := am_ ((by rw [hg]; exact Nat.ne_of_gt (bl_ BK514.out) : gb515 ≠ gb514)); replace BK514 := am_ (bb_ BK514.out hb); clear hb hbox hg) | ((with_reducible refine gate_dst (N := 3) rfl ?_); refine bx_ (N := 3) (cs := #[.int .i64 0, .int .i64 0, .int .i64 0, .int .i64 0]) (t := 34) ?_; intro gb516 hg w5 hbox hb; have BK516 := am_ (hbox); have GW516 := am_ ((by rw [hg]; exact (below_size (ue_ HB.out)) : w.heap.size ≤ gb516)); have GE516 := am_ ((by rw [hg]; exact (below_size (ue_ HB.out)) : w.heap.size ≤ gb516)); replace HB := am_ (below_step (ue_ HB.out) hb); have NB514_516 := am_ ((by rw [hg]; exact Nat.ne_of_lt (bl_ BK514.out) : gb514 ≠ gb516)); have NB516_514 := am_ ((by rw [hg]; exact Nat.ne_of_gt (bl_ BK514.out) : gb516 ≠ gb514)); replace BK514 := am_ (bb_ BK514.out hb); have NB515_516 := am_ ((by rw [hg]; exact Nat.ne_of_lt (bl_ BK515.out) : gb515 ≠ gb516)); have NB516_515 := am_ ((by rw [hg]; exact Nat.ne_of_gt (bl_ BK515.out) : gb516 ≠ gb515)); replace BK515 := am_ (bb_ BK515.out hb); clear hb hbox hg))
 (try simp only [Act.put, List.setIfInBounds_toArray, List.set_cons_zero, List.set_cons_succ])
 go_cut [13] (fun v13 wc => ∃ (kq : Nat) (x13_1 : Bool), v13 = .bool x13_1 ∧ Aside0 (impl_TakeNext.j0 kq x13_1 l0_0 a0_1 = some (r1, r2, r3, r4, r5, r6, r7)) ∧ Aside0 (kq ≤ k) ∧ Aside0 (wc.heap[gb514]? = some (.cells #[(.slice A0_0 l0_0.length c0_0), .bool a0_1] 47 (0, 0))) ∧ Aside0 (wc.heap[gb515]? = some (.cells #[(.slice none 0 0), .bool false] 47 (0, 0))) ∧ Aside0 (wc.heap[gb516]? = some (.cells #[.int .i64 0, .int .i64 0, .int .i64 0, .int .i64 0] 34 (0, 0))) ∧ Aside0 (Below w.heap.size w wc))
 case first =>
  have H := HC2.out
  clear HC2
  replace H := Option.bind_eq_some_iff.mp H
  obtain ⟨t517, A60, H⟩ := H
  replace H : (if t517 = true then (impl_TakeNext.j0 k a0_1 l0_0 a0_1) else (impl_TakeNext.j0 k true l0_0 a0_1)) = some (r1, r2, r3, r4, r5, r6, r7) := H
  have A6 := Aside0.mk A60
  clear A60
  by_cases c7 : t517 = true
  ·
   subst c7
   have H1 : (impl_TakeNext.j0 k a0_1 l0_0 a0_1) = some (r1, r2, r3, r4, r5, r6, r7) := by rw [if_pos rfl] at H; exact H
   clear H
   have H := H1
   clear H1
   have H' := Aside0.mk H
   clear H
   have hnb8 := NB514_515.out
   have hnc8 := NB515_514.out
   have hnb9 := NB514_516.out
   have hnc9 := NB516_514.out
   have hcz10_0 := cb_ BK514.out 0 rfl
   have hcz10_1 := cb_ BK514.out 1 rfl
   have hfz10_0 := blk_frozen BK514.out 0
   have hfz10_1 := blk_frozen BK514.out 1
   go_wp2_with (first | ((with_reducible refine gate_callee (f := 57) rfl ?_); refine goesL_ (some 8) rfl rfl Try.func57 (by kernel_rfl) rfl #[.agg #[.slice A0_0 l0_0.length c0_0, .bool a0_1]] rfl ul_ ?_; (with_reducible refine (impl_DecoderOk.calls _ _ l0_0 a0_1 true _ ?side1 ?side2 A6.out).mono ?_); (case side1 => repeat (first | exact (Kd.C_below HR0_0.out HB.out) | (with_reducible refine Kd.C_alloc ?_ _) | (with_reducible refine Kd.C_drewN ?_ _) | (with_reducible refine Kd.C_drew ?_))); (case side2 => exact HC0_0.out); rintro e w11 ⟨rfl, hb⟩; refine ⟨_, rfl, ?_⟩; replace BK514 := am_ (bb_ BK514.out hb); replace BK515 := am_ (bb_ BK515.out hb); replace BK516 := am_ (bb_ BK516.out hb); replace HB := am_ (below_step (ue_ HB.out) hb); (try clear hb); (try clear hb2); (try clear hk); (try clear hi); obtain ⟨hcz12_0, hcz12_1⟩ := cb2_ BK514.out; have hfz12_0 := blk_frozen BK514.out 0; have hfz12_1 := blk_frozen BK514.out 1))
   go_meet
   case rel => exact ⟨_, (a0_1), (by first | rfl | (simp; done) | (simp [*]; done)), H', ⟨by first | omega | exact Nat.le_refl _⟩, ⟨by (with_reducible repeat first|apply bn_|apply bd_|apply ba_); exact BK514.out⟩, ⟨by (with_reducible repeat first|apply bn_|apply bd_|apply ba_); exact BK515.out⟩, ⟨by (with_reducible repeat first|apply bn_|apply bd_|apply ba_); exact BK516.out⟩, ⟨ue_ HB.out⟩⟩
  replace c7 := Bool.eq_false_iff.mpr c7
  subst c7
  have H1 : (impl_TakeNext.j0 k true l0_0 a0_1) = some (r1, r2, r3, r4, r5, r6, r7) := by rw [if_neg (show ¬ (false = true) by decide)] at H; exact H
  clear H
  have H := H1
  clear H1
  have H' := Aside0.mk H
  clear H
  have hnb13 := NB514_515.out
  have hnc13 := NB515_514.out
  have hnb14 := NB514_516.out
  have hnc14 := NB516_514.out
  have hcz15_0 := cb_ BK514.out 0 rfl
  have hcz15_1 := cb_ BK514.out 1 rfl
  have hfz15_0 := blk_frozen BK514.out 0
  have hfz15_1 := blk_frozen BK514.out 1
  go_wp2_with (first | ((with_reducible refine gate_callee (f := 57) rfl ?_); refine goesL_ (some 8) rfl rfl Try.func57 (by kernel_rfl) rfl #[.agg #[.slice A0_0 l0_0.length c0_0, .bool a0_1]] rfl ul_ ?_; (with_reducible refine (impl_DecoderOk.calls _ _ l0_0 a0_1 false _ ?side1 ?side2 A6.out).mono ?_); (case side1 => repeat (first | exact (Kd.C_below HR0_0.out HB.out) | (with_reducible refine Kd.C_alloc ?_ _) | (with_reducible refine Kd.C_drewN ?_ _) | (with_reducible refine Kd.C_drew ?_))); (case side2 => exact HC0_0.out); rintro e w16 ⟨rfl, hb⟩; refine ⟨_, rfl, ?_⟩; replace BK514 := am_ (bb_ BK514.out hb); replace BK515 := am_ (bb_ BK515.out hb); replace BK516 := am_ (bb_ BK516.out hb); replace HB := am_ (below_step (ue_ HB.out) hb); (try clear hb); (try clear hb2); (try clear hk); (try clear hi)))
  go_meet
  case rel => exact ⟨_, (true), (by first | rfl | (simp; done) | (simp [*]; done)), H', ⟨by first | omega | exact Nat.le_refl _⟩, ⟨by (with_reducible repeat first|apply bn_|apply bd_|apply ba_); exact BK514.out⟩, ⟨by (with_reducible repeat first|apply bn_|apply bd_|apply ba_); exact BK515.out⟩, ⟨by (with_reducible repeat first|apply bn_|apply bd_|apply ba_); exact BK516.out⟩, ⟨ue_ HB.out⟩⟩
 case rest =>
  clear HC2
  try clear c1
  try clear c2
  try clear p2
  try clear c5
  try clear c7
  try clear c8
  try clear c9
  try clear c13
  try clear c14
  try clear hcz10_0
  try clear hcz10_1
  try clear hcz12_0
  try clear hcz12_1
  try clear hcz15_0
  try clear hcz15_1
  try clear hfz10_0
  try clear hfz10_1
  try clear hfz12_0
  try clear hfz12_1
  try clear hfz15_0
  try clear hfz15_1
  obtain ⟨kq, x13_1, rfl, HA, HJ1, BK514, BK515, BK516, HB⟩ := hcut
  cases kq with
  | zero => exact absurd HA.out (by simp [impl_TakeNext.j0])
  | succ kj1 =>
   have H := HA.out
   clear HA
   simp only [impl_TakeNext.j0] at H
   by_cases c17 : x13_1 = true
   ·
    subst c17
    have H1 : ((impl_ownDecoder.f l0_0 a0_1).bind fun bt518 => (some (bt518.1, bt518.2, 0, 0, 0, 0, 2))) = some (r1, r2, r3, r4, r5, r6, r7) := by rw [if_pos rfl] at H; exact H
    clear H
    have H := H1
    clear H1
    replace H := Option.bind_eq_some_iff.mp H
    obtain ⟨⟨t518, t521⟩, A180, H⟩ := H
    replace H : (some (t518, t521, 0, 0, 0, 0, 2)) = some (r1, r2, r3, r4, r5, r6, r7) := H
    have A18 := Aside0.mk A180
    clear A180
    simp only [Option.some.injEq, Prod.mk.injEq] at H
    obtain ⟨rfl, rfl, rfl, rfl, rfl, rfl, rfl⟩ := H
    have hnb19 := NB514_515.out
    have hnc19 := NB515_514.out
    have hnb20 := NB514_516.out
    have hnc20 := NB516_514.out
    have hcz21_0 := cb_ BK514.out 0 rfl
    have hcz21_1 := cb_ BK514.out 1 rfl
    have hfz21_0 := blk_frozen BK514.out 0
    have hfz21_1 := blk_frozen BK514.out 1
    go_wp2_with (first | ((with_reducible refine gate_callee (f := 56) rfl ?_); refine goesL_ (some 15) rfl rfl Try.func56 (by kernel_rfl) rfl #[.agg #[.slice A0_0 l0_0.length c0_0, .bool a0_1]] rfl ul_ ?_; (with_reducible refine (impl_ownDecoder.calls _ _ l0_0 a0_1 t518 t521 _ ?side1 ?side2 A18.out).mono ?_); (case side1 => repeat (first | exact (Kd.C_below HR0_0.out HB.out) | (with_reducible refine Kd.C_alloc ?_ _) | (with_reducible refine Kd.C_drewN ?_ _) | (with_reducible refine Kd.C_drew ?_))); (case side2 => exact HC0_0.out); rintro e w22 ⟨v519, rfl, ho0, hb⟩; refine ⟨_, rfl, ?_⟩; have HO520 := am_ (Kd.R_lower ho0 (below_size (ue_ HB.out))); replace BK514 := am_ (bb_ BK514.out hb); replace BK515 := am_ (bb_ BK515.out hb); replace BK516 := am_ (bb_ BK516.out hb); replace HB := am_ (below_step (ue_ HB.out) hb); (try clear hb); (try clear hb2); (try clear hk); (try clear hi); (try clear ho0); obtain ⟨Ao23, co23, eo23⟩ := Kd.R_slice HO520.out; subst eo23; have hnb24 := NB515_516.out; have hnc24 := NB516_515.out; obtain ⟨hcz25_0, hcz25_1⟩ := cb2_ BK515.out; have hfz25_0 := blk_frozen BK515.out 0; have hfz25_1 := blk_frozen BK515.out 1) | ((with_reducible refine gate_store (t := 47) (p := 2) rfl ?_); refine st_ (w1 := ((w22.setCell ⟨gb515, 0, none⟩ (.slice Ao23 t518.length co23)).setCell ⟨gb515, 1, none⟩ (.bool t521))) ?_; intro w26 hw; replace HO520 : Aside0 (Kd.R (Kd.int .u8) 5 w26 w.heap.size (fun _ => True) (.slice Ao23 t518.length co23) t518) := ⟨(by rw [hw]; exact (by (with_reducible repeat (first | apply Kd.R_alloc | apply Kd.R_drewN | apply Kd.R_drew)); exact Kd.R_mono (Rf2_ (g := gb515) (Kd.R_types HO520.out BK515.out (by decide))) (fun _ hk => trivial)))⟩; replace BK514 : Aside0 (w26.heap[gb514]? = some (.cells #[.slice A0_0 l0_0.length c0_0, .bool a0_1] 47 (0, 0))) := ⟨(by rw [hw]; exact (uf_ BK514.out))⟩; replace BK515 : Aside0 (w26.heap[gb515]? = some (.cells #[.slice Ao23 t518.length co23, .bool t521] 47 (0, 0))) := ⟨(by rw [hw]; exact (by (with_reducible repeat first|apply bn_|apply bd_|apply ba_); apply bp2_; (with_reducible repeat first|apply bn_|apply bd_|apply ba_); exact BK515.out))⟩; replace BK516 : Aside0 (w26.heap[gb516]? = some (.cells #[.int .i64 0, .int .i64 0, .int .i64 0, .int .i64 0] 34 (0, 0))) := ⟨(by rw [hw]; exact (uf_ BK516.out))⟩; replace HB : Aside0 (Below w.heap.size w w26) := ⟨(by rw [hw]; exact (ue_ HB.out))⟩; clear hw; obtain ⟨hcz27_0, hcz27_1, hcz27_2, hcz27_3⟩ := cb4_ BK516.out; obtain ⟨hfz27_0, hfz27_1, hfz27_2⟩ := bf3_ BK516.out; have hfz27_3 := blk_frozen BK516.out 3) | ((with_reducible refine gate_store (t := 34) (p := 3) rfl ?_); refine st_ (w1 := ((((w26.setCell ⟨gb516, 0, none⟩ (.int .i64 0)).setCell ⟨gb516, 1, none⟩ (.int .i64 0)).setCell ⟨gb516, 2, none⟩ (.int .i64 0)).setCell ⟨gb516, 3, none⟩ (.int .i64 0))) ?_; intro w28 hw; replace HO520 : Aside0 (Kd.R (Kd.int .u8) 5 w28 w.heap.size (fun _ => True) (.slice Ao23 t518.length co23) t518) := ⟨(by rw [hw]; exact (by (with_reducible repeat (first | apply Kd.R_alloc | apply Kd.R_drewN | apply Kd.R_drew)); exact Kd.R_mono (Rf4_ (g := gb516) (Kd.R_types HO520.out BK516.out (by decide))) (fun _ hk => trivial)))⟩; replace BK514 : Aside0 (w28.heap[gb514]? = some (.cells #[.slice A0_0 l0_0.length c0_0, .bool a0_1] 47 (0, 0))) := ⟨(by rw [hw]; exact (uf_ BK514.out))⟩; replace BK515 : Aside0 (w28.heap[gb515]? = some (.cells #[.slice Ao23 t518.length co23, .bool t521] 47 (0, 0))) := ⟨(by rw [hw]; exact (uf_ BK515.out))⟩; replace BK516 : Aside0 (w28.heap[gb516]? = some (.cells #[.int .i64 0, .int .i64 0, .int .i64 0, .int .i64 0] 34 (0, 0))) := ⟨(by rw [hw]; exact (by (with_reducible repeat first|apply bn_|apply bd_|apply ba_); apply bp4_; (with_reducible repeat first|apply bn_|apply bd_|apply ba_); exact BK516.out))⟩; replace HB : Aside0 (Below w.heap.size w w28) := ⟨(by rw [hw]; exact (ue_ HB.out))⟩; clear hw))
    refine bodyPost_ret (results_list (rs := [.cell 2 47, .cell 3 34, .tmp 4]) rfl (by simp) (.cell gb515 47 #[.slice Ao23 t518.length co23, .bool t521] (0, 0) _ rfl (ub_ BK515.out) Try.underlying47 rfl (by kernel_rfl) (.cell gb516 34 #[.int .i64 0, .int .i64 0, .int .i64 0, .int .i64 0] (0, 0) _ rfl (ub_ BK516.out) Try.underlying34 rfl (by kernel_rfl) (.tmp .nil)))) rfl ?_
    exact ⟨_, ew_, by (with_reducible repeat (first | apply Kd.R_alloc | apply Kd.R_drewN | apply Kd.R_drew)); exact HO520.out, ue_ HB.out⟩
   replace c17 := Bool.eq_false_iff.mpr c17
   subst c17
   have H1 : ((impl_TakeFrame.f kj1 l0_0).bind fun bt522 => (if bt522.2.2.2.2 = (-1) then (some (([] : List Int), true, 0, 0, 0, 0, 2)) else (if bt522.2.2.2.2 = 0 then ((impl_ownDecoder.f l0_0 a0_1).bind fun bt528 => (some (bt528.1, bt528.2, 0, 0, 0, 0, 1))) else (if 0 ≤ bt522.2.2.2.2 then (if bt522.2.2.2.2 ≤ (l0_0.length : Int) then ((slices_Clone_byte_byte.f (l0_0.drop (bt522.2.2.2.2 : Int).toNat)).bind fun t533 => (some (t533, false, bt522.1, bt522.2.1, bt522.2.2.1, bt522.2.2.2.1, 0))) else (none)) else (none))))) = some (r1, r2, r3, r4, r5, r6, r7) := by rw [if_neg (show ¬ (false = true) by decide)] at H; exact H
   clear H
   have H := H1
   clear H1
   replace H := Option.bind_eq_some_iff.mp H
   obtain ⟨⟨t522, t523, t524, t525, t526⟩, A290, H⟩ := H
   replace H : (if t526 = (-1) then (some (([] : List Int), true, 0, 0, 0, 0, 2)) else (if t526 = 0 then ((impl_ownDecoder.f l0_0 a0_1).bind fun bt528 => (some (bt528.1, bt528.2, 0, 0, 0, 0, 1))) else (if 0 ≤ t526 then (if t526 ≤ (l0_0.length : Int) then ((slices_Clone_byte_byte.f (l0_0.drop (t526 : Int).toNat)).bind fun t533 => (some (t533, false, t522, t523, t524, t525, 0))) else (none)) else (none)))) = some (r1, r2, r3, r4, r5, r6, r7) := H
   have A29 := Aside0.mk A290
   clear A290
   by_cases c30 : t526 = (-1)
   ·
    rw [if_pos c30] at H
    have c30b0 : (t526 == (-1)) = true := beq_iff_eq.mpr c30
    have c30b1 : (t526 != (-1)) = false := bne_eq_false_iff_eq.mpr c30
    clear c30
    simp only [Option.some.injEq, Prod.mk.injEq] at H
    obtain ⟨rfl, rfl, rfl, rfl, rfl, rfl, rfl⟩ := H
    have hnb31 := NB514_515.out
    have hnc31 := NB515_514.out
    have hnb32 := NB514_516.out
    have hnc32 := NB516_514.out
    have hcz33_0 := cb_ BK514.out 0 rfl
    have hcz33_1 := cb_ BK514.out 1 rfl
    have hfz33_0 := blk_frozen BK514.out 0
    have hfz33_1 := blk_frozen BK514.out 1
    go_wp2_with (first | ((with_reducible refine gate_callee (f := 55) rfl ?_); refine goesL_ (some 20) rfl rfl Try.func55 (by kernel_rfl) rfl #[.slice A0_0 l0_0.length c0_0] rfl ul_ ?_; (with_reducible refine (impl_TakeFrame.calls kj1 _ _ l0_0 t522 t523 t524 t525 t526 _ ?side1 ?side2 A29.out).mono ?_); (case side1 => repeat (first | exact (Kd.C_below HR0_0.out HB.out) | (with_reducible refine Kd.C_alloc ?_ _) | (with_reducible refine Kd.C_drewN ?_ _) | (with_reducible refine Kd.C_drew ?_))); (case side2 => exact HC0_0.out); rintro e w34 ⟨rfl, hb⟩; refine ⟨_, rfl, ?_⟩; replace BK514 := am_ (bb_ BK514.out hb); replace BK515 := am_ (bb_ BK515.out hb); replace BK516 := am_ (bb_ BK516.out hb); replace HB := am_ (below_step (ue_ HB.out) hb); (try clear hb); (try clear hb2); (try clear hk); (try clear hi)) | ((with_reducible refine gate_dst (N := 5) rfl ?_); refine bx_ (N := 5) (cs := #[.int .i64 0, .int .i64 0, .int .i64 0, .int .i64 0]) (t := 34) ?_; intro gb527 hg w35 hbox hb; have BK527 := am_ (hbox); have GW527 := am_ ((by rw [hg]; exact (below_size (ue_ HB.out)) : w.heap.size ≤ gb527)); have GE527 := am_ ((by rw [hg]; exact (below_size (ue_ HB.out)) : w.heap.size ≤ gb527)); replace HB := am_ (below_step (ue_ HB.out) hb); have NB514_527 := am_ ((by rw [hg]; exact Nat.ne_of_lt (bl_ BK514.out) : gb514 ≠ gb527)); have NB527_514 := am_ ((by rw [hg]; exact Nat.ne_of_gt (bl_ BK514.out) : gb527 ≠ gb514)); replace BK514 := am_ (bb_ BK514.out hb); have NB515_527 := am_ ((by rw [hg]; exact Nat.ne_of_lt (bl_ BK515.out) : gb515 ≠ gb527)); have NB527_515 := am_ ((by rw [hg]; exact Nat.ne_of_gt (bl_ BK515.out) : gb527 ≠ gb515)); replace BK515 := am_ (bb_ BK515.out hb); have NB516_527 := am_ ((by rw [hg]; exact Nat.ne_of_lt (bl_ BK516.out) : gb516 ≠ gb527)); have NB527_516 := am_ ((by rw [hg]; exact Nat.ne_of_gt (bl_ BK516.out) : gb527 ≠ gb516)); replace BK516 := am_ (bb_ BK516.out hb); clear hb hbox hg; have hnb36 := NB527_514.out; have hnc36 := NB514_527.out; have hnb37 := NB527_515.out; have hnc37 := NB515_527.out; have hnb38 := NB527_516.out; have hnc38 := NB516_527.out; obtain ⟨hcz39_0, hcz39_1, hcz39_2, hcz39_3⟩ := cb4_ BK527.out; obtain ⟨hfz39_0, hfz39_1, hfz39_2⟩ := bf3_ BK527.out; have hfz39_3 := blk_frozen BK527.out 3) | ((with_reducible refine gate_store (t := 34) (p := 5) rfl ?_); refine st_ (w1 := ((((w35.setCell ⟨gb527, 0, none⟩ (.int .i64 t522)).setCell ⟨gb527, 1, none⟩ (.int .i64 t523)).setCell ⟨gb527, 2, none⟩ (.int .i64 t524)).setCell ⟨gb527, 3, none⟩ (.int .i64 t525))) ?_; intro w40 hw; replace BK514 : Aside0 (w40.heap[gb514]? = some (.cells #[.slice A0_0 l0_0.length c0_0, .bool a0_1] 47 (0, 0))) := ⟨(by rw [hw]; exact (uf_ BK514.out))⟩; replace BK515 : Aside0 (w40.heap[gb515]? = some (.cells #[.slice none 0 0, .bool false] 47 (0, 0))) := ⟨(by rw [hw]; exact (uf_ BK515.out))⟩; replace BK516 : Aside0 (w40.heap[gb516]? = some (.cells #[.int .i64 0, .int .i64 0, .int .i64 0, .int .i64 0] 34 (0, 0))) := ⟨(by rw [hw]; exact (uf_ BK516.out))⟩; replace BK527 : Aside0 (w40.heap[gb527]? = some (.cells #[.int .i64 t522, .int .i64 t523, .int .i64 t524, .int .i64 t525] 34 (0, 0))) := ⟨(by rw [hw]; exact (by (with_reducible repeat first|apply bn_|apply bd_|apply ba_); apply bp4_; (with_reducible repeat first|apply bn_|apply bd_|apply ba_); exact BK527.out))⟩; replace HB : Aside0 (Below w.heap.size w w40) := ⟨(by rw [hw]; exact (ue_ HB.out))⟩; clear hw; have hnb41 := NB515_516.out; have hnc41 := NB516_515.out; obtain ⟨hcz42_0, hcz42_1⟩ := cb2_ BK515.out; have hfz42_0 := blk_frozen BK515.out 0; have hfz42_1 := blk_frozen BK515.out 1) | ((with_reducible refine gate_store (t := 47) (p := 2) rfl ?_); refine st_ (w1 := ((w40.setCell ⟨gb515, 0, none⟩ (.slice none 0 0)).setCell ⟨gb515, 1, none⟩ (.bool true))) ?_; intro w43 hw; replace BK514 : Aside0 (w43.heap[gb514]? = some (.cells #[.slice A0_0 l0_0.length c0_0, .bool a0_1] 47 (0, 0))) := ⟨(by rw [hw]; exact (uf_ BK514.out))⟩; replace BK515 : Aside0 (w43.heap[gb515]? = some (.cells #[.slice none 0 0, .bool true] 47 (0, 0))) := ⟨(by rw [hw]; exact (by (with_reducible repeat first|apply bn_|apply bd_|apply ba_); apply bp2_; (with_reducible repeat first|apply bn_|apply bd_|apply ba_); exact BK515.out))⟩; replace BK516 : Aside0 (w43.heap[gb516]? = some (.cells #[.int .i64 0, .int .i64 0, .int .i64 0, .int .i64 0] 34 (0, 0))) := ⟨(by rw [hw]; exact (uf_ BK516.out))⟩; replace BK527 : Aside0 (w43.heap[gb527]? = some (.cells #[.int .i64 t522, .int .i64 t523, .int .i64 t524, .int .i64 t525] 34 (0, 0))) := ⟨(by rw [hw]; exact (uf_ BK527.out))⟩; replace HB : Aside0 (Below w.heap.size w w43) := ⟨(by rw [hw]; exact (ue_ HB.out))⟩; clear hw; obtain ⟨hcz44_0, hcz44_1, hcz44_2, hcz44_3⟩ := cb4_ BK516.out; obtain ⟨hfz44_0, hfz44_1, hfz44_2⟩ := bf3_ BK516.out; have hfz44_3 := blk_frozen BK516.out 3) | ((with_reducible refine gate_store (t := 34) (p := 3) rfl ?_); refine st_ (w1 := ((((w43.setCell ⟨gb516, 0, none⟩ (.int .i64 0)).setCell ⟨gb516, 1, none⟩ (.int .i64 0)).setCell ⟨gb516, 2, none⟩ (.int .i64 0)).setCell ⟨gb516, 3, none⟩ (.int .i64 0))) ?_; intro w45 hw; replace BK514 : Aside0 (w45.heap[gb514]? = some (.cells #[.slice A0_0 l0_0.length c0_0, .bool a0_1] 47 (0, 0))) := ⟨(by rw [hw]; exact (uf_ BK514.out))⟩; replace BK515 : Aside0 (w45.heap[gb515]? = some (.cells #[.slice none 0 0, .bool true] 47 (0, 0))) := ⟨(by rw [hw]; exact (uf_ BK515.out))⟩; replace BK516 : Aside0 (w45.heap[gb516]? = some (.cells #[.int .i64 0, .int .i64 0, .int .i64 0, .int .i64 0] 34 (0, 0))) := ⟨(by rw [hw]; exact (by (with_reducible repeat first|apply bn_|apply bd_|apply ba_); apply bp4_; (with_reducible repeat first|apply bn_|apply bd_|apply ba_); exact BK516.out))⟩; replace BK527 : Aside0 (w45.heap[gb527]? = some (.cells #[.int .i64 t522, .int .i64 t523, .int .i64 t524, .int .i64 t525] 34 (0, 0))) := ⟨(by rw [hw]; exact (uf_ BK527.out))⟩; replace HB : Aside0 (Below w.heap.size w w45) := ⟨(by rw [hw]; exact (ue_ HB.out))⟩; clear hw))
    refine bodyPost_ret (results_list (rs := [.cell 2 47, .cell 3 34, .tmp 4]) rfl (by simp) (.cell gb515 47 #[.slice none 0 0, .bool true] (0, 0) _ rfl (ub_ BK515.out) Try.underlying47 rfl (by kernel_rfl) (.cell gb516 34 #[.int .i64 0, .int .i64 0, .int .i64 0, .int .i64 0] (0, 0) _ rfl (ub_ BK516.out) Try.underlying34 rfl (by kernel_rfl) (.tmp .nil)))) rfl ?_
    exact ⟨_, ew_, by first | exact Kd.R_nil _ _ _ _ _ | exact Kd.N_nil _ _ _ _ _ | exact Kd.V_nil _ _ _ _ _ | exact Kd.Q_nil _ _ _ _ _ | exact Kd.S_nil _ _ _ _ _, ue_ HB.out⟩
   rw [if_neg c30] at H
   have c30b0 : (t526 == (-1)) = false := beq_eq_false_iff_ne.mpr c30
   have c30b1 : (t526 != (-1)) = true := bne_iff_ne.mpr c30
   by_cases c46 : t526 = 0
   ·
    rw [if_pos c46] at H
    have c46b0 : (t526 == 0) = true := beq_iff_eq.mpr c46
    have c46b1 : (t526 != 0) = false := bne_eq_false_iff_eq.mpr c46
    clear c46
    replace H := Option.bind_eq_some_iff.mp H
    obtain ⟨⟨t528, t531⟩, A470, H⟩ := H
    replace H : (some (t528, t531, 0, 0, 0, 0, 1)) = some (r1, r2, r3, r4, r5, r6, r7) := H
    have A47 := Aside0.mk A470
    clear A470
    simp only [Option.some.injEq, Prod.mk.injEq] at H
    obtain ⟨rfl, rfl, rfl, rfl, rfl, rfl, rfl⟩ := H
    have hnb48 := NB514_515.out
    have hnc48 := NB515_514.out
    have hnb49 := NB514_516.out
    have hnc49 := NB516_514.out
    have hcz50_0 := cb_ BK514.out 0 rfl
    have hcz50_1 := cb_ BK514.out 1 rfl
    have hfz50_0 := blk_frozen BK514.out 0
    have hfz50_1 := blk_frozen BK514.out 1
    go_wp2_with (first | ((with_reducible refine gate_callee (f := 55) rfl ?_); refine goesL_ (some 20) rfl rfl Try.func55 (by kernel_rfl) rfl #[.slice A0_0 l0_0.length c0_0] rfl ul_ ?_; (with_reducible refine (impl_TakeFrame.calls kj1 _ _ l0_0 t522 t523 t524 t525 t526 _ ?side1 ?side2 A29.out).mono ?_); (case side1 => repeat (first | exact (Kd.C_below HR0_0.out HB.out) | (with_reducible refine Kd.C_alloc ?_ _) | (with_reducible refine Kd.C_drewN ?_ _) | (with_reducible refine Kd.C_drew ?_))); (case side2 => exact HC0_0.out); rintro e w51 ⟨rfl, hb⟩; refine ⟨_, rfl, ?_⟩; replace BK514 := am_ (bb_ BK514.out hb); replace BK515 := am_ (bb_ BK515.out hb); replace BK516 := am_ (bb_ BK516.out hb); replace HB := am_ (below_step (ue_ HB.out) hb); (try clear hb); (try clear hb2); (try clear hk); (try clear hi)) | ((with_reducible refine gate_dst (N := 5) rfl ?_); refine bx_ (N := 5) (cs := #[.int .i64 0, .int .i64 0, .int .i64 0, .int .i64 0]) (t := 34) ?_; intro gb527 hg w52 hbox hb; have BK527 := am_ (hbox); have GW527 := am_ ((by rw [hg]; exact (below_size (ue_ HB.out)) : w.heap.size ≤ gb527)); have GE527 := am_ ((by rw [hg]; exact (below_size (ue_ HB.out)) : w.heap.size ≤ gb527)); replace HB := am_ (below_step (ue_ HB.out) hb); have NB514_527 := am_ ((by rw [hg]; exact Nat.ne_of_lt (bl_ BK514.out) : gb514 ≠ gb527)); have NB527_514 := am_ ((by rw [hg]; exact Nat.ne_of_gt (bl_ BK514.out) : gb527 ≠ gb514)); replace BK514 := am_ (bb_ BK514.out hb); have NB515_527 := am_ ((by rw [hg]; exact Nat.ne_of_lt (bl_ BK515.out) : gb515 ≠ gb527)); have NB527_515 := am_ ((by rw [hg]; exact Nat.ne_of_gt (bl_ BK515.out) : gb527 ≠ gb515)); replace BK515 := am_ (bb_ BK515.out hb); have NB516_527 := am_ ((by rw [hg]; exact Nat.ne_of_lt (bl_ BK516.out) : gb516 ≠ gb527)); have NB527_516 := am_ ((by rw [hg]; exact Nat.ne_of_gt (bl_ BK516.out) : gb527 ≠ gb516)); replace BK516 := am_ (bb_ BK516.out hb); clear hb hbox hg; have hnb53 := NB527_514.out; have hnc53 := NB514_527.out; have hnb54 := NB527_515.out; have hnc54 := NB515_527.out; have hnb55 := NB527_516.out; have hnc55 := NB516_527.out; obtain ⟨hcz56_0, hcz56_1, hcz56_2, hcz56_3⟩ := cb4_ BK527.out; obtain ⟨hfz56_0, hfz56_1, hfz56_2⟩ := bf3_ BK527.out; have hfz56_3 := blk_frozen BK527.out 3) | ((with_reducible refine gate_store (t := 34) (p := 5) rfl ?_); refine st_ (w1 := ((((w52.setCell ⟨gb527, 0, none⟩ (.int .i64 t522)).setCell ⟨gb527, 1, none⟩ (.int .i64 t523)).setCell ⟨gb527, 2, none⟩ (.int .i64 t524)).setCell ⟨gb527, 3, none⟩ (.int .i64 t525))) ?_; intro w57 hw; replace BK514 : Aside0 (w57.heap[gb514]? = some (.cells #[.slice A0_0 l0_0.length c0_0, .bool a0_1] 47 (0, 0))) := ⟨(by rw [hw]; exact (uf_ BK514.out))⟩; replace BK515 : Aside0 (w57.heap[gb515]? = some (.cells #[.slice none 0 0, .bool false] 47 (0, 0))) := ⟨(by rw [hw]; exact (uf_ BK515.out))⟩; replace BK516 : Aside0 (w57.heap[gb516]? = some (.cells #[.int .i64 0, .int .i64 0, .int .i64 0, .int .i64 0] 34 (0, 0))) := ⟨(by rw [hw]; exact (uf_ BK516.out))⟩; replace BK527 : Aside0 (w57.heap[gb527]? = some (.cells #[.int .i64 t522, .int .i64 t523, .int .i64 t524, .int .i64 t525] 34 (0, 0))) := ⟨(by rw [hw]; exact (by (with_reducible repeat first|apply bn_|apply bd_|apply ba_); apply bp4_; (with_reducible repeat first|apply bn_|apply bd_|apply ba_); exact BK527.out))⟩; replace HB : Aside0 (Below w.heap.size w w57) := ⟨(by rw [hw]; exact (ue_ HB.out))⟩; clear hw; obtain ⟨hcz58_0, hcz58_1⟩ := cb2_ BK514.out; have hfz58_0 := blk_frozen BK514.out 0; have hfz58_1 := blk_frozen BK514.out 1) | ((with_reducible refine gate_callee (f := 56) rfl ?_); refine goesL_ (some 31) rfl rfl Try.func56 (by kernel_rfl) rfl #[.agg #[.slice A0_0 l0_0.length c0_0, .bool a0_1]] rfl ul_ ?_; (with_reducible refine (impl_ownDecoder.calls _ _ l0_0 a0_1 t528 t531 _ ?side1 ?side2 A47.out).mono ?_); (case side1 => repeat (first | exact (Kd.C_below HR0_0.out HB.out) | (with_reducible refine Kd.C_alloc ?_ _) | (with_reducible refine Kd.C_drewN ?_ _) | (with_reducible refine Kd.C_drew ?_))); (case side2 => exact HC0_0.out); rintro e w59 ⟨v529, rfl, ho0, hb⟩; refine ⟨_, rfl, ?_⟩; have HO530 := am_ (Kd.R_lower ho0 (below_size (ue_ HB.out))); replace BK514 := am_ (bb_ BK514.out hb); replace BK515 := am_ (bb_ BK515.out hb); replace BK516 := am_ (bb_ BK516.out hb); replace BK527 := am_ (bb_ BK527.out hb); replace HB := am_ (below_step (ue_ HB.out) hb); (try clear hb); (try clear hb2); (try clear hk); (try clear hi); (try clear ho0); obtain ⟨Ao60, co60, eo60⟩ := Kd.R_slice HO530.out; subst eo60; have hnb61 := NB515_516.out; have hnc61 := NB516_515.out; obtain ⟨hcz62_0, hcz62_1⟩ := cb2_ BK515.out; have hfz62_0 := blk_frozen BK515.out 0; have hfz62_1 := blk_frozen BK515.out 1) | ((with_reducible refine gate_store (t := 47) (p := 2) rfl ?_); refine st_ (w1 := ((w59.setCell ⟨gb515, 0, none⟩ (.slice Ao60 t528.length co60)).setCell ⟨gb515, 1, none⟩ (.bool t531))) ?_; intro w63 hw; replace HO530 : Aside0 (Kd.R (Kd.int .u8) 5 w63 w.heap.size (fun _ => True) (.slice Ao60 t528.length co60) t528) := ⟨(by rw [hw]; exact (by (with_reducible repeat (first | apply Kd.R_alloc | apply Kd.R_drewN | apply Kd.R_drew)); exact Kd.R_mono (Rf2_ (g := gb515) (Kd.R_types HO530.out BK515.out (by decide))) (fun _ hk => trivial)))⟩; replace BK514 : Aside0 (w63.heap[gb514]? = some (.cells #[.slice A0_0 l0_0.length c0_0, .bool a0_1] 47 (0, 0))) := ⟨(by rw [hw]; exact (uf_ BK514.out))⟩; replace BK515 : Aside0 (w63.heap[gb515]? = some (.cells #[.slice Ao60 t528.length co60, .bool t531] 47 (0, 0))) := ⟨(by rw [hw]; exact (by (with_reducible repeat first|apply bn_|apply bd_|apply ba_); apply bp2_; (with_reducible repeat first|apply bn_|apply bd_|apply ba_); exact BK515.out))⟩; replace BK516 : Aside0 (w63.heap[gb516]? = some (.cells #[.int .i64 0, .int .i64 0, .int .i64 0, .int .i64 0] 34 (0, 0))) := ⟨(by rw [hw]; exact (uf_ BK516.out))⟩; replace BK527 : Aside0 (w63.heap[gb527]? = some (.cells #[.int .i64 t522, .int .i64 t523, .int .i64 t524, .int .i64 t525] 34 (0, 0))) := ⟨(by rw [hw]; exact (uf_ BK527.out))⟩; replace HB : Aside0 (Below w.heap.size w w63) := ⟨(by rw [hw]; exact (ue_ HB.out))⟩; clear hw; obtain ⟨hcz64_0, hcz64_1, hcz64_2, hcz64_3⟩ := cb4_ BK516.out; obtain ⟨hfz64_0, hfz64_1, hfz64_2⟩ := bf3_ BK516.out; have hfz64_3 := blk_frozen BK516.out 3) | ((with_reducible refine gate_store (t := 34) (p := 3) rfl ?_); refine st_ (w1 := ((((w63.setCell ⟨gb516, 0, none⟩ (.int .i64 0)).setCell ⟨gb516, 1, none⟩ (.int .i64 0)).setCell ⟨gb516, 2, none⟩ (.int .i64 0)).setCell ⟨gb516, 3, none⟩ (.int .i64 0))) ?_; intro w65 hw; replace HO530 : Aside0 (Kd.R (Kd.int .u8) 5 w65 w.heap.size (fun _ => True) (.slice Ao60 t528.length co60) t528) := ⟨(by rw [hw]; exact (by (with_reducible repeat (first | apply Kd.R_alloc | apply Kd.R_drewN | apply Kd.R_drew)); exact Kd.R_mono (Rf4_ (g := gb516) (Kd.R_types HO530.out BK516.out (by decide))) (fun _ hk => trivial)))⟩; replace BK514 : Aside0 (w65.heap[gb514]? = some (.cells #[.slice A0_0 l0_0.length c0_0, .bool a0_1] 47 (0, 0))) := ⟨(by rw [hw]; exact (uf_ BK514.out))⟩; replace BK515 : Aside0 (w65.heap[gb515]? = some (.cells #[.slice Ao60 t528.length co60, .bool t531] 47 (0, 0))) := ⟨(by rw [hw]; exact (uf_ BK515.out))⟩; replace BK516 : Aside0 (w65.heap[gb516]? = some (.cells #[.int .i64 0, .int .i64 0, .int .i64 0, .int .i64 0] 34 (0, 0))) := ⟨(by rw [hw]; exact (by (with_reducible repeat first|apply bn_|apply bd_|apply ba_); apply bp4_; (with_reducible repeat first|apply bn_|apply bd_|apply ba_); exact BK516.out))⟩; replace BK527 : Aside0 (w65.heap[gb527]? = some (.cells #[.int .i64 t522, .int .i64 t523, .int .i64 t524, .int .i64 t525] 34 (0, 0))) := ⟨(by rw [hw]; exact (uf_ BK527.out))⟩; replace HB : Aside0 (Below w.heap.size w w65) := ⟨(by rw [hw]; exact (ue_ HB.out))⟩; clear hw))
    refine bodyPost_ret (results_list (rs := [.cell 2 47, .cell 3 34, .tmp 4]) rfl (by simp) (.cell gb515 47 #[.slice Ao60 t528.length co60, .bool t531] (0, 0) _ rfl (ub_ BK515.out) Try.underlying47 rfl (by kernel_rfl) (.cell gb516 34 #[.int .i64 0, .int .i64 0, .int .i64 0, .int .i64 0] (0, 0) _ rfl (ub_ BK516.out) Try.underlying34 rfl (by kernel_rfl) (.tmp .nil)))) rfl ?_
    exact ⟨_, ew_, by (with_reducible repeat (first | apply Kd.R_alloc | apply Kd.R_drewN | apply Kd.R_drew)); exact HO530.out, ue_ HB.out⟩
   rw [if_neg c46] at H
   have c46b0 : (t526 == 0) = false := beq_eq_false_iff_ne.mpr c46
   have c46b1 : (t526 != 0) = true := bne_iff_ne.mpr c46
   by_cases c66 : 0 ≤ t526
   ·
    rw [if_pos c66] at H
    have c66b0 := eq_true c66
    have c66b1 : decide (0 ≤ t526) = true := decide_eq_true c66
    clear c66
    by_cases c67 : t526 ≤ (l0_0.length : Int)
    ·
     rw [if_pos c67] at H
     have c67b0 := eq_true c67
     have c67b1 : decide (t526 ≤ (l0_0.length : Int)) = true := decide_eq_true c67
     clear c67
     replace H := Option.bind_eq_some_iff.mp H
     obtain ⟨t533, A680, H⟩ := H
     replace H : (some (t533, false, t522, t523, t524, t525, 0)) = some (r1, r2, r3, r4, r5, r6, r7) := H
     have A68 := Aside0.mk A680
     clear A680
     simp only [Option.some.injEq, Prod.mk.injEq] at H
     obtain ⟨rfl, rfl, rfl, rfl, rfl, rfl, rfl⟩ := H
     have hnb69 := NB514_515.out
     have hnc69 := NB515_514.out
     have hnb70 := NB514_516.out
     have hnc70 := NB516_514.out
     have hcz71_0 := cb_ BK514.out 0 rfl
     have hcz71_1 := cb_ BK514.out 1 rfl
     have hfz71_0 := blk_frozen BK514.out 0
     have hfz71_1 := blk_frozen BK514.out 1
     try go_wp2_with (first | ((with_reducible refine gate_callee (f := 55) rfl ?_); refine goesL_ (some 20) rfl rfl Try.func55 (by kernel_rfl) rfl #[.slice A0_0 l0_0.length c0_0] rfl ul_ ?_; (with_reducible refine (impl_TakeFrame.calls kj1 _ _ l0_0 t522 t523 t524 t525 t526 _ ?side1 ?side2 A29.out).mono ?_); (case side1 => repeat (first | exact (Kd.C_below HR0_0.out HB.out) | (with_reducible refine Kd.C_alloc ?_ _) | (with_reducible refine Kd.C_drewN ?_ _) | (with_reducible refine Kd.C_drew ?_))); (case side2 => exact HC0_0.out); rintro e w72 ⟨rfl, hb⟩; refine ⟨_, rfl, ?_⟩; replace BK514 := am_ (bb_ BK514.out hb); replace BK515 := am_ (bb_ BK515.out hb); replace BK516 := am_ (bb_ BK516.out hb); replace HB := am_ (below_step (ue_ HB.out) hb); (try clear hb); (try clear hb2); (try clear hk); (try clear hi)) | ((with_reducible refine gate_dst (N := 5) rfl ?_); refine bx_ (N := 5) (cs := #[.int .i64 0, .int .i64 0, .int .i64 0, .int .i64 0]) (t := 34) ?_; intro gb527 hg w73 hbox hb; have BK527 := am_ (hbox); have GW527 := am_ ((by rw [hg]; exact (below_size (ue_ HB.out)) : w.heap.size ≤ gb527)); have GE527 := am_ ((by rw [hg]; exact (below_size (ue_ HB.out)) : w.heap.size ≤ gb527)); replace HB := am_ (below_step (ue_ HB.out) hb); have NB514_527 := am_ ((by rw [hg]; exact Nat.ne_of_lt (bl_ BK514.out) : gb514 ≠ gb527)); have NB527_514 := am_ ((by rw [hg]; exact Nat.ne_of_gt (bl_ BK514.out) : gb527 ≠ gb514)); replace BK514 := am_ (bb_ BK514.out hb); have NB515_527 := am_ ((by rw [hg]; exact Nat.ne_of_lt (bl_ BK515.out) : gb515 ≠ gb527)); have NB527_515 := am_ ((by rw [hg]; exact Nat.ne_of_gt (bl_ BK515.out) : gb527 ≠ gb515)); replace BK515 := am_ (bb_ BK515.out hb); have NB516_527 := am_ ((by rw [hg]; exact Nat.ne_of_lt (bl_ BK516.out) : gb516 ≠ gb527)); have NB527_516 := am_ ((by rw [hg]; exact Nat.ne_of_gt (bl_ BK516.out) : gb527 ≠ gb516)); replace BK516 := am_ (bb_ BK516.out hb); clear hb hbox hg; have hnb74 := NB527_514.out; have hnc74 := NB514_527.out; have hnb75 := NB527_515.out; have hnc75 := NB515_527.out; have hnb76 := NB527_516.out; have hnc76 := NB516_527.out; obtain ⟨hcz77_0, hcz77_1, hcz77_2, hcz77_3⟩ := cb4_ BK527.out; obtain ⟨hfz77_0, hfz77_1, hfz77_2⟩ := bf3_ BK527.out; have hfz77_3 := blk_frozen BK527.out 3) | ((with_reducible refine gate_store (t := 34) (p := 5) rfl ?_); refine st_ (w1 := ((((w73.setCell ⟨gb527, 0, none⟩ (.int .i64 t522)).setCell ⟨gb527, 1, none⟩ (.int .i64 t523)).setCell ⟨gb527, 2, none⟩ (.int .i64 t524)).setCell ⟨gb527, 3, none⟩ (.int .i64 t525))) ?_; intro w78 hw; replace BK514 : Aside0 (w78.heap[gb514]? = some (.cells #[.slice A0_0 l0_0.length c0_0, .bool a0_1] 47 (0, 0))) := ⟨(by rw [hw]; exact (uf_ BK514.out))⟩; replace BK515 : Aside0 (w78.heap[gb515]? = some (.cells #[.slice none 0 0, .bool false] 47 (0, 0))) := ⟨(by rw [hw]; exact (uf_ BK515.out))⟩; replace BK516 : Aside0 (w78.heap[gb516]? = some (.cells #[.int .i64 0, .int .i64 0, .int .i64 0, .int .i64 0] 34 (0, 0))) := ⟨(by rw [hw]; exact (uf_ BK516.out))⟩; replace BK527 : Aside0 (w78.heap[gb527]? = some (.cells #[.int .i64 t522, .int .i64 t523, .int .i64 t524, .int .i64 t525] 34 (0, 0))) := ⟨(by rw [hw]; exact (by (with_reducible repeat first|apply bn_|apply bd_|apply ba_); apply bp4_; (with_reducible repeat first|apply bn_|apply bd_|apply ba_); exact BK527.out))⟩; replace HB : Aside0 (Below w.heap.size w w78) := ⟨(by rw [hw]; exact (ue_ HB.out))⟩; clear hw))
     have n0_ := am_ (blk_drew BK514.out)
     have n1_ := am_ (blk_drew BK515.out)
     have n2_ := am_ (blk_drew BK516.out)
     have n3_ := am_ (blk_drew BK527.out)
     have n4_ := am_ (below_drew1 HB.out)
     clear BK514
     clear BK515
     clear BK516
     clear BK527
     clear HB
     have BK514 := n0_
     have BK515 := n1_
     have BK516 := n2_
     have BK527 := n3_
     have HB := n4_
     clear n0_ n1_ n2_ n3_ n4_
     obtain ⟨i080, hi080, _, hsz80, _⟩ := info_parts info5
     obtain ⟨A80, hcut80, hA80, hC80⟩ := print_drop_of (P := Try.prog) (Value.int .u8) 0 39 5 .i64 Try.underlying39 hi080 hsz80 A0_0 c0_0 l0_0 t526 (of_decide_eq_true ua_) (of_decide_eq_true ua_) HC0_0.out
     have HR532 := am_ (Kd.C_of_reads (h1 := fun _ => rfl) (hA80 _ (Kd.reads_of_C HR0_0.out)))
     have HC532 := Aside0.mk hC80
     clear hA80 hC80 hi080 hsz80
     refine start_ (n := 10) (S := fun w' => w'.cell? ⟨gb514, 0, none⟩ = some (.slice A0_0 l0_0.length c0_0) ∧ w'.cell? ⟨gb514, 1, none⟩ = some (.bool a0_1) ∧ w'.cell? ⟨gb527, 0, none⟩ = some (.int .i64 t522) ∧ w'.cell? ⟨gb527, 1, none⟩ = some (.int .i64 t523) ∧ w'.cell? ⟨gb527, 2, none⟩ = some (.int .i64 t524) ∧ w'.cell? ⟨gb527, 3, none⟩ = some (.int .i64 t525)) (ds := []) #[false, false, false, false, false, false, false, false, false, false] (by kernel_rfl) rfl rfl ⟨(blk_cell BK514.out 0).trans rfl, (blk_cell BK514.out 1).trans rfl, (blk_cell BK527.out 0).trans rfl, (blk_cell BK527.out 1).trans rfl, (blk_cell BK527.out 2).trans rfl, (blk_cell BK527.out 3).trans rfl⟩ (fun hHeld => ?_); refine with_tabW impl_TakeNext.tab9 impl_TakeNext.bits9 (fun HT_ HW_ => ?_)
     generalize w78.drew = w79 at BK514 BK515 BK516 BK527 HB HR532 hHeld ⊢
     refine pure_ (i := 0) (N := some 33) (v := ?_) (a' := ?_) #[true, false, false, false, false, false, false, false, false, false] rfl rfl (any_of HT_.out (by kernel_rfl)) (fun _ _ _ h => h) (Or.inl ⟨by rfl, ?_⟩) ?_ ?_
     rotate_left
     ·
      intro w'
      go_simp
      with_reducible rfl
     rotate_left
     ·
      simp only [Act.put, List.setIfInBounds_toArray, List.set_cons_zero, List.set_cons_succ, i64_w, i32_w]
      rfl
     refine pure_ (i := 2) (N := some 35) (v := ?_) (a' := ?_) #[true, false, true, false, false, false, false, false, false, false] rfl rfl (any_of HT_.out (by kernel_rfl)) (fun _ _ _ h => h) (Or.inl ⟨by rfl, ?_⟩) ?_ ?_
     rotate_left
     ·
      intro w'
      go_simp
      with_reducible rfl
     rotate_left
     ·
      simp only [Act.put, List.setIfInBounds_toArray, List.set_cons_zero, List.set_cons_succ, i64_w, i32_w]
      rfl
     refine take_ (i := 1) (N := some 34) (v := ?_) (a' := ?_) #[true, true, true, false, false, false, false, false, false, false] rfl rfl (take_ofW HT_.out HW_.out (by kernel_rfl)) (fun _ _ _ h => h) (Or.inl ⟨by rfl, ?_⟩) hHeld ?_ ?_
     rotate_left
     ·
      rintro w' ⟨s0, s1, s2, s3, s4, s5⟩
      go_simp
      with_reducible rfl
     rotate_left
     ·
      simp only [Act.put, List.setIfInBounds_toArray, List.set_cons_zero, List.set_cons_succ, i64_w, i32_w]
      rfl
     refine pure_ (i := 3) (N := some 36) (v := ?_) (a' := ?_) #[true, true, true, true, false, false, false, false, false, false] rfl rfl (any_of HT_.out (by kernel_rfl)) (fun _ _ _ h => h) (Or.inl ⟨by rfl, ?_⟩) ?_ ?_
     rotate_left
     ·
      intro w'
      go_simp
      with_reducible rfl
     rotate_left
     ·
      simp only [Act.put, List.setIfInBounds_toArray, List.set_cons_zero, List.set_cons_succ, i64_w, i32_w]
      rfl
     refine take_ (i := 6) (N := some 39) (v := ?_) (a' := ?_) #[true, true, true, true, false, false, true, false, false, false] rfl rfl (take_ofW HT_.out HW_.out (by kernel_rfl)) (fun _ _ _ h => h) (Or.inl ⟨by rfl, ?_⟩) hHeld ?_ ?_
     rotate_left
     ·
      rintro w' ⟨s0, s1, s2, s3, s4, s5⟩
      go_simp
      with_reducible rfl
     rotate_left
     ·
      simp only [Act.put, List.setIfInBounds_toArray, List.set_cons_zero, List.set_cons_succ, i64_w, i32_w]
      rfl
     refine one_ (i := 4) (N := some 37) #[true, true, true, true, true, false, true, false, false, false] rfl rfl (one_of HT_.out (by kernel_rfl)) (by decide) (fun K hK => ?_)
     refine goes_ Try.func58 (by kernel_rfl) rfl #[.slice A80 (l0_0.drop (t526 : Int).toNat).length (c0_0 - t526.toNat)] (by rfl) rfl rfl (by (try simp only [List.map_toArray, List.map_cons, List.map_nil]); first | done | (rw [show (l0_0.drop (t526 : Int).toNat).length = (l0_0.length - t526.toNat) from List.length_drop] <;> rfl) | rfl | (simp only [List.length_drop, List.length_take]; rfl)) ?_
     with_reducible refine (slices_Clone_byte_byte.calls _ _ (l0_0.drop (t526 : Int).toNat) t533 _ ?side1 ?side2 A68.out).mono ?_
     (case side1 => repeat (first | exact (Kd.C_below HR532.out HB.out) | (with_reducible refine Kd.C_alloc ?_ _) | (with_reducible refine Kd.C_drewN ?_ _) | (with_reducible refine Kd.C_drew ?_)))
     (case side2 => exact HC532.out)
     rintro e w81 ⟨v534, rfl, ho0, hb⟩
     refine ⟨_, rfl, ?_⟩
     have n0_ := am_ (Kd.R_lower ho0 (below_size (ue_ HB.out)))
     have n1_ := am_ (bb_ BK514.out hb)
     have n2_ := am_ (bb_ BK515.out hb)
     have n3_ := am_ (bb_ BK516.out hb)
     have n4_ := am_ (bb_ BK527.out hb)
     have n5_ := am_ (below_step (ue_ HB.out) hb)
     clear BK514
     clear BK515
     clear BK516
     clear BK527
     clear HB
     have HO535 := n0_
     have BK514 := n1_
     have BK515 := n2_
     have BK516 := n3_
     have BK527 := n4_
     have HB := n5_
     clear n0_ n1_ n2_ n3_ n4_ n5_
     (try clear hb)
     (try clear hb2)
     (try clear hk)
     (try clear hi)
     (try clear ho0)
     obtain ⟨Ao82, co82, eo82⟩ := Kd.R_slice HO535.out
     (first | subst eo82 | (injection eo82 with f1_ f2_ f3_; have f4_ := f1_.symm; have f5_ := f3_.symm; clear f1_ f2_ f3_; subst f4_; subst f5_))
     refine hK.out _ _ ⟨(blk_cell BK514.out 0).trans rfl, (blk_cell BK514.out 1).trans rfl, (blk_cell BK527.out 0).trans rfl, (blk_cell BK527.out 1).trans rfl, (blk_cell BK527.out 2).trans rfl, (blk_cell BK527.out 3).trans rfl⟩ (fun hHeld => ?_)
     clear hK K
     refine norm_ (a' := ?_) ?_ ?_
     rotate_left
     ·
      show Act.put _ (some 37) _ = _
      simp only [Act.put, List.setIfInBounds_toArray, List.set_cons_zero, List.set_cons_succ, i64_w, i32_w]
      rfl
     refine pure_ (i := 5) (N := some 38) (v := ?_) (a' := ?_) #[true, true, true, true, true, true, true, false, false, false] rfl rfl (any_of HT_.out (by kernel_rfl)) (fun _ _ _ h => h) (Or.inl ⟨by rfl, ?_⟩) ?_ ?_
     rotate_left
     ·
      intro w'
      go_simp
      with_reducible rfl
     rotate_left
     ·
      simp only [Act.put, List.setIfInBounds_toArray, List.set_cons_zero, List.set_cons_succ, i64_w, i32_w]
      rfl
     refine one_ (i := 7) (N := none) #[true, true, true, true, true, true, true, true, false, false] rfl rfl (one_of HT_.out (by kernel_rfl)) (by decide) (fun K hK => ?_)
     have hs83 := cb_ BK515.out 0 rfl
     have hfs83 := blk_frozen BK515.out 0
     have hns83_0 := NB514_515.out
     have hns83_2 := NB516_515.out
     have hns83_3 := NB527_515.out
     have hms83_0 := NB515_514.out
     have hms83_2 := NB515_516.out
     have hms83_3 := NB515_527.out
     have hs84 := cb_ BK515.out 1 rfl
     have hfs84 := blk_frozen BK515.out 1
     have hns84_0 := NB514_515.out
     have hns84_2 := NB516_515.out
     have hns84_3 := NB527_515.out
     have hms84_0 := NB515_514.out
     have hms84_2 := NB515_516.out
     have hms84_3 := NB515_527.out
     refine skip_ (w1 := ?_) (by rfl) rfl ?_ ?_
     rotate_left
     ·
      go_simp
      rfl
     refine hK.out _ _ ⟨((cell_far (p := ⟨gb515, _, none⟩) NB514_515.out _).trans (((cell_far (p := ⟨gb515, _, none⟩) NB514_515.out _).trans (hHeld.1)))), ((cell_far (p := ⟨gb515, _, none⟩) NB514_515.out _).trans (((cell_far (p := ⟨gb515, _, none⟩) NB514_515.out _).trans (hHeld.2.1)))), ((cell_far (p := ⟨gb515, _, none⟩) NB527_515.out _).trans (((cell_far (p := ⟨gb515, _, none⟩) NB527_515.out _).trans (hHeld.2.2.1)))), ((cell_far (p := ⟨gb515, _, none⟩) NB527_515.out _).trans (((cell_far (p := ⟨gb515, _, none⟩) NB527_515.out _).trans (hHeld.2.2.2.1)))), ((cell_far (p := ⟨gb515, _, none⟩) NB527_515.out _).trans (((cell_far (p := ⟨gb515, _, none⟩) NB527_515.out _).trans (hHeld.2.2.2.2.1)))), ((cell_far (p := ⟨gb515, _, none⟩) NB527_515.out _).trans (((cell_far (p := ⟨gb515, _, none⟩) NB527_515.out _).trans (hHeld.2.2.2.2.2))))⟩ (fun hHeld => ?_)
     clear hK K
     refine one_ (i := 8) (N := none) #[true, true, true, true, true, true, true, true, true, false] rfl rfl (one_of HT_.out (by kernel_rfl)) (by decide) (fun K hK => ?_)
     have hs85 := cb_ BK516.out 0 rfl
     have hfs85 := blk_frozen BK516.out 0
     have hns85_0 := NB514_516.out
     have hns85_1 := NB515_516.out
     have hns85_3 := NB527_516.out
     have hms85_0 := NB516_514.out
     have hms85_1 := NB516_515.out
     have hms85_3 := NB516_527.out
     have hs86 := cb_ BK516.out 1 rfl
     have hfs86 := blk_frozen BK516.out 1
     have hns86_0 := NB514_516.out
     have hns86_1 := NB515_516.out
     have hns86_3 := NB527_516.out
     have hms86_0 := NB516_514.out
     have hms86_1 := NB516_515.out
     have hms86_3 := NB516_527.out
     have hs87 := cb_ BK516.out 2 rfl
     have hfs87 := blk_frozen BK516.out 2
     have hns87_0 := NB514_516.out
     have hns87_1 := NB515_516.out
     have hns87_3 := NB527_516.out
     have hms87_0 := NB516_514.out
     have hms87_1 := NB516_515.out
     have hms87_3 := NB516_527.out
     have hs88 := cb_ BK516.out 3 rfl
     have hfs88 := blk_frozen BK516.out 3
     have hns88_0 := NB514_516.out
     have hns88_1 := NB515_516.out
     have hns88_3 := NB527_516.out
     have hms88_0 := NB516_514.out
     have hms88_1 := NB516_515.out
     have hms88_3 := NB516_527.out
     refine skip_ (w1 := ?_) (by rfl) rfl ?_ ?_
     rotate_left
     ·
      go_simp
      rfl
     refine hK.out _ _ ⟨((cell_far (p := ⟨gb516, _, none⟩) NB514_516.out _).trans (((cell_far (p := ⟨gb516, _, none⟩) NB514_516.out _).trans (((cell_far (p := ⟨gb516, _, none⟩) NB514_516.out _).trans (((cell_far (p := ⟨gb516, _, none⟩) NB514_516.out _).trans (hHeld.1)))))))), ((cell_far (p := ⟨gb516, _, none⟩) NB514_516.out _).trans (((cell_far (p := ⟨gb516, _, none⟩) NB514_516.out _).trans (((cell_far (p := ⟨gb516, _, none⟩) NB514_516.out _).trans (((cell_far (p := ⟨gb516, _, none⟩) NB514_516.out _).trans (hHeld.2.1)))))))), ((cell_far (p := ⟨gb516, _, none⟩) NB527_516.out _).trans (((cell_far (p := ⟨gb516, _, none⟩) NB527_516.out _).trans (((cell_far (p := ⟨gb516, _, none⟩) NB527_516.out _).trans (((cell_far (p := ⟨gb516, _, none⟩) NB527_516.out _).trans (hHeld.2.2.1)))))))), ((cell_far (p := ⟨gb516, _, none⟩) NB527_516.out _).trans (((cell_far (p := ⟨gb516, _, none⟩) NB527_516.out _).trans (((cell_far (p := ⟨gb516, _, none⟩) NB527_516.out _).trans (((cell_far (p := ⟨gb516, _, none⟩) NB527_516.out _).trans (hHeld.2.2.2.1)))))))), ((cell_far (p := ⟨gb516, _, none⟩) NB527_516.out _).trans (((cell_far (p := ⟨gb516, _, none⟩) NB527_516.out _).trans (((cell_far (p := ⟨gb516, _, none⟩) NB527_516.out _).trans (((cell_far (p := ⟨gb516, _, none⟩) NB527_516.out _).trans (hHeld.2.2.2.2.1)))))))), ((cell_far (p := ⟨gb516, _, none⟩) NB527_516.out _).trans (((cell_far (p := ⟨gb516, _, none⟩) NB527_516.out _).trans (((cell_far (p := ⟨gb516, _, none⟩) NB527_516.out _).trans (((cell_far (p := ⟨gb516, _, none⟩) NB527_516.out _).trans (hHeld.2.2.2.2.2))))))))⟩ (fun hHeld => ?_)
     clear hK K
     refine pure_ (i := 9) (N := some 4) (v := ?_) (a' := ?_) #[true, true, true, true, true, true, true, true, true, true] rfl rfl (any_of HT_.out (by kernel_rfl)) (fun _ _ _ h => h) (Or.inl ⟨by rfl, ?_⟩) ?_ ?_
     rotate_left
     ·
      intro w'
      go_simp
      with_reducible rfl
     rotate_left
     ·
      simp only [Act.put, List.setIfInBounds_toArray, List.set_cons_zero, List.set_cons_succ, i64_w, i32_w]
      rfl
     refine done_ (done_of HT_.out (by kernel_rfl)) ?_
     try go_wp2
     refine bodyPost_ret (results_list (rs := [.cell 2 47, .cell 3 34, .tmp 4]) rfl (by simp) (.cell gb515 47 #[.slice Ao82 t533.length co82, .bool false] (0, 0) _ rfl (by (with_reducible repeat first|apply bn_|apply bd_|apply ba_); refine blk_far ?_ NB515_516.out _; refine blk_far ?_ NB515_516.out _; refine blk_far ?_ NB515_516.out _; refine blk_far ?_ NB515_516.out _; apply bp2_; (with_reducible repeat first|apply bn_|apply bd_|apply ba_); exact BK515.out) Try.underlying47 rfl (by kernel_rfl) (.cell gb516 34 #[.int .i64 t522, .int .i64 t523, .int .i64 t524, .int .i64 t525] (0, 0) _ rfl (by (with_reducible repeat first|apply bn_|apply bd_|apply ba_); apply bp4_; refine blk_far ?_ NB516_515.out _; refine blk_far ?_ NB516_515.out _; (with_reducible repeat first|apply bn_|apply bd_|apply ba_); exact BK516.out) Try.underlying34 rfl (by kernel_rfl) (.tmp .nil)))) rfl ?_
     exact ⟨_, ew_, by (with_reducible repeat (first | apply Kd.R_alloc | apply Kd.R_drewN | apply Kd.R_drew)); exact Kd.R_mono (Rf4_ (g := gb516) (Kd.R_far (p := ⟨gb515, 1, none⟩) (Kd.R_far (p := ⟨gb515, 0, none⟩) (Kd.R_types (Kd.R_types HO535.out BK515.out (by decide)) BK516.out (by decide)) (fun _ hk => by first | exact hk.1.2 | grind) (.slice Ao82 t533.length co82)) (fun _ hk => by first | exact hk.1.2 | grind) (.bool false))) (fun _ hk => trivial), ue_ HB.out⟩
    rw [if_neg c67] at H
    exact absurd H (by simp)
   rw [if_neg c66] at H
   exact absurd H (by simp)

/-! ### spec_DecoderOk: function 21 -/
def spec_DecoderOk.f (l0_0 : List Int) (a0_1 : Bool) : Option (Bool) := if (l0_0.length : Int) ≤ 400 then (if a0_1 = true then (some ((l0_0.length : Int) == 0)) else (some true)) else (some false)
set_option maxHeartbeats 8000000 in
set_option maxRecDepth 100000 in
theorem spec_DecoderOk.calls (A0_0 : Option Addr) (c0_0 : Nat) (l0_0 : List Int) (a0_1 : Bool) (r : Bool) (w : World) (hr0_0 : Kd.C (Kd.int .u8) w A0_0 l0_0.length l0_0) (hc0_0 : l0_0.length ≤ c0_0) (h : spec_DecoderOk.f l0_0 a0_1 = some r) :
  Calls Try.prog 21 #[.agg #[.slice A0_0 l0_0.length c0_0, .bool a0_1]] w fun e w' => e = .returned (.bool r) ∧ Below w.heap.size w w' := by
 have hu47 := Try.underlying47
 have HR0_0 := Aside0.mk hr0_0
 have HC0_0 := Aside0.mk hc0_0
 clear hr0_0 hc0_0
 have HB := am_ (Below.refl w.heap.size w)
 have H : (if (l0_0.length : Int) ≤ 400 then (if a0_1 = true then (some ((l0_0.length : Int) == 0)) else (some true)) else (some false)) = some r := h
 clear h
 by_cases c2 : (l0_0.length : Int) ≤ 400
 ·
  rw [if_pos c2] at H
  have c2b0 : decide ((l0_0.length : Int) ≤ 400) = true := decide_eq_true c2
  have c2b1 : decide (l0_0.length ≤ 400) = true := decide_eq_true (by omega)
  clear c2
  by_cases c3 : a0_1 = true
  ·
   subst c3
   have H1 : (some ((l0_0.length : Int) == 0)) = some r := by rw [if_pos rfl] at H; exact H
   clear H
   have H := H1
   clear H1
   obtain rfl := Option.some.inj H
   go_enter Try.func21, Try.ntmps21
   go_wp2_with (first | ((with_reducible refine gate_dst (N := 1) rfl ?_); (try (refine gate_guard (by rfl) ?_; dsimp only)); refine bx_ (N := 1) (cs := #[.slice A0_0 l0_0.length c0_0, .bool true]) (t := 47) ?_; intro gb536 hg w4 hbox hb; have BK536 := am_ (hbox); have GW536 := am_ ((by rw [hg]; exact (below_size (ue_ HB.out)) : w.heap.size ≤ gb536)); have GE536 := am_ ((by rw [hg]; exact (below_size (ue_ HB.out)) : w.heap.size ≤ gb536)); replace HB := am_ (below_step (ue_ HB.out) hb); clear hb hbox hg; obtain ⟨hcz5_0, hcz5_1⟩ := cb2_ BK536.out; have hfz5_0 := blk_frozen BK536.out 0; have hfz5_1 := blk_frozen BK536.out 1))
   go_ret
   exact ⟨ew_, ue_ HB.out⟩
  replace c3 := Bool.eq_false_iff.mpr c3
  subst c3
  have H1 : (some true) = some r := by rw [if_neg (show ¬ (false = true) by decide)] at H; exact H
  clear H
  have H := H1
  clear H1
  obtain rfl := Option.some.inj H
  go_enter Try.func21, Try.ntmps21
  go_wp2_with (first | ((with_reducible refine gate_dst (N := 1) rfl ?_); (try (refine gate_guard (by rfl) ?_; dsimp only)); refine bx_ (N := 1) (cs := #[.slice A0_0 l0_0.length c0_0, .bool false]) (t := 47) ?_; intro gb536 hg w6 hbox hb; have BK536 := am_ (hbox); have GW536 := am_ ((by rw [hg]; exact (below_size (ue_ HB.out)) : w.heap.size ≤ gb536)); have GE536 := am_ ((by rw [hg]; exact (below_size (ue_ HB.out)) : w.heap.size ≤ gb536)); replace HB := am_ (below_step (ue_ HB.out) hb); clear hb hbox hg; obtain ⟨hcz7_0, hcz7_1⟩ := cb2_ BK536.out; have hfz7_0 := blk_frozen BK536.out 0; have hfz7_1 := blk_frozen BK536.out 1))
  go_ret
  exact ⟨ew_, ue_ HB.out⟩
 rw [if_neg c2] at H
 have c2b0 : decide ((l0_0.length : Int) ≤ 400) = false := decide_eq_false c2
 have c2b1 : decide (l0_0.length ≤ 400) = false := decide_eq_false (by omega)
 clear c2
 obtain rfl := Option.some.inj H
 go_enter Try.func21, Try.ntmps21
 go_wp2_with (first | ((with_reducible refine gate_dst (N := 1) rfl ?_); (try (refine gate_guard (by rfl) ?_; dsimp only)); refine bx_ (N := 1) (cs := #[.slice A0_0 l0_0.length c0_0, .bool a0_1]) (t := 47) ?_; intro gb536 hg w8 hbox hb; have BK536 := am_ (hbox); have GW536 := am_ ((by rw [hg]; exact (below_size (ue_ HB.out)) : w.heap.size ≤ gb536)); have GE536 := am_ ((by rw [hg]; exact (below_size (ue_ HB.out)) : w.heap.size ≤ gb536)); replace HB := am_ (below_step (ue_ HB.out) hb); clear hb hbox hg; obtain ⟨hcz9_0, hcz9_1⟩ := cb2_ BK536.out; have hfz9_0 := blk_frozen BK536.out 0; have hfz9_1 := blk_frozen BK536.out 1))
 go_ret
 exact ⟨ew_, ue_ HB.out⟩

end Go.Proofs.Ytaofcalmgodgjaa.QFnPieces
