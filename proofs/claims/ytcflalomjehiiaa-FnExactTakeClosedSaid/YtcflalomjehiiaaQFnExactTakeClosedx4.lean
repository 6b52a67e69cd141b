/- The machine side of a law: Lean functions with the Go functions' answers and the walks that show it. No condition. -/
import Derived.Test.YtcflalomjehiiaaQFnExactTakeClosedx0
import Derived.Test.YtcflalomjehiiaaQFnExactTakeClosedx2
import Derived.Test.YtcflalomjehiiaaQFnExactTakeClosedx3
namespace Go.Proofs.Ytcflalomjehiiaa.QFnExactTakeClosed
open Go.RowKit Go.Proofs.YtcflalomjehiiaaW.PrintWords Go.Proofs.YtcflalomjehiiaaW.PrintLast Go.Proofs.YtcflalomjehiiaaW.PrintMore
attribute [local go_sem] max2_int min2_int max_two min_two max_three min_three max_four min_four   -- for this text's walks alone
set_option linter.unusedVariables false
set_option linter.unusedSimpArgs false

/-! ### spec_WindowEnd: function 112 -/
def spec_WindowEnd.f (a0 : Int) (a1 : Int) : Option (Int) := (spec_l01In.f a0 0 1000000).bind fun t168 => (if t168 = true then ((spec_l01In.f a1 1 1000000).bind fun t169 => (if t169 = true then (some (wrap64 ((wrap64 ((wrap64 (a0 + 1)) * a1)) - 1))) else (some (-1)))) else (some (-1)))
set_option maxHeartbeats 8000000 in
set_option maxRecDepth 100000 in
theorem spec_WindowEnd.calls (a0 : Int) (a1 : Int) (r : Int) (w : World) (h : spec_WindowEnd.f a0 a1 = some r) :
  Calls Try.prog 112 #[.int .i64 a0, .int .i64 a1] w fun e w' => e = .returned (.int .i64 r) ∧ Drawn0 w w' := by
 have H : ((spec_l01In.f a0 0 1000000).bind fun t168 => (if t168 = true then ((spec_l01In.f a1 1 1000000).bind fun t169 => (if t169 = true then (some (wrap64 ((wrap64 ((wrap64 (a0 + 1)) * a1)) - 1))) else (some (-1)))) else (some (-1)))) = some r := h
 clear h
 replace H := Option.bind_eq_some_iff.mp H
 obtain ⟨t168, A30, H⟩ := H
 replace H : (if t168 = true then ((spec_l01In.f a1 1 1000000).bind fun t169 => (if t169 = true then (some (wrap64 ((wrap64 ((wrap64 (a0 + 1)) * a1)) - 1))) else (some (-1)))) else (some (-1))) = some r := H
 have A3 := Aside0.mk A30
 clear A30
 by_cases c4 : t168 = true
 ·
  subst c4
  have H1 : ((spec_l01In.f a1 1 1000000).bind fun t169 => (if t169 = true then (some (wrap64 ((wrap64 ((wrap64 (a0 + 1)) * a1)) - 1))) else (some (-1)))) = some r := by rw [if_pos rfl] at H; exact H
  clear H
  have H := H1
  clear H1
  replace H := Option.bind_eq_some_iff.mp H
  obtain ⟨t169, A50, H⟩ := H
  replace H : (if t169 = true then (some (wrap64 ((wrap64 ((wrap64 (a0 + 1)) * a1)) - 1))) else (some (-1))) = some r := H
  have A5 := Aside0.mk A50
  clear A50
  by_cases c6 : t169 = true
  ·
   subst c6
   have H1 : (some (wrap64 ((wrap64 ((wrap64 (a0 + 1)) * a1)) - 1))) = some r := by rw [if_pos rfl] at H; exact H
   clear H
   have H := H1
   clear H1
   obtain rfl := Option.some.inj H
   go_enter Try.func112, Try.ntmps112
   go_wp2_with (first | ((with_reducible refine gate_callee (f := 111) rfl ?_); refine goesL_ (some 6) rfl rfl Try.func111 (by kernel_rfl) rfl #[.int .i64 a0, .int .i64 0, .int .i64 1000000] rfl ul_ ?_; (with_reducible refine (spec_l01In.calls a0 0 1000000 true _ A3.out).mono ?_); rintro e w' ⟨rfl, ⟨nd, rfl⟩⟩; refine ⟨_, rfl, ?_⟩) | (go_at_call 111; (with_reducible refine (spec_l01In.calls a1 1 1000000 true _ A5.out).mono ?_); rintro e w' ⟨rfl, ⟨nd, rfl⟩⟩))
   go_ret
   exact ⟨by first | rfl | (simp; done) | (simp [*]; done), by repeat (first | exact Drawn0.refl _ | apply Drawn0.step)⟩
  ·
   replace c6 := Bool.eq_false_iff.mpr c6
   subst c6
   have H1 : (some (-1)) = some r := by rw [if_neg (show ¬ (false = true) by decide)] at H; exact H
   clear H
   have H := H1
   clear H1
   obtain rfl := Option.some.inj H
   go_enter Try.func112, Try.ntmps112
   go_wp2_with (first | ((with_reducible refine gate_callee (f := 111) rfl ?_); refine goesL_ (some 6) rfl rfl Try.func111 (by kernel_rfl) rfl #[.int .i64 a0, .int .i64 0, .int .i64 1000000] rfl ul_ ?_; (with_reducible refine (spec_l01In.calls a0 0 1000000 true _ A3.out).mono ?_); rintro e w' ⟨rfl, ⟨nd, rfl⟩⟩; refine ⟨_, rfl, ?_⟩) | (go_at_call 111; (with_reducible refine (spec_l01In.calls a1 1 1000000 false _ A5.out).mono ?_); rintro e w' ⟨rfl, ⟨nd, rfl⟩⟩))
   go_ret
   exact ⟨by first | rfl | (simp; done) | (simp [*]; done), by repeat (first | exact Drawn0.refl _ | apply Drawn0.step)⟩
 ·
  replace c4 := Bool.eq_false_iff.mpr c4
  subst c4
  have H1 : (some (-1)) = some r := by rw [if_neg (show ¬ (false = true) by decide)] at H; exact H
  clear H
  have H := H1
  clear H1
  obtain rfl := Option.some.inj H
  go_enter Try.func112, Try.ntmps112
  go_wp2_with (first | ((with_reducible refine gate_callee (f := 111) rfl ?_); refine goesL_ (some 6) rfl rfl Try.func111 (by kernel_rfl) rfl #[.int .i64 a0, .int .i64 0, .int .i64 1000000] rfl ul_ ?_; (with_reducible refine (spec_l01In.calls a0 0 1000000 false _ A3.out).mono ?_); rintro e w' ⟨rfl, ⟨nd, rfl⟩⟩; refine ⟨_, rfl, ?_⟩))
  go_ret
  exact ⟨by first | rfl | (simp; done) | (simp [*]; done), by repeat (first | exact Drawn0.refl _ | apply Drawn0.step)⟩

/-! ### spec_ClosedOf: function 38 -/
mutual
def spec_ClosedOf.j0 : Nat → Int → List (S80) → Bool → List (S80) → Int → Int → Int → Option ((List (S80)))
 | 0, _, _, _, _, _, _, _ => none
 | k + 1, x1, x5, x15, x171000, x171001, x171002, x171003 => if x15 = true then (some ([] : List (S80))) else (spec_ClosedOf.l0 k x1 x5 0 x171000 x171001 x171002 x171003)
def spec_ClosedOf.l0 : Nat → Int → List (S80) → Int → List (S80) → Int → Int → Int → Option ((List (S80)))
 | 0, _, _, _, _, _, _, _ => none
 | k + 1, x1, x5, x6, x171000, x171001, x171002, x171003 => if x6 < (x171000.length : Int) then (if 0 ≤ x6 then ((spec_WindowEnd.f ((rd_T80 x171000 x6).f0) x1).bind fun t177 => (if t177 ≤ x171001 then (if x5.length < 2932031007402 then (spec_ClosedOf.l0 k x1 (x5 ++ [(⟨(rd_T80 x171000 x6).f0, (rd_T80 x171000 x6).f1, (rd_T80 x171000 x6).f2, (rd_T80 x171000 x6).f3, (rd_T80 x171000 x6).f4, (rd_T80 x171000 x6).f5⟩ : S80)]) (wrap64 (x6 + 1)) x171000 x171001 x171002 x171003) else (none)) else (spec_ClosedOf.l0 k x1 x5 (wrap64 (x6 + 1)) x171000 x171001 x171002 x171003))) else (none)) else (some x5)
end
def spec_ClosedOf.f (k : Nat) (l0_0 : List (S80)) (a0_1 : Int) (a0_2 : Int) (a0_3 : Int) (a1 : Int) : Option ((List (S80))) := (some (([] : List (S80)) : List (S80))).bind fun y171 => ((spec_ShardOk.f k l0_0 a0_1 a0_2 a0_3).bind fun t174 => (if t174 = true then ((spec_l01In.f a1 1 1000000).bind fun t175 => (spec_ClosedOf.j0 k a1 y171 (!t175) l0_0 a0_1 a0_2 a0_3)) else (spec_ClosedOf.j0 k a1 y171 true l0_0 a0_1 a0_2 a0_3)))
theorem spec_ClosedOf.mono_l : ∀ k, (∀ y0 y1 y2 y3 y4 y5 y6, LeO (spec_ClosedOf.j0 k y0 y1 y2 y3 y4 y5 y6) (spec_ClosedOf.j0 (k + 1) y0 y1 y2 y3 y4 y5 y6)) ∧ (∀ y0 y1 y2 y3 y4 y5 y6, LeO (spec_ClosedOf.l0 k y0 y1 y2 y3 y4 y5 y6) (spec_ClosedOf.l0 (k + 1) y0 y1 y2 y3 y4 y5 y6))
 | 0 => ⟨fun _ _ _ _ _ _ _ r h => by simp [spec_ClosedOf.j0] at h, fun _ _ _ _ _ _ _ r h => by simp [spec_ClosedOf.l0] at h⟩
 | k + 1 => by
  obtain ⟨ih0, ih1⟩ := spec_ClosedOf.mono_l k
  refine ⟨?_, ?_⟩
  ·
   intro y0 y1 y2 y3 y4 y5 y6
   unfold spec_ClosedOf.j0
   repeat' first
   | (with_reducible exact ih0 _ _ _ _ _ _ _)
   | (with_reducible exact ih1 _ _ _ _ _ _ _)
   | (with_reducible exact spec_ShardOk.mono _ _ _ _ _)
   | (with_reducible exact LeO.refl _)
   | (with_reducible exact LeO.none _)
   | (with_reducible refine LeO.ite ?_ ?_)
   | (with_reducible refine LeO.bind ?_ (fun _ => ?_))
   | exact ih0 _ _ _ _ _ _ _
   | exact ih1 _ _ _ _ _ _ _
   | exact spec_ShardOk.mono _ _ _ _ _
   | exact LeO.none _
   | refine LeO.ite ?_ ?_
   | refine LeO.bind ?_ (fun _ => ?_)
  ·
   intro y0 y1 y2 y3 y4 y5 y6
   unfold spec_ClosedOf.l0
   repeat' first
   | (with_reducible exact ih0 _ _ _ _ _ _ _)
   | (with_reducible exact ih1 _ _ _ _ _ _ _)
   | (with_reducible exact spec_ShardOk.mono _ _ _ _ _)
   | (with_reducible exact LeO.refl _)
   | (with_reducible exact LeO.none _)
   | (with_reducible refine LeO.ite ?_ ?_)
   | (with_reducible refine LeO.bind ?_ (fun _ => ?_))
   | exact ih0 _ _ _ _ _ _ _
   | exact ih1 _ _ _ _ _ _ _
   | exact spec_ShardOk.mono _ _ _ _ _
   | exact LeO.none _
   | refine LeO.ite ?_ ?_
   | refine LeO.bind ?_ (fun _ => ?_)
theorem spec_ClosedOf.mono : ∀ a0 a1 a2 a3 a4 k, LeO (spec_ClosedOf.f k a0 a1 a2 a3 a4) (spec_ClosedOf.f (k + 1) a0 a1 a2 a3 a4) := by
 intro a0 a1 a2 a3 a4 k
 obtain ⟨ih0, ih1⟩ := spec_ClosedOf.mono_l k
 unfold spec_ClosedOf.f
 repeat' first
   | (with_reducible exact ih0 _ _ _ _ _ _ _)
   | (with_reducible exact ih1 _ _ _ _ _ _ _)
   | (with_reducible exact spec_ShardOk.mono _ _ _ _ _)
   | (with_reducible exact LeO.refl _)
   | (with_reducible exact LeO.none _)
   | (with_reducible refine LeO.ite ?_ ?_)
   | (with_reducible refine LeO.bind ?_ (fun _ => ?_))
   | exact ih0 _ _ _ _ _ _ _
   | exact ih1 _ _ _ _ _ _ _
   | exact spec_ShardOk.mono _ _ _ _ _
   | exact LeO.none _
   | refine LeO.ite ?_ ?_
   | refine LeO.bind ?_ (fun _ => ?_)
set_option maxHeartbeats 8000000 in
set_option maxRecDepth 100000 in
theorem spec_ClosedOf.calls (k : Nat) (A0_0 : Option Addr) (c0_0 : Nat) (l0_0 : List (S80)) (a0_1 : Int) (a0_2 : Int) (a0_3 : Int) (a1 : Int) (r : List (S80)) (w : World) (hr0_0 : Kd.C k80 w A0_0 l0_0.length l0_0) (hc0_0 : l0_0.length ≤ c0_0) (h : spec_ClosedOf.f k l0_0 a0_1 a0_2 a0_3 a1 = some r) :
  Calls Try.prog 38 #[.agg #[.slice A0_0 l0_0.length c0_0, .int .i64 a0_1, .int .i64 a0_2, .int .i64 a0_3], .int .i64 a1] w fun e w' => ∃ v0_ : Value, e = .returned (v0_) ∧ Kd.R k80 80 w' w.heap.size (fun _ => True) v0_ r ∧ Below w.heap.size w w' := by
 have hu42 := Try.underlying42
 have hu80 := Try.underlying80
 have HR0_0 := Aside0.mk hr0_0
 have HC0_0 := Aside0.mk hc0_0
 clear hr0_0 hc0_0
 have HB := am_ (Below.refl w.heap.size w)
 have H : ((some (([] : List (S80)) : List (S80))).bind fun y171 => ((spec_ShardOk.f k l0_0 a0_1 a0_2 a0_3).bind fun t174 => (if t174 = true then ((spec_l01In.f a1 1 1000000).bind fun t175 => (spec_ClosedOf.j0 k a1 y171 (!t175) l0_0 a0_1 a0_2 a0_3)) else (spec_ClosedOf.j0 k a1 y171 true l0_0 a0_1 a0_2 a0_3)))) = some r := h
 clear h
 obtain ⟨y171, hy171⟩ : ∃ y_ : List (S80), y_ = (([] : List (S80))) := ⟨_, rfl⟩
 replace H : ((spec_ShardOk.f k l0_0 a0_1 a0_2 a0_3).bind fun t174 => (if t174 = true then ((spec_l01In.f a1 1 1000000).bind fun t175 => (spec_ClosedOf.j0 k a1 y171 (!t175) l0_0 a0_1 a0_2 a0_3)) else (spec_ClosedOf.j0 k a1 y171 true l0_0 a0_1 a0_2 a0_3))) = some r := by first | (rw [hy171]; with_reducible exact H) | (have H2_ := (Option.bind_some _ _).symm.trans H; rw [hy171]; with_reducible exact H2_) | (have H2_ := (Option.bind_some _ _).symm.trans H; with_reducible exact H2_) | with_reducible exact H | (rw [hy171]; exact H) | exact H
 have Ny171 := Aside0.mk hy171
 clear hy171
 have HC3 := Aside0.mk H
 clear H
 go_enter Try.func38, Try.ntmps38
 go_upto_region 2 with (first | ((with_reducible refine gate_dst (N := 2) rfl ?_); refine box_event ?hg (N := 2) ?hd (cs := #[.slice A0_0 l0_0.length c0_0, .int .i64 a0_1, .int .i64 a0_2, .int .i64 a0_3]) (t := 42) ?hr ?_; (case hd => rfl); (case hg => rfl); (case hr => first | (go_simp; done) | (go_simp; rfl)); intro gb170 hg w4 hbox hb; have n0_ := am_ (below_step (ue_ HB.out) hb); have n1_ := am_ (hbox); have n2_ := am_ ((by rw [hg]; exact (below_size (ue_ HB.out)) : w.heap.size ≤ gb170)); have n3_ := am_ ((by rw [hg]; exact (below_size (ue_ HB.out)) : w.heap.size ≤ gb170)); clear HB; have HB := n0_; have BK170 := n1_; have GW170 := n2_; have GE170 := n3_; clear n0_ n1_ n2_ n3_; clear hb hbox hg) | ((with_reducible refine gate_dst (N := 7) rfl ?_); refine Kd.R_lit k80 _ 80 ?hg (N := 7) ?hd (xs := ([] : List (S80))) (inner := []) (ok := fun _ => True) (okp := fun _ => True) ?hr ?hp (fun _ hk => hk) trivial (Below.refl _ _) (Nat.le_refl _) (by simp) ?_; (case hd => rfl); (case hg => rfl); (case hr => first | (go_simp; done) | (go_simp; rfl)); (case hp => exact (Reps.none _ _)); intro v172 w5 ho6 hb hg_ hnew_; clear hg_ hnew_; (first | rw [← Ny171.out] at ho6 | (simp only [Int.reduceToNat] at ho6; rw [← Ny171.out] at ho6)); have n0_ := am_ (Kd.R_lower ho6 (below_size (ue_ HB.out))); have n1_ := am_ (bb_ BK170.out hb); have n2_ := am_ (below_step (ue_ HB.out) hb); clear BK170 HB; have HO173 := n0_; have BK170 := n1_; have HB := n2_; clear n0_ n1_ n2_; clear hb ho6))
 repeat (go_quiet (first | ((with_reducible refine gate_dst (N := 2) rfl ?_); refine box_event ?hg (N := 2) ?hd (cs := #[.slice A0_0 l0_0.length c0_0, .int .i64 a0_1, .int .i64 a0_2, .int .i64 a0_3]) (t := 42) ?hr ?_; (case hd => rfl); (case hg => rfl); (case hr => first | (go_simp; done) | (go_simp; rfl)); intro gb170 hg w4 hbox hb; have n0_ := am_ (below_step (ue_ HB.out) hb); have n1_ := am_ (hbox); have n2_ := am_ ((by rw [hg]; exact (below_size (ue_ HB.out)) : w.heap.size ≤ gb170)); have n3_ := am_ ((by rw [hg]; exact (below_size (ue_ HB.out)) : w.heap.size ≤ gb170)); clear HB; have HB := n0_; have BK170 := n1_; have GW170 := n2_; have GE170 := n3_; clear n0_ n1_ n2_ n3_; clear hb hbox hg) | ((with_reducible refine gate_dst (N := 7) rfl ?_); refine Kd.R_lit k80 _ 80 ?hg (N := 7) ?hd (xs := ([] : List (S80))) (inner := []) (ok := fun _ => True) (okp := fun _ => True) ?hr ?hp (fun _ hk => hk) trivial (Below.refl _ _) (Nat.le_refl _) (by simp) ?_; (case hd => rfl); (case hg => rfl); (case hr => first | (go_simp; done) | (go_simp; rfl)); (case hp => exact (Reps.none _ _)); intro v172 w5 ho6 hb hg_ hnew_; clear hg_ hnew_; (first | rw [← Ny171.out] at ho6 | (simp only [Int.reduceToNat] at ho6; rw [← Ny171.out] at ho6)); have n0_ := am_ (Kd.R_lower ho6 (below_size (ue_ HB.out))); have n1_ := am_ (bb_ BK170.out hb); have n2_ := am_ (below_step (ue_ HB.out) hb); clear BK170 HB; have HO173 := n0_; have BK170 := n1_; have HB := n2_; clear n0_ n1_ n2_; clear hb ho6)); go_upto_region 2 with (first | ((with_reducible refine gate_dst (N := 2) rfl ?_); refine box_event ?hg (N := 2) ?hd (cs := #[.slice A0_0 l0_0.length c0_0, .int .i64 a0_1, .int .i64 a0_2, .int .i64 a0_3]) (t := 42) ?hr ?_; (case hd => rfl); (case hg => rfl); (case hr => first | (go_simp; done) | (go_simp; rfl)); intro gb170 hg w4 hbox hb; have n0_ := am_ (below_step (ue_ HB.out) hb); have n1_ := am_ (hbox); have n2_ := am_ ((by rw [hg]; exact (below_size (ue_ HB.out)) : w.heap.size ≤ gb170)); have n3_ := am_ ((by rw [hg]; exact (below_size (ue_ HB.out)) : w.heap.size ≤ gb170)); clear HB; have HB := n0_; have BK170 := n1_; have GW170 := n2_; have GE170 := n3_; clear n0_ n1_ n2_ n3_; clear hb hbox hg) | ((with_reducible refine gate_dst (N := 7) rfl ?_); refine Kd.R_lit k80 _ 80 ?hg (N := 7) ?hd (xs := ([] : List (S80))) (inner := []) (ok := fun _ => True) (okp := fun _ => True) ?hr ?hp (fun _ hk => hk) trivial (Below.refl _ _) (Nat.le_refl _) (by simp) ?_; (case hd => rfl); (case hg => rfl); (case hr => first | (go_simp; done) | (go_simp; rfl)); (case hp => exact (Reps.none _ _)); intro v172 w5 ho6 hb hg_ hnew_; clear hg_ hnew_; (first | rw [← Ny171.out] at ho6 | (simp only [Int.reduceToNat] at ho6; rw [← Ny171.out] at ho6)); have n0_ := am_ (Kd.R_lower ho6 (below_size (ue_ HB.out))); have n1_ := am_ (bb_ BK170.out hb); have n2_ := am_ (below_step (ue_ HB.out) hb); clear BK170 HB; have HO173 := n0_; have BK170 := n1_; have HB := n2_; clear n0_ n1_ n2_; clear hb ho6)))
 (try simp only [Act.put, List.setIfInBounds_toArray, List.set_cons_zero, List.set_cons_succ])
 go_cut [15] (fun v15 wc => ∃ (kq : Nat) (x15_2 : Bool), v15 = .bool x15_2 ∧ Aside0 (spec_ClosedOf.j0 kq a1 y171 x15_2 l0_0 a0_1 a0_2 a0_3 = some r) ∧ Aside0 (kq ≤ k) ∧ Aside0 (Kd.R k80 80 wc w.heap.size (fun _ => True) v172 y171) ∧ Aside0 (wc.heap[gb170]? = some (.cells #[(.slice A0_0 l0_0.length c0_0), .int .i64 a0_1, .int .i64 a0_2, .int .i64 a0_3] 42 (0, 0))) ∧ Aside0 (Below w.heap.size w wc))
 case first =>
  have H := HC3.out
  clear HC3
  replace H := Option.bind_eq_some_iff.mp H
  obtain ⟨t174, A70, H⟩ := H
  replace H : (if t174 = true then ((spec_l01In.f a1 1 1000000).bind fun t175 => (spec_ClosedOf.j0 k a1 y171 (!t175) l0_0 a0_1 a0_2 a0_3)) else (spec_ClosedOf.j0 k a1 y171 true l0_0 a0_1 a0_2 a0_3)) = some r := H
  have A7 := Aside0.mk A70
  clear A70
  by_cases c8 : t174 = true
  ·
   subst c8
   have H1 : ((spec_l01In.f a1 1 1000000).bind fun t175 => (spec_ClosedOf.j0 k a1 y171 (!t175) l0_0 a0_1 a0_2 a0_3)) = some r := by rw [if_pos rfl] at H; exact H
   clear H
   have H := H1
   clear H1
   replace H := Option.bind_eq_some_iff.mp H
   obtain ⟨t175, A90, H⟩ := H
   replace H : (spec_ClosedOf.j0 k a1 y171 (!t175) l0_0 a0_1 a0_2 a0_3) = some r := H
   have A9 := Aside0.mk A90
   clear A90
   have H' := Aside0.mk H
   clear H
   have hcz10_0 := cb_ BK170.out 0 rfl
   have hcz10_1 := cb_ BK170.out 1 rfl
   have hcz10_2 := cb_ BK170.out 2 rfl
   have hcz10_3 := cb_ BK170.out 3 rfl
   have hfz10_0 := blk_frozen BK170.out 0
   have hfz10_1 := blk_frozen BK170.out 1
   have hfz10_2 := blk_frozen BK170.out 2
   have hfz10_3 := blk_frozen BK170.out 3
   go_wp2_with (first | (go_at_call 94; (with_reducible refine (spec_ShardOk.calls k _ _ l0_0 a0_1 a0_2 a0_3 true _ ?side1 ?side2 A7.out).mono ?_); (case side1 => repeat (first | exact (Kd.C_below HR0_0.out HB.out) | (with_reducible refine Kd.C_alloc ?_ _) | (with_reducible refine Kd.C_drewN ?_ _) | (with_reducible refine Kd.C_drew ?_))); (case side2 => exact HC0_0.out); rintro e w11 ⟨rfl, hb⟩; have n0_ := am_ (Kd.R_below (ur_ HO173.out) hb); have n1_ := am_ (bb_ BK170.out hb); have n2_ := am_ (below_step (ue_ HB.out) hb); clear HO173 BK170 HB; have HO173 := n0_; have BK170 := n1_; have HB := n2_; clear n0_ n1_ n2_; (try clear hb); (try clear hb2); (try clear hk); (try clear hi)) | (go_at_call 111; (with_reducible refine (spec_l01In.calls a1 1 1000000 t175 _ A9.out).mono ?_); rintro e w' ⟨rfl, ⟨nd, rfl⟩⟩; (try first | exact ⟨rfl, _, World.drewN_drewN _ _ _⟩ | exact ⟨rfl, _, Eq.trans (World.drewN_drewN _ _ _) (congrArg (World.drewN _) (Nat.add_assoc _ _ _))⟩)))
   repeat (go_quiet (first | (go_at_call 94; (with_reducible refine (spec_ShardOk.calls k _ _ l0_0 a0_1 a0_2 a0_3 true _ ?side1 ?side2 A7.out).mono ?_); (case side1 => repeat (first | exact (Kd.C_below HR0_0.out HB.out) | (with_reducible refine Kd.C_alloc ?_ _) | (with_reducible refine Kd.C_drewN ?_ _) | (with_reducible refine Kd.C_drew ?_))); (case side2 => exact HC0_0.out); rintro e w11 ⟨rfl, hb⟩; have n0_ := am_ (Kd.R_below (ur_ HO173.out) hb); have n1_ := am_ (bb_ BK170.out hb); have n2_ := am_ (below_step (ue_ HB.out) hb); clear HO173 BK170 HB; have HO173 := n0_; have BK170 := n1_; have HB := n2_; clear n0_ n1_ n2_; (try clear hb); (try clear hb2); (try clear hk); (try clear hi)) | (go_at_call 111; (with_reducible refine (spec_l01In.calls a1 1 1000000 t175 _ A9.out).mono ?_); rintro e w' ⟨rfl, ⟨nd, rfl⟩⟩; (try first | exact ⟨rfl, _, World.drewN_drewN _ _ _⟩ | exact ⟨rfl, _, Eq.trans (World.drewN_drewN _ _ _) (congrArg (World.drewN _) (Nat.add_assoc _ _ _))⟩))); try go_wp2_with (first | (go_at_call 94; (with_reducible refine (spec_ShardOk.calls k _ _ l0_0 a0_1 a0_2 a0_3 true _ ?side1 ?side2 A7.out).mono ?_); (case side1 => repeat (first | exact (Kd.C_below HR0_0.out HB.out) | (with_reducible refine Kd.C_alloc ?_ _) | (with_reducible refine Kd.C_drewN ?_ _) | (with_reducible refine Kd.C_drew ?_))); (case side2 => exact HC0_0.out); rintro e w11 ⟨rfl, hb⟩; have n0_ := am_ (Kd.R_below (ur_ HO173.out) hb); have n1_ := am_ (bb_ BK170.out hb); have n2_ := am_ (below_step (ue_ HB.out) hb); clear HO173 BK170 HB; have HO173 := n0_; have BK170 := n1_; have HB := n2_; clear n0_ n1_ n2_; (try clear hb); (try clear hb2); (try clear hk); (try clear hi)) | (go_at_call 111; (with_reducible refine (spec_l01In.calls a1 1 1000000 t175 _ A9.out).mono ?_); rintro e w' ⟨rfl, ⟨nd, rfl⟩⟩; (try first | exact ⟨rfl, _, World.drewN_drewN _ _ _⟩ | exact ⟨rfl, _, Eq.trans (World.drewN_drewN _ _ _) (congrArg (World.drewN _) (Nat.add_assoc _ _ _))⟩))))
   go_meet
   case rel => exact ⟨_, (!t175), (by first | rfl | (simp; done) | (simp [*]; done)), H', ⟨by first | omega | exact Nat.le_refl _⟩, ⟨by (with_reducible repeat (first | apply Kd.R_alloc | apply Kd.R_drewN | apply Kd.R_drew)); exact HO173.out⟩, ⟨by (with_reducible repeat first|apply bn_|apply bd_|apply ba_); exact BK170.out⟩, ⟨ue_ HB.out⟩⟩
  ·
   replace c8 := Bool.eq_false_iff.mpr c8
   subst c8
   have H1 : (spec_ClosedOf.j0 k a1 y171 true l0_0 a0_1 a0_2 a0_3) = some r := by rw [if_neg (show ¬ (false = true) by decide)] at H; exact H
   clear H
   have H := H1
   clear H1
   have H' := Aside0.mk H
   clear H
   have hcz12_0 := cb_ BK170.out 0 rfl
   have hcz12_1 := cb_ BK170.out 1 rfl
   have hcz12_2 := cb_ BK170.out 2 rfl
   have hcz12_3 := cb_ BK170.out 3 rfl
   have hfz12_0 := blk_frozen BK170.out 0
   have hfz12_1 := blk_frozen BK170.out 1
   have hfz12_2 := blk_frozen BK170.out 2
   have hfz12_3 := blk_frozen BK170.out 3
   go_wp2_with (first | (go_at_call 94; (with_reducible refine (spec_ShardOk.calls k _ _ l0_0 a0_1 a0_2 a0_3 false _ ?side1 ?side2 A7.out).mono ?_); (case side1 => repeat (first | exact (Kd.C_below HR0_0.out HB.out) | (with_reducible refine Kd.C_alloc ?_ _) | (with_reducible refine Kd.C_drewN ?_ _) | (with_reducible refine Kd.C_drew ?_))); (case side2 => exact HC0_0.out); rintro e w13 ⟨rfl, hb⟩; have n0_ := am_ (Kd.R_below (ur_ HO173.out) hb); have n1_ := am_ (bb_ BK170.out hb); have n2_ := am_ (below_step (ue_ HB.out) hb); clear HO173 BK170 HB; have HO173 := n0_; have BK170 := n1_; have HB := n2_; clear n0_ n1_ n2_; (try clear hb); (try clear hb2); (try clear hk); (try clear hi)))
   repeat (go_quiet (first | (go_at_call 94; (with_reducible refine (spec_ShardOk.calls k _ _ l0_0 a0_1 a0_2 a0_3 false _ ?side1 ?side2 A7.out).mono ?_); (case side1 => repeat (first | exact (Kd.C_below HR0_0.out HB.out) | (with_reducible refine Kd.C_alloc ?_ _) | (with_reducible refine Kd.C_drewN ?_ _) | (with_reducible refine Kd.C_drew ?_))); (case side2 => exact HC0_0.out); rintro e w13 ⟨rfl, hb⟩; have n0_ := am_ (Kd.R_below (ur_ HO173.out) hb); have n1_ := am_ (bb_ BK170.out hb); have n2_ := am_ (below_step (ue_ HB.out) hb); clear HO173 BK170 HB; have HO173 := n0_; have BK170 := n1_; have HB := n2_; clear n0_ n1_ n2_; (try clear hb); (try clear hb2); (try clear hk); (try clear hi))); try go_wp2_with (first | (go_at_call 94; (with_reducible refine (spec_ShardOk.calls k _ _ l0_0 a0_1 a0_2 a0_3 false _ ?side1 ?side2 A7.out).mono ?_); (case side1 => repeat (first | exact (Kd.C_below HR0_0.out HB.out) | (with_reducible refine Kd.C_alloc ?_ _) | (with_reducible refine Kd.C_drewN ?_ _) | (with_reducible refine Kd.C_drew ?_))); (case side2 => exact HC0_0.out); rintro e w13 ⟨rfl, hb⟩; have n0_ := am_ (Kd.R_below (ur_ HO173.out) hb); have n1_ := am_ (bb_ BK170.out hb); have n2_ := am_ (below_step (ue_ HB.out) hb); clear HO173 BK170 HB; have HO173 := n0_; have BK170 := n1_; have HB := n2_; clear n0_ n1_ n2_; (try clear hb); (try clear hb2); (try clear hk); (try clear hi))))
   go_meet
   case rel => exact ⟨_, (true), (by first | rfl | (simp; done) | (simp [*]; done)), H', ⟨by first | omega | exact Nat.le_refl _⟩, ⟨by (with_reducible repeat (first | apply Kd.R_alloc | apply Kd.R_drewN | apply Kd.R_drew)); exact HO173.out⟩, ⟨by (with_reducible repeat first|apply bn_|apply bd_|apply ba_); exact BK170.out⟩, ⟨ue_ HB.out⟩⟩
 case rest =>
  clear HC3
  try clear p2
  try clear c3
  try clear c8
  try clear hcz10_0
  try clear hcz10_1
  try clear hcz10_2
  try clear hcz10_3
  try clear hcz12_0
  try clear hcz12_1
  try clear hcz12_2
  try clear hcz12_3
  try clear hfz10_0
  try clear hfz10_1
  try clear hfz10_2
  try clear hfz10_3
  try clear hfz12_0
  try clear hfz12_1
  try clear hfz12_2
  try clear hfz12_3
  obtain ⟨kq, x15_2, rfl, HA, HJ2, HO_5, BK170, HB⟩ := hcut
  cases kq with
  | zero => exact absurd HA.out (by simp [spec_ClosedOf.j0])
  | succ kj2 =>
   have H := HA.out
   clear HA
   simp only [spec_ClosedOf.j0] at H
   by_cases c14 : x15_2 = true
   ·
    subst c14
    have H1 : (some ([] : List (S80))) = some r := by rw [if_pos rfl] at H; exact H
    clear H
    have H := H1
    clear H1
    obtain rfl := Option.some.inj H
    go_wp2
    repeat (go_quiet (fail); try go_wp2)
    go_ret
    exact ⟨_, ew_, by first | exact Kd.R_nil _ _ _ _ _ | exact Kd.N_nil _ _ _ _ _ | exact Kd.V_nil _ _ _ _ _ | exact Kd.Q_nil _ _ _ _ _ | exact Kd.S_nil _ _ _ _ _, ue_ HB.out⟩
   ·
    replace c14 := Bool.eq_false_iff.mpr c14
    subst c14
    have H1 : (spec_ClosedOf.l0 kj2 a1 y171 0 l0_0 a0_1 a0_2 a0_3) = some r := by rw [if_neg (show ¬ (false = true) by decide)] at H; exact H
    clear H
    have H := H1
    clear H1
    have H' := Aside0.mk H
    clear H
    go_wp2
    repeat (go_quiet (fail); try go_wp2)
    (try simp only [Act.put, List.setIfInBounds_toArray, List.set_cons_zero, List.set_cons_succ])
    go_loopg [5, 6] kj2 (fun kq v5 v6 w' => ∃ (x5_2 : List (S80)) (x6_2 : Int), v6 = .int .i64 x6_2 ∧ Aside0 (spec_ClosedOf.l0 kq a1 x5_2 x6_2 l0_0 a0_1 a0_2 a0_3 = some r) ∧ Aside0 (kq ≤ kj2) ∧ Aside0 (Kd.R k80 80 w' w.heap.size (fun _ => True) v5 x5_2) ∧ Aside0 (w'.heap[gb170]? = some (.cells #[(.slice A0_0 l0_0.length c0_0), .int .i64 a0_1, .int .i64 a0_2, .int .i64 a0_3] 42 (0, 0))) ∧ Aside0 (Below w.heap.size w w'))
    case atStart => exact ⟨(y171), (0), (by first | rfl | (simp; done) | (simp [*]; done)), H', ⟨Nat.le_refl _⟩, ⟨by (with_reducible repeat (first | apply Kd.R_alloc | apply Kd.R_drewN | apply Kd.R_drew)); exact HO_5.out⟩, ⟨by (with_reducible repeat first|apply bn_|apply bd_|apply ba_); exact BK170.out⟩, ⟨ue_ HB.out⟩⟩
    case round =>
     clear H'
     try clear c1
     try clear p2
     try clear c3
     try clear c8
     try clear c14
     try clear hcz10_0
     try clear hcz10_1
     try clear hcz10_2
     try clear hcz10_3
     try clear hcz12_0
     try clear hcz12_1
     try clear hcz12_2
     try clear hcz12_3
     try clear hfz10_0
     try clear hfz10_1
     try clear hfz10_2
     try clear hfz10_3
     try clear hfz12_0
     try clear hfz12_1
     try clear hfz12_2
     try clear hfz12_3
     try clear p2
     obtain ⟨x5_2, x6_2, rfl, HA, HK2, HO_5, BK170, HB⟩ := hrel
     cases gk with
     | zero => exact absurd HA.out (by simp [spec_ClosedOf.l0])
     | succ k2 =>
      have H := HA.out
      clear HA
      simp only [spec_ClosedOf.l0] at H
      by_cases c15 : x6_2 < (l0_0.length : Int)
      ·
       rw [if_pos c15] at H
       have c15b0 : decide (x6_2 < (l0_0.length : Int)) = true := decide_eq_true c15
       clear c15
       by_cases c16 : 0 ≤ x6_2
       ·
        rw [if_pos c16] at H
        have c16b0 : decide (0 ≤ x6_2) = true := decide_eq_true c16
        clear c16
        replace H := Option.bind_eq_some_iff.mp H
        obtain ⟨t177, A170, H⟩ := H
        replace H : (if t177 ≤ a0_1 then (if x5_2.length < 2932031007402 then (spec_ClosedOf.l0 k2 a1 (x5_2 ++ [(⟨(rd_T80 l0_0 x6_2).f0, (rd_T80 l0_0 x6_2).f1, (rd_T80 l0_0 x6_2).f2, (rd_T80 l0_0 x6_2).f3, (rd_T80 l0_0 x6_2).f4, (rd_T80 l0_0 x6_2).f5⟩ : S80)]) (wrap64 (x6_2 + 1)) l0_0 a0_1 a0_2 a0_3) else (none)) else (spec_ClosedOf.l0 k2 a1 x5_2 (wrap64 (x6_2 + 1)) l0_0 a0_1 a0_2 a0_3)) = some r := H
        have A17 := Aside0.mk A170
        clear A170
        by_cases c18 : t177 ≤ a0_1
        ·
         rw [if_pos c18] at H
         have c18b0 : decide (t177 ≤ a0_1) = true := decide_eq_true c18
         clear c18
         by_cases c19 : x5_2.length < 2932031007402
         ·
          rw [if_pos c19] at H
          have LMc19 := Aside0.mk c19
          clear c19
          obtain ⟨y179, hy179⟩ : ∃ y_ : List (S80), y_ = (x5_2 ++ [(⟨(rd_T80 l0_0 x6_2).f0, (rd_T80 l0_0 x6_2).f1, (rd_T80 l0_0 x6_2).f2, (rd_T80 l0_0 x6_2).f3, (rd_T80 l0_0 x6_2).f4, (rd_T80 l0_0 x6_2).f5⟩ : S80)]) := ⟨_, rfl⟩
          replace H : (spec_ClosedOf.l0 k2 a1 y179 (wrap64 (x6_2 + 1)) l0_0 a0_1 a0_2 a0_3) = some r := by first | (rw [hy179]; with_reducible exact H) | (have H2_ := (Option.bind_some _ _).symm.trans H; rw [hy179]; with_reducible exact H2_) | (have H2_ := (Option.bind_some _ _).symm.trans H; with_reducible exact H2_) | with_reducible exact H | (rw [hy179]; exact H) | exact H
          have Ny179 := Aside0.mk hy179
          clear hy179
          have H' := Aside0.mk H
          clear H
          have hcz20_0 := cb_ BK170.out 0 rfl
          have hcz20_1 := cb_ BK170.out 1 rfl
          have hcz20_2 := cb_ BK170.out 2 rfl
          have hcz20_3 := cb_ BK170.out 3 rfl
          have hfz20_0 := blk_frozen BK170.out 0
          have hfz20_1 := blk_frozen BK170.out 1
          have hfz20_2 := blk_frozen BK170.out 2
          have hfz20_3 := blk_frozen BK170.out 3
          have p176 : 0 ≤ (x6_2 : Int) := of_decide_eq_true ua_
          have q176 : x6_2 < (l0_0.length : Int) := of_decide_eq_true ua_
          obtain ⟨ad176, e176, hx176_0, hx176_1, hx176_2, hx176_3, hx176_4, hx176_5⟩ := at_T80 HR0_0.out x6_2 p176 q176
          cases e176
          replace hx176_0 := bc_ HB.out hx176_0
          replace hx176_1 := bc_ HB.out hx176_1
          replace hx176_2 := bc_ HB.out hx176_2
          replace hx176_3 := bc_ HB.out hx176_3
          replace hx176_4 := bc_ HB.out hx176_4
          replace hx176_5 := bc_ HB.out hx176_5
          replace p176 := eq_true p176
          replace q176 := eq_true q176
          go_wp2_with (first | (go_at_call 112; (with_reducible refine (spec_WindowEnd.calls ((rd_T80 l0_0 x6_2).f0) a1 t177 _ A17.out).mono ?_); rintro e w' ⟨rfl, ⟨nd, rfl⟩⟩; (try first | exact ⟨rfl, _, World.drewN_drewN _ _ _⟩ | exact ⟨rfl, _, Eq.trans (World.drewN_drewN _ _ _) (congrArg (World.drewN _) (Nat.add_assoc _ _ _))⟩); have p178 : 0 ≤ (x6_2 : Int) := of_decide_eq_true ua_; have q178 : x6_2 < (l0_0.length : Int) := of_decide_eq_true ua_; obtain ⟨ad178, e178, hx178_0, hx178_1, hx178_2, hx178_3, hx178_4, hx178_5⟩ := at_T80 HR0_0.out x6_2 p178 q178; obtain rfl : ad176 = ad178 := (by injection e178); replace hx178_0 := bc_ HB.out hx178_0; replace hx178_1 := bc_ HB.out hx178_1; replace hx178_2 := bc_ HB.out hx178_2; replace hx178_3 := bc_ HB.out hx178_3; replace hx178_4 := bc_ HB.out hx178_4; replace hx178_5 := bc_ HB.out hx178_5; replace p178 := eq_true p178; replace q178 := eq_true q178) | ((with_reducible refine gate_builtin (b := .append) (xs := #[.tmp 34, .tmp 40]) rfl ?_); at_builtin; refine Kd.R_append k80 (w0 := w) w.heap.size rfl (.tmp 34) (.tmp 40) 40 80 (.agg #[(.int .i64 0), (.int .i64 0), (.int .i64 0), (.int .i64 0), (.int .i64 0), (.int .i64 0)]) 48 rfl Try.underlying40 info80 rfl (by decide) (by omega) u5 x5_2 (⟨(rd_T80 l0_0 x6_2).f0, (rd_T80 l0_0 x6_2).f1, (rd_T80 l0_0 x6_2).f2, (rd_T80 l0_0 x6_2).f3, (rd_T80 l0_0 x6_2).f4, (rd_T80 l0_0 x6_2).f5⟩ : S80) [.int .i64 ((rd_T80 l0_0 x6_2).f0), .int .i64 ((rd_T80 l0_0 x6_2).f1), .int .i64 ((rd_T80 l0_0 x6_2).f2), .int .i64 ((rd_T80 l0_0 x6_2).f3), .int .i64 ((rd_T80 l0_0 x6_2).f4), .int .i64 ((rd_T80 l0_0 x6_2).f5)] (fun _ => True) (fun _ => False) rfl rfl ?aP (fun _ hk => hk.elim) ?aF ?aO ?aB ?aS ?aL ?_; (case aP => exact k80_mkM _ _ _ (⟨(rd_T80 l0_0 x6_2).f0, (rd_T80 l0_0 x6_2).f1, (rd_T80 l0_0 x6_2).f2, (rd_T80 l0_0 x6_2).f3, (rd_T80 l0_0 x6_2).f4, (rd_T80 l0_0 x6_2).f5⟩ : S80)); (case aB => exact (ue_ HB.out)); (case aF => exact (fun _ _ => trivial)); (case aO => exact (ur_ HO_5.out)); (case aS => exact (below_size (ue_ HB.out))); (case aL => have := LMc19.out; omega); intro v180 w21 ho hb hg hat; rw [← Ny179.out] at ho; have n0_ := am_ (blk_grown (g := gb170) (o := .cells #[.slice (some ad176) l0_0.length c0_0, .int .i64 a0_1, .int .i64 a0_2, .int .i64 a0_3] 42 (0, 0)) (ub_ BK170.out) hg (Kd.R_ne HO_5.out BK170.out (by decide))); have n1_ := am_ (hb); have n2_ := am_ (ho); clear BK170 HB HO_5; have BK170 := n0_; have HB := n1_; have HO181 := n2_; clear n0_ n1_ n2_; clear ho hb hg hat))
          repeat (go_quiet (first | (go_at_call 112; (with_reducible refine (spec_WindowEnd.calls ((rd_T80 l0_0 x6_2).f0) a1 t177 _ A17.out).mono ?_); rintro e w' ⟨rfl, ⟨nd, rfl⟩⟩; (try first | exact ⟨rfl, _, World.drewN_drewN _ _ _⟩ | exact ⟨rfl, _, Eq.trans (World.drewN_drewN _ _ _) (congrArg (World.drewN _) (Nat.add_assoc _ _ _))⟩); have p178 : 0 ≤ (x6_2 : Int) := of_decide_eq_true ua_; have q178 : x6_2 < (l0_0.length : Int) := of_decide_eq_true ua_; obtain ⟨ad178, e178, hx178_0, hx178_1, hx178_2, hx178_3, hx178_4, hx178_5⟩ := at_T80 HR0_0.out x6_2 p178 q178; obtain rfl : ad176 = ad178 := (by injection e178); replace hx178_0 := bc_ HB.out hx178_0; replace hx178_1 := bc_ HB.out hx178_1; replace hx178_2 := bc_ HB.out hx178_2; replace hx178_3 := bc_ HB.out hx178_3; replace hx178_4 := bc_ HB.out hx178_4; replace hx178_5 := bc_ HB.out hx178_5; replace p178 := eq_true p178; replace q178 := eq_true q178) | ((with_reducible refine gate_builtin (b := .append) (xs := #[.tmp 34, .tmp 40]) rfl ?_); at_builtin; refine Kd.R_append k80 (w0 := w) w.heap.size rfl (.tmp 34) (.tmp 40) 40 80 (.agg #[(.int .i64 0), (.int .i64 0), (.int .i64 0), (.int .i64 0), (.int .i64 0), (.int .i64 0)]) 48 rfl Try.underlying40 info80 rfl (by decide) (by omega) u5 x5_2 (⟨(rd_T80 l0_0 x6_2).f0, (rd_T80 l0_0 x6_2).f1, (rd_T80 l0_0 x6_2).f2, (rd_T80 l0_0 x6_2).f3, (rd_T80 l0_0 x6_2).f4, (rd_T80 l0_0 x6_2).f5⟩ : S80) [.int .i64 ((rd_T80 l0_0 x6_2).f0), .int .i64 ((rd_T80 l0_0 x6_2).f1), .int .i64 ((rd_T80 l0_0 x6_2).f2), .int .i64 ((rd_T80 l0_0 x6_2).f3), .int .i64 ((rd_T80 l0_0 x6_2).f4), .int .i64 ((rd_T80 l0_0 x6_2).f5)] (fun _ => True) (fun _ => False) rfl rfl ?aP (fun _ hk => hk.elim) ?aF ?aO ?aB ?aS ?aL ?_; (case aP => exact k80_mkM _ _ _ (⟨(rd_T80 l0_0 x6_2).f0, (rd_T80 l0_0 x6_2).f1, (rd_T80 l0_0 x6_2).f2, (rd_T80 l0_0 x6_2).f3, (rd_T80 l0_0 x6_2).f4, (rd_T80 l0_0 x6_2).f5⟩ : S80)); (case aB => exact (ue_ HB.out)); (case aF => exact (fun _ _ => trivial)); (case aO => exact (ur_ HO_5.out)); (case aS => exact (below_size (ue_ HB.out))); (case aL => have := LMc19.out; omega); intro v180 w21 ho hb hg hat; rw [← Ny179.out] at ho; have n0_ := am_ (blk_grown (g := gb170) (o := .cells #[.slice (some ad176) l0_0.length c0_0, .int .i64 a0_1, .int .i64 a0_2, .int .i64 a0_3] 42 (0, 0)) (ub_ BK170.out) hg (Kd.R_ne HO_5.out BK170.out (by decide))); have n1_ := am_ (hb); have n2_ := am_ (ho); clear BK170 HB HO_5; have BK170 := n0_; have HB := n1_; have HO181 := n2_; clear n0_ n1_ n2_; clear ho hb hg hat)); try go_wp2_with (first | (go_at_call 112; (with_reducible refine (spec_WindowEnd.calls ((rd_T80 l0_0 x6_2).f0) a1 t177 _ A17.out).mono ?_); rintro e w' ⟨rfl, ⟨nd, rfl⟩⟩; (try first | exact ⟨rfl, _, World.drewN_drewN _ _ _⟩ | exact ⟨rfl, _, Eq.trans (World.drewN_drewN _ _ _) (congrArg (World.drewN _) (Nat.add_assoc _ _ _))⟩); have p178 : 0 ≤ (x6_2 : Int) := of_decide_eq_true ua_; have q178 : x6_2 < (l0_0.length : Int) := of_decide_eq_true ua_; obtain ⟨ad178, e178, hx178_0, hx178_1, hx178_2, hx178_3, hx178_4, hx178_5⟩ := at_T80 HR0_0.out x6_2 p178 q178; obtain rfl : ad176 = ad178 := (by injection e178); replace hx178_0 := bc_ HB.out hx178_0; replace hx178_1 := bc_ HB.out hx178_1; replace hx178_2 := bc_ HB.out hx178_2; replace hx178_3 := bc_ HB.out hx178_3; replace hx178_4 := bc_ HB.out hx178_4; replace hx178_5 := bc_ HB.out hx178_5; replace p178 := eq_true p178; replace q178 := eq_true q178) | ((with_reducible refine gate_builtin (b := .append) (xs := #[.tmp 34, .tmp 40]) rfl ?_); at_builtin; refine Kd.R_append k80 (w0 := w) w.heap.size rfl (.tmp 34) (.tmp 40) 40 80 (.agg #[(.int .i64 0), (.int .i64 0), (.int .i64 0), (.int .i64 0), (.int .i64 0), (.int .i64 0)]) 48 rfl Try.underlying40 info80 rfl (by decide) (by omega) u5 x5_2 (⟨(rd_T80 l0_0 x6_2).f0, (rd_T80 l0_0 x6_2).f1, (rd_T80 l0_0 x6_2).f2, (rd_T80 l0_0 x6_2).f3, (rd_T80 l0_0 x6_2).f4, (rd_T80 l0_0 x6_2).f5⟩ : S80) [.int .i64 ((rd_T80 l0_0 x6_2).f0), .int .i64 ((rd_T80 l0_0 x6_2).f1), .int .i64 ((rd_T80 l0_0 x6_2).f2), .int .i64 ((rd_T80 l0_0 x6_2).f3), .int .i64 ((rd_T80 l0_0 x6_2).f4), .int .i64 ((rd_T80 l0_0 x6_2).f5)] (fun _ => True) (fun _ => False) rfl rfl ?aP (fun _ hk => hk.elim) ?aF ?aO ?aB ?aS ?aL ?_; (case aP => exact k80_mkM _ _ _ (⟨(rd_T80 l0_0 x6_2).f0, (rd_T80 l0_0 x6_2).f1, (rd_T80 l0_0 x6_2).f2, (rd_T80 l0_0 x6_2).f3, (rd_T80 l0_0 x6_2).f4, (rd_T80 l0_0 x6_2).f5⟩ : S80)); (case aB => exact (ue_ HB.out)); (case aF => exact (fun _ _ => trivial)); (case aO => exact (ur_ HO_5.out)); (case aS => exact (below_size (ue_ HB.out))); (case aL => have := LMc19.out; omega); intro v180 w21 ho hb hg hat; rw [← Ny179.out] at ho; have n0_ := am_ (blk_grown (g := gb170) (o := .cells #[.slice (some ad176) l0_0.length c0_0, .int .i64 a0_1, .int .i64 a0_2, .int .i64 a0_3] 42 (0, 0)) (ub_ BK170.out) hg (Kd.R_ne HO_5.out BK170.out (by decide))); have n1_ := am_ (hb); have n2_ := am_ (ho); clear BK170 HB HO_5; have BK170 := n0_; have HB := n1_; have HO181 := n2_; clear n0_ n1_ n2_; clear ho hb hg hat)))
          go_roundg k2
          case measure => have := HJ2.out; have := HK2.out; omega
          case rel => exact ⟨(y179), (wrap64 (x6_2 + 1)), (by first | rfl | (simp; done) | (simp [*]; done)), H', ⟨by have := HJ2.out; have := HK2.out; omega⟩, ⟨by (with_reducible repeat (first | apply Kd.R_alloc | apply Kd.R_drewN | apply Kd.R_drew)); exact HO181.out⟩, ⟨by (with_reducible repeat first|apply bn_|apply bd_|apply ba_); exact BK170.out⟩, ⟨ue_ HB.out⟩⟩
         ·
          rw [if_neg c19] at H
          exact absurd H (by simp)
        ·
         rw [if_neg c18] at H
         have c18b0 : decide (t177 ≤ a0_1) = false := decide_eq_false c18
         clear c18
         have H' := Aside0.mk H
         clear H
         have hcz22_0 := cb_ BK170.out 0 rfl
         have hcz22_1 := cb_ BK170.out 1 rfl
         have hcz22_2 := cb_ BK170.out 2 rfl
         have hcz22_3 := cb_ BK170.out 3 rfl
         have hfz22_0 := blk_frozen BK170.out 0
         have hfz22_1 := blk_frozen BK170.out 1
         have hfz22_2 := blk_frozen BK170.out 2
         have hfz22_3 := blk_frozen BK170.out 3
         have p176 : 0 ≤ (x6_2 : Int) := of_decide_eq_true ua_
         have q176 : x6_2 < (l0_0.length : Int) := of_decide_eq_true ua_
         obtain ⟨ad176, e176, hx176_0, hx176_1, hx176_2, hx176_3, hx176_4, hx176_5⟩ := at_T80 HR0_0.out x6_2 p176 q176
         cases e176
         replace hx176_0 := bc_ HB.out hx176_0
         replace hx176_1 := bc_ HB.out hx176_1
         replace hx176_2 := bc_ HB.out hx176_2
         replace hx176_3 := bc_ HB.out hx176_3
         replace hx176_4 := bc_ HB.out hx176_4
         replace hx176_5 := bc_ HB.out hx176_5
         replace p176 := eq_true p176
         replace q176 := eq_true q176
         go_wp2_with (first | (go_at_call 112; (with_reducible refine (spec_WindowEnd.calls ((rd_T80 l0_0 x6_2).f0) a1 t177 _ A17.out).mono ?_); rintro e w' ⟨rfl, ⟨nd, rfl⟩⟩; (try first | exact ⟨rfl, _, World.drewN_drewN _ _ _⟩ | exact ⟨rfl, _, Eq.trans (World.drewN_drewN _ _ _) (congrArg (World.drewN _) (Nat.add_assoc _ _ _))⟩)))
         repeat (go_quiet (first | (go_at_call 112; (with_reducible refine (spec_WindowEnd.calls ((rd_T80 l0_0 x6_2).f0) a1 t177 _ A17.out).mono ?_); rintro e w' ⟨rfl, ⟨nd, rfl⟩⟩; (try first | exact ⟨rfl, _, World.drewN_drewN _ _ _⟩ | exact ⟨rfl, _, Eq.trans (World.drewN_drewN _ _ _) (congrArg (World.drewN _) (Nat.add_assoc _ _ _))⟩))); try go_wp2_with (first | (go_at_call 112; (with_reducible refine (spec_WindowEnd.calls ((rd_T80 l0_0 x6_2).f0) a1 t177 _ A17.out).mono ?_); rintro e w' ⟨rfl, ⟨nd, rfl⟩⟩; (try first | exact ⟨rfl, _, World.drewN_drewN _ _ _⟩ | exact ⟨rfl, _, Eq.trans (World.drewN_drewN _ _ _) (congrArg (World.drewN _) (Nat.add_assoc _ _ _))⟩))))
         go_roundg k2
         case measure => have := HJ2.out; have := HK2.out; omega
         case rel => exact ⟨(x5_2), (wrap64 (x6_2 + 1)), (by first | rfl | (simp; done) | (simp [*]; done)), H', ⟨by have := HJ2.out; have := HK2.out; omega⟩, ⟨by (with_reducible repeat (first | apply Kd.R_alloc | apply Kd.R_drewN | apply Kd.R_drew)); exact HO_5.out⟩, ⟨by (with_reducible repeat first|apply bn_|apply bd_|apply ba_); exact BK170.out⟩, ⟨ue_ HB.out⟩⟩
       ·
        rw [if_neg c16] at H
        exact absurd H (by simp)
      ·
       rw [if_neg c15] at H
       have c15b0 : decide (x6_2 < (l0_0.length : Int)) = false := decide_eq_false c15
       clear c15
       obtain rfl := Option.some.inj H
       have hcz23_0 := cb_ BK170.out 0 rfl
       have hcz23_1 := cb_ BK170.out 1 rfl
       have hcz23_2 := cb_ BK170.out 2 rfl
       have hcz23_3 := cb_ BK170.out 3 rfl
       have hfz23_0 := blk_frozen BK170.out 0
       have hfz23_1 := blk_frozen BK170.out 1
       have hfz23_2 := blk_frozen BK170.out 2
       have hfz23_3 := blk_frozen BK170.out 3
       go_wp2
       repeat (go_quiet (fail); try go_wp2)
       go_ret
       exact ⟨_, ew_, by (with_reducible repeat (first | apply Kd.R_alloc | apply Kd.R_drewN | apply Kd.R_drew)); exact HO_5.out, ue_ HB.out⟩

/-! ### spec_l05Copy: function 93 -/
def spec_l05Copy.l0 : Nat → Int → List (S80) → Int → Int → Int → List (S80) → Int → Int → Int → Option ((List (S80)) × Int × Int × Int)
 | 0, _, _, _, _, _, _, _, _, _ => none
 | k + 1, x4, x183000, x183001, x183002, x183003, x185000, x185001, x185002, x185003 => if x4 < (x183000.length : Int) then (if 0 ≤ x4 then (if x185000.length < 2932031007402 then (spec_l05Copy.l0 k (wrap64 (x4 + 1)) x183000 x183001 x183002 x183003 (x185000 ++ [(⟨(rd_T80 x183000 x4).f0, (rd_T80 x183000 x4).f1, (rd_T80 x183000 x4).f2, (rd_T80 x183000 x4).f3, (rd_T80 x183000 x4).f4, (rd_T80 x183000 x4).f5⟩ : S80)]) x185001 x185002 x185003) else (none)) else (none)) else (some (x185000, x185001, x185002, x185003))
def spec_l05Copy.f (k : Nat) (l0_0 : List (S80)) (a0_1 : Int) (a0_2 : Int) (a0_3 : Int) : Option ((List (S80)) × Int × Int × Int) := spec_l05Copy.l0 k 0 l0_0 a0_1 a0_2 a0_3 ([] : List (S80)) a0_1 a0_2 a0_3
theorem spec_l05Copy.mono_l : ∀ k, (∀ y0 y1 y2 y3 y4 y5 y6 y7 y8, LeO (spec_l05Copy.l0 k y0 y1 y2 y3 y4 y5 y6 y7 y8) (spec_l05Copy.l0 (k + 1) y0 y1 y2 y3 y4 y5 y6 y7 y8))
 | 0 => fun _ _ _ _ _ _ _ _ _ r h => by simp [spec_l05Copy.l0] at h
 | k + 1 => by
  have ih0 := spec_l05Copy.mono_l k
  ·
   intro y0 y1 y2 y3 y4 y5 y6 y7 y8
   unfold spec_l05Copy.l0
   repeat' first
   | (with_reducible exact ih0 _ _ _ _ _ _ _ _ _)
   | (with_reducible exact LeO.refl _)
   | (with_reducible exact LeO.none _)
   | (with_reducible refine LeO.ite ?_ ?_)
   | (with_reducible refine LeO.bind ?_ (fun _ => ?_))
   | exact ih0 _ _ _ _ _ _ _ _ _
   | exact LeO.none _
   | refine LeO.ite ?_ ?_
   | refine LeO.bind ?_ (fun _ => ?_)
theorem spec_l05Copy.mono : ∀ a0 a1 a2 a3 k, LeO (spec_l05Copy.f k a0 a1 a2 a3) (spec_l05Copy.f (k + 1) a0 a1 a2 a3) := by
 intro a0 a1 a2 a3 k
 have ih0 := spec_l05Copy.mono_l k
 unfold spec_l05Copy.f
 repeat' first
   | (with_reducible exact ih0 _ _ _ _ _ _ _ _ _)
   | (with_reducible exact LeO.refl _)
   | (with_reducible exact LeO.none _)
   | (with_reducible refine LeO.ite ?_ ?_)
   | (with_reducible refine LeO.bind ?_ (fun _ => ?_))
   | exact ih0 _ _ _ _ _ _ _ _ _
   | exact LeO.none _
   | refine LeO.ite ?_ ?_
   | refine LeO.bind ?_ (fun _ => ?_)
def spec_l05Copy.T5 : Bool × List (List Nat × List Nat) := (true, [([], []), ([0], [0]), ([], []), ([2], [2]), ([], []), ([3, 4], [3, 4]), ([5], [5]), ([6], [6]), ([1, 7], [1, 7]), ([0, 1, 2, 3, 4, 5, 6, 7, 8], []), ([9, 8, 8, 0, 1, 2, 3, 4, 5, 6, 7, 8], [8, 9])])
def spec_l05Copy.B5 : List Nat := [0, 1, 0, 4, 0, 28, 60, 124, 255, 511, 1023]
theorem spec_l05Copy.tab5 : rtab .any (opsOf Try.f93 5) = spec_l05Copy.T5 := by kernel_rfl
theorem spec_l05Copy.bits5 : waitsOk spec_l05Copy.T5.2 spec_l05Copy.B5 = true := by kernel_rfl
set_option maxHeartbeats 8000000 in
set_option maxRecDepth 100000 in
theorem spec_l05Copy.calls (k : Nat) (A0_0 : Option Addr) (c0_0 : Nat) (l0_0 : List (S80)) (a0_1 : Int) (a0_2 : Int) (a0_3 : Int) (r1 : List (S80)) (r2 : Int) (r3 : Int) (r4 : Int) (w : World) (hr0_0 : Kd.C k80 w A0_0 l0_0.length l0_0) (hc0_0 : l0_0.length ≤ c0_0) (h : spec_l05Copy.f k l0_0 a0_1 a0_2 a0_3 = some (r1, r2, r3, r4)) :
  Calls Try.prog 93 #[.agg #[.slice A0_0 l0_0.length c0_0, .int .i64 a0_1, .int .i64 a0_2, .int .i64 a0_3]] w fun e w' => ∃ v0_ : Value, e = .returned (.agg #[v0_, .int .i64 r2, .int .i64 r3, .int .i64 r4]) ∧ Kd.R k80 80 w' w.heap.size (fun _ => True) v0_ r1 ∧ Below w.heap.size w w' := by
 have hu42 := Try.underlying42
 have hu80 := Try.underlying80
 have HR0_0 := Aside0.mk hr0_0
 have HC0_0 := Aside0.mk hc0_0
 clear hr0_0 hc0_0
 have HB := am_ (Below.refl w.heap.size w)
 have H : (spec_l05Copy.l0 k 0 l0_0 a0_1 a0_2 a0_3 ([] : List (S80)) a0_1 a0_2 a0_3) = some (r1, r2, r3, r4) := h
 clear h
 have H' := Aside0.mk H
 clear H
 go_enter Try.func93, Try.ntmps93
 go_wp2_with (first | ((with_reducible refine gate_dst (N := 1) rfl ?_); refine box_event ?hg (N := 1) ?hd (cs := #[.slice A0_0 l0_0.length c0_0, .int .i64 a0_1, .int .i64 a0_2, .int .i64 a0_3]) (t := 42) ?hr ?_; (case hd => rfl); (case hg => rfl); (case hr => first | (go_simp; done) | (go_simp; rfl)); intro gb182 hg w2 hbox hb; have n0_ := am_ (below_step (ue_ HB.out) hb); have n1_ := am_ (hbox); have n2_ := am_ ((by rw [hg]; exact (below_size (ue_ HB.out)) : w.heap.size ≤ gb182)); have n3_ := am_ ((by rw [hg]; exact (below_size (ue_ HB.out)) : w.heap.size ≤ gb182)); clear HB; have HB := n0_; have BK182 := n1_; have GW182 := n2_; have GE182 := n3_; clear n0_ n1_ n2_ n3_; clear hb hbox hg) | ((with_reducible refine gate_dst (N := 2) rfl ?_); refine box_event ?hg (N := 2) ?hd (cs := #[.slice none 0 0, .int .i64 0, .int .i64 0, .int .i64 0]) (t := 42) ?hr ?_; (case hd => rfl); (case hg => rfl); (case hr => first | (go_simp; done) | (go_simp; rfl)); intro gb183 hg w3 hbox hb; have n0_ := am_ (bb_ BK182.out hb); have n1_ := am_ (below_step (ue_ HB.out) hb); have n2_ := am_ (hbox); have n3_ := am_ ((by rw [hg]; exact (below_size (ue_ HB.out)) : w.heap.size ≤ gb183)); have n4_ := am_ ((by rw [hg]; exact (below_size (ue_ HB.out)) : w.heap.size ≤ gb183)); have n5_ := am_ ((by rw [hg]; exact Nat.ne_of_lt (bl_ BK182.out) : gb182 ≠ gb183)); have n6_ := am_ ((by rw [hg]; exact Nat.ne_of_gt (bl_ BK182.out) : gb183 ≠ gb182)); clear BK182 HB; have BK182 := n0_; have HB := n1_; have BK183 := n2_; have GW183 := n3_; have GE183 := n4_; have NB182_183 := n5_; have NB183_182 := n6_; clear n0_ n1_ n2_ n3_ n4_ n5_ n6_; clear hb hbox hg; have hnb4 := NB182_183.out; have hnc4 := NB183_182.out; obtain ⟨hcz5_0, hcz5_1, hcz5_2, hcz5_3⟩ := cb4_ BK182.out; obtain ⟨hfz5_0, hfz5_1, hfz5_2⟩ := bf3_ BK182.out; have hfz5_3 := blk_frozen BK182.out 3) | ((with_reducible refine gate_dst (N := 3) rfl ?_); refine box_event ?hg (N := 3) ?hd (cs := #[.slice none 0 0, .int .i64 0, .int .i64 0, .int .i64 0]) (t := 42) ?hr ?_; (case hd => rfl); (case hg => rfl); (case hr => first | (go_simp; done) | (go_simp; rfl)); intro gb184 hg w6 hbox hb; have n0_ := am_ (bb_ BK182.out hb); have n1_ := am_ (bb_ BK183.out hb); have n2_ := am_ (below_step (ue_ HB.out) hb); have n3_ := am_ (hbox); have n4_ := am_ ((by rw [hg]; exact (below_size (ue_ HB.out)) : w.heap.size ≤ gb184)); have n5_ := am_ ((by rw [hg]; exact (below_size (ue_ HB.out)) : w.heap.size ≤ gb184)); have n6_ := am_ ((by rw [hg]; exact Nat.ne_of_lt (bl_ BK182.out) : gb182 ≠ gb184)); have n7_ := am_ ((by rw [hg]; exact Nat.ne_of_gt (bl_ BK182.out) : gb184 ≠ gb182)); have n8_ := am_ ((by rw [hg]; exact Nat.ne_of_lt (bl_ BK183.out) : gb183 ≠ gb184)); have n9_ := am_ ((by rw [hg]; exact Nat.ne_of_gt (bl_ BK183.out) : gb184 ≠ gb183)); clear BK182 BK183 HB; have BK182 := n0_; have BK183 := n1_; have HB := n2_; have BK184 := n3_; have GW184 := n4_; have GE184 := n5_; have NB182_184 := n6_; have NB184_182 := n7_; have NB183_184 := n8_; have NB184_183 := n9_; clear n0_ n1_ n2_ n3_ n4_ n5_ n6_ n7_ n8_ n9_; clear hb hbox hg; have hnb7 := NB184_182.out; have hnc7 := NB182_184.out; have hnb8 := NB184_183.out; have hnc8 := NB183_184.out; obtain ⟨hcz9_0, hcz9_1, hcz9_2, hcz9_3⟩ := cb4_ BK184.out; obtain ⟨hfz9_0, hfz9_1, hfz9_2⟩ := bf3_ BK184.out; have hfz9_3 := blk_frozen BK184.out 3) | ((with_reducible refine gate_store (t := 42) (p := 3) rfl ?_); refine store_event (t := 42) (p := 3) (v := ?vo_w10) (w1 := ((((w6.setCell ⟨gb184, 0, none⟩ (.slice none 0 0)).setCell ⟨gb184, 1, none⟩ (.int .i64 a0_1)).setCell ⟨gb184, 2, none⟩ (.int .i64 a0_2)).setCell ⟨gb184, 3, none⟩ (.int .i64 a0_3))) ?hg ?ho ?hn ?hr ?_; (case ho => rfl); (case hg => rfl); (case hn => rfl); (case hr => first | (go_simp; done) | (go_simp; rfl)); intro w10 hw; have n0_ : Aside0 (w10.heap[gb182]? = some (.cells #[.slice A0_0 l0_0.length c0_0, .int .i64 a0_1, .int .i64 a0_2, .int .i64 a0_3] 42 (0, 0))) := ⟨(by rw [hw]; exact (uf_ BK182.out))⟩; have n1_ : Aside0 (w10.heap[gb183]? = some (.cells #[.slice none 0 0, .int .i64 0, .int .i64 0, .int .i64 0] 42 (0, 0))) := ⟨(by rw [hw]; exact (uf_ BK183.out))⟩; have n2_ : Aside0 (w10.heap[gb184]? = some (.cells #[.slice none 0 0, .int .i64 a0_1, .int .i64 a0_2, .int .i64 a0_3] 42 (0, 0))) := ⟨(by rw [hw]; exact (by (with_reducible repeat first|apply bn_|apply bd_|apply ba_); refine blk_put (cs := #[.slice none 0 0, .int .i64 a0_1, .int .i64 a0_2, .int .i64 0]) ?_ 3 _ rfl; refine blk_put (cs := #[.slice none 0 0, .int .i64 a0_1, .int .i64 0, .int .i64 0]) ?_ 2 _ rfl; refine blk_put (cs := #[.slice none 0 0, .int .i64 0, .int .i64 0, .int .i64 0]) ?_ 1 _ rfl; refine blk_put (cs := #[.slice none 0 0, .int .i64 0, .int .i64 0, .int .i64 0]) ?_ 0 _ rfl; (with_reducible repeat first|apply bn_|apply bd_|apply ba_); exact BK184.out))⟩; have n3_ : Aside0 (Below w.heap.size w w10) := ⟨(by rw [hw]; exact (ue_ HB.out))⟩; clear hw BK182 BK183 BK184 HB; have BK182 := n0_; have BK183 := n1_; have BK184 := n2_; have HB := n3_; clear n0_ n1_ n2_ n3_))
 (try simp only [Act.put, List.setIfInBounds_toArray, List.set_cons_zero, List.set_cons_succ])
 go_loopg [4] k (fun kq v4 w' => ∃ (x4_1 : Int) (x185000_1 : List (S80)) (u185000 : Value), v4 = .int .i64 x4_1 ∧ Aside0 (spec_l05Copy.l0 kq x4_1 l0_0 a0_1 a0_2 a0_3 x185000_1 a0_1 a0_2 a0_3 = some (r1, r2, r3, r4)) ∧ Aside0 (kq ≤ k) ∧ Aside0 (Kd.R k80 80 w' w.heap.size (fun _ => True) u185000 x185000_1) ∧ Aside0 (w'.heap[gb182]? = some (.cells #[(.slice A0_0 l0_0.length c0_0), .int .i64 a0_1, .int .i64 a0_2, .int .i64 a0_3] 42 (0, 0))) ∧ Aside0 (w'.heap[gb183]? = some (.cells #[(.slice none 0 0), .int .i64 0, .int .i64 0, .int .i64 0] 42 (0, 0))) ∧ Aside0 (w'.heap[gb184]? = some (.cells #[u185000, .int .i64 a0_1, .int .i64 a0_2, .int .i64 a0_3] 42 (0, 0))) ∧ Aside0 (Below w.heap.size w w'))
 case atStart => exact ⟨(0), (([] : List (S80))), (.slice none 0 0), (by first | rfl | (simp; done) | (simp [*]; done)), H', ⟨Nat.le_refl _⟩, ⟨by first | exact Kd.R_nil _ _ _ _ _ | exact Kd.N_nil _ _ _ _ _ | exact Kd.V_nil _ _ _ _ _ | exact Kd.Q_nil _ _ _ _ _ | exact Kd.S_nil _ _ _ _ _⟩, ⟨by (with_reducible repeat first|apply bn_|apply bd_|apply ba_); exact BK182.out⟩, ⟨by (with_reducible repeat first|apply bn_|apply bd_|apply ba_); exact BK183.out⟩, ⟨by (with_reducible repeat first|apply bn_|apply bd_|apply ba_); exact BK184.out⟩, ⟨ue_ HB.out⟩⟩
 case round =>
  clear H'
  try clear p2
  try clear c4
  try clear c7
  try clear c8
  try clear c9
  try clear hcz5_0
  try clear hcz5_1
  try clear hcz5_2
  try clear hcz5_3
  try clear hcz9_0
  try clear hcz9_1
  try clear hcz9_2
  try clear hcz9_3
  try clear hfz5_0
  try clear hfz5_1
  try clear hfz5_2
  try clear hfz5_3
  try clear hfz9_0
  try clear hfz9_1
  try clear hfz9_2
  try clear hfz9_3
  obtain ⟨x4_1, x185000_1, u185000, rfl, HA, HK1, HO_185000, BK182, BK183, BK184, HB⟩ := hrel
  cases gk with
  | zero => exact absurd HA.out (by simp [spec_l05Copy.l0])
  | succ k1 =>
   have H := HA.out
   clear HA
   simp only [spec_l05Copy.l0] at H
   by_cases c11 : x4_1 < (l0_0.length : Int)
   ·
    rw [if_pos c11] at H
    have c11b0 : decide (x4_1 < (l0_0.length : Int)) = true := decide_eq_true c11
    clear c11
    by_cases c12 : 0 ≤ x4_1
    ·
     rw [if_pos c12] at H
     have c12b0 : decide (0 ≤ x4_1) = true := decide_eq_true c12
     clear c12
     by_cases c13 : x185000_1.length < 2932031007402
     ·
      rw [if_pos c13] at H
      have LMc13 := Aside0.mk c13
      clear c13
      obtain ⟨y186, hy186⟩ : ∃ y_ : List (S80), y_ = (x185000_1 ++ [(⟨(rd_T80 l0_0 x4_1).f0, (rd_T80 l0_0 x4_1).f1, (rd_T80 l0_0 x4_1).f2, (rd_T80 l0_0 x4_1).f3, (rd_T80 l0_0 x4_1).f4, (rd_T80 l0_0 x4_1).f5⟩ : S80)]) := ⟨_, rfl⟩
      replace H : (spec_l05Copy.l0 k1 (wrap64 (x4_1 + 1)) l0_0 a0_1 a0_2 a0_3 y186 a0_1 a0_2 a0_3) = some (r1, r2, r3, r4) := by first | (rw [hy186]; with_reducible exact H) | (have H2_ := (Option.bind_some _ _).symm.trans H; rw [hy186]; with_reducible exact H2_) | (have H2_ := (Option.bind_some _ _).symm.trans H; with_reducible exact H2_) | with_reducible exact H | (rw [hy186]; exact H) | exact H
      have Ny186 := Aside0.mk hy186
      clear hy186
      have H' := Aside0.mk H
      clear H
      have hnb14 := NB182_183.out
      have hnc14 := NB183_182.out
      have hnb15 := NB182_184.out
      have hnc15 := NB184_182.out
      have hcz16_0 := cb_ BK182.out 0 rfl
      have hcz16_1 := cb_ BK182.out 1 rfl
      have hcz16_2 := cb_ BK182.out 2 rfl
      have hcz16_3 := cb_ BK182.out 3 rfl
      have hfz16_0 := blk_frozen BK182.out 0
      have hfz16_1 := blk_frozen BK182.out 1
      have hfz16_2 := blk_frozen BK182.out 2
      have hfz16_3 := blk_frozen BK182.out 3
      try go_wp2
      have n0_ := am_ (Kd.R_drew HO_185000.out)
      have n1_ := am_ (blk_drew BK182.out)
      have n2_ := am_ (blk_drew BK183.out)
      have n3_ := am_ (blk_drew BK184.out)
      have n4_ := am_ (below_drew1 HB.out)
      clear HO_185000
      clear BK182
      clear BK183
      clear BK184
      clear HB
      have HO_185000 := n0_
      have BK182 := n1_
      have BK183 := n2_
      have BK184 := n3_
      have HB := n4_
      clear n0_ n1_ n2_ n3_ n4_
      have p185 : 0 ≤ (x4_1 : Int) := of_decide_eq_true ua_
      have q185 : x4_1 < (l0_0.length : Int) := of_decide_eq_true ua_
      obtain ⟨ad185, e185, hx185_0, hx185_1, hx185_2, hx185_3, hx185_4, hx185_5⟩ := at_T80 HR0_0.out x4_1 p185 q185
      have hw185_5 := hx185_5
      have hw185_4 := hx185_4
      have hw185_3 := hx185_3
      have hw185_2 := hx185_2
      have hw185_1 := hx185_1
      have hw185_0 := hx185_0
      cases e185
      replace hx185_0 := bc_ HB.out hx185_0
      replace hx185_1 := bc_ HB.out hx185_1
      replace hx185_2 := bc_ HB.out hx185_2
      replace hx185_3 := bc_ HB.out hx185_3
      replace hx185_4 := bc_ HB.out hx185_4
      replace hx185_5 := bc_ HB.out hx185_5
      replace p185 := eq_true p185
      replace q185 := eq_true q185
      refine start_ (n := 11) (S := fun w' => w'.cell? ⟨gb184, 0, none⟩ = some (u185000) ∧ w'.cell? ⟨gb184, 1, none⟩ = some (.int .i64 a0_1) ∧ w'.cell? ⟨gb184, 2, none⟩ = some (.int .i64 a0_2) ∧ w'.cell? ⟨gb184, 3, none⟩ = some (.int .i64 a0_3) ∧ w'.cell? ⟨gb182, 0, none⟩ = some (.slice (some ad185) l0_0.length c0_0) ∧ w'.cell? ⟨gb182, 1, none⟩ = some (.int .i64 a0_1) ∧ w'.cell? ⟨gb182, 2, none⟩ = some (.int .i64 a0_2) ∧ w'.cell? ⟨gb182, 3, none⟩ = some (.int .i64 a0_3) ∧ w'.cell? (ad185.add ((x4_1).toNat * 6)) = some (.int .i64 ((rd_T80 l0_0 x4_1).f0)) ∧ w'.cell? ⟨(ad185.add ((x4_1).toNat * 6)).block, (ad185.add ((x4_1).toNat * 6)).off + 1, none⟩ = some (.int .i64 ((rd_T80 l0_0 x4_1).f1)) ∧ w'.cell? ⟨(ad185.add ((x4_1).toNat * 6)).block, (ad185.add ((x4_1).toNat * 6)).off + 2, none⟩ = some (.int .i64 ((rd_T80 l0_0 x4_1).f2)) ∧ w'.cell? ⟨(ad185.add ((x4_1).toNat * 6)).block, (ad185.add ((x4_1).toNat * 6)).off + 3, none⟩ = some (.int .i64 ((rd_T80 l0_0 x4_1).f3)) ∧ w'.cell? ⟨(ad185.add ((x4_1).toNat * 6)).block, (ad185.add ((x4_1).toNat * 6)).off + 4, none⟩ = some (.int .i64 ((rd_T80 l0_0 x4_1).f4)) ∧ w'.cell? ⟨(ad185.add ((x4_1).toNat * 6)).block, (ad185.add ((x4_1).toNat * 6)).off + 5, none⟩ = some (.int .i64 ((rd_T80 l0_0 x4_1).f5))) (ds := [10]) #[false, false, false, false, false, false, false, false, false, false, false] (by kernel_rfl) rfl rfl ⟨(blk_cell BK184.out 0).trans rfl, (blk_cell BK184.out 1).trans rfl, (blk_cell BK184.out 2).trans rfl, (blk_cell BK184.out 3).trans rfl, (blk_cell BK182.out 0).trans rfl, (blk_cell BK182.out 1).trans rfl, (blk_cell BK182.out 2).trans rfl, (blk_cell BK182.out 3).trans rfl, ((HB.out.cell (World.block_lt_of_cell? w _ hw185_0)).trans hw185_0), ((HB.out.cell (World.block_lt_of_cell? w _ hw185_1)).trans hw185_1), ((HB.out.cell (World.block_lt_of_cell? w _ hw185_2)).trans hw185_2), ((HB.out.cell (World.block_lt_of_cell? w _ hw185_3)).trans hw185_3), ((HB.out.cell (World.block_lt_of_cell? w _ hw185_4)).trans hw185_4), ((HB.out.cell (World.block_lt_of_cell? w _ hw185_5)).trans hw185_5)⟩ (fun hHeld => ?_); refine with_tabW spec_l05Copy.tab5 spec_l05Copy.bits5 (fun HT_ HW_ => ?_)
      generalize wr.drew = w17 at HO_185000 BK182 BK183 BK184 HB hx185_0 hx185_1 hx185_2 hx185_3 hx185_4 hx185_5 hHeld ⊢
      refine pure_ (i := 0) (N := some 19) (v := ?_) (a' := ?_) #[true, false, false, false, false, false, false, false, false, false, false] rfl rfl (any_of HT_.out (by kernel_rfl)) (fun _ _ _ h => h) (Or.inl ⟨by rfl, ?_⟩) ?_ ?_
      rotate_left
      ·
       intro w'
       go_simp
       with_reducible rfl
      rotate_left
      ·
       simp only [Act.put, List.setIfInBounds_toArray, List.set_cons_zero, List.set_cons_succ, i64_w, i32_w]
       rfl
      refine pure_ (i := 2) (N := some 21) (v := ?_) (a' := ?_) #[true, false, true, false, false, false, false, false, false, false, false] rfl rfl (any_of HT_.out (by kernel_rfl)) (fun _ _ _ h => h) (Or.inl ⟨by rfl, ?_⟩) ?_ ?_
      rotate_left
      ·
       intro w'
       go_simp
       with_reducible rfl
      rotate_left
      ·
       simp only [Act.put, List.setIfInBounds_toArray, List.set_cons_zero, List.set_cons_succ, i64_w, i32_w]
       rfl
      refine pure_ (i := 4) (N := some 23) (v := ?_) (a' := ?_) #[true, false, true, false, true, false, false, false, false, false, false] rfl rfl (any_of HT_.out (by kernel_rfl)) (fun _ _ _ h => h) (Or.inl ⟨by rfl, ?_⟩) ?_ ?_
      rotate_left
      ·
       intro w'
       go_simp
       with_reducible rfl
      rotate_left
      ·
       simp only [Act.put, List.setIfInBounds_toArray, List.set_cons_zero, List.set_cons_succ, i64_w, i32_w]
       rfl
      refine take_ (i := 1) (N := some 20) (v := ?_) (a' := ?_) #[true, true, true, false, true, false, false, false, false, false, false] rfl rfl (take_ofW HT_.out HW_.out (by kernel_rfl)) (fun _ _ _ h => h) (Or.inl ⟨by rfl, ?_⟩) hHeld ?_ ?_
      rotate_left
      ·
       rintro w' ⟨s0, s1, s2, s3, s4, s5, s6, s7, s8, s9, s10, s11, s12, s13⟩
       go_simp
       with_reducible rfl
      rotate_left
      ·
       simp only [Act.put, List.setIfInBounds_toArray, List.set_cons_zero, List.set_cons_succ, i64_w, i32_w]
       rfl
      refine take_ (i := 3) (N := some 22) (v := ?_) (a' := ?_) #[true, true, true, true, true, false, false, false, false, false, false] rfl rfl (take_ofW HT_.out HW_.out (by kernel_rfl)) (fun _ _ _ h => h) (Or.inl ⟨by rfl, ?_⟩) hHeld ?_ ?_
      rotate_left
      ·
       rintro w' ⟨s0, s1, s2, s3, s4, s5, s6, s7, s8, s9, s10, s11, s12, s13⟩
       go_simp
       with_reducible rfl
      rotate_left
      ·
       simp only [Act.put, List.setIfInBounds_toArray, List.set_cons_zero, List.set_cons_succ, i64_w, i32_w]
       rfl
      refine pure_ (i := 5) (N := some 24) (v := ?_) (a' := ?_) #[true, true, true, true, true, true, false, false, false, false, false] rfl rfl (any_of HT_.out (by kernel_rfl)) (fun _ _ _ h => h) (Or.inl ⟨by rfl, ?_⟩) ?_ ?_
      rotate_left
      ·
       intro w'
       go_simp
       with_reducible rfl
      rotate_left
      ·
       simp only [Act.put, List.setIfInBounds_toArray, List.set_cons_zero, List.set_cons_succ, i64_w, i32_w]
       rfl
      refine take_ (i := 6) (N := some 25) (v := ?_) (a' := ?_) #[true, true, true, true, true, true, true, false, false, false, false] rfl rfl (take_ofW HT_.out HW_.out (by kernel_rfl)) (fun _ _ _ h => h) (Or.inl ⟨by rfl, ?_⟩) hHeld ?_ ?_
      rotate_left
      ·
       rintro w' ⟨s0, s1, s2, s3, s4, s5, s6, s7, s8, s9, s10, s11, s12, s13⟩
       go_simp
       with_reducible rfl
      rotate_left
      ·
       simp only [Act.put, List.setIfInBounds_toArray, List.set_cons_zero, List.set_cons_succ, i64_w, i32_w]
       rfl
      refine one_ (i := 7) (N := some 26) #[true, true, true, true, true, true, true, true, false, false, false] rfl rfl (one_of HT_.out (by kernel_rfl)) (by decide) (fun K hK => ?_)
      refine value_ (w1 := ?_) (v := ?_) (by rfl) rfl ?_ ?_
      rotate_left 2
      ·
       go_simp
       constructor
       ·
        rfl
       ·
        rfl
      refine hK.out _ _ ⟨(blk_cell (blk_alloc BK184.out _) 0).trans rfl, (blk_cell (blk_alloc BK184.out _) 1).trans rfl, (blk_cell (blk_alloc BK184.out _) 2).trans rfl, (blk_cell (blk_alloc BK184.out _) 3).trans rfl, (blk_cell (blk_alloc BK182.out _) 0).trans rfl, (blk_cell (blk_alloc BK182.out _) 1).trans rfl, (blk_cell (blk_alloc BK182.out _) 2).trans rfl, (blk_cell (blk_alloc BK182.out _) 3).trans rfl, (World.cell?_alloc_lt _ _ _ (World.block_lt_of_cell? _ _ (((HB.out.cell (World.block_lt_of_cell? w _ hw185_0)).trans hw185_0)))).trans (((HB.out.cell (World.block_lt_of_cell? w _ hw185_0)).trans hw185_0)), (World.cell?_alloc_lt _ _ _ (World.block_lt_of_cell? _ _ (((HB.out.cell (World.block_lt_of_cell? w _ hw185_1)).trans hw185_1)))).trans (((HB.out.cell (World.block_lt_of_cell? w _ hw185_1)).trans hw185_1)), (World.cell?_alloc_lt _ _ _ (World.block_lt_of_cell? _ _ (((HB.out.cell (World.block_lt_of_cell? w _ hw185_2)).trans hw185_2)))).trans (((HB.out.cell (World.block_lt_of_cell? w _ hw185_2)).trans hw185_2)), (World.cell?_alloc_lt _ _ _ (World.block_lt_of_cell? _ _ (((HB.out.cell (World.block_lt_of_cell? w _ hw185_3)).trans hw185_3)))).trans (((HB.out.cell (World.block_lt_of_cell? w _ hw185_3)).trans hw185_3)), (World.cell?_alloc_lt _ _ _ (World.block_lt_of_cell? _ _ (((HB.out.cell (World.block_lt_of_cell? w _ hw185_4)).trans hw185_4)))).trans (((HB.out.cell (World.block_lt_of_cell? w _ hw185_4)).trans hw185_4)), (World.cell?_alloc_lt _ _ _ (World.block_lt_of_cell? _ _ (((HB.out.cell (World.block_lt_of_cell? w _ hw185_5)).trans hw185_5)))).trans (((HB.out.cell (World.block_lt_of_cell? w _ hw185_5)).trans hw185_5))⟩ (fun hHeld => ?_)
      clear hK K
      refine norm_ (a' := ?_) ?_ ?_
      rotate_left
      ·
       show Act.put _ (some 26) _ = _
       simp only [Act.put, List.setIfInBounds_toArray, List.set_cons_zero, List.set_cons_succ, i64_w, i32_w]
       rfl
      refine one_ (i := 8) (N := some 27) #[true, true, true, true, true, true, true, true, true, false, false] rfl rfl (one_of HT_.out (by kernel_rfl)) (by decide) (fun K hK => ?_)
      refine Kd.R_append_step k80 (w0 := w) w.heap.size (by rfl) (.tmp 20) (.tmp 26) 40 80 (.agg #[(.int .i64 0), (.int .i64 0), (.int .i64 0), (.int .i64 0), (.int .i64 0), (.int .i64 0)]) 48 rfl Try.underlying40 info80 rfl (by decide) (by omega) u185000 x185000_1 (⟨(rd_T80 l0_0 x4_1).f0, (rd_T80 l0_0 x4_1).f1, (rd_T80 l0_0 x4_1).f2, (rd_T80 l0_0 x4_1).f3, (rd_T80 l0_0 x4_1).f4, (rd_T80 l0_0 x4_1).f5⟩ : S80) [.int .i64 ((rd_T80 l0_0 x4_1).f0), .int .i64 ((rd_T80 l0_0 x4_1).f1), .int .i64 ((rd_T80 l0_0 x4_1).f2), .int .i64 ((rd_T80 l0_0 x4_1).f3), .int .i64 ((rd_T80 l0_0 x4_1).f4), .int .i64 ((rd_T80 l0_0 x4_1).f5)] (fun _ => True) (fun _ => False) rfl rfl ?aP (fun _ hk => hk.elim) ?aF ?aO ?aB ?aS ?aL ?_
      (case aP => exact k80_mkM _ _ _ (⟨(rd_T80 l0_0 x4_1).f0, (rd_T80 l0_0 x4_1).f1, (rd_T80 l0_0 x4_1).f2, (rd_T80 l0_0 x4_1).f3, (rd_T80 l0_0 x4_1).f4, (rd_T80 l0_0 x4_1).f5⟩ : S80))
      (case aB => exact (ue_ HB.out))
      (case aF => exact (fun _ _ => trivial))
      (case aO => exact (ur_ HO_185000.out))
      (case aS => exact (below_size (ue_ HB.out)))
      (case aL => have := LMc13.out; omega)
      intro v187 w18 ho hb hg hat
      rw [← Ny186.out] at ho
      have n0_ := am_ (blk_grown (g := gb182) (o := .cells #[.slice (some ad185) l0_0.length c0_0, .int .i64 a0_1, .int .i64 a0_2, .int .i64 a0_3] 42 (0, 0)) (ub_ BK182.out) hg (Kd.R_ne HO_185000.out BK182.out (by decide)))
      have n1_ := am_ (blk_grown (g := gb183) (o := .cells #[.slice none 0 0, .int .i64 0, .int .i64 0, .int .i64 0] 42 (0, 0)) (ub_ BK183.out) hg (Kd.R_ne HO_185000.out BK183.out (by decide)))
      have n2_ := am_ (blk_grown (g := gb184) (o := .cells #[u185000, .int .i64 a0_1, .int .i64 a0_2, .int .i64 a0_3] 42 (0, 0)) (ub_ BK184.out) hg (Kd.R_ne HO_185000.out BK184.out (by decide)))
      have n3_ := am_ (hb)
      have n4_ := am_ (ho)
      clear BK182
      clear BK183
      clear BK184
      clear HB
      clear HO_185000
      have BK182 := n0_
      have BK183 := n1_
      have BK184 := n2_
      have HB := n3_
      have HO188 := n4_
      clear n0_ n1_ n2_ n3_ n4_
      clear ho hb hg hat
      obtain ⟨Ao19, co19, eo19⟩ := Kd.R_slice HO188.out
      (first | subst eo19 | (injection eo19 with f1_ f2_ f3_; have f4_ := f1_.symm; have f5_ := f3_.symm; clear f1_ f2_ f3_; subst f4_; subst f5_))
      refine hK.out _ _ ⟨(blk_cell BK184.out 0).trans rfl, (blk_cell BK184.out 1).trans rfl, (blk_cell BK184.out 2).trans rfl, (blk_cell BK184.out 3).trans rfl, (blk_cell BK182.out 0).trans rfl, (blk_cell BK182.out 1).trans rfl, (blk_cell BK182.out 2).trans rfl, (blk_cell BK182.out 3).trans rfl, ((HB.out.cell (World.block_lt_of_cell? w _ hw185_0)).trans hw185_0), ((HB.out.cell (World.block_lt_of_cell? w _ hw185_1)).trans hw185_1), ((HB.out.cell (World.block_lt_of_cell? w _ hw185_2)).trans hw185_2), ((HB.out.cell (World.block_lt_of_cell? w _ hw185_3)).trans hw185_3), ((HB.out.cell (World.block_lt_of_cell? w _ hw185_4)).trans hw185_4), ((HB.out.cell (World.block_lt_of_cell? w _ hw185_5)).trans hw185_5)⟩ (fun hHeld => ?_)
      clear hK K
      refine norm_ (a' := ?_) ?_ ?_
      rotate_left
      ·
       show Act.put _ (some 27) _ = _
       simp only [Act.put, List.setIfInBounds_toArray, List.set_cons_zero, List.set_cons_succ, i64_w, i32_w]
       rfl
      refine pure_ (i := 9) (N := some 28) (v := ?_) (a' := ?_) #[true, true, true, true, true, true, true, true, true, true, false] rfl rfl (any_of HT_.out (by kernel_rfl)) (fun _ _ _ h => h) (Or.inl ⟨by rfl, ?_⟩) ?_ ?_
      rotate_left
      ·
       intro w'
       go_simp
       with_reducible rfl
      rotate_left
      ·
       simp only [Act.put, List.setIfInBounds_toArray, List.set_cons_zero, List.set_cons_succ, i64_w, i32_w]
       rfl
      refine last_ (i := 10) (N := none) #[true, true, true, true, true, true, true, true, true, true, true] rfl rfl (one_of HT_.out (by kernel_rfl)) (by decide) (fun K hK => ?_)
      have hs20 := cb_ BK184.out 0 rfl
      have hfs20 := blk_frozen BK184.out 0
      have hns20_0 := NB182_184.out
      have hns20_1 := NB183_184.out
      have hms20_0 := NB184_182.out
      have hms20_1 := NB184_183.out
      refine skip_ (w1 := ?_) (by rfl) rfl ?_ ?_
      rotate_left
      ·
       go_simp
       rfl
      refine hK.out _ _ ?_
      clear hK K
      refine done_ (done_of HT_.out (by kernel_rfl)) ?_
      try go_wp2
      go_roundg k1
      case measure => have := HK1.out; omega
      case rel => exact ⟨(wrap64 (x4_1 + 1)), (y186), (.slice Ao19 y186.length co19), (by first | rfl | (simp; done) | (simp [*]; done)), H', ⟨by have := HK1.out; omega⟩, ⟨by (with_reducible repeat (first | apply Kd.R_alloc | apply Kd.R_drewN | apply Kd.R_drew)); exact Kd.R_mono (Kd.R_far (p := ⟨gb184, 0, none⟩) (Kd.R_types HO188.out BK184.out (by decide)) (fun _ hk => by first | exact hk.2 | grind) (.slice Ao19 y186.length co19)) (fun _ hk => trivial)⟩, ⟨by (with_reducible repeat first|apply bn_|apply bd_|apply ba_); refine blk_far ?_ NB182_184.out _; (with_reducible repeat first|apply bn_|apply bd_|apply ba_); exact BK182.out⟩, ⟨by (with_reducible repeat first|apply bn_|apply bd_|apply ba_); refine blk_far ?_ NB183_184.out _; (with_reducible repeat first|apply bn_|apply bd_|apply ba_); exact BK183.out⟩, ⟨by (with_reducible repeat first|apply bn_|apply bd_|apply ba_); refine blk_put (cs := #[u185000, .int .i64 a0_1, .int .i64 a0_2, .int .i64 a0_3]) ?_ 0 _ rfl; (with_reducible repeat first|apply bn_|apply bd_|apply ba_); exact BK184.out⟩, ⟨ue_ HB.out⟩⟩
     ·
      rw [if_neg c13] at H
      exact absurd H (by simp)
    ·
     rw [if_neg c12] at H
     exact absurd H (by simp)
   ·
    rw [if_neg c11] at H
    have c11b0 : decide (x4_1 < (l0_0.length : Int)) = false := decide_eq_false c11
    clear c11
    simp only [Option.some.injEq, Prod.mk.injEq] at H
    obtain ⟨rfl, rfl, rfl, rfl⟩ := H
    have hnb21 := NB182_183.out
    have hnc21 := NB183_182.out
    have hnb22 := NB182_184.out
    have hnc22 := NB184_182.out
    have hcz23_0 := cb_ BK182.out 0 rfl
    have hcz23_1 := cb_ BK182.out 1 rfl
    have hcz23_2 := cb_ BK182.out 2 rfl
    have hcz23_3 := cb_ BK182.out 3 rfl
    have hfz23_0 := blk_frozen BK182.out 0
    have hfz23_1 := blk_frozen BK182.out 1
    have hfz23_2 := blk_frozen BK182.out 2
    have hfz23_3 := blk_frozen BK182.out 3
    have hnb24 := NB184_183.out
    have hnc24 := NB183_184.out
    have hcz25_0 := cb_ BK184.out 0 rfl
    have hcz25_1 := cb_ BK184.out 1 rfl
    have hcz25_2 := cb_ BK184.out 2 rfl
    have hcz25_3 := cb_ BK184.out 3 rfl
    have hfz25_0 := blk_frozen BK184.out 0
    have hfz25_1 := blk_frozen BK184.out 1
    have hfz25_2 := blk_frozen BK184.out 2
    have hfz25_3 := blk_frozen BK184.out 3
    obtain ⟨Ao26, co26, eo26⟩ := Kd.R_slice HO_185000.out
    subst eo26
    have hcz27_0 := cb_ BK183.out 0 rfl
    have hcz27_1 := cb_ BK183.out 1 rfl
    have hcz27_2 := cb_ BK183.out 2 rfl
    have hcz27_3 := cb_ BK183.out 3 rfl
    have hfz27_0 := blk_frozen BK183.out 0
    have hfz27_1 := blk_frozen BK183.out 1
    have hfz27_2 := blk_frozen BK183.out 2
    have hfz27_3 := blk_frozen BK183.out 3
    go_wp2_with (first | ((with_reducible refine gate_store (t := 42) (p := 2) rfl ?_); refine store_event (t := 42) (p := 2) (v := ?vo_w28) (w1 := ((((wr.setCell ⟨gb183, 0, none⟩ (.slice Ao26 x185000_1.length co26)).setCell ⟨gb183, 1, none⟩ (.int .i64 a0_1)).setCell ⟨gb183, 2, none⟩ (.int .i64 a0_2)).setCell ⟨gb183, 3, none⟩ (.int .i64 a0_3))) ?hg ?ho ?hn ?hr ?_; (case ho => rfl); (case hg => rfl); (case hn => rfl); (case hr => first | (go_simp; done) | (go_simp; rfl)); intro w28 hw; have n0_ : Aside0 (Kd.R k80 80 w28 w.heap.size (fun _ => True) (.slice Ao26 x185000_1.length co26) x185000_1) := ⟨(by rw [hw]; exact (by (with_reducible repeat (first | apply Kd.R_alloc | apply Kd.R_drewN | apply Kd.R_drew)); exact Kd.R_mono (Kd.R_far (p := ⟨gb183, 3, none⟩) (Kd.R_far (p := ⟨gb183, 2, none⟩) (Kd.R_far (p := ⟨gb183, 1, none⟩) (Kd.R_far (p := ⟨gb183, 0, none⟩) (Kd.R_types HO_185000.out BK183.out (by decide)) (fun _ hk => by first | exact hk.2 | grind) (.slice Ao26 x185000_1.length co26)) (fun _ hk => by first | exact hk.2 | grind) (.int .i64 a0_1)) (fun _ hk => by first | exact hk.2 | grind) (.int .i64 a0_2)) (fun _ hk => by first | exact hk.2 | grind) (.int .i64 a0_3)) (fun _ hk => trivial)))⟩; have n1_ : Aside0 (w28.heap[gb182]? = some (.cells #[.slice A0_0 l0_0.length c0_0, .int .i64 a0_1, .int .i64 a0_2, .int .i64 a0_3] 42 (0, 0))) := ⟨(by rw [hw]; exact (uf_ BK182.out))⟩; have n2_ : Aside0 (w28.heap[gb183]? = some (.cells #[.slice Ao26 x185000_1.length co26, .int .i64 a0_1, .int .i64 a0_2, .int .i64 a0_3] 42 (0, 0))) := ⟨(by rw [hw]; exact (by (with_reducible repeat first|apply bn_|apply bd_|apply ba_); refine blk_put (cs := #[.slice Ao26 x185000_1.length co26, .int .i64 a0_1, .int .i64 a0_2, .int .i64 0]) ?_ 3 _ rfl; refine blk_put (cs := #[.slice Ao26 x185000_1.length co26, .int .i64 a0_1, .int .i64 0, .int .i64 0]) ?_ 2 _ rfl; refine blk_put (cs := #[.slice Ao26 x185000_1.length co26, .int .i64 0, .int .i64 0, .int .i64 0]) ?_ 1 _ rfl; refine blk_put (cs := #[.slice none 0 0, .int .i64 0, .int .i64 0, .int .i64 0]) ?_ 0 _ rfl; (with_reducible repeat first|apply bn_|apply bd_|apply ba_); exact BK183.out))⟩; have n3_ : Aside0 (w28.heap[gb184]? = some (.cells #[.slice Ao26 x185000_1.length co26, .int .i64 a0_1, .int .i64 a0_2, .int .i64 a0_3] 42 (0, 0))) := ⟨(by rw [hw]; exact (uf_ BK184.out))⟩; have n4_ : Aside0 (Below w.heap.size w w28) := ⟨(by rw [hw]; exact (ue_ HB.out))⟩; clear hw HO_185000 BK182 BK183 BK184 HB; have HO_185000 := n0_; have BK182 := n1_; have BK183 := n2_; have BK184 := n3_; have HB := n4_; clear n0_ n1_ n2_ n3_ n4_))
    refine bodyPost_ret (results_cell_row rfl _ _ gb183 42 #[.slice Ao26 x185000_1.length co26, .int .i64 a0_1, .int .i64 a0_2, .int .i64 a0_3] (0, 0) _ rfl (ub_ BK183.out) Try.underlying42 rfl (by kernel_rfl)) rfl ?_
    exact ⟨_, ew_, by (with_reducible repeat (first | apply Kd.R_alloc | apply Kd.R_drewN | apply Kd.R_drew)); exact HO_185000.out, ue_ HB.out⟩

end Go.Proofs.Ytcflalomjehiiaa.QFnExactTakeClosed
