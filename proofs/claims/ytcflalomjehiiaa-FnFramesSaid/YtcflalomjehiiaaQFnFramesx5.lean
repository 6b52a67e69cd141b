/- The machine side of a law: Lean functions with the Go functions' answers and the walks that show it. No condition. -/
import Derived.Test.YtcflalomjehiiaaQFnFramesx0
import Derived.Test.YtcflalomjehiiaaQFnFramesx4
namespace Go.Proofs.Ytcflalomjehiiaa.QFnFrames
open Go.RowKit Go.Proofs.YtcflalomjehiiaaW.PrintWords Go.Proofs.YtcflalomjehiiaaW.PrintLast Go.Proofs.YtcflalomjehiiaaW.PrintMore
attribute [local go_sem] max2_int min2_int max_two min_two max_three min_three max_four min_four   -- for this text's walks alone
set_option linter.unusedVariables false
set_option linter.unusedSimpArgs false

/-! ### spec_PutFrame: function 46 -/
mutual
def spec_PutFrame.j0 : Nat → List Int → Int → Int → Int → Int → Option (List Int)
 | 0, _, _, _, _, _ => none
 | k + 1, x3, x297000, x297001, x297002, x297003 => if x297000 = 3 then (spec_PutFrame.j1 k x3 x297000 x297001 x297002 x297003) else ((spec_l02Wide.f k x297002 3).bind fun t307 => ((spec_l01Join.f k x3 t307).bind fun t310 => (spec_PutFrame.j1 k t310 x297000 x297001 x297002 x297003)))
def spec_PutFrame.j1 : Nat → List Int → Int → Int → Int → Int → Option (List Int)
 | 0, _, _, _, _, _ => none
 | k + 1, x3, x297000, x297001, x297002, x297003 => if x297000 = 1 then ((spec_l02Wide.f k (wrap64 (x297003 + 1000000)) 3).bind fun t313 => ((spec_l01Join.f k x3 t313).bind fun t316 => (spec_PutFrame.j2 k t316))) else (spec_PutFrame.j2 k x3)
def spec_PutFrame.j2 : Nat → List Int → Option (List Int)
 | 0, _ => none
 | k + 1, x3 => (spec_l01Join.f k (([((x3.length : Int)) % 256] : List Int)) x3).bind fun t322 => ((spec_Check.f k x3).bind fun t325 => ((spec_l02Wide.f k t325 4).bind fun t326 => ((spec_l01Join.f k t322 t326).bind fun t329 => (some t329))))
end
def spec_PutFrame.f (k : Nat) (a0_0 : Int) (a0_1 : Int) (a0_2 : Int) (a0_3 : Int) : Option (List Int) := (spec_FrameOk.f a0_0 a0_1 a0_2 a0_3).bind fun t297 => (if t297 = true then ((some (([(a0_0) % 256] : List Int) : List Int)).bind fun y298 => (if a0_0 = 1 then ((spec_l02Wide.f k a0_1 2).bind fun t301 => ((spec_l01Join.f k y298 t301).bind fun t304 => (spec_PutFrame.j0 k t304 a0_0 a0_1 a0_2 a0_3))) else (spec_PutFrame.j0 k y298 a0_0 a0_1 a0_2 a0_3))) else (some ([] : List Int)))
theorem spec_PutFrame.mono_l : ∀ k, (∀ y0 y1 y2 y3 y4, LeO (spec_PutFrame.j0 k y0 y1 y2 y3 y4) (spec_PutFrame.j0 (k + 1) y0 y1 y2 y3 y4)) ∧ (∀ y0 y1 y2 y3 y4, LeO (spec_PutFrame.j1 k y0 y1 y2 y3 y4) (spec_PutFrame.j1 (k + 1) y0 y1 y2 y3 y4)) ∧ (∀ y0, LeO (spec_PutFrame.j2 k y0) (spec_PutFrame.j2 (k + 1) y0))
 | 0 => ⟨fun _ _ _ _ _ r h => by simp [spec_PutFrame.j0] at h, fun _ _ _ _ _ r h => by simp [spec_PutFrame.j1] at h, fun _ r h => by simp [spec_PutFrame.j2] at h⟩
 | k + 1 => by
  obtain ⟨ih0, ih1, ih2⟩ := spec_PutFrame.mono_l k
  refine ⟨?_, ?_, ?_⟩
  ·
   intro y0 y1 y2 y3 y4
   unfold spec_PutFrame.j0
   repeat' first
   | (with_reducible exact ih0 _ _ _ _ _)
   | (with_reducible exact ih1 _ _ _ _ _)
   | (with_reducible exact ih2 _)
   | (with_reducible exact spec_Check.mono _ _)
   | (with_reducible exact spec_l01Join.mono _ _ _)
   | (with_reducible exact spec_l02Wide.mono _ _ _)
   | (with_reducible exact LeO.refl _)
   | (with_reducible exact LeO.none _)
   | (with_reducible refine LeO.ite ?_ ?_)
   | (with_reducible refine LeO.bind ?_ (fun _ => ?_))
   | exact ih0 _ _ _ _ _
   | exact ih1 _ _ _ _ _
   | exact ih2 _
   | exact spec_Check.mono _ _
   | exact spec_l01Join.mono _ _ _
   | exact spec_l02Wide.mono _ _ _
   | exact LeO.none _
   | refine LeO.ite ?_ ?_
   | refine LeO.bind ?_ (fun _ => ?_)
  ·
   intro y0 y1 y2 y3 y4
   unfold spec_PutFrame.j1
   repeat' first
   | (with_reducible exact ih0 _ _ _ _ _)
   | (with_reducible exact ih1 _ _ _ _ _)
   | (with_reducible exact ih2 _)
   | (with_reducible exact spec_Check.mono _ _)
   | (with_reducible exact spec_l01Join.mono _ _ _)
   | (with_reducible exact spec_l02Wide.mono _ _ _)
   | (with_reducible exact LeO.refl _)
   | (with_reducible exact LeO.none _)
   | (with_reducible refine LeO.ite ?_ ?_)
   | (with_reducible refine LeO.bind ?_ (fun _ => ?_))
   | exact ih0 _ _ _ _ _
   | exact ih1 _ _ _ _ _
   | exact ih2 _
   | exact spec_Check.mono _ _
   | exact spec_l01Join.mono _ _ _
   | exact spec_l02Wide.mono _ _ _
   | exact LeO.none _
   | refine LeO.ite ?_ ?_
   | refine LeO.bind ?_ (fun _ => ?_)
  ·
   intro y0
   unfold spec_PutFrame.j2
   repeat' first
   | (with_reducible exact ih0 _ _ _ _ _)
   | (with_reducible exact ih1 _ _ _ _ _)
   | (with_reducible exact ih2 _)
   | (with_reducible exact spec_Check.mono _ _)
   | (with_reducible exact spec_l01Join.mono _ _ _)
   | (with_reducible exact spec_l02Wide.mono _ _ _)
   | (with_reducible exact LeO.refl _)
   | (with_reducible exact LeO.none _)
   | (with_reducible refine LeO.ite ?_ ?_)
   | (with_reducible refine LeO.bind ?_ (fun _ => ?_))
   | exact ih0 _ _ _ _ _
   | exact ih1 _ _ _ _ _
   | exact ih2 _
   | exact spec_Check.mono _ _
   | exact spec_l01Join.mono _ _ _
   | exact spec_l02Wide.mono _ _ _
   | exact LeO.none _
   | refine LeO.ite ?_ ?_
   | refine LeO.bind ?_ (fun _ => ?_)
theorem spec_PutFrame.mono : ∀ a0 a1 a2 a3 k, LeO (spec_PutFrame.f k a0 a1 a2 a3) (spec_PutFrame.f (k + 1) a0 a1 a2 a3) := by
 intro a0 a1 a2 a3 k
 obtain ⟨ih0, ih1, ih2⟩ := spec_PutFrame.mono_l k
 unfold spec_PutFrame.f
 repeat' first
   | (with_reducible exact ih0 _ _ _ _ _)
   | (with_reducible exact ih1 _ _ _ _ _)
   | (with_reducible exact ih2 _)
   | (with_reducible exact spec_Check.mono _ _)
   | (with_reducible exact spec_l01Join.mono _ _ _)
   | (with_reducible exact spec_l02Wide.mono _ _ _)
   | (with_reducible exact LeO.refl _)
   | (with_reducible exact LeO.none _)
   | (with_reducible refine LeO.ite ?_ ?_)
   | (with_reducible refine LeO.bind ?_ (fun _ => ?_))
   | exact ih0 _ _ _ _ _
   | exact ih1 _ _ _ _ _
   | exact ih2 _
   | exact spec_Check.mono _ _
   | exact spec_l01Join.mono _ _ _
   | exact spec_l02Wide.mono _ _ _
   | exact LeO.none _
   | refine LeO.ite ?_ ?_
   | refine LeO.bind ?_ (fun _ => ?_)
set_option maxHeartbeats 8000000 in
set_option maxRecDepth 100000 in
theorem spec_PutFrame.calls (k : Nat) (a0_0 : Int) (a0_1 : Int) (a0_2 : Int) (a0_3 : Int) (r : List Int) (w : World) (h : spec_PutFrame.f k a0_0 a0_1 a0_2 a0_3 = some r) :
  Calls Try.prog 46 #[.agg #[.int .i64 a0_0, .int .i64 a0_1, .int .i64 a0_2, .int .i64 a0_3]] w fun e w' => ∃ v0_ : Value, e = .returned (v0_) ∧ Kd.R (Kd.int .u8) 5 w' w.heap.size (fun _ => True) v0_ r ∧ Below w.heap.size w w' := by
 have hu61 := Try.underlying61
 have HB := am_ (Below.refl w.heap.size w)
 have H : ((spec_FrameOk.f a0_0 a0_1 a0_2 a0_3).bind fun t297 => (if t297 = true then ((some (([(a0_0) % 256] : List Int) : List Int)).bind fun y298 => (if a0_0 = 1 then ((spec_l02Wide.f k a0_1 2).bind fun t301 => ((spec_l01Join.f k y298 t301).bind fun t304 => (spec_PutFrame.j0 k t304 a0_0 a0_1 a0_2 a0_3))) else (spec_PutFrame.j0 k y298 a0_0 a0_1 a0_2 a0_3))) else (some ([] : List Int)))) = some r := h
 clear h
 replace H := Option.bind_eq_some_iff.mp H
 obtain ⟨t297, A20, H⟩ := H
 replace H : (if t297 = true then ((some (([(a0_0) % 256] : List Int) : List Int)).bind fun y298 => (if a0_0 = 1 then ((spec_l02Wide.f k a0_1 2).bind fun t301 => ((spec_l01Join.f k y298 t301).bind fun t304 => (spec_PutFrame.j0 k t304 a0_0 a0_1 a0_2 a0_3))) else (spec_PutFrame.j0 k y298 a0_0 a0_1 a0_2 a0_3))) else (some ([] : List Int))) = some r := H
 have A2 := Aside0.mk A20
 clear A20
 by_cases c3 : t297 = true
 ·
  subst c3
  have H1 : ((some (([(a0_0) % 256] : List Int) : List Int)).bind fun y298 => (if a0_0 = 1 then ((spec_l02Wide.f k a0_1 2).bind fun t301 => ((spec_l01Join.f k y298 t301).bind fun t304 => (spec_PutFrame.j0 k t304 a0_0 a0_1 a0_2 a0_3))) else (spec_PutFrame.j0 k y298 a0_0 a0_1 a0_2 a0_3))) = some r := by rw [if_pos rfl] at H; exact H
  clear H
  have H := H1
  clear H1
  obtain ⟨y298, hy298⟩ : ∃ y_ : List Int, y_ = (([(a0_0) % 256] : List Int)) := ⟨_, rfl⟩
  replace H : (if a0_0 = 1 then ((spec_l02Wide.f k a0_1 2).bind fun t301 => ((spec_l01Join.f k y298 t301).bind fun t304 => (spec_PutFrame.j0 k t304 a0_0 a0_1 a0_2 a0_3))) else (spec_PutFrame.j0 k y298 a0_0 a0_1 a0_2 a0_3)) = some r := by first | (rw [hy298]; with_reducible exact H) | (have H2_ := (Option.bind_some _ _).symm.trans H; rw [hy298]; with_reducible exact H2_) | (have H2_ := (Option.bind_some _ _).symm.trans H; with_reducible exact H2_) | with_reducible exact H | (rw [hy298]; exact H) | exact H
  have Ny298 := Aside0.mk hy298
  clear hy298
  have HC4 := Aside0.mk H
  clear H
  go_enter Try.func46, Try.ntmps46
  go_upto_if 13 with (first | ((with_reducible refine gate_dst (N := 1) rfl ?_); refine box_event ?hg (N := 1) ?hd (cs := #[.int .i64 a0_0, .int .i64 a0_1, .int .i64 a0_2, .int .i64 a0_3]) (t := 61) ?hr ?_; (case hd => rfl); (case hg => rfl); (case hr => first | (go_simp; done) | (go_simp; rfl)); intro gb296 hg w5 hbox hb; have n0_ := am_ (below_step (ue_ HB.out) hb); have n1_ := am_ (hbox); have n2_ := am_ ((by rw [hg]; exact (below_size (ue_ HB.out)) : w.heap.size ≤ gb296)); have n3_ := am_ ((by rw [hg]; exact (below_size (ue_ HB.out)) : w.heap.size ≤ gb296)); clear HB; have HB := n0_; have BK296 := n1_; have GW296 := n2_; have GE296 := n3_; clear n0_ n1_ n2_ n3_; clear hb hbox hg; obtain ⟨hcz6_0, hcz6_1, hcz6_2, hcz6_3⟩ := cb4_ BK296.out; obtain ⟨hfz6_0, hfz6_1, hfz6_2⟩ := bf3_ BK296.out; have hfz6_3 := blk_frozen BK296.out 3) | ((with_reducible refine gate_callee (f := 47) rfl ?_); refine goesL_ (some 5) rfl rfl Try.func47 (by kernel_rfl) rfl #[.agg #[.int .i64 a0_0, .int .i64 a0_1, .int .i64 a0_2, .int .i64 a0_3]] rfl ul_ ?_; (with_reducible refine (spec_FrameOk.calls a0_0 a0_1 a0_2 a0_3 true _ A2.out).mono ?_); rintro e w7 ⟨rfl, hb⟩; refine ⟨_, rfl, ?_⟩; have n0_ := am_ (bb_ BK296.out hb); have n1_ := am_ (below_step (ue_ HB.out) hb); clear BK296 HB; have BK296 := n0_; have HB := n1_; clear n0_ n1_; (try clear hb); (try clear hb2); (try clear hk); (try clear hi); obtain ⟨hcz8_0, hcz8_1, hcz8_2, hcz8_3⟩ := cb4_ BK296.out; obtain ⟨hfz8_0, hfz8_1, hfz8_2⟩ := bf3_ BK296.out; have hfz8_3 := blk_frozen BK296.out 3) | ((with_reducible refine gate_dst (N := 10) rfl ?_); refine Kd.R_lit (Kd.int .u8) _ 5 ?hg (N := 10) ?hd (xs := ([(a0_0) % 256] : List Int)) (inner := [.int .u8 ((a0_0) % 256)]) (ok := fun _ => True) (okp := fun _ => True) ?hr ?hp (fun _ hk => hk) trivial (Below.refl _ _) (Nat.le_refl _) (by simp) ?_; (case hd => rfl); (case hg => rfl); (case hr => first | (go_simp; done) | (go_simp; rfl)); (case hp => exact (Reps.one (show Kd.M (Kd.int .u8) _ _ _ ((a0_0) % 256) [.int .u8 ((a0_0) % 256)] from rfl) (Reps.none _ _))); intro v299 w9 ho10 hb hg_ hnew_; clear hg_ hnew_; (first | rw [← Ny298.out] at ho10 | (simp only [Int.reduceToNat] at ho10; rw [← Ny298.out] at ho10)); have n0_ := am_ (Kd.R_lower ho10 (below_size (ue_ HB.out))); have n1_ := am_ (bb_ BK296.out hb); have n2_ := am_ (below_step (ue_ HB.out) hb); clear BK296 HB; have HO300 := n0_; have BK296 := n1_; have HB := n2_; clear n0_ n1_ n2_; clear hb ho10; obtain ⟨hcz11_0, hcz11_1, hcz11_2, hcz11_3⟩ := cb4_ BK296.out; obtain ⟨hfz11_0, hfz11_1, hfz11_2⟩ := bf3_ BK296.out; have hfz11_3 := blk_frozen BK296.out 3))
  (try simp only [Act.put, List.setIfInBounds_toArray, List.set_cons_zero, List.set_cons_succ])
  go_cut [3] (fun v3 wc => ∃ (kq : Nat) (x3_3 : List Int), Aside0 (spec_PutFrame.j0 kq x3_3 a0_0 a0_1 a0_2 a0_3 = some r) ∧ Aside0 (kq ≤ k) ∧ Aside0 (Kd.R (Kd.int .u8) 5 wc w.heap.size (fun _ => True) v3 x3_3) ∧ Aside0 (wc.heap[gb296]? = some (.cells #[.int .i64 a0_0, .int .i64 a0_1, .int .i64 a0_2, .int .i64 a0_3] 61 (0, 0))) ∧ Aside0 (Below w.heap.size w wc))
  case first =>
   have H := HC4.out
   clear HC4
   by_cases c12 : a0_0 = 1
   ·
    rw [if_pos c12] at H
    have c12b0 : (a0_0 == 1) = true := beq_iff_eq.mpr c12
    have c12b1 : (a0_0 != 1) = false := bne_eq_false_iff_eq.mpr c12
    clear c12
    (first | rw [c12b0] | (simp only [i64_w, i32_w]; rw [c12b0]) | skip)
    replace H := Option.bind_eq_some_iff.mp H
    obtain ⟨t301, A130, H⟩ := H
    replace H : ((spec_l01Join.f k y298 t301).bind fun t304 => (spec_PutFrame.j0 k t304 a0_0 a0_1 a0_2 a0_3)) = some r := H
    have A13 := Aside0.mk A130
    clear A130
    replace H := Option.bind_eq_some_iff.mp H
    obtain ⟨t304, A140, H⟩ := H
    replace H : (spec_PutFrame.j0 k t304 a0_0 a0_1 a0_2 a0_3) = some r := H
    have A14 := Aside0.mk A140
    clear A140
    have H' := Aside0.mk H
    clear H
    have hcz15_0 := cb_ BK296.out 0 rfl
    have hcz15_1 := cb_ BK296.out 1 rfl
    have hcz15_2 := cb_ BK296.out 2 rfl
    have hcz15_3 := cb_ BK296.out 3 rfl
    have hfz15_0 := blk_frozen BK296.out 0
    have hfz15_1 := blk_frozen BK296.out 1
    have hfz15_2 := blk_frozen BK296.out 2
    have hfz15_3 := blk_frozen BK296.out 3
    go_wp2_with (first | ((with_reducible refine gate_callee (f := 124) rfl ?_); refine goesL_ (some 17) rfl rfl Try.func124 (by kernel_rfl) rfl #[.int .i64 a0_1, .int .i64 2] rfl ul_ ?_; (with_reducible refine (spec_l02Wide.calls k a0_1 2 t301 _ A13.out).mono ?_); rintro e w16 ⟨v302, rfl, ho0, hb⟩; refine ⟨_, rfl, ?_⟩; have n0_ := am_ (Kd.R_elder' (ur_ HO300.out) (Kd.R_base ho0) hb); have n1_ := am_ (Kd.R_lower (Kd.R_new' ho0 (Kd.R_lt (ur_ HO300.out))) (below_size (ue_ HB.out))); have n2_ := am_ (bb_ BK296.out hb); have n3_ := am_ (below_step (ue_ HB.out) hb); clear HO300 BK296 HB; have HO300 := n0_; have HO303 := n1_; have BK296 := n2_; have HB := n3_; clear n0_ n1_ n2_ n3_; (try clear hb); (try clear hb2); (try clear hk); (try clear hi); (try clear ho0); obtain ⟨Ao17, co17, eo17⟩ := Kd.R_slice HO300.out; subst eo17; obtain ⟨Ao18, co18, eo18⟩ := Kd.R_slice HO303.out; subst eo18) | ((with_reducible refine gate_callee (f := 123) rfl ?_); refine goesL_ (some 18) rfl rfl Try.func123 (by kernel_rfl) rfl #[.slice Ao17 y298.length co17, .slice Ao18 t301.length co18] rfl ul_ ?_; (with_reducible refine (spec_l01Join.calls k _ _ y298 _ _ t301 t304 _ ?side1 ?side2 ?side3 ?side4 A14.out).mono ?_); (case side1 => repeat (first | exact (Kd.R_reads' HO300.out).2.2 | (with_reducible refine Kd.C_alloc ?_ _) | (with_reducible refine Kd.C_drewN ?_ _) | (with_reducible refine Kd.C_drew ?_))); (case side2 => exact (Kd.R_reads' HO300.out).2.1); (case side3 => repeat (first | exact (Kd.R_reads' HO303.out).2.2 | (with_reducible refine Kd.C_alloc ?_ _) | (with_reducible refine Kd.C_drewN ?_ _) | (with_reducible refine Kd.C_drew ?_))); (case side4 => exact (Kd.R_reads' HO303.out).2.1); rintro e w19 ⟨v305, rfl, ho0, hb⟩; refine ⟨_, rfl, ?_⟩; have n0_ := am_ (Kd.R_elder' (ur_ HO300.out) (Kd.R_base ho0) hb); have n1_ := am_ (Kd.R_elder' (ur_ HO303.out) (Kd.R_base ho0) hb); have n2_ := am_ (Kd.R_lower (Kd.R_new' (Kd.R_new' ho0 (Kd.R_lt (ur_ HO300.out))) (Kd.R_lt (ur_ HO303.out))) (below_size (ue_ HB.out))); have n3_ := am_ (bb_ BK296.out hb); have n4_ := am_ (below_step (ue_ HB.out) hb); clear HO300 HO303 BK296 HB; have HO300 := n0_; have HO303 := n1_; have HO306 := n2_; have BK296 := n3_; have HB := n4_; clear n0_ n1_ n2_ n3_ n4_; (try clear hb); (try clear hb2); (try clear hk); (try clear hi); (try clear ho0)))
    go_meet
    case rel => exact ⟨_, (t304), H', ⟨by first | omega | exact Nat.le_refl _⟩, ⟨by (with_reducible repeat (first | apply Kd.R_alloc | apply Kd.R_drewN | apply Kd.R_drew)); exact Kd.R_mono HO306.out (fun _ hk => trivial)⟩, ⟨by (with_reducible repeat first|apply bn_|apply bd_|apply ba_); exact BK296.out⟩, ⟨ue_ HB.out⟩⟩
   ·
    rw [if_neg c12] at H
    have c12b0 : (a0_0 == 1) = false := beq_eq_false_iff_ne.mpr c12
    have c12b1 : (a0_0 != 1) = true := bne_iff_ne.mpr c12
    (first | rw [c12b0] | (simp only [i64_w, i32_w]; rw [c12b0]) | skip)
    have H' := Aside0.mk H
    clear H
    go_wp2
    go_meet
    case rel => exact ⟨_, (y298), H', ⟨by first | omega | exact Nat.le_refl _⟩, ⟨by (with_reducible repeat (first | apply Kd.R_alloc | apply Kd.R_drewN | apply Kd.R_drew)); exact HO300.out⟩, ⟨by (with_reducible repeat first|apply bn_|apply bd_|apply ba_); exact BK296.out⟩, ⟨ue_ HB.out⟩⟩
  case rest =>
   clear HC4
   try clear c1
   try clear p2
   try clear c3
   try clear c4
   try clear c12
   try clear c12b0
   try clear c12b1
   try clear hcz11_0
   try clear hcz11_1
   try clear hcz11_2
   try clear hcz11_3
   try clear hcz15_0
   try clear hcz15_1
   try clear hcz15_2
   try clear hcz15_3
   try clear hcz6_0
   try clear hcz6_1
   try clear hcz6_2
   try clear hcz6_3
   try clear hcz8_0
   try clear hcz8_1
   try clear hcz8_2
   try clear hcz8_3
   try clear hfz11_0
   try clear hfz11_1
   try clear hfz11_2
   try clear hfz11_3
   try clear hfz15_0
   try clear hfz15_1
   try clear hfz15_2
   try clear hfz15_3
   try clear hfz6_0
   try clear hfz6_1
   try clear hfz6_2
   try clear hfz6_3
   try clear hfz8_0
   try clear hfz8_1
   try clear hfz8_2
   try clear hfz8_3
   obtain ⟨kq, x3_3, HA, HJ3, HO_3, BK296, HB⟩ := hcut
   cases kq with
   | zero => exact absurd HA.out (by simp [spec_PutFrame.j0])
   | succ kj3 =>
    have H := HA.out
    clear HA
    simp only [spec_PutFrame.j0] at H
    have HC20 := Aside0.mk H
    clear H
    have hcz21_0 := cb_ BK296.out 0 rfl
    have hcz21_1 := cb_ BK296.out 1 rfl
    have hcz21_2 := cb_ BK296.out 2 rfl
    have hcz21_3 := cb_ BK296.out 3 rfl
    have hfz21_0 := blk_frozen BK296.out 0
    have hfz21_1 := blk_frozen BK296.out 1
    have hfz21_2 := blk_frozen BK296.out 2
    have hfz21_3 := blk_frozen BK296.out 3
    go_upto_if 21 with (fail)
    go_cut [3] (fun v3 wc => ∃ (kq : Nat) (x3_19 : List Int), Aside0 (spec_PutFrame.j1 kq x3_19 a0_0 a0_1 a0_2 a0_3 = some r) ∧ Aside0 (kq ≤ kj3) ∧ Aside0 (Kd.R (Kd.int .u8) 5 wc w.heap.size (fun _ => True) v3 x3_19) ∧ Aside0 (wc.heap[gb296]? = some (.cells #[.int .i64 a0_0, .int .i64 a0_1, .int .i64 a0_2, .int .i64 a0_3] 61 (0, 0))) ∧ Aside0 (Below w.heap.size w wc))
    case first =>
     have H := HC20.out
     clear HC20
     by_cases c22 : a0_0 = 3
     ·
      rw [if_pos c22] at H
      have c22b0 : (a0_0 == 3) = true := beq_iff_eq.mpr c22
      have c22b1 : (a0_0 != 3) = false := bne_eq_false_iff_eq.mpr c22
      clear c22
      (first | rw [c22b0] | (simp only [i64_w, i32_w]; rw [c22b0]) | skip)
      have H' := Aside0.mk H
      clear H
      go_wp2
      go_meet
      case rel => exact ⟨_, (x3_3), H', ⟨by have := HJ3.out; first | omega | exact Nat.le_refl _⟩, ⟨by (with_reducible repeat (first | apply Kd.R_alloc | apply Kd.R_drewN | apply Kd.R_drew)); exact HO_3.out⟩, ⟨by (with_reducible repeat first|apply bn_|apply bd_|apply ba_); exact BK296.out⟩, ⟨ue_ HB.out⟩⟩
     ·
      rw [if_neg c22] at H
      have c22b0 : (a0_0 == 3) = false := beq_eq_false_iff_ne.mpr c22
      have c22b1 : (a0_0 != 3) = true := bne_iff_ne.mpr c22
      (first | rw [c22b0] | (simp only [i64_w, i32_w]; rw [c22b0]) | skip)
      replace H := Option.bind_eq_some_iff.mp H
      obtain ⟨t307, A230, H⟩ := H
      replace H : ((spec_l01Join.f kj3 x3_3 t307).bind fun t310 => (spec_PutFrame.j1 kj3 t310 a0_0 a0_1 a0_2 a0_3)) = some r := H
      have A23 := Aside0.mk A230
      clear A230
      replace H := Option.bind_eq_some_iff.mp H
      obtain ⟨t310, A240, H⟩ := H
      replace H : (spec_PutFrame.j1 kj3 t310 a0_0 a0_1 a0_2 a0_3) = some r := H
      have A24 := Aside0.mk A240
      clear A240
      have H' := Aside0.mk H
      clear H
      have hcz25_0 := cb_ BK296.out 0 rfl
      have hcz25_1 := cb_ BK296.out 1 rfl
      have hcz25_2 := cb_ BK296.out 2 rfl
      have hcz25_3 := cb_ BK296.out 3 rfl
      have hfz25_0 := blk_frozen BK296.out 0
      have hfz25_1 := blk_frozen BK296.out 1
      have hfz25_2 := blk_frozen BK296.out 2
      have hfz25_3 := blk_frozen BK296.out 3
      go_wp2_with (first | ((with_reducible refine gate_callee (f := 124) rfl ?_); refine goesL_ (some 25) rfl rfl Try.func124 (by kernel_rfl) rfl #[.int .i64 a0_2, .int .i64 3] rfl ul_ ?_; (with_reducible refine (spec_l02Wide.calls kj3 a0_2 3 t307 _ A23.out).mono ?_); rintro e w26 ⟨v308, rfl, ho0, hb⟩; refine ⟨_, rfl, ?_⟩; have n0_ := am_ (Kd.R_elder' (ur_ HO_3.out) (Kd.R_base ho0) hb); have n1_ := am_ (Kd.R_lower (Kd.R_new' ho0 (Kd.R_lt (ur_ HO_3.out))) (below_size (ue_ HB.out))); have n2_ := am_ (bb_ BK296.out hb); have n3_ := am_ (below_step (ue_ HB.out) hb); clear HO_3 BK296 HB; have HO_3 := n0_; have HO309 := n1_; have BK296 := n2_; have HB := n3_; clear n0_ n1_ n2_ n3_; (try clear hb); (try clear hb2); (try clear hk); (try clear hi); (try clear ho0); obtain ⟨Ao27, co27, eo27⟩ := Kd.R_slice HO_3.out; subst eo27; obtain ⟨Ao28, co28, eo28⟩ := Kd.R_slice HO309.out; subst eo28) | ((with_reducible refine gate_callee (f := 123) rfl ?_); refine goesL_ (some 26) rfl rfl Try.func123 (by kernel_rfl) rfl #[.slice Ao27 x3_3.length co27, .slice Ao28 t307.length co28] rfl ul_ ?_; (with_reducible refine (spec_l01Join.calls kj3 _ _ x3_3 _ _ t307 t310 _ ?side1 ?side2 ?side3 ?side4 A24.out).mono ?_); (case side1 => repeat (first | exact (Kd.R_reads' HO_3.out).2.2 | (with_reducible refine Kd.C_alloc ?_ _) | (with_reducible refine Kd.C_drewN ?_ _) | (with_reducible refine Kd.C_drew ?_))); (case side2 => exact (Kd.R_reads' HO_3.out).2.1); (case side3 => repeat (first | exact (Kd.R_reads' HO309.out).2.2 | (with_reducible refine Kd.C_alloc ?_ _) | (with_reducible refine Kd.C_drewN ?_ _) | (with_reducible refine Kd.C_drew ?_))); (case side4 => exact (Kd.R_reads' HO309.out).2.1); rintro e w29 ⟨v311, rfl, ho0, hb⟩; refine ⟨_, rfl, ?_⟩; have n0_ := am_ (Kd.R_elder' (ur_ HO_3.out) (Kd.R_base ho0) hb); have n1_ := am_ (Kd.R_elder' (ur_ HO309.out) (Kd.R_base ho0) hb); have n2_ := am_ (Kd.R_lower (Kd.R_new' (Kd.R_new' ho0 (Kd.R_lt (ur_ HO_3.out))) (Kd.R_lt (ur_ HO309.out))) (below_size (ue_ HB.out))); have n3_ := am_ (bb_ BK296.out hb); have n4_ := am_ (below_step (ue_ HB.out) hb); clear HO_3 HO309 BK296 HB; have HO_3 := n0_; have HO309 := n1_; have HO312 := n2_; have BK296 := n3_; have HB := n4_; clear n0_ n1_ n2_ n3_ n4_; (try clear hb); (try clear hb2); (try clear hk); (try clear hi); (try clear ho0)))
      go_meet
      case rel => exact ⟨_, (t310), H', ⟨by have := HJ3.out; first | omega | exact Nat.le_refl _⟩, ⟨by (with_reducible repeat (first | apply Kd.R_alloc | apply Kd.R_drewN | apply Kd.R_drew)); exact Kd.R_mono HO312.out (fun _ hk => trivial)⟩, ⟨by (with_reducible repeat first|apply bn_|apply bd_|apply ba_); exact BK296.out⟩, ⟨ue_ HB.out⟩⟩
    case rest =>
     clear HC20
     try clear c1
     try clear c2
     try clear p2
     try clear c3
     try clear c4
     try clear c12
     try clear c12b0
     try clear c12b1
     try clear c22
     try clear c22b0
     try clear c22b1
     try clear hcz11_0
     try clear hcz11_1
     try clear hcz11_2
     try clear hcz11_3
     try clear hcz15_0
     try clear hcz15_1
     try clear hcz15_2
     try clear hcz15_3
     try clear hcz21_0
     try clear hcz21_1
     try clear hcz21_2
     try clear hcz21_3
     try clear hcz25_0
     try clear hcz25_1
     try clear hcz25_2
     try clear hcz25_3
     try clear hcz6_0
     try clear hcz6_1
     try clear hcz6_2
     try clear hcz6_3
     try clear hcz8_0
     try clear hcz8_1
     try clear hcz8_2
     try clear hcz8_3
     try clear hfz11_0
     try clear hfz11_1
     try clear hfz11_2
     try clear hfz11_3
     try clear hfz15_0
     try clear hfz15_1
     try clear hfz15_2
     try clear hfz15_3
     try clear hfz21_0
     try clear hfz21_1
     try clear hfz21_2
     try clear hfz21_3
     try clear hfz25_0
     try clear hfz25_1
     try clear hfz25_2
     try clear hfz25_3
     try clear hfz6_0
     try clear hfz6_1
     try clear hfz6_2
     try clear hfz6_3
     try clear hfz8_0
     try clear hfz8_1
     try clear hfz8_2
     try clear hfz8_3
     try clear p2
     obtain ⟨kq, x3_19, HA, HJ19, HO_3, BK296, HB⟩ := hcut
     cases kq with
     | zero => exact absurd HA.out (by simp [spec_PutFrame.j1])
     | succ kj19 =>
      have H := HA.out
      clear HA
      simp only [spec_PutFrame.j1] at H
      have HC30 := Aside0.mk H
      clear H
      have hcz31_0 := cb_ BK296.out 0 rfl
      have hcz31_1 := cb_ BK296.out 1 rfl
      have hcz31_2 := cb_ BK296.out 2 rfl
      have hcz31_3 := cb_ BK296.out 3 rfl
      have hfz31_0 := blk_frozen BK296.out 0
      have hfz31_1 := blk_frozen BK296.out 1
      have hfz31_2 := blk_frozen BK296.out 2
      have hfz31_3 := blk_frozen BK296.out 3
      go_upto_if 29 with (fail)
      go_cut [3] (fun v3 wc => ∃ (kq : Nat) (x3_29 : List Int), Aside0 (spec_PutFrame.j2 kq x3_29 = some r) ∧ Aside0 (kq ≤ kj19) ∧ Aside0 (Kd.R (Kd.int .u8) 5 wc w.heap.size (fun _ => True) v3 x3_29) ∧ Aside0 (wc.heap[gb296]? = some (.cells #[.int .i64 a0_0, .int .i64 a0_1, .int .i64 a0_2, .int .i64 a0_3] 61 (0, 0))) ∧ Aside0 (Below w.heap.size w wc))
      case first =>
       have H := HC30.out
       clear HC30
       by_cases c32 : a0_0 = 1
       ·
        rw [if_pos c32] at H
        have c32b0 : (a0_0 == 1) = true := beq_iff_eq.mpr c32
        have c32b1 : (a0_0 != 1) = false := bne_eq_false_iff_eq.mpr c32
        clear c32
        (first | rw [c32b0] | (simp only [i64_w, i32_w]; rw [c32b0]) | skip)
        replace H := Option.bind_eq_some_iff.mp H
        obtain ⟨t313, A330, H⟩ := H
        replace H : ((spec_l01Join.f kj19 x3_19 t313).bind fun t316 => (spec_PutFrame.j2 kj19 t316)) = some r := H
        have A33 := Aside0.mk A330
        clear A330
        replace H := Option.bind_eq_some_iff.mp H
        obtain ⟨t316, A340, H⟩ := H
        replace H : (spec_PutFrame.j2 kj19 t316) = some r := H
        have A34 := Aside0.mk A340
        clear A340
        have H' := Aside0.mk H
        clear H
        have hcz35_0 := cb_ BK296.out 0 rfl
        have hcz35_1 := cb_ BK296.out 1 rfl
        have hcz35_2 := cb_ BK296.out 2 rfl
        have hcz35_3 := cb_ BK296.out 3 rfl
        have hfz35_0 := blk_frozen BK296.out 0
        have hfz35_1 := blk_frozen BK296.out 1
        have hfz35_2 := blk_frozen BK296.out 2
        have hfz35_3 := blk_frozen BK296.out 3
        go_wp2_with (first | ((with_reducible refine gate_callee (f := 124) rfl ?_); refine goesL_ (some 34) rfl rfl Try.func124 (by kernel_rfl) rfl #[.int .i64 (wrap64 (a0_3 + 1000000)), .int .i64 3] rfl ul_ ?_; (with_reducible refine (spec_l02Wide.calls kj19 (wrap64 (a0_3 + 1000000)) 3 t313 _ A33.out).mono ?_); rintro e w36 ⟨v314, rfl, ho0, hb⟩; refine ⟨_, rfl, ?_⟩; have n0_ := am_ (Kd.R_elder' (ur_ HO_3.out) (Kd.R_base ho0) hb); have n1_ := am_ (Kd.R_lower (Kd.R_new' ho0 (Kd.R_lt (ur_ HO_3.out))) (below_size (ue_ HB.out))); have n2_ := am_ (bb_ BK296.out hb); have n3_ := am_ (below_step (ue_ HB.out) hb); clear HO_3 BK296 HB; have HO_3 := n0_; have HO315 := n1_; have BK296 := n2_; have HB := n3_; clear n0_ n1_ n2_ n3_; (try clear hb); (try clear hb2); (try clear hk); (try clear hi); (try clear ho0); obtain ⟨Ao37, co37, eo37⟩ := Kd.R_slice HO_3.out; subst eo37; obtain ⟨Ao38, co38, eo38⟩ := Kd.R_slice HO315.out; subst eo38) | ((with_reducible refine gate_callee (f := 123) rfl ?_); refine goesL_ (some 35) rfl rfl Try.func123 (by kernel_rfl) rfl #[.slice Ao37 x3_19.length co37, .slice Ao38 t313.length co38] rfl ul_ ?_; (with_reducible refine (spec_l01Join.calls kj19 _ _ x3_19 _ _ t313 t316 _ ?side1 ?side2 ?side3 ?side4 A34.out).mono ?_); (case side1 => repeat (first | exact (Kd.R_reads' HO_3.out).2.2 | (with_reducible refine Kd.C_alloc ?_ _) | (with_reducible refine Kd.C_drewN ?_ _) | (with_reducible refine Kd.C_drew ?_))); (case side2 => exact (Kd.R_reads' HO_3.out).2.1); (case side3 => repeat (first | exact (Kd.R_reads' HO315.out).2.2 | (with_reducible refine Kd.C_alloc ?_ _) | (with_reducible refine Kd.C_drewN ?_ _) | (with_reducible refine Kd.C_drew ?_))); (case side4 => exact (Kd.R_reads' HO315.out).2.1); rintro e w39 ⟨v317, rfl, ho0, hb⟩; refine ⟨_, rfl, ?_⟩; have n0_ := am_ (Kd.R_elder' (ur_ HO_3.out) (Kd.R_base ho0) hb); have n1_ := am_ (Kd.R_elder' (ur_ HO315.out) (Kd.R_base ho0) hb); have n2_ := am_ (Kd.R_lower (Kd.R_new' (Kd.R_new' ho0 (Kd.R_lt (ur_ HO_3.out))) (Kd.R_lt (ur_ HO315.out))) (below_size (ue_ HB.out))); have n3_ := am_ (bb_ BK296.out hb); have n4_ := am_ (below_step (ue_ HB.out) hb); clear HO_3 HO315 BK296 HB; have HO_3 := n0_; have HO315 := n1_; have HO318 := n2_; have BK296 := n3_; have HB := n4_; clear n0_ n1_ n2_ n3_ n4_; (try clear hb); (try clear hb2); (try clear hk); (try clear hi); (try clear ho0)))
        go_meet
        case rel => exact ⟨_, (t316), H', ⟨by have := HJ3.out; have := HJ19.out; first | omega | exact Nat.le_refl _⟩, ⟨by (with_reducible repeat (first | apply Kd.R_alloc | apply Kd.R_drewN | apply Kd.R_drew)); exact Kd.R_mono HO318.out (fun _ hk => trivial)⟩, ⟨by (with_reducible repeat first|apply bn_|apply bd_|apply ba_); exact BK296.out⟩, ⟨ue_ HB.out⟩⟩
       ·
        rw [if_neg c32] at H
        have c32b0 : (a0_0 == 1) = false := beq_eq_false_iff_ne.mpr c32
        have c32b1 : (a0_0 != 1) = true := bne_iff_ne.mpr c32
        (first | rw [c32b0] | (simp only [i64_w, i32_w]; rw [c32b0]) | skip)
        have H' := Aside0.mk H
        clear H
        go_wp2
        go_meet
        case rel => exact ⟨_, (x3_19), H', ⟨by have := HJ3.out; have := HJ19.out; first | omega | exact Nat.le_refl _⟩, ⟨by (with_reducible repeat (first | apply Kd.R_alloc | apply Kd.R_drewN | apply Kd.R_drew)); exact HO_3.out⟩, ⟨by (with_reducible repeat first|apply bn_|apply bd_|apply ba_); exact BK296.out⟩, ⟨ue_ HB.out⟩⟩
      case rest =>
       clear HC30
       try clear c1
       try clear c2
       try clear p2
       try clear c3
       try clear c4
       try clear p6
       try clear c12
       try clear c12b0
       try clear c12b1
       try clear c22
       try clear c22b0
       try clear c22b1
       try clear c32
       try clear c32b0
       try clear c32b1
       try clear hcz11_0
       try clear hcz11_1
       try clear hcz11_2
       try clear hcz11_3
       try clear hcz15_0
       try clear hcz15_1
       try clear hcz15_2
       try clear hcz15_3
       try clear hcz21_0
       try clear hcz21_1
       try clear hcz21_2
       try clear hcz21_3
       try clear hcz25_0
       try clear hcz25_1
       try clear hcz25_2
       try clear hcz25_3
       try clear hcz31_0
       try clear hcz31_1
       try clear hcz31_2
       try clear hcz31_3
       try clear hcz35_0
       try clear hcz35_1
       try clear hcz35_2
       try clear hcz35_3
       try clear hcz6_0
       try clear hcz6_1
       try clear hcz6_2
       try clear hcz6_3
       try clear hcz8_0
       try clear hcz8_1
       try clear hcz8_2
       try clear hcz8_3
       try clear hfz11_0
       try clear hfz11_1
       try clear hfz11_2
       try clear hfz11_3
       try clear hfz15_0
       try clear hfz15_1
       try clear hfz15_2
       try clear hfz15_3
       try clear hfz21_0
       try clear hfz21_1
       try clear hfz21_2
       try clear hfz21_3
       try clear hfz25_0
       try clear hfz25_1
       try clear hfz25_2
       try clear hfz25_3
       try clear hfz31_0
       try clear hfz31_1
       try clear hfz31_2
       try clear hfz31_3
       try clear hfz35_0
       try clear hfz35_1
       try clear hfz35_2
       try clear hfz35_3
       try clear hfz6_0
       try clear hfz6_1
       try clear hfz6_2
       try clear hfz6_3
       try clear hfz8_0
       try clear hfz8_1
       try clear hfz8_2
       try clear hfz8_3
       try clear p2
       obtain ⟨kq, x3_29, HA, HJ29, HO_3, BK296, HB⟩ := hcut
       cases kq with
       | zero => exact absurd HA.out (by simp [spec_PutFrame.j2])
       | succ kj29 =>
        have H := HA.out
        clear HA
        simp only [spec_PutFrame.j2] at H
        obtain ⟨y319, hy319⟩ : ∃ y_ : List Int, y_ = (([((x3_29.length : Int)) % 256] : List Int)) := ⟨_, rfl⟩
        replace H : ((spec_l01Join.f kj29 y319 x3_29).bind fun t322 => ((spec_Check.f kj29 x3_29).bind fun t325 => ((spec_l02Wide.f kj29 t325 4).bind fun t326 => ((spec_l01Join.f kj29 t322 t326).bind fun t329 => (some t329))))) = some r := by first | (rw [hy319]; with_reducible exact H) | (have H2_ := (Option.bind_some _ _).symm.trans H; rw [hy319]; with_reducible exact H2_) | (have H2_ := (Option.bind_some _ _).symm.trans H; with_reducible exact H2_) | with_reducible exact H | (rw [hy319]; exact H) | exact H
        have Ny319 := Aside0.mk hy319
        clear hy319
        replace H := Option.bind_eq_some_iff.mp H
        obtain ⟨t322, A400, H⟩ := H
        replace H : ((spec_Check.f kj29 x3_29).bind fun t325 => ((spec_l02Wide.f kj29 t325 4).bind fun t326 => ((spec_l01Join.f kj29 t322 t326).bind fun t329 => (some t329)))) = some r := H
        have A40 := Aside0.mk A400
        clear A400
        replace H := Option.bind_eq_some_iff.mp H
        obtain ⟨t325, A410, H⟩ := H
        replace H : ((spec_l02Wide.f kj29 t325 4).bind fun t326 => ((spec_l01Join.f kj29 t322 t326).bind fun t329 => (some t329))) = some r := H
        have A41 := Aside0.mk A410
        clear A410
        replace H := Option.bind_eq_some_iff.mp H
        obtain ⟨t326, A420, H⟩ := H
        replace H : ((spec_l01Join.f kj29 t322 t326).bind fun t329 => (some t329)) = some r := H
        have A42 := Aside0.mk A420
        clear A420
        replace H := Option.bind_eq_some_iff.mp H
        obtain ⟨t329, A430, H⟩ := H
        replace H : (some t329) = some r := H
        have A43 := Aside0.mk A430
        clear A430
        obtain rfl := Option.some.inj H
        obtain ⟨Ao44, co44, eo44⟩ := Kd.R_slice HO_3.out
        subst eo44
        go_wp2_with (first | ((with_reducible refine gate_dst (N := 39) rfl ?_); refine Kd.R_lit (Kd.int .u8) _ 5 ?hg (N := 39) ?hd (xs := ([((x3_29.length : Int)) % 256] : List Int)) (inner := [.int .u8 (((x3_29.length : Int)) % 256)]) (ok := fun _ => True) (okp := fun _ => True) ?hr ?hp (fun _ hk => hk) trivial (Below.refl _ _) (Nat.le_refl _) (by simp) ?_; (case hd => rfl); (case hg => rfl); (case hr => first | (go_simp; done) | (go_simp; rfl)); (case hp => exact (Reps.one (show Kd.M (Kd.int .u8) _ _ _ (((x3_29.length : Int)) % 256) [.int .u8 (((x3_29.length : Int)) % 256)] from rfl) (Reps.none _ _))); intro v320 w45 ho46 hb hg_ hnew_; clear hg_ hnew_; (first | rw [← Ny319.out] at ho46 | (simp only [Int.reduceToNat] at ho46; rw [← Ny319.out] at ho46)); have n0_ := am_ (Kd.R_elder' (ur_ HO_3.out) (Kd.R_base ho46) hb); have n1_ := am_ (Kd.R_lower (Kd.R_new' ho46 (Kd.R_lt (ur_ HO_3.out))) (below_size (ue_ HB.out))); have n2_ := am_ (bb_ BK296.out hb); have n3_ := am_ (below_step (ue_ HB.out) hb); clear HO_3 BK296 HB; have HO_3 := n0_; have HO321 := n1_; have BK296 := n2_; have HB := n3_; clear n0_ n1_ n2_ n3_; clear hb ho46; obtain ⟨Ao47, co47, eo47⟩ := Kd.R_slice HO321.out; subst eo47) | ((with_reducible refine gate_callee (f := 123) rfl ?_); refine goesL_ (some 41) rfl rfl Try.func123 (by kernel_rfl) rfl #[.slice Ao47 y319.length co47, .slice Ao44 x3_29.length co44] rfl ul_ ?_; (with_reducible refine (spec_l01Join.calls kj29 _ _ y319 _ _ x3_29 t322 _ ?side1 ?side2 ?side3 ?side4 A40.out).mono ?_); (case side1 => repeat (first | exact (Kd.R_reads' HO321.out).2.2 | (with_reducible refine Kd.C_alloc ?_ _) | (with_reducible refine Kd.C_drewN ?_ _) | (with_reducible refine Kd.C_drew ?_))); (case side2 => exact (Kd.R_reads' HO321.out).2.1); (case side3 => repeat (first | exact (Kd.R_reads' HO_3.out).2.2 | (with_reducible refine Kd.C_alloc ?_ _) | (with_reducible refine Kd.C_drewN ?_ _) | (with_reducible refine Kd.C_drew ?_))); (case side4 => exact (Kd.R_reads' HO_3.out).2.1); rintro e w48 ⟨v323, rfl, ho0, hb⟩; refine ⟨_, rfl, ?_⟩; have n0_ := am_ (Kd.R_elder' (ur_ HO_3.out) (Kd.R_base ho0) hb); have n1_ := am_ (Kd.R_elder' (ur_ HO321.out) (Kd.R_base ho0) hb); have n2_ := am_ (Kd.R_lower (Kd.R_new' (Kd.R_new' ho0 (Kd.R_lt (ur_ HO_3.out))) (Kd.R_lt (ur_ HO321.out))) (below_size (ue_ HB.out))); have n3_ := am_ (bb_ BK296.out hb); have n4_ := am_ (below_step (ue_ HB.out) hb); clear HO_3 HO321 BK296 HB; have HO_3 := n0_; have HO321 := n1_; have HO324 := n2_; have BK296 := n3_; have HB := n4_; clear n0_ n1_ n2_ n3_ n4_; (try clear hb); (try clear hb2); (try clear hk); (try clear hi); (try clear ho0)) | ((with_reducible refine gate_callee (f := 125) rfl ?_); refine goesL_ (some 43) rfl rfl Try.func125 (by kernel_rfl) rfl #[.slice Ao44 x3_29.length co44] rfl ul_ ?_; (with_reducible refine (spec_Check.calls kj29 _ _ x3_29 t325 _ ?side1 ?side2 A41.out).mono ?_); (case side1 => repeat (first | exact (Kd.R_reads' HO_3.out).2.2 | (with_reducible refine Kd.C_alloc ?_ _) | (with_reducible refine Kd.C_drewN ?_ _) | (with_reducible refine Kd.C_drew ?_))); (case side2 => exact (Kd.R_reads' HO_3.out).2.1); rintro e w' ⟨rfl, ⟨nd, rfl⟩⟩; refine ⟨_, rfl, ?_⟩) | ((with_reducible refine gate_callee (f := 124) rfl ?_); refine goesL_ (some 44) rfl rfl Try.func124 (by kernel_rfl) rfl #[.int .i64 t325, .int .i64 4] rfl ul_ ?_; (with_reducible refine (spec_l02Wide.calls kj29 t325 4 t326 _ A42.out).mono ?_); rintro e w49 ⟨v327, rfl, ho0, hb⟩; refine ⟨_, rfl, ?_⟩; have n0_ := am_ (Kd.R_elder' (ur_ HO_3.out) (Kd.R_base ho0) hb); have n1_ := am_ (Kd.R_elder' (ur_ HO321.out) (Kd.R_base ho0) hb); have n2_ := am_ (Kd.R_elder' (ur_ HO324.out) (Kd.R_base ho0) hb); have n3_ := am_ (Kd.R_lower (Kd.R_new' (Kd.R_new' (Kd.R_new' ho0 (Kd.R_lt (ur_ HO_3.out))) (Kd.R_lt (ur_ HO321.out))) (Kd.R_lt (ur_ HO324.out))) (below_size (ue_ HB.out))); have n4_ := am_ (bb_ BK296.out hb); have n5_ := am_ (below_step (ue_ HB.out) hb); clear HO_3 HO321 HO324 BK296 HB; have HO_3 := n0_; have HO321 := n1_; have HO324 := n2_; have HO328 := n3_; have BK296 := n4_; have HB := n5_; clear n0_ n1_ n2_ n3_ n4_ n5_; (try clear hb); (try clear hb2); (try clear hk); (try clear hi); (try clear ho0); obtain ⟨Ao50, co50, eo50⟩ := Kd.R_slice HO324.out; subst eo50; obtain ⟨Ao51, co51, eo51⟩ := Kd.R_slice HO328.out; subst eo51) | ((with_reducible refine gate_callee (f := 123) rfl ?_); refine goesL_ (some 45) rfl rfl Try.func123 (by kernel_rfl) rfl #[.slice Ao50 t322.length co50, .slice Ao51 t326.length co51] rfl ul_ ?_; (with_reducible refine (spec_l01Join.calls kj29 _ _ t322 _ _ t326 t329 _ ?side1 ?side2 ?side3 ?side4 A43.out).mono ?_); (case side1 => repeat (first | exact (Kd.R_reads' HO324.out).2.2 | (with_reducible refine Kd.C_alloc ?_ _) | (with_reducible refine Kd.C_drewN ?_ _) | (with_reducible refine Kd.C_drew ?_))); (case side2 => exact (Kd.R_reads' HO324.out).2.1); (case side3 => repeat (first | exact (Kd.R_reads' HO328.out).2.2 | (with_reducible refine Kd.C_alloc ?_ _) | (with_reducible refine Kd.C_drewN ?_ _) | (with_reducible refine Kd.C_drew ?_))); (case side4 => exact (Kd.R_reads' HO328.out).2.1); rintro e w52 ⟨v330, rfl, ho0, hb⟩; refine ⟨_, rfl, ?_⟩; have n0_ := am_ (Kd.R_elder' (ur_ HO_3.out) (Kd.R_base ho0) hb); have n1_ := am_ (Kd.R_elder' (ur_ HO321.out) (Kd.R_base ho0) hb); have n2_ := am_ (Kd.R_elder' (ur_ HO324.out) (Kd.R_base ho0) hb); have n3_ := am_ (Kd.R_elder' (ur_ HO328.out) (Kd.R_base ho0) hb); have n4_ := am_ (Kd.R_lower (Kd.R_new' (Kd.R_new' (Kd.R_new' (Kd.R_new' ho0 (Kd.R_lt (ur_ HO_3.out))) (Kd.R_lt (ur_ HO321.out))) (Kd.R_lt (ur_ HO324.out))) (Kd.R_lt (ur_ HO328.out))) (below_size (ue_ HB.out))); have n5_ := am_ (bb_ BK296.out hb); have n6_ := am_ (below_step (ue_ HB.out) hb); clear HO_3 HO321 HO324 HO328 BK296 HB; have HO_3 := n0_; have HO321 := n1_; have HO324 := n2_; have HO328 := n3_; have HO331 := n4_; have BK296 := n5_; have HB := n6_; clear n0_ n1_ n2_ n3_ n4_ n5_ n6_; (try clear hb); (try clear hb2); (try clear hk); (try clear hi); (try clear ho0)))
        go_ret
        exact ⟨_, ew_, by (with_reducible repeat (first | apply Kd.R_alloc | apply Kd.R_drewN | apply Kd.R_drew)); exact Kd.R_mono HO331.out (fun _ hk => trivial), ue_ HB.out⟩
 ·
  replace c3 := Bool.eq_false_iff.mpr c3
  subst c3
  have H1 : (some ([] : List Int)) = some r := by rw [if_neg (show ¬ (false = true) by decide)] at H; exact H
  clear H
  have H := H1
  clear H1
  obtain rfl := Option.some.inj H
  go_enter Try.func46, Try.ntmps46
  go_wp2_with (first | ((with_reducible refine gate_dst (N := 1) rfl ?_); refine box_event ?hg (N := 1) ?hd (cs := #[.int .i64 a0_0, .int .i64 a0_1, .int .i64 a0_2, .int .i64 a0_3]) (t := 61) ?hr ?_; (case hd => rfl); (case hg => rfl); (case hr => first | (go_simp; done) | (go_simp; rfl)); intro gb296 hg w53 hbox hb; have n0_ := am_ (below_step (ue_ HB.out) hb); have n1_ := am_ (hbox); have n2_ := am_ ((by rw [hg]; exact (below_size (ue_ HB.out)) : w.heap.size ≤ gb296)); have n3_ := am_ ((by rw [hg]; exact (below_size (ue_ HB.out)) : w.heap.size ≤ gb296)); clear HB; have HB := n0_; have BK296 := n1_; have GW296 := n2_; have GE296 := n3_; clear n0_ n1_ n2_ n3_; clear hb hbox hg; obtain ⟨hcz54_0, hcz54_1, hcz54_2, hcz54_3⟩ := cb4_ BK296.out; obtain ⟨hfz54_0, hfz54_1, hfz54_2⟩ := bf3_ BK296.out; have hfz54_3 := blk_frozen BK296.out 3) | ((with_reducible refine gate_callee (f := 47) rfl ?_); refine goesL_ (some 5) rfl rfl Try.func47 (by kernel_rfl) rfl #[.agg #[.int .i64 a0_0, .int .i64 a0_1, .int .i64 a0_2, .int .i64 a0_3]] rfl ul_ ?_; (with_reducible refine (spec_FrameOk.calls a0_0 a0_1 a0_2 a0_3 false _ A2.out).mono ?_); rintro e w55 ⟨rfl, hb⟩; refine ⟨_, rfl, ?_⟩; have n0_ := am_ (bb_ BK296.out hb); have n1_ := am_ (below_step (ue_ HB.out) hb); clear BK296 HB; have BK296 := n0_; have HB := n1_; clear n0_ n1_; (try clear hb); (try clear hb2); (try clear hk); (try clear hi)))
  go_ret
  exact ⟨_, ew_, by first | exact Kd.R_nil _ _ _ _ _ | exact Kd.N_nil _ _ _ _ _ | exact Kd.V_nil _ _ _ _ _ | exact Kd.Q_nil _ _ _ _ _ | exact Kd.S_nil _ _ _ _ _, ue_ HB.out⟩

/-! ### impl_number: function 171 -/
def impl_number.l0 : Nat → Int → List Int → Int → Int → Option (Int)
 | 0, _, _, _, _ => none
 | k + 1, x3, x6, x7, x8 => if x8 < x7 then (if 0 ≤ x8 then (if x8 < (x6.length : Int) then (impl_number.l0 k (Go.bits .or .i64 (wrap64 (x3 * 256)) (wrap64 (rd x6 x8))) x6 x7 (wrap64 (x8 + 1))) else (none)) else (none)) else (some x3)
def impl_number.f (k : Nat) (l0 : List Int) : Option (Int) := impl_number.l0 k 0 l0 (l0.length : Int) 0
theorem impl_number.mono_l : ∀ k, (∀ y0 y1 y2 y3, LeO (impl_number.l0 k y0 y1 y2 y3) (impl_number.l0 (k + 1) y0 y1 y2 y3))
 | 0 => fun _ _ _ _ r h => by simp [impl_number.l0] at h
 | k + 1 => by
  have ih0 := impl_number.mono_l k
  ·
   intro y0 y1 y2 y3
   unfold impl_number.l0
   repeat' first
   | (with_reducible exact ih0 _ _ _ _)
   | (with_reducible exact LeO.refl _)
   | (with_reducible exact LeO.none _)
   | (with_reducible refine LeO.ite ?_ ?_)
   | (with_reducible refine LeO.bind ?_ (fun _ => ?_))
   | exact ih0 _ _ _ _
   | exact LeO.none _
   | refine LeO.ite ?_ ?_
   | refine LeO.bind ?_ (fun _ => ?_)
theorem impl_number.mono : ∀ a0 k, LeO (impl_number.f k a0) (impl_number.f (k + 1) a0) := by
 intro a0 k
 have ih0 := impl_number.mono_l k
 unfold impl_number.f
 repeat' first
   | (with_reducible exact ih0 _ _ _ _)
   | (with_reducible exact LeO.refl _)
   | (with_reducible exact LeO.none _)
   | (with_reducible refine LeO.ite ?_ ?_)
   | (with_reducible refine LeO.bind ?_ (fun _ => ?_))
   | exact ih0 _ _ _ _
   | exact LeO.none _
   | refine LeO.ite ?_ ?_
   | refine LeO.bind ?_ (fun _ => ?_)
set_option maxHeartbeats 8000000 in
set_option maxRecDepth 100000 in
theorem impl_number.calls (k : Nat) (A0 : Option Addr) (c0 : Nat) (l0 : List Int) (r : Int) (w : World) (hr0 : Kd.C (Kd.int .u8) w A0 l0.length l0) (hc0 : l0.length ≤ c0) (h : impl_number.f k l0 = some r) :
  Calls Try.prog 171 #[.slice A0 l0.length c0] w fun e w' => e = .returned (.int .i64 r) ∧ Drawn0 w w' := by
 have HR0 := Aside0.mk hr0
 have HC0 := Aside0.mk hc0
 clear hr0 hc0
 have H : (impl_number.l0 k 0 l0 (l0.length : Int) 0) = some r := h
 clear h
 have H' := Aside0.mk H
 clear H
 go_enter Try.func171, Try.ntmps171
 go_wp2
 (try simp only [Act.put, List.setIfInBounds_toArray, List.set_cons_zero, List.set_cons_succ])
 go_loopg [3, 8] k (fun kq v3 v8 w' => ∃ (x3_1 : Int) (x8_1 : Int), v3 = .int .i64 x3_1 ∧ v8 = .int .i64 x8_1 ∧ Aside0 (impl_number.l0 kq x3_1 l0 (l0.length : Int) x8_1 = some r) ∧ Aside0 (kq ≤ k) ∧ Drawn0 w w')
 case atStart => exact ⟨(0), (0), (by first | rfl | (simp; done) | (simp [*]; done)), (by first | rfl | (simp; done) | (simp [*]; done)), H', ⟨Nat.le_refl _⟩, by repeat (first | exact Drawn0.refl _ | apply Drawn0.step)⟩
 case round =>
  clear H'
  try clear c1
  obtain ⟨x3_1, x8_1, rfl, rfl, HA, HK1, ⟨m1, rfl⟩⟩ := hrel
  cases gk with
  | zero => exact absurd HA.out (by simp [impl_number.l0])
  | succ k1 =>
   have H := HA.out
   clear HA
   simp only [impl_number.l0] at H
   by_cases c2 : x8_1 < (l0.length : Int)
   ·
    rw [if_pos c2] at H
    have c2b0 : decide (x8_1 < (l0.length : Int)) = true := decide_eq_true c2
    clear c2
    by_cases c3 : 0 ≤ x8_1
    ·
     rw [if_pos c3] at H
     have c3b0 : decide (0 ≤ x8_1) = true := decide_eq_true c3
     clear c3
     by_cases c4 : x8_1 < (l0.length : Int)
     ·
      rw [if_pos c4] at H
      have c4b0 : decide (x8_1 < (l0.length : Int)) = true := decide_eq_true c4
      clear c4
      have H' := Aside0.mk H
      clear H
      have p332 : 0 ≤ (x8_1 : Int) := of_decide_eq_true ua_
      have q332 : x8_1 < (l0.length : Int) := of_decide_eq_true ua_
      obtain ⟨ad332, e332, hx332_0⟩ := Kd.at_int HR0.out x8_1 p332 q332
      cases e332
      replace p332 := eq_true p332
      replace q332 := eq_true q332
      go_wp2
      go_roundg k1
      case measure => have := HK1.out; omega
      case rel => exact ⟨(Go.bits .or .i64 (wrap64 (x3_1 * 256)) (wrap64 (rd l0 x8_1))), (wrap64 (x8_1 + 1)), (by first | rfl | (simp; done) | (simp [*]; done)), (by first | rfl | (simp; done) | (simp [*]; done)), H', ⟨by have := HK1.out; omega⟩, by repeat (first | exact Drawn0.refl _ | apply Drawn0.step)⟩
     ·
      rw [if_neg c4] at H
      exact absurd H (by simp)
    ·
     rw [if_neg c3] at H
     exact absurd H (by simp)
   ·
    rw [if_neg c2] at H
    have c2b0 : decide (x8_1 < (l0.length : Int)) = false := decide_eq_false c2
    clear c2
    obtain rfl := Option.some.inj H
    go_wp2
    go_ret
    exact ⟨by first | rfl | (simp; done) | (simp [*]; done), by repeat (first | exact Drawn0.refl _ | apply Drawn0.step)⟩

end Go.Proofs.Ytcflalomjehiiaa.QFnFrames
