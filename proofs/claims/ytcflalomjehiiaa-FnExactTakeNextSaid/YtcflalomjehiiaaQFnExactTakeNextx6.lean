/- The machine side of a law: Lean functions with the Go functions' answers and the walks that show it. No condition. -/
import Derived.Test.YtcflalomjehiiaaQFnExactTakeNextx0
import Derived.Test.YtcflalomjehiiaaQFnExactTakeNextx4
import Derived.Test.YtcflalomjehiiaaQFnExactTakeNextx5
namespace Go.Proofs.Ytcflalomjehiiaa.QFnExactTakeNext
open Go.RowKit Go.Proofs.YtcflalomjehiiaaW.PrintWords Go.Proofs.YtcflalomjehiiaaW.PrintLast Go.Proofs.YtcflalomjehiiaaW.PrintMore
attribute [local go_sem] max2_int min2_int max_two min_two max_three min_three max_four min_four   -- for this text's walks alone
set_option linter.unusedVariables false
set_option linter.unusedSimpArgs false

/-! ### spec_TakeFrame: function 60 -/
def spec_TakeFrame.f (k : Nat) (l0 : List Int) : Option (Int × Int × Int × Int × Int) := (spec_l02Begins.f k l0).bind fun t208 => (if t208 = true then (if (l0.length : Int) = 0 then (some (0, 0, 0, 0, 0)) else (if 0 < (l0.length : Int) then (if (l0.length : Int) < (wrap64 ((wrap64 (rd l0 0)) + 5)) then (some (0, 0, 0, 0, 0)) else (if 1 ≤ (wrap64 (1 + (wrap64 (rd l0 0)))) then (if (wrap64 (1 + (wrap64 (rd l0 0)))) ≤ (l0.length : Int) then ((spec_l02Body.f k ((l0.take ((wrap64 (1 + (wrap64 (rd l0 0)))) : Int).toNat).drop 1)).bind fun bt212 => (some (bt212.1, bt212.2.1, bt212.2.2.1, bt212.2.2.2.1, wrap64 ((wrap64 (rd l0 0)) + 5)))) else (none)) else (none))) else (none))) else (some (0, 0, 0, 0, (-1))))
theorem spec_TakeFrame.mono : ∀ a0 k, LeO (spec_TakeFrame.f k a0) (spec_TakeFrame.f (k + 1) a0) := by
 intro a0 k
 unfold spec_TakeFrame.f
 repeat' first
   | (with_reducible exact spec_l02Begins.mono _ _)
   | (with_reducible exact spec_l02Body.mono _ _)
   | (with_reducible exact LeO.refl _)
   | (with_reducible exact LeO.none _)
   | (with_reducible refine LeO.ite ?_ ?_)
   | (with_reducible refine LeO.bind ?_ (fun _ => ?_))
   | exact spec_l02Begins.mono _ _
   | exact spec_l02Body.mono _ _
   | exact LeO.none _
   | refine LeO.ite ?_ ?_
   | refine LeO.bind ?_ (fun _ => ?_)
set_option maxHeartbeats 8000000 in
set_option maxRecDepth 100000 in
theorem spec_TakeFrame.calls (k : Nat) (A0 : Option Addr) (c0 : Nat) (l0 : List Int) (r1 : Int) (r2 : Int) (r3 : Int) (r4 : Int) (r5 : Int) (w : World) (hr0 : Kd.C (Kd.int .u8) w A0 l0.length l0) (hc0 : l0.length ≤ c0) (h : spec_TakeFrame.f k l0 = some (r1, r2, r3, r4, r5)) :
  Calls Try.prog 60 #[.slice A0 l0.length c0] w fun e w' => e = .returned (.tuple #[.agg #[.int .i64 r1, .int .i64 r2, .int .i64 r3, .int .i64 r4], .int .i64 r5]) ∧ Below w.heap.size w w' := by
 have hu61 := Try.underlying61
 have HR0 := Aside0.mk hr0
 have HC0 := Aside0.mk hc0
 clear hr0 hc0
 have HB := am_ (Below.refl w.heap.size w)
 have H : ((spec_l02Begins.f k l0).bind fun t208 => (if t208 = true then (if (l0.length : Int) = 0 then (some (0, 0, 0, 0, 0)) else (if 0 < (l0.length : Int) then (if (l0.length : Int) < (wrap64 ((wrap64 (rd l0 0)) + 5)) then (some (0, 0, 0, 0, 0)) else (if 1 ≤ (wrap64 (1 + (wrap64 (rd l0 0)))) then (if (wrap64 (1 + (wrap64 (rd l0 0)))) ≤ (l0.length : Int) then ((spec_l02Body.f k ((l0.take ((wrap64 (1 + (wrap64 (rd l0 0)))) : Int).toNat).drop 1)).bind fun bt212 => (some (bt212.1, bt212.2.1, bt212.2.2.1, bt212.2.2.2.1, wrap64 ((wrap64 (rd l0 0)) + 5)))) else (none)) else (none))) else (none))) else (some (0, 0, 0, 0, (-1))))) = some (r1, r2, r3, r4, r5) := h
 clear h
 replace H := Option.bind_eq_some_iff.mp H
 obtain ⟨t208, A20, H⟩ := H
 replace H : (if t208 = true then (if (l0.length : Int) = 0 then (some (0, 0, 0, 0, 0)) else (if 0 < (l0.length : Int) then (if (l0.length : Int) < (wrap64 ((wrap64 (rd l0 0)) + 5)) then (some (0, 0, 0, 0, 0)) else (if 1 ≤ (wrap64 (1 + (wrap64 (rd l0 0)))) then (if (wrap64 (1 + (wrap64 (rd l0 0)))) ≤ (l0.length : Int) then ((spec_l02Body.f k ((l0.take ((wrap64 (1 + (wrap64 (rd l0 0)))) : Int).toNat).drop 1)).bind fun bt212 => (some (bt212.1, bt212.2.1, bt212.2.2.1, bt212.2.2.2.1, wrap64 ((wrap64 (rd l0 0)) + 5)))) else (none)) else (none))) else (none))) else (some (0, 0, 0, 0, (-1)))) = some (r1, r2, r3, r4, r5) := H
 have A2 := Aside0.mk A20
 clear A20
 by_cases c3 : t208 = true
 ·
  subst c3
  have H1 : (if (l0.length : Int) = 0 then (some (0, 0, 0, 0, 0)) else (if 0 < (l0.length : Int) then (if (l0.length : Int) < (wrap64 ((wrap64 (rd l0 0)) + 5)) then (some (0, 0, 0, 0, 0)) else (if 1 ≤ (wrap64 (1 + (wrap64 (rd l0 0)))) then (if (wrap64 (1 + (wrap64 (rd l0 0)))) ≤ (l0.length : Int) then ((spec_l02Body.f k ((l0.take ((wrap64 (1 + (wrap64 (rd l0 0)))) : Int).toNat).drop 1)).bind fun bt212 => (some (bt212.1, bt212.2.1, bt212.2.2.1, bt212.2.2.2.1, wrap64 ((wrap64 (rd l0 0)) + 5)))) else (none)) else (none))) else (none))) = some (r1, r2, r3, r4, r5) := by rw [if_pos rfl] at H; exact H
  clear H
  have H := H1
  clear H1
  by_cases c4 : (l0.length : Int) = 0
  ·
   rw [if_pos c4] at H
   have c4b0 : ((l0.length : Int) == 0) = true := beq_iff_eq.mpr c4
   have c4b1 : ((l0.length : Int) != 0) = false := bne_eq_false_iff_eq.mpr c4
   clear c4
   simp only [Option.some.injEq, Prod.mk.injEq] at H
   obtain ⟨rfl, rfl, rfl, rfl, rfl⟩ := H
   go_enter Try.func60, Try.ntmps60
   go_wp2_with (first | ((with_reducible refine gate_dst (N := 2) rfl ?_); (try (refine gate_guard (by rfl) ?_; dsimp only)); refine box_event ?hg (N := 2) ?hd (cs := #[.int .i64 0, .int .i64 0, .int .i64 0, .int .i64 0]) (t := 61) ?hr ?_; (case hd => rfl); (case hg => rfl); (case hr => first | (go_simp; done) | (go_simp; rfl)); intro gb207 hg w5 hbox hb; have n0_ := am_ (below_step (ue_ HB.out) hb); have n1_ := am_ (hbox); have n2_ := am_ ((by rw [hg]; exact (below_size (ue_ HB.out)) : w.heap.size ≤ gb207)); have n3_ := am_ ((by rw [hg]; exact (below_size (ue_ HB.out)) : w.heap.size ≤ gb207)); clear HB; have HB := n0_; have BK207 := n1_; have GW207 := n2_; have GE207 := n3_; clear n0_ n1_ n2_ n3_; clear hb hbox hg) | ((with_reducible refine gate_callee (f := 143) rfl ?_); refine goesL_ (some 8) rfl rfl Try.func143 (by kernel_rfl) rfl #[.slice A0 l0.length c0] rfl ul_ ?_; (with_reducible refine (spec_l02Begins.calls k _ _ l0 true _ ?side1 ?side2 A2.out).mono ?_); (case side1 => repeat (first | exact (Kd.C_below HR0.out HB.out) | (with_reducible refine Kd.C_alloc ?_ _) | (with_reducible refine Kd.C_drewN ?_ _) | (with_reducible refine Kd.C_drew ?_))); (case side2 => exact HC0.out); rintro e w6 ⟨rfl, hb⟩; refine ⟨_, rfl, ?_⟩; have n0_ := am_ (bb_ BK207.out hb); have n1_ := am_ (below_step (ue_ HB.out) hb); clear BK207 HB; have BK207 := n0_; have HB := n1_; clear n0_ n1_; (try clear hb); (try clear hb2); (try clear hk); (try clear hi); obtain ⟨hcz7_0, hcz7_1, hcz7_2, hcz7_3⟩ := cb4_ BK207.out; obtain ⟨hfz7_0, hfz7_1, hfz7_2⟩ := bf3_ BK207.out; have hfz7_3 := blk_frozen BK207.out 3) | ((with_reducible refine gate_store (t := 61) (p := 2) rfl ?_); refine store_event (t := 61) (p := 2) (v := ?vo_w8) (w1 := ((((w6.setCell ⟨gb207, 0, none⟩ (.int .i64 0)).setCell ⟨gb207, 1, none⟩ (.int .i64 0)).setCell ⟨gb207, 2, none⟩ (.int .i64 0)).setCell ⟨gb207, 3, none⟩ (.int .i64 0))) ?hg ?ho ?hn ?hr ?_; (case ho => rfl); (case hg => rfl); (case hn => rfl); (case hr => first | (go_simp; done) | (go_simp; rfl)); intro w8 hw; have n0_ : Aside0 (w8.heap[gb207]? = some (.cells #[.int .i64 0, .int .i64 0, .int .i64 0, .int .i64 0] 61 (0, 0))) := ⟨(by rw [hw]; exact (by (with_reducible repeat first|apply bn_|apply bd_|apply ba_); refine blk_put (cs := #[.int .i64 0, .int .i64 0, .int .i64 0, .int .i64 0]) ?_ 3 _ rfl; refine blk_put (cs := #[.int .i64 0, .int .i64 0, .int .i64 0, .int .i64 0]) ?_ 2 _ rfl; refine blk_put (cs := #[.int .i64 0, .int .i64 0, .int .i64 0, .int .i64 0]) ?_ 1 _ rfl; refine blk_put (cs := #[.int .i64 0, .int .i64 0, .int .i64 0, .int .i64 0]) ?_ 0 _ rfl; (with_reducible repeat first|apply bn_|apply bd_|apply ba_); exact BK207.out))⟩; have n1_ : Aside0 (Below w.heap.size w w8) := ⟨(by rw [hw]; exact (ue_ HB.out))⟩; clear hw BK207 HB; have BK207 := n0_; have HB := n1_; clear n0_ n1_))
   refine bodyPost_ret (results_ct rfl _ _ gb207 61 #[.int .i64 0, .int .i64 0, .int .i64 0, .int .i64 0] (0, 0) _ rfl (ub_ BK207.out) Try.underlying61 rfl (by kernel_rfl)) rfl ?_
   exact ⟨ew_, ue_ HB.out⟩
  ·
   rw [if_neg c4] at H
   have c4b0 : ((l0.length : Int) == 0) = false := beq_eq_false_iff_ne.mpr c4
   have c4b1 : ((l0.length : Int) != 0) = true := bne_iff_ne.mpr c4
   have c4b2 : ¬ (l0 = []) := fun h_ => c4 (by rw [h_]; rfl)
   by_cases c9 : 0 < (l0.length : Int)
   ·
    rw [if_pos c9] at H
    have c9b0 : decide (0 < (l0.length : Int)) = true := decide_eq_true c9
    have c9b1 : decide (0 < l0.length) = true := decide_eq_true (by omega)
    clear c9
    by_cases c10 : (l0.length : Int) < (wrap64 ((wrap64 (rd l0 0)) + 5))
    ·
     rw [if_pos c10] at H
     have c10b0 : decide ((l0.length : Int) < (wrap64 ((wrap64 (rd l0 0)) + 5))) = true := decide_eq_true c10
     clear c10
     simp only [Option.some.injEq, Prod.mk.injEq] at H
     obtain ⟨rfl, rfl, rfl, rfl, rfl⟩ := H
     go_enter Try.func60, Try.ntmps60
     go_wp2_with (first | ((with_reducible refine gate_dst (N := 2) rfl ?_); (try (refine gate_guard (by rfl) ?_; dsimp only)); refine box_event ?hg (N := 2) ?hd (cs := #[.int .i64 0, .int .i64 0, .int .i64 0, .int .i64 0]) (t := 61) ?hr ?_; (case hd => rfl); (case hg => rfl); (case hr => first | (go_simp; done) | (go_simp; rfl)); intro gb207 hg w11 hbox hb; have n0_ := am_ (below_step (ue_ HB.out) hb); have n1_ := am_ (hbox); have n2_ := am_ ((by rw [hg]; exact (below_size (ue_ HB.out)) : w.heap.size ≤ gb207)); have n3_ := am_ ((by rw [hg]; exact (below_size (ue_ HB.out)) : w.heap.size ≤ gb207)); clear HB; have HB := n0_; have BK207 := n1_; have GW207 := n2_; have GE207 := n3_; clear n0_ n1_ n2_ n3_; clear hb hbox hg) | ((with_reducible refine gate_callee (f := 143) rfl ?_); refine goesL_ (some 8) rfl rfl Try.func143 (by kernel_rfl) rfl #[.slice A0 l0.length c0] rfl ul_ ?_; (with_reducible refine (spec_l02Begins.calls k _ _ l0 true _ ?side1 ?side2 A2.out).mono ?_); (case side1 => repeat (first | exact (Kd.C_below HR0.out HB.out) | (with_reducible refine Kd.C_alloc ?_ _) | (with_reducible refine Kd.C_drewN ?_ _) | (with_reducible refine Kd.C_drew ?_))); (case side2 => exact HC0.out); rintro e w12 ⟨rfl, hb⟩; refine ⟨_, rfl, ?_⟩; have n0_ := am_ (bb_ BK207.out hb); have n1_ := am_ (below_step (ue_ HB.out) hb); clear BK207 HB; have BK207 := n0_; have HB := n1_; clear n0_ n1_; (try clear hb); (try clear hb2); (try clear hk); (try clear hi); have p209 : 0 ≤ (0 : Int) := (by omega); have q209 : 0 < (l0.length : Int) := of_decide_eq_true ua_; obtain ⟨ad209, e209, hx209_0⟩ := Kd.at_int HR0.out 0 p209 q209; cases e209; have qi209 : (0 < l0.length) = True := eq_true (by omega); (try rw [show ((0 : Int)).toNat = 0 from rfl] at hx209_0); (try rw [Addr.add_zero'] at hx209_0); replace hx209_0 := bc_ HB.out hx209_0; replace p209 := eq_true p209; replace q209 := eq_true q209; obtain ⟨hcz13_0, hcz13_1, hcz13_2, hcz13_3⟩ := cb4_ BK207.out; obtain ⟨hfz13_0, hfz13_1, hfz13_2⟩ := bf3_ BK207.out; have hfz13_3 := blk_frozen BK207.out 3) | ((with_reducible refine gate_store (t := 61) (p := 2) rfl ?_); refine store_event (t := 61) (p := 2) (v := ?vo_w14) (w1 := ((((w12.setCell ⟨gb207, 0, none⟩ (.int .i64 0)).setCell ⟨gb207, 1, none⟩ (.int .i64 0)).setCell ⟨gb207, 2, none⟩ (.int .i64 0)).setCell ⟨gb207, 3, none⟩ (.int .i64 0))) ?hg ?ho ?hn ?hr ?_; (case ho => rfl); (case hg => rfl); (case hn => rfl); (case hr => first | (go_simp; done) | (go_simp; rfl)); intro w14 hw; have n0_ : Aside0 (w14.heap[gb207]? = some (.cells #[.int .i64 0, .int .i64 0, .int .i64 0, .int .i64 0] 61 (0, 0))) := ⟨(by rw [hw]; exact (by (with_reducible repeat first|apply bn_|apply bd_|apply ba_); refine blk_put (cs := #[.int .i64 0, .int .i64 0, .int .i64 0, .int .i64 0]) ?_ 3 _ rfl; refine blk_put (cs := #[.int .i64 0, .int .i64 0, .int .i64 0, .int .i64 0]) ?_ 2 _ rfl; refine blk_put (cs := #[.int .i64 0, .int .i64 0, .int .i64 0, .int .i64 0]) ?_ 1 _ rfl; refine blk_put (cs := #[.int .i64 0, .int .i64 0, .int .i64 0, .int .i64 0]) ?_ 0 _ rfl; (with_reducible repeat first|apply bn_|apply bd_|apply ba_); exact BK207.out))⟩; have n1_ : Aside0 (Below w.heap.size w w14) := ⟨(by rw [hw]; exact (ue_ HB.out))⟩; clear hw BK207 HB; have BK207 := n0_; have HB := n1_; clear n0_ n1_))
     refine bodyPost_ret (results_ct rfl _ _ gb207 61 #[.int .i64 0, .int .i64 0, .int .i64 0, .int .i64 0] (0, 0) _ rfl (ub_ BK207.out) Try.underlying61 rfl (by kernel_rfl)) rfl ?_
     exact ⟨ew_, ue_ HB.out⟩
    ·
     rw [if_neg c10] at H
     have c10b0 : decide ((l0.length : Int) < (wrap64 ((wrap64 (rd l0 0)) + 5))) = false := decide_eq_false c10
     clear c10
     by_cases c15 : 1 ≤ (wrap64 (1 + (wrap64 (rd l0 0))))
     ·
      rw [if_pos c15] at H
      have c15b0 := eq_true c15
      have c15b1 : decide (1 ≤ (wrap64 (1 + (wrap64 (rd l0 0))))) = true := decide_eq_true c15
      by_cases c16 : (wrap64 (1 + (wrap64 (rd l0 0)))) ≤ (l0.length : Int)
      ·
       rw [if_pos c16] at H
       have c16b0 := eq_true c16
       have c16b1 : decide ((wrap64 (1 + (wrap64 (rd l0 0)))) ≤ (l0.length : Int)) = true := decide_eq_true c16
       replace H := Option.bind_eq_some_iff.mp H
       obtain ⟨⟨t212, t213, t214, t215, t216⟩, A170, H⟩ := H
       replace H : (some (t212, t213, t214, t215, wrap64 ((wrap64 (rd l0 0)) + 5))) = some (r1, r2, r3, r4, r5) := H
       have A17 := Aside0.mk A170
       clear A170
       simp only [Option.some.injEq, Prod.mk.injEq] at H
       obtain ⟨rfl, rfl, rfl, rfl, rfl⟩ := H
       go_enter Try.func60, Try.ntmps60
       go_wp2_with (first | ((with_reducible refine gate_dst (N := 2) rfl ?_); (try (refine gate_guard (by rfl) ?_; dsimp only)); refine box_event ?hg (N := 2) ?hd (cs := #[.int .i64 0, .int .i64 0, .int .i64 0, .int .i64 0]) (t := 61) ?hr ?_; (case hd => rfl); (case hg => rfl); (case hr => first | (go_simp; done) | (go_simp; rfl)); intro gb207 hg w18 hbox hb; have n0_ := am_ (below_step (ue_ HB.out) hb); have n1_ := am_ (hbox); have n2_ := am_ ((by rw [hg]; exact (below_size (ue_ HB.out)) : w.heap.size ≤ gb207)); have n3_ := am_ ((by rw [hg]; exact (below_size (ue_ HB.out)) : w.heap.size ≤ gb207)); clear HB; have HB := n0_; have BK207 := n1_; have GW207 := n2_; have GE207 := n3_; clear n0_ n1_ n2_ n3_; clear hb hbox hg) | ((with_reducible refine gate_callee (f := 143) rfl ?_); refine goesL_ (some 8) rfl rfl Try.func143 (by kernel_rfl) rfl #[.slice A0 l0.length c0] rfl ul_ ?_; (with_reducible refine (spec_l02Begins.calls k _ _ l0 true _ ?side1 ?side2 A2.out).mono ?_); (case side1 => repeat (first | exact (Kd.C_below HR0.out HB.out) | (with_reducible refine Kd.C_alloc ?_ _) | (with_reducible refine Kd.C_drewN ?_ _) | (with_reducible refine Kd.C_drew ?_))); (case side2 => exact HC0.out); rintro e w19 ⟨rfl, hb⟩; refine ⟨_, rfl, ?_⟩; have n0_ := am_ (bb_ BK207.out hb); have n1_ := am_ (below_step (ue_ HB.out) hb); clear BK207 HB; have BK207 := n0_; have HB := n1_; clear n0_ n1_; (try clear hb); (try clear hb2); (try clear hk); (try clear hi); have p209 : 0 ≤ (0 : Int) := (by omega); have q209 : 0 < (l0.length : Int) := of_decide_eq_true ua_; obtain ⟨ad209, e209, hx209_0⟩ := Kd.at_int HR0.out 0 p209 q209; cases e209; have qi209 : (0 < l0.length) = True := eq_true (by omega); (try rw [show ((0 : Int)).toNat = 0 from rfl] at hx209_0); (try rw [Addr.add_zero'] at hx209_0); replace hx209_0 := bc_ HB.out hx209_0; replace p209 := eq_true p209; replace q209 := eq_true q209; have p210 : 0 ≤ (0 : Int) := (by omega); have q210 : 0 < (l0.length : Int) := of_decide_eq_true ua_; obtain ⟨ad210, e210, hx210_0⟩ := Kd.at_int HR0.out 0 p210 q210; obtain rfl : ad209 = ad210 := (by injection e210); have qi210 : (0 < l0.length) = True := eq_true (by omega); (try rw [show ((0 : Int)).toNat = 0 from rfl] at hx210_0); (try rw [Addr.add_zero'] at hx210_0); replace hx210_0 := bc_ HB.out hx210_0; replace p210 := eq_true p210; replace q210 := eq_true q210; obtain ⟨i020, hi020, _, hsz20, _⟩ := info_parts info5; obtain ⟨A20, hcut20, hA20, hC20⟩ := print_mid_of (P := Try.prog) (Value.int .u8) 0 49 5 .i64 .i64 Try.underlying49 hi020 hsz20 (some ad209) c0 l0 1 (wrap64 (1 + (wrap64 (rd l0 0)))) (by omega) (by first | omega | exact of_decide_eq_true ua_) (of_decide_eq_true ua_) HC0.out; have HR211 := am_ (Kd.C_of_reads (h1 := fun _ => rfl) (hA20 _ (Kd.reads_of_C HR0.out))); have HC211 := Aside0.mk hC20; clear hA20 hC20 hi020 hsz20) | ((with_reducible refine gate_callee (f := 144) rfl ?_); refine goesL_ (some 34) rfl rfl Try.func144 (by kernel_rfl) rfl #[.slice A20 ((l0.take ((wrap64 (1 + (wrap64 (rd l0 0)))) : Int).toNat).drop 1).length (c0 - 1)] rfl (by (try simp only [List.map_toArray, List.map_cons, List.map_nil]); first | done | (rw [show ((l0.take ((wrap64 (1 + (wrap64 (rd l0 0)))) : Int).toNat).drop 1).length = ((wrap64 (1 + (wrap64 (rd l0 0)))).toNat - 1) from (by rw [List.length_drop, List.length_take]; have h_ : ((wrap64 (1 + (wrap64 (rd l0 0)))) : Int) ≤ (l0.length : Int) := of_decide_eq_true ua_; omega)] <;> rfl) | rfl | (simp only [List.length_drop, List.length_take]; rfl)) ?_; (with_reducible refine (spec_l02Body.calls k _ _ ((l0.take ((wrap64 (1 + (wrap64 (rd l0 0)))) : Int).toNat).drop 1) t212 t213 t214 t215 t216 _ ?side1 ?side2 A17.out).mono ?_); (case side1 => repeat (first | exact (Kd.C_below HR211.out HB.out) | (with_reducible refine Kd.C_alloc ?_ _) | (with_reducible refine Kd.C_drewN ?_ _) | (with_reducible refine Kd.C_drew ?_))); (case side2 => exact HC211.out); rintro e w21 ⟨rfl, hb⟩; refine ⟨_, rfl, ?_⟩; have n0_ := am_ (bb_ BK207.out hb); have n1_ := am_ (below_step (ue_ HB.out) hb); clear BK207 HB; have BK207 := n0_; have HB := n1_; clear n0_ n1_; (try clear hb); (try clear hb2); (try clear hk); (try clear hi)) | ((with_reducible refine gate_dst (N := 5) rfl ?_); (try (refine gate_guard (by rfl) ?_; dsimp only)); refine box_event ?hg (N := 5) ?hd (cs := #[.int .i64 0, .int .i64 0, .int .i64 0, .int .i64 0]) (t := 61) ?hr ?_; (case hd => rfl); (case hg => rfl); (case hr => first | (go_simp; done) | (go_simp; rfl)); intro gb217 hg w22 hbox hb; have n0_ := am_ (bb_ BK207.out hb); have n1_ := am_ (below_step (ue_ HB.out) hb); have n2_ := am_ (hbox); have n3_ := am_ ((by rw [hg]; exact (below_size (ue_ HB.out)) : w.heap.size ≤ gb217)); have n4_ := am_ ((by rw [hg]; exact (below_size (ue_ HB.out)) : w.heap.size ≤ gb217)); have n5_ := am_ ((by rw [hg]; exact Nat.ne_of_lt (bl_ BK207.out) : gb207 ≠ gb217)); have n6_ := am_ ((by rw [hg]; exact Nat.ne_of_gt (bl_ BK207.out) : gb217 ≠ gb207)); clear BK207 HB; have BK207 := n0_; have HB := n1_; have BK217 := n2_; have GW217 := n3_; have GE217 := n4_; have NB207_217 := n5_; have NB217_207 := n6_; clear n0_ n1_ n2_ n3_ n4_ n5_ n6_; clear hb hbox hg; have hnb23 := NB217_207.out; have hnc23 := NB207_217.out; obtain ⟨hcz24_0, hcz24_1, hcz24_2, hcz24_3⟩ := cb4_ BK217.out; obtain ⟨hfz24_0, hfz24_1, hfz24_2⟩ := bf3_ BK217.out; have hfz24_3 := blk_frozen BK217.out 3) | ((with_reducible refine gate_store (t := 61) (p := 5) rfl ?_); refine store_event (t := 61) (p := 5) (v := ?vo_w25) (w1 := ((((w22.setCell ⟨gb217, 0, none⟩ (.int .i64 t212)).setCell ⟨gb217, 1, none⟩ (.int .i64 t213)).setCell ⟨gb217, 2, none⟩ (.int .i64 t214)).setCell ⟨gb217, 3, none⟩ (.int .i64 t215))) ?hg ?ho ?hn ?hr ?_; (case ho => rfl); (case hg => rfl); (case hn => rfl); (case hr => first | (go_simp; done) | (go_simp; rfl)); intro w25 hw; have n0_ : Aside0 (w25.heap[gb207]? = some (.cells #[.int .i64 0, .int .i64 0, .int .i64 0, .int .i64 0] 61 (0, 0))) := ⟨(by rw [hw]; exact (uf_ BK207.out))⟩; have n1_ : Aside0 (w25.heap[gb217]? = some (.cells #[.int .i64 t212, .int .i64 t213, .int .i64 t214, .int .i64 t215] 61 (0, 0))) := ⟨(by rw [hw]; exact (by (with_reducible repeat first|apply bn_|apply bd_|apply ba_); refine blk_put (cs := #[.int .i64 t212, .int .i64 t213, .int .i64 t214, .int .i64 0]) ?_ 3 _ rfl; refine blk_put (cs := #[.int .i64 t212, .int .i64 t213, .int .i64 0, .int .i64 0]) ?_ 2 _ rfl; refine blk_put (cs := #[.int .i64 t212, .int .i64 0, .int .i64 0, .int .i64 0]) ?_ 1 _ rfl; refine blk_put (cs := #[.int .i64 0, .int .i64 0, .int .i64 0, .int .i64 0]) ?_ 0 _ rfl; (with_reducible repeat first|apply bn_|apply bd_|apply ba_); exact BK217.out))⟩; have n2_ : Aside0 (Below w.heap.size w w25) := ⟨(by rw [hw]; exact (ue_ HB.out))⟩; clear hw BK207 BK217 HB; have BK207 := n0_; have BK217 := n1_; have HB := n2_; clear n0_ n1_ n2_; obtain ⟨hcz26_0, hcz26_1, hcz26_2, hcz26_3⟩ := cb4_ BK217.out; obtain ⟨hfz26_0, hfz26_1, hfz26_2, hfz26_3⟩ := bf4_ BK217.out; obtain ⟨hcz27_0, hcz27_1, hcz27_2, hcz27_3⟩ := cb4_ BK207.out; obtain ⟨hfz27_0, hfz27_1, hfz27_2⟩ := bf3_ BK207.out; have hfz27_3 := blk_frozen BK207.out 3) | ((with_reducible refine gate_store (t := 61) (p := 2) rfl ?_); refine store_event (t := 61) (p := 2) (v := ?vo_w28) (w1 := ((((w25.setCell ⟨gb207, 0, none⟩ (.int .i64 t212)).setCell ⟨gb207, 1, none⟩ (.int .i64 t213)).setCell ⟨gb207, 2, none⟩ (.int .i64 t214)).setCell ⟨gb207, 3, none⟩ (.int .i64 t215))) ?hg ?ho ?hn ?hr ?_; (case ho => rfl); (case hg => rfl); (case hn => rfl); (case hr => first | (go_simp; done) | (go_simp; rfl)); intro w28 hw; have n0_ : Aside0 (w28.heap[gb207]? = some (.cells #[.int .i64 t212, .int .i64 t213, .int .i64 t214, .int .i64 t215] 61 (0, 0))) := ⟨(by rw [hw]; exact (by (with_reducible repeat first|apply bn_|apply bd_|apply ba_); refine blk_put (cs := #[.int .i64 t212, .int .i64 t213, .int .i64 t214, .int .i64 0]) ?_ 3 _ rfl; refine blk_put (cs := #[.int .i64 t212, .int .i64 t213, .int .i64 0, .int .i64 0]) ?_ 2 _ rfl; refine blk_put (cs := #[.int .i64 t212, .int .i64 0, .int .i64 0, .int .i64 0]) ?_ 1 _ rfl; refine blk_put (cs := #[.int .i64 0, .int .i64 0, .int .i64 0, .int .i64 0]) ?_ 0 _ rfl; (with_reducible repeat first|apply bn_|apply bd_|apply ba_); exact BK207.out))⟩; have n1_ : Aside0 (w28.heap[gb217]? = some (.cells #[.int .i64 t212, .int .i64 t213, .int .i64 t214, .int .i64 t215] 61 (0, 0))) := ⟨(by rw [hw]; exact (uf_ BK217.out))⟩; have n2_ : Aside0 (Below w.heap.size w w28) := ⟨(by rw [hw]; exact (ue_ HB.out))⟩; clear hw BK207 BK217 HB; have BK207 := n0_; have BK217 := n1_; have HB := n2_; clear n0_ n1_ n2_))
       refine bodyPost_ret (results_ct rfl _ _ gb207 61 #[.int .i64 t212, .int .i64 t213, .int .i64 t214, .int .i64 t215] (0, 0) _ rfl (ub_ BK207.out) Try.underlying61 rfl (by kernel_rfl)) rfl ?_
       exact ⟨ew_, ue_ HB.out⟩
      ·
       rw [if_neg c16] at H
       exact absurd H (by simp)
     ·
      rw [if_neg c15] at H
      exact absurd H (by simp)
   ·
    rw [if_neg c9] at H
    exact absurd H (by simp)
 ·
  replace c3 := Bool.eq_false_iff.mpr c3
  subst c3
  have H1 : (some (0, 0, 0, 0, (-1))) = some (r1, r2, r3, r4, r5) := by rw [if_neg (show ¬ (false = true) by decide)] at H; exact H
  clear H
  have H := H1
  clear H1
  simp only [Option.some.injEq, Prod.mk.injEq] at H
  obtain ⟨rfl, rfl, rfl, rfl, rfl⟩ := H
  go_enter Try.func60, Try.ntmps60
  go_wp2_with (first | ((with_reducible refine gate_dst (N := 2) rfl ?_); (try (refine gate_guard (by rfl) ?_; dsimp only)); refine box_event ?hg (N := 2) ?hd (cs := #[.int .i64 0, .int .i64 0, .int .i64 0, .int .i64 0]) (t := 61) ?hr ?_; (case hd => rfl); (case hg => rfl); (case hr => first | (go_simp; done) | (go_simp; rfl)); intro gb207 hg w29 hbox hb; have n0_ := am_ (below_step (ue_ HB.out) hb); have n1_ := am_ (hbox); have n2_ := am_ ((by rw [hg]; exact (below_size (ue_ HB.out)) : w.heap.size ≤ gb207)); have n3_ := am_ ((by rw [hg]; exact (below_size (ue_ HB.out)) : w.heap.size ≤ gb207)); clear HB; have HB := n0_; have BK207 := n1_; have GW207 := n2_; have GE207 := n3_; clear n0_ n1_ n2_ n3_; clear hb hbox hg) | ((with_reducible refine gate_callee (f := 143) rfl ?_); refine goesL_ (some 8) rfl rfl Try.func143 (by kernel_rfl) rfl #[.slice A0 l0.length c0] rfl ul_ ?_; (with_reducible refine (spec_l02Begins.calls k _ _ l0 false _ ?side1 ?side2 A2.out).mono ?_); (case side1 => repeat (first | exact (Kd.C_below HR0.out HB.out) | (with_reducible refine Kd.C_alloc ?_ _) | (with_reducible refine Kd.C_drewN ?_ _) | (with_reducible refine Kd.C_drew ?_))); (case side2 => exact HC0.out); rintro e w30 ⟨rfl, hb⟩; refine ⟨_, rfl, ?_⟩; have n0_ := am_ (bb_ BK207.out hb); have n1_ := am_ (below_step (ue_ HB.out) hb); clear BK207 HB; have BK207 := n0_; have HB := n1_; clear n0_ n1_; (try clear hb); (try clear hb2); (try clear hk); (try clear hi); obtain ⟨hcz31_0, hcz31_1, hcz31_2, hcz31_3⟩ := cb4_ BK207.out; obtain ⟨hfz31_0, hfz31_1, hfz31_2⟩ := bf3_ BK207.out; have hfz31_3 := blk_frozen BK207.out 3) | ((with_reducible refine gate_store (t := 61) (p := 2) rfl ?_); refine store_event (t := 61) (p := 2) (v := ?vo_w32) (w1 := ((((w30.setCell ⟨gb207, 0, none⟩ (.int .i64 0)).setCell ⟨gb207, 1, none⟩ (.int .i64 0)).setCell ⟨gb207, 2, none⟩ (.int .i64 0)).setCell ⟨gb207, 3, none⟩ (.int .i64 0))) ?hg ?ho ?hn ?hr ?_; (case ho => rfl); (case hg => rfl); (case hn => rfl); (case hr => first | (go_simp; done) | (go_simp; rfl)); intro w32 hw; have n0_ : Aside0 (w32.heap[gb207]? = some (.cells #[.int .i64 0, .int .i64 0, .int .i64 0, .int .i64 0] 61 (0, 0))) := ⟨(by rw [hw]; exact (by (with_reducible repeat first|apply bn_|apply bd_|apply ba_); refine blk_put (cs := #[.int .i64 0, .int .i64 0, .int .i64 0, .int .i64 0]) ?_ 3 _ rfl; refine blk_put (cs := #[.int .i64 0, .int .i64 0, .int .i64 0, .int .i64 0]) ?_ 2 _ rfl; refine blk_put (cs := #[.int .i64 0, .int .i64 0, .int .i64 0, .int .i64 0]) ?_ 1 _ rfl; refine blk_put (cs := #[.int .i64 0, .int .i64 0, .int .i64 0, .int .i64 0]) ?_ 0 _ rfl; (with_reducible repeat first|apply bn_|apply bd_|apply ba_); exact BK207.out))⟩; have n1_ : Aside0 (Below w.heap.size w w32) := ⟨(by rw [hw]; exact (ue_ HB.out))⟩; clear hw BK207 HB; have BK207 := n0_; have HB := n1_; clear n0_ n1_))
  refine bodyPost_ret (results_ct rfl _ _ gb207 61 #[.int .i64 0, .int .i64 0, .int .i64 0, .int .i64 0] (0, 0) _ rfl (ub_ BK207.out) Try.underlying61 rfl (by kernel_rfl)) rfl ?_
  exact ⟨ew_, ue_ HB.out⟩

/-! ### spec_DecoderOk: function 149 -/
def spec_DecoderOk.f (l0_0 : List Int) (a0_1 : Bool) : Option (Bool) := if (l0_0.length : Int) ≤ 400 then (if a0_1 = true then (some ((l0_0.length : Int) == 0)) else (some true)) else (some false)
set_option maxHeartbeats 8000000 in
set_option maxRecDepth 100000 in
theorem spec_DecoderOk.calls (A0_0 : Option Addr) (c0_0 : Nat) (l0_0 : List Int) (a0_1 : Bool) (r : Bool) (w : World) (hr0_0 : Kd.C (Kd.int .u8) w A0_0 l0_0.length l0_0) (hc0_0 : l0_0.length ≤ c0_0) (h : spec_DecoderOk.f l0_0 a0_1 = some r) :
  Calls Try.prog 149 #[.agg #[.slice A0_0 l0_0.length c0_0, .bool a0_1]] w fun e w' => e = .returned (.bool r) ∧ Below w.heap.size w w' := by
 have hu102 := Try.underlying102
 have HR0_0 := Aside0.mk hr0_0
 have HC0_0 := Aside0.mk hc0_0
 clear hr0_0 hc0_0
 have HB := am_ (Below.refl w.heap.size w)
 have H : (if (l0_0.length : Int) ≤ 400 then (if a0_1 = true then (some ((l0_0.length : Int) == 0)) else (some true)) else (some false)) = some r := h
 clear h
 by_cases c2 : (l0_0.length : Int) ≤ 400
 ·
  rw [if_pos c2] at H
  have c2b0 : decide ((l0_0.length : Int) ≤ 400) = true := decide_eq_true c2
  have c2b1 : decide (l0_0.length ≤ 400) = true := decide_eq_true (by omega)
  clear c2
  by_cases c3 : a0_1 = true
  ·
   subst c3
   have H1 : (some ((l0_0.length : Int) == 0)) = some r := by rw [if_pos rfl] at H; exact H
   clear H
   have H := H1
   clear H1
   obtain rfl := Option.some.inj H
   go_enter Try.func149, Try.ntmps149
   go_wp2_with (first | ((with_reducible refine gate_dst (N := 1) rfl ?_); (try (refine gate_guard (by rfl) ?_; dsimp only)); refine box_event ?hg (N := 1) ?hd (cs := #[.slice A0_0 l0_0.length c0_0, .bool true]) (t := 102) ?hr ?_; (case hd => rfl); (case hg => rfl); (case hr => first | (go_simp; done) | (go_simp; rfl)); intro gb218 hg w4 hbox hb; have n0_ := am_ (below_step (ue_ HB.out) hb); have n1_ := am_ (hbox); have n2_ := am_ ((by rw [hg]; exact (below_size (ue_ HB.out)) : w.heap.size ≤ gb218)); have n3_ := am_ ((by rw [hg]; exact (below_size (ue_ HB.out)) : w.heap.size ≤ gb218)); clear HB; have HB := n0_; have BK218 := n1_; have GW218 := n2_; have GE218 := n3_; clear n0_ n1_ n2_ n3_; clear hb hbox hg; obtain ⟨hcz5_0, hcz5_1⟩ := cb2_ BK218.out; have hfz5_0 := blk_frozen BK218.out 0; have hfz5_1 := blk_frozen BK218.out 1))
   go_ret
   exact ⟨ew_, ue_ HB.out⟩
  ·
   replace c3 := Bool.eq_false_iff.mpr c3
   subst c3
   have H1 : (some true) = some r := by rw [if_neg (show ¬ (false = true) by decide)] at H; exact H
   clear H
   have H := H1
   clear H1
   obtain rfl := Option.some.inj H
   go_enter Try.func149, Try.ntmps149
   go_wp2_with (first | ((with_reducible refine gate_dst (N := 1) rfl ?_); (try (refine gate_guard (by rfl) ?_; dsimp only)); refine box_event ?hg (N := 1) ?hd (cs := #[.slice A0_0 l0_0.length c0_0, .bool false]) (t := 102) ?hr ?_; (case hd => rfl); (case hg => rfl); (case hr => first | (go_simp; done) | (go_simp; rfl)); intro gb218 hg w6 hbox hb; have n0_ := am_ (below_step (ue_ HB.out) hb); have n1_ := am_ (hbox); have n2_ := am_ ((by rw [hg]; exact (below_size (ue_ HB.out)) : w.heap.size ≤ gb218)); have n3_ := am_ ((by rw [hg]; exact (below_size (ue_ HB.out)) : w.heap.size ≤ gb218)); clear HB; have HB := n0_; have BK218 := n1_; have GW218 := n2_; have GE218 := n3_; clear n0_ n1_ n2_ n3_; clear hb hbox hg; obtain ⟨hcz7_0, hcz7_1⟩ := cb2_ BK218.out; have hfz7_0 := blk_frozen BK218.out 0; have hfz7_1 := blk_frozen BK218.out 1))
   go_ret
   exact ⟨ew_, ue_ HB.out⟩
 ·
  rw [if_neg c2] at H
  have c2b0 : decide ((l0_0.length : Int) ≤ 400) = false := decide_eq_false c2
  have c2b1 : decide (l0_0.length ≤ 400) = false := decide_eq_false (by omega)
  clear c2
  obtain rfl := Option.some.inj H
  go_enter Try.func149, Try.ntmps149
  go_wp2_with (first | ((with_reducible refine gate_dst (N := 1) rfl ?_); (try (refine gate_guard (by rfl) ?_; dsimp only)); refine box_event ?hg (N := 1) ?hd (cs := #[.slice A0_0 l0_0.length c0_0, .bool a0_1]) (t := 102) ?hr ?_; (case hd => rfl); (case hg => rfl); (case hr => first | (go_simp; done) | (go_simp; rfl)); intro gb218 hg w8 hbox hb; have n0_ := am_ (below_step (ue_ HB.out) hb); have n1_ := am_ (hbox); have n2_ := am_ ((by rw [hg]; exact (below_size (ue_ HB.out)) : w.heap.size ≤ gb218)); have n3_ := am_ ((by rw [hg]; exact (below_size (ue_ HB.out)) : w.heap.size ≤ gb218)); clear HB; have HB := n0_; have BK218 := n1_; have GW218 := n2_; have GE218 := n3_; clear n0_ n1_ n2_ n3_; clear hb hbox hg; obtain ⟨hcz9_0, hcz9_1⟩ := cb2_ BK218.out; have hfz9_0 := blk_frozen BK218.out 0; have hfz9_1 := blk_frozen BK218.out 1))
  go_ret
  exact ⟨ew_, ue_ HB.out⟩

/-! ### spec_l02Bytes: function 151 -/
def spec_l02Bytes.l0 : Nat → List Int → List Int → Int → Option (List Int)
 | 0, _, _, _ => none
 | k + 1, x0, x3, x4 => if x4 < (x0.length : Int) then (if 0 ≤ x4 then (if x3.length < 140737488355328 then (spec_l02Bytes.l0 k x0 (x3 ++ [rd x0 x4]) (wrap64 (x4 + 1))) else (none)) else (none)) else (some x3)
def spec_l02Bytes.f (k : Nat) (l0 : List Int) : Option (List Int) := spec_l02Bytes.l0 k l0 (([] : List Int)) 0
theorem spec_l02Bytes.mono_l : ∀ k, (∀ y0 y1 y2, LeO (spec_l02Bytes.l0 k y0 y1 y2) (spec_l02Bytes.l0 (k + 1) y0 y1 y2))
 | 0 => fun _ _ _ r h => by simp [spec_l02Bytes.l0] at h
 | k + 1 => by
  have ih0 := spec_l02Bytes.mono_l k
  ·
   intro y0 y1 y2
   unfold spec_l02Bytes.l0
   repeat' first
   | (with_reducible exact ih0 _ _ _)
   | (with_reducible exact LeO.refl _)
   | (with_reducible exact LeO.none _)
   | (with_reducible refine LeO.ite ?_ ?_)
   | (with_reducible refine LeO.bind ?_ (fun _ => ?_))
   | exact ih0 _ _ _
   | exact LeO.none _
   | refine LeO.ite ?_ ?_
   | refine LeO.bind ?_ (fun _ => ?_)
theorem spec_l02Bytes.mono : ∀ a0 k, LeO (spec_l02Bytes.f k a0) (spec_l02Bytes.f (k + 1) a0) := by
 intro a0 k
 have ih0 := spec_l02Bytes.mono_l k
 unfold spec_l02Bytes.f
 repeat' first
   | (with_reducible exact ih0 _ _ _)
   | (with_reducible exact LeO.refl _)
   | (with_reducible exact LeO.none _)
   | (with_reducible refine LeO.ite ?_ ?_)
   | (with_reducible refine LeO.bind ?_ (fun _ => ?_))
   | exact ih0 _ _ _
   | exact LeO.none _
   | refine LeO.ite ?_ ?_
   | refine LeO.bind ?_ (fun _ => ?_)
set_option maxHeartbeats 8000000 in
set_option maxRecDepth 100000 in
theorem spec_l02Bytes.calls (k : Nat) (A0 : Option Addr) (c0 : Nat) (l0 : List Int) (r : List Int) (w : World) (hr0 : Kd.C (Kd.int .u8) w A0 l0.length l0) (hc0 : l0.length ≤ c0) (h : spec_l02Bytes.f k l0 = some r) :
  Calls Try.prog 151 #[.slice A0 l0.length c0] w fun e w' => ∃ v0_ : Value, e = .returned (v0_) ∧ Kd.R (Kd.int .u8) 5 w' w.heap.size (fun _ => True) v0_ r ∧ Below w.heap.size w w' := by
 have HR0 := Aside0.mk hr0
 have HC0 := Aside0.mk hc0
 clear hr0 hc0
 have HB := am_ (Below.refl w.heap.size w)
 have H : (spec_l02Bytes.l0 k l0 (([] : List Int)) 0) = some r := h
 clear h
 obtain ⟨y219, hy219⟩ : ∃ y_ : List Int, y_ = (([] : List Int)) := ⟨_, rfl⟩
 replace H : (spec_l02Bytes.l0 k l0 y219 0) = some r := by first | (rw [hy219]; with_reducible exact H) | (have H2_ := (Option.bind_some _ _).symm.trans H; rw [hy219]; with_reducible exact H2_) | (have H2_ := (Option.bind_some _ _).symm.trans H; with_reducible exact H2_) | with_reducible exact H | (rw [hy219]; exact H) | exact H
 have Ny219 := Aside0.mk hy219
 clear hy219
 have H' := Aside0.mk H
 clear H
 go_enter Try.func151, Try.ntmps151
 go_wp2_with (first | ((with_reducible refine gate_dst (N := 5) rfl ?_); refine Kd.R_lit (Kd.int .u8) _ 5 ?hg (N := 5) ?hd (xs := ([] : List Int)) (inner := []) (ok := fun _ => True) (okp := fun _ => True) ?hr ?hp (fun _ hk => hk) trivial (Below.refl _ _) (Nat.le_refl _) (by simp) ?_; (case hd => rfl); (case hg => rfl); (case hr => first | (go_simp; done) | (go_simp; rfl)); (case hp => exact (Reps.none _ _)); intro v220 w2 ho3 hb hg_ hnew_; clear hg_ hnew_; (first | rw [← Ny219.out] at ho3 | (simp only [Int.reduceToNat] at ho3; rw [← Ny219.out] at ho3)); have n0_ := am_ (Kd.R_lower ho3 (below_size (ue_ HB.out))); have n1_ := am_ (below_step (ue_ HB.out) hb); clear HB; have HO221 := n0_; have HB := n1_; clear n0_ n1_; clear hb ho3))
 go_loopg [3, 4] k (fun kq v3 v4 w' => ∃ (x3_1 : List Int) (x4_1 : Int), v4 = .int .i64 x4_1 ∧ Aside0 (spec_l02Bytes.l0 kq l0 x3_1 x4_1 = some r) ∧ Aside0 (kq ≤ k) ∧ Aside0 (Kd.R (Kd.int .u8) 5 w' w.heap.size (fun _ => True) v3 x3_1) ∧ Aside0 (Below w.heap.size w w'))
 case atStart => exact ⟨(y219), (0), (by first | rfl | (simp; done) | (simp [*]; done)), H', ⟨Nat.le_refl _⟩, ⟨by (with_reducible repeat (first | apply Kd.R_alloc | apply Kd.R_drewN | apply Kd.R_drew)); exact HO221.out⟩, ⟨ue_ HB.out⟩⟩
 case round =>
  clear H'
  try clear c1
  try clear p2
  obtain ⟨x3_1, x4_1, rfl, HA, HK1, HO_3, HB⟩ := hrel
  cases gk with
  | zero => exact absurd HA.out (by simp [spec_l02Bytes.l0])
  | succ k1 =>
   have H := HA.out
   clear HA
   simp only [spec_l02Bytes.l0] at H
   by_cases c4 : x4_1 < (l0.length : Int)
   ·
    rw [if_pos c4] at H
    have c4b0 : decide (x4_1 < (l0.length : Int)) = true := decide_eq_true c4
    clear c4
    by_cases c5 : 0 ≤ x4_1
    ·
     rw [if_pos c5] at H
     have c5b0 : decide (0 ≤ x4_1) = true := decide_eq_true c5
     clear c5
     by_cases c6 : x3_1.length < 140737488355328
     ·
      rw [if_pos c6] at H
      have LMc6 := Aside0.mk c6
      clear c6
      obtain ⟨y223, hy223⟩ : ∃ y_ : List Int, y_ = (x3_1 ++ [rd l0 x4_1]) := ⟨_, rfl⟩
      replace H : (spec_l02Bytes.l0 k1 l0 y223 (wrap64 (x4_1 + 1))) = some r := by first | (rw [hy223]; with_reducible exact H) | (have H2_ := (Option.bind_some _ _).symm.trans H; rw [hy223]; with_reducible exact H2_) | (have H2_ := (Option.bind_some _ _).symm.trans H; with_reducible exact H2_) | with_reducible exact H | (rw [hy223]; exact H) | exact H
      have Ny223 := Aside0.mk hy223
      clear hy223
      have H' := Aside0.mk H
      clear H
      have p222 : 0 ≤ (x4_1 : Int) := of_decide_eq_true ua_
      have q222 : x4_1 < (l0.length : Int) := of_decide_eq_true ua_
      obtain ⟨ad222, e222, hx222_0⟩ := Kd.at_int HR0.out x4_1 p222 q222
      cases e222
      replace hx222_0 := bc_ HB.out hx222_0
      replace p222 := eq_true p222
      replace q222 := eq_true q222
      go_wp2_with (first | ((with_reducible refine gate_builtin (b := .append) (xs := #[.tmp 12, .tmp 17]) rfl ?_); at_builtin; refine Kd.R_append (Kd.int .u8) (w0 := w) w.heap.size rfl (.tmp 12) (.tmp 17) 49 5 (.int .u8 0) 1 rfl Try.underlying49 info5 rfl (by decide) (by omega) u3 x3_1 (rd l0 x4_1) [.int .u8 (rd l0 x4_1)] (fun _ => True) (fun _ => False) rfl rfl ?aP (fun _ hk => hk.elim) ?aF ?aO ?aB ?aS ?aL ?_; (case aP => exact rfl); (case aB => exact (ue_ HB.out)); (case aF => exact (fun _ _ => trivial)); (case aO => exact (ur_ HO_3.out)); (case aS => exact (below_size (ue_ HB.out))); (case aL => have := LMc6.out; omega); intro v224 w7 ho hb hg hat; rw [← Ny223.out] at ho; have n0_ := am_ (hb); have n1_ := am_ (ho); clear HB HO_3; have HB := n0_; have HO225 := n1_; clear n0_ n1_; clear ho hb hg hat))
      go_roundg k1
      case measure => have := HK1.out; omega
      case rel => exact ⟨(y223), (wrap64 (x4_1 + 1)), (by first | rfl | (simp; done) | (simp [*]; done)), H', ⟨by have := HK1.out; omega⟩, ⟨by (with_reducible repeat (first | apply Kd.R_alloc | apply Kd.R_drewN | apply Kd.R_drew)); exact HO225.out⟩, ⟨ue_ HB.out⟩⟩
     ·
      rw [if_neg c6] at H
      exact absurd H (by simp)
    ·
     rw [if_neg c5] at H
     exact absurd H (by simp)
   ·
    rw [if_neg c4] at H
    have c4b0 : decide (x4_1 < (l0.length : Int)) = false := decide_eq_false c4
    clear c4
    obtain rfl := Option.some.inj H
    go_wp2
    go_ret
    exact ⟨_, ew_, by (with_reducible repeat (first | apply Kd.R_alloc | apply Kd.R_drewN | apply Kd.R_drew)); exact HO_3.out, ue_ HB.out⟩

/-! ### spec_l02Copy: function 150 -/
def spec_l02Copy.f (k : Nat) (l0_0 : List Int) (a0_1 : Bool) : Option (List Int × Bool) := (spec_l02Bytes.f k l0_0).bind fun t228 => (some (t228, a0_1))
theorem spec_l02Copy.mono : ∀ a0 a1 k, LeO (spec_l02Copy.f k a0 a1) (spec_l02Copy.f (k + 1) a0 a1) := by
 intro a0 a1 k
 unfold spec_l02Copy.f
 repeat' first
   | (with_reducible exact spec_l02Bytes.mono _ _)
   | (with_reducible exact LeO.refl _)
   | (with_reducible exact LeO.none _)
   | (with_reducible refine LeO.ite ?_ ?_)
   | (with_reducible refine LeO.bind ?_ (fun _ => ?_))
   | exact spec_l02Bytes.mono _ _
   | exact LeO.none _
   | refine LeO.ite ?_ ?_
   | refine LeO.bind ?_ (fun _ => ?_)
set_option maxHeartbeats 8000000 in
set_option maxRecDepth 100000 in
theorem spec_l02Copy.calls (k : Nat) (A0_0 : Option Addr) (c0_0 : Nat) (l0_0 : List Int) (a0_1 : Bool) (r1 : List Int) (r2 : Bool) (w : World) (hr0_0 : Kd.C (Kd.int .u8) w A0_0 l0_0.length l0_0) (hc0_0 : l0_0.length ≤ c0_0) (h : spec_l02Copy.f k l0_0 a0_1 = some (r1, r2)) :
  Calls Try.prog 150 #[.agg #[.slice A0_0 l0_0.length c0_0, .bool a0_1]] w fun e w' => ∃ v0_ : Value, e = .returned (.agg #[v0_, .bool r2]) ∧ Kd.R (Kd.int .u8) 5 w' w.heap.size (fun _ => True) v0_ r1 ∧ Below w.heap.size w w' := by
 have hu102 := Try.underlying102
 have HR0_0 := Aside0.mk hr0_0
 have HC0_0 := Aside0.mk hc0_0
 clear hr0_0 hc0_0
 have HB := am_ (Below.refl w.heap.size w)
 have H : ((spec_l02Bytes.f k l0_0).bind fun t228 => (some (t228, a0_1))) = some (r1, r2) := h
 clear h
 replace H := Option.bind_eq_some_iff.mp H
 obtain ⟨t228, A20, H⟩ := H
 replace H : (some (t228, a0_1)) = some (r1, r2) := H
 have A2 := Aside0.mk A20
 clear A20
 simp only [Option.some.injEq, Prod.mk.injEq] at H
 obtain ⟨rfl, rfl⟩ := H
 go_enter Try.func150, Try.ntmps150
 try go_wp2_with (first | ((with_reducible refine gate_dst (N := 1) rfl ?_); refine box_event ?hg (N := 1) ?hd (cs := #[.slice A0_0 l0_0.length c0_0, .bool a0_1]) (t := 102) ?hr ?_; (case hd => rfl); (case hg => rfl); (case hr => first | (go_simp; done) | (go_simp; rfl)); intro gb226 hg w3 hbox hb; have n0_ := am_ (below_step (ue_ HB.out) hb); have n1_ := am_ (hbox); have n2_ := am_ ((by rw [hg]; exact (below_size (ue_ HB.out)) : w.heap.size ≤ gb226)); have n3_ := am_ ((by rw [hg]; exact (below_size (ue_ HB.out)) : w.heap.size ≤ gb226)); clear HB; have HB := n0_; have BK226 := n1_; have GW226 := n2_; have GE226 := n3_; clear n0_ n1_ n2_ n3_; clear hb hbox hg) | ((with_reducible refine gate_dst (N := 2) rfl ?_); refine box_event ?hg (N := 2) ?hd (cs := #[.slice none 0 0, .bool false]) (t := 102) ?hr ?_; (case hd => rfl); (case hg => rfl); (case hr => first | (go_simp; done) | (go_simp; rfl)); intro gb227 hg w4 hbox hb; have n0_ := am_ (bb_ BK226.out hb); have n1_ := am_ (below_step (ue_ HB.out) hb); have n2_ := am_ (hbox); have n3_ := am_ ((by rw [hg]; exact (below_size (ue_ HB.out)) : w.heap.size ≤ gb227)); have n4_ := am_ ((by rw [hg]; exact (below_size (ue_ HB.out)) : w.heap.size ≤ gb227)); have n5_ := am_ ((by rw [hg]; exact Nat.ne_of_lt (bl_ BK226.out) : gb226 ≠ gb227)); have n6_ := am_ ((by rw [hg]; exact Nat.ne_of_gt (bl_ BK226.out) : gb227 ≠ gb226)); clear BK226 HB; have BK226 := n0_; have HB := n1_; have BK227 := n2_; have GW227 := n3_; have GE227 := n4_; have NB226_227 := n5_; have NB227_226 := n6_; clear n0_ n1_ n2_ n3_ n4_ n5_ n6_; clear hb hbox hg))
 have n0_ := am_ (blk_drew BK226.out)
 have n1_ := am_ (blk_drew BK227.out)
 have n2_ := am_ (below_drew1 HB.out)
 clear BK226
 clear BK227
 clear HB
 have BK226 := n0_
 have BK227 := n1_
 have HB := n2_
 clear n0_ n1_ n2_
 refine start_ (n := 7) (S := fun w' => w'.cell? ⟨gb226, 0, none⟩ = some (.slice A0_0 l0_0.length c0_0) ∧ w'.cell? ⟨gb226, 1, none⟩ = some (.bool a0_1)) (ds := []) #[false, false, false, false, false, false, false] (by kernel_rfl) rfl rfl ⟨(blk_cell BK226.out 0).trans rfl, (blk_cell BK226.out 1).trans rfl⟩ (fun hHeld => ?_)
 generalize w4.drew = w5 at BK226 BK227 HB hHeld ⊢
 refine pure_ (i := 0) (N := some 3) (v := ?_) (a' := ?_) #[true, false, false, false, false, false, false] rfl rfl (by kernel_rfl) (fun _ _ _ h => h) (Or.inl ⟨by rfl, ?_⟩) ?_ ?_
 rotate_left
 ·
  intro w'
  go_simp
  with_reducible rfl
 rotate_left
 ·
  simp only [Act.put, List.setIfInBounds_toArray, List.set_cons_zero, List.set_cons_succ, i64_w, i32_w]
  rfl
 refine pure_ (i := 3) (N := some 6) (v := ?_) (a' := ?_) #[true, false, false, true, false, false, false] rfl rfl (by kernel_rfl) (fun _ _ _ h => h) (Or.inl ⟨by rfl, ?_⟩) ?_ ?_
 rotate_left
 ·
  intro w'
  go_simp
  with_reducible rfl
 rotate_left
 ·
  simp only [Act.put, List.setIfInBounds_toArray, List.set_cons_zero, List.set_cons_succ, i64_w, i32_w]
  rfl
 refine take_ (i := 1) (N := some 4) (v := ?_) (a' := ?_) #[true, true, false, true, false, false, false] rfl rfl (by kernel_rfl) (fun _ _ _ h => h) (Or.inl ⟨by rfl, ?_⟩) hHeld ?_ ?_
 rotate_left
 ·
  rintro w' ⟨s0, s1⟩
  go_simp
  with_reducible rfl
 rotate_left
 ·
  simp only [Act.put, List.setIfInBounds_toArray, List.set_cons_zero, List.set_cons_succ, i64_w, i32_w]
  rfl
 refine take_ (i := 4) (N := some 7) (v := ?_) (a' := ?_) #[true, true, false, true, true, false, false] rfl rfl (by kernel_rfl) (fun _ _ _ h => h) (Or.inl ⟨by rfl, ?_⟩) hHeld ?_ ?_
 rotate_left
 ·
  rintro w' ⟨s0, s1⟩
  go_simp
  with_reducible rfl
 rotate_left
 ·
  simp only [Act.put, List.setIfInBounds_toArray, List.set_cons_zero, List.set_cons_succ, i64_w, i32_w]
  rfl
 refine one_ (i := 2) (N := some 5) #[true, true, true, true, true, false, false] rfl rfl (by kernel_rfl) (by decide) (fun K hK => ?_)
 refine goes_ Try.func151 (by kernel_rfl) rfl #[.slice A0_0 l0_0.length c0_0] (by rfl) rfl rfl ul_ ?_
 with_reducible refine (spec_l02Bytes.calls k _ _ l0_0 t228 _ ?side1 ?side2 A2.out).mono ?_
 (case side1 => repeat (first | exact (Kd.C_below HR0_0.out HB.out) | (with_reducible refine Kd.C_alloc ?_ _) | (with_reducible refine Kd.C_drewN ?_ _) | (with_reducible refine Kd.C_drew ?_)))
 (case side2 => exact HC0_0.out)
 rintro e w6 ⟨v229, rfl, ho0, hb⟩
 refine ⟨_, rfl, ?_⟩
 have n0_ := am_ (Kd.R_lower ho0 (below_size (ue_ HB.out)))
 have n1_ := am_ (bb_ BK226.out hb)
 have n2_ := am_ (bb_ BK227.out hb)
 have n3_ := am_ (below_step (ue_ HB.out) hb)
 clear BK226
 clear BK227
 clear HB
 have HO230 := n0_
 have BK226 := n1_
 have BK227 := n2_
 have HB := n3_
 clear n0_ n1_ n2_ n3_
 (try clear hb)
 (try clear hb2)
 (try clear hk)
 (try clear hi)
 (try clear ho0)
 obtain ⟨Ao7, co7, eo7⟩ := Kd.R_slice HO230.out
 (first | subst eo7 | (injection eo7 with f1_ f2_ f3_; have f4_ := f1_.symm; have f5_ := f3_.symm; clear f1_ f2_ f3_; subst f4_; subst f5_))
 refine hK.out _ _ ⟨(blk_cell BK226.out 0).trans rfl, (blk_cell BK226.out 1).trans rfl⟩ (fun hHeld => ?_)
 clear hK K
 refine norm_ (a' := ?_) ?_ ?_
 rotate_left
 ·
  show Act.put _ (some 5) _ = _
  simp only [Act.put, List.setIfInBounds_toArray, List.set_cons_zero, List.set_cons_succ, i64_w, i32_w]
  rfl
 refine pure_ (i := 5) (N := some 8) (v := ?_) (a' := ?_) #[true, true, true, true, true, true, false] rfl rfl (by kernel_rfl) (fun _ _ _ h => h) (Or.inl ⟨by rfl, ?_⟩) ?_ ?_
 rotate_left
 ·
  intro w'
  go_simp
  with_reducible rfl
 rotate_left
 ·
  simp only [Act.put, List.setIfInBounds_toArray, List.set_cons_zero, List.set_cons_succ, i64_w, i32_w]
  rfl
 refine one_ (i := 6) (N := none) #[true, true, true, true, true, true, true] rfl rfl (by kernel_rfl) (by decide) (fun K hK => ?_)
 have hs8 := cb_ BK227.out 0 rfl
 have hfs8 := blk_frozen BK227.out 0
 have hns8_0 := NB226_227.out
 have hms8_0 := NB227_226.out
 have hs9 := cb_ BK227.out 1 rfl
 have hfs9 := blk_frozen BK227.out 1
 have hns9_0 := NB226_227.out
 have hms9_0 := NB227_226.out
 refine skip_ (w1 := ?_) (by rfl) rfl ?_ ?_
 rotate_left
 ·
  go_simp
  rfl
 refine hK.out _ _ ⟨((cell_far (p := ⟨gb227, _, none⟩) NB226_227.out _).trans (((cell_far (p := ⟨gb227, _, none⟩) NB226_227.out _).trans (hHeld.1)))), ((cell_far (p := ⟨gb227, _, none⟩) NB226_227.out _).trans (((cell_far (p := ⟨gb227, _, none⟩) NB226_227.out _).trans (hHeld.2))))⟩ (fun hHeld => ?_)
 clear hK K
 refine done_ (by kernel_rfl) ?_
 try go_wp2
 refine bodyPost_ret (results_cell_row rfl _ _ gb227 102 #[.slice Ao7 t228.length co7, .bool a0_1] (0, 0) _ rfl (by (with_reducible repeat first|apply bn_|apply bd_|apply ba_); refine blk_put (cs := #[.slice Ao7 t228.length co7, .bool false]) ?_ 1 _ rfl; refine blk_put (cs := #[.slice none 0 0, .bool false]) ?_ 0 _ rfl; (with_reducible repeat first|apply bn_|apply bd_|apply ba_); exact BK227.out) Try.underlying102 rfl (by kernel_rfl)) rfl ?_
 exact ⟨_, ew_, by (with_reducible repeat (first | apply Kd.R_alloc | apply Kd.R_drewN | apply Kd.R_drew)); exact Kd.R_mono (Kd.R_far (p := ⟨gb227, 1, none⟩) (Kd.R_far (p := ⟨gb227, 0, none⟩) (Kd.R_types HO230.out BK227.out (by decide)) (fun _ hk => by first | exact hk.2 | grind) (.slice Ao7 t228.length co7)) (fun _ hk => by first | exact hk.2 | grind) (.bool a0_1)) (fun _ hk => trivial), ue_ HB.out⟩

/-! ### spec_TakeNext: function 76 -/
def spec_TakeNext.j0 : Nat → Bool → List Int → Bool → Option (List Int × Bool × Int × Int × Int × Int × Int)
 | 0, _, _, _ => none
 | k + 1, x13, x232000, x232001 => if x13 = true then ((spec_l02Copy.f k x232000 x232001).bind fun bt235 => (some (bt235.1, bt235.2, 0, 0, 0, 0, 2))) else ((spec_TakeFrame.f k x232000).bind fun bt239 => (if bt239.2.2.2.2 < 0 then (some (([] : List Int), true, 0, 0, 0, 0, 2)) else (if bt239.2.2.2.2 = 0 then ((spec_l02Copy.f k x232000 x232001).bind fun bt245 => (some (bt245.1, bt245.2, 0, 0, 0, 0, 1))) else (if 0 ≤ bt239.2.2.2.2 then (if bt239.2.2.2.2 ≤ (x232000.length : Int) then ((spec_l02Bytes.f k (x232000.drop (bt239.2.2.2.2 : Int).toNat)).bind fun t250 => (some (t250, false, bt239.1, bt239.2.1, bt239.2.2.1, bt239.2.2.2.1, 0))) else (none)) else (none)))))
def spec_TakeNext.f (k : Nat) (l0_0 : List Int) (a0_1 : Bool) : Option (List Int × Bool × Int × Int × Int × Int × Int) := (spec_DecoderOk.f l0_0 a0_1).bind fun t234 => (if t234 = true then (spec_TakeNext.j0 k a0_1 l0_0 a0_1) else (spec_TakeNext.j0 k true l0_0 a0_1))
theorem spec_TakeNext.mono_l : ∀ k, (∀ y0 y1 y2, LeO (spec_TakeNext.j0 k y0 y1 y2) (spec_TakeNext.j0 (k + 1) y0 y1 y2))
 | 0 => fun _ _ _ r h => by simp [spec_TakeNext.j0] at h
 | k + 1 => by
  have ih0 := spec_TakeNext.mono_l k
  ·
   intro y0 y1 y2
   unfold spec_TakeNext.j0
   repeat' first
   | (with_reducible exact ih0 _ _ _)
   | (with_reducible exact spec_TakeFrame.mono _ _)
   | (with_reducible exact spec_l02Bytes.mono _ _)
   | (with_reducible exact spec_l02Copy.mono _ _ _)
   | (with_reducible exact LeO.refl _)
   | (with_reducible exact LeO.none _)
   | (with_reducible refine LeO.ite ?_ ?_)
   | (with_reducible refine LeO.bind ?_ (fun _ => ?_))
   | exact ih0 _ _ _
   | exact spec_TakeFrame.mono _ _
   | exact spec_l02Bytes.mono _ _
   | exact spec_l02Copy.mono _ _ _
   | exact LeO.none _
   | refine LeO.ite ?_ ?_
   | refine LeO.bind ?_ (fun _ => ?_)
theorem spec_TakeNext.mono : ∀ a0 a1 k, LeO (spec_TakeNext.f k a0 a1) (spec_TakeNext.f (k + 1) a0 a1) := by
 intro a0 a1 k
 have ih0 := spec_TakeNext.mono_l k
 unfold spec_TakeNext.f
 repeat' first
   | (with_reducible exact ih0 _ _ _)
   | (with_reducible exact spec_TakeFrame.mono _ _)
   | (with_reducible exact spec_l02Bytes.mono _ _)
   | (with_reducible exact spec_l02Copy.mono _ _ _)
   | (with_reducible exact LeO.refl _)
   | (with_reducible exact LeO.none _)
   | (with_reducible refine LeO.ite ?_ ?_)
   | (with_reducible refine LeO.bind ?_ (fun _ => ?_))
   | exact ih0 _ _ _
   | exact spec_TakeFrame.mono _ _
   | exact spec_l02Bytes.mono _ _
   | exact spec_l02Copy.mono _ _ _
   | exact LeO.none _
   | refine LeO.ite ?_ ?_
   | refine LeO.bind ?_ (fun _ => ?_)
def spec_TakeNext.T8 : Bool × List (List Nat × List Nat) := (true, [([], []), ([0], [0]), ([], []), ([1, 2], [1, 2]), ([3], [3]), ([4], [4]), ([], []), ([5, 4, 0, 1, 2, 3, 4, 5], [5]), ([6, 7, 0, 1, 2, 3, 4, 5, 6, 7], [6]), ([8, 0, 1, 2, 3, 4, 5, 6, 7, 8], [])])
def spec_TakeNext.B8 : List Nat := [0, 1, 0, 7, 15, 31, 0, 63, 255, 511]
theorem spec_TakeNext.tab8 : rtab .any (opsOf Try.f76 8) = spec_TakeNext.T8 := by kernel_rfl
theorem spec_TakeNext.bits8 : waitsOk spec_TakeNext.T8.2 spec_TakeNext.B8 = true := by kernel_rfl
set_option maxHeartbeats 8000000 in
set_option maxRecDepth 100000 in
theorem spec_TakeNext.calls (k : Nat) (A0_0 : Option Addr) (c0_0 : Nat) (l0_0 : List Int) (a0_1 : Bool) (r1 : List Int) (r2 : Bool) (r3 : Int) (r4 : Int) (r5 : Int) (r6 : Int) (r7 : Int) (w : World) (hr0_0 : Kd.C (Kd.int .u8) w A0_0 l0_0.length l0_0) (hc0_0 : l0_0.length ≤ c0_0) (h : spec_TakeNext.f k l0_0 a0_1 = some (r1, r2, r3, r4, r5, r6, r7)) :
  Calls Try.prog 76 #[.agg #[.slice A0_0 l0_0.length c0_0, .bool a0_1]] w fun e w' => ∃ v0_ : Value, e = .returned (.tuple #[.agg #[v0_, .bool r2], .agg #[.int .i64 r3, .int .i64 r4, .int .i64 r5, .int .i64 r6], .int .i64 r7]) ∧ Kd.R (Kd.int .u8) 5 w' w.heap.size (fun _ => True) v0_ r1 ∧ Below w.heap.size w w' := by
 have hu102 := Try.underlying102
 have hu61 := Try.underlying61
 have HR0_0 := Aside0.mk hr0_0
 have HC0_0 := Aside0.mk hc0_0
 clear hr0_0 hc0_0
 have HB := am_ (Below.refl w.heap.size w)
 have H : ((spec_DecoderOk.f l0_0 a0_1).bind fun t234 => (if t234 = true then (spec_TakeNext.j0 k a0_1 l0_0 a0_1) else (spec_TakeNext.j0 k true l0_0 a0_1))) = some (r1, r2, r3, r4, r5, r6, r7) := h
 clear h
 have HC2 := Aside0.mk H
 clear H
 go_enter Try.func76, Try.ntmps76
 go_upto_region 1 with (first | ((with_reducible refine gate_dst (N := 1) rfl ?_); refine box_event ?hg (N := 1) ?hd (cs := #[.slice A0_0 l0_0.length c0_0, .bool a0_1]) (t := 102) ?hr ?_; (case hd => rfl); (case hg => rfl); (case hr => first | (go_simp; done) | (go_simp; rfl)); intro gb231 hg w3 hbox hb; have n0_ := am_ (below_step (ue_ HB.out) hb); have n1_ := am_ (hbox); have n2_ := am_ ((by rw [hg]; exact (below_size (ue_ HB.out)) : w.heap.size ≤ gb231)); have n3_ := am_ ((by rw [hg]; exact (below_size (ue_ HB.out)) : w.heap.size ≤ gb231)); clear HB; have HB := n0_; have BK231 := n1_; have GW231 := n2_; have GE231 := n3_; clear n0_ n1_ n2_ n3_; clear hb hbox hg) | ((with_reducible refine gate_dst (N := 2) rfl ?_); refine box_event ?hg (N := 2) ?hd (cs := #[.slice none 0 0, .bool false]) (t := 102) ?hr ?_; (case hd => rfl); (case hg => rfl); (case hr => first | (go_simp; done) | (go_simp; rfl)); intro gb232 hg w4 hbox hb; have n0_ := am_ (bb_ BK231.out hb); have n1_ := am_ (below_step (ue_ HB.out) hb); have n2_ := am_ (hbox); have n3_ := am_ ((by rw [hg]; exact (below_size (ue_ HB.out)) : w.heap.size ≤ gb232)); have n4_ := am_ ((by rw [hg]; exact (below_size (ue_ HB.out)) : w.heap.size ≤ gb232)); have n5_ := am_ ((by rw [hg]; exact Nat.ne_of_lt (bl_ BK231.out) : gb231 ≠ gb232)); have n6_ := am_ ((by rw [hg]; exact Nat.ne_of_gt (bl_ BK231.out) : gb232 ≠ gb231)); clear BK231 HB; have BK231 := n0_; have HB := n1_; have BK232 := n2_; have GW232 := n3_; have GE232 := n4_; have NB231_232 := n5_; have NB232_231 := n6_; clear n0_ n1_ n2_ n3_ n4_ n5_ n6_; clear hb hbox hg) | ((with_reducible refine gate_dst (N := 3) rfl ?_); refine box_event ?hg (N := 3) ?hd (cs := #[.int .i64 0, .int .i64 0, .int .i64 0, .int .i64 0]) (t := 61) ?hr ?_; (case hd => rfl); (case hg => rfl); (case hr => first | (go_simp; done) | (go_simp; rfl)); intro gb233 hg w5 hbox hb; have n0_ := am_ (bb_ BK231.out hb); have n1_ := am_ (bb_ BK232.out hb); have n2_ := am_ (below_step (ue_ HB.out) hb); have n3_ := am_ (hbox); have n4_ := am_ ((by rw [hg]; exact (below_size (ue_ HB.out)) : w.heap.size ≤ gb233)); have n5_ := am_ ((by rw [hg]; exact (below_size (ue_ HB.out)) : w.heap.size ≤ gb233)); have n6_ := am_ ((by rw [hg]; exact Nat.ne_of_lt (bl_ BK231.out) : gb231 ≠ gb233)); have n7_ := am_ ((by rw [hg]; exact Nat.ne_of_gt (bl_ BK231.out) : gb233 ≠ gb231)); have n8_ := am_ ((by rw [hg]; exact Nat.ne_of_lt (bl_ BK232.out) : gb232 ≠ gb233)); have n9_ := am_ ((by rw [hg]; exact Nat.ne_of_gt (bl_ BK232.out) : gb233 ≠ gb232)); clear BK231 BK232 HB; have BK231 := n0_; have BK232 := n1_; have HB := n2_; have BK233 := n3_; have GW233 := n4_; have GE233 := n5_; have NB231_233 := n6_; have NB233_231 := n7_; have NB232_233 := n8_; have NB233_232 := n9_; clear n0_ n1_ n2_ n3_ n4_ n5_ n6_ n7_ n8_ n9_; clear hb hbox hg))
 (try simp only [Act.put, List.setIfInBounds_toArray, List.set_cons_zero, List.set_cons_succ])
 go_cut [13] (fun v13 wc => ∃ (kq : Nat) (x13_1 : Bool), v13 = .bool x13_1 ∧ Aside0 (spec_TakeNext.j0 kq x13_1 l0_0 a0_1 = some (r1, r2, r3, r4, r5, r6, r7)) ∧ Aside0 (kq ≤ k) ∧ Aside0 (wc.heap[gb231]? = some (.cells #[(.slice A0_0 l0_0.length c0_0), .bool a0_1] 102 (0, 0))) ∧ Aside0 (wc.heap[gb232]? = some (.cells #[(.slice none 0 0), .bool false] 102 (0, 0))) ∧ Aside0 (wc.heap[gb233]? = some (.cells #[.int .i64 0, .int .i64 0, .int .i64 0, .int .i64 0] 61 (0, 0))) ∧ Aside0 (Below w.heap.size w wc))
 case first =>
  have H := HC2.out
  clear HC2
  replace H := Option.bind_eq_some_iff.mp H
  obtain ⟨t234, A60, H⟩ := H
  replace H : (if t234 = true then (spec_TakeNext.j0 k a0_1 l0_0 a0_1) else (spec_TakeNext.j0 k true l0_0 a0_1)) = some (r1, r2, r3, r4, r5, r6, r7) := H
  have A6 := Aside0.mk A60
  clear A60
  by_cases c7 : t234 = true
  ·
   subst c7
   have H1 : (spec_TakeNext.j0 k a0_1 l0_0 a0_1) = some (r1, r2, r3, r4, r5, r6, r7) := by rw [if_pos rfl] at H; exact H
   clear H
   have H := H1
   clear H1
   have H' := Aside0.mk H
   clear H
   have hnb8 := NB231_232.out
   have hnc8 := NB232_231.out
   have hnb9 := NB231_233.out
   have hnc9 := NB233_231.out
   have hcz10_0 := cb_ BK231.out 0 rfl
   have hcz10_1 := cb_ BK231.out 1 rfl
   have hfz10_0 := blk_frozen BK231.out 0
   have hfz10_1 := blk_frozen BK231.out 1
   go_wp2_with (first | ((with_reducible refine gate_callee (f := 149) rfl ?_); refine goesL_ (some 8) rfl rfl Try.func149 (by kernel_rfl) rfl #[.agg #[.slice A0_0 l0_0.length c0_0, .bool a0_1]] rfl ul_ ?_; (with_reducible refine (spec_DecoderOk.calls _ _ l0_0 a0_1 true _ ?side1 ?side2 A6.out).mono ?_); (case side1 => repeat (first | exact (Kd.C_below HR0_0.out HB.out) | (with_reducible refine Kd.C_alloc ?_ _) | (with_reducible refine Kd.C_drewN ?_ _) | (with_reducible refine Kd.C_drew ?_))); (case side2 => exact HC0_0.out); rintro e w11 ⟨rfl, hb⟩; refine ⟨_, rfl, ?_⟩; have n0_ := am_ (bb_ BK231.out hb); have n1_ := am_ (bb_ BK232.out hb); have n2_ := am_ (bb_ BK233.out hb); have n3_ := am_ (below_step (ue_ HB.out) hb); clear BK231 BK232 BK233 HB; have BK231 := n0_; have BK232 := n1_; have BK233 := n2_; have HB := n3_; clear n0_ n1_ n2_ n3_; (try clear hb); (try clear hb2); (try clear hk); (try clear hi); obtain ⟨hcz12_0, hcz12_1⟩ := cb2_ BK231.out; have hfz12_0 := blk_frozen BK231.out 0; have hfz12_1 := blk_frozen BK231.out 1))
   go_meet
   case rel => exact ⟨_, (a0_1), (by first | rfl | (simp; done) | (simp [*]; done)), H', ⟨by first | omega | exact Nat.le_refl _⟩, ⟨by (with_reducible repeat first|apply bn_|apply bd_|apply ba_); exact BK231.out⟩, ⟨by (with_reducible repeat first|apply bn_|apply bd_|apply ba_); exact BK232.out⟩, ⟨by (with_reducible repeat first|apply bn_|apply bd_|apply ba_); exact BK233.out⟩, ⟨ue_ HB.out⟩⟩
  ·
   replace c7 := Bool.eq_false_iff.mpr c7
   subst c7
   have H1 : (spec_TakeNext.j0 k true l0_0 a0_1) = some (r1, r2, r3, r4, r5, r6, r7) := by rw [if_neg (show ¬ (false = true) by decide)] at H; exact H
   clear H
   have H := H1
   clear H1
   have H' := Aside0.mk H
   clear H
   have hnb13 := NB231_232.out
   have hnc13 := NB232_231.out
   have hnb14 := NB231_233.out
   have hnc14 := NB233_231.out
   have hcz15_0 := cb_ BK231.out 0 rfl
   have hcz15_1 := cb_ BK231.out 1 rfl
   have hfz15_0 := blk_frozen BK231.out 0
   have hfz15_1 := blk_frozen BK231.out 1
   go_wp2_with (first | ((with_reducible refine gate_callee (f := 149) rfl ?_); refine goesL_ (some 8) rfl rfl Try.func149 (by kernel_rfl) rfl #[.agg #[.slice A0_0 l0_0.length c0_0, .bool a0_1]] rfl ul_ ?_; (with_reducible refine (spec_DecoderOk.calls _ _ l0_0 a0_1 false _ ?side1 ?side2 A6.out).mono ?_); (case side1 => repeat (first | exact (Kd.C_below HR0_0.out HB.out) | (with_reducible refine Kd.C_alloc ?_ _) | (with_reducible refine Kd.C_drewN ?_ _) | (with_reducible refine Kd.C_drew ?_))); (case side2 => exact HC0_0.out); rintro e w16 ⟨rfl, hb⟩; refine ⟨_, rfl, ?_⟩; have n0_ := am_ (bb_ BK231.out hb); have n1_ := am_ (bb_ BK232.out hb); have n2_ := am_ (bb_ BK233.out hb); have n3_ := am_ (below_step (ue_ HB.out) hb); clear BK231 BK232 BK233 HB; have BK231 := n0_; have BK232 := n1_; have BK233 := n2_; have HB := n3_; clear n0_ n1_ n2_ n3_; (try clear hb); (try clear hb2); (try clear hk); (try clear hi)))
   go_meet
   case rel => exact ⟨_, (true), (by first | rfl | (simp; done) | (simp [*]; done)), H', ⟨by first | omega | exact Nat.le_refl _⟩, ⟨by (with_reducible repeat first|apply bn_|apply bd_|apply ba_); exact BK231.out⟩, ⟨by (with_reducible repeat first|apply bn_|apply bd_|apply ba_); exact BK232.out⟩, ⟨by (with_reducible repeat first|apply bn_|apply bd_|apply ba_); exact BK233.out⟩, ⟨ue_ HB.out⟩⟩
 case rest =>
  clear HC2
  try clear c1
  try clear p2
  try clear c7
  try clear c8
  try clear c9
  try clear c13
  try clear c14
  try clear hcz10_0
  try clear hcz10_1
  try clear hcz12_0
  try clear hcz12_1
  try clear hcz15_0
  try clear hcz15_1
  try clear hfz10_0
  try clear hfz10_1
  try clear hfz12_0
  try clear hfz12_1
  try clear hfz15_0
  try clear hfz15_1
  obtain ⟨kq, x13_1, rfl, HA, HJ1, BK231, BK232, BK233, HB⟩ := hcut
  cases kq with
  | zero => exact absurd HA.out (by simp [spec_TakeNext.j0])
  | succ kj1 =>
   have H := HA.out
   clear HA
   simp only [spec_TakeNext.j0] at H
   by_cases c17 : x13_1 = true
   ·
    subst c17
    have H1 : ((spec_l02Copy.f kj1 l0_0 a0_1).bind fun bt235 => (some (bt235.1, bt235.2, 0, 0, 0, 0, 2))) = some (r1, r2, r3, r4, r5, r6, r7) := by rw [if_pos rfl] at H; exact H
    clear H
    have H := H1
    clear H1
    replace H := Option.bind_eq_some_iff.mp H
    obtain ⟨⟨t235, t238⟩, A180, H⟩ := H
    replace H : (some (t235, t238, 0, 0, 0, 0, 2)) = some (r1, r2, r3, r4, r5, r6, r7) := H
    have A18 := Aside0.mk A180
    clear A180
    simp only [Option.some.injEq, Prod.mk.injEq] at H
    obtain ⟨rfl, rfl, rfl, rfl, rfl, rfl, rfl⟩ := H
    have hnb19 := NB231_232.out
    have hnc19 := NB232_231.out
    have hnb20 := NB231_233.out
    have hnc20 := NB233_231.out
    have hcz21_0 := cb_ BK231.out 0 rfl
    have hcz21_1 := cb_ BK231.out 1 rfl
    have hfz21_0 := blk_frozen BK231.out 0
    have hfz21_1 := blk_frozen BK231.out 1
    go_wp2_with (first | ((with_reducible refine gate_callee (f := 150) rfl ?_); refine goesL_ (some 15) rfl rfl Try.func150 (by kernel_rfl) rfl #[.agg #[.slice A0_0 l0_0.length c0_0, .bool a0_1]] rfl ul_ ?_; (with_reducible refine (spec_l02Copy.calls kj1 _ _ l0_0 a0_1 t235 t238 _ ?side1 ?side2 A18.out).mono ?_); (case side1 => repeat (first | exact (Kd.C_below HR0_0.out HB.out) | (with_reducible refine Kd.C_alloc ?_ _) | (with_reducible refine Kd.C_drewN ?_ _) | (with_reducible refine Kd.C_drew ?_))); (case side2 => exact HC0_0.out); rintro e w22 ⟨v236, rfl, ho0, hb⟩; refine ⟨_, rfl, ?_⟩; have n0_ := am_ (Kd.R_lower ho0 (below_size (ue_ HB.out))); have n1_ := am_ (bb_ BK231.out hb); have n2_ := am_ (bb_ BK232.out hb); have n3_ := am_ (bb_ BK233.out hb); have n4_ := am_ (below_step (ue_ HB.out) hb); clear BK231 BK232 BK233 HB; have HO237 := n0_; have BK231 := n1_; have BK232 := n2_; have BK233 := n3_; have HB := n4_; clear n0_ n1_ n2_ n3_ n4_; (try clear hb); (try clear hb2); (try clear hk); (try clear hi); (try clear ho0); obtain ⟨Ao23, co23, eo23⟩ := Kd.R_slice HO237.out; subst eo23; have hnb24 := NB232_233.out; have hnc24 := NB233_232.out; obtain ⟨hcz25_0, hcz25_1⟩ := cb2_ BK232.out; have hfz25_0 := blk_frozen BK232.out 0; have hfz25_1 := blk_frozen BK232.out 1) | ((with_reducible refine gate_store (t := 102) (p := 2) rfl ?_); refine store_event (t := 102) (p := 2) (v := ?vo_w26) (w1 := ((w22.setCell ⟨gb232, 0, none⟩ (.slice Ao23 t235.length co23)).setCell ⟨gb232, 1, none⟩ (.bool t238))) ?hg ?ho ?hn ?hr ?_; (case ho => rfl); (case hg => rfl); (case hn => rfl); (case hr => first | (go_simp; done) | (go_simp; rfl)); intro w26 hw; have n0_ : Aside0 (Kd.R (Kd.int .u8) 5 w26 w.heap.size (fun _ => True) (.slice Ao23 t235.length co23) t235) := ⟨(by rw [hw]; exact (by (with_reducible repeat (first | apply Kd.R_alloc | apply Kd.R_drewN | apply Kd.R_drew)); exact Kd.R_mono (Kd.R_far (p := ⟨gb232, 1, none⟩) (Kd.R_far (p := ⟨gb232, 0, none⟩) (Kd.R_types HO237.out BK232.out (by decide)) (fun _ hk => by first | exact hk.2 | grind) (.slice Ao23 t235.length co23)) (fun _ hk => by first | exact hk.2 | grind) (.bool t238)) (fun _ hk => trivial)))⟩; have n1_ : Aside0 (w26.heap[gb231]? = some (.cells #[.slice A0_0 l0_0.length c0_0, .bool a0_1] 102 (0, 0))) := ⟨(by rw [hw]; exact (uf_ BK231.out))⟩; have n2_ : Aside0 (w26.heap[gb232]? = some (.cells #[.slice Ao23 t235.length co23, .bool t238] 102 (0, 0))) := ⟨(by rw [hw]; exact (by (with_reducible repeat first|apply bn_|apply bd_|apply ba_); refine blk_put (cs := #[.slice Ao23 t235.length co23, .bool false]) ?_ 1 _ rfl; refine blk_put (cs := #[.slice none 0 0, .bool false]) ?_ 0 _ rfl; (with_reducible repeat first|apply bn_|apply bd_|apply ba_); exact BK232.out))⟩; have n3_ : Aside0 (w26.heap[gb233]? = some (.cells #[.int .i64 0, .int .i64 0, .int .i64 0, .int .i64 0] 61 (0, 0))) := ⟨(by rw [hw]; exact (uf_ BK233.out))⟩; have n4_ : Aside0 (Below w.heap.size w w26) := ⟨(by rw [hw]; exact (ue_ HB.out))⟩; clear hw HO237 BK231 BK232 BK233 HB; have HO237 := n0_; have BK231 := n1_; have BK232 := n2_; have BK233 := n3_; have HB := n4_; clear n0_ n1_ n2_ n3_ n4_; obtain ⟨hcz27_0, hcz27_1, hcz27_2, hcz27_3⟩ := cb4_ BK233.out; obtain ⟨hfz27_0, hfz27_1, hfz27_2⟩ := bf3_ BK233.out; have hfz27_3 := blk_frozen BK233.out 3) | ((with_reducible refine gate_store (t := 61) (p := 3) rfl ?_); refine store_event (t := 61) (p := 3) (v := ?vo_w28) (w1 := ((((w26.setCell ⟨gb233, 0, none⟩ (.int .i64 0)).setCell ⟨gb233, 1, none⟩ (.int .i64 0)).setCell ⟨gb233, 2, none⟩ (.int .i64 0)).setCell ⟨gb233, 3, none⟩ (.int .i64 0))) ?hg ?ho ?hn ?hr ?_; (case ho => rfl); (case hg => rfl); (case hn => rfl); (case hr => first | (go_simp; done) | (go_simp; rfl)); intro w28 hw; have n0_ : Aside0 (Kd.R (Kd.int .u8) 5 w28 w.heap.size (fun _ => True) (.slice Ao23 t235.length co23) t235) := ⟨(by rw [hw]; exact (by (with_reducible repeat (first | apply Kd.R_alloc | apply Kd.R_drewN | apply Kd.R_drew)); exact Kd.R_mono (Kd.R_far (p := ⟨gb233, 3, none⟩) (Kd.R_far (p := ⟨gb233, 2, none⟩) (Kd.R_far (p := ⟨gb233, 1, none⟩) (Kd.R_far (p := ⟨gb233, 0, none⟩) (Kd.R_types HO237.out BK233.out (by decide)) (fun _ hk => by first | exact hk.2 | grind) (.int .i64 0)) (fun _ hk => by first | exact hk.2 | grind) (.int .i64 0)) (fun _ hk => by first | exact hk.2 | grind) (.int .i64 0)) (fun _ hk => by first | exact hk.2 | grind) (.int .i64 0)) (fun _ hk => trivial)))⟩; have n1_ : Aside0 (w28.heap[gb231]? = some (.cells #[.slice A0_0 l0_0.length c0_0, .bool a0_1] 102 (0, 0))) := ⟨(by rw [hw]; exact (uf_ BK231.out))⟩; have n2_ : Aside0 (w28.heap[gb232]? = some (.cells #[.slice Ao23 t235.length co23, .bool t238] 102 (0, 0))) := ⟨(by rw [hw]; exact (uf_ BK232.out))⟩; have n3_ : Aside0 (w28.heap[gb233]? = some (.cells #[.int .i64 0, .int .i64 0, .int .i64 0, .int .i64 0] 61 (0, 0))) := ⟨(by rw [hw]; exact (by (with_reducible repeat first|apply bn_|apply bd_|apply ba_); refine blk_put (cs := #[.int .i64 0, .int .i64 0, .int .i64 0, .int .i64 0]) ?_ 3 _ rfl; refine blk_put (cs := #[.int .i64 0, .int .i64 0, .int .i64 0, .int .i64 0]) ?_ 2 _ rfl; refine blk_put (cs := #[.int .i64 0, .int .i64 0, .int .i64 0, .int .i64 0]) ?_ 1 _ rfl; refine blk_put (cs := #[.int .i64 0, .int .i64 0, .int .i64 0, .int .i64 0]) ?_ 0 _ rfl; (with_reducible repeat first|apply bn_|apply bd_|apply ba_); exact BK233.out))⟩; have n4_ : Aside0 (Below w.heap.size w w28) := ⟨(by rw [hw]; exact (ue_ HB.out))⟩; clear hw HO237 BK231 BK232 BK233 HB; have HO237 := n0_; have BK231 := n1_; have BK232 := n2_; have BK233 := n3_; have HB := n4_; clear n0_ n1_ n2_ n3_ n4_))
    refine bodyPost_ret (results_list (rs := [.cell 2 102, .cell 3 61, .tmp 4]) rfl (by simp) (.cell gb232 102 #[.slice Ao23 t235.length co23, .bool t238] (0, 0) _ rfl (ub_ BK232.out) Try.underlying102 rfl (by kernel_rfl) (.cell gb233 61 #[.int .i64 0, .int .i64 0, .int .i64 0, .int .i64 0] (0, 0) _ rfl (ub_ BK233.out) Try.underlying61 rfl (by kernel_rfl) (.tmp .nil)))) rfl ?_
    exact ⟨_, ew_, by (with_reducible repeat (first | apply Kd.R_alloc | apply Kd.R_drewN | apply Kd.R_drew)); exact HO237.out, ue_ HB.out⟩
   ·
    replace c17 := Bool.eq_false_iff.mpr c17
    subst c17
    have H1 : ((spec_TakeFrame.f kj1 l0_0).bind fun bt239 => (if bt239.2.2.2.2 < 0 then (some (([] : List Int), true, 0, 0, 0, 0, 2)) else (if bt239.2.2.2.2 = 0 then ((spec_l02Copy.f kj1 l0_0 a0_1).bind fun bt245 => (some (bt245.1, bt245.2, 0, 0, 0, 0, 1))) else (if 0 ≤ bt239.2.2.2.2 then (if bt239.2.2.2.2 ≤ (l0_0.length : Int) then ((spec_l02Bytes.f kj1 (l0_0.drop (bt239.2.2.2.2 : Int).toNat)).bind fun t250 => (some (t250, false, bt239.1, bt239.2.1, bt239.2.2.1, bt239.2.2.2.1, 0))) else (none)) else (none))))) = some (r1, r2, r3, r4, r5, r6, r7) := by rw [if_neg (show ¬ (false = true) by decide)] at H; exact H
    clear H
    have H := H1
    clear H1
    replace H := Option.bind_eq_some_iff.mp H
    obtain ⟨⟨t239, t240, t241, t242, t243⟩, A290, H⟩ := H
    replace H : (if t243 < 0 then (some (([] : List Int), true, 0, 0, 0, 0, 2)) else (if t243 = 0 then ((spec_l02Copy.f kj1 l0_0 a0_1).bind fun bt245 => (some (bt245.1, bt245.2, 0, 0, 0, 0, 1))) else (if 0 ≤ t243 then (if t243 ≤ (l0_0.length : Int) then ((spec_l02Bytes.f kj1 (l0_0.drop (t243 : Int).toNat)).bind fun t250 => (some (t250, false, t239, t240, t241, t242, 0))) else (none)) else (none)))) = some (r1, r2, r3, r4, r5, r6, r7) := H
    have A29 := Aside0.mk A290
    clear A290
    by_cases c30 : t243 < 0
    ·
     rw [if_pos c30] at H
     have c30b0 : decide (t243 < 0) = true := decide_eq_true c30
     clear c30
     simp only [Option.some.injEq, Prod.mk.injEq] at H
     obtain ⟨rfl, rfl, rfl, rfl, rfl, rfl, rfl⟩ := H
     have hnb31 := NB231_232.out
     have hnc31 := NB232_231.out
     have hnb32 := NB231_233.out
     have hnc32 := NB233_231.out
     have hcz33_0 := cb_ BK231.out 0 rfl
     have hcz33_1 := cb_ BK231.out 1 rfl
     have hfz33_0 := blk_frozen BK231.out 0
     have hfz33_1 := blk_frozen BK231.out 1
     go_wp2_with (first | ((with_reducible refine gate_callee (f := 60) rfl ?_); refine goesL_ (some 20) rfl rfl Try.func60 (by kernel_rfl) rfl #[.slice A0_0 l0_0.length c0_0] rfl ul_ ?_; (with_reducible refine (spec_TakeFrame.calls kj1 _ _ l0_0 t239 t240 t241 t242 t243 _ ?side1 ?side2 A29.out).mono ?_); (case side1 => repeat (first | exact (Kd.C_below HR0_0.out HB.out) | (with_reducible refine Kd.C_alloc ?_ _) | (with_reducible refine Kd.C_drewN ?_ _) | (with_reducible refine Kd.C_drew ?_))); (case side2 => exact HC0_0.out); rintro e w34 ⟨rfl, hb⟩; refine ⟨_, rfl, ?_⟩; have n0_ := am_ (bb_ BK231.out hb); have n1_ := am_ (bb_ BK232.out hb); have n2_ := am_ (bb_ BK233.out hb); have n3_ := am_ (below_step (ue_ HB.out) hb); clear BK231 BK232 BK233 HB; have BK231 := n0_; have BK232 := n1_; have BK233 := n2_; have HB := n3_; clear n0_ n1_ n2_ n3_; (try clear hb); (try clear hb2); (try clear hk); (try clear hi)) | ((with_reducible refine gate_dst (N := 5) rfl ?_); refine box_event ?hg (N := 5) ?hd (cs := #[.int .i64 0, .int .i64 0, .int .i64 0, .int .i64 0]) (t := 61) ?hr ?_; (case hd => rfl); (case hg => rfl); (case hr => first | (go_simp; done) | (go_simp; rfl)); intro gb244 hg w35 hbox hb; have n0_ := am_ (bb_ BK231.out hb); have n1_ := am_ (bb_ BK232.out hb); have n2_ := am_ (bb_ BK233.out hb); have n3_ := am_ (below_step (ue_ HB.out) hb); have n4_ := am_ (hbox); have n5_ := am_ ((by rw [hg]; exact (below_size (ue_ HB.out)) : w.heap.size ≤ gb244)); have n6_ := am_ ((by rw [hg]; exact (below_size (ue_ HB.out)) : w.heap.size ≤ gb244)); have n7_ := am_ ((by rw [hg]; exact Nat.ne_of_lt (bl_ BK231.out) : gb231 ≠ gb244)); have n8_ := am_ ((by rw [hg]; exact Nat.ne_of_gt (bl_ BK231.out) : gb244 ≠ gb231)); have n9_ := am_ ((by rw [hg]; exact Nat.ne_of_lt (bl_ BK232.out) : gb232 ≠ gb244)); have n10_ := am_ ((by rw [hg]; exact Nat.ne_of_gt (bl_ BK232.out) : gb244 ≠ gb232)); have n11_ := am_ ((by rw [hg]; exact Nat.ne_of_lt (bl_ BK233.out) : gb233 ≠ gb244)); have n12_ := am_ ((by rw [hg]; exact Nat.ne_of_gt (bl_ BK233.out) : gb244 ≠ gb233)); clear BK231 BK232 BK233 HB; have BK231 := n0_; have BK232 := n1_; have BK233 := n2_; have HB := n3_; have BK244 := n4_; have GW244 := n5_; have GE244 := n6_; have NB231_244 := n7_; have NB244_231 := n8_; have NB232_244 := n9_; have NB244_232 := n10_; have NB233_244 := n11_; have NB244_233 := n12_; clear n0_ n1_ n2_ n3_ n4_ n5_ n6_ n7_ n8_ n9_ n10_ n11_ n12_; clear hb hbox hg; have hnb36 := NB244_231.out; have hnc36 := NB231_244.out; have hnb37 := NB244_232.out; have hnc37 := NB232_244.out; have hnb38 := NB244_233.out; have hnc38 := NB233_244.out; obtain ⟨hcz39_0, hcz39_1, hcz39_2, hcz39_3⟩ := cb4_ BK244.out; obtain ⟨hfz39_0, hfz39_1, hfz39_2⟩ := bf3_ BK244.out; have hfz39_3 := blk_frozen BK244.out 3) | ((with_reducible refine gate_store (t := 61) (p := 5) rfl ?_); refine store_event (t := 61) (p := 5) (v := ?vo_w40) (w1 := ((((w35.setCell ⟨gb244, 0, none⟩ (.int .i64 t239)).setCell ⟨gb244, 1, none⟩ (.int .i64 t240)).setCell ⟨gb244, 2, none⟩ (.int .i64 t241)).setCell ⟨gb244, 3, none⟩ (.int .i64 t242))) ?hg ?ho ?hn ?hr ?_; (case ho => rfl); (case hg => rfl); (case hn => rfl); (case hr => first | (go_simp; done) | (go_simp; rfl)); intro w40 hw; have n0_ : Aside0 (w40.heap[gb231]? = some (.cells #[.slice A0_0 l0_0.length c0_0, .bool a0_1] 102 (0, 0))) := ⟨(by rw [hw]; exact (uf_ BK231.out))⟩; have n1_ : Aside0 (w40.heap[gb232]? = some (.cells #[.slice none 0 0, .bool false] 102 (0, 0))) := ⟨(by rw [hw]; exact (uf_ BK232.out))⟩; have n2_ : Aside0 (w40.heap[gb233]? = some (.cells #[.int .i64 0, .int .i64 0, .int .i64 0, .int .i64 0] 61 (0, 0))) := ⟨(by rw [hw]; exact (uf_ BK233.out))⟩; have n3_ : Aside0 (w40.heap[gb244]? = some (.cells #[.int .i64 t239, .int .i64 t240, .int .i64 t241, .int .i64 t242] 61 (0, 0))) := ⟨(by rw [hw]; exact (by (with_reducible repeat first|apply bn_|apply bd_|apply ba_); refine blk_put (cs := #[.int .i64 t239, .int .i64 t240, .int .i64 t241, .int .i64 0]) ?_ 3 _ rfl; refine blk_put (cs := #[.int .i64 t239, .int .i64 t240, .int .i64 0, .int .i64 0]) ?_ 2 _ rfl; refine blk_put (cs := #[.int .i64 t239, .int .i64 0, .int .i64 0, .int .i64 0]) ?_ 1 _ rfl; refine blk_put (cs := #[.int .i64 0, .int .i64 0, .int .i64 0, .int .i64 0]) ?_ 0 _ rfl; (with_reducible repeat first|apply bn_|apply bd_|apply ba_); exact BK244.out))⟩; have n4_ : Aside0 (Below w.heap.size w w40) := ⟨(by rw [hw]; exact (ue_ HB.out))⟩; clear hw BK231 BK232 BK233 BK244 HB; have BK231 := n0_; have BK232 := n1_; have BK233 := n2_; have BK244 := n3_; have HB := n4_; clear n0_ n1_ n2_ n3_ n4_; have hnb41 := NB232_233.out; have hnc41 := NB233_232.out; obtain ⟨hcz42_0, hcz42_1⟩ := cb2_ BK232.out; have hfz42_0 := blk_frozen BK232.out 0; have hfz42_1 := blk_frozen BK232.out 1) | ((with_reducible refine gate_store (t := 102) (p := 2) rfl ?_); refine store_event (t := 102) (p := 2) (v := ?vo_w43) (w1 := ((w40.setCell ⟨gb232, 0, none⟩ (.slice none 0 0)).setCell ⟨gb232, 1, none⟩ (.bool true))) ?hg ?ho ?hn ?hr ?_; (case ho => rfl); (case hg => rfl); (case hn => rfl); (case hr => first | (go_simp; done) | (go_simp; rfl)); intro w43 hw; have n0_ : Aside0 (w43.heap[gb231]? = some (.cells #[.slice A0_0 l0_0.length c0_0, .bool a0_1] 102 (0, 0))) := ⟨(by rw [hw]; exact (uf_ BK231.out))⟩; have n1_ : Aside0 (w43.heap[gb232]? = some (.cells #[.slice none 0 0, .bool true] 102 (0, 0))) := ⟨(by rw [hw]; exact (by (with_reducible repeat first|apply bn_|apply bd_|apply ba_); refine blk_put (cs := #[.slice none 0 0, .bool false]) ?_ 1 _ rfl; refine blk_put (cs := #[.slice none 0 0, .bool false]) ?_ 0 _ rfl; (with_reducible repeat first|apply bn_|apply bd_|apply ba_); exact BK232.out))⟩; have n2_ : Aside0 (w43.heap[gb233]? = some (.cells #[.int .i64 0, .int .i64 0, .int .i64 0, .int .i64 0] 61 (0, 0))) := ⟨(by rw [hw]; exact (uf_ BK233.out))⟩; have n3_ : Aside0 (w43.heap[gb244]? = some (.cells #[.int .i64 t239, .int .i64 t240, .int .i64 t241, .int .i64 t242] 61 (0, 0))) := ⟨(by rw [hw]; exact (uf_ BK244.out))⟩; have n4_ : Aside0 (Below w.heap.size w w43) := ⟨(by rw [hw]; exact (ue_ HB.out))⟩; clear hw BK231 BK232 BK233 BK244 HB; have BK231 := n0_; have BK232 := n1_; have BK233 := n2_; have BK244 := n3_; have HB := n4_; clear n0_ n1_ n2_ n3_ n4_; obtain ⟨hcz44_0, hcz44_1, hcz44_2, hcz44_3⟩ := cb4_ BK233.out; obtain ⟨hfz44_0, hfz44_1, hfz44_2⟩ := bf3_ BK233.out; have hfz44_3 := blk_frozen BK233.out 3) | ((with_reducible refine gate_store (t := 61) (p := 3) rfl ?_); refine store_event (t := 61) (p := 3) (v := ?vo_w45) (w1 := ((((w43.setCell ⟨gb233, 0, none⟩ (.int .i64 0)).setCell ⟨gb233, 1, none⟩ (.int .i64 0)).setCell ⟨gb233, 2, none⟩ (.int .i64 0)).setCell ⟨gb233, 3, none⟩ (.int .i64 0))) ?hg ?ho ?hn ?hr ?_; (case ho => rfl); (case hg => rfl); (case hn => rfl); (case hr => first | (go_simp; done) | (go_simp; rfl)); intro w45 hw; have n0_ : Aside0 (w45.heap[gb231]? = some (.cells #[.slice A0_0 l0_0.length c0_0, .bool a0_1] 102 (0, 0))) := ⟨(by rw [hw]; exact (uf_ BK231.out))⟩; have n1_ : Aside0 (w45.heap[gb232]? = some (.cells #[.slice none 0 0, .bool true] 102 (0, 0))) := ⟨(by rw [hw]; exact (uf_ BK232.out))⟩; have n2_ : Aside0 (w45.heap[gb233]? = some (.cells #[.int .i64 0, .int .i64 0, .int .i64 0, .int .i64 0] 61 (0, 0))) := ⟨(by rw [hw]; exact (by (with_reducible repeat first|apply bn_|apply bd_|apply ba_); refine blk_put (cs := #[.int .i64 0, .int .i64 0, .int .i64 0, .int .i64 0]) ?_ 3 _ rfl; refine blk_put (cs := #[.int .i64 0, .int .i64 0, .int .i64 0, .int .i64 0]) ?_ 2 _ rfl; refine blk_put (cs := #[.int .i64 0, .int .i64 0, .int .i64 0, .int .i64 0]) ?_ 1 _ rfl; refine blk_put (cs := #[.int .i64 0, .int .i64 0, .int .i64 0, .int .i64 0]) ?_ 0 _ rfl; (with_reducible repeat first|apply bn_|apply bd_|apply ba_); exact BK233.out))⟩; have n3_ : Aside0 (w45.heap[gb244]? = some (.cells #[.int .i64 t239, .int .i64 t240, .int .i64 t241, .int .i64 t242] 61 (0, 0))) := ⟨(by rw [hw]; exact (uf_ BK244.out))⟩; have n4_ : Aside0 (Below w.heap.size w w45) := ⟨(by rw [hw]; exact (ue_ HB.out))⟩; clear hw BK231 BK232 BK233 BK244 HB; have BK231 := n0_; have BK232 := n1_; have BK233 := n2_; have BK244 := n3_; have HB := n4_; clear n0_ n1_ n2_ n3_ n4_))
     refine bodyPost_ret (results_list (rs := [.cell 2 102, .cell 3 61, .tmp 4]) rfl (by simp) (.cell gb232 102 #[.slice none 0 0, .bool true] (0, 0) _ rfl (ub_ BK232.out) Try.underlying102 rfl (by kernel_rfl) (.cell gb233 61 #[.int .i64 0, .int .i64 0, .int .i64 0, .int .i64 0] (0, 0) _ rfl (ub_ BK233.out) Try.underlying61 rfl (by kernel_rfl) (.tmp .nil)))) rfl ?_
     exact ⟨_, ew_, by first | exact Kd.R_nil _ _ _ _ _ | exact Kd.N_nil _ _ _ _ _ | exact Kd.V_nil _ _ _ _ _ | exact Kd.Q_nil _ _ _ _ _ | exact Kd.S_nil _ _ _ _ _, ue_ HB.out⟩
    ·
     rw [if_neg c30] at H
     have c30b0 : decide (t243 < 0) = false := decide_eq_false c30
     clear c30
     by_cases c46 : t243 = 0
     ·
      rw [if_pos c46] at H
      have c46b0 : (t243 == 0) = true := beq_iff_eq.mpr c46
      have c46b1 : (t243 != 0) = false := bne_eq_false_iff_eq.mpr c46
      clear c46
      replace H := Option.bind_eq_some_iff.mp H
      obtain ⟨⟨t245, t248⟩, A470, H⟩ := H
      replace H : (some (t245, t248, 0, 0, 0, 0, 1)) = some (r1, r2, r3, r4, r5, r6, r7) := H
      have A47 := Aside0.mk A470
      clear A470
      simp only [Option.some.injEq, Prod.mk.injEq] at H
      obtain ⟨rfl, rfl, rfl, rfl, rfl, rfl, rfl⟩ := H
      have hnb48 := NB231_232.out
      have hnc48 := NB232_231.out
      have hnb49 := NB231_233.out
      have hnc49 := NB233_231.out
      have hcz50_0 := cb_ BK231.out 0 rfl
      have hcz50_1 := cb_ BK231.out 1 rfl
      have hfz50_0 := blk_frozen BK231.out 0
      have hfz50_1 := blk_frozen BK231.out 1
      go_wp2_with (first | ((with_reducible refine gate_callee (f := 60) rfl ?_); refine goesL_ (some 20) rfl rfl Try.func60 (by kernel_rfl) rfl #[.slice A0_0 l0_0.length c0_0] rfl ul_ ?_; (with_reducible refine (spec_TakeFrame.calls kj1 _ _ l0_0 t239 t240 t241 t242 t243 _ ?side1 ?side2 A29.out).mono ?_); (case side1 => repeat (first | exact (Kd.C_below HR0_0.out HB.out) | (with_reducible refine Kd.C_alloc ?_ _) | (with_reducible refine Kd.C_drewN ?_ _) | (with_reducible refine Kd.C_drew ?_))); (case side2 => exact HC0_0.out); rintro e w51 ⟨rfl, hb⟩; refine ⟨_, rfl, ?_⟩; have n0_ := am_ (bb_ BK231.out hb); have n1_ := am_ (bb_ BK232.out hb); have n2_ := am_ (bb_ BK233.out hb); have n3_ := am_ (below_step (ue_ HB.out) hb); clear BK231 BK232 BK233 HB; have BK231 := n0_; have BK232 := n1_; have BK233 := n2_; have HB := n3_; clear n0_ n1_ n2_ n3_; (try clear hb); (try clear hb2); (try clear hk); (try clear hi)) | ((with_reducible refine gate_dst (N := 5) rfl ?_); refine box_event ?hg (N := 5) ?hd (cs := #[.int .i64 0, .int .i64 0, .int .i64 0, .int .i64 0]) (t := 61) ?hr ?_; (case hd => rfl); (case hg => rfl); (case hr => first | (go_simp; done) | (go_simp; rfl)); intro gb244 hg w52 hbox hb; have n0_ := am_ (bb_ BK231.out hb); have n1_ := am_ (bb_ BK232.out hb); have n2_ := am_ (bb_ BK233.out hb); have n3_ := am_ (below_step (ue_ HB.out) hb); have n4_ := am_ (hbox); have n5_ := am_ ((by rw [hg]; exact (below_size (ue_ HB.out)) : w.heap.size ≤ gb244)); have n6_ := am_ ((by rw [hg]; exact (below_size (ue_ HB.out)) : w.heap.size ≤ gb244)); have n7_ := am_ ((by rw [hg]; exact Nat.ne_of_lt (bl_ BK231.out) : gb231 ≠ gb244)); have n8_ := am_ ((by rw [hg]; exact Nat.ne_of_gt (bl_ BK231.out) : gb244 ≠ gb231)); have n9_ := am_ ((by rw [hg]; exact Nat.ne_of_lt (bl_ BK232.out) : gb232 ≠ gb244)); have n10_ := am_ ((by rw [hg]; exact Nat.ne_of_gt (bl_ BK232.out) : gb244 ≠ gb232)); have n11_ := am_ ((by rw [hg]; exact Nat.ne_of_lt (bl_ BK233.out) : gb233 ≠ gb244)); have n12_ := am_ ((by rw [hg]; exact Nat.ne_of_gt (bl_ BK233.out) : gb244 ≠ gb233)); clear BK231 BK232 BK233 HB; have BK231 := n0_; have BK232 := n1_; have BK233 := n2_; have HB := n3_; have BK244 := n4_; have GW244 := n5_; have GE244 := n6_; have NB231_244 := n7_; have NB244_231 := n8_; have NB232_244 := n9_; have NB244_232 := n10_; have NB233_244 := n11_; have NB244_233 := n12_; clear n0_ n1_ n2_ n3_ n4_ n5_ n6_ n7_ n8_ n9_ n10_ n11_ n12_; clear hb hbox hg; have hnb53 := NB244_231.out; have hnc53 := NB231_244.out; have hnb54 := NB244_232.out; have hnc54 := NB232_244.out; have hnb55 := NB244_233.out; have hnc55 := NB233_244.out; obtain ⟨hcz56_0, hcz56_1, hcz56_2, hcz56_3⟩ := cb4_ BK244.out; obtain ⟨hfz56_0, hfz56_1, hfz56_2⟩ := bf3_ BK244.out; have hfz56_3 := blk_frozen BK244.out 3) | ((with_reducible refine gate_store (t := 61) (p := 5) rfl ?_); refine store_event (t := 61) (p := 5) (v := ?vo_w57) (w1 := ((((w52.setCell ⟨gb244, 0, none⟩ (.int .i64 t239)).setCell ⟨gb244, 1, none⟩ (.int .i64 t240)).setCell ⟨gb244, 2, none⟩ (.int .i64 t241)).setCell ⟨gb244, 3, none⟩ (.int .i64 t242))) ?hg ?ho ?hn ?hr ?_; (case ho => rfl); (case hg => rfl); (case hn => rfl); (case hr => first | (go_simp; done) | (go_simp; rfl)); intro w57 hw; have n0_ : Aside0 (w57.heap[gb231]? = some (.cells #[.slice A0_0 l0_0.length c0_0, .bool a0_1] 102 (0, 0))) := ⟨(by rw [hw]; exact (uf_ BK231.out))⟩; have n1_ : Aside0 (w57.heap[gb232]? = some (.cells #[.slice none 0 0, .bool false] 102 (0, 0))) := ⟨(by rw [hw]; exact (uf_ BK232.out))⟩; have n2_ : Aside0 (w57.heap[gb233]? = some (.cells #[.int .i64 0, .int .i64 0, .int .i64 0, .int .i64 0] 61 (0, 0))) := ⟨(by rw [hw]; exact (uf_ BK233.out))⟩; have n3_ : Aside0 (w57.heap[gb244]? = some (.cells #[.int .i64 t239, .int .i64 t240, .int .i64 t241, .int .i64 t242] 61 (0, 0))) := ⟨(by rw [hw]; exact (by (with_reducible repeat first|apply bn_|apply bd_|apply ba_); refine blk_put (cs := #[.int .i64 t239, .int .i64 t240, .int .i64 t241, .int .i64 0]) ?_ 3 _ rfl; refine blk_put (cs := #[.int .i64 t239, .int .i64 t240, .int .i64 0, .int .i64 0]) ?_ 2 _ rfl; refine blk_put (cs := #[.int .i64 t239, .int .i64 0, .int .i64 0, .int .i64 0]) ?_ 1 _ rfl; refine blk_put (cs := #[.int .i64 0, .int .i64 0, .int .i64 0, .int .i64 0]) ?_ 0 _ rfl; (with_reducible repeat first|apply bn_|apply bd_|apply ba_); exact BK244.out))⟩; have n4_ : Aside0 (Below w.heap.size w w57) := ⟨(by rw [hw]; exact (ue_ HB.out))⟩; clear hw BK231 BK232 BK233 BK244 HB; have BK231 := n0_; have BK232 := n1_; have BK233 := n2_; have BK244 := n3_; have HB := n4_; clear n0_ n1_ n2_ n3_ n4_; obtain ⟨hcz58_0, hcz58_1⟩ := cb2_ BK231.out; have hfz58_0 := blk_frozen BK231.out 0; have hfz58_1 := blk_frozen BK231.out 1) | ((with_reducible refine gate_callee (f := 150) rfl ?_); refine goesL_ (some 30) rfl rfl Try.func150 (by kernel_rfl) rfl #[.agg #[.slice A0_0 l0_0.length c0_0, .bool a0_1]] rfl ul_ ?_; (with_reducible refine (spec_l02Copy.calls kj1 _ _ l0_0 a0_1 t245 t248 _ ?side1 ?side2 A47.out).mono ?_); (case side1 => repeat (first | exact (Kd.C_below HR0_0.out HB.out) | (with_reducible refine Kd.C_alloc ?_ _) | (with_reducible refine Kd.C_drewN ?_ _) | (with_reducible refine Kd.C_drew ?_))); (case side2 => exact HC0_0.out); rintro e w59 ⟨v246, rfl, ho0, hb⟩; refine ⟨_, rfl, ?_⟩; have n0_ := am_ (Kd.R_lower ho0 (below_size (ue_ HB.out))); have n1_ := am_ (bb_ BK231.out hb); have n2_ := am_ (bb_ BK232.out hb); have n3_ := am_ (bb_ BK233.out hb); have n4_ := am_ (bb_ BK244.out hb); have n5_ := am_ (below_step (ue_ HB.out) hb); clear BK231 BK232 BK233 BK244 HB; have HO247 := n0_; have BK231 := n1_; have BK232 := n2_; have BK233 := n3_; have BK244 := n4_; have HB := n5_; clear n0_ n1_ n2_ n3_ n4_ n5_; (try clear hb); (try clear hb2); (try clear hk); (try clear hi); (try clear ho0); obtain ⟨Ao60, co60, eo60⟩ := Kd.R_slice HO247.out; subst eo60; have hnb61 := NB232_233.out; have hnc61 := NB233_232.out; obtain ⟨hcz62_0, hcz62_1⟩ := cb2_ BK232.out; have hfz62_0 := blk_frozen BK232.out 0; have hfz62_1 := blk_frozen BK232.out 1) | ((with_reducible refine gate_store (t := 102) (p := 2) rfl ?_); refine store_event (t := 102) (p := 2) (v := ?vo_w63) (w1 := ((w59.setCell ⟨gb232, 0, none⟩ (.slice Ao60 t245.length co60)).setCell ⟨gb232, 1, none⟩ (.bool t248))) ?hg ?ho ?hn ?hr ?_; (case ho => rfl); (case hg => rfl); (case hn => rfl); (case hr => first | (go_simp; done) | (go_simp; rfl)); intro w63 hw; have n0_ : Aside0 (Kd.R (Kd.int .u8) 5 w63 w.heap.size (fun _ => True) (.slice Ao60 t245.length co60) t245) := ⟨(by rw [hw]; exact (by (with_reducible repeat (first | apply Kd.R_alloc | apply Kd.R_drewN | apply Kd.R_drew)); exact Kd.R_mono (Kd.R_far (p := ⟨gb232, 1, none⟩) (Kd.R_far (p := ⟨gb232, 0, none⟩) (Kd.R_types HO247.out BK232.out (by decide)) (fun _ hk => by first | exact hk.2 | grind) (.slice Ao60 t245.length co60)) (fun _ hk => by first | exact hk.2 | grind) (.bool t248)) (fun _ hk => trivial)))⟩; have n1_ : Aside0 (w63.heap[gb231]? = some (.cells #[.slice A0_0 l0_0.length c0_0, .bool a0_1] 102 (0, 0))) := ⟨(by rw [hw]; exact (uf_ BK231.out))⟩; have n2_ : Aside0 (w63.heap[gb232]? = some (.cells #[.slice Ao60 t245.length co60, .bool t248] 102 (0, 0))) := ⟨(by rw [hw]; exact (by (with_reducible repeat first|apply bn_|apply bd_|apply ba_); refine blk_put (cs := #[.slice Ao60 t245.length co60, .bool false]) ?_ 1 _ rfl; refine blk_put (cs := #[.slice none 0 0, .bool false]) ?_ 0 _ rfl; (with_reducible repeat first|apply bn_|apply bd_|apply ba_); exact BK232.out))⟩; have n3_ : Aside0 (w63.heap[gb233]? = some (.cells #[.int .i64 0, .int .i64 0, .int .i64 0, .int .i64 0] 61 (0, 0))) := ⟨(by rw [hw]; exact (uf_ BK233.out))⟩; have n4_ : Aside0 (w63.heap[gb244]? = some (.cells #[.int .i64 t239, .int .i64 t240, .int .i64 t241, .int .i64 t242] 61 (0, 0))) := ⟨(by rw [hw]; exact (uf_ BK244.out))⟩; have n5_ : Aside0 (Below w.heap.size w w63) := ⟨(by rw [hw]; exact (ue_ HB.out))⟩; clear hw HO247 BK231 BK232 BK233 BK244 HB; have HO247 := n0_; have BK231 := n1_; have BK232 := n2_; have BK233 := n3_; have BK244 := n4_; have HB := n5_; clear n0_ n1_ n2_ n3_ n4_ n5_; obtain ⟨hcz64_0, hcz64_1, hcz64_2, hcz64_3⟩ := cb4_ BK233.out; obtain ⟨hfz64_0, hfz64_1, hfz64_2⟩ := bf3_ BK233.out; have hfz64_3 := blk_frozen BK233.out 3) | ((with_reducible refine gate_store (t := 61) (p := 3) rfl ?_); refine store_event (t := 61) (p := 3) (v := ?vo_w65) (w1 := ((((w63.setCell ⟨gb233, 0, none⟩ (.int .i64 0)).setCell ⟨gb233, 1, none⟩ (.int .i64 0)).setCell ⟨gb233, 2, none⟩ (.int .i64 0)).setCell ⟨gb233, 3, none⟩ (.int .i64 0))) ?hg ?ho ?hn ?hr ?_; (case ho => rfl); (case hg => rfl); (case hn => rfl); (case hr => first | (go_simp; done) | (go_simp; rfl)); intro w65 hw; have n0_ : Aside0 (Kd.R (Kd.int .u8) 5 w65 w.heap.size (fun _ => True) (.slice Ao60 t245.length co60) t245) := ⟨(by rw [hw]; exact (by (with_reducible repeat (first | apply Kd.R_alloc | apply Kd.R_drewN | apply Kd.R_drew)); exact Kd.R_mono (Kd.R_far (p := ⟨gb233, 3, none⟩) (Kd.R_far (p := ⟨gb233, 2, none⟩) (Kd.R_far (p := ⟨gb233, 1, none⟩) (Kd.R_far (p := ⟨gb233, 0, none⟩) (Kd.R_types HO247.out BK233.out (by decide)) (fun _ hk => by first | exact hk.2 | grind) (.int .i64 0)) (fun _ hk => by first | exact hk.2 | grind) (.int .i64 0)) (fun _ hk => by first | exact hk.2 | grind) (.int .i64 0)) (fun _ hk => by first | exact hk.2 | grind) (.int .i64 0)) (fun _ hk => trivial)))⟩; have n1_ : Aside0 (w65.heap[gb231]? = some (.cells #[.slice A0_0 l0_0.length c0_0, .bool a0_1] 102 (0, 0))) := ⟨(by rw [hw]; exact (uf_ BK231.out))⟩; have n2_ : Aside0 (w65.heap[gb232]? = some (.cells #[.slice Ao60 t245.length co60, .bool t248] 102 (0, 0))) := ⟨(by rw [hw]; exact (uf_ BK232.out))⟩; have n3_ : Aside0 (w65.heap[gb233]? = some (.cells #[.int .i64 0, .int .i64 0, .int .i64 0, .int .i64 0] 61 (0, 0))) := ⟨(by rw [hw]; exact (by (with_reducible repeat first|apply bn_|apply bd_|apply ba_); refine blk_put (cs := #[.int .i64 0, .int .i64 0, .int .i64 0, .int .i64 0]) ?_ 3 _ rfl; refine blk_put (cs := #[.int .i64 0, .int .i64 0, .int .i64 0, .int .i64 0]) ?_ 2 _ rfl; refine blk_put (cs := #[.int .i64 0, .int .i64 0, .int .i64 0, .int .i64 0]) ?_ 1 _ rfl; refine blk_put (cs := #[.int .i64 0, .int .i64 0, .int .i64 0, .int .i64 0]) ?_ 0 _ rfl; (with_reducible repeat first|apply bn_|apply bd_|apply ba_); exact BK233.out))⟩; have n4_ : Aside0 (w65.heap[gb244]? = some (.cells #[.int .i64 t239, .int .i64 t240, .int .i64 t241, .int .i64 t242] 61 (0, 0))) := ⟨(by rw [hw]; exact (uf_ BK244.out))⟩; have n5_ : Aside0 (Below w.heap.size w w65) := ⟨(by rw [hw]; exact (ue_ HB.out))⟩; clear hw HO247 BK231 BK232 BK233 BK244 HB; have HO247 := n0_; have BK231 := n1_; have BK232 := n2_; have BK233 := n3_; have BK244 := n4_; have HB := n5_; clear n0_ n1_ n2_ n3_ n4_ n5_))
      refine bodyPost_ret (results_list (rs := [.cell 2 102, .cell 3 61, .tmp 4]) rfl (by simp) (.cell gb232 102 #[.slice Ao60 t245.length co60, .bool t248] (0, 0) _ rfl (ub_ BK232.out) Try.underlying102 rfl (by kernel_rfl) (.cell gb233 61 #[.int .i64 0, .int .i64 0, .int .i64 0, .int .i64 0] (0, 0) _ rfl (ub_ BK233.out) Try.underlying61 rfl (by kernel_rfl) (.tmp .nil)))) rfl ?_
      exact ⟨_, ew_, by (with_reducible repeat (first | apply Kd.R_alloc | apply Kd.R_drewN | apply Kd.R_drew)); exact HO247.out, ue_ HB.out⟩
     ·
      rw [if_neg c46] at H
      have c46b0 : (t243 == 0) = false := beq_eq_false_iff_ne.mpr c46
      have c46b1 : (t243 != 0) = true := bne_iff_ne.mpr c46
      by_cases c66 : 0 ≤ t243
      ·
       rw [if_pos c66] at H
       have c66b0 := eq_true c66
       have c66b1 : decide (0 ≤ t243) = true := decide_eq_true c66
       clear c66
       by_cases c67 : t243 ≤ (l0_0.length : Int)
       ·
        rw [if_pos c67] at H
        have c67b0 := eq_true c67
        have c67b1 : decide (t243 ≤ (l0_0.length : Int)) = true := decide_eq_true c67
        clear c67
        replace H := Option.bind_eq_some_iff.mp H
        obtain ⟨t250, A680, H⟩ := H
        replace H : (some (t250, false, t239, t240, t241, t242, 0)) = some (r1, r2, r3, r4, r5, r6, r7) := H
        have A68 := Aside0.mk A680
        clear A680
        simp only [Option.some.injEq, Prod.mk.injEq] at H
        obtain ⟨rfl, rfl, rfl, rfl, rfl, rfl, rfl⟩ := H
        have hnb69 := NB231_232.out
        have hnc69 := NB232_231.out
        have hnb70 := NB231_233.out
        have hnc70 := NB233_231.out
        have hcz71_0 := cb_ BK231.out 0 rfl
        have hcz71_1 := cb_ BK231.out 1 rfl
        have hfz71_0 := blk_frozen BK231.out 0
        have hfz71_1 := blk_frozen BK231.out 1
        try go_wp2_with (first | ((with_reducible refine gate_callee (f := 60) rfl ?_); refine goesL_ (some 20) rfl rfl Try.func60 (by kernel_rfl) rfl #[.slice A0_0 l0_0.length c0_0] rfl ul_ ?_; (with_reducible refine (spec_TakeFrame.calls kj1 _ _ l0_0 t239 t240 t241 t242 t243 _ ?side1 ?side2 A29.out).mono ?_); (case side1 => repeat (first | exact (Kd.C_below HR0_0.out HB.out) | (with_reducible refine Kd.C_alloc ?_ _) | (with_reducible refine Kd.C_drewN ?_ _) | (with_reducible refine Kd.C_drew ?_))); (case side2 => exact HC0_0.out); rintro e w72 ⟨rfl, hb⟩; refine ⟨_, rfl, ?_⟩; have n0_ := am_ (bb_ BK231.out hb); have n1_ := am_ (bb_ BK232.out hb); have n2_ := am_ (bb_ BK233.out hb); have n3_ := am_ (below_step (ue_ HB.out) hb); clear BK231 BK232 BK233 HB; have BK231 := n0_; have BK232 := n1_; have BK233 := n2_; have HB := n3_; clear n0_ n1_ n2_ n3_; (try clear hb); (try clear hb2); (try clear hk); (try clear hi)) | ((with_reducible refine gate_dst (N := 5) rfl ?_); refine box_event ?hg (N := 5) ?hd (cs := #[.int .i64 0, .int .i64 0, .int .i64 0, .int .i64 0]) (t := 61) ?hr ?_; (case hd => rfl); (case hg => rfl); (case hr => first | (go_simp; done) | (go_simp; rfl)); intro gb244 hg w73 hbox hb; have n0_ := am_ (bb_ BK231.out hb); have n1_ := am_ (bb_ BK232.out hb); have n2_ := am_ (bb_ BK233.out hb); have n3_ := am_ (below_step (ue_ HB.out) hb); have n4_ := am_ (hbox); have n5_ := am_ ((by rw [hg]; exact (below_size (ue_ HB.out)) : w.heap.size ≤ gb244)); have n6_ := am_ ((by rw [hg]; exact (below_size (ue_ HB.out)) : w.heap.size ≤ gb244)); have n7_ := am_ ((by rw [hg]; exact Nat.ne_of_lt (bl_ BK231.out) : gb231 ≠ gb244)); have n8_ := am_ ((by rw [hg]; exact Nat.ne_of_gt (bl_ BK231.out) : gb244 ≠ gb231)); have n9_ := am_ ((by rw [hg]; exact Nat.ne_of_lt (bl_ BK232.out) : gb232 ≠ gb244)); have n10_ := am_ ((by rw [hg]; exact Nat.ne_of_gt (bl_ BK232.out) : gb244 ≠ gb232)); have n11_ := am_ ((by rw [hg]; exact Nat.ne_of_lt (bl_ BK233.out) : gb233 ≠ gb244)); have n12_ := am_ ((by rw [hg]; exact Nat.ne_of_gt (bl_ BK233.out) : gb244 ≠ gb233)); clear BK231 BK232 BK233 HB; have BK231 := n0_; have BK232 := n1_; have BK233 := n2_; have HB := n3_; have BK244 := n4_; have GW244 := n5_; have GE244 := n6_; have NB231_244 := n7_; have NB244_231 := n8_; have NB232_244 := n9_; have NB244_232 := n10_; have NB233_244 := n11_; have NB244_233 := n12_; clear n0_ n1_ n2_ n3_ n4_ n5_ n6_ n7_ n8_ n9_ n10_ n11_ n12_; clear hb hbox hg; have hnb74 := NB244_231.out; have hnc74 := NB231_244.out; have hnb75 := NB244_232.out; have hnc75 := NB232_244.out; have hnb76 := NB244_233.out; have hnc76 := NB233_244.out; obtain ⟨hcz77_0, hcz77_1, hcz77_2, hcz77_3⟩ := cb4_ BK244.out; obtain ⟨hfz77_0, hfz77_1, hfz77_2⟩ := bf3_ BK244.out; have hfz77_3 := blk_frozen BK244.out 3) | ((with_reducible refine gate_store (t := 61) (p := 5) rfl ?_); refine store_event (t := 61) (p := 5) (v := ?vo_w78) (w1 := ((((w73.setCell ⟨gb244, 0, none⟩ (.int .i64 t239)).setCell ⟨gb244, 1, none⟩ (.int .i64 t240)).setCell ⟨gb244, 2, none⟩ (.int .i64 t241)).setCell ⟨gb244, 3, none⟩ (.int .i64 t242))) ?hg ?ho ?hn ?hr ?_; (case ho => rfl); (case hg => rfl); (case hn => rfl); (case hr => first | (go_simp; done) | (go_simp; rfl)); intro w78 hw; have n0_ : Aside0 (w78.heap[gb231]? = some (.cells #[.slice A0_0 l0_0.length c0_0, .bool a0_1] 102 (0, 0))) := ⟨(by rw [hw]; exact (uf_ BK231.out))⟩; have n1_ : Aside0 (w78.heap[gb232]? = some (.cells #[.slice none 0 0, .bool false] 102 (0, 0))) := ⟨(by rw [hw]; exact (uf_ BK232.out))⟩; have n2_ : Aside0 (w78.heap[gb233]? = some (.cells #[.int .i64 0, .int .i64 0, .int .i64 0, .int .i64 0] 61 (0, 0))) := ⟨(by rw [hw]; exact (uf_ BK233.out))⟩; have n3_ : Aside0 (w78.heap[gb244]? = some (.cells #[.int .i64 t239, .int .i64 t240, .int .i64 t241, .int .i64 t242] 61 (0, 0))) := ⟨(by rw [hw]; exact (by (with_reducible repeat first|apply bn_|apply bd_|apply ba_); refine blk_put (cs := #[.int .i64 t239, .int .i64 t240, .int .i64 t241, .int .i64 0]) ?_ 3 _ rfl; refine blk_put (cs := #[.int .i64 t239, .int .i64 t240, .int .i64 0, .int .i64 0]) ?_ 2 _ rfl; refine blk_put (cs := #[.int .i64 t239, .int .i64 0, .int .i64 0, .int .i64 0]) ?_ 1 _ rfl; refine blk_put (cs := #[.int .i64 0, .int .i64 0, .int .i64 0, .int .i64 0]) ?_ 0 _ rfl; (with_reducible repeat first|apply bn_|apply bd_|apply ba_); exact BK244.out))⟩; have n4_ : Aside0 (Below w.heap.size w w78) := ⟨(by rw [hw]; exact (ue_ HB.out))⟩; clear hw BK231 BK232 BK233 BK244 HB; have BK231 := n0_; have BK232 := n1_; have BK233 := n2_; have BK244 := n3_; have HB := n4_; clear n0_ n1_ n2_ n3_ n4_))
        have n0_ := am_ (blk_drew BK231.out)
        have n1_ := am_ (blk_drew BK232.out)
        have n2_ := am_ (blk_drew BK233.out)
        have n3_ := am_ (blk_drew BK244.out)
        have n4_ := am_ (below_drew1 HB.out)
        clear BK231
        clear BK232
        clear BK233
        clear BK244
        clear HB
        have BK231 := n0_
        have BK232 := n1_
        have BK233 := n2_
        have BK244 := n3_
        have HB := n4_
        clear n0_ n1_ n2_ n3_ n4_
        obtain ⟨i080, hi080, _, hsz80, _⟩ := info_parts info5
        obtain ⟨A80, hcut80, hA80, hC80⟩ := print_drop_of (P := Try.prog) (Value.int .u8) 0 49 5 .i64 Try.underlying49 hi080 hsz80 A0_0 c0_0 l0_0 t243 (of_decide_eq_true ua_) (of_decide_eq_true ua_) HC0_0.out
        have HR249 := am_ (Kd.C_of_reads (h1 := fun _ => rfl) (hA80 _ (Kd.reads_of_C HR0_0.out)))
        have HC249 := Aside0.mk hC80
        clear hA80 hC80 hi080 hsz80
        refine start_ (n := 10) (S := fun w' => w'.cell? ⟨gb231, 0, none⟩ = some (.slice A0_0 l0_0.length c0_0) ∧ w'.cell? ⟨gb231, 1, none⟩ = some (.bool a0_1) ∧ w'.cell? ⟨gb244, 0, none⟩ = some (.int .i64 t239) ∧ w'.cell? ⟨gb244, 1, none⟩ = some (.int .i64 t240) ∧ w'.cell? ⟨gb244, 2, none⟩ = some (.int .i64 t241) ∧ w'.cell? ⟨gb244, 3, none⟩ = some (.int .i64 t242)) (ds := []) #[false, false, false, false, false, false, false, false, false, false] (by kernel_rfl) rfl rfl ⟨(blk_cell BK231.out 0).trans rfl, (blk_cell BK231.out 1).trans rfl, (blk_cell BK244.out 0).trans rfl, (blk_cell BK244.out 1).trans rfl, (blk_cell BK244.out 2).trans rfl, (blk_cell BK244.out 3).trans rfl⟩ (fun hHeld => ?_); refine with_tabW spec_TakeNext.tab8 spec_TakeNext.bits8 (fun HT_ HW_ => ?_)
        generalize w78.drew = w79 at BK231 BK232 BK233 BK244 HB HR249 hHeld ⊢
        refine pure_ (i := 0) (N := some 32) (v := ?_) (a' := ?_) #[true, false, false, false, false, false, false, false, false, false] rfl rfl (any_of HT_.out (by kernel_rfl)) (fun _ _ _ h => h) (Or.inl ⟨by rfl, ?_⟩) ?_ ?_
        rotate_left
        ·
         intro w'
         go_simp
         with_reducible rfl
        rotate_left
        ·
         simp only [Act.put, List.setIfInBounds_toArray, List.set_cons_zero, List.set_cons_succ, i64_w, i32_w]
         rfl
        refine pure_ (i := 2) (N := some 34) (v := ?_) (a' := ?_) #[true, false, true, false, false, false, false, false, false, false] rfl rfl (any_of HT_.out (by kernel_rfl)) (fun _ _ _ h => h) (Or.inl ⟨by rfl, ?_⟩) ?_ ?_
        rotate_left
        ·
         intro w'
         go_simp
         with_reducible rfl
        rotate_left
        ·
         simp only [Act.put, List.setIfInBounds_toArray, List.set_cons_zero, List.set_cons_succ, i64_w, i32_w]
         rfl
        refine take_ (i := 1) (N := some 33) (v := ?_) (a' := ?_) #[true, true, true, false, false, false, false, false, false, false] rfl rfl (take_ofW HT_.out HW_.out (by kernel_rfl)) (fun _ _ _ h => h) (Or.inl ⟨by rfl, ?_⟩) hHeld ?_ ?_
        rotate_left
        ·
         rintro w' ⟨s0, s1, s2, s3, s4, s5⟩
         go_simp
         with_reducible rfl
        rotate_left
        ·
         simp only [Act.put, List.setIfInBounds_toArray, List.set_cons_zero, List.set_cons_succ, i64_w, i32_w]
         rfl
        refine pure_ (i := 3) (N := some 35) (v := ?_) (a' := ?_) #[true, true, true, true, false, false, false, false, false, false] rfl rfl (any_of HT_.out (by kernel_rfl)) (fun _ _ _ h => h) (Or.inl ⟨by rfl, ?_⟩) ?_ ?_
        rotate_left
        ·
         intro w'
         go_simp
         with_reducible rfl
        rotate_left
        ·
         simp only [Act.put, List.setIfInBounds_toArray, List.set_cons_zero, List.set_cons_succ, i64_w, i32_w]
         rfl
        refine take_ (i := 6) (N := some 38) (v := ?_) (a' := ?_) #[true, true, true, true, false, false, true, false, false, false] rfl rfl (take_ofW HT_.out HW_.out (by kernel_rfl)) (fun _ _ _ h => h) (Or.inl ⟨by rfl, ?_⟩) hHeld ?_ ?_
        rotate_left
        ·
         rintro w' ⟨s0, s1, s2, s3, s4, s5⟩
         go_simp
         with_reducible rfl
        rotate_left
        ·
         simp only [Act.put, List.setIfInBounds_toArray, List.set_cons_zero, List.set_cons_succ, i64_w, i32_w]
         rfl
        refine one_ (i := 4) (N := some 36) #[true, true, true, true, true, false, true, false, false, false] rfl rfl (one_of HT_.out (by kernel_rfl)) (by decide) (fun K hK => ?_)
        refine goes_ Try.func151 (by kernel_rfl) rfl #[.slice A80 (l0_0.drop (t243 : Int).toNat).length (c0_0 - t243.toNat)] (by rfl) rfl rfl (by (try simp only [List.map_toArray, List.map_cons, List.map_nil]); first | done | (rw [show (l0_0.drop (t243 : Int).toNat).length = (l0_0.length - t243.toNat) from List.length_drop] <;> rfl) | rfl | (simp only [List.length_drop, List.length_take]; rfl)) ?_
        with_reducible refine (spec_l02Bytes.calls kj1 _ _ (l0_0.drop (t243 : Int).toNat) t250 _ ?side1 ?side2 A68.out).mono ?_
        (case side1 => repeat (first | exact (Kd.C_below HR249.out HB.out) | (with_reducible refine Kd.C_alloc ?_ _) | (with_reducible refine Kd.C_drewN ?_ _) | (with_reducible refine Kd.C_drew ?_)))
        (case side2 => exact HC249.out)
        rintro e w81 ⟨v251, rfl, ho0, hb⟩
        refine ⟨_, rfl, ?_⟩
        have n0_ := am_ (Kd.R_lower ho0 (below_size (ue_ HB.out)))
        have n1_ := am_ (bb_ BK231.out hb)
        have n2_ := am_ (bb_ BK232.out hb)
        have n3_ := am_ (bb_ BK233.out hb)
        have n4_ := am_ (bb_ BK244.out hb)
        have n5_ := am_ (below_step (ue_ HB.out) hb)
        clear BK231
        clear BK232
        clear BK233
        clear BK244
        clear HB
        have HO252 := n0_
        have BK231 := n1_
        have BK232 := n2_
        have BK233 := n3_
        have BK244 := n4_
        have HB := n5_
        clear n0_ n1_ n2_ n3_ n4_ n5_
        (try clear hb)
        (try clear hb2)
        (try clear hk)
        (try clear hi)
        (try clear ho0)
        obtain ⟨Ao82, co82, eo82⟩ := Kd.R_slice HO252.out
        (first | subst eo82 | (injection eo82 with f1_ f2_ f3_; have f4_ := f1_.symm; have f5_ := f3_.symm; clear f1_ f2_ f3_; subst f4_; subst f5_))
        refine hK.out _ _ ⟨(blk_cell BK231.out 0).trans rfl, (blk_cell BK231.out 1).trans rfl, (blk_cell BK244.out 0).trans rfl, (blk_cell BK244.out 1).trans rfl, (blk_cell BK244.out 2).trans rfl, (blk_cell BK244.out 3).trans rfl⟩ (fun hHeld => ?_)
        clear hK K
        refine norm_ (a' := ?_) ?_ ?_
        rotate_left
        ·
         show Act.put _ (some 36) _ = _
         simp only [Act.put, List.setIfInBounds_toArray, List.set_cons_zero, List.set_cons_succ, i64_w, i32_w]
         rfl
        refine pure_ (i := 5) (N := some 37) (v := ?_) (a' := ?_) #[true, true, true, true, true, true, true, false, false, false] rfl rfl (any_of HT_.out (by kernel_rfl)) (fun _ _ _ h => h) (Or.inl ⟨by rfl, ?_⟩) ?_ ?_
        rotate_left
        ·
         intro w'
         go_simp
         with_reducible rfl
        rotate_left
        ·
         simp only [Act.put, List.setIfInBounds_toArray, List.set_cons_zero, List.set_cons_succ, i64_w, i32_w]
         rfl
        refine one_ (i := 7) (N := none) #[true, true, true, true, true, true, true, true, false, false] rfl rfl (one_of HT_.out (by kernel_rfl)) (by decide) (fun K hK => ?_)
        have hs83 := cb_ BK232.out 0 rfl
        have hfs83 := blk_frozen BK232.out 0
        have hns83_0 := NB231_232.out
        have hns83_2 := NB233_232.out
        have hns83_3 := NB244_232.out
        have hms83_0 := NB232_231.out
        have hms83_2 := NB232_233.out
        have hms83_3 := NB232_244.out
        have hs84 := cb_ BK232.out 1 rfl
        have hfs84 := blk_frozen BK232.out 1
        have hns84_0 := NB231_232.out
        have hns84_2 := NB233_232.out
        have hns84_3 := NB244_232.out
        have hms84_0 := NB232_231.out
        have hms84_2 := NB232_233.out
        have hms84_3 := NB232_244.out
        refine skip_ (w1 := ?_) (by rfl) rfl ?_ ?_
        rotate_left
        ·
         go_simp
         rfl
        refine hK.out _ _ ⟨((cell_far (p := ⟨gb232, _, none⟩) NB231_232.out _).trans (((cell_far (p := ⟨gb232, _, none⟩) NB231_232.out _).trans (hHeld.1)))), ((cell_far (p := ⟨gb232, _, none⟩) NB231_232.out _).trans (((cell_far (p := ⟨gb232, _, none⟩) NB231_232.out _).trans (hHeld.2.1)))), ((cell_far (p := ⟨gb232, _, none⟩) NB244_232.out _).trans (((cell_far (p := ⟨gb232, _, none⟩) NB244_232.out _).trans (hHeld.2.2.1)))), ((cell_far (p := ⟨gb232, _, none⟩) NB244_232.out _).trans (((cell_far (p := ⟨gb232, _, none⟩) NB244_232.out _).trans (hHeld.2.2.2.1)))), ((cell_far (p := ⟨gb232, _, none⟩) NB244_232.out _).trans (((cell_far (p := ⟨gb232, _, none⟩) NB244_232.out _).trans (hHeld.2.2.2.2.1)))), ((cell_far (p := ⟨gb232, _, none⟩) NB244_232.out _).trans (((cell_far (p := ⟨gb232, _, none⟩) NB244_232.out _).trans (hHeld.2.2.2.2.2))))⟩ (fun hHeld => ?_)
        clear hK K
        refine one_ (i := 8) (N := none) #[true, true, true, true, true, true, true, true, true, false] rfl rfl (one_of HT_.out (by kernel_rfl)) (by decide) (fun K hK => ?_)
        have hs85 := cb_ BK233.out 0 rfl
        have hfs85 := blk_frozen BK233.out 0
        have hns85_0 := NB231_233.out
        have hns85_1 := NB232_233.out
        have hns85_3 := NB244_233.out
        have hms85_0 := NB233_231.out
        have hms85_1 := NB233_232.out
        have hms85_3 := NB233_244.out
        have hs86 := cb_ BK233.out 1 rfl
        have hfs86 := blk_frozen BK233.out 1
        have hns86_0 := NB231_233.out
        have hns86_1 := NB232_233.out
        have hns86_3 := NB244_233.out
        have hms86_0 := NB233_231.out
        have hms86_1 := NB233_232.out
        have hms86_3 := NB233_244.out
        have hs87 := cb_ BK233.out 2 rfl
        have hfs87 := blk_frozen BK233.out 2
        have hns87_0 := NB231_233.out
        have hns87_1 := NB232_233.out
        have hns87_3 := NB244_233.out
        have hms87_0 := NB233_231.out
        have hms87_1 := NB233_232.out
        have hms87_3 := NB233_244.out
        have hs88 := cb_ BK233.out 3 rfl
        have hfs88 := blk_frozen BK233.out 3
        have hns88_0 := NB231_233.out
        have hns88_1 := NB232_233.out
        have hns88_3 := NB244_233.out
        have hms88_0 := NB233_231.out
        have hms88_1 := NB233_232.out
        have hms88_3 := NB233_244.out
        refine skip_ (w1 := ?_) (by rfl) rfl ?_ ?_
        rotate_left
        ·
         go_simp
         rfl
        refine hK.out _ _ ⟨((cell_far (p := ⟨gb233, _, none⟩) NB231_233.out _).trans (((cell_far (p := ⟨gb233, _, none⟩) NB231_233.out _).trans (((cell_far (p := ⟨gb233, _, none⟩) NB231_233.out _).trans (((cell_far (p := ⟨gb233, _, none⟩) NB231_233.out _).trans (hHeld.1)))))))), ((cell_far (p := ⟨gb233, _, none⟩) NB231_233.out _).trans (((cell_far (p := ⟨gb233, _, none⟩) NB231_233.out _).trans (((cell_far (p := ⟨gb233, _, none⟩) NB231_233.out _).trans (((cell_far (p := ⟨gb233, _, none⟩) NB231_233.out _).trans (hHeld.2.1)))))))), ((cell_far (p := ⟨gb233, _, none⟩) NB244_233.out _).trans (((cell_far (p := ⟨gb233, _, none⟩) NB244_233.out _).trans (((cell_far (p := ⟨gb233, _, none⟩) NB244_233.out _).trans (((cell_far (p := ⟨gb233, _, none⟩) NB244_233.out _).trans (hHeld.2.2.1)))))))), ((cell_far (p := ⟨gb233, _, none⟩) NB244_233.out _).trans (((cell_far (p := ⟨gb233, _, none⟩) NB244_233.out _).trans (((cell_far (p := ⟨gb233, _, none⟩) NB244_233.out _).trans (((cell_far (p := ⟨gb233, _, none⟩) NB244_233.out _).trans (hHeld.2.2.2.1)))))))), ((cell_far (p := ⟨gb233, _, none⟩) NB244_233.out _).trans (((cell_far (p := ⟨gb233, _, none⟩) NB244_233.out _).trans (((cell_far (p := ⟨gb233, _, none⟩) NB244_233.out _).trans (((cell_far (p := ⟨gb233, _, none⟩) NB244_233.out _).trans (hHeld.2.2.2.2.1)))))))), ((cell_far (p := ⟨gb233, _, none⟩) NB244_233.out _).trans (((cell_far (p := ⟨gb233, _, none⟩) NB244_233.out _).trans (((cell_far (p := ⟨gb233, _, none⟩) NB244_233.out _).trans (((cell_far (p := ⟨gb233, _, none⟩) NB244_233.out _).trans (hHeld.2.2.2.2.2))))))))⟩ (fun hHeld => ?_)
        clear hK K
        refine pure_ (i := 9) (N := some 4) (v := ?_) (a' := ?_) #[true, true, true, true, true, true, true, true, true, true] rfl rfl (any_of HT_.out (by kernel_rfl)) (fun _ _ _ h => h) (Or.inl ⟨by rfl, ?_⟩) ?_ ?_
        rotate_left
        ·
         intro w'
         go_simp
         with_reducible rfl
        rotate_left
        ·
         simp only [Act.put, List.setIfInBounds_toArray, List.set_cons_zero, List.set_cons_succ, i64_w, i32_w]
         rfl
        refine done_ (done_of HT_.out (by kernel_rfl)) ?_
        try go_wp2
        refine bodyPost_ret (results_list (rs := [.cell 2 102, .cell 3 61, .tmp 4]) rfl (by simp) (.cell gb232 102 #[.slice Ao82 t250.length co82, .bool false] (0, 0) _ rfl (by (with_reducible repeat first|apply bn_|apply bd_|apply ba_); refine blk_far ?_ NB232_233.out _; refine blk_far ?_ NB232_233.out _; refine blk_far ?_ NB232_233.out _; refine blk_far ?_ NB232_233.out _; refine blk_put (cs := #[.slice Ao82 t250.length co82, .bool false]) ?_ 1 _ rfl; refine blk_put (cs := #[.slice none 0 0, .bool false]) ?_ 0 _ rfl; (with_reducible repeat first|apply bn_|apply bd_|apply ba_); exact BK232.out) Try.underlying102 rfl (by kernel_rfl) (.cell gb233 61 #[.int .i64 t239, .int .i64 t240, .int .i64 t241, .int .i64 t242] (0, 0) _ rfl (by (with_reducible repeat first|apply bn_|apply bd_|apply ba_); refine blk_put (cs := #[.int .i64 t239, .int .i64 t240, .int .i64 t241, .int .i64 0]) ?_ 3 _ rfl; refine blk_put (cs := #[.int .i64 t239, .int .i64 t240, .int .i64 0, .int .i64 0]) ?_ 2 _ rfl; refine blk_put (cs := #[.int .i64 t239, .int .i64 0, .int .i64 0, .int .i64 0]) ?_ 1 _ rfl; refine blk_put (cs := #[.int .i64 0, .int .i64 0, .int .i64 0, .int .i64 0]) ?_ 0 _ rfl; refine blk_far ?_ NB233_232.out _; refine blk_far ?_ NB233_232.out _; (with_reducible repeat first|apply bn_|apply bd_|apply ba_); exact BK233.out) Try.underlying61 rfl (by kernel_rfl) (.tmp .nil)))) rfl ?_
        exact ⟨_, ew_, by (with_reducible repeat (first | apply Kd.R_alloc | apply Kd.R_drewN | apply Kd.R_drew)); exact Kd.R_mono (Kd.R_far (p := ⟨gb233, 3, none⟩) (Kd.R_far (p := ⟨gb233, 2, none⟩) (Kd.R_far (p := ⟨gb233, 1, none⟩) (Kd.R_far (p := ⟨gb233, 0, none⟩) (Kd.R_far (p := ⟨gb232, 1, none⟩) (Kd.R_far (p := ⟨gb232, 0, none⟩) (Kd.R_types (Kd.R_types HO252.out BK232.out (by decide)) BK233.out (by decide)) (fun _ hk => by first | exact hk.1.2 | grind) (.slice Ao82 t250.length co82)) (fun _ hk => by first | exact hk.1.2 | grind) (.bool false)) (fun _ hk => by first | exact hk.2 | grind) (.int .i64 t239)) (fun _ hk => by first | exact hk.2 | grind) (.int .i64 t240)) (fun _ hk => by first | exact hk.2 | grind) (.int .i64 t241)) (fun _ hk => by first | exact hk.2 | grind) (.int .i64 t242)) (fun _ hk => trivial), ue_ HB.out⟩
       ·
        rw [if_neg c67] at H
        exact absurd H (by simp)
      ·
       rw [if_neg c66] at H
       exact absurd H (by simp)

end Go.Proofs.Ytcflalomjehiiaa.QFnExactTakeNext
