/- The machine side of a law: Lean functions with the Go functions' answers and the walks that show it. No condition. -/
import Derived.Test.YtcflalomjehiiaaQFnMarksx0
import Derived.Test.YtcflalomjehiiaaQFnMarksx2
import Derived.Test.YtcflalomjehiiaaQFnMarksx5
namespace Go.Proofs.Ytcflalomjehiiaa.QFnMarks
open Go.RowKit Go.Proofs.YtcflalomjehiiaaW.PrintWords Go.Proofs.YtcflalomjehiiaaW.PrintLast Go.Proofs.YtcflalomjehiiaaW.PrintMore
attribute [local go_sem] max2_int min2_int max_two min_two max_three min_three max_four min_four   -- for this text's walks alone
set_option linter.unusedVariables false
set_option linter.unusedSimpArgs false

/-! ### impl_AllMarks: function 67 -/
mutual
def impl_AllMarks.j0 : Nat → List (S72) → Int → Bool → Option (Int)
 | 0, _, _, _ => none
 | k + 1, x0, x1, x16 => if x16 = true then (some (-2)) else (impl_AllMarks.l0 k x1 0 false x0 (x0.length : Int) 0)
def impl_AllMarks.l0 : Nat → Int → Int → Bool → List (S72) → Int → Int → Option (Int)
 | 0, _, _, _, _, _, _ => none
 | k + 1, x1, x5, x6, x17, x18, x19 => if x19 < x18 then (if 0 ≤ x19 then (if x19 < (x17.length : Int) then ((impl_SourceOk.f ((rd_T72 x17 x19).f0) ((rd_T72 x17 x19).f1) ((rd_T72 x17 x19).f2) ((rd_T72 x17 x19).f3) ((rd_T72 x17 x19).f4)).bind fun t543 => (if t543 = true then (if (rd_T72 x17 x19).f4 = true then (if ((rd_T72 x17 x19).f3 = true) then (impl_AllMarks.l0 k x1 x5 x6 x17 x18 (wrap64 (x19 + 1))) else (if x6 = true then (if ((rd_T72 x17 x19).f1) < x5 then (impl_AllMarks.l0 k x1 ((rd_T72 x17 x19).f1) true x17 x18 (wrap64 (x19 + 1))) else (impl_AllMarks.l0 k x1 x5 x6 x17 x18 (wrap64 (x19 + 1)))) else (impl_AllMarks.l0 k x1 ((rd_T72 x17 x19).f1) true x17 x18 (wrap64 (x19 + 1))))) else (impl_AllMarks.l0 k x1 x5 x6 x17 x18 (wrap64 (x19 + 1)))) else (some (-2)))) else (none)) else (none)) else (if x6 = true then (some (mx x5 x1)) else (some x1))
end
def impl_AllMarks.f (k : Nat) (l0 : List (S72)) (a1 : Int) : Option (Int) := (impl_isMark.f a1).bind fun t540 => (if t540 = true then (impl_AllMarks.j0 k l0 a1 (decide ((l0.length : Int) > 300))) else (impl_AllMarks.j0 k l0 a1 true))
theorem impl_AllMarks.mono_l : ∀ k, (∀ y0 y1 y2, LeO (impl_AllMarks.j0 k y0 y1 y2) (impl_AllMarks.j0 (k + 1) y0 y1 y2)) ∧ (∀ y0 y1 y2 y3 y4 y5, LeO (impl_AllMarks.l0 k y0 y1 y2 y3 y4 y5) (impl_AllMarks.l0 (k + 1) y0 y1 y2 y3 y4 y5))
 | 0 => ⟨fun _ _ _ r h => by simp [impl_AllMarks.j0] at h, fun _ _ _ _ _ _ r h => by simp [impl_AllMarks.l0] at h⟩
 | k + 1 => by
  obtain ⟨ih0, ih1⟩ := impl_AllMarks.mono_l k
  refine ⟨?_, ?_⟩
  ·
   intro y0 y1 y2
   unfold impl_AllMarks.j0
   repeat' first
   | (with_reducible exact ih0 _ _ _)
   | (with_reducible exact ih1 _ _ _ _ _ _)
   | (with_reducible exact LeO.refl _)
   | (with_reducible exact LeO.none _)
   | (with_reducible refine LeO.ite ?_ ?_)
   | (with_reducible refine LeO.bind ?_ (fun _ => ?_))
   | exact ih0 _ _ _
   | exact ih1 _ _ _ _ _ _
   | exact LeO.none _
   | refine LeO.ite ?_ ?_
   | refine LeO.bind ?_ (fun _ => ?_)
  ·
   intro y0 y1 y2 y3 y4 y5
   unfold impl_AllMarks.l0
   repeat' first
   | (with_reducible exact ih0 _ _ _)
   | (with_reducible exact ih1 _ _ _ _ _ _)
   | (with_reducible exact LeO.refl _)
   | (with_reducible exact LeO.none _)
   | (with_reducible refine LeO.ite ?_ ?_)
   | (with_reducible refine LeO.bind ?_ (fun _ => ?_))
   | exact ih0 _ _ _
   | exact ih1 _ _ _ _ _ _
   | exact LeO.none _
   | refine LeO.ite ?_ ?_
   | refine LeO.bind ?_ (fun _ => ?_)
theorem impl_AllMarks.mono : ∀ a0 a1 k, LeO (impl_AllMarks.f k a0 a1) (impl_AllMarks.f (k + 1) a0 a1) := by
 intro a0 a1 k
 obtain ⟨ih0, ih1⟩ := impl_AllMarks.mono_l k
 unfold impl_AllMarks.f
 repeat' first
   | (with_reducible exact ih0 _ _ _)
   | (with_reducible exact ih1 _ _ _ _ _ _)
   | (with_reducible exact LeO.refl _)
   | (with_reducible exact LeO.none _)
   | (with_reducible refine LeO.ite ?_ ?_)
   | (with_reducible refine LeO.bind ?_ (fun _ => ?_))
   | exact ih0 _ _ _
   | exact ih1 _ _ _ _ _ _
   | exact LeO.none _
   | refine LeO.ite ?_ ?_
   | refine LeO.bind ?_ (fun _ => ?_)
set_option maxHeartbeats 8000000 in
set_option maxRecDepth 100000 in
theorem impl_AllMarks.calls (k : Nat) (A0 : Option Addr) (c0 : Nat) (l0 : List (S72)) (a1 : Int) (r : Int) (w : World) (hr0 : Kd.C k72 w A0 l0.length l0) (hc0 : l0.length ≤ c0) (h : impl_AllMarks.f k l0 a1 = some r) :
  Calls Try.prog 67 #[.slice A0 l0.length c0, .int .i64 a1] w fun e w' => e = .returned (.int .i64 r) ∧ Below w.heap.size w w' := by
 have hu72 := Try.underlying72
 have HR0 := Aside0.mk hr0
 have HC0 := Aside0.mk hc0
 clear hr0 hc0
 have HB := am_ (Below.refl w.heap.size w)
 have H : ((impl_isMark.f a1).bind fun t540 => (if t540 = true then (impl_AllMarks.j0 k l0 a1 (decide ((l0.length : Int) > 300))) else (impl_AllMarks.j0 k l0 a1 true))) = some r := h
 clear h
 have HC3 := Aside0.mk H
 clear H
 go_enter Try.func67, Try.ntmps67
 go_upto_region 1 with (fail)
 go_cut [16] (fun v16 wc => ∃ (kq : Nat) (x16_2 : Bool), v16 = .bool x16_2 ∧ Aside0 (impl_AllMarks.j0 kq l0 a1 x16_2 = some r) ∧ Aside0 (kq ≤ k) ∧ Aside0 (Below w.heap.size w wc))
 case first =>
  have H := HC3.out
  clear HC3
  replace H := Option.bind_eq_some_iff.mp H
  obtain ⟨t540, A40, H⟩ := H
  replace H : (if t540 = true then (impl_AllMarks.j0 k l0 a1 (decide ((l0.length : Int) > 300))) else (impl_AllMarks.j0 k l0 a1 true)) = some r := H
  have A4 := Aside0.mk A40
  clear A40
  by_cases c5 : t540 = true
  ·
   subst c5
   have H1 : (impl_AllMarks.j0 k l0 a1 (decide ((l0.length : Int) > 300))) = some r := by rw [if_pos rfl] at H; exact H
   clear H
   have H := H1
   clear H1
   have H' := Aside0.mk H
   clear H
   go_wp2_with (first | ((with_reducible refine gate_callee (f := 99) rfl ?_); refine goesL_ (some 10) rfl rfl Try.func99 (by kernel_rfl) rfl #[.int .i64 a1] rfl ul_ ?_; (with_reducible refine (impl_isMark.calls a1 true _ A4.out).mono ?_); rintro e w' ⟨rfl, ⟨nd, rfl⟩⟩; refine ⟨_, rfl, ?_⟩))
   go_meet
   case rel => exact ⟨_, (decide ((l0.length : Int) > 300)), (by first | rfl | (simp; done) | (simp [*]; done)), H', ⟨by first | omega | exact Nat.le_refl _⟩, ⟨ue_ HB.out⟩⟩
  ·
   replace c5 := Bool.eq_false_iff.mpr c5
   subst c5
   have H1 : (impl_AllMarks.j0 k l0 a1 true) = some r := by rw [if_neg (show ¬ (false = true) by decide)] at H; exact H
   clear H
   have H := H1
   clear H1
   have H' := Aside0.mk H
   clear H
   go_wp2_with (first | ((with_reducible refine gate_callee (f := 99) rfl ?_); refine goesL_ (some 10) rfl rfl Try.func99 (by kernel_rfl) rfl #[.int .i64 a1] rfl ul_ ?_; (with_reducible refine (impl_isMark.calls a1 false _ A4.out).mono ?_); rintro e w' ⟨rfl, ⟨nd, rfl⟩⟩; refine ⟨_, rfl, ?_⟩))
   go_meet
   case rel => exact ⟨_, (true), (by first | rfl | (simp; done) | (simp [*]; done)), H', ⟨by first | omega | exact Nat.le_refl _⟩, ⟨ue_ HB.out⟩⟩
 case rest =>
  clear HC3
  try clear p2
  try clear c5
  obtain ⟨kq, x16_2, rfl, HA, HJ2, HB⟩ := hcut
  cases kq with
  | zero => exact absurd HA.out (by simp [impl_AllMarks.j0])
  | succ kj2 =>
   have H := HA.out
   clear HA
   simp only [impl_AllMarks.j0] at H
   by_cases c6 : x16_2 = true
   ·
    subst c6
    have H1 : (some (-2)) = some r := by rw [if_pos rfl] at H; exact H
    clear H
    have H := H1
    clear H1
    obtain rfl := Option.some.inj H
    go_wp2
    go_ret
    exact ⟨ew_, ue_ HB.out⟩
   ·
    replace c6 := Bool.eq_false_iff.mpr c6
    subst c6
    have H1 : (impl_AllMarks.l0 kj2 a1 0 false l0 (l0.length : Int) 0) = some r := by rw [if_neg (show ¬ (false = true) by decide)] at H; exact H
    clear H
    have H := H1
    clear H1
    have H' := Aside0.mk H
    clear H
    go_wp2
    (try simp only [Act.put, List.setIfInBounds_toArray, List.set_cons_zero, List.set_cons_succ])
    go_loopg [5, 6, 19] kj2 (fun kq v5 v6 v19 w' => ∃ (x5_2 : Int) (x6_2 : Bool) (x19_2 : Int), v5 = .int .i64 x5_2 ∧ v6 = .bool x6_2 ∧ v19 = .int .i64 x19_2 ∧ Aside0 (impl_AllMarks.l0 kq a1 x5_2 x6_2 l0 (l0.length : Int) x19_2 = some r) ∧ Aside0 (kq ≤ kj2) ∧ Aside0 (Below w.heap.size w w'))
    case atStart => exact ⟨(0), (false), (0), (by first | rfl | (simp; done) | (simp [*]; done)), (by first | rfl | (simp; done) | (simp [*]; done)), (by first | rfl | (simp; done) | (simp [*]; done)), H', ⟨Nat.le_refl _⟩, ⟨ue_ HB.out⟩⟩
    case round =>
     clear H'
     try clear p2
     try clear c5
     try clear c6
     try clear p2
     obtain ⟨x5_2, x6_2, x19_2, rfl, rfl, rfl, HA, HK2, HB⟩ := hrel
     cases gk with
     | zero => exact absurd HA.out (by simp [impl_AllMarks.l0])
     | succ k2 =>
      have H := HA.out
      clear HA
      simp only [impl_AllMarks.l0] at H
      by_cases c7 : x19_2 < (l0.length : Int)
      ·
       rw [if_pos c7] at H
       have c7b0 : decide (x19_2 < (l0.length : Int)) = true := decide_eq_true c7
       clear c7
       by_cases c8 : 0 ≤ x19_2
       ·
        rw [if_pos c8] at H
        have c8b0 : decide (0 ≤ x19_2) = true := decide_eq_true c8
        clear c8
        by_cases c9 : x19_2 < (l0.length : Int)
        ·
         rw [if_pos c9] at H
         have c9b0 : decide (x19_2 < (l0.length : Int)) = true := decide_eq_true c9
         clear c9
         replace H := Option.bind_eq_some_iff.mp H
         obtain ⟨t543, A100, H⟩ := H
         replace H : (if t543 = true then (if (rd_T72 l0 x19_2).f4 = true then (if ((rd_T72 l0 x19_2).f3 = true) then (impl_AllMarks.l0 k2 a1 x5_2 x6_2 l0 (l0.length : Int) (wrap64 (x19_2 + 1))) else (if x6_2 = true then (if ((rd_T72 l0 x19_2).f1) < x5_2 then (impl_AllMarks.l0 k2 a1 ((rd_T72 l0 x19_2).f1) true l0 (l0.length : Int) (wrap64 (x19_2 + 1))) else (impl_AllMarks.l0 k2 a1 x5_2 x6_2 l0 (l0.length : Int) (wrap64 (x19_2 + 1)))) else (impl_AllMarks.l0 k2 a1 ((rd_T72 l0 x19_2).f1) true l0 (l0.length : Int) (wrap64 (x19_2 + 1))))) else (impl_AllMarks.l0 k2 a1 x5_2 x6_2 l0 (l0.length : Int) (wrap64 (x19_2 + 1)))) else (some (-2))) = some r := H
         have A10 := Aside0.mk A100
         clear A100
         by_cases c11 : t543 = true
         ·
          subst c11
          have H1 : (if (rd_T72 l0 x19_2).f4 = true then (if ((rd_T72 l0 x19_2).f3 = true) then (impl_AllMarks.l0 k2 a1 x5_2 x6_2 l0 (l0.length : Int) (wrap64 (x19_2 + 1))) else (if x6_2 = true then (if ((rd_T72 l0 x19_2).f1) < x5_2 then (impl_AllMarks.l0 k2 a1 ((rd_T72 l0 x19_2).f1) true l0 (l0.length : Int) (wrap64 (x19_2 + 1))) else (impl_AllMarks.l0 k2 a1 x5_2 x6_2 l0 (l0.length : Int) (wrap64 (x19_2 + 1)))) else (impl_AllMarks.l0 k2 a1 ((rd_T72 l0 x19_2).f1) true l0 (l0.length : Int) (wrap64 (x19_2 + 1))))) else (impl_AllMarks.l0 k2 a1 x5_2 x6_2 l0 (l0.length : Int) (wrap64 (x19_2 + 1)))) = some r := by rw [if_pos rfl] at H; exact H
          clear H
          have H := H1
          clear H1
          obtain ⟨bq12, hbq12⟩ : ∃ b_ : Bool, b_ = ((rd_T72 l0 x19_2).f4) := ⟨_, rfl⟩
          replace H : (if bq12 = true then (if ((rd_T72 l0 x19_2).f3 = true) then (impl_AllMarks.l0 k2 a1 x5_2 x6_2 l0 (l0.length : Int) (wrap64 (x19_2 + 1))) else (if x6_2 = true then (if ((rd_T72 l0 x19_2).f1) < x5_2 then (impl_AllMarks.l0 k2 a1 ((rd_T72 l0 x19_2).f1) true l0 (l0.length : Int) (wrap64 (x19_2 + 1))) else (impl_AllMarks.l0 k2 a1 x5_2 x6_2 l0 (l0.length : Int) (wrap64 (x19_2 + 1)))) else (impl_AllMarks.l0 k2 a1 ((rd_T72 l0 x19_2).f1) true l0 (l0.length : Int) (wrap64 (x19_2 + 1))))) else (impl_AllMarks.l0 k2 a1 x5_2 x6_2 l0 (l0.length : Int) (wrap64 (x19_2 + 1)))) = some r := by rw [← hbq12] at H; exact H
          (try rw [← hbq12] at A4)
          (try rw [← hbq12] at A10)
          have Nbq12 := Aside0.mk hbq12
          clear hbq12
          by_cases c13 : bq12 = true
          ·
           subst c13
           have H1 : (if ((rd_T72 l0 x19_2).f3 = true) then (impl_AllMarks.l0 k2 a1 x5_2 x6_2 l0 (l0.length : Int) (wrap64 (x19_2 + 1))) else (if x6_2 = true then (if ((rd_T72 l0 x19_2).f1) < x5_2 then (impl_AllMarks.l0 k2 a1 ((rd_T72 l0 x19_2).f1) true l0 (l0.length : Int) (wrap64 (x19_2 + 1))) else (impl_AllMarks.l0 k2 a1 x5_2 x6_2 l0 (l0.length : Int) (wrap64 (x19_2 + 1)))) else (impl_AllMarks.l0 k2 a1 ((rd_T72 l0 x19_2).f1) true l0 (l0.length : Int) (wrap64 (x19_2 + 1))))) = some r := by rw [if_pos rfl] at H; exact H
           clear H
           have H := H1
           clear H1
           obtain ⟨bq14, hbq14⟩ : ∃ b_ : Bool, b_ = ((rd_T72 l0 x19_2).f3) := ⟨_, rfl⟩
           replace H : (if (bq14 = true) then (impl_AllMarks.l0 k2 a1 x5_2 x6_2 l0 (l0.length : Int) (wrap64 (x19_2 + 1))) else (if x6_2 = true then (if ((rd_T72 l0 x19_2).f1) < x5_2 then (impl_AllMarks.l0 k2 a1 ((rd_T72 l0 x19_2).f1) true l0 (l0.length : Int) (wrap64 (x19_2 + 1))) else (impl_AllMarks.l0 k2 a1 x5_2 x6_2 l0 (l0.length : Int) (wrap64 (x19_2 + 1)))) else (impl_AllMarks.l0 k2 a1 ((rd_T72 l0 x19_2).f1) true l0 (l0.length : Int) (wrap64 (x19_2 + 1))))) = some r := by rw [← hbq14] at H; exact H
           (try rw [← hbq14] at A4)
           (try rw [← hbq14] at A10)
           have Nbq14 := Aside0.mk hbq14
           clear hbq14
           by_cases c15 : (bq14 = true)
           ·
            subst c15
            have H1 : (impl_AllMarks.l0 k2 a1 x5_2 x6_2 l0 (l0.length : Int) (wrap64 (x19_2 + 1))) = some r := by rw [if_pos rfl] at H; exact H
            clear H
            have H := H1
            clear H1
            have H' := Aside0.mk H
            clear H
            have p541 : 0 ≤ (x19_2 : Int) := of_decide_eq_true ua_
            have q541 : x19_2 < (l0.length : Int) := of_decide_eq_true ua_
            obtain ⟨ad541, e541, hx541_0, hx541_1, hx541_2, hx541_3, hx541_4⟩ := at_T72 HR0.out x19_2 p541 q541
            (try rw [← Nbq12.out] at hx541_3)
            (try rw [← Nbq14.out] at hx541_3)
            (try rw [← Nbq12.out] at hx541_4)
            (try rw [← Nbq14.out] at hx541_4)
            cases e541
            replace hx541_0 := bc_ HB.out hx541_0
            replace hx541_1 := bc_ HB.out hx541_1
            replace hx541_2 := bc_ HB.out hx541_2
            replace hx541_3 := bc_ HB.out hx541_3
            replace hx541_4 := bc_ HB.out hx541_4
            replace p541 := eq_true p541
            replace q541 := eq_true q541
            go_wp2_with (first | ((with_reducible refine gate_dst (N := 8) rfl ?_); (try (refine gate_guard (by rfl) ?_; dsimp only)); refine box_event ?hg (N := 8) ?hd (cs := #[.int .i64 0, .int .i64 0, .int .i64 0, .bool false, .bool false]) (t := 72) ?hr ?_; (case hd => rfl); (case hg => rfl); (case hr => first | (go_simp; done) | (go_simp; rfl)); intro gb542 hg w16 hbox hb; have n0_ := am_ (below_step (ue_ HB.out) hb); have n1_ := am_ (hbox); have n2_ := am_ ((by rw [hg]; exact (below_size (ue_ HB.out)) : w.heap.size ≤ gb542)); have n3_ := am_ ((by rw [hg]; exact (below_size (ue_ HB.out)) : w.heap.size ≤ gb542)); clear HB; have HB := n0_; have BK542 := n1_; have GW542 := n2_; have GE542 := n3_; clear n0_ n1_ n2_ n3_; clear hb hbox hg; obtain ⟨hcz17_0, hcz17_1, hcz17_2, hcz17_3, hcz17_4⟩ := cb5_ BK542.out; obtain ⟨hfz17_0, hfz17_1, hfz17_2, hfz17_3⟩ := bf4_ BK542.out; have hfz17_4 := blk_frozen BK542.out 4) | ((with_reducible refine gate_store (t := 72) (p := 8) rfl ?_); refine store_event (t := 72) (p := 8) (v := ?vo_w18) (w1 := (((((w16.setCell ⟨gb542, 0, none⟩ (.int .i64 ((rd_T72 l0 x19_2).f0))).setCell ⟨gb542, 1, none⟩ (.int .i64 ((rd_T72 l0 x19_2).f1))).setCell ⟨gb542, 2, none⟩ (.int .i64 ((rd_T72 l0 x19_2).f2))).setCell ⟨gb542, 3, none⟩ (.bool true)).setCell ⟨gb542, 4, none⟩ (.bool true))) ?hg ?ho ?hn ?hr ?_; (case ho => rfl); (case hg => rfl); (case hn => rfl); (case hr => first | (go_simp; done) | (go_simp; rfl)); intro w18 hw; have n0_ : Aside0 (w18.heap[gb542]? = some (.cells #[.int .i64 ((rd_T72 l0 x19_2).f0), .int .i64 ((rd_T72 l0 x19_2).f1), .int .i64 ((rd_T72 l0 x19_2).f2), .bool true, .bool true] 72 (0, 0))) := ⟨(by rw [hw]; exact (by (with_reducible repeat first|apply bn_|apply bd_|apply ba_); refine blk_put (cs := #[.int .i64 ((rd_T72 l0 x19_2).f0), .int .i64 ((rd_T72 l0 x19_2).f1), .int .i64 ((rd_T72 l0 x19_2).f2), .bool true, .bool false]) ?_ 4 _ rfl; refine blk_put (cs := #[.int .i64 ((rd_T72 l0 x19_2).f0), .int .i64 ((rd_T72 l0 x19_2).f1), .int .i64 ((rd_T72 l0 x19_2).f2), .bool false, .bool false]) ?_ 3 _ rfl; refine blk_put (cs := #[.int .i64 ((rd_T72 l0 x19_2).f0), .int .i64 ((rd_T72 l0 x19_2).f1), .int .i64 0, .bool false, .bool false]) ?_ 2 _ rfl; refine blk_put (cs := #[.int .i64 ((rd_T72 l0 x19_2).f0), .int .i64 0, .int .i64 0, .bool false, .bool false]) ?_ 1 _ rfl; refine blk_put (cs := #[.int .i64 0, .int .i64 0, .int .i64 0, .bool false, .bool false]) ?_ 0 _ rfl; (with_reducible repeat first|apply bn_|apply bd_|apply ba_); exact BK542.out))⟩; have n1_ : Aside0 (Below w.heap.size w w18) := ⟨(by rw [hw]; exact (ue_ HB.out))⟩; clear hw BK542 HB; have BK542 := n0_; have HB := n1_; clear n0_ n1_; obtain ⟨hcz19_0, hcz19_1, hcz19_2, hcz19_3, hcz19_4⟩ := cb5_ BK542.out; obtain ⟨hfz19_0, hfz19_1, hfz19_2, hfz19_3⟩ := bf4_ BK542.out; have hfz19_4 := blk_frozen BK542.out 4) | ((with_reducible refine gate_callee (f := 146) rfl ?_); refine goesL_ (some 24) rfl rfl Try.func146 (by kernel_rfl) rfl #[.agg #[.int .i64 ((rd_T72 l0 x19_2).f0), .int .i64 ((rd_T72 l0 x19_2).f1), .int .i64 ((rd_T72 l0 x19_2).f2), .bool true, .bool true]] rfl ul_ ?_; (with_reducible refine (impl_SourceOk.calls ((rd_T72 l0 x19_2).f0) ((rd_T72 l0 x19_2).f1) ((rd_T72 l0 x19_2).f2) true true true _ A10.out).mono ?_); rintro e w20 ⟨rfl, hb⟩; refine ⟨_, rfl, ?_⟩; have n0_ := am_ (bb_ BK542.out hb); have n1_ := am_ (below_step (ue_ HB.out) hb); clear BK542 HB; have BK542 := n0_; have HB := n1_; clear n0_ n1_; (try clear hb); (try clear hb2); (try clear hk); (try clear hi); obtain ⟨hcz21_0, hcz21_1, hcz21_2, hcz21_3, hcz21_4⟩ := cb5_ BK542.out; obtain ⟨hfz21_0, hfz21_1, hfz21_2, hfz21_3⟩ := bf4_ BK542.out; have hfz21_4 := blk_frozen BK542.out 4))
            go_roundg k2
            case measure => have := HJ2.out; have := HK2.out; omega
            case rel => exact ⟨(x5_2), (x6_2), (wrap64 (x19_2 + 1)), (by first | rfl | (simp; done) | (simp [*]; done)), (by first | rfl | (simp; done) | (simp [*]; done)), (by first | rfl | (simp; done) | (simp [*]; done)), H', ⟨by have := HJ2.out; have := HK2.out; omega⟩, ⟨ue_ HB.out⟩⟩
           ·
            replace c15 := Bool.eq_false_iff.mpr c15
            subst c15
            have H1 : (if x6_2 = true then (if ((rd_T72 l0 x19_2).f1) < x5_2 then (impl_AllMarks.l0 k2 a1 ((rd_T72 l0 x19_2).f1) true l0 (l0.length : Int) (wrap64 (x19_2 + 1))) else (impl_AllMarks.l0 k2 a1 x5_2 x6_2 l0 (l0.length : Int) (wrap64 (x19_2 + 1)))) else (impl_AllMarks.l0 k2 a1 ((rd_T72 l0 x19_2).f1) true l0 (l0.length : Int) (wrap64 (x19_2 + 1)))) = some r := by rw [if_neg (show ¬ (false = true) by decide)] at H; exact H
            clear H
            have H := H1
            clear H1
            by_cases c22 : x6_2 = true
            ·
             subst c22
             have H1 : (if ((rd_T72 l0 x19_2).f1) < x5_2 then (impl_AllMarks.l0 k2 a1 ((rd_T72 l0 x19_2).f1) true l0 (l0.length : Int) (wrap64 (x19_2 + 1))) else (impl_AllMarks.l0 k2 a1 x5_2 true l0 (l0.length : Int) (wrap64 (x19_2 + 1)))) = some r := by rw [if_pos rfl] at H; exact H
             clear H
             have H := H1
             clear H1
             by_cases c23 : ((rd_T72 l0 x19_2).f1) < x5_2
             ·
              rw [if_pos c23] at H
              have c23b0 : decide (((rd_T72 l0 x19_2).f1) < x5_2) = true := decide_eq_true c23
              clear c23
              have H' := Aside0.mk H
              clear H
              have p541 : 0 ≤ (x19_2 : Int) := of_decide_eq_true ua_
              have q541 : x19_2 < (l0.length : Int) := of_decide_eq_true ua_
              obtain ⟨ad541, e541, hx541_0, hx541_1, hx541_2, hx541_3, hx541_4⟩ := at_T72 HR0.out x19_2 p541 q541
              (try rw [← Nbq12.out] at hx541_3)
              (try rw [← Nbq14.out] at hx541_3)
              (try rw [← Nbq12.out] at hx541_4)
              (try rw [← Nbq14.out] at hx541_4)
              cases e541
              replace hx541_0 := bc_ HB.out hx541_0
              replace hx541_1 := bc_ HB.out hx541_1
              replace hx541_2 := bc_ HB.out hx541_2
              replace hx541_3 := bc_ HB.out hx541_3
              replace hx541_4 := bc_ HB.out hx541_4
              replace p541 := eq_true p541
              replace q541 := eq_true q541
              go_wp2_with (first | ((with_reducible refine gate_dst (N := 8) rfl ?_); (try (refine gate_guard (by rfl) ?_; dsimp only)); refine box_event ?hg (N := 8) ?hd (cs := #[.int .i64 0, .int .i64 0, .int .i64 0, .bool false, .bool false]) (t := 72) ?hr ?_; (case hd => rfl); (case hg => rfl); (case hr => first | (go_simp; done) | (go_simp; rfl)); intro gb542 hg w24 hbox hb; have n0_ := am_ (below_step (ue_ HB.out) hb); have n1_ := am_ (hbox); have n2_ := am_ ((by rw [hg]; exact (below_size (ue_ HB.out)) : w.heap.size ≤ gb542)); have n3_ := am_ ((by rw [hg]; exact (below_size (ue_ HB.out)) : w.heap.size ≤ gb542)); clear HB; have HB := n0_; have BK542 := n1_; have GW542 := n2_; have GE542 := n3_; clear n0_ n1_ n2_ n3_; clear hb hbox hg; obtain ⟨hcz25_0, hcz25_1, hcz25_2, hcz25_3, hcz25_4⟩ := cb5_ BK542.out; obtain ⟨hfz25_0, hfz25_1, hfz25_2, hfz25_3⟩ := bf4_ BK542.out; have hfz25_4 := blk_frozen BK542.out 4) | ((with_reducible refine gate_store (t := 72) (p := 8) rfl ?_); refine store_event (t := 72) (p := 8) (v := ?vo_w26) (w1 := (((((w24.setCell ⟨gb542, 0, none⟩ (.int .i64 ((rd_T72 l0 x19_2).f0))).setCell ⟨gb542, 1, none⟩ (.int .i64 ((rd_T72 l0 x19_2).f1))).setCell ⟨gb542, 2, none⟩ (.int .i64 ((rd_T72 l0 x19_2).f2))).setCell ⟨gb542, 3, none⟩ (.bool false)).setCell ⟨gb542, 4, none⟩ (.bool true))) ?hg ?ho ?hn ?hr ?_; (case ho => rfl); (case hg => rfl); (case hn => rfl); (case hr => first | (go_simp; done) | (go_simp; rfl)); intro w26 hw; have n0_ : Aside0 (w26.heap[gb542]? = some (.cells #[.int .i64 ((rd_T72 l0 x19_2).f0), .int .i64 ((rd_T72 l0 x19_2).f1), .int .i64 ((rd_T72 l0 x19_2).f2), .bool false, .bool true] 72 (0, 0))) := ⟨(by rw [hw]; exact (by (with_reducible repeat first|apply bn_|apply bd_|apply ba_); refine blk_put (cs := #[.int .i64 ((rd_T72 l0 x19_2).f0), .int .i64 ((rd_T72 l0 x19_2).f1), .int .i64 ((rd_T72 l0 x19_2).f2), .bool false, .bool false]) ?_ 4 _ rfl; refine blk_put (cs := #[.int .i64 ((rd_T72 l0 x19_2).f0), .int .i64 ((rd_T72 l0 x19_2).f1), .int .i64 ((rd_T72 l0 x19_2).f2), .bool false, .bool false]) ?_ 3 _ rfl; refine blk_put (cs := #[.int .i64 ((rd_T72 l0 x19_2).f0), .int .i64 ((rd_T72 l0 x19_2).f1), .int .i64 0, .bool false, .bool false]) ?_ 2 _ rfl; refine blk_put (cs := #[.int .i64 ((rd_T72 l0 x19_2).f0), .int .i64 0, .int .i64 0, .bool false, .bool false]) ?_ 1 _ rfl; refine blk_put (cs := #[.int .i64 0, .int .i64 0, .int .i64 0, .bool false, .bool false]) ?_ 0 _ rfl; (with_reducible repeat first|apply bn_|apply bd_|apply ba_); exact BK542.out))⟩; have n1_ : Aside0 (Below w.heap.size w w26) := ⟨(by rw [hw]; exact (ue_ HB.out))⟩; clear hw BK542 HB; have BK542 := n0_; have HB := n1_; clear n0_ n1_; obtain ⟨hcz27_0, hcz27_1, hcz27_2, hcz27_3, hcz27_4⟩ := cb5_ BK542.out; obtain ⟨hfz27_0, hfz27_1, hfz27_2, hfz27_3⟩ := bf4_ BK542.out; have hfz27_4 := blk_frozen BK542.out 4) | ((with_reducible refine gate_callee (f := 146) rfl ?_); refine goesL_ (some 24) rfl rfl Try.func146 (by kernel_rfl) rfl #[.agg #[.int .i64 ((rd_T72 l0 x19_2).f0), .int .i64 ((rd_T72 l0 x19_2).f1), .int .i64 ((rd_T72 l0 x19_2).f2), .bool false, .bool true]] rfl ul_ ?_; (with_reducible refine (impl_SourceOk.calls ((rd_T72 l0 x19_2).f0) ((rd_T72 l0 x19_2).f1) ((rd_T72 l0 x19_2).f2) false true true _ A10.out).mono ?_); rintro e w28 ⟨rfl, hb⟩; refine ⟨_, rfl, ?_⟩; have n0_ := am_ (bb_ BK542.out hb); have n1_ := am_ (below_step (ue_ HB.out) hb); clear BK542 HB; have BK542 := n0_; have HB := n1_; clear n0_ n1_; (try clear hb); (try clear hb2); (try clear hk); (try clear hi); obtain ⟨hcz29_0, hcz29_1, hcz29_2, hcz29_3, hcz29_4⟩ := cb5_ BK542.out; obtain ⟨hfz29_0, hfz29_1, hfz29_2, hfz29_3⟩ := bf4_ BK542.out; have hfz29_4 := blk_frozen BK542.out 4))
              go_roundg k2
              case measure => have := HJ2.out; have := HK2.out; omega
              case rel => exact ⟨((rd_T72 l0 x19_2).f1), (true), (wrap64 (x19_2 + 1)), (by first | rfl | (simp; done) | (simp [*]; done)), (by first | rfl | (simp; done) | (simp [*]; done)), (by first | rfl | (simp; done) | (simp [*]; done)), H', ⟨by have := HJ2.out; have := HK2.out; omega⟩, ⟨ue_ HB.out⟩⟩
             ·
              rw [if_neg c23] at H
              have c23b0 : decide (((rd_T72 l0 x19_2).f1) < x5_2) = false := decide_eq_false c23
              clear c23
              have H' := Aside0.mk H
              clear H
              have p541 : 0 ≤ (x19_2 : Int) := of_decide_eq_true ua_
              have q541 : x19_2 < (l0.length : Int) := of_decide_eq_true ua_
              obtain ⟨ad541, e541, hx541_0, hx541_1, hx541_2, hx541_3, hx541_4⟩ := at_T72 HR0.out x19_2 p541 q541
              (try rw [← Nbq12.out] at hx541_3)
              (try rw [← Nbq14.out] at hx541_3)
              (try rw [← Nbq12.out] at hx541_4)
              (try rw [← Nbq14.out] at hx541_4)
              cases e541
              replace hx541_0 := bc_ HB.out hx541_0
              replace hx541_1 := bc_ HB.out hx541_1
              replace hx541_2 := bc_ HB.out hx541_2
              replace hx541_3 := bc_ HB.out hx541_3
              replace hx541_4 := bc_ HB.out hx541_4
              replace p541 := eq_true p541
              replace q541 := eq_true q541
              go_wp2_with (first | ((with_reducible refine gate_dst (N := 8) rfl ?_); (try (refine gate_guard (by rfl) ?_; dsimp only)); refine box_event ?hg (N := 8) ?hd (cs := #[.int .i64 0, .int .i64 0, .int .i64 0, .bool false, .bool false]) (t := 72) ?hr ?_; (case hd => rfl); (case hg => rfl); (case hr => first | (go_simp; done) | (go_simp; rfl)); intro gb542 hg w30 hbox hb; have n0_ := am_ (below_step (ue_ HB.out) hb); have n1_ := am_ (hbox); have n2_ := am_ ((by rw [hg]; exact (below_size (ue_ HB.out)) : w.heap.size ≤ gb542)); have n3_ := am_ ((by rw [hg]; exact (below_size (ue_ HB.out)) : w.heap.size ≤ gb542)); clear HB; have HB := n0_; have BK542 := n1_; have GW542 := n2_; have GE542 := n3_; clear n0_ n1_ n2_ n3_; clear hb hbox hg; obtain ⟨hcz31_0, hcz31_1, hcz31_2, hcz31_3, hcz31_4⟩ := cb5_ BK542.out; obtain ⟨hfz31_0, hfz31_1, hfz31_2, hfz31_3⟩ := bf4_ BK542.out; have hfz31_4 := blk_frozen BK542.out 4) | ((with_reducible refine gate_store (t := 72) (p := 8) rfl ?_); refine store_event (t := 72) (p := 8) (v := ?vo_w32) (w1 := (((((w30.setCell ⟨gb542, 0, none⟩ (.int .i64 ((rd_T72 l0 x19_2).f0))).setCell ⟨gb542, 1, none⟩ (.int .i64 ((rd_T72 l0 x19_2).f1))).setCell ⟨gb542, 2, none⟩ (.int .i64 ((rd_T72 l0 x19_2).f2))).setCell ⟨gb542, 3, none⟩ (.bool false)).setCell ⟨gb542, 4, none⟩ (.bool true))) ?hg ?ho ?hn ?hr ?_; (case ho => rfl); (case hg => rfl); (case hn => rfl); (case hr => first | (go_simp; done) | (go_simp; rfl)); intro w32 hw; have n0_ : Aside0 (w32.heap[gb542]? = some (.cells #[.int .i64 ((rd_T72 l0 x19_2).f0), .int .i64 ((rd_T72 l0 x19_2).f1), .int .i64 ((rd_T72 l0 x19_2).f2), .bool false, .bool true] 72 (0, 0))) := ⟨(by rw [hw]; exact (by (with_reducible repeat first|apply bn_|apply bd_|apply ba_); refine blk_put (cs := #[.int .i64 ((rd_T72 l0 x19_2).f0), .int .i64 ((rd_T72 l0 x19_2).f1), .int .i64 ((rd_T72 l0 x19_2).f2), .bool false, .bool false]) ?_ 4 _ rfl; refine blk_put (cs := #[.int .i64 ((rd_T72 l0 x19_2).f0), .int .i64 ((rd_T72 l0 x19_2).f1), .int .i64 ((rd_T72 l0 x19_2).f2), .bool false, .bool false]) ?_ 3 _ rfl; refine blk_put (cs := #[.int .i64 ((rd_T72 l0 x19_2).f0), .int .i64 ((rd_T72 l0 x19_2).f1), .int .i64 0, .bool false, .bool false]) ?_ 2 _ rfl; refine blk_put (cs := #[.int .i64 ((rd_T72 l0 x19_2).f0), .int .i64 0, .int .i64 0, .bool false, .bool false]) ?_ 1 _ rfl; refine blk_put (cs := #[.int .i64 0, .int .i64 0, .int .i64 0, .bool false, .bool false]) ?_ 0 _ rfl; (with_reducible repeat first|apply bn_|apply bd_|apply ba_); exact BK542.out))⟩; have n1_ : Aside0 (Below w.heap.size w w32) := ⟨(by rw [hw]; exact (ue_ HB.out))⟩; clear hw BK542 HB; have BK542 := n0_; have HB := n1_; clear n0_ n1_; obtain ⟨hcz33_0, hcz33_1, hcz33_2, hcz33_3, hcz33_4⟩ := cb5_ BK542.out; obtain ⟨hfz33_0, hfz33_1, hfz33_2, hfz33_3⟩ := bf4_ BK542.out; have hfz33_4 := blk_frozen BK542.out 4) | ((with_reducible refine gate_callee (f := 146) rfl ?_); refine goesL_ (some 24) rfl rfl Try.func146 (by kernel_rfl) rfl #[.agg #[.int .i64 ((rd_T72 l0 x19_2).f0), .int .i64 ((rd_T72 l0 x19_2).f1), .int .i64 ((rd_T72 l0 x19_2).f2), .bool false, .bool true]] rfl ul_ ?_; (with_reducible refine (impl_SourceOk.calls ((rd_T72 l0 x19_2).f0) ((rd_T72 l0 x19_2).f1) ((rd_T72 l0 x19_2).f2) false true true _ A10.out).mono ?_); rintro e w34 ⟨rfl, hb⟩; refine ⟨_, rfl, ?_⟩; have n0_ := am_ (bb_ BK542.out hb); have n1_ := am_ (below_step (ue_ HB.out) hb); clear BK542 HB; have BK542 := n0_; have HB := n1_; clear n0_ n1_; (try clear hb); (try clear hb2); (try clear hk); (try clear hi); obtain ⟨hcz35_0, hcz35_1, hcz35_2, hcz35_3, hcz35_4⟩ := cb5_ BK542.out; obtain ⟨hfz35_0, hfz35_1, hfz35_2, hfz35_3⟩ := bf4_ BK542.out; have hfz35_4 := blk_frozen BK542.out 4))
              go_roundg k2
              case measure => have := HJ2.out; have := HK2.out; omega
              case rel => exact ⟨(x5_2), (true), (wrap64 (x19_2 + 1)), (by first | rfl | (simp; done) | (simp [*]; done)), (by first | rfl | (simp; done) | (simp [*]; done)), (by first | rfl | (simp; done) | (simp [*]; done)), H', ⟨by have := HJ2.out; have := HK2.out; omega⟩, ⟨ue_ HB.out⟩⟩
            ·
             replace c22 := Bool.eq_false_iff.mpr c22
             subst c22
             have H1 : (impl_AllMarks.l0 k2 a1 ((rd_T72 l0 x19_2).f1) true l0 (l0.length : Int) (wrap64 (x19_2 + 1))) = some r := by rw [if_neg (show ¬ (false = true) by decide)] at H; exact H
             clear H
             have H := H1
             clear H1
             have H' := Aside0.mk H
             clear H
             have p541 : 0 ≤ (x19_2 : Int) := of_decide_eq_true ua_
             have q541 : x19_2 < (l0.length : Int) := of_decide_eq_true ua_
             obtain ⟨ad541, e541, hx541_0, hx541_1, hx541_2, hx541_3, hx541_4⟩ := at_T72 HR0.out x19_2 p541 q541
             (try rw [← Nbq12.out] at hx541_3)
             (try rw [← Nbq14.out] at hx541_3)
             (try rw [← Nbq12.out] at hx541_4)
             (try rw [← Nbq14.out] at hx541_4)
             cases e541
             replace hx541_0 := bc_ HB.out hx541_0
             replace hx541_1 := bc_ HB.out hx541_1
             replace hx541_2 := bc_ HB.out hx541_2
             replace hx541_3 := bc_ HB.out hx541_3
             replace hx541_4 := bc_ HB.out hx541_4
             replace p541 := eq_true p541
             replace q541 := eq_true q541
             go_wp2_with (first | ((with_reducible refine gate_dst (N := 8) rfl ?_); (try (refine gate_guard (by rfl) ?_; dsimp only)); refine box_event ?hg (N := 8) ?hd (cs := #[.int .i64 0, .int .i64 0, .int .i64 0, .bool false, .bool false]) (t := 72) ?hr ?_; (case hd => rfl); (case hg => rfl); (case hr => first | (go_simp; done) | (go_simp; rfl)); intro gb542 hg w36 hbox hb; have n0_ := am_ (below_step (ue_ HB.out) hb); have n1_ := am_ (hbox); have n2_ := am_ ((by rw [hg]; exact (below_size (ue_ HB.out)) : w.heap.size ≤ gb542)); have n3_ := am_ ((by rw [hg]; exact (below_size (ue_ HB.out)) : w.heap.size ≤ gb542)); clear HB; have HB := n0_; have BK542 := n1_; have GW542 := n2_; have GE542 := n3_; clear n0_ n1_ n2_ n3_; clear hb hbox hg; obtain ⟨hcz37_0, hcz37_1, hcz37_2, hcz37_3, hcz37_4⟩ := cb5_ BK542.out; obtain ⟨hfz37_0, hfz37_1, hfz37_2, hfz37_3⟩ := bf4_ BK542.out; have hfz37_4 := blk_frozen BK542.out 4) | ((with_reducible refine gate_store (t := 72) (p := 8) rfl ?_); refine store_event (t := 72) (p := 8) (v := ?vo_w38) (w1 := (((((w36.setCell ⟨gb542, 0, none⟩ (.int .i64 ((rd_T72 l0 x19_2).f0))).setCell ⟨gb542, 1, none⟩ (.int .i64 ((rd_T72 l0 x19_2).f1))).setCell ⟨gb542, 2, none⟩ (.int .i64 ((rd_T72 l0 x19_2).f2))).setCell ⟨gb542, 3, none⟩ (.bool false)).setCell ⟨gb542, 4, none⟩ (.bool true))) ?hg ?ho ?hn ?hr ?_; (case ho => rfl); (case hg => rfl); (case hn => rfl); (case hr => first | (go_simp; done) | (go_simp; rfl)); intro w38 hw; have n0_ : Aside0 (w38.heap[gb542]? = some (.cells #[.int .i64 ((rd_T72 l0 x19_2).f0), .int .i64 ((rd_T72 l0 x19_2).f1), .int .i64 ((rd_T72 l0 x19_2).f2), .bool false, .bool true] 72 (0, 0))) := ⟨(by rw [hw]; exact (by (with_reducible repeat first|apply bn_|apply bd_|apply ba_); refine blk_put (cs := #[.int .i64 ((rd_T72 l0 x19_2).f0), .int .i64 ((rd_T72 l0 x19_2).f1), .int .i64 ((rd_T72 l0 x19_2).f2), .bool false, .bool false]) ?_ 4 _ rfl; refine blk_put (cs := #[.int .i64 ((rd_T72 l0 x19_2).f0), .int .i64 ((rd_T72 l0 x19_2).f1), .int .i64 ((rd_T72 l0 x19_2).f2), .bool false, .bool false]) ?_ 3 _ rfl; refine blk_put (cs := #[.int .i64 ((rd_T72 l0 x19_2).f0), .int .i64 ((rd_T72 l0 x19_2).f1), .int .i64 0, .bool false, .bool false]) ?_ 2 _ rfl; refine blk_put (cs := #[.int .i64 ((rd_T72 l0 x19_2).f0), .int .i64 0, .int .i64 0, .bool false, .bool false]) ?_ 1 _ rfl; refine blk_put (cs := #[.int .i64 0, .int .i64 0, .int .i64 0, .bool false, .bool false]) ?_ 0 _ rfl; (with_reducible repeat first|apply bn_|apply bd_|apply ba_); exact BK542.out))⟩; have n1_ : Aside0 (Below w.heap.size w w38) := ⟨(by rw [hw]; exact (ue_ HB.out))⟩; clear hw BK542 HB; have BK542 := n0_; have HB := n1_; clear n0_ n1_; obtain ⟨hcz39_0, hcz39_1, hcz39_2, hcz39_3, hcz39_4⟩ := cb5_ BK542.out; obtain ⟨hfz39_0, hfz39_1, hfz39_2, hfz39_3⟩ := bf4_ BK542.out; have hfz39_4 := blk_frozen BK542.out 4) | ((with_reducible refine gate_callee (f := 146) rfl ?_); refine goesL_ (some 24) rfl rfl Try.func146 (by kernel_rfl) rfl #[.agg #[.int .i64 ((rd_T72 l0 x19_2).f0), .int .i64 ((rd_T72 l0 x19_2).f1), .int .i64 ((rd_T72 l0 x19_2).f2), .bool false, .bool true]] rfl ul_ ?_; (with_reducible refine (impl_SourceOk.calls ((rd_T72 l0 x19_2).f0) ((rd_T72 l0 x19_2).f1) ((rd_T72 l0 x19_2).f2) false true true _ A10.out).mono ?_); rintro e w40 ⟨rfl, hb⟩; refine ⟨_, rfl, ?_⟩; have n0_ := am_ (bb_ BK542.out hb); have n1_ := am_ (below_step (ue_ HB.out) hb); clear BK542 HB; have BK542 := n0_; have HB := n1_; clear n0_ n1_; (try clear hb); (try clear hb2); (try clear hk); (try clear hi); obtain ⟨hcz41_0, hcz41_1, hcz41_2, hcz41_3, hcz41_4⟩ := cb5_ BK542.out; obtain ⟨hfz41_0, hfz41_1, hfz41_2, hfz41_3⟩ := bf4_ BK542.out; have hfz41_4 := blk_frozen BK542.out 4))
             go_roundg k2
             case measure => have := HJ2.out; have := HK2.out; omega
             case rel => exact ⟨((rd_T72 l0 x19_2).f1), (true), (wrap64 (x19_2 + 1)), (by first | rfl | (simp; done) | (simp [*]; done)), (by first | rfl | (simp; done) | (simp [*]; done)), (by first | rfl | (simp; done) | (simp [*]; done)), H', ⟨by have := HJ2.out; have := HK2.out; omega⟩, ⟨ue_ HB.out⟩⟩
          ·
           replace c13 := Bool.eq_false_iff.mpr c13
           subst c13
           have H1 : (impl_AllMarks.l0 k2 a1 x5_2 x6_2 l0 (l0.length : Int) (wrap64 (x19_2 + 1))) = some r := by rw [if_neg (show ¬ (false = true) by decide)] at H; exact H
           clear H
           have H := H1
           clear H1
           have H' := Aside0.mk H
           clear H
           have p541 : 0 ≤ (x19_2 : Int) := of_decide_eq_true ua_
           have q541 : x19_2 < (l0.length : Int) := of_decide_eq_true ua_
           obtain ⟨ad541, e541, hx541_0, hx541_1, hx541_2, hx541_3, hx541_4⟩ := at_T72 HR0.out x19_2 p541 q541
           (try rw [← Nbq12.out] at hx541_3)
           (try rw [← Nbq12.out] at hx541_4)
           cases e541
           replace hx541_0 := bc_ HB.out hx541_0
           replace hx541_1 := bc_ HB.out hx541_1
           replace hx541_2 := bc_ HB.out hx541_2
           replace hx541_3 := bc_ HB.out hx541_3
           replace hx541_4 := bc_ HB.out hx541_4
           replace p541 := eq_true p541
           replace q541 := eq_true q541
           go_wp2_with (first | ((with_reducible refine gate_dst (N := 8) rfl ?_); (try (refine gate_guard (by rfl) ?_; dsimp only)); refine box_event ?hg (N := 8) ?hd (cs := #[.int .i64 0, .int .i64 0, .int .i64 0, .bool false, .bool false]) (t := 72) ?hr ?_; (case hd => rfl); (case hg => rfl); (case hr => first | (go_simp; done) | (go_simp; rfl)); intro gb542 hg w42 hbox hb; have n0_ := am_ (below_step (ue_ HB.out) hb); have n1_ := am_ (hbox); have n2_ := am_ ((by rw [hg]; exact (below_size (ue_ HB.out)) : w.heap.size ≤ gb542)); have n3_ := am_ ((by rw [hg]; exact (below_size (ue_ HB.out)) : w.heap.size ≤ gb542)); clear HB; have HB := n0_; have BK542 := n1_; have GW542 := n2_; have GE542 := n3_; clear n0_ n1_ n2_ n3_; clear hb hbox hg; obtain ⟨hcz43_0, hcz43_1, hcz43_2, hcz43_3, hcz43_4⟩ := cb5_ BK542.out; obtain ⟨hfz43_0, hfz43_1, hfz43_2, hfz43_3⟩ := bf4_ BK542.out; have hfz43_4 := blk_frozen BK542.out 4) | ((with_reducible refine gate_store (t := 72) (p := 8) rfl ?_); refine store_event (t := 72) (p := 8) (v := ?vo_w44) (w1 := (((((w42.setCell ⟨gb542, 0, none⟩ (.int .i64 ((rd_T72 l0 x19_2).f0))).setCell ⟨gb542, 1, none⟩ (.int .i64 ((rd_T72 l0 x19_2).f1))).setCell ⟨gb542, 2, none⟩ (.int .i64 ((rd_T72 l0 x19_2).f2))).setCell ⟨gb542, 3, none⟩ (.bool ((rd_T72 l0 x19_2).f3))).setCell ⟨gb542, 4, none⟩ (.bool false))) ?hg ?ho ?hn ?hr ?_; (case ho => rfl); (case hg => rfl); (case hn => rfl); (case hr => first | (go_simp; done) | (go_simp; rfl)); intro w44 hw; have n0_ : Aside0 (w44.heap[gb542]? = some (.cells #[.int .i64 ((rd_T72 l0 x19_2).f0), .int .i64 ((rd_T72 l0 x19_2).f1), .int .i64 ((rd_T72 l0 x19_2).f2), .bool ((rd_T72 l0 x19_2).f3), .bool false] 72 (0, 0))) := ⟨(by rw [hw]; exact (by (with_reducible repeat first|apply bn_|apply bd_|apply ba_); refine blk_put (cs := #[.int .i64 ((rd_T72 l0 x19_2).f0), .int .i64 ((rd_T72 l0 x19_2).f1), .int .i64 ((rd_T72 l0 x19_2).f2), .bool ((rd_T72 l0 x19_2).f3), .bool false]) ?_ 4 _ rfl; refine blk_put (cs := #[.int .i64 ((rd_T72 l0 x19_2).f0), .int .i64 ((rd_T72 l0 x19_2).f1), .int .i64 ((rd_T72 l0 x19_2).f2), .bool false, .bool false]) ?_ 3 _ rfl; refine blk_put (cs := #[.int .i64 ((rd_T72 l0 x19_2).f0), .int .i64 ((rd_T72 l0 x19_2).f1), .int .i64 0, .bool false, .bool false]) ?_ 2 _ rfl; refine blk_put (cs := #[.int .i64 ((rd_T72 l0 x19_2).f0), .int .i64 0, .int .i64 0, .bool false, .bool false]) ?_ 1 _ rfl; refine blk_put (cs := #[.int .i64 0, .int .i64 0, .int .i64 0, .bool false, .bool false]) ?_ 0 _ rfl; (with_reducible repeat first|apply bn_|apply bd_|apply ba_); exact BK542.out))⟩; have n1_ : Aside0 (Below w.heap.size w w44) := ⟨(by rw [hw]; exact (ue_ HB.out))⟩; clear hw BK542 HB; have BK542 := n0_; have HB := n1_; clear n0_ n1_; obtain ⟨hcz45_0, hcz45_1, hcz45_2, hcz45_3, hcz45_4⟩ := cb5_ BK542.out; obtain ⟨hfz45_0, hfz45_1, hfz45_2, hfz45_3⟩ := bf4_ BK542.out; have hfz45_4 := blk_frozen BK542.out 4) | ((with_reducible refine gate_callee (f := 146) rfl ?_); refine goesL_ (some 24) rfl rfl Try.func146 (by kernel_rfl) rfl #[.agg #[.int .i64 ((rd_T72 l0 x19_2).f0), .int .i64 ((rd_T72 l0 x19_2).f1), .int .i64 ((rd_T72 l0 x19_2).f2), .bool ((rd_T72 l0 x19_2).f3), .bool false]] rfl ul_ ?_; (with_reducible refine (impl_SourceOk.calls ((rd_T72 l0 x19_2).f0) ((rd_T72 l0 x19_2).f1) ((rd_T72 l0 x19_2).f2) ((rd_T72 l0 x19_2).f3) false true _ A10.out).mono ?_); rintro e w46 ⟨rfl, hb⟩; refine ⟨_, rfl, ?_⟩; have n0_ := am_ (bb_ BK542.out hb); have n1_ := am_ (below_step (ue_ HB.out) hb); clear BK542 HB; have BK542 := n0_; have HB := n1_; clear n0_ n1_; (try clear hb); (try clear hb2); (try clear hk); (try clear hi); obtain ⟨hcz47_0, hcz47_1, hcz47_2, hcz47_3, hcz47_4⟩ := cb5_ BK542.out; obtain ⟨hfz47_0, hfz47_1, hfz47_2, hfz47_3⟩ := bf4_ BK542.out; have hfz47_4 := blk_frozen BK542.out 4))
           go_roundg k2
           case measure => have := HJ2.out; have := HK2.out; omega
           case rel => exact ⟨(x5_2), (x6_2), (wrap64 (x19_2 + 1)), (by first | rfl | (simp; done) | (simp [*]; done)), (by first | rfl | (simp; done) | (simp [*]; done)), (by first | rfl | (simp; done) | (simp [*]; done)), H', ⟨by have := HJ2.out; have := HK2.out; omega⟩, ⟨ue_ HB.out⟩⟩
         ·
          replace c11 := Bool.eq_false_iff.mpr c11
          subst c11
          have H1 : (some (-2)) = some r := by rw [if_neg (show ¬ (false = true) by decide)] at H; exact H
          clear H
          have H := H1
          clear H1
          obtain rfl := Option.some.inj H
          have p541 : 0 ≤ (x19_2 : Int) := of_decide_eq_true ua_
          have q541 : x19_2 < (l0.length : Int) := of_decide_eq_true ua_
          obtain ⟨ad541, e541, hx541_0, hx541_1, hx541_2, hx541_3, hx541_4⟩ := at_T72 HR0.out x19_2 p541 q541
          cases e541
          replace hx541_0 := bc_ HB.out hx541_0
          replace hx541_1 := bc_ HB.out hx541_1
          replace hx541_2 := bc_ HB.out hx541_2
          replace hx541_3 := bc_ HB.out hx541_3
          replace hx541_4 := bc_ HB.out hx541_4
          replace p541 := eq_true p541
          replace q541 := eq_true q541
          go_wp2_with (first | ((with_reducible refine gate_dst (N := 8) rfl ?_); (try (refine gate_guard (by rfl) ?_; dsimp only)); refine box_event ?hg (N := 8) ?hd (cs := #[.int .i64 0, .int .i64 0, .int .i64 0, .bool false, .bool false]) (t := 72) ?hr ?_; (case hd => rfl); (case hg => rfl); (case hr => first | (go_simp; done) | (go_simp; rfl)); intro gb542 hg w48 hbox hb; have n0_ := am_ (below_step (ue_ HB.out) hb); have n1_ := am_ (hbox); have n2_ := am_ ((by rw [hg]; exact (below_size (ue_ HB.out)) : w.heap.size ≤ gb542)); have n3_ := am_ ((by rw [hg]; exact (below_size (ue_ HB.out)) : w.heap.size ≤ gb542)); clear HB; have HB := n0_; have BK542 := n1_; have GW542 := n2_; have GE542 := n3_; clear n0_ n1_ n2_ n3_; clear hb hbox hg; obtain ⟨hcz49_0, hcz49_1, hcz49_2, hcz49_3, hcz49_4⟩ := cb5_ BK542.out; obtain ⟨hfz49_0, hfz49_1, hfz49_2, hfz49_3⟩ := bf4_ BK542.out; have hfz49_4 := blk_frozen BK542.out 4) | ((with_reducible refine gate_store (t := 72) (p := 8) rfl ?_); refine store_event (t := 72) (p := 8) (v := ?vo_w50) (w1 := (((((w48.setCell ⟨gb542, 0, none⟩ (.int .i64 ((rd_T72 l0 x19_2).f0))).setCell ⟨gb542, 1, none⟩ (.int .i64 ((rd_T72 l0 x19_2).f1))).setCell ⟨gb542, 2, none⟩ (.int .i64 ((rd_T72 l0 x19_2).f2))).setCell ⟨gb542, 3, none⟩ (.bool ((rd_T72 l0 x19_2).f3))).setCell ⟨gb542, 4, none⟩ (.bool ((rd_T72 l0 x19_2).f4)))) ?hg ?ho ?hn ?hr ?_; (case ho => rfl); (case hg => rfl); (case hn => rfl); (case hr => first | (go_simp; done) | (go_simp; rfl)); intro w50 hw; have n0_ : Aside0 (w50.heap[gb542]? = some (.cells #[.int .i64 ((rd_T72 l0 x19_2).f0), .int .i64 ((rd_T72 l0 x19_2).f1), .int .i64 ((rd_T72 l0 x19_2).f2), .bool ((rd_T72 l0 x19_2).f3), .bool ((rd_T72 l0 x19_2).f4)] 72 (0, 0))) := ⟨(by rw [hw]; exact (by (with_reducible repeat first|apply bn_|apply bd_|apply ba_); refine blk_put (cs := #[.int .i64 ((rd_T72 l0 x19_2).f0), .int .i64 ((rd_T72 l0 x19_2).f1), .int .i64 ((rd_T72 l0 x19_2).f2), .bool ((rd_T72 l0 x19_2).f3), .bool false]) ?_ 4 _ rfl; refine blk_put (cs := #[.int .i64 ((rd_T72 l0 x19_2).f0), .int .i64 ((rd_T72 l0 x19_2).f1), .int .i64 ((rd_T72 l0 x19_2).f2), .bool false, .bool false]) ?_ 3 _ rfl; refine blk_put (cs := #[.int .i64 ((rd_T72 l0 x19_2).f0), .int .i64 ((rd_T72 l0 x19_2).f1), .int .i64 0, .bool false, .bool false]) ?_ 2 _ rfl; refine blk_put (cs := #[.int .i64 ((rd_T72 l0 x19_2).f0), .int .i64 0, .int .i64 0, .bool false, .bool false]) ?_ 1 _ rfl; refine blk_put (cs := #[.int .i64 0, .int .i64 0, .int .i64 0, .bool false, .bool false]) ?_ 0 _ rfl; (with_reducible repeat first|apply bn_|apply bd_|apply ba_); exact BK542.out))⟩; have n1_ : Aside0 (Below w.heap.size w w50) := ⟨(by rw [hw]; exact (ue_ HB.out))⟩; clear hw BK542 HB; have BK542 := n0_; have HB := n1_; clear n0_ n1_; obtain ⟨hcz51_0, hcz51_1, hcz51_2, hcz51_3, hcz51_4⟩ := cb5_ BK542.out; obtain ⟨hfz51_0, hfz51_1, hfz51_2, hfz51_3⟩ := bf4_ BK542.out; have hfz51_4 := blk_frozen BK542.out 4) | ((with_reducible refine gate_callee (f := 146) rfl ?_); refine goesL_ (some 24) rfl rfl Try.func146 (by kernel_rfl) rfl #[.agg #[.int .i64 ((rd_T72 l0 x19_2).f0), .int .i64 ((rd_T72 l0 x19_2).f1), .int .i64 ((rd_T72 l0 x19_2).f2), .bool ((rd_T72 l0 x19_2).f3), .bool ((rd_T72 l0 x19_2).f4)]] rfl ul_ ?_; (with_reducible refine (impl_SourceOk.calls ((rd_T72 l0 x19_2).f0) ((rd_T72 l0 x19_2).f1) ((rd_T72 l0 x19_2).f2) ((rd_T72 l0 x19_2).f3) ((rd_T72 l0 x19_2).f4) false _ A10.out).mono ?_); rintro e w52 ⟨rfl, hb⟩; refine ⟨_, rfl, ?_⟩; have n0_ := am_ (bb_ BK542.out hb); have n1_ := am_ (below_step (ue_ HB.out) hb); clear BK542 HB; have BK542 := n0_; have HB := n1_; clear n0_ n1_; (try clear hb); (try clear hb2); (try clear hk); (try clear hi)))
          go_ret
          exact ⟨ew_, ue_ HB.out⟩
        ·
         rw [if_neg c9] at H
         exact absurd H (by simp)
       ·
        rw [if_neg c8] at H
        exact absurd H (by simp)
      ·
       rw [if_neg c7] at H
       have c7b0 : decide (x19_2 < (l0.length : Int)) = false := decide_eq_false c7
       clear c7
       by_cases c53 : x6_2 = true
       ·
        subst c53
        have H1 : (some (mx x5_2 a1)) = some r := by rw [if_pos rfl] at H; exact H
        clear H
        have H := H1
        clear H1
        obtain ⟨ji54, hji54⟩ : ∃ j_ : Int, (mx x5_2 a1) = j_ := ⟨_, rfl⟩
        replace H : (some ji54) = some r := by first | (rw [hji54] at H; exact H) | (simp only [hji54] at H ⊢; exact H)
        have hji54_ : (if x5_2 < a1 then a1 else x5_2) = ji54 := hji54
        obtain rfl := Option.some.inj H
        go_wp2
        go_ret
        exact ⟨by first | rfl | (simp [errW_none, errW_some] <;> rfl) | (simp only [← hji54]; first | rfl | (simp [errW_none, errW_some] <;> rfl)) | (simp [*, errW_none, errW_some] <;> rfl), ue_ HB.out⟩
       ·
        replace c53 := Bool.eq_false_iff.mpr c53
        subst c53
        have H1 : (some a1) = some r := by rw [if_neg (show ¬ (false = true) by decide)] at H; exact H
        clear H
        have H := H1
        clear H1
        obtain rfl := Option.some.inj H
        go_wp2
        go_ret
        exact ⟨ew_, ue_ HB.out⟩

/-! ### spec_AllMarks: function 68 -/
mutual
def spec_AllMarks.j0 : Nat → List (S72) → Int → Bool → Option (Int)
 | 0, _, _, _ => none
 | k + 1, x0, x1, x14 => if x14 = true then (some (-2)) else (spec_AllMarks.l0 k x0 x1 1000001 0)
def spec_AllMarks.l0 : Nat → List (S72) → Int → Int → Int → Option (Int)
 | 0, _, _, _, _ => none
 | k + 1, x0, x1, x5, x6 => if x6 < (x0.length : Int) then (if 0 ≤ x6 then ((spec_SourceOk.f ((rd_T72 x0 x6).f0) ((rd_T72 x0 x6).f1) ((rd_T72 x0 x6).f2) ((rd_T72 x0 x6).f3) ((rd_T72 x0 x6).f4)).bind fun t546 => (if t546 = true then (if (rd_T72 x0 x6).f4 = true then (if ((rd_T72 x0 x6).f3 = true) then (spec_AllMarks.l0 k x0 x1 x5 (wrap64 (x6 + 1))) else (if ((rd_T72 x0 x6).f1) < x5 then (spec_AllMarks.l0 k x0 x1 ((rd_T72 x0 x6).f1) (wrap64 (x6 + 1))) else (spec_AllMarks.l0 k x0 x1 x5 (wrap64 (x6 + 1))))) else (spec_AllMarks.l0 k x0 x1 x5 (wrap64 (x6 + 1)))) else (some (-2)))) else (none)) else (if x5 > 1000000 then (some x1) else (if x5 < x1 then (some x1) else (some x5)))
end
def spec_AllMarks.f (k : Nat) (l0 : List (S72)) (a1 : Int) : Option (Int) := (spec_l04Mark.f a1).bind fun t544 => (if t544 = true then (spec_AllMarks.j0 k l0 a1 (decide ((l0.length : Int) > 300))) else (spec_AllMarks.j0 k l0 a1 true))
theorem spec_AllMarks.mono_l : ∀ k, (∀ y0 y1 y2, LeO (spec_AllMarks.j0 k y0 y1 y2) (spec_AllMarks.j0 (k + 1) y0 y1 y2)) ∧ (∀ y0 y1 y2 y3, LeO (spec_AllMarks.l0 k y0 y1 y2 y3) (spec_AllMarks.l0 (k + 1) y0 y1 y2 y3))
 | 0 => ⟨fun _ _ _ r h => by simp [spec_AllMarks.j0] at h, fun _ _ _ _ r h => by simp [spec_AllMarks.l0] at h⟩
 | k + 1 => by
  obtain ⟨ih0, ih1⟩ := spec_AllMarks.mono_l k
  refine ⟨?_, ?_⟩
  ·
   intro y0 y1 y2
   unfold spec_AllMarks.j0
   repeat' first
   | (with_reducible exact ih0 _ _ _)
   | (with_reducible exact ih1 _ _ _ _)
   | (with_reducible exact LeO.refl _)
   | (with_reducible exact LeO.none _)
   | (with_reducible refine LeO.ite ?_ ?_)
   | (with_reducible refine LeO.bind ?_ (fun _ => ?_))
   | exact ih0 _ _ _
   | exact ih1 _ _ _ _
   | exact LeO.none _
   | refine LeO.ite ?_ ?_
   | refine LeO.bind ?_ (fun _ => ?_)
  ·
   intro y0 y1 y2 y3
   unfold spec_AllMarks.l0
   repeat' first
   | (with_reducible exact ih0 _ _ _)
   | (with_reducible exact ih1 _ _ _ _)
   | (with_reducible exact LeO.refl _)
   | (with_reducible exact LeO.none _)
   | (with_reducible refine LeO.ite ?_ ?_)
   | (with_reducible refine LeO.bind ?_ (fun _ => ?_))
   | exact ih0 _ _ _
   | exact ih1 _ _ _ _
   | exact LeO.none _
   | refine LeO.ite ?_ ?_
   | refine LeO.bind ?_ (fun _ => ?_)
theorem spec_AllMarks.mono : ∀ a0 a1 k, LeO (spec_AllMarks.f k a0 a1) (spec_AllMarks.f (k + 1) a0 a1) := by
 intro a0 a1 k
 obtain ⟨ih0, ih1⟩ := spec_AllMarks.mono_l k
 unfold spec_AllMarks.f
 repeat' first
   | (with_reducible exact ih0 _ _ _)
   | (with_reducible exact ih1 _ _ _ _)
   | (with_reducible exact LeO.refl _)
   | (with_reducible exact LeO.none _)
   | (with_reducible refine LeO.ite ?_ ?_)
   | (with_reducible refine LeO.bind ?_ (fun _ => ?_))
   | exact ih0 _ _ _
   | exact ih1 _ _ _ _
   | exact LeO.none _
   | refine LeO.ite ?_ ?_
   | refine LeO.bind ?_ (fun _ => ?_)
set_option maxHeartbeats 8000000 in
set_option maxRecDepth 100000 in
theorem spec_AllMarks.calls (k : Nat) (A0 : Option Addr) (c0 : Nat) (l0 : List (S72)) (a1 : Int) (r : Int) (w : World) (hr0 : Kd.C k72 w A0 l0.length l0) (hc0 : l0.length ≤ c0) (h : spec_AllMarks.f k l0 a1 = some r) :
  Calls Try.prog 68 #[.slice A0 l0.length c0, .int .i64 a1] w fun e w' => e = .returned (.int .i64 r) ∧ Below w.heap.size w w' := by
 have hu72 := Try.underlying72
 have HR0 := Aside0.mk hr0
 have HC0 := Aside0.mk hc0
 clear hr0 hc0
 have HB := am_ (Below.refl w.heap.size w)
 have H : ((spec_l04Mark.f a1).bind fun t544 => (if t544 = true then (spec_AllMarks.j0 k l0 a1 (decide ((l0.length : Int) > 300))) else (spec_AllMarks.j0 k l0 a1 true))) = some r := h
 clear h
 have HC3 := Aside0.mk H
 clear H
 go_enter Try.func68, Try.ntmps68
 go_upto_region 1 with (fail)
 go_cut [14] (fun v14 wc => ∃ (kq : Nat) (x14_2 : Bool), v14 = .bool x14_2 ∧ Aside0 (spec_AllMarks.j0 kq l0 a1 x14_2 = some r) ∧ Aside0 (kq ≤ k) ∧ Aside0 (Below w.heap.size w wc))
 case first =>
  have H := HC3.out
  clear HC3
  replace H := Option.bind_eq_some_iff.mp H
  obtain ⟨t544, A40, H⟩ := H
  replace H : (if t544 = true then (spec_AllMarks.j0 k l0 a1 (decide ((l0.length : Int) > 300))) else (spec_AllMarks.j0 k l0 a1 true)) = some r := H
  have A4 := Aside0.mk A40
  clear A40
  by_cases c5 : t544 = true
  ·
   subst c5
   have H1 : (spec_AllMarks.j0 k l0 a1 (decide ((l0.length : Int) > 300))) = some r := by rw [if_pos rfl] at H; exact H
   clear H
   have H := H1
   clear H1
   have H' := Aside0.mk H
   clear H
   go_wp2_with (first | ((with_reducible refine gate_callee (f := 95) rfl ?_); refine goesL_ (some 8) rfl rfl Try.func95 (by kernel_rfl) rfl #[.int .i64 a1] rfl ul_ ?_; (with_reducible refine (spec_l04Mark.calls a1 true _ A4.out).mono ?_); rintro e w' ⟨rfl, ⟨nd, rfl⟩⟩; refine ⟨_, rfl, ?_⟩))
   go_meet
   case rel => exact ⟨_, (decide ((l0.length : Int) > 300)), (by first | rfl | (simp; done) | (simp [*]; done)), H', ⟨by first | omega | exact Nat.le_refl _⟩, ⟨ue_ HB.out⟩⟩
  ·
   replace c5 := Bool.eq_false_iff.mpr c5
   subst c5
   have H1 : (spec_AllMarks.j0 k l0 a1 true) = some r := by rw [if_neg (show ¬ (false = true) by decide)] at H; exact H
   clear H
   have H := H1
   clear H1
   have H' := Aside0.mk H
   clear H
   go_wp2_with (first | ((with_reducible refine gate_callee (f := 95) rfl ?_); refine goesL_ (some 8) rfl rfl Try.func95 (by kernel_rfl) rfl #[.int .i64 a1] rfl ul_ ?_; (with_reducible refine (spec_l04Mark.calls a1 false _ A4.out).mono ?_); rintro e w' ⟨rfl, ⟨nd, rfl⟩⟩; refine ⟨_, rfl, ?_⟩))
   go_meet
   case rel => exact ⟨_, (true), (by first | rfl | (simp; done) | (simp [*]; done)), H', ⟨by first | omega | exact Nat.le_refl _⟩, ⟨ue_ HB.out⟩⟩
 case rest =>
  clear HC3
  try clear p2
  try clear c5
  obtain ⟨kq, x14_2, rfl, HA, HJ2, HB⟩ := hcut
  cases kq with
  | zero => exact absurd HA.out (by simp [spec_AllMarks.j0])
  | succ kj2 =>
   have H := HA.out
   clear HA
   simp only [spec_AllMarks.j0] at H
   by_cases c6 : x14_2 = true
   ·
    subst c6
    have H1 : (some (-2)) = some r := by rw [if_pos rfl] at H; exact H
    clear H
    have H := H1
    clear H1
    obtain rfl := Option.some.inj H
    go_wp2
    go_ret
    exact ⟨ew_, ue_ HB.out⟩
   ·
    replace c6 := Bool.eq_false_iff.mpr c6
    subst c6
    have H1 : (spec_AllMarks.l0 kj2 l0 a1 1000001 0) = some r := by rw [if_neg (show ¬ (false = true) by decide)] at H; exact H
    clear H
    have H := H1
    clear H1
    have H' := Aside0.mk H
    clear H
    go_wp2
    (try simp only [Act.put, List.setIfInBounds_toArray, List.set_cons_zero, List.set_cons_succ])
    go_loopg [5, 6] kj2 (fun kq v5 v6 w' => ∃ (x5_2 : Int) (x6_2 : Int), v5 = .int .i64 x5_2 ∧ v6 = .int .i64 x6_2 ∧ Aside0 (spec_AllMarks.l0 kq l0 a1 x5_2 x6_2 = some r) ∧ Aside0 (kq ≤ kj2) ∧ Aside0 (Below w.heap.size w w'))
    case atStart => exact ⟨(1000001), (0), (by first | rfl | (simp; done) | (simp [*]; done)), (by first | rfl | (simp; done) | (simp [*]; done)), H', ⟨Nat.le_refl _⟩, ⟨ue_ HB.out⟩⟩
    case round =>
     clear H'
     try clear p2
     try clear c5
     try clear c6
     try clear p2
     obtain ⟨x5_2, x6_2, rfl, rfl, HA, HK2, HB⟩ := hrel
     cases gk with
     | zero => exact absurd HA.out (by simp [spec_AllMarks.l0])
     | succ k2 =>
      have H := HA.out
      clear HA
      simp only [spec_AllMarks.l0] at H
      by_cases c7 : x6_2 < (l0.length : Int)
      ·
       rw [if_pos c7] at H
       have c7b0 : decide (x6_2 < (l0.length : Int)) = true := decide_eq_true c7
       clear c7
       by_cases c8 : 0 ≤ x6_2
       ·
        rw [if_pos c8] at H
        have c8b0 : decide (0 ≤ x6_2) = true := decide_eq_true c8
        clear c8
        replace H := Option.bind_eq_some_iff.mp H
        obtain ⟨t546, A90, H⟩ := H
        replace H : (if t546 = true then (if (rd_T72 l0 x6_2).f4 = true then (if ((rd_T72 l0 x6_2).f3 = true) then (spec_AllMarks.l0 k2 l0 a1 x5_2 (wrap64 (x6_2 + 1))) else (if ((rd_T72 l0 x6_2).f1) < x5_2 then (spec_AllMarks.l0 k2 l0 a1 ((rd_T72 l0 x6_2).f1) (wrap64 (x6_2 + 1))) else (spec_AllMarks.l0 k2 l0 a1 x5_2 (wrap64 (x6_2 + 1))))) else (spec_AllMarks.l0 k2 l0 a1 x5_2 (wrap64 (x6_2 + 1)))) else (some (-2))) = some r := H
        have A9 := Aside0.mk A90
        clear A90
        by_cases c10 : t546 = true
        ·
         subst c10
         have H1 : (if (rd_T72 l0 x6_2).f4 = true then (if ((rd_T72 l0 x6_2).f3 = true) then (spec_AllMarks.l0 k2 l0 a1 x5_2 (wrap64 (x6_2 + 1))) else (if ((rd_T72 l0 x6_2).f1) < x5_2 then (spec_AllMarks.l0 k2 l0 a1 ((rd_T72 l0 x6_2).f1) (wrap64 (x6_2 + 1))) else (spec_AllMarks.l0 k2 l0 a1 x5_2 (wrap64 (x6_2 + 1))))) else (spec_AllMarks.l0 k2 l0 a1 x5_2 (wrap64 (x6_2 + 1)))) = some r := by rw [if_pos rfl] at H; exact H
         clear H
         have H := H1
         clear H1
         obtain ⟨bq11, hbq11⟩ : ∃ b_ : Bool, b_ = ((rd_T72 l0 x6_2).f4) := ⟨_, rfl⟩
         replace H : (if bq11 = true then (if ((rd_T72 l0 x6_2).f3 = true) then (spec_AllMarks.l0 k2 l0 a1 x5_2 (wrap64 (x6_2 + 1))) else (if ((rd_T72 l0 x6_2).f1) < x5_2 then (spec_AllMarks.l0 k2 l0 a1 ((rd_T72 l0 x6_2).f1) (wrap64 (x6_2 + 1))) else (spec_AllMarks.l0 k2 l0 a1 x5_2 (wrap64 (x6_2 + 1))))) else (spec_AllMarks.l0 k2 l0 a1 x5_2 (wrap64 (x6_2 + 1)))) = some r := by rw [← hbq11] at H; exact H
         (try rw [← hbq11] at A4)
         (try rw [← hbq11] at A9)
         have Nbq11 := Aside0.mk hbq11
         clear hbq11
         by_cases c12 : bq11 = true
         ·
          subst c12
          have H1 : (if ((rd_T72 l0 x6_2).f3 = true) then (spec_AllMarks.l0 k2 l0 a1 x5_2 (wrap64 (x6_2 + 1))) else (if ((rd_T72 l0 x6_2).f1) < x5_2 then (spec_AllMarks.l0 k2 l0 a1 ((rd_T72 l0 x6_2).f1) (wrap64 (x6_2 + 1))) else (spec_AllMarks.l0 k2 l0 a1 x5_2 (wrap64 (x6_2 + 1))))) = some r := by rw [if_pos rfl] at H; exact H
          clear H
          have H := H1
          clear H1
          obtain ⟨bq13, hbq13⟩ : ∃ b_ : Bool, b_ = ((rd_T72 l0 x6_2).f3) := ⟨_, rfl⟩
          replace H : (if (bq13 = true) then (spec_AllMarks.l0 k2 l0 a1 x5_2 (wrap64 (x6_2 + 1))) else (if ((rd_T72 l0 x6_2).f1) < x5_2 then (spec_AllMarks.l0 k2 l0 a1 ((rd_T72 l0 x6_2).f1) (wrap64 (x6_2 + 1))) else (spec_AllMarks.l0 k2 l0 a1 x5_2 (wrap64 (x6_2 + 1))))) = some r := by rw [← hbq13] at H; exact H
          (try rw [← hbq13] at A4)
          (try rw [← hbq13] at A9)
          have Nbq13 := Aside0.mk hbq13
          clear hbq13
          by_cases c14 : (bq13 = true)
          ·
           subst c14
           have H1 : (spec_AllMarks.l0 k2 l0 a1 x5_2 (wrap64 (x6_2 + 1))) = some r := by rw [if_pos rfl] at H; exact H
           clear H
           have H := H1
           clear H1
           have H' := Aside0.mk H
           clear H
           have p545 : 0 ≤ (x6_2 : Int) := of_decide_eq_true ua_
           have q545 : x6_2 < (l0.length : Int) := of_decide_eq_true ua_
           obtain ⟨ad545, e545, hx545_0, hx545_1, hx545_2, hx545_3, hx545_4⟩ := at_T72 HR0.out x6_2 p545 q545
           (try rw [← Nbq11.out] at hx545_3)
           (try rw [← Nbq13.out] at hx545_3)
           (try rw [← Nbq11.out] at hx545_4)
           (try rw [← Nbq13.out] at hx545_4)
           cases e545
           replace hx545_0 := bc_ HB.out hx545_0
           replace hx545_1 := bc_ HB.out hx545_1
           replace hx545_2 := bc_ HB.out hx545_2
           replace hx545_3 := bc_ HB.out hx545_3
           replace hx545_4 := bc_ HB.out hx545_4
           replace p545 := eq_true p545
           replace q545 := eq_true q545
           go_wp2_with (first | ((with_reducible refine gate_callee (f := 147) rfl ?_); refine goesL_ (some 25) rfl rfl Try.func147 (by kernel_rfl) rfl #[.agg #[.int .i64 ((rd_T72 l0 x6_2).f0), .int .i64 ((rd_T72 l0 x6_2).f1), .int .i64 ((rd_T72 l0 x6_2).f2), .bool true, .bool true]] rfl ul_ ?_; (with_reducible refine (spec_SourceOk.calls ((rd_T72 l0 x6_2).f0) ((rd_T72 l0 x6_2).f1) ((rd_T72 l0 x6_2).f2) true true true _ A9.out).mono ?_); rintro e w15 ⟨rfl, hb⟩; refine ⟨_, rfl, ?_⟩; have n0_ := am_ (below_step (ue_ HB.out) hb); clear HB; have HB := n0_; clear n0_; (try clear hb); (try clear hb2); (try clear hk); (try clear hi); have p547 : 0 ≤ (x6_2 : Int) := of_decide_eq_true ua_; have q547 : x6_2 < (l0.length : Int) := of_decide_eq_true ua_; obtain ⟨ad547, e547, hx547_0, hx547_1, hx547_2, hx547_3, hx547_4⟩ := at_T72 HR0.out x6_2 p547 q547; (try rw [← Nbq11.out] at hx547_3); (try rw [← Nbq13.out] at hx547_3); (try rw [← Nbq11.out] at hx547_4); (try rw [← Nbq13.out] at hx547_4); obtain rfl : ad545 = ad547 := (by injection e547); replace hx547_0 := bc_ HB.out hx547_0; replace hx547_1 := bc_ HB.out hx547_1; replace hx547_2 := bc_ HB.out hx547_2; replace hx547_3 := bc_ HB.out hx547_3; replace hx547_4 := bc_ HB.out hx547_4; replace p547 := eq_true p547; replace q547 := eq_true q547; have p548 : 0 ≤ (x6_2 : Int) := of_decide_eq_true ua_; have q548 : x6_2 < (l0.length : Int) := of_decide_eq_true ua_; obtain ⟨ad548, e548, hx548_0, hx548_1, hx548_2, hx548_3, hx548_4⟩ := at_T72 HR0.out x6_2 p548 q548; (try rw [← Nbq11.out] at hx548_3); (try rw [← Nbq13.out] at hx548_3); (try rw [← Nbq11.out] at hx548_4); (try rw [← Nbq13.out] at hx548_4); obtain rfl : ad545 = ad548 := (by injection e548); replace hx548_0 := bc_ HB.out hx548_0; replace hx548_1 := bc_ HB.out hx548_1; replace hx548_2 := bc_ HB.out hx548_2; replace hx548_3 := bc_ HB.out hx548_3; replace hx548_4 := bc_ HB.out hx548_4; replace p548 := eq_true p548; replace q548 := eq_true q548))
           go_roundg k2
           case measure => have := HJ2.out; have := HK2.out; omega
           case rel => exact ⟨(x5_2), (wrap64 (x6_2 + 1)), (by first | rfl | (simp; done) | (simp [*]; done)), (by first | rfl | (simp; done) | (simp [*]; done)), H', ⟨by have := HJ2.out; have := HK2.out; omega⟩, ⟨ue_ HB.out⟩⟩
          ·
           replace c14 := Bool.eq_false_iff.mpr c14
           subst c14
           have H1 : (if ((rd_T72 l0 x6_2).f1) < x5_2 then (spec_AllMarks.l0 k2 l0 a1 ((rd_T72 l0 x6_2).f1) (wrap64 (x6_2 + 1))) else (spec_AllMarks.l0 k2 l0 a1 x5_2 (wrap64 (x6_2 + 1)))) = some r := by rw [if_neg (show ¬ (false = true) by decide)] at H; exact H
           clear H
           have H := H1
           clear H1
           by_cases c16 : ((rd_T72 l0 x6_2).f1) < x5_2
           ·
            rw [if_pos c16] at H
            have c16b0 : decide (((rd_T72 l0 x6_2).f1) < x5_2) = true := decide_eq_true c16
            clear c16
            have H' := Aside0.mk H
            clear H
            have p545 : 0 ≤ (x6_2 : Int) := of_decide_eq_true ua_
            have q545 : x6_2 < (l0.length : Int) := of_decide_eq_true ua_
            obtain ⟨ad545, e545, hx545_0, hx545_1, hx545_2, hx545_3, hx545_4⟩ := at_T72 HR0.out x6_2 p545 q545
            (try rw [← Nbq11.out] at hx545_3)
            (try rw [← Nbq13.out] at hx545_3)
            (try rw [← Nbq11.out] at hx545_4)
            (try rw [← Nbq13.out] at hx545_4)
            cases e545
            replace hx545_0 := bc_ HB.out hx545_0
            replace hx545_1 := bc_ HB.out hx545_1
            replace hx545_2 := bc_ HB.out hx545_2
            replace hx545_3 := bc_ HB.out hx545_3
            replace hx545_4 := bc_ HB.out hx545_4
            replace p545 := eq_true p545
            replace q545 := eq_true q545
            go_wp2_with (first | ((with_reducible refine gate_callee (f := 147) rfl ?_); refine goesL_ (some 25) rfl rfl Try.func147 (by kernel_rfl) rfl #[.agg #[.int .i64 ((rd_T72 l0 x6_2).f0), .int .i64 ((rd_T72 l0 x6_2).f1), .int .i64 ((rd_T72 l0 x6_2).f2), .bool false, .bool true]] rfl ul_ ?_; (with_reducible refine (spec_SourceOk.calls ((rd_T72 l0 x6_2).f0) ((rd_T72 l0 x6_2).f1) ((rd_T72 l0 x6_2).f2) false true true _ A9.out).mono ?_); rintro e w17 ⟨rfl, hb⟩; refine ⟨_, rfl, ?_⟩; have n0_ := am_ (below_step (ue_ HB.out) hb); clear HB; have HB := n0_; clear n0_; (try clear hb); (try clear hb2); (try clear hk); (try clear hi); have p547 : 0 ≤ (x6_2 : Int) := of_decide_eq_true ua_; have q547 : x6_2 < (l0.length : Int) := of_decide_eq_true ua_; obtain ⟨ad547, e547, hx547_0, hx547_1, hx547_2, hx547_3, hx547_4⟩ := at_T72 HR0.out x6_2 p547 q547; (try rw [← Nbq11.out] at hx547_3); (try rw [← Nbq13.out] at hx547_3); (try rw [← Nbq11.out] at hx547_4); (try rw [← Nbq13.out] at hx547_4); obtain rfl : ad545 = ad547 := (by injection e547); replace hx547_0 := bc_ HB.out hx547_0; replace hx547_1 := bc_ HB.out hx547_1; replace hx547_2 := bc_ HB.out hx547_2; replace hx547_3 := bc_ HB.out hx547_3; replace hx547_4 := bc_ HB.out hx547_4; replace p547 := eq_true p547; replace q547 := eq_true q547; have p548 : 0 ≤ (x6_2 : Int) := of_decide_eq_true ua_; have q548 : x6_2 < (l0.length : Int) := of_decide_eq_true ua_; obtain ⟨ad548, e548, hx548_0, hx548_1, hx548_2, hx548_3, hx548_4⟩ := at_T72 HR0.out x6_2 p548 q548; (try rw [← Nbq11.out] at hx548_3); (try rw [← Nbq13.out] at hx548_3); (try rw [← Nbq11.out] at hx548_4); (try rw [← Nbq13.out] at hx548_4); obtain rfl : ad545 = ad548 := (by injection e548); replace hx548_0 := bc_ HB.out hx548_0; replace hx548_1 := bc_ HB.out hx548_1; replace hx548_2 := bc_ HB.out hx548_2; replace hx548_3 := bc_ HB.out hx548_3; replace hx548_4 := bc_ HB.out hx548_4; replace p548 := eq_true p548; replace q548 := eq_true q548; have p549 : 0 ≤ (x6_2 : Int) := of_decide_eq_true ua_; have q549 : x6_2 < (l0.length : Int) := of_decide_eq_true ua_; obtain ⟨ad549, e549, hx549_0, hx549_1, hx549_2, hx549_3, hx549_4⟩ := at_T72 HR0.out x6_2 p549 q549; (try rw [← Nbq11.out] at hx549_3); (try rw [← Nbq13.out] at hx549_3); (try rw [← Nbq11.out] at hx549_4); (try rw [← Nbq13.out] at hx549_4); obtain rfl : ad545 = ad549 := (by injection e549); replace hx549_0 := bc_ HB.out hx549_0; replace hx549_1 := bc_ HB.out hx549_1; replace hx549_2 := bc_ HB.out hx549_2; replace hx549_3 := bc_ HB.out hx549_3; replace hx549_4 := bc_ HB.out hx549_4; replace p549 := eq_true p549; replace q549 := eq_true q549; have p550 : 0 ≤ (x6_2 : Int) := of_decide_eq_true ua_; have q550 : x6_2 < (l0.length : Int) := of_decide_eq_true ua_; obtain ⟨ad550, e550, hx550_0, hx550_1, hx550_2, hx550_3, hx550_4⟩ := at_T72 HR0.out x6_2 p550 q550; (try rw [← Nbq11.out] at hx550_3); (try rw [← Nbq13.out] at hx550_3); (try rw [← Nbq11.out] at hx550_4); (try rw [← Nbq13.out] at hx550_4); obtain rfl : ad545 = ad550 := (by injection e550); replace hx550_0 := bc_ HB.out hx550_0; replace hx550_1 := bc_ HB.out hx550_1; replace hx550_2 := bc_ HB.out hx550_2; replace hx550_3 := bc_ HB.out hx550_3; replace hx550_4 := bc_ HB.out hx550_4; replace p550 := eq_true p550; replace q550 := eq_true q550))
            go_roundg k2
            case measure => have := HJ2.out; have := HK2.out; omega
            case rel => exact ⟨((rd_T72 l0 x6_2).f1), (wrap64 (x6_2 + 1)), (by first | rfl | (simp; done) | (simp [*]; done)), (by first | rfl | (simp; done) | (simp [*]; done)), H', ⟨by have := HJ2.out; have := HK2.out; omega⟩, ⟨ue_ HB.out⟩⟩
           ·
            rw [if_neg c16] at H
            have c16b0 : decide (((rd_T72 l0 x6_2).f1) < x5_2) = false := decide_eq_false c16
            clear c16
            have H' := Aside0.mk H
            clear H
            have p545 : 0 ≤ (x6_2 : Int) := of_decide_eq_true ua_
            have q545 : x6_2 < (l0.length : Int) := of_decide_eq_true ua_
            obtain ⟨ad545, e545, hx545_0, hx545_1, hx545_2, hx545_3, hx545_4⟩ := at_T72 HR0.out x6_2 p545 q545
            (try rw [← Nbq11.out] at hx545_3)
            (try rw [← Nbq13.out] at hx545_3)
            (try rw [← Nbq11.out] at hx545_4)
            (try rw [← Nbq13.out] at hx545_4)
            cases e545
            replace hx545_0 := bc_ HB.out hx545_0
            replace hx545_1 := bc_ HB.out hx545_1
            replace hx545_2 := bc_ HB.out hx545_2
            replace hx545_3 := bc_ HB.out hx545_3
            replace hx545_4 := bc_ HB.out hx545_4
            replace p545 := eq_true p545
            replace q545 := eq_true q545
            go_wp2_with (first | ((with_reducible refine gate_callee (f := 147) rfl ?_); refine goesL_ (some 25) rfl rfl Try.func147 (by kernel_rfl) rfl #[.agg #[.int .i64 ((rd_T72 l0 x6_2).f0), .int .i64 ((rd_T72 l0 x6_2).f1), .int .i64 ((rd_T72 l0 x6_2).f2), .bool false, .bool true]] rfl ul_ ?_; (with_reducible refine (spec_SourceOk.calls ((rd_T72 l0 x6_2).f0) ((rd_T72 l0 x6_2).f1) ((rd_T72 l0 x6_2).f2) false true true _ A9.out).mono ?_); rintro e w18 ⟨rfl, hb⟩; refine ⟨_, rfl, ?_⟩; have n0_ := am_ (below_step (ue_ HB.out) hb); clear HB; have HB := n0_; clear n0_; (try clear hb); (try clear hb2); (try clear hk); (try clear hi); have p547 : 0 ≤ (x6_2 : Int) := of_decide_eq_true ua_; have q547 : x6_2 < (l0.length : Int) := of_decide_eq_true ua_; obtain ⟨ad547, e547, hx547_0, hx547_1, hx547_2, hx547_3, hx547_4⟩ := at_T72 HR0.out x6_2 p547 q547; (try rw [← Nbq11.out] at hx547_3); (try rw [← Nbq13.out] at hx547_3); (try rw [← Nbq11.out] at hx547_4); (try rw [← Nbq13.out] at hx547_4); obtain rfl : ad545 = ad547 := (by injection e547); replace hx547_0 := bc_ HB.out hx547_0; replace hx547_1 := bc_ HB.out hx547_1; replace hx547_2 := bc_ HB.out hx547_2; replace hx547_3 := bc_ HB.out hx547_3; replace hx547_4 := bc_ HB.out hx547_4; replace p547 := eq_true p547; replace q547 := eq_true q547; have p548 : 0 ≤ (x6_2 : Int) := of_decide_eq_true ua_; have q548 : x6_2 < (l0.length : Int) := of_decide_eq_true ua_; obtain ⟨ad548, e548, hx548_0, hx548_1, hx548_2, hx548_3, hx548_4⟩ := at_T72 HR0.out x6_2 p548 q548; (try rw [← Nbq11.out] at hx548_3); (try rw [← Nbq13.out] at hx548_3); (try rw [← Nbq11.out] at hx548_4); (try rw [← Nbq13.out] at hx548_4); obtain rfl : ad545 = ad548 := (by injection e548); replace hx548_0 := bc_ HB.out hx548_0; replace hx548_1 := bc_ HB.out hx548_1; replace hx548_2 := bc_ HB.out hx548_2; replace hx548_3 := bc_ HB.out hx548_3; replace hx548_4 := bc_ HB.out hx548_4; replace p548 := eq_true p548; replace q548 := eq_true q548; have p549 : 0 ≤ (x6_2 : Int) := of_decide_eq_true ua_; have q549 : x6_2 < (l0.length : Int) := of_decide_eq_true ua_; obtain ⟨ad549, e549, hx549_0, hx549_1, hx549_2, hx549_3, hx549_4⟩ := at_T72 HR0.out x6_2 p549 q549; (try rw [← Nbq11.out] at hx549_3); (try rw [← Nbq13.out] at hx549_3); (try rw [← Nbq11.out] at hx549_4); (try rw [← Nbq13.out] at hx549_4); obtain rfl : ad545 = ad549 := (by injection e549); replace hx549_0 := bc_ HB.out hx549_0; replace hx549_1 := bc_ HB.out hx549_1; replace hx549_2 := bc_ HB.out hx549_2; replace hx549_3 := bc_ HB.out hx549_3; replace hx549_4 := bc_ HB.out hx549_4; replace p549 := eq_true p549; replace q549 := eq_true q549))
            go_roundg k2
            case measure => have := HJ2.out; have := HK2.out; omega
            case rel => exact ⟨(x5_2), (wrap64 (x6_2 + 1)), (by first | rfl | (simp; done) | (simp [*]; done)), (by first | rfl | (simp; done) | (simp [*]; done)), H', ⟨by have := HJ2.out; have := HK2.out; omega⟩, ⟨ue_ HB.out⟩⟩
         ·
          replace c12 := Bool.eq_false_iff.mpr c12
          subst c12
          have H1 : (spec_AllMarks.l0 k2 l0 a1 x5_2 (wrap64 (x6_2 + 1))) = some r := by rw [if_neg (show ¬ (false = true) by decide)] at H; exact H
          clear H
          have H := H1
          clear H1
          have H' := Aside0.mk H
          clear H
          have p545 : 0 ≤ (x6_2 : Int) := of_decide_eq_true ua_
          have q545 : x6_2 < (l0.length : Int) := of_decide_eq_true ua_
          obtain ⟨ad545, e545, hx545_0, hx545_1, hx545_2, hx545_3, hx545_4⟩ := at_T72 HR0.out x6_2 p545 q545
          (try rw [← Nbq11.out] at hx545_3)
          (try rw [← Nbq11.out] at hx545_4)
          cases e545
          replace hx545_0 := bc_ HB.out hx545_0
          replace hx545_1 := bc_ HB.out hx545_1
          replace hx545_2 := bc_ HB.out hx545_2
          replace hx545_3 := bc_ HB.out hx545_3
          replace hx545_4 := bc_ HB.out hx545_4
          replace p545 := eq_true p545
          replace q545 := eq_true q545
          go_wp2_with (first | ((with_reducible refine gate_callee (f := 147) rfl ?_); refine goesL_ (some 25) rfl rfl Try.func147 (by kernel_rfl) rfl #[.agg #[.int .i64 ((rd_T72 l0 x6_2).f0), .int .i64 ((rd_T72 l0 x6_2).f1), .int .i64 ((rd_T72 l0 x6_2).f2), .bool ((rd_T72 l0 x6_2).f3), .bool false]] rfl ul_ ?_; (with_reducible refine (spec_SourceOk.calls ((rd_T72 l0 x6_2).f0) ((rd_T72 l0 x6_2).f1) ((rd_T72 l0 x6_2).f2) ((rd_T72 l0 x6_2).f3) false true _ A9.out).mono ?_); rintro e w19 ⟨rfl, hb⟩; refine ⟨_, rfl, ?_⟩; have n0_ := am_ (below_step (ue_ HB.out) hb); clear HB; have HB := n0_; clear n0_; (try clear hb); (try clear hb2); (try clear hk); (try clear hi); have p547 : 0 ≤ (x6_2 : Int) := of_decide_eq_true ua_; have q547 : x6_2 < (l0.length : Int) := of_decide_eq_true ua_; obtain ⟨ad547, e547, hx547_0, hx547_1, hx547_2, hx547_3, hx547_4⟩ := at_T72 HR0.out x6_2 p547 q547; (try rw [← Nbq11.out] at hx547_3); (try rw [← Nbq11.out] at hx547_4); obtain rfl : ad545 = ad547 := (by injection e547); replace hx547_0 := bc_ HB.out hx547_0; replace hx547_1 := bc_ HB.out hx547_1; replace hx547_2 := bc_ HB.out hx547_2; replace hx547_3 := bc_ HB.out hx547_3; replace hx547_4 := bc_ HB.out hx547_4; replace p547 := eq_true p547; replace q547 := eq_true q547))
          go_roundg k2
          case measure => have := HJ2.out; have := HK2.out; omega
          case rel => exact ⟨(x5_2), (wrap64 (x6_2 + 1)), (by first | rfl | (simp; done) | (simp [*]; done)), (by first | rfl | (simp; done) | (simp [*]; done)), H', ⟨by have := HJ2.out; have := HK2.out; omega⟩, ⟨ue_ HB.out⟩⟩
        ·
         replace c10 := Bool.eq_false_iff.mpr c10
         subst c10
         have H1 : (some (-2)) = some r := by rw [if_neg (show ¬ (false = true) by decide)] at H; exact H
         clear H
         have H := H1
         clear H1
         obtain rfl := Option.some.inj H
         have p545 : 0 ≤ (x6_2 : Int) := of_decide_eq_true ua_
         have q545 : x6_2 < (l0.length : Int) := of_decide_eq_true ua_
         obtain ⟨ad545, e545, hx545_0, hx545_1, hx545_2, hx545_3, hx545_4⟩ := at_T72 HR0.out x6_2 p545 q545
         cases e545
         replace hx545_0 := bc_ HB.out hx545_0
         replace hx545_1 := bc_ HB.out hx545_1
         replace hx545_2 := bc_ HB.out hx545_2
         replace hx545_3 := bc_ HB.out hx545_3
         replace hx545_4 := bc_ HB.out hx545_4
         replace p545 := eq_true p545
         replace q545 := eq_true q545
         go_wp2_with (first | ((with_reducible refine gate_callee (f := 147) rfl ?_); refine goesL_ (some 25) rfl rfl Try.func147 (by kernel_rfl) rfl #[.agg #[.int .i64 ((rd_T72 l0 x6_2).f0), .int .i64 ((rd_T72 l0 x6_2).f1), .int .i64 ((rd_T72 l0 x6_2).f2), .bool ((rd_T72 l0 x6_2).f3), .bool ((rd_T72 l0 x6_2).f4)]] rfl ul_ ?_; (with_reducible refine (spec_SourceOk.calls ((rd_T72 l0 x6_2).f0) ((rd_T72 l0 x6_2).f1) ((rd_T72 l0 x6_2).f2) ((rd_T72 l0 x6_2).f3) ((rd_T72 l0 x6_2).f4) false _ A9.out).mono ?_); rintro e w20 ⟨rfl, hb⟩; refine ⟨_, rfl, ?_⟩; have n0_ := am_ (below_step (ue_ HB.out) hb); clear HB; have HB := n0_; clear n0_; (try clear hb); (try clear hb2); (try clear hk); (try clear hi)))
         go_ret
         exact ⟨ew_, ue_ HB.out⟩
       ·
        rw [if_neg c8] at H
        exact absurd H (by simp)
      ·
       rw [if_neg c7] at H
       have c7b0 : decide (x6_2 < (l0.length : Int)) = false := decide_eq_false c7
       clear c7
       by_cases c21 : x5_2 > 1000000
       ·
        rw [if_pos c21] at H
        have c21b0 : decide (1000000 < x5_2) = true := decide_eq_true c21
        clear c21
        obtain rfl := Option.some.inj H
        go_wp2
        go_ret
        exact ⟨ew_, ue_ HB.out⟩
       ·
        rw [if_neg c21] at H
        have c21b0 : decide (1000000 < x5_2) = false := decide_eq_false c21
        clear c21
        by_cases c22 : x5_2 < a1
        ·
         rw [if_pos c22] at H
         have c22b0 : decide (x5_2 < a1) = true := decide_eq_true c22
         clear c22
         obtain rfl := Option.some.inj H
         go_wp2
         go_ret
         exact ⟨ew_, ue_ HB.out⟩
        ·
         rw [if_neg c22] at H
         have c22b0 : decide (x5_2 < a1) = false := decide_eq_false c22
         clear c22
         obtain rfl := Option.some.inj H
         go_wp2
         go_ret
         exact ⟨ew_, ue_ HB.out⟩

end Go.Proofs.Ytcflalomjehiiaa.QFnMarks
