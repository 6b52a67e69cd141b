/- The machine side of a law: Lean functions with the Go functions' answers and the walks that show it. No condition. -/
import Derived.Test.YtaofcalmgodgjaaQFnPiecesx0
import Derived.Test.YtaofcalmgodgjaaQFnPiecesx7
namespace Go.Proofs.Ytaofcalmgodgjaa.QFnPieces
open Go.RowKit Go.Proofs.YtaofcalmgodgjaaW.PrintWords Go.Proofs.YtaofcalmgodgjaaW.PrintLast Go.Proofs.YtaofcalmgodgjaaW.PrintMore
attribute [local go_sem] max2_int min2_int max_two min_two max_three min_three max_four min_four   -- for this text's walks alone
set_option linter.unusedVariables false
set_option linter.unusedSimpArgs false

/-! ### impl_frameOf: function 81 -/
mutual
def impl_frameOf.j0 : Nat → List Int → Bool → Int → Int → Int → Int → Option (Int × Int × Int × Int)
 | 0, _, _, _, _, _, _ => none
 | k + 1, x0, x10, x386000, x386001, x386002, x386003 => if x10 = true then (if 1 ≤ 3 then (if 3 ≤ (x0.length : Int) then ((impl_number.f k ((x0.take 3).drop 1)).bind fun t387 => (if 3 ≤ 6 then (if 6 ≤ (x0.length : Int) then ((impl_number.f k ((x0.take 6).drop 3)).bind fun t389 => (if 6 ≤ 9 then (if 9 ≤ (x0.length : Int) then ((impl_number.f k ((x0.take 9).drop 6)).bind fun t391 => (some (x386000, t387, t389, wrap64 (t391 - 1000000)))) else (none)) else (none))) else (none)) else (none))) else (none)) else (none)) else (if x386000 = 2 then (impl_frameOf.j1 k x0 ((x0.length : Int) == 4) x386000 x386001 x386002 x386003) else (impl_frameOf.j1 k x0 false x386000 x386001 x386002 x386003))
def impl_frameOf.j1 : Nat → List Int → Bool → Int → Int → Int → Int → Option (Int × Int × Int × Int)
 | 0, _, _, _, _, _, _ => none
 | k + 1, x0, x32, x386000, x386001, x386002, x386003 => if x32 = true then (if 1 ≤ 4 then (if 4 ≤ (x0.length : Int) then ((impl_number.f k ((x0.take 4).drop 1)).bind fun t393 => (some (x386000, x386001, t393, x386003))) else (none)) else (none)) else (if x386000 = 3 then (if (x0.length : Int) = 1 then (some (x386000, x386001, x386002, x386003)) else (some (0, 0, 0, 0))) else (some (0, 0, 0, 0)))
end
def impl_frameOf.f (k : Nat) (l0 : List Int) : Option (Int × Int × Int × Int) := if 0 < (l0.length : Int) then (if (wrap64 (rd l0 0)) = 1 then (impl_frameOf.j0 k l0 ((l0.length : Int) == 9) (wrap64 (rd l0 0)) 0 0 0) else (impl_frameOf.j0 k l0 false (wrap64 (rd l0 0)) 0 0 0)) else (none)
theorem impl_frameOf.mono_l : ∀ k, (∀ y0 y1 y2 y3 y4 y5, LeO (impl_frameOf.j0 k y0 y1 y2 y3 y4 y5) (impl_frameOf.j0 (k + 1) y0 y1 y2 y3 y4 y5)) ∧ (∀ y0 y1 y2 y3 y4 y5, LeO (impl_frameOf.j1 k y0 y1 y2 y3 y4 y5) (impl_frameOf.j1 (k + 1) y0 y1 y2 y3 y4 y5))
 | 0 => ⟨fun _ _ _ _ _ _ r h => by simp [impl_frameOf.j0] at h, fun _ _ _ _ _ _ r h => by simp [impl_frameOf.j1] at h⟩
 | k + 1 => by
  obtain ⟨ih0, ih1⟩ := impl_frameOf.mono_l k
  refine ⟨?_, ?_⟩
  ·
   intro y0 y1 y2 y3 y4 y5
   unfold impl_frameOf.j0
   repeat' first
   | (with_reducible exact ih0 _ _ _ _ _ _)
   | (with_reducible exact ih1 _ _ _ _ _ _)
   | (with_reducible exact impl_number.mono _ _)
   | (with_reducible exact LeO.refl _)
   | (with_reducible exact LeO.none _)
   | (with_reducible refine LeO.ite ?_ ?_)
   | (with_reducible refine LeO.bind ?_ (fun _ => ?_))
   | exact ih0 _ _ _ _ _ _
   | exact ih1 _ _ _ _ _ _
   | exact impl_number.mono _ _
   | exact LeO.none _
   | refine LeO.ite ?_ ?_
   | refine LeO.bind ?_ (fun _ => ?_)
  intro y0 y1 y2 y3 y4 y5
  unfold impl_frameOf.j1
  repeat' first
  | (with_reducible exact ih0 _ _ _ _ _ _)
  | (with_reducible exact ih1 _ _ _ _ _ _)
  | (with_reducible exact impl_number.mono _ _)
  | (with_reducible exact LeO.refl _)
  | (with_reducible exact LeO.none _)
  | (with_reducible refine LeO.ite ?_ ?_)
  | (with_reducible refine LeO.bind ?_ (fun _ => ?_))
  | exact ih0 _ _ _ _ _ _
  | exact ih1 _ _ _ _ _ _
  | exact impl_number.mono _ _
  | exact LeO.none _
  | refine LeO.ite ?_ ?_
  | refine LeO.bind ?_ (fun _ => ?_)
theorem impl_frameOf.mono : ∀ a0 k, LeO (impl_frameOf.f k a0) (impl_frameOf.f (k + 1) a0) := by
 intro a0 k
 obtain ⟨ih0, ih1⟩ := impl_frameOf.mono_l k
 unfold impl_frameOf.f
 repeat' first
   | (with_reducible exact ih0 _ _ _ _ _ _)
   | (with_reducible exact ih1 _ _ _ _ _ _)
   | (with_reducible exact impl_number.mono _ _)
   | (with_reducible exact LeO.refl _)
   | (with_reducible exact LeO.none _)
   | (with_reducible refine LeO.ite ?_ ?_)
   | (with_reducible refine LeO.bind ?_ (fun _ => ?_))
   | exact ih0 _ _ _ _ _ _
   | exact ih1 _ _ _ _ _ _
   | exact impl_number.mono _ _
   | exact LeO.none _
   | refine LeO.ite ?_ ?_
   | refine LeO.bind ?_ (fun _ => ?_)
set_option maxHeartbeats 8000000 in
set_option maxRecDepth 100000 in
theorem impl_frameOf.calls (k : Nat) (A0 : Option Addr) (c0 : Nat) (l0 : List Int) (r1 : Int) (r2 : Int) (r3 : Int) (r4 : Int) (w : World) (hr0 : Kd.C (Kd.int .u8) w A0 l0.length l0) (hc0 : l0.length ≤ c0) (h : impl_frameOf.f k l0 = some (r1, r2, r3, r4)) :
  Calls Try.prog 81 #[.slice A0 l0.length c0] w fun e w' => e = .returned (.agg #[.int .i64 r1, .int .i64 r2, .int .i64 r3, .int .i64 r4]) ∧ Below w.heap.size w w' := by
 have hu34 := Try.underlying34
 have HR0 := Aside0.mk hr0
 have HC0 := Aside0.mk hc0
 clear hr0 hc0
 have HB := am_ (Below.refl w.heap.size w)
 have H : (if 0 < (l0.length : Int) then (if (wrap64 (rd l0 0)) = 1 then (impl_frameOf.j0 k l0 ((l0.length : Int) == 9) (wrap64 (rd l0 0)) 0 0 0) else (impl_frameOf.j0 k l0 false (wrap64 (rd l0 0)) 0 0 0)) else (none)) = some (r1, r2, r3, r4) := h
 clear h
 by_cases c2 : 0 < (l0.length : Int)
 ·
  rw [if_pos c2] at H
  have c2b0 : decide (0 < (l0.length : Int)) = true := decide_eq_true c2
  have c2b1 : decide (0 < l0.length) = true := decide_eq_true (by omega)
  clear c2
  have HC3 := Aside0.mk H
  clear H
  go_enter Try.func81, Try.ntmps81
  go_upto_region 3 with (first | ((with_reducible refine gate_dst (N := 2) rfl ?_); (try (refine gate_guard (by rfl) ?_; dsimp only)); refine bx_ (N := 2) (cs := #[.int .i64 0, .int .i64 0, .int .i64 0, .int .i64 0]) (t := 34) ?_; intro gb383 hg w4 hbox hb; have BK383 := am_ (hbox); have GW383 := am_ ((by rw [hg]; exact (below_size (ue_ HB.out)) : w.heap.size ≤ gb383)); have GE383 := am_ ((by rw [hg]; exact (below_size (ue_ HB.out)) : w.heap.size ≤ gb383)); replace HB := am_ (below_step (ue_ HB.out) hb); clear hb hbox hg; have p384 : 0 ≤ (0 : Int) := (by omega); have q384 : 0 < (l0.length : Int) := of_decide_eq_true ua_; obtain ⟨ad384, e384, hx384_0⟩ := Kd.at_int HR0.out 0 p384 q384; cases e384; have qi384 : (0 < l0.length) = True := eq_true (by omega); (try rw [show ((0 : Int)).toNat = 0 from rfl] at hx384_0); (try rw [Addr.add_zero'] at hx384_0); replace hx384_0 := bc_ HB.out hx384_0; replace p384 := eq_true p384; replace q384 := eq_true q384) | ((with_reducible refine gate_dst (N := 3) rfl ?_); (try (refine gate_guard (by rfl) ?_; dsimp only)); refine bx_ (N := 3) (cs := #[.int .i64 0, .int .i64 0, .int .i64 0, .int .i64 0]) (t := 34) ?_; intro gb385 hg w5 hbox hb; have BK385 := am_ (hbox); have GW385 := am_ ((by rw [hg]; exact (below_size (ue_ HB.out)) : w.heap.size ≤ gb385)); have GE385 := am_ ((by rw [hg]; exact (below_size (ue_ HB.out)) : w.heap.size ≤ gb385)); replace HB := am_ (below_step (ue_ HB.out) hb); have NB383_385 := am_ ((by rw [hg]; exact Nat.ne_of_lt (bl_ BK383.out) : gb383 ≠ gb385)); have NB385_383 := am_ ((by rw [hg]; exact Nat.ne_of_gt (bl_ BK383.out) : gb385 ≠ gb383)); replace BK383 := am_ (bb_ BK383.out hb); clear hb hbox hg; have hnb6 := NB385_383.out; have hnc6 := NB383_385.out; obtain ⟨hcz7_0, hcz7_1, hcz7_2, hcz7_3⟩ := cb4_ BK385.out; obtain ⟨hfz7_0, hfz7_1, hfz7_2⟩ := bf3_ BK385.out; have hfz7_3 := blk_frozen BK385.out 3) | ((with_reducible refine gate_store (t := 34) (p := 3) rfl ?_); refine st_ (w1 := ((((w5.setCell ⟨gb385, 0, none⟩ (.int .i64 (wrap64 (rd l0 0)))).setCell ⟨gb385, 1, none⟩ (.int .i64 0)).setCell ⟨gb385, 2, none⟩ (.int .i64 0)).setCell ⟨gb385, 3, none⟩ (.int .i64 0))) ?_; intro w8 hw; replace BK383 : Aside0 (w8.heap[gb383]? = some (.cells #[.int .i64 0, .int .i64 0, .int .i64 0, .int .i64 0] 34 (0, 0))) := ⟨(by rw [hw]; exact (uf_ BK383.out))⟩; replace BK385 : Aside0 (w8.heap[gb385]? = some (.cells #[.int .i64 (wrap64 (rd l0 0)), .int .i64 0, .int .i64 0, .int .i64 0] 34 (0, 0))) := ⟨(by rw [hw]; exact (by (with_reducible repeat first|apply bn_|apply bd_|apply ba_); apply bp4_; (with_reducible repeat first|apply bn_|apply bd_|apply ba_); exact BK385.out))⟩; replace HB : Aside0 (Below w.heap.size w w8) := ⟨(by rw [hw]; exact (ue_ HB.out))⟩; clear hw))
  (try simp only [Act.put, List.setIfInBounds_toArray, List.set_cons_zero, List.set_cons_succ])
  go_cut [10] (fun v10 wc => ∃ (kq : Nat) (x10_2 : Bool), v10 = .bool x10_2 ∧ Aside0 (impl_frameOf.j0 kq l0 x10_2 (wrap64 (rd l0 0)) 0 0 0 = some (r1, r2, r3, r4)) ∧ Aside0 (kq ≤ k) ∧ Aside0 (wc.heap[gb383]? = some (.cells #[.int .i64 0, .int .i64 0, .int .i64 0, .int .i64 0] 34 (0, 0))) ∧ Aside0 (wc.heap[gb385]? = some (.cells #[.int .i64 (wrap64 (rd l0 0)), .int .i64 0, .int .i64 0, .int .i64 0] 34 (0, 0))) ∧ Aside0 (Below w.heap.size w wc))
  case first =>
   have H := HC3.out
   clear HC3
   by_cases c9 : (wrap64 (rd l0 0)) = 1
   ·
    rw [if_pos c9] at H
    have c9b0 : ((wrap64 (rd l0 0)) == 1) = true := beq_iff_eq.mpr c9
    have c9b1 : ((wrap64 (rd l0 0)) != 1) = false := bne_eq_false_iff_eq.mpr c9
    clear c9
    (first | rw [c9b0] | (simp only [i64_w, i32_w]; rw [c9b0]) | skip)
    have H' := Aside0.mk H
    clear H
    have hnb10 := NB385_383.out
    have hnc10 := NB383_385.out
    have hcz11_0 := cb_ BK385.out 0 rfl
    have hcz11_1 := cb_ BK385.out 1 rfl
    have hcz11_2 := cb_ BK385.out 2 rfl
    have hcz11_3 := cb_ BK385.out 3 rfl
    have hfz11_0 := blk_frozen BK385.out 0
    have hfz11_1 := blk_frozen BK385.out 1
    have hfz11_2 := blk_frozen BK385.out 2
    have hfz11_3 := blk_frozen BK385.out 3
    go_wp2
    go_meet
    case rel => exact ⟨_, (((l0.length : Int) == 9)), (by first | rfl | (simp; done) | (simp [*]; done)), H', ⟨by first | omega | exact Nat.le_refl _⟩, ⟨by (with_reducible repeat first|apply bn_|apply bd_|apply ba_); exact BK383.out⟩, ⟨by (with_reducible repeat first|apply bn_|apply bd_|apply ba_); exact BK385.out⟩, ⟨ue_ HB.out⟩⟩
   rw [if_neg c9] at H
   have c9b0 : ((wrap64 (rd l0 0)) == 1) = false := beq_eq_false_iff_ne.mpr c9
   have c9b1 : ((wrap64 (rd l0 0)) != 1) = true := bne_iff_ne.mpr c9
   (first | rw [c9b0] | (simp only [i64_w, i32_w]; rw [c9b0]) | skip)
   have H' := Aside0.mk H
   clear H
   have hnb12 := NB385_383.out
   have hnc12 := NB383_385.out
   have hcz13_0 := cb_ BK385.out 0 rfl
   have hcz13_1 := cb_ BK385.out 1 rfl
   have hcz13_2 := cb_ BK385.out 2 rfl
   have hcz13_3 := cb_ BK385.out 3 rfl
   have hfz13_0 := blk_frozen BK385.out 0
   have hfz13_1 := blk_frozen BK385.out 1
   have hfz13_2 := blk_frozen BK385.out 2
   have hfz13_3 := blk_frozen BK385.out 3
   go_wp2
   go_meet
   case rel => exact ⟨_, (false), (by first | rfl | (simp; done) | (simp [*]; done)), H', ⟨by first | omega | exact Nat.le_refl _⟩, ⟨by (with_reducible repeat first|apply bn_|apply bd_|apply ba_); exact BK383.out⟩, ⟨by (with_reducible repeat first|apply bn_|apply bd_|apply ba_); exact BK385.out⟩, ⟨ue_ HB.out⟩⟩
  case rest =>
   clear HC3
   try clear c1
   try clear c2
   try clear c2b0
   try clear c2b1
   try clear p2
   try clear p3
   try clear q3
   try clear hx3
   try clear qi3
   try clear c6
   try clear p6
   try clear c8
   try clear c9
   try clear c9b0
   try clear c9b1
   try clear c10
   try clear c12
   try clear hcz11_0
   try clear hcz11_1
   try clear hcz11_2
   try clear hcz11_3
   try clear hcz13_0
   try clear hcz13_1
   try clear hcz13_2
   try clear hcz13_3
   try clear hcz7_0
   try clear hcz7_1
   try clear hcz7_2
   try clear hcz7_3
   try clear hfz11_0
   try clear hfz11_1
   try clear hfz11_2
   try clear hfz11_3
   try clear hfz13_0
   try clear hfz13_1
   try clear hfz13_2
   try clear hfz13_3
   try clear hfz7_0
   try clear hfz7_1
   try clear hfz7_2
   try clear hfz7_3
   try clear hx384_0
   try clear p384
   try clear q384
   obtain ⟨kq, x10_2, rfl, HA, HJ2, BK383, BK385, HB⟩ := hcut
   cases kq with
   | zero => exact absurd HA.out (by simp [impl_frameOf.j0])
   | succ kj2 =>
    have H := HA.out
    clear HA
    simp only [impl_frameOf.j0] at H
    by_cases c14 : x10_2 = true
    ·
     subst c14
     have H1 : (if 1 ≤ 3 then (if 3 ≤ (l0.length : Int) then ((impl_number.f kj2 ((l0.take 3).drop 1)).bind fun t387 => (if 3 ≤ 6 then (if 6 ≤ (l0.length : Int) then ((impl_number.f kj2 ((l0.take 6).drop 3)).bind fun t389 => (if 6 ≤ 9 then (if 9 ≤ (l0.length : Int) then ((impl_number.f kj2 ((l0.take 9).drop 6)).bind fun t391 => (some ((wrap64 (rd l0 0)), t387, t389, wrap64 (t391 - 1000000)))) else (none)) else (none))) else (none)) else (none))) else (none)) else (none)) = some (r1, r2, r3, r4) := by rw [if_pos rfl] at H; exact H
     clear H
     have H := H1
     clear H1
     by_cases c15 : 1 ≤ 3
     ·
      rw [if_pos c15] at H
      have c15b0 := eq_true c15
      have c15b1 : decide (1 ≤ 3) = true := decide_eq_true c15
      clear c15
      by_cases c16 : 3 ≤ (l0.length : Int)
      ·
       rw [if_pos c16] at H
       have c16b0 := eq_true c16
       have c16b1 : decide (3 ≤ (l0.length : Int)) = true := decide_eq_true c16
       clear c16
       replace H := Option.bind_eq_some_iff.mp H
       obtain ⟨t387, A170, H⟩ := H
       replace H : (if 3 ≤ 6 then (if 6 ≤ (l0.length : Int) then ((impl_number.f kj2 ((l0.take 6).drop 3)).bind fun t389 => (if 6 ≤ 9 then (if 9 ≤ (l0.length : Int) then ((impl_number.f kj2 ((l0.take 9).drop 6)).bind fun t391 => (some ((wrap64 (rd l0 0)), t387, t389, wrap64 (t391 - 1000000)))) else (none)) else (none))) else (none)) else (none)) = some (r1, r2, r3, r4) := H
       have A17 := Aside0.mk A170
       clear A170
       by_cases c18 : 3 ≤ 6
       ·
        rw [if_pos c18] at H
        have c18b0 := eq_true c18
        have c18b1 : decide (3 ≤ 6) = true := decide_eq_true c18
        clear c18
        by_cases c19 : 6 ≤ (l0.length : Int)
        ·
         rw [if_pos c19] at H
         have c19b0 := eq_true c19
         have c19b1 : decide (6 ≤ (l0.length : Int)) = true := decide_eq_true c19
         clear c19
         replace H := Option.bind_eq_some_iff.mp H
         obtain ⟨t389, A200, H⟩ := H
         replace H : (if 6 ≤ 9 then (if 9 ≤ (l0.length : Int) then ((impl_number.f kj2 ((l0.take 9).drop 6)).bind fun t391 => (some ((wrap64 (rd l0 0)), t387, t389, wrap64 (t391 - 1000000)))) else (none)) else (none)) = some (r1, r2, r3, r4) := H
         have A20 := Aside0.mk A200
         clear A200
         by_cases c21 : 6 ≤ 9
         ·
          rw [if_pos c21] at H
          have c21b0 := eq_true c21
          have c21b1 : decide (6 ≤ 9) = true := decide_eq_true c21
          clear c21
          by_cases c22 : 9 ≤ (l0.length : Int)
          ·
           rw [if_pos c22] at H
           have c22b0 := eq_true c22
           have c22b1 : decide (9 ≤ (l0.length : Int)) = true := decide_eq_true c22
           clear c22
           replace H := Option.bind_eq_some_iff.mp H
           obtain ⟨t391, A230, H⟩ := H
           replace H : (some ((wrap64 (rd l0 0)), t387, t389, wrap64 (t391 - 1000000))) = some (r1, r2, r3, r4) := H
           have A23 := Aside0.mk A230
           clear A230
           simp only [Option.some.injEq, Prod.mk.injEq] at H
           obtain ⟨rfl, rfl, rfl, rfl⟩ := H
           obtain ⟨i024, hi024, _, hsz24, _⟩ := info_parts info5
           obtain ⟨A24, hcut24, hA24, hC24⟩ := print_mid_of (P := Try.prog) (Value.int .u8) 0 39 5 .i64 .i64 Try.underlying39 hi024 hsz24 (some ad384) c0 l0 1 3 (by omega) (by first | omega | exact of_decide_eq_true ua_) (of_decide_eq_true ua_) HC0.out
           have HR386 := am_ (Kd.C_of_reads (h1 := fun _ => rfl) (hA24 _ (Kd.reads_of_C HR0.out)))
           have HC386 := Aside0.mk hC24
           clear hA24 hC24 hi024 hsz24
           go_wp2_with (first | ((with_reducible refine gate_callee (f := 100) rfl ?_); refine goesL_ (some 21) rfl rfl Try.func100 (by kernel_rfl) rfl #[.slice A24 ((l0.take 3).drop 1).length (c0 - 1)] rfl (by (try simp only [List.map_toArray, List.map_cons, List.map_nil]); first | done | (rw [show ((l0.take 3).drop 1).length = (3 - 1) from (by rw [List.length_drop, List.length_take]; have h_ : (3 : Int) ≤ (l0.length : Int) := of_decide_eq_true ua_; omega)] <;> rfl) | rfl | (simp only [List.length_drop, List.length_take]; rfl)) ?_; (with_reducible refine (impl_number.calls kj2 _ _ ((l0.take 3).drop 1) t387 _ ?side1 ?side2 A17.out).mono ?_); (case side1 => repeat (first | exact (Kd.C_below HR386.out HB.out) | (with_reducible refine Kd.C_alloc ?_ _) | (with_reducible refine Kd.C_drewN ?_ _) | (with_reducible refine Kd.C_drew ?_))); (case side2 => exact HC386.out); rintro e w' ⟨rfl, ⟨nd, rfl⟩⟩; refine ⟨_, rfl, ?_⟩; (try (rw [drewN_self wc]; generalize hq_ : World.drewN wc _ = wc; replace BK383 : Aside0 (wc.heap[gb383]? = some (.cells #[.int .i64 0, .int .i64 0, .int .i64 0, .int .i64 0] 34 (0, 0))) := ⟨by rw [← hq_]; exact (ub_ BK383.out)⟩; replace BK385 : Aside0 (wc.heap[gb385]? = some (.cells #[.int .i64 (wrap64 (rd l0 0)), .int .i64 0, .int .i64 0, .int .i64 0] 34 (0, 0))) := ⟨by rw [← hq_]; exact (ub_ BK385.out)⟩; replace HB : Aside0 (Below w.heap.size w wc) := ⟨by rw [← hq_]; exact (ue_ HB.out)⟩; clear hq_)); have hnb25 := NB385_383.out; have hnc25 := NB383_385.out; obtain ⟨hcz26_0, hcz26_1, hcz26_2, hcz26_3⟩ := cb4_ BK385.out; obtain ⟨hfz26_0, hfz26_1, hfz26_2⟩ := bf3_ BK385.out; have hfz26_3 := blk_frozen BK385.out 3) | ((with_reducible refine gate_store (t := 3) (p := 22) rfl ?_); refine st_ (w1 := (wc.setCell ⟨gb385, 1, none⟩ (.int .i64 t387))) ?_; intro w27 hw; replace BK383 : Aside0 (w27.heap[gb383]? = some (.cells #[.int .i64 0, .int .i64 0, .int .i64 0, .int .i64 0] 34 (0, 0))) := ⟨(by rw [hw]; exact (uf_ BK383.out))⟩; replace BK385 : Aside0 (w27.heap[gb385]? = some (.cells #[.int .i64 (wrap64 (rd l0 0)), .int .i64 t387, .int .i64 0, .int .i64 0] 34 (0, 0))) := ⟨(by rw [hw]; exact (by (with_reducible repeat first|apply bn_|apply bd_|apply ba_); refine blk_put (cs := #[.int .i64 (wrap64 (rd l0 0)), .int .i64 0, .int .i64 0, .int .i64 0]) ?_ 1 _ rfl; (with_reducible repeat first|apply bn_|apply bd_|apply ba_); exact BK385.out))⟩; replace HB : Aside0 (Below w.heap.size w w27) := ⟨(by rw [hw]; exact (ue_ HB.out))⟩; clear hw; obtain ⟨i028, hi028, _, hsz28, _⟩ := info_parts info5; obtain ⟨A28, hcut28, hA28, hC28⟩ := print_mid_of (P := Try.prog) (Value.int .u8) 0 39 5 .i64 .i64 Try.underlying39 hi028 hsz28 (some ad384) c0 l0 3 6 (by omega) (by first | omega | exact of_decide_eq_true ua_) (of_decide_eq_true ua_) HC0.out; have HR388 := am_ (Kd.C_of_reads (h1 := fun _ => rfl) (hA28 _ (Kd.reads_of_C HR0.out))); have HC388 := Aside0.mk hC28; clear hA28 hC28 hi028 hsz28) | ((with_reducible refine gate_callee (f := 100) rfl ?_); refine goesL_ (some 25) rfl rfl Try.func100 (by kernel_rfl) rfl #[.slice A28 ((l0.take 6).drop 3).length (c0 - 3)] rfl (by (try simp only [List.map_toArray, List.map_cons, List.map_nil]); first | done | (rw [show ((l0.take 6).drop 3).length = (6 - 3) from (by rw [List.length_drop, List.length_take]; have h_ : (6 : Int) ≤ (l0.length : Int) := of_decide_eq_true ua_; omega)] <;> rfl) | rfl | (simp only [List.length_drop, List.length_take]; rfl)) ?_; (with_reducible refine (impl_number.calls kj2 _ _ ((l0.take 6).drop 3) t389 _ ?side1 ?side2 A20.out).mono ?_); (case side1 => repeat (first | exact (Kd.C_below HR388.out HB.out) | (with_reducible refine Kd.C_alloc ?_ _) | (with_reducible refine Kd.C_drewN ?_ _) | (with_reducible refine Kd.C_drew ?_))); (case side2 => exact HC388.out); rintro e w' ⟨rfl, ⟨nd, rfl⟩⟩; refine ⟨_, rfl, ?_⟩; (try (rw [drewN_self w27]; generalize hq_ : World.drewN w27 _ = w27; replace BK383 : Aside0 (w27.heap[gb383]? = some (.cells #[.int .i64 0, .int .i64 0, .int .i64 0, .int .i64 0] 34 (0, 0))) := ⟨by rw [← hq_]; exact (ub_ BK383.out)⟩; replace BK385 : Aside0 (w27.heap[gb385]? = some (.cells #[.int .i64 (wrap64 (rd l0 0)), .int .i64 t387, .int .i64 0, .int .i64 0] 34 (0, 0))) := ⟨by rw [← hq_]; exact (ub_ BK385.out)⟩; replace HB : Aside0 (Below w.heap.size w w27) := ⟨by rw [← hq_]; exact (ue_ HB.out)⟩; clear hq_)); obtain ⟨hcz29_0, hcz29_1, hcz29_2, hcz29_3⟩ := cb4_ BK385.out; obtain ⟨hfz29_0, hfz29_1, hfz29_2⟩ := bf3_ BK385.out; have hfz29_3 := blk_frozen BK385.out 3) | ((with_reducible refine gate_store (t := 3) (p := 26) rfl ?_); refine st_ (w1 := (w27.setCell ⟨gb385, 2, none⟩ (.int .i64 t389))) ?_; intro w30 hw; replace BK383 : Aside0 (w30.heap[gb383]? = some (.cells #[.int .i64 0, .int .i64 0, .int .i64 0, .int .i64 0] 34 (0, 0))) := ⟨(by rw [hw]; exact (uf_ BK383.out))⟩; replace BK385 : Aside0 (w30.heap[gb385]? = some (.cells #[.int .i64 (wrap64 (rd l0 0)), .int .i64 t387, .int .i64 t389, .int .i64 0] 34 (0, 0))) := ⟨(by rw [hw]; exact (by (with_reducible repeat first|apply bn_|apply bd_|apply ba_); refine blk_put (cs := #[.int .i64 (wrap64 (rd l0 0)), .int .i64 t387, .int .i64 0, .int .i64 0]) ?_ 2 _ rfl; (with_reducible repeat first|apply bn_|apply bd_|apply ba_); exact BK385.out))⟩; replace HB : Aside0 (Below w.heap.size w w30) := ⟨(by rw [hw]; exact (ue_ HB.out))⟩; clear hw; obtain ⟨i031, hi031, _, hsz31, _⟩ := info_parts info5; obtain ⟨A31, hcut31, hA31, hC31⟩ := print_mid_of (P := Try.prog) (Value.int .u8) 0 39 5 .i64 .i64 Try.underlying39 hi031 hsz31 (some ad384) c0 l0 6 9 (by omega) (by first | omega | exact of_decide_eq_true ua_) (of_decide_eq_true ua_) HC0.out; have HR390 := am_ (Kd.C_of_reads (h1 := fun _ => rfl) (hA31 _ (Kd.reads_of_C HR0.out))); have HC390 := Aside0.mk hC31; clear hA31 hC31 hi031 hsz31) | ((with_reducible refine gate_callee (f := 100) rfl ?_); refine goesL_ (some 29) rfl rfl Try.func100 (by kernel_rfl) rfl #[.slice A31 ((l0.take 9).drop 6).length (c0 - 6)] rfl (by (try simp only [List.map_toArray, List.map_cons, List.map_nil]); first | done | (rw [show ((l0.take 9).drop 6).length = (9 - 6) from (by rw [List.length_drop, List.length_take]; have h_ : (9 : Int) ≤ (l0.length : Int) := of_decide_eq_true ua_; omega)] <;> rfl) | rfl | (simp only [List.length_drop, List.length_take]; rfl)) ?_; (with_reducible refine (impl_number.calls kj2 _ _ ((l0.take 9).drop 6) t391 _ ?side1 ?side2 A23.out).mono ?_); (case side1 => repeat (first | exact (Kd.C_below HR390.out HB.out) | (with_reducible refine Kd.C_alloc ?_ _) | (with_reducible refine Kd.C_drewN ?_ _) | (with_reducible refine Kd.C_drew ?_))); (case side2 => exact HC390.out); rintro e w' ⟨rfl, ⟨nd, rfl⟩⟩; refine ⟨_, rfl, ?_⟩; (try (rw [drewN_self w30]; generalize hq_ : World.drewN w30 _ = w30; replace BK383 : Aside0 (w30.heap[gb383]? = some (.cells #[.int .i64 0, .int .i64 0, .int .i64 0, .int .i64 0] 34 (0, 0))) := ⟨by rw [← hq_]; exact (ub_ BK383.out)⟩; replace BK385 : Aside0 (w30.heap[gb385]? = some (.cells #[.int .i64 (wrap64 (rd l0 0)), .int .i64 t387, .int .i64 t389, .int .i64 0] 34 (0, 0))) := ⟨by rw [← hq_]; exact (ub_ BK385.out)⟩; replace HB : Aside0 (Below w.heap.size w w30) := ⟨by rw [← hq_]; exact (ue_ HB.out)⟩; clear hq_)); obtain ⟨hcz32_0, hcz32_1, hcz32_2, hcz32_3⟩ := cb4_ BK385.out; obtain ⟨hfz32_0, hfz32_1, hfz32_2⟩ := bf3_ BK385.out; have hfz32_3 := blk_frozen BK385.out 3) | ((with_reducible refine gate_store (t := 3) (p := 31) rfl ?_); refine st_ (w1 := (w30.setCell ⟨gb385, 3, none⟩ (.int .i64 (wrap64 (t391 - 1000000))))) ?_; intro w33 hw; replace BK383 : Aside0 (w33.heap[gb383]? = some (.cells #[.int .i64 0, .int .i64 0, .int .i64 0, .int .i64 0] 34 (0, 0))) := ⟨(by rw [hw]; exact (uf_ BK383.out))⟩; replace BK385 : Aside0 (w33.heap[gb385]? = some (.cells #[.int .i64 (wrap64 (rd l0 0)), .int .i64 t387, .int .i64 t389, .int .i64 (wrap64 (t391 - 1000000))] 34 (0, 0))) := ⟨(by rw [hw]; exact (by (with_reducible repeat first|apply bn_|apply bd_|apply ba_); refine blk_put (cs := #[.int .i64 (wrap64 (rd l0 0)), .int .i64 t387, .int .i64 t389, .int .i64 0]) ?_ 3 _ rfl; (with_reducible repeat first|apply bn_|apply bd_|apply ba_); exact BK385.out))⟩; replace HB : Aside0 (Below w.heap.size w w33) := ⟨(by rw [hw]; exact (ue_ HB.out))⟩; clear hw; obtain ⟨hcz34_0, hcz34_1, hcz34_2, hcz34_3⟩ := cb4_ BK385.out; obtain ⟨hfz34_0, hfz34_1, hfz34_2, hfz34_3⟩ := bf4_ BK385.out; obtain ⟨hcz35_0, hcz35_1, hcz35_2, hcz35_3⟩ := cb4_ BK383.out; obtain ⟨hfz35_0, hfz35_1, hfz35_2⟩ := bf3_ BK383.out; have hfz35_3 := blk_frozen BK383.out 3) | ((with_reducible refine gate_store (t := 34) (p := 2) rfl ?_); refine st_ (w1 := ((((w33.setCell ⟨gb383, 0, none⟩ (.int .i64 (wrap64 (rd l0 0)))).setCell ⟨gb383, 1, none⟩ (.int .i64 t387)).setCell ⟨gb383, 2, none⟩ (.int .i64 t389)).setCell ⟨gb383, 3, none⟩ (.int .i64 (wrap64 (t391 - 1000000))))) ?_; intro w36 hw; replace BK383 : Aside0 (w36.heap[gb383]? = some (.cells #[.int .i64 (wrap64 (rd l0 0)), .int .i64 t387, .int .i64 t389, .int .i64 (wrap64 (t391 - 1000000))] 34 (0, 0))) := ⟨(by rw [hw]; exact (by (with_reducible repeat first|apply bn_|apply bd_|apply ba_); apply bp4_; (with_reducible repeat first|apply bn_|apply bd_|apply ba_); exact BK383.out))⟩; replace BK385 : Aside0 (w36.heap[gb385]? = some (.cells #[.int .i64 (wrap64 (rd l0 0)), .int .i64 t387, .int .i64 t389, .int .i64 (wrap64 (t391 - 1000000))] 34 (0, 0))) := ⟨(by rw [hw]; exact (uf_ BK385.out))⟩; replace HB : Aside0 (Below w.heap.size w w36) := ⟨(by rw [hw]; exact (ue_ HB.out))⟩; clear hw))
           refine bodyPost_ret (results_cell_row rfl _ _ gb383 34 #[.int .i64 (wrap64 (rd l0 0)), .int .i64 t387, .int .i64 t389, .int .i64 (wrap64 (t391 - 1000000))] (0, 0) _ rfl (ub_ BK383.out) Try.underlying34 rfl (by kernel_rfl)) rfl ?_
           exact ⟨ew_, ue_ HB.out⟩
          rw [if_neg c22] at H
          exact absurd H (by simp)
         rw [if_neg c21] at H
         exact absurd H (by simp)
        rw [if_neg c19] at H
        exact absurd H (by simp)
       rw [if_neg c18] at H
       exact absurd H (by simp)
      rw [if_neg c16] at H
      exact absurd H (by simp)
     rw [if_neg c15] at H
     exact absurd H (by simp)
    replace c14 := Bool.eq_false_iff.mpr c14
    subst c14
    have H1 : (if (wrap64 (rd l0 0)) = 2 then (impl_frameOf.j1 kj2 l0 ((l0.length : Int) == 4) (wrap64 (rd l0 0)) 0 0 0) else (impl_frameOf.j1 kj2 l0 false (wrap64 (rd l0 0)) 0 0 0)) = some (r1, r2, r3, r4) := by rw [if_neg (show ¬ (false = true) by decide)] at H; exact H
    clear H
    have H := H1
    clear H1
    have HC37 := Aside0.mk H
    clear H
    go_upto_region 7 with (fail)
    go_cut [32] (fun v32 wc => ∃ (kq : Nat) (x32_36 : Bool), v32 = .bool x32_36 ∧ Aside0 (impl_frameOf.j1 kq l0 x32_36 (wrap64 (rd l0 0)) 0 0 0 = some (r1, r2, r3, r4)) ∧ Aside0 (kq ≤ kj2) ∧ Aside0 (wc.heap[gb383]? = some (.cells #[.int .i64 0, .int .i64 0, .int .i64 0, .int .i64 0] 34 (0, 0))) ∧ Aside0 (wc.heap[gb385]? = some (.cells #[.int .i64 (wrap64 (rd l0 0)), .int .i64 0, .int .i64 0, .int .i64 0] 34 (0, 0))) ∧ Aside0 (Below w.heap.size w wc))
    case first =>
     have H := HC37.out
     clear HC37
     by_cases c38 : (wrap64 (rd l0 0)) = 2
     ·
      rw [if_pos c38] at H
      have c38b0 : ((wrap64 (rd l0 0)) == 2) = true := beq_iff_eq.mpr c38
      have c38b1 : ((wrap64 (rd l0 0)) != 2) = false := bne_eq_false_iff_eq.mpr c38
      clear c38
      (first | rw [c38b0] | (simp only [i64_w, i32_w]; rw [c38b0]) | skip)
      have H' := Aside0.mk H
      clear H
      have hnb39 := NB385_383.out
      have hnc39 := NB383_385.out
      have hcz40_0 := cb_ BK385.out 0 rfl
      have hcz40_1 := cb_ BK385.out 1 rfl
      have hcz40_2 := cb_ BK385.out 2 rfl
      have hcz40_3 := cb_ BK385.out 3 rfl
      have hfz40_0 := blk_frozen BK385.out 0
      have hfz40_1 := blk_frozen BK385.out 1
      have hfz40_2 := blk_frozen BK385.out 2
      have hfz40_3 := blk_frozen BK385.out 3
      go_wp2
      go_meet
      case rel => exact ⟨_, (((l0.length : Int) == 4)), (by first | rfl | (simp; done) | (simp [*]; done)), H', ⟨by have := HJ2.out; first | omega | exact Nat.le_refl _⟩, ⟨by (with_reducible repeat first|apply bn_|apply bd_|apply ba_); exact BK383.out⟩, ⟨by (with_reducible repeat first|apply bn_|apply bd_|apply ba_); exact BK385.out⟩, ⟨ue_ HB.out⟩⟩
     rw [if_neg c38] at H
     have c38b0 : ((wrap64 (rd l0 0)) == 2) = false := beq_eq_false_iff_ne.mpr c38
     have c38b1 : ((wrap64 (rd l0 0)) != 2) = true := bne_iff_ne.mpr c38
     (first | rw [c38b0] | (simp only [i64_w, i32_w]; rw [c38b0]) | skip)
     have H' := Aside0.mk H
     clear H
     have hnb41 := NB385_383.out
     have hnc41 := NB383_385.out
     have hcz42_0 := cb_ BK385.out 0 rfl
     have hcz42_1 := cb_ BK385.out 1 rfl
     have hcz42_2 := cb_ BK385.out 2 rfl
     have hcz42_3 := cb_ BK385.out 3 rfl
     have hfz42_0 := blk_frozen BK385.out 0
     have hfz42_1 := blk_frozen BK385.out 1
     have hfz42_2 := blk_frozen BK385.out 2
     have hfz42_3 := blk_frozen BK385.out 3
     go_wp2
     go_meet
     case rel => exact ⟨_, (false), (by first | rfl | (simp; done) | (simp [*]; done)), H', ⟨by have := HJ2.out; first | omega | exact Nat.le_refl _⟩, ⟨by (with_reducible repeat first|apply bn_|apply bd_|apply ba_); exact BK383.out⟩, ⟨by (with_reducible repeat first|apply bn_|apply bd_|apply ba_); exact BK385.out⟩, ⟨ue_ HB.out⟩⟩
    case rest =>
     clear HC37
     try clear c1
     try clear c2
     try clear c2b0
     try clear c2b1
     try clear p2
     try clear c3
     try clear p3
     try clear q3
     try clear hx3
     try clear qi3
     try clear c4
     try clear c6
     try clear p6
     try clear c8
     try clear c9
     try clear c9b0
     try clear c9b1
     try clear c10
     try clear c12
     try clear c14
     try clear c15
     try clear c15b0
     try clear c15b1
     try clear c16
     try clear c16b0
     try clear c16b1
     try clear c18
     try clear c18b0
     try clear c18b1
     try clear c19
     try clear c19b0
     try clear c19b1
     try clear c21
     try clear c21b0
     try clear c21b1
     try clear c22
     try clear c22b0
     try clear c22b1
     try clear c25
     try clear c38
     try clear c38b0
     try clear c38b1
     try clear p38
     try clear q38
     try clear hx38
     try clear qi38
     try clear c39
     try clear c41
     try clear hcz11_0
     try clear hcz11_1
     try clear hcz11_2
     try clear hcz11_3
     try clear hcz13_0
     try clear hcz13_1
     try clear hcz13_2
     try clear hcz13_3
     try clear hcz26_0
     try clear hcz26_1
     try clear hcz26_2
     try clear hcz26_3
     try clear hcz29_0
     try clear hcz29_1
     try clear hcz29_2
     try clear hcz29_3
     try clear hcz32_0
     try clear hcz32_1
     try clear hcz32_2
     try clear hcz32_3
     try clear hcz34_0
     try clear hcz34_1
     try clear hcz34_2
     try clear hcz34_3
     try clear hcz35_0
     try clear hcz35_1
     try clear hcz35_2
     try clear hcz35_3
     try clear hcz40_0
     try clear hcz40_1
     try clear hcz40_2
     try clear hcz40_3
     try clear hcz42_0
     try clear hcz42_1
     try clear hcz42_2
     try clear hcz42_3
     try clear hcz7_0
     try clear hcz7_1
     try clear hcz7_2
     try clear hcz7_3
     try clear hfz11_0
     try clear hfz11_1
     try clear hfz11_2
     try clear hfz11_3
     try clear hfz13_0
     try clear hfz13_1
     try clear hfz13_2
     try clear hfz13_3
     try clear hfz26_0
     try clear hfz26_1
     try clear hfz26_2
     try clear hfz26_3
     try clear hfz29_0
     try clear hfz29_1
     try clear hfz29_2
     try clear hfz29_3
     try clear hfz32_0
     try clear hfz32_1
     try clear hfz32_2
     try clear hfz32_3
     try clear hfz34_0
     try clear hfz34_1
     try clear hfz34_2
     try clear hfz34_3
     try clear hfz35_0
     try clear hfz35_1
     try clear hfz35_2
     try clear hfz35_3
     try clear hfz40_0
     try clear hfz40_1
     try clear hfz40_2
     try clear hfz40_3
     try clear hfz42_0
     try clear hfz42_1
     try clear hfz42_2
     try clear hfz42_3
     try clear hfz7_0
     try clear hfz7_1
     try clear hfz7_2
     try clear hfz7_3
     try clear hx384_0
     try clear p2
     try clear p3
     try clear p384
     try clear p6
     try clear q3
     try clear q384
     obtain ⟨kq, x32_36, rfl, HA, HJ36, BK383, BK385, HB⟩ := hcut
     cases kq with
     | zero => exact absurd HA.out (by simp [impl_frameOf.j1])
     | succ kj36 =>
      have H := HA.out
      clear HA
      simp only [impl_frameOf.j1] at H
      by_cases c43 : x32_36 = true
      ·
       subst c43
       have H1 : (if 1 ≤ 4 then (if 4 ≤ (l0.length : Int) then ((impl_number.f kj36 ((l0.take 4).drop 1)).bind fun t393 => (some ((wrap64 (rd l0 0)), 0, t393, 0))) else (none)) else (none)) = some (r1, r2, r3, r4) := by rw [if_pos rfl] at H; exact H
       clear H
       have H := H1
       clear H1
       by_cases c44 : 1 ≤ 4
       ·
        rw [if_pos c44] at H
        have c44b0 := eq_true c44
        have c44b1 : decide (1 ≤ 4) = true := decide_eq_true c44
        clear c44
        by_cases c45 : 4 ≤ (l0.length : Int)
        ·
         rw [if_pos c45] at H
         have c45b0 := eq_true c45
         have c45b1 : decide (4 ≤ (l0.length : Int)) = true := decide_eq_true c45
         clear c45
         replace H := Option.bind_eq_some_iff.mp H
         obtain ⟨t393, A460, H⟩ := H
         replace H : (some ((wrap64 (rd l0 0)), 0, t393, 0)) = some (r1, r2, r3, r4) := H
         have A46 := Aside0.mk A460
         clear A460
         simp only [Option.some.injEq, Prod.mk.injEq] at H
         obtain ⟨rfl, rfl, rfl, rfl⟩ := H
         obtain ⟨i047, hi047, _, hsz47, _⟩ := info_parts info5
         obtain ⟨A47, hcut47, hA47, hC47⟩ := print_mid_of (P := Try.prog) (Value.int .u8) 0 39 5 .i64 .i64 Try.underlying39 hi047 hsz47 (some ad384) c0 l0 1 4 (by omega) (by first | omega | exact of_decide_eq_true ua_) (of_decide_eq_true ua_) HC0.out
         have HR392 := am_ (Kd.C_of_reads (h1 := fun _ => rfl) (hA47 _ (Kd.reads_of_C HR0.out)))
         have HC392 := Aside0.mk hC47
         clear hA47 hC47 hi047 hsz47
         go_wp2_with (first | ((with_reducible refine gate_callee (f := 100) rfl ?_); refine goesL_ (some 43) rfl rfl Try.func100 (by kernel_rfl) rfl #[.slice A47 ((l0.take 4).drop 1).length (c0 - 1)] rfl (by (try simp only [List.map_toArray, List.map_cons, List.map_nil]); first | done | (rw [show ((l0.take 4).drop 1).length = (4 - 1) from (by rw [List.length_drop, List.length_take]; have h_ : (4 : Int) ≤ (l0.length : Int) := of_decide_eq_true ua_; omega)] <;> rfl) | rfl | (simp only [List.length_drop, List.length_take]; rfl)) ?_; (with_reducible refine (impl_number.calls kj36 _ _ ((l0.take 4).drop 1) t393 _ ?side1 ?side2 A46.out).mono ?_); (case side1 => repeat (first | exact (Kd.C_below HR392.out HB.out) | (with_reducible refine Kd.C_alloc ?_ _) | (with_reducible refine Kd.C_drewN ?_ _) | (with_reducible refine Kd.C_drew ?_))); (case side2 => exact HC392.out); rintro e w' ⟨rfl, ⟨nd, rfl⟩⟩; refine ⟨_, rfl, ?_⟩; (try (rw [drewN_self wc]; generalize hq_ : World.drewN wc _ = wc; replace BK383 : Aside0 (wc.heap[gb383]? = some (.cells #[.int .i64 0, .int .i64 0, .int .i64 0, .int .i64 0] 34 (0, 0))) := ⟨by rw [← hq_]; exact (ub_ BK383.out)⟩; replace BK385 : Aside0 (wc.heap[gb385]? = some (.cells #[.int .i64 (wrap64 (rd l0 0)), .int .i64 0, .int .i64 0, .int .i64 0] 34 (0, 0))) := ⟨by rw [← hq_]; exact (ub_ BK385.out)⟩; replace HB : Aside0 (Below w.heap.size w wc) := ⟨by rw [← hq_]; exact (ue_ HB.out)⟩; clear hq_)); have hnb48 := NB385_383.out; have hnc48 := NB383_385.out; obtain ⟨hcz49_0, hcz49_1, hcz49_2, hcz49_3⟩ := cb4_ BK385.out; obtain ⟨hfz49_0, hfz49_1, hfz49_2⟩ := bf3_ BK385.out; have hfz49_3 := blk_frozen BK385.out 3) | ((with_reducible refine gate_store (t := 3) (p := 44) rfl ?_); refine st_ (w1 := (wc.setCell ⟨gb385, 2, none⟩ (.int .i64 t393))) ?_; intro w50 hw; replace BK383 : Aside0 (w50.heap[gb383]? = some (.cells #[.int .i64 0, .int .i64 0, .int .i64 0, .int .i64 0] 34 (0, 0))) := ⟨(by rw [hw]; exact (uf_ BK383.out))⟩; replace BK385 : Aside0 (w50.heap[gb385]? = some (.cells #[.int .i64 (wrap64 (rd l0 0)), .int .i64 0, .int .i64 t393, .int .i64 0] 34 (0, 0))) := ⟨(by rw [hw]; exact (by (with_reducible repeat first|apply bn_|apply bd_|apply ba_); refine blk_put (cs := #[.int .i64 (wrap64 (rd l0 0)), .int .i64 0, .int .i64 0, .int .i64 0]) ?_ 2 _ rfl; (with_reducible repeat first|apply bn_|apply bd_|apply ba_); exact BK385.out))⟩; replace HB : Aside0 (Below w.heap.size w w50) := ⟨(by rw [hw]; exact (ue_ HB.out))⟩; clear hw; obtain ⟨hcz51_0, hcz51_1, hcz51_2, hcz51_3⟩ := cb4_ BK385.out; obtain ⟨hfz51_0, hfz51_1, hfz51_2, hfz51_3⟩ := bf4_ BK385.out; obtain ⟨hcz52_0, hcz52_1, hcz52_2, hcz52_3⟩ := cb4_ BK383.out; obtain ⟨hfz52_0, hfz52_1, hfz52_2⟩ := bf3_ BK383.out; have hfz52_3 := blk_frozen BK383.out 3) | ((with_reducible refine gate_store (t := 34) (p := 2) rfl ?_); refine st_ (w1 := ((((w50.setCell ⟨gb383, 0, none⟩ (.int .i64 (wrap64 (rd l0 0)))).setCell ⟨gb383, 1, none⟩ (.int .i64 0)).setCell ⟨gb383, 2, none⟩ (.int .i64 t393)).setCell ⟨gb383, 3, none⟩ (.int .i64 0))) ?_; intro w53 hw; replace BK383 : Aside0 (w53.heap[gb383]? = some (.cells #[.int .i64 (wrap64 (rd l0 0)), .int .i64 0, .int .i64 t393, .int .i64 0] 34 (0, 0))) := ⟨(by rw [hw]; exact (by (with_reducible repeat first|apply bn_|apply bd_|apply ba_); apply bp4_; (with_reducible repeat first|apply bn_|apply bd_|apply ba_); exact BK383.out))⟩; replace BK385 : Aside0 (w53.heap[gb385]? = some (.cells #[.int .i64 (wrap64 (rd l0 0)), .int .i64 0, .int .i64 t393, .int .i64 0] 34 (0, 0))) := ⟨(by rw [hw]; exact (uf_ BK385.out))⟩; replace HB : Aside0 (Below w.heap.size w w53) := ⟨(by rw [hw]; exact (ue_ HB.out))⟩; clear hw))
         refine bodyPost_ret (results_cell_row rfl _ _ gb383 34 #[.int .i64 (wrap64 (rd l0 0)), .int .i64 0, .int .i64 t393, .int .i64 0] (0, 0) _ rfl (ub_ BK383.out) Try.underlying34 rfl (by kernel_rfl)) rfl ?_
         exact ⟨ew_, ue_ HB.out⟩
        rw [if_neg c45] at H
        exact absurd H (by simp)
       rw [if_neg c44] at H
       exact absurd H (by simp)
      replace c43 := Bool.eq_false_iff.mpr c43
      subst c43
      have H1 : (if (wrap64 (rd l0 0)) = 3 then (if (l0.length : Int) = 1 then (some ((wrap64 (rd l0 0)), 0, 0, 0)) else (some (0, 0, 0, 0))) else (some (0, 0, 0, 0))) = some (r1, r2, r3, r4) := by rw [if_neg (show ¬ (false = true) by decide)] at H; exact H
      clear H
      have H := H1
      clear H1
      by_cases c54 : (wrap64 (rd l0 0)) = 3
      ·
       rw [if_pos c54] at H
       have c54b0 : ((wrap64 (rd l0 0)) == 3) = true := beq_iff_eq.mpr c54
       have c54b1 : ((wrap64 (rd l0 0)) != 3) = false := bne_eq_false_iff_eq.mpr c54
       clear c54
       by_cases c55 : (l0.length : Int) = 1
       ·
        rw [if_pos c55] at H
        have c55b0 : ((l0.length : Int) == 1) = true := beq_iff_eq.mpr c55
        have c55b1 : ((l0.length : Int) != 1) = false := bne_eq_false_iff_eq.mpr c55
        clear c55
        simp only [Option.some.injEq, Prod.mk.injEq] at H
        obtain ⟨rfl, rfl, rfl, rfl⟩ := H
        have hnb56 := NB385_383.out
        have hnc56 := NB383_385.out
        have hcz57_0 := cb_ BK385.out 0 rfl
        have hcz57_1 := cb_ BK385.out 1 rfl
        have hcz57_2 := cb_ BK385.out 2 rfl
        have hcz57_3 := cb_ BK385.out 3 rfl
        have hfz57_0 := blk_frozen BK385.out 0
        have hfz57_1 := blk_frozen BK385.out 1
        have hfz57_2 := blk_frozen BK385.out 2
        have hfz57_3 := blk_frozen BK385.out 3
        have hcz58_0 := cb_ BK383.out 0 rfl
        have hcz58_1 := cb_ BK383.out 1 rfl
        have hcz58_2 := cb_ BK383.out 2 rfl
        have hcz58_3 := cb_ BK383.out 3 rfl
        have hfz58_0 := blk_frozen BK383.out 0
        have hfz58_1 := blk_frozen BK383.out 1
        have hfz58_2 := blk_frozen BK383.out 2
        have hfz58_3 := blk_frozen BK383.out 3
        go_wp2_with (first | ((with_reducible refine gate_store (t := 34) (p := 2) rfl ?_); refine st_ (w1 := ((((wc.setCell ⟨gb383, 0, none⟩ (.int .i64 (wrap64 (rd l0 0)))).setCell ⟨gb383, 1, none⟩ (.int .i64 0)).setCell ⟨gb383, 2, none⟩ (.int .i64 0)).setCell ⟨gb383, 3, none⟩ (.int .i64 0))) ?_; intro w59 hw; replace BK383 : Aside0 (w59.heap[gb383]? = some (.cells #[.int .i64 (wrap64 (rd l0 0)), .int .i64 0, .int .i64 0, .int .i64 0] 34 (0, 0))) := ⟨(by rw [hw]; exact (by (with_reducible repeat first|apply bn_|apply bd_|apply ba_); apply bp4_; (with_reducible repeat first|apply bn_|apply bd_|apply ba_); exact BK383.out))⟩; replace BK385 : Aside0 (w59.heap[gb385]? = some (.cells #[.int .i64 (wrap64 (rd l0 0)), .int .i64 0, .int .i64 0, .int .i64 0] 34 (0, 0))) := ⟨(by rw [hw]; exact (uf_ BK385.out))⟩; replace HB : Aside0 (Below w.heap.size w w59) := ⟨(by rw [hw]; exact (ue_ HB.out))⟩; clear hw))
        refine bodyPost_ret (results_cell_row rfl _ _ gb383 34 #[.int .i64 (wrap64 (rd l0 0)), .int .i64 0, .int .i64 0, .int .i64 0] (0, 0) _ rfl (ub_ BK383.out) Try.underlying34 rfl (by kernel_rfl)) rfl ?_
        exact ⟨ew_, ue_ HB.out⟩
       rw [if_neg c55] at H
       have c55b0 : ((l0.length : Int) == 1) = false := beq_eq_false_iff_ne.mpr c55
       have c55b1 : ((l0.length : Int) != 1) = true := bne_iff_ne.mpr c55
       simp only [Option.some.injEq, Prod.mk.injEq] at H
       obtain ⟨rfl, rfl, rfl, rfl⟩ := H
       have hnb60 := NB385_383.out
       have hnc60 := NB383_385.out
       have hcz61_0 := cb_ BK385.out 0 rfl
       have hcz61_1 := cb_ BK385.out 1 rfl
       have hcz61_2 := cb_ BK385.out 2 rfl
       have hcz61_3 := cb_ BK385.out 3 rfl
       have hfz61_0 := blk_frozen BK385.out 0
       have hfz61_1 := blk_frozen BK385.out 1
       have hfz61_2 := blk_frozen BK385.out 2
       have hfz61_3 := blk_frozen BK385.out 3
       have hcz62_0 := cb_ BK383.out 0 rfl
       have hcz62_1 := cb_ BK383.out 1 rfl
       have hcz62_2 := cb_ BK383.out 2 rfl
       have hcz62_3 := cb_ BK383.out 3 rfl
       have hfz62_0 := blk_frozen BK383.out 0
       have hfz62_1 := blk_frozen BK383.out 1
       have hfz62_2 := blk_frozen BK383.out 2
       have hfz62_3 := blk_frozen BK383.out 3
       go_wp2_with (first | ((with_reducible refine gate_store (t := 34) (p := 2) rfl ?_); refine st_ (w1 := ((((wc.setCell ⟨gb383, 0, none⟩ (.int .i64 0)).setCell ⟨gb383, 1, none⟩ (.int .i64 0)).setCell ⟨gb383, 2, none⟩ (.int .i64 0)).setCell ⟨gb383, 3, none⟩ (.int .i64 0))) ?_; intro w63 hw; replace BK383 : Aside0 (w63.heap[gb383]? = some (.cells #[.int .i64 0, .int .i64 0, .int .i64 0, .int .i64 0] 34 (0, 0))) := ⟨(by rw [hw]; exact (by (with_reducible repeat first|apply bn_|apply bd_|apply ba_); apply bp4_; (with_reducible repeat first|apply bn_|apply bd_|apply ba_); exact BK383.out))⟩; replace BK385 : Aside0 (w63.heap[gb385]? = some (.cells #[.int .i64 (wrap64 (rd l0 0)), .int .i64 0, .int .i64 0, .int .i64 0] 34 (0, 0))) := ⟨(by rw [hw]; exact (uf_ BK385.out))⟩; replace HB : Aside0 (Below w.heap.size w w63) := ⟨(by rw [hw]; exact (ue_ HB.out))⟩; clear hw))
       refine bodyPost_ret (results_cell_row rfl _ _ gb383 34 #[.int .i64 0, .int .i64 0, .int .i64 0, .int .i64 0] (0, 0) _ rfl (ub_ BK383.out) Try.underlying34 rfl (by kernel_rfl)) rfl ?_
       exact ⟨ew_, ue_ HB.out⟩
      rw [if_neg c54] at H
      have c54b0 : ((wrap64 (rd l0 0)) == 3) = false := beq_eq_false_iff_ne.mpr c54
      have c54b1 : ((wrap64 (rd l0 0)) != 3) = true := bne_iff_ne.mpr c54
      simp only [Option.some.injEq, Prod.mk.injEq] at H
      obtain ⟨rfl, rfl, rfl, rfl⟩ := H
      have hnb64 := NB385_383.out
      have hnc64 := NB383_385.out
      have hcz65_0 := cb_ BK385.out 0 rfl
      have hcz65_1 := cb_ BK385.out 1 rfl
      have hcz65_2 := cb_ BK385.out 2 rfl
      have hcz65_3 := cb_ BK385.out 3 rfl
      have hfz65_0 := blk_frozen BK385.out 0
      have hfz65_1 := blk_frozen BK385.out 1
      have hfz65_2 := blk_frozen BK385.out 2
      have hfz65_3 := blk_frozen BK385.out 3
      have hcz66_0 := cb_ BK383.out 0 rfl
      have hcz66_1 := cb_ BK383.out 1 rfl
      have hcz66_2 := cb_ BK383.out 2 rfl
      have hcz66_3 := cb_ BK383.out 3 rfl
      have hfz66_0 := blk_frozen BK383.out 0
      have hfz66_1 := blk_frozen BK383.out 1
      have hfz66_2 := blk_frozen BK383.out 2
      have hfz66_3 := blk_frozen BK383.out 3
      go_wp2_with (first | ((with_reducible refine gate_store (t := 34) (p := 2) rfl ?_); refine st_ (w1 := ((((wc.setCell ⟨gb383, 0, none⟩ (.int .i64 0)).setCell ⟨gb383, 1, none⟩ (.int .i64 0)).setCell ⟨gb383, 2, none⟩ (.int .i64 0)).setCell ⟨gb383, 3, none⟩ (.int .i64 0))) ?_; intro w67 hw; replace BK383 : Aside0 (w67.heap[gb383]? = some (.cells #[.int .i64 0, .int .i64 0, .int .i64 0, .int .i64 0] 34 (0, 0))) := ⟨(by rw [hw]; exact (by (with_reducible repeat first|apply bn_|apply bd_|apply ba_); apply bp4_; (with_reducible repeat first|apply bn_|apply bd_|apply ba_); exact BK383.out))⟩; replace BK385 : Aside0 (w67.heap[gb385]? = some (.cells #[.int .i64 (wrap64 (rd l0 0)), .int .i64 0, .int .i64 0, .int .i64 0] 34 (0, 0))) := ⟨(by rw [hw]; exact (uf_ BK385.out))⟩; replace HB : Aside0 (Below w.heap.size w w67) := ⟨(by rw [hw]; exact (ue_ HB.out))⟩; clear hw))
      refine bodyPost_ret (results_cell_row rfl _ _ gb383 34 #[.int .i64 0, .int .i64 0, .int .i64 0, .int .i64 0] (0, 0) _ rfl (ub_ BK383.out) Try.underlying34 rfl (by kernel_rfl)) rfl ?_
      exact ⟨ew_, ue_ HB.out⟩
 rw [if_neg c2] at H
 exact absurd H (by simp)

/-! ### slices_Grow_byte_byte: function 101 -/
def slices_Grow_byte_byte.f (l0 : List Int) (a1 : Int) : Option (List Int) := if 0 ≤ a1 then (if a1 < 4398046511104 then some [] else none) else none
set_option maxHeartbeats 1000000 in
set_option maxRecDepth 100000 in
theorem slices_Grow_byte_byte.calls (A0 : Option Addr) (c0 : Nat) (l0 : List Int) (a1 : Int) (r : List Int) (w : World) (hr0 : Kd.C (Kd.int .u8) w A0 l0.length l0) (hc0 : l0.length ≤ c0) (h : slices_Grow_byte_byte.f l0 a1 = some r) :
  Calls Try.prog 101 #[.slice none 0 0, .int .i64 a1] w fun e w' => ∃ v0_ : Value, e = .returned v0_ ∧ Kd.R (Kd.int .u8) 5 w' w.heap.size (fun _ => True) v0_ r ∧ Below w.heap.size w w' := by
 unfold slices_Grow_byte_byte.f at h
 by_cases h0 : 0 ≤ a1
 ·
  rw [if_pos h0] at h
  by_cases h1 : a1 < 4398046511104
  ·
   rw [if_pos h1] at h
   obtain rfl := Option.some.inj h
   clear h hr0 hc0
   by_cases h2 : 0 < a1
   ·
    have h3 : ¬ a1 < 0 := by omega
    have hlim : (([] : List Int).length + a1.toNat) * 1 ≤ 140737488355328 := by rw [List.length_nil]; omega
    go_enter Try.func101, Try.ntmps101
    go_wp2_with (at_builtin; (refine Kd.R_append_zeros (Kd.int .u8) (w0 := w) w.heap.size rfl (.tmp 20) (.tmp 21) 39 3 5 (.int .u8 0) 1 rfl Try.underlying39 Try.underlying3 info5 rfl (by decide) (by decide) (.slice none 0 0) [] 0 a1 (fun _ => True) rfl rfl rfl (fun _ _ => trivial) (Kd.R_nil _ _ _ _ _) h0 (Below.refl _ _) (Nat.le_refl _) hlim ?_; intro v1 w1 hr hb hg hat; obtain ⟨A1, c1, rfl⟩ := Kd.R_slice hr; have hl1 : (([] : List Int) ++ List.replicate a1.toNat (0 : Int)).length = a1.toNat := (by simp); have hc1 : a1.toNat ≤ c1 := (by have := (Kd.R_reads' hr).2.1; simpa using this); rw [hl1] at hr hat ⊢; have HO := am_ (Kd.R_take (m := 0) hr (Nat.zero_le _)); have HB := Aside0.mk hb; clear hr hat hl1 hg hb))
    go_ret
    exact ⟨_, rfl, HO.out, HB.out⟩
   obtain rfl : a1 = 0 := by omega
   go_enter Try.func101, Try.ntmps101
   go_wp2
   go_ret
   exact ⟨_, rfl, Kd.R_nil _ _ _ _ _, Below.refl _ _⟩
  rw [if_neg h1] at h
  cases h
 rw [if_neg h0] at h
 cases h

/-! ### slices_Concat_byte_byte: function 82 -/
mutual
def slices_Concat_byte_byte.l0 : Nat → List (List Int) → Int → List (List Int) → Int → Int → Option (List Int)
 | 0, _, _, _, _, _ => none
 | k + 1, x0, x3, x9, x10, x11 => if x11 < x10 then (if 0 ≤ x11 then (if x11 < (x9.length : Int) then (if (wrap64 (x3 + ((rd_L3 x9 x11).length : Int))) < 0 then (none) else (slices_Concat_byte_byte.l0 k x0 (wrap64 (x3 + ((rd_L3 x9 x11).length : Int))) x9 x10 (wrap64 (x11 + 1)))) else (none)) else (none)) else ((slices_Grow_byte_byte.f ([] : List Int) x3).bind fun t395 => (slices_Concat_byte_byte.l1 k t395 x0 (x0.length : Int) 0))
def slices_Concat_byte_byte.l1 : Nat → List Int → List (List Int) → Int → Int → Option (List Int)
 | 0, _, _, _, _ => none
 | k + 1, x6, x25, x26, x27 => if x27 < x26 then (if 0 ≤ x27 then (if x27 < (x25.length : Int) then (if x6.length + (rd_L3 x25 x27).length < 140737488355328 then (slices_Concat_byte_byte.l1 k (x6 ++ (rd_L3 x25 x27)) x25 x26 (wrap64 (x27 + 1))) else (none)) else (none)) else (none)) else (some x6)
end
def slices_Concat_byte_byte.f (k : Nat) (l0 : List (List Int)) : Option (List Int) := slices_Concat_byte_byte.l0 k l0 0 l0 (l0.length : Int) 0
theorem slices_Concat_byte_byte.mono_l : ∀ k, (∀ y0 y1 y2 y3 y4, LeO (slices_Concat_byte_byte.l0 k y0 y1 y2 y3 y4) (slices_Concat_byte_byte.l0 (k + 1) y0 y1 y2 y3 y4)) ∧ (∀ y0 y1 y2 y3, LeO (slices_Concat_byte_byte.l1 k y0 y1 y2 y3) (slices_Concat_byte_byte.l1 (k + 1) y0 y1 y2 y3))
 | 0 => ⟨fun _ _ _ _ _ r h => by simp [slices_Concat_byte_byte.l0] at h, fun _ _ _ _ r h => by simp [slices_Concat_byte_byte.l1] at h⟩
 | k + 1 => by
  obtain ⟨ih0, ih1⟩ := slices_Concat_byte_byte.mono_l k
  refine ⟨?_, ?_⟩
  ·
   intro y0 y1 y2 y3 y4
   unfold slices_Concat_byte_byte.l0
   repeat' first
   | (with_reducible exact ih0 _ _ _ _ _)
   | (with_reducible exact ih1 _ _ _ _)
   | (with_reducible exact LeO.refl _)
   | (with_reducible exact LeO.none _)
   | (with_reducible refine LeO.ite ?_ ?_)
   | (with_reducible refine LeO.bind ?_ (fun _ => ?_))
   | exact ih0 _ _ _ _ _
   | exact ih1 _ _ _ _
   | exact LeO.none _
   | refine LeO.ite ?_ ?_
   | refine LeO.bind ?_ (fun _ => ?_)
  intro y0 y1 y2 y3
  unfold slices_Concat_byte_byte.l1
  repeat' first
  | (with_reducible exact ih0 _ _ _ _ _)
  | (with_reducible exact ih1 _ _ _ _)
  | (with_reducible exact LeO.refl _)
  | (with_reducible exact LeO.none _)
  | (with_reducible refine LeO.ite ?_ ?_)
  | (with_reducible refine LeO.bind ?_ (fun _ => ?_))
  | exact ih0 _ _ _ _ _
  | exact ih1 _ _ _ _
  | exact LeO.none _
  | refine LeO.ite ?_ ?_
  | refine LeO.bind ?_ (fun _ => ?_)
theorem slices_Concat_byte_byte.mono : ∀ a0 k, LeO (slices_Concat_byte_byte.f k a0) (slices_Concat_byte_byte.f (k + 1) a0) := by
 intro a0 k
 obtain ⟨ih0, ih1⟩ := slices_Concat_byte_byte.mono_l k
 unfold slices_Concat_byte_byte.f
 repeat' first
   | (with_reducible exact ih0 _ _ _ _ _)
   | (with_reducible exact ih1 _ _ _ _)
   | (with_reducible exact LeO.refl _)
   | (with_reducible exact LeO.none _)
   | (with_reducible refine LeO.ite ?_ ?_)
   | (with_reducible refine LeO.bind ?_ (fun _ => ?_))
   | exact ih0 _ _ _ _ _
   | exact ih1 _ _ _ _
   | exact LeO.none _
   | refine LeO.ite ?_ ?_
   | refine LeO.bind ?_ (fun _ => ?_)
set_option maxHeartbeats 8000000 in
set_option maxRecDepth 100000 in
theorem slices_Concat_byte_byte.calls (k : Nat) (A0 : Option Addr) (c0 : Nat) (l0 : List (List Int)) (r : List Int) (w : World) (hr0 : Kd.C (Kd.slice 5 (Kd.int .u8)) w A0 l0.length l0) (hc0 : l0.length ≤ c0) (h : slices_Concat_byte_byte.f k l0 = some r) :
  Calls Try.prog 82 #[.slice A0 l0.length c0] w fun e w' => ∃ v0_ : Value, e = .returned (v0_) ∧ Kd.R (Kd.int .u8) 5 w' w.heap.size (fun _ => True) v0_ r ∧ Below w.heap.size w w' := by
 have HR0 := Aside0.mk hr0
 have HC0 := Aside0.mk hc0
 clear hr0 hc0
 have HB := am_ (Below.refl w.heap.size w)
 have H : (slices_Concat_byte_byte.l0 k l0 0 l0 (l0.length : Int) 0) = some r := h
 clear h
 have H' := Aside0.mk H
 clear H
 go_enter Try.func82, Try.ntmps82
 go_wp2
 (try simp only [Act.put, List.setIfInBounds_toArray, List.set_cons_zero, List.set_cons_succ])
 go_loopg [3, 11] k (fun kq v3 v11 w' => ∃ (x3_1 : Int) (x11_1 : Int), v3 = .int .i64 x3_1 ∧ v11 = .int .i64 x11_1 ∧ Aside0 (slices_Concat_byte_byte.l0 kq l0 x3_1 l0 (l0.length : Int) x11_1 = some r) ∧ Aside0 (kq ≤ k) ∧ Aside0 (Below w.heap.size w w'))
 case atStart => exact ⟨(0), (0), (by first | rfl | (simp; done) | (simp [*]; done)), (by first | rfl | (simp; done) | (simp [*]; done)), H', ⟨Nat.le_refl _⟩, ⟨ue_ HB.out⟩⟩
 case round =>
  clear H'
  obtain ⟨x3_1, x11_1, rfl, rfl, HA, HK1, HB⟩ := hrel
  cases gk with
  | zero => exact absurd HA.out (by simp [slices_Concat_byte_byte.l0])
  | succ k1 =>
   have H := HA.out
   clear HA
   simp only [slices_Concat_byte_byte.l0] at H
   by_cases c2 : x11_1 < (l0.length : Int)
   ·
    rw [if_pos c2] at H
    have c2b0 : decide (x11_1 < (l0.length : Int)) = true := decide_eq_true c2
    clear c2
    by_cases c3 : 0 ≤ x11_1
    ·
     rw [if_pos c3] at H
     have c3b0 : decide (0 ≤ x11_1) = true := decide_eq_true c3
     clear c3
     by_cases c4 : x11_1 < (l0.length : Int)
     ·
      rw [if_pos c4] at H
      have c4b0 : decide (x11_1 < (l0.length : Int)) = true := decide_eq_true c4
      clear c4
      by_cases c5 : (wrap64 (x3_1 + ((rd_L3 l0 x11_1).length : Int))) < 0
      ·
       rw [if_pos c5] at H
       exact absurd H (by simp)
      rw [if_neg c5] at H
      have c5b0 : decide ((wrap64 (x3_1 + ((rd_L3 l0 x11_1).length : Int))) < 0) = false := decide_eq_false c5
      clear c5
      have H' := Aside0.mk H
      clear H
      have p394 : 0 ≤ (x11_1 : Int) := of_decide_eq_true ua_
      have q394 : x11_1 < (l0.length : Int) := of_decide_eq_true ua_
      obtain ⟨ad394, A394_0, c394_0, e394, hx394_0, hl394_0, hi394_0⟩ := at_L3 HR0.out x11_1 p394 q394
      cases e394
      replace hx394_0 := bc_ HB.out hx394_0
      have HR394_0 := Aside0.mk hi394_0
      have HC394_0 := Aside0.mk hl394_0
      clear hi394_0 hl394_0
      replace p394 := eq_true p394
      replace q394 := eq_true q394
      go_wp2
      go_roundg k1
      case measure => have := HK1.out; omega
      case rel => exact ⟨(wrap64 (x3_1 + ((rd_L3 l0 x11_1).length : Int))), (wrap64 (x11_1 + 1)), (by first | rfl | (simp; done) | (simp [*]; done)), (by first | rfl | (simp; done) | (simp [*]; done)), H', ⟨by have := HK1.out; omega⟩, ⟨ue_ HB.out⟩⟩
     rw [if_neg c4] at H
     exact absurd H (by simp)
    rw [if_neg c3] at H
    exact absurd H (by simp)
   rw [if_neg c2] at H
   have c2b0 : decide (x11_1 < (l0.length : Int)) = false := decide_eq_false c2
   clear c2
   replace H := Option.bind_eq_some_iff.mp H
   obtain ⟨t395, A60, H⟩ := H
   replace H : (slices_Concat_byte_byte.l1 k1 t395 l0 (l0.length : Int) 0) = some r := H
   have A6 := Aside0.mk A60
   clear A60
   have H' := Aside0.mk H
   clear H
   go_wp2_with (first | ((with_reducible refine gate_callee (f := 101) rfl ?_); refine goesL_ (some 24) rfl rfl Try.func101 (by kernel_rfl) rfl #[.slice none 0 0, .int .i64 x3_1] rfl ul_ ?_; (refine (slices_Grow_byte_byte.calls none 0 ([] : List Int) x3_1 t395 _ ?side1 ?side2 A6.out).mono ?_); (case side1 => exact Kd.C_nil _ _); (case side2 => exact Nat.le_refl _); rintro e w7 ⟨v396, rfl, ho0, hb⟩; refine ⟨_, rfl, ?_⟩; have HO397 := am_ (Kd.R_lower ho0 (below_size (ue_ HB.out))); replace HB := am_ (below_step (ue_ HB.out) hb); (try clear hb); (try clear hb2); (try clear hk); (try clear hi); (try clear ho0)))
   (try simp only [Act.put, List.setIfInBounds_toArray, List.set_cons_zero, List.set_cons_succ])
   go_loopg [6, 27] k1 (fun kq v6 v27 w' => ∃ (x6_2 : List Int) (x27_2 : Int), v27 = .int .i64 x27_2 ∧ Aside0 (slices_Concat_byte_byte.l1 kq x6_2 l0 (l0.length : Int) x27_2 = some r) ∧ Aside0 (kq ≤ k1) ∧ Aside0 (Kd.R (Kd.int .u8) 5 w' w.heap.size (fun _ => True) v6 x6_2) ∧ Aside0 (Below w.heap.size w w'))
   case atStart => exact ⟨(t395), (0), (by first | rfl | (simp; done) | (simp [*]; done)), H', ⟨Nat.le_refl _⟩, ⟨by (with_reducible repeat (first | apply Kd.R_alloc | apply Kd.R_drewN | apply Kd.R_drew)); exact HO397.out⟩, ⟨ue_ HB.out⟩⟩
   case round =>
    clear H'
    try clear c1
    try clear c2
    try clear c2b0
    try clear p2
    try clear c3
    try clear c3b0
    try clear p3
    try clear q3
    try clear hx3
    try clear c4
    try clear c4b0
    try clear c5
    try clear c5b0
    try clear p6
    try clear hx394_0
    try clear p394
    try clear q394
    obtain ⟨x6_2, x27_2, rfl, HA, HK2, HO_6, HB⟩ := hrel
    cases gk with
    | zero => exact absurd HA.out (by simp [slices_Concat_byte_byte.l1])
    | succ k2 =>
     have H := HA.out
     clear HA
     simp only [slices_Concat_byte_byte.l1] at H
     by_cases c8 : x27_2 < (l0.length : Int)
     ·
      rw [if_pos c8] at H
      have c8b0 : decide (x27_2 < (l0.length : Int)) = true := decide_eq_true c8
      clear c8
      by_cases c9 : 0 ≤ x27_2
      ·
       rw [if_pos c9] at H
       have c9b0 : decide (0 ≤ x27_2) = true := decide_eq_true c9
       clear c9
       by_cases c10 : x27_2 < (l0.length : Int)
       ·
        rw [if_pos c10] at H
        have c10b0 : decide (x27_2 < (l0.length : Int)) = true := decide_eq_true c10
        clear c10
        by_cases c11 : x6_2.length + (rd_L3 l0 x27_2).length < 140737488355328
        ·
         rw [if_pos c11] at H
         have LMc11 := Aside0.mk c11
         clear c11
         obtain ⟨y399, hy399⟩ : ∃ y_ : List Int, y_ = (x6_2 ++ (rd_L3 l0 x27_2)) := ⟨_, rfl⟩
         replace H : (slices_Concat_byte_byte.l1 k2 y399 l0 (l0.length : Int) (wrap64 (x27_2 + 1))) = some r := by first | (rw [hy399]; with_reducible exact H) | (have H2_ := (Option.bind_some _ _).symm.trans H; rw [hy399]; with_reducible exact H2_) | (have H2_ := (Option.bind_some _ _).symm.trans H; with_reducible exact H2_) | with_reducible exact H | (rw [hy399]; exact H) | exact H
         have Ny399 := Aside0.mk hy399
         clear hy399
         have H' := Aside0.mk H
         clear H
         have p398 : 0 ≤ (x27_2 : Int) := of_decide_eq_true ua_
         have q398 : x27_2 < (l0.length : Int) := of_decide_eq_true ua_
         obtain ⟨ad398, A398_0, c398_0, e398, hx398_0, hl398_0, hi398_0⟩ := at_L3 HR0.out x27_2 p398 q398
         cases e398
         replace hx398_0 := bc_ HB.out hx398_0
         have HR398_0 := Aside0.mk hi398_0
         have HC398_0 := Aside0.mk hl398_0
         clear hi398_0 hl398_0
         replace p398 := eq_true p398
         replace q398 := eq_true q398
         go_wp2_with (first | ((with_reducible refine gate_builtin (b := .append) (xs := #[.tmp 31, .tmp 32]) rfl ?_); at_builtin; refine Kd.R_append_rows (Kd.int .u8) (w0 := w) w.heap.size rfl (.tmp 31) (.tmp 32) 39 5 (.int .u8 0) 1 rfl Try.underlying39 info5 rfl (by decide) (by omega) u6 x6_2 (rd_L3 l0 x27_2) _ _ _ (fun _ => True) (fun _ => False) rfl rfl ?aO ?aR (fun _ _ h => h) (fun _ h => h.elim) ?aF ?aB ?aS ?aL ?_; (case aR => repeat (first | exact (Kd.C_below HR398_0.out HB.out) | (with_reducible refine Kd.C_alloc ?_ _) | (with_reducible refine Kd.C_drewN ?_ _) | (with_reducible refine Kd.C_drew ?_))); (case aB => exact (ue_ HB.out)); (case aF => exact (fun _ _ => trivial)); (case aO => exact (ur_ HO_6.out)); (case aS => exact (below_size (ue_ HB.out))); (case aL => have := LMc11.out; omega); intro v400 w12 ho hb hg hat; rw [← Ny399.out] at ho; replace HB := am_ (hb); have HO401 := am_ (ho); clear HO_6; clear ho hb hg hat))
         go_roundg k2
         case measure => have := HK1.out; have := HK2.out; omega
         case rel => exact ⟨(y399), (wrap64 (x27_2 + 1)), (by first | rfl | (simp; done) | (simp [*]; done)), H', ⟨by have := HK1.out; have := HK2.out; omega⟩, ⟨by (with_reducible repeat (first | apply Kd.R_alloc | apply Kd.R_drewN | apply Kd.R_drew)); exact HO401.out⟩, ⟨ue_ HB.out⟩⟩
        rw [if_neg c11] at H
        exact absurd H (by simp)
       rw [if_neg c10] at H
       exact absurd H (by simp)
      rw [if_neg c9] at H
      exact absurd H (by simp)
     rw [if_neg c8] at H
     have c8b0 : decide (x27_2 < (l0.length : Int)) = false := decide_eq_false c8
     clear c8
     obtain rfl := Option.some.inj H
     go_wp2
     go_ret
     exact ⟨_, ew_, by (with_reducible repeat (first | apply Kd.R_alloc | apply Kd.R_drewN | apply Kd.R_drew)); exact HO_6.out, ue_ HB.out⟩

end Go.Proofs.Ytaofcalmgodgjaa.QFnPieces
