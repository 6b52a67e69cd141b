/- The machine side of a law: Lean functions with the Go functions' answers and the walks that show it. No condition. -/
import Derived.Test.YtaofcalmgodgjaaQFnExactAddEventx0
namespace Go.Proofs.Ytaofcalmgodgjaa.QFnExactAddEvent
open Go.RowKit Go.Proofs.YtaofcalmgodgjaaW.PrintWords Go.Proofs.YtaofcalmgodgjaaW.PrintLast Go.Proofs.YtaofcalmgodgjaaW.PrintMore
attribute [local go_sem] max2_int min2_int max_two min_two max_three min_three max_four min_four   -- for this text's walks alone
set_option linter.unusedVariables false
set_option linter.unusedSimpArgs false

/-! ### laws_eqAgg: function 73 -/
def laws_eqAgg.f (a0_0 : Int) (a0_1 : Int) (a0_2 : Int) (a0_3 : Int) (a0_4 : Int) (a0_5 : Int) (a1_0 : Int) (a1_1 : Int) (a1_2 : Int) (a1_3 : Int) (a1_4 : Int) (a1_5 : Int) : Option (Bool) := if a0_0 = a1_0 then (if a0_1 = a1_1 then (if a0_2 = a1_2 then (if a0_3 = a1_3 then (if a0_4 = a1_4 then (if a0_5 = a1_5 then (some true) else (some false)) else (some false)) else (some false)) else (some false)) else (some false)) else (some false)
set_option maxHeartbeats 8000000 in
set_option maxRecDepth 100000 in
theorem laws_eqAgg.calls (a0_0 : Int) (a0_1 : Int) (a0_2 : Int) (a0_3 : Int) (a0_4 : Int) (a0_5 : Int) (a1_0 : Int) (a1_1 : Int) (a1_2 : Int) (a1_3 : Int) (a1_4 : Int) (a1_5 : Int) (r : Bool) (w : World) (h : laws_eqAgg.f a0_0 a0_1 a0_2 a0_3 a0_4 a0_5 a1_0 a1_1 a1_2 a1_3 a1_4 a1_5 = some r) :
  Calls Try.prog 73 #[.agg #[.int .i64 a0_0, .int .i64 a0_1, .int .i64 a0_2, .int .i64 a0_3, .int .i64 a0_4, .int .i64 a0_5], .agg #[.int .i64 a1_0, .int .i64 a1_1, .int .i64 a1_2, .int .i64 a1_3, .int .i64 a1_4, .int .i64 a1_5]] w fun e w' => e = .returned (.bool r) ∧ Below w.heap.size w w' := by
 have hu62 := Try.underlying62
 have HB := am_ (Below.refl w.heap.size w)
 have H : (if a0_0 = a1_0 then (if a0_1 = a1_1 then (if a0_2 = a1_2 then (if a0_3 = a1_3 then (if a0_4 = a1_4 then (if a0_5 = a1_5 then (some true) else (some false)) else (some false)) else (some false)) else (some false)) else (some false)) else (some false)) = some r := h
 clear h
 by_cases c3 : a0_0 = a1_0
 ·
  rw [if_pos c3] at H
  have c3b0 : (a0_0 == a1_0) = true := beq_iff_eq.mpr c3
  have c3b1 : (a0_0 != a1_0) = false := bne_eq_false_iff_eq.mpr c3
  clear c3
  by_cases c4 : a0_1 = a1_1
  ·
   rw [if_pos c4] at H
   have c4b0 : (a0_1 == a1_1) = true := beq_iff_eq.mpr c4
   have c4b1 : (a0_1 != a1_1) = false := bne_eq_false_iff_eq.mpr c4
   clear c4
   by_cases c5 : a0_2 = a1_2
   ·
    rw [if_pos c5] at H
    have c5b0 : (a0_2 == a1_2) = true := beq_iff_eq.mpr c5
    have c5b1 : (a0_2 != a1_2) = false := bne_eq_false_iff_eq.mpr c5
    clear c5
    by_cases c6 : a0_3 = a1_3
    ·
     rw [if_pos c6] at H
     have c6b0 : (a0_3 == a1_3) = true := beq_iff_eq.mpr c6
     have c6b1 : (a0_3 != a1_3) = false := bne_eq_false_iff_eq.mpr c6
     clear c6
     by_cases c7 : a0_4 = a1_4
     ·
      rw [if_pos c7] at H
      have c7b0 : (a0_4 == a1_4) = true := beq_iff_eq.mpr c7
      have c7b1 : (a0_4 != a1_4) = false := bne_eq_false_iff_eq.mpr c7
      clear c7
      by_cases c8 : a0_5 = a1_5
      ·
       rw [if_pos c8] at H
       have c8b0 : (a0_5 == a1_5) = true := beq_iff_eq.mpr c8
       have c8b1 : (a0_5 != a1_5) = false := bne_eq_false_iff_eq.mpr c8
       clear c8
       obtain rfl := Option.some.inj H
       go_enter Try.func73, Try.ntmps73
       go_wp2_with (first | ((with_reducible refine gate_dst (N := 2) rfl ?_); refine bx_ (N := 2) (cs := #[.int .i64 a0_0, .int .i64 a0_1, .int .i64 a0_2, .int .i64 a0_3, .int .i64 a0_4, .int .i64 a0_5]) (t := 62) ?_; intro gb331 hg w9 hbox hb; have BK331 := am_ (hbox); have GW331 := gs_ hg HB.out; have GE331 := gs_ hg HB.out; replace HB := hs_ HB hb; clear hb hbox hg) | ((with_reducible refine gate_dst (N := 3) rfl ?_); refine bx_ (N := 3) (cs := #[.int .i64 a1_0, .int .i64 a1_1, .int .i64 a1_2, .int .i64 a1_3, .int .i64 a1_4, .int .i64 a1_5]) (t := 62) ?_; intro gb332 hg w10 hbox hb; have BK332 := am_ (hbox); have GW332 := gs_ hg HB.out; have GE332 := gs_ hg HB.out; replace HB := hs_ HB hb; have NB331_332 := nl_ hg BK331.out; have NB332_331 := ng_ hg BK331.out; replace BK331 := bs_ BK331 hb; clear hb hbox hg; have hnb11 := NB331_332.out; have hnc11 := NB332_331.out; obtain ⟨hcz12_0, hcz12_1, hcz12_2, hcz12_3, hcz12_4, hcz12_5⟩ := cb6_ BK331.out; obtain ⟨hfz12_0, hfz12_1, hfz12_2, hfz12_3, hfz12_4, hfz12_5⟩ := bf6_ BK331.out; obtain ⟨hcz13_0, hcz13_1, hcz13_2, hcz13_3, hcz13_4, hcz13_5⟩ := cb6_ BK332.out; obtain ⟨hfz13_0, hfz13_1, hfz13_2, hfz13_3, hfz13_4⟩ := bf5_ BK332.out; have hfz13_5 := blk_frozen BK332.out 5))
       go_ret
       exact ⟨ew_, ue_ HB.out⟩
      rw [if_neg c8] at H
      have c8b0 : (a0_5 == a1_5) = false := beq_eq_false_iff_ne.mpr c8
      have c8b1 : (a0_5 != a1_5) = true := bne_iff_ne.mpr c8
      obtain rfl := Option.some.inj H
      go_enter Try.func73, Try.ntmps73
      go_wp2_with (first | ((with_reducible refine gate_dst (N := 2) rfl ?_); refine bx_ (N := 2) (cs := #[.int .i64 a0_0, .int .i64 a0_1, .int .i64 a0_2, .int .i64 a0_3, .int .i64 a0_4, .int .i64 a0_5]) (t := 62) ?_; intro gb331 hg w14 hbox hb; have BK331 := am_ (hbox); have GW331 := gs_ hg HB.out; have GE331 := gs_ hg HB.out; replace HB := hs_ HB hb; clear hb hbox hg) | ((with_reducible refine gate_dst (N := 3) rfl ?_); refine bx_ (N := 3) (cs := #[.int .i64 a1_0, .int .i64 a1_1, .int .i64 a1_2, .int .i64 a1_3, .int .i64 a1_4, .int .i64 a1_5]) (t := 62) ?_; intro gb332 hg w15 hbox hb; have BK332 := am_ (hbox); have GW332 := gs_ hg HB.out; have GE332 := gs_ hg HB.out; replace HB := hs_ HB hb; have NB331_332 := nl_ hg BK331.out; have NB332_331 := ng_ hg BK331.out; replace BK331 := bs_ BK331 hb; clear hb hbox hg; have hnb16 := NB331_332.out; have hnc16 := NB332_331.out; obtain ⟨hcz17_0, hcz17_1, hcz17_2, hcz17_3, hcz17_4, hcz17_5⟩ := cb6_ BK331.out; obtain ⟨hfz17_0, hfz17_1, hfz17_2, hfz17_3, hfz17_4, hfz17_5⟩ := bf6_ BK331.out; obtain ⟨hcz18_0, hcz18_1, hcz18_2, hcz18_3, hcz18_4, hcz18_5⟩ := cb6_ BK332.out; obtain ⟨hfz18_0, hfz18_1, hfz18_2, hfz18_3, hfz18_4⟩ := bf5_ BK332.out; have hfz18_5 := blk_frozen BK332.out 5))
      go_ret
      exact ⟨ew_, ue_ HB.out⟩
     rw [if_neg c7] at H
     have c7b0 : (a0_4 == a1_4) = false := beq_eq_false_iff_ne.mpr c7
     have c7b1 : (a0_4 != a1_4) = true := bne_iff_ne.mpr c7
     obtain rfl := Option.some.inj H
     go_enter Try.func73, Try.ntmps73
     go_wp2_with (first | ((with_reducible refine gate_dst (N := 2) rfl ?_); refine bx_ (N := 2) (cs := #[.int .i64 a0_0, .int .i64 a0_1, .int .i64 a0_2, .int .i64 a0_3, .int .i64 a0_4, .int .i64 a0_5]) (t := 62) ?_; intro gb331 hg w19 hbox hb; have BK331 := am_ (hbox); have GW331 := gs_ hg HB.out; have GE331 := gs_ hg HB.out; replace HB := hs_ HB hb; clear hb hbox hg) | ((with_reducible refine gate_dst (N := 3) rfl ?_); refine bx_ (N := 3) (cs := #[.int .i64 a1_0, .int .i64 a1_1, .int .i64 a1_2, .int .i64 a1_3, .int .i64 a1_4, .int .i64 a1_5]) (t := 62) ?_; intro gb332 hg w20 hbox hb; have BK332 := am_ (hbox); have GW332 := gs_ hg HB.out; have GE332 := gs_ hg HB.out; replace HB := hs_ HB hb; have NB331_332 := nl_ hg BK331.out; have NB332_331 := ng_ hg BK331.out; replace BK331 := bs_ BK331 hb; clear hb hbox hg; have hnb21 := NB331_332.out; have hnc21 := NB332_331.out; obtain ⟨hcz22_0, hcz22_1, hcz22_2, hcz22_3, hcz22_4, hcz22_5⟩ := cb6_ BK331.out; obtain ⟨hfz22_0, hfz22_1, hfz22_2, hfz22_3, hfz22_4, hfz22_5⟩ := bf6_ BK331.out; obtain ⟨hcz23_0, hcz23_1, hcz23_2, hcz23_3, hcz23_4, hcz23_5⟩ := cb6_ BK332.out; obtain ⟨hfz23_0, hfz23_1, hfz23_2, hfz23_3, hfz23_4⟩ := bf5_ BK332.out; have hfz23_5 := blk_frozen BK332.out 5))
     go_ret
     exact ⟨ew_, ue_ HB.out⟩
    rw [if_neg c6] at H
    have c6b0 : (a0_3 == a1_3) = false := beq_eq_false_iff_ne.mpr c6
    have c6b1 : (a0_3 != a1_3) = true := bne_iff_ne.mpr c6
    obtain rfl := Option.some.inj H
    go_enter Try.func73, Try.ntmps73
    go_wp2_with (first | ((with_reducible refine gate_dst (N := 2) rfl ?_); refine bx_ (N := 2) (cs := #[.int .i64 a0_0, .int .i64 a0_1, .int .i64 a0_2, .int .i64 a0_3, .int .i64 a0_4, .int .i64 a0_5]) (t := 62) ?_; intro gb331 hg w24 hbox hb; have BK331 := am_ (hbox); have GW331 := gs_ hg HB.out; have GE331 := gs_ hg HB.out; replace HB := hs_ HB hb; clear hb hbox hg) | ((with_reducible refine gate_dst (N := 3) rfl ?_); refine bx_ (N := 3) (cs := #[.int .i64 a1_0, .int .i64 a1_1, .int .i64 a1_2, .int .i64 a1_3, .int .i64 a1_4, .int .i64 a1_5]) (t := 62) ?_; intro gb332 hg w25 hbox hb; have BK332 := am_ (hbox); have GW332 := gs_ hg HB.out; have GE332 := gs_ hg HB.out; replace HB := hs_ HB hb; have NB331_332 := nl_ hg BK331.out; have NB332_331 := ng_ hg BK331.out; replace BK331 := bs_ BK331 hb; clear hb hbox hg; have hnb26 := NB331_332.out; have hnc26 := NB332_331.out; obtain ⟨hcz27_0, hcz27_1, hcz27_2, hcz27_3, hcz27_4, hcz27_5⟩ := cb6_ BK331.out; obtain ⟨hfz27_0, hfz27_1, hfz27_2, hfz27_3, hfz27_4, hfz27_5⟩ := bf6_ BK331.out; obtain ⟨hcz28_0, hcz28_1, hcz28_2, hcz28_3, hcz28_4, hcz28_5⟩ := cb6_ BK332.out; obtain ⟨hfz28_0, hfz28_1, hfz28_2, hfz28_3, hfz28_4⟩ := bf5_ BK332.out; have hfz28_5 := blk_frozen BK332.out 5))
    go_ret
    exact ⟨ew_, ue_ HB.out⟩
   rw [if_neg c5] at H
   have c5b0 : (a0_2 == a1_2) = false := beq_eq_false_iff_ne.mpr c5
   have c5b1 : (a0_2 != a1_2) = true := bne_iff_ne.mpr c5
   obtain rfl := Option.some.inj H
   go_enter Try.func73, Try.ntmps73
   go_wp2_with (first | ((with_reducible refine gate_dst (N := 2) rfl ?_); refine bx_ (N := 2) (cs := #[.int .i64 a0_0, .int .i64 a0_1, .int .i64 a0_2, .int .i64 a0_3, .int .i64 a0_4, .int .i64 a0_5]) (t := 62) ?_; intro gb331 hg w29 hbox hb; have BK331 := am_ (hbox); have GW331 := gs_ hg HB.out; have GE331 := gs_ hg HB.out; replace HB := hs_ HB hb; clear hb hbox hg) | ((with_reducible refine gate_dst (N := 3) rfl ?_); refine bx_ (N := 3) (cs := #[.int .i64 a1_0, .int .i64 a1_1, .int .i64 a1_2, .int .i64 a1_3, .int .i64 a1_4, .int .i64 a1_5]) (t := 62) ?_; intro gb332 hg w30 hbox hb; have BK332 := am_ (hbox); have GW332 := gs_ hg HB.out; have GE332 := gs_ hg HB.out; replace HB := hs_ HB hb; have NB331_332 := nl_ hg BK331.out; have NB332_331 := ng_ hg BK331.out; replace BK331 := bs_ BK331 hb; clear hb hbox hg; have hnb31 := NB331_332.out; have hnc31 := NB332_331.out; obtain ⟨hcz32_0, hcz32_1, hcz32_2, hcz32_3, hcz32_4, hcz32_5⟩ := cb6_ BK331.out; obtain ⟨hfz32_0, hfz32_1, hfz32_2, hfz32_3, hfz32_4, hfz32_5⟩ := bf6_ BK331.out; obtain ⟨hcz33_0, hcz33_1, hcz33_2, hcz33_3, hcz33_4, hcz33_5⟩ := cb6_ BK332.out; obtain ⟨hfz33_0, hfz33_1, hfz33_2, hfz33_3, hfz33_4⟩ := bf5_ BK332.out; have hfz33_5 := blk_frozen BK332.out 5))
   go_ret
   exact ⟨ew_, ue_ HB.out⟩
  rw [if_neg c4] at H
  have c4b0 : (a0_1 == a1_1) = false := beq_eq_false_iff_ne.mpr c4
  have c4b1 : (a0_1 != a1_1) = true := bne_iff_ne.mpr c4
  obtain rfl := Option.some.inj H
  go_enter Try.func73, Try.ntmps73
  go_wp2_with (first | ((with_reducible refine gate_dst (N := 2) rfl ?_); refine bx_ (N := 2) (cs := #[.int .i64 a0_0, .int .i64 a0_1, .int .i64 a0_2, .int .i64 a0_3, .int .i64 a0_4, .int .i64 a0_5]) (t := 62) ?_; intro gb331 hg w34 hbox hb; have BK331 := am_ (hbox); have GW331 := gs_ hg HB.out; have GE331 := gs_ hg HB.out; replace HB := hs_ HB hb; clear hb hbox hg) | ((with_reducible refine gate_dst (N := 3) rfl ?_); refine bx_ (N := 3) (cs := #[.int .i64 a1_0, .int .i64 a1_1, .int .i64 a1_2, .int .i64 a1_3, .int .i64 a1_4, .int .i64 a1_5]) (t := 62) ?_; intro gb332 hg w35 hbox hb; have BK332 := am_ (hbox); have GW332 := gs_ hg HB.out; have GE332 := gs_ hg HB.out; replace HB := hs_ HB hb; have NB331_332 := nl_ hg BK331.out; have NB332_331 := ng_ hg BK331.out; replace BK331 := bs_ BK331 hb; clear hb hbox hg; have hnb36 := NB331_332.out; have hnc36 := NB332_331.out; obtain ⟨hcz37_0, hcz37_1, hcz37_2, hcz37_3, hcz37_4, hcz37_5⟩ := cb6_ BK331.out; obtain ⟨hfz37_0, hfz37_1, hfz37_2, hfz37_3, hfz37_4, hfz37_5⟩ := bf6_ BK331.out; obtain ⟨hcz38_0, hcz38_1, hcz38_2, hcz38_3, hcz38_4, hcz38_5⟩ := cb6_ BK332.out; obtain ⟨hfz38_0, hfz38_1, hfz38_2, hfz38_3, hfz38_4⟩ := bf5_ BK332.out; have hfz38_5 := blk_frozen BK332.out 5))
  go_ret
  exact ⟨ew_, ue_ HB.out⟩
 rw [if_neg c3] at H
 have c3b0 : (a0_0 == a1_0) = false := beq_eq_false_iff_ne.mpr c3
 have c3b1 : (a0_0 != a1_0) = true := bne_iff_ne.mpr c3
 obtain rfl := Option.some.inj H
 go_enter Try.func73, Try.ntmps73
 go_wp2_with (first | ((with_reducible refine gate_dst (N := 2) rfl ?_); refine bx_ (N := 2) (cs := #[.int .i64 a0_0, .int .i64 a0_1, .int .i64 a0_2, .int .i64 a0_3, .int .i64 a0_4, .int .i64 a0_5]) (t := 62) ?_; intro gb331 hg w39 hbox hb; have BK331 := am_ (hbox); have GW331 := gs_ hg HB.out; have GE331 := gs_ hg HB.out; replace HB := hs_ HB hb; clear hb hbox hg) | ((with_reducible refine gate_dst (N := 3) rfl ?_); refine bx_ (N := 3) (cs := #[.int .i64 a1_0, .int .i64 a1_1, .int .i64 a1_2, .int .i64 a1_3, .int .i64 a1_4, .int .i64 a1_5]) (t := 62) ?_; intro gb332 hg w40 hbox hb; have BK332 := am_ (hbox); have GW332 := gs_ hg HB.out; have GE332 := gs_ hg HB.out; replace HB := hs_ HB hb; have NB331_332 := nl_ hg BK331.out; have NB332_331 := ng_ hg BK331.out; replace BK331 := bs_ BK331 hb; clear hb hbox hg; have hnb41 := NB331_332.out; have hnc41 := NB332_331.out; obtain ⟨hcz42_0, hcz42_1, hcz42_2, hcz42_3, hcz42_4, hcz42_5⟩ := cb6_ BK331.out; obtain ⟨hfz42_0, hfz42_1, hfz42_2, hfz42_3, hfz42_4, hfz42_5⟩ := bf6_ BK331.out; obtain ⟨hcz43_0, hcz43_1, hcz43_2, hcz43_3, hcz43_4, hcz43_5⟩ := cb6_ BK332.out; obtain ⟨hfz43_0, hfz43_1, hfz43_2, hfz43_3, hfz43_4⟩ := bf5_ BK332.out; have hfz43_5 := blk_frozen BK332.out 5))
 go_ret
 exact ⟨ew_, ue_ HB.out⟩

/-! ### laws_eqAggS: function 45 -/
def laws_eqAggS.l0 : Nat → List (S62) → List (S62) → Int → Option (Bool)
 | 0, _, _, _ => none
 | k + 1, x0, x1, x5 => if x5 < (x0.length : Int) then (if 0 ≤ x5 then (if x5 < (x1.length : Int) then ((laws_eqAgg.f ((rd_T62 x0 x5).f0) ((rd_T62 x0 x5).f1) ((rd_T62 x0 x5).f2) ((rd_T62 x0 x5).f3) ((rd_T62 x0 x5).f4) ((rd_T62 x0 x5).f5) ((rd_T62 x1 x5).f0) ((rd_T62 x1 x5).f1) ((rd_T62 x1 x5).f2) ((rd_T62 x1 x5).f3) ((rd_T62 x1 x5).f4) ((rd_T62 x1 x5).f5)).bind fun t335 => (if t335 = true then (laws_eqAggS.l0 k x0 x1 (wrap64 (x5 + 1))) else (some false))) else (none)) else (none)) else (some true)
def laws_eqAggS.f (k : Nat) (l0 : List (S62)) (l1 : List (S62)) : Option (Bool) := if (l0.length : Int) = (l1.length : Int) then (laws_eqAggS.l0 k l0 l1 0) else (some false)
theorem laws_eqAggS.mono_l : ∀ k, (∀ y0 y1 y2, LeO (laws_eqAggS.l0 k y0 y1 y2) (laws_eqAggS.l0 (k + 1) y0 y1 y2))
 | 0 => fun _ _ _ r h => by simp [laws_eqAggS.l0] at h
 | k + 1 => by
  have ih0 := laws_eqAggS.mono_l k
  intro y0 y1 y2
  unfold laws_eqAggS.l0
  repeat' first
  | (with_reducible exact ih0 _ _ _)
  | (with_reducible exact LeO.refl _)
  | (with_reducible exact LeO.none _)
  | (with_reducible refine LeO.ite ?_ ?_)
  | (with_reducible refine LeO.bind ?_ (fun _ => ?_))
  | exact ih0 _ _ _
  | exact LeO.none _
  | refine LeO.ite ?_ ?_
  | refine LeO.bind ?_ (fun _ => ?_)
theorem laws_eqAggS.mono : ∀ a0 a1 k, LeO (laws_eqAggS.f k a0 a1) (laws_eqAggS.f (k + 1) a0 a1) := by
 intro a0 a1 k
 have ih0 := laws_eqAggS.mono_l k
 unfold laws_eqAggS.f
 repeat' first
   | (with_reducible exact ih0 _ _ _)
   | (with_reducible exact LeO.refl _)
   | (with_reducible exact LeO.none _)
   | (with_reducible refine LeO.ite ?_ ?_)
   | (with_reducible refine LeO.bind ?_ (fun _ => ?_))
   | exact ih0 _ _ _
   | exact LeO.none _
   | refine LeO.ite ?_ ?_
   | refine LeO.bind ?_ (fun _ => ?_)
def laws_eqAggS.T6 : Bool × List (List Nat × List Nat) := (true, [([], []), ([], []), ([0, 1], [0, 1]), ([2], [2]), ([], []), ([], []), ([4, 5], [4, 5]), ([6], [6]), ([3, 7], [3, 7]), ([8], [8])])
def laws_eqAggS.B6 : List Nat := [0, 0, 3, 7, 0, 0, 48, 112, 255, 511]
theorem laws_eqAggS.tab6 : rtab .any (opsOf Try.f45 6) = laws_eqAggS.T6 := by kernel_rfl
theorem laws_eqAggS.bits6 : waitsOk laws_eqAggS.T6.2 laws_eqAggS.B6 = true := by kernel_rfl
set_option maxHeartbeats 8000000 in
set_option maxRecDepth 100000 in
theorem laws_eqAggS.calls (k : Nat) (A0 : Option Addr) (c0 : Nat) (l0 : List (S62)) (A1 : Option Addr) (c1 : Nat) (l1 : List (S62)) (r : Bool) (w : World) (hr0 : Kd.C k62 w A0 l0.length l0) (hc0 : l0.length ≤ c0) (hr1 : Kd.C k62 w A1 l1.length l1) (hc1 : l1.length ≤ c1) (h : laws_eqAggS.f k l0 l1 = some r) :
  Calls Try.prog 45 #[.slice A0 l0.length c0, .slice A1 l1.length c1] w fun e w' => e = .returned (.bool r) ∧ Below w.heap.size w w' := by
 have hu62 := Try.underlying62
 have HR0 := Aside0.mk hr0
 have HC0 := Aside0.mk hc0
 clear hr0 hc0
 have HR1 := Aside0.mk hr1
 have HC1 := Aside0.mk hc1
 clear hr1 hc1
 have HB := am_ (Below.refl w.heap.size w)
 have H : (if (l0.length : Int) = (l1.length : Int) then (laws_eqAggS.l0 k l0 l1 0) else (some false)) = some r := h
 clear h
 by_cases c3 : (l0.length : Int) = (l1.length : Int)
 ·
  rw [if_pos c3] at H
  have c3b0 : ((l0.length : Int) == (l1.length : Int)) = true := beq_iff_eq.mpr c3
  have c3b1 : ((l0.length : Int) != (l1.length : Int)) = false := bne_eq_false_iff_eq.mpr c3
  have c3b2 : (l0.length == l1.length) = true := by first | simpa using c3 | (simp at c3 ⊢; omega)
  clear c3
  have H' := Aside0.mk H
  clear H
  go_enter Try.func45, Try.ntmps45
  go_wp2
  (try simp only [Act.put, List.setIfInBounds_toArray, List.set_cons_zero, List.set_cons_succ])
  go_loopg [5] k (fun kq v5 w' => ∃ (x5_1 : Int), v5 = .int .i64 x5_1 ∧ Aside0 (laws_eqAggS.l0 kq l0 l1 x5_1 = some r) ∧ Aside0 (kq ≤ k) ∧ Aside0 (Below w.heap.size w w'))
  case atStart => exact ⟨(0), (by first | rfl | (simp; done) | (simp [*]; done)), H', ⟨Nat.le_refl _⟩, ⟨ue_ HB.out⟩⟩
  case round =>
   clear H'
   try clear c1
   try clear p2
   try clear c3
   try clear c3b0
   try clear c3b1
   try clear c3b2
   obtain ⟨x5_1, rfl, HA, HK1, HB⟩ := hrel
   cases gk with
   | zero => exact absurd HA.out (by simp [laws_eqAggS.l0])
   | succ k1 =>
    have H := HA.out
    clear HA
    simp only [laws_eqAggS.l0] at H
    by_cases c4 : x5_1 < (l0.length : Int)
    ·
     rw [if_pos c4] at H
     have c4b0 : decide (x5_1 < (l0.length : Int)) = true := decide_eq_true c4
     clear c4
     by_cases c5 : 0 ≤ x5_1
     ·
      rw [if_pos c5] at H
      have c5b0 : decide (0 ≤ x5_1) = true := decide_eq_true c5
      clear c5
      by_cases c6 : x5_1 < (l1.length : Int)
      ·
       rw [if_pos c6] at H
       have c6b0 : decide (x5_1 < (l1.length : Int)) = true := decide_eq_true c6
       clear c6
       replace H := Option.bind_eq_some_iff.mp H
       obtain ⟨t335, A70, H⟩ := H
       replace H : (if t335 = true then (laws_eqAggS.l0 k1 l0 l1 (wrap64 (x5_1 + 1))) else (some false)) = some r := H
       have A7 := Aside0.mk A70
       clear A70
       by_cases c8 : t335 = true
       ·
        subst c8
        have H1 : (laws_eqAggS.l0 k1 l0 l1 (wrap64 (x5_1 + 1))) = some r := by rw [if_pos rfl] at H; exact H
        clear H
        have H := H1
        clear H1
        have H' := Aside0.mk H
        clear H
        try go_wp2
        replace HB := am_ (below_drew1 HB.out)
        have p333 : 0 ≤ (x5_1 : Int) := of_decide_eq_true ua_
        have q333 : x5_1 < (l0.length : Int) := of_decide_eq_true ua_
        obtain ⟨ad333, e333, hx333_0, hx333_1, hx333_2, hx333_3, hx333_4, hx333_5⟩ := at_T62 HR0.out x5_1 p333 q333
        have hw333_5 := hx333_5
        have hw333_4 := hx333_4
        have hw333_3 := hx333_3
        have hw333_2 := hx333_2
        have hw333_1 := hx333_1
        have hw333_0 := hx333_0
        cases e333
        replace hx333_0 := bc_ HB.out hx333_0
        replace hx333_1 := bc_ HB.out hx333_1
        replace hx333_2 := bc_ HB.out hx333_2
        replace hx333_3 := bc_ HB.out hx333_3
        replace hx333_4 := bc_ HB.out hx333_4
        replace hx333_5 := bc_ HB.out hx333_5
        replace p333 := eq_true p333
        replace q333 := eq_true q333
        have p334 : 0 ≤ (x5_1 : Int) := of_decide_eq_true ua_
        have q334 : x5_1 < (l1.length : Int) := of_decide_eq_true ua_
        obtain ⟨ad334, e334, hx334_0, hx334_1, hx334_2, hx334_3, hx334_4, hx334_5⟩ := at_T62 HR1.out x5_1 p334 q334
        have hw334_5 := hx334_5
        have hw334_4 := hx334_4
        have hw334_3 := hx334_3
        have hw334_2 := hx334_2
        have hw334_1 := hx334_1
        have hw334_0 := hx334_0
        cases e334
        replace hx334_0 := bc_ HB.out hx334_0
        replace hx334_1 := bc_ HB.out hx334_1
        replace hx334_2 := bc_ HB.out hx334_2
        replace hx334_3 := bc_ HB.out hx334_3
        replace hx334_4 := bc_ HB.out hx334_4
        replace hx334_5 := bc_ HB.out hx334_5
        replace p334 := eq_true p334
        replace q334 := eq_true q334
        refine start_ (n := 10) (S := fun w' => w'.cell? (ad333.add ((x5_1).toNat * 6)) = some (.int .i64 ((rd_T62 l0 x5_1).f0)) ∧ w'.cell? ⟨(ad333.add ((x5_1).toNat * 6)).block, (ad333.add ((x5_1).toNat * 6)).off + 1, none⟩ = some (.int .i64 ((rd_T62 l0 x5_1).f1)) ∧ w'.cell? ⟨(ad333.add ((x5_1).toNat * 6)).block, (ad333.add ((x5_1).toNat * 6)).off + 2, none⟩ = some (.int .i64 ((rd_T62 l0 x5_1).f2)) ∧ w'.cell? ⟨(ad333.add ((x5_1).toNat * 6)).block, (ad333.add ((x5_1).toNat * 6)).off + 3, none⟩ = some (.int .i64 ((rd_T62 l0 x5_1).f3)) ∧ w'.cell? ⟨(ad333.add ((x5_1).toNat * 6)).block, (ad333.add ((x5_1).toNat * 6)).off + 4, none⟩ = some (.int .i64 ((rd_T62 l0 x5_1).f4)) ∧ w'.cell? ⟨(ad333.add ((x5_1).toNat * 6)).block, (ad333.add ((x5_1).toNat * 6)).off + 5, none⟩ = some (.int .i64 ((rd_T62 l0 x5_1).f5)) ∧ w'.cell? (ad334.add ((x5_1).toNat * 6)) = some (.int .i64 ((rd_T62 l1 x5_1).f0)) ∧ w'.cell? ⟨(ad334.add ((x5_1).toNat * 6)).block, (ad334.add ((x5_1).toNat * 6)).off + 1, none⟩ = some (.int .i64 ((rd_T62 l1 x5_1).f1)) ∧ w'.cell? ⟨(ad334.add ((x5_1).toNat * 6)).block, (ad334.add ((x5_1).toNat * 6)).off + 2, none⟩ = some (.int .i64 ((rd_T62 l1 x5_1).f2)) ∧ w'.cell? ⟨(ad334.add ((x5_1).toNat * 6)).block, (ad334.add ((x5_1).toNat * 6)).off + 3, none⟩ = some (.int .i64 ((rd_T62 l1 x5_1).f3)) ∧ w'.cell? ⟨(ad334.add ((x5_1).toNat * 6)).block, (ad334.add ((x5_1).toNat * 6)).off + 4, none⟩ = some (.int .i64 ((rd_T62 l1 x5_1).f4)) ∧ w'.cell? ⟨(ad334.add ((x5_1).toNat * 6)).block, (ad334.add ((x5_1).toNat * 6)).off + 5, none⟩ = some (.int .i64 ((rd_T62 l1 x5_1).f5))) (ds := []) #[false, false, false, false, false, false, false, false, false, false] (by kernel_rfl) rfl rfl ⟨bc_ HB.out hw333_0, bc_ HB.out hw333_1, bc_ HB.out hw333_2, bc_ HB.out hw333_3, bc_ HB.out hw333_4, bc_ HB.out hw333_5, bc_ HB.out hw334_0, bc_ HB.out hw334_1, bc_ HB.out hw334_2, bc_ HB.out hw334_3, bc_ HB.out hw334_4, bc_ HB.out hw334_5⟩ (fun hHeld => ?_); refine with_tabW laws_eqAggS.tab6 laws_eqAggS.bits6 (fun HT_ HW_ => ?_)
        generalize wr.drew = w9 at HB hx333_0 hx333_1 hx333_2 hx333_3 hx333_4 hx333_5 hx334_0 hx334_1 hx334_2 hx334_3 hx334_4 hx334_5 hHeld ⊢
        refine pu_ (i := 0) (N := some 17) #[true, false, false, false, false, false, false, false, false, false] HT_ ?_
        refine pu_ (i := 1) (N := some 18) #[true, true, false, false, false, false, false, false, false, false] HT_ ?_
        refine pu_ (i := 2) (N := some 19) #[true, true, true, false, false, false, false, false, false, false] HT_ ?_
        refine pu_ (i := 4) (N := some 21) #[true, true, true, false, true, false, false, false, false, false] HT_ ?_
        refine pu_ (i := 5) (N := some 22) #[true, true, true, false, true, true, false, false, false, false] HT_ ?_
        refine pu_ (i := 6) (N := some 23) #[true, true, true, false, true, true, true, false, false, false] HT_ ?_
        refine tk_ (i := 3) (N := some 20) #[true, true, true, true, true, true, true, false, false, false] HT_ HW_ hHeld ?_
        refine tk_ (i := 7) (N := some 24) #[true, true, true, true, true, true, true, true, false, false] HT_ HW_ hHeld ?_
        refine one_ (i := 8) (N := some 25) #[true, true, true, true, true, true, true, true, true, false] rfl rfl (one_of HT_.out (by kernel_rfl)) (by decide) (fun K hK => ?_)
        refine goes_ Try.func73 (by kernel_rfl) rfl #[.agg #[.int .i64 ((rd_T62 l0 x5_1).f0), .int .i64 ((rd_T62 l0 x5_1).f1), .int .i64 ((rd_T62 l0 x5_1).f2), .int .i64 ((rd_T62 l0 x5_1).f3), .int .i64 ((rd_T62 l0 x5_1).f4), .int .i64 ((rd_T62 l0 x5_1).f5)], .agg #[.int .i64 ((rd_T62 l1 x5_1).f0), .int .i64 ((rd_T62 l1 x5_1).f1), .int .i64 ((rd_T62 l1 x5_1).f2), .int .i64 ((rd_T62 l1 x5_1).f3), .int .i64 ((rd_T62 l1 x5_1).f4), .int .i64 ((rd_T62 l1 x5_1).f5)]] (by rfl) rfl rfl ul_ ?_
        with_reducible refine (laws_eqAgg.calls ((rd_T62 l0 x5_1).f0) ((rd_T62 l0 x5_1).f1) ((rd_T62 l0 x5_1).f2) ((rd_T62 l0 x5_1).f3) ((rd_T62 l0 x5_1).f4) ((rd_T62 l0 x5_1).f5) ((rd_T62 l1 x5_1).f0) ((rd_T62 l1 x5_1).f1) ((rd_T62 l1 x5_1).f2) ((rd_T62 l1 x5_1).f3) ((rd_T62 l1 x5_1).f4) ((rd_T62 l1 x5_1).f5) true _ A7.out).mono ?_
        rintro e w10 ⟨rfl, hb⟩
        refine ⟨_, rfl, ?_⟩
        replace HB := hs_ HB hb
        (try clear hb)
        (try clear hb2)
        (try clear hk)
        (try clear hi)
        refine hK.out _ _ ⟨bc_ HB.out hw333_0, bc_ HB.out hw333_1, bc_ HB.out hw333_2, bc_ HB.out hw333_3, bc_ HB.out hw333_4, bc_ HB.out hw333_5, bc_ HB.out hw334_0, bc_ HB.out hw334_1, bc_ HB.out hw334_2, bc_ HB.out hw334_3, bc_ HB.out hw334_4, bc_ HB.out hw334_5⟩ (fun hHeld => ?_)
        clear hK K
        refine norm_ (a' := ?_) ?_ ?_
        rotate_left
        ·
         show Act.put _ (some 25) _ = _
         simp only [Act.put, List.setIfInBounds_toArray, List.set_cons_zero, List.set_cons_succ, i64_w, i32_w]
         rfl
        refine pu_ (i := 9) (N := some 26) #[true, true, true, true, true, true, true, true, true, true] HT_ ?_
        refine done_ (done_of HT_.out (by kernel_rfl)) ?_
        try go_wp2
        go_roundg k1
        case measure => have := HK1.out; omega
        case rel => exact ⟨(wrap64 (x5_1 + 1)), (by first | rfl | (simp; done) | (simp [*]; done)), H', ⟨by have := HK1.out; omega⟩, ⟨ue_ HB.out⟩⟩
       replace c8 := Bool.eq_false_iff.mpr c8
       subst c8
       have H1 : (some false) = some r := by rw [if_neg (show ¬ (false = true) by decide)] at H; exact H
       clear H
       have H := H1
       clear H1
       obtain rfl := Option.some.inj H
       try go_wp2
       replace HB := am_ (below_drew1 HB.out)
       have p333 : 0 ≤ (x5_1 : Int) := of_decide_eq_true ua_
       have q333 : x5_1 < (l0.length : Int) := of_decide_eq_true ua_
       obtain ⟨ad333, e333, hx333_0, hx333_1, hx333_2, hx333_3, hx333_4, hx333_5⟩ := at_T62 HR0.out x5_1 p333 q333
       have hw333_5 := hx333_5
       have hw333_4 := hx333_4
       have hw333_3 := hx333_3
       have hw333_2 := hx333_2
       have hw333_1 := hx333_1
       have hw333_0 := hx333_0
       cases e333
       replace hx333_0 := bc_ HB.out hx333_0
       replace hx333_1 := bc_ HB.out hx333_1
       replace hx333_2 := bc_ HB.out hx333_2
       replace hx333_3 := bc_ HB.out hx333_3
       replace hx333_4 := bc_ HB.out hx333_4
       replace hx333_5 := bc_ HB.out hx333_5
       replace p333 := eq_true p333
       replace q333 := eq_true q333
       have p334 : 0 ≤ (x5_1 : Int) := of_decide_eq_true ua_
       have q334 : x5_1 < (l1.length : Int) := of_decide_eq_true ua_
       obtain ⟨ad334, e334, hx334_0, hx334_1, hx334_2, hx334_3, hx334_4, hx334_5⟩ := at_T62 HR1.out x5_1 p334 q334
       have hw334_5 := hx334_5
       have hw334_4 := hx334_4
       have hw334_3 := hx334_3
       have hw334_2 := hx334_2
       have hw334_1 := hx334_1
       have hw334_0 := hx334_0
       cases e334
       replace hx334_0 := bc_ HB.out hx334_0
       replace hx334_1 := bc_ HB.out hx334_1
       replace hx334_2 := bc_ HB.out hx334_2
       replace hx334_3 := bc_ HB.out hx334_3
       replace hx334_4 := bc_ HB.out hx334_4
       replace hx334_5 := bc_ HB.out hx334_5
       replace p334 := eq_true p334
       replace q334 := eq_true q334
       refine start_ (n := 10) (S := fun w' => w'.cell? (ad333.add ((x5_1).toNat * 6)) = some (.int .i64 ((rd_T62 l0 x5_1).f0)) ∧ w'.cell? ⟨(ad333.add ((x5_1).toNat * 6)).block, (ad333.add ((x5_1).toNat * 6)).off + 1, none⟩ = some (.int .i64 ((rd_T62 l0 x5_1).f1)) ∧ w'.cell? ⟨(ad333.add ((x5_1).toNat * 6)).block, (ad333.add ((x5_1).toNat * 6)).off + 2, none⟩ = some (.int .i64 ((rd_T62 l0 x5_1).f2)) ∧ w'.cell? ⟨(ad333.add ((x5_1).toNat * 6)).block, (ad333.add ((x5_1).toNat * 6)).off + 3, none⟩ = some (.int .i64 ((rd_T62 l0 x5_1).f3)) ∧ w'.cell? ⟨(ad333.add ((x5_1).toNat * 6)).block, (ad333.add ((x5_1).toNat * 6)).off + 4, none⟩ = some (.int .i64 ((rd_T62 l0 x5_1).f4)) ∧ w'.cell? ⟨(ad333.add ((x5_1).toNat * 6)).block, (ad333.add ((x5_1).toNat * 6)).off + 5, none⟩ = some (.int .i64 ((rd_T62 l0 x5_1).f5)) ∧ w'.cell? (ad334.add ((x5_1).toNat * 6)) = some (.int .i64 ((rd_T62 l1 x5_1).f0)) ∧ w'.cell? ⟨(ad334.add ((x5_1).toNat * 6)).block, (ad334.add ((x5_1).toNat * 6)).off + 1, none⟩ = some (.int .i64 ((rd_T62 l1 x5_1).f1)) ∧ w'.cell? ⟨(ad334.add ((x5_1).toNat * 6)).block, (ad334.add ((x5_1).toNat * 6)).off + 2, none⟩ = some (.int .i64 ((rd_T62 l1 x5_1).f2)) ∧ w'.cell? ⟨(ad334.add ((x5_1).toNat * 6)).block, (ad334.add ((x5_1).toNat * 6)).off + 3, none⟩ = some (.int .i64 ((rd_T62 l1 x5_1).f3)) ∧ w'.cell? ⟨(ad334.add ((x5_1).toNat * 6)).block, (ad334.add ((x5_1).toNat * 6)).off + 4, none⟩ = some (.int .i64 ((rd_T62 l1 x5_1).f4)) ∧ w'.cell? ⟨(ad334.add ((x5_1).toNat * 6)).block, (ad334.add ((x5_1).toNat * 6)).off + 5, none⟩ = some (.int .i64 ((rd_T62 l1 x5_1).f5))) (ds := []) #[false, false, false, false, false, false, false, false, false, false] (by kernel_rfl) rfl rfl ⟨bc_ HB.out hw333_0, bc_ HB.out hw333_1, bc_ HB.out hw333_2, bc_ HB.out hw333_3, bc_ HB.out hw333_4, bc_ HB.out hw333_5, bc_ HB.out hw334_0, bc_ HB.out hw334_1, bc_ HB.out hw334_2, bc_ HB.out hw334_3, bc_ HB.out hw334_4, bc_ HB.out hw334_5⟩ (fun hHeld => ?_); refine with_tabW laws_eqAggS.tab6 laws_eqAggS.bits6 (fun HT_ HW_ => ?_)
       generalize wr.drew = w11 at HB hx333_0 hx333_1 hx333_2 hx333_3 hx333_4 hx333_5 hx334_0 hx334_1 hx334_2 hx334_3 hx334_4 hx334_5 hHeld ⊢
       refine pu_ (i := 0) (N := some 17) #[true, false, false, false, false, false, false, false, false, false] HT_ ?_
       refine pu_ (i := 1) (N := some 18) #[true, true, false, false, false, false, false, false, false, false] HT_ ?_
       refine pu_ (i := 2) (N := some 19) #[true, true, true, false, false, false, false, false, false, false] HT_ ?_
       refine pu_ (i := 4) (N := some 21) #[true, true, true, false, true, false, false, false, false, false] HT_ ?_
       refine pu_ (i := 5) (N := some 22) #[true, true, true, false, true, true, false, false, false, false] HT_ ?_
       refine pu_ (i := 6) (N := some 23) #[true, true, true, false, true, true, true, false, false, false] HT_ ?_
       refine tk_ (i := 3) (N := some 20) #[true, true, true, true, true, true, true, false, false, false] HT_ HW_ hHeld ?_
       refine tk_ (i := 7) (N := some 24) #[true, true, true, true, true, true, true, true, false, false] HT_ HW_ hHeld ?_
       refine one_ (i := 8) (N := some 25) #[true, true, true, true, true, true, true, true, true, false] rfl rfl (one_of HT_.out (by kernel_rfl)) (by decide) (fun K hK => ?_)
       refine goes_ Try.func73 (by kernel_rfl) rfl #[.agg #[.int .i64 ((rd_T62 l0 x5_1).f0), .int .i64 ((rd_T62 l0 x5_1).f1), .int .i64 ((rd_T62 l0 x5_1).f2), .int .i64 ((rd_T62 l0 x5_1).f3), .int .i64 ((rd_T62 l0 x5_1).f4), .int .i64 ((rd_T62 l0 x5_1).f5)], .agg #[.int .i64 ((rd_T62 l1 x5_1).f0), .int .i64 ((rd_T62 l1 x5_1).f1), .int .i64 ((rd_T62 l1 x5_1).f2), .int .i64 ((rd_T62 l1 x5_1).f3), .int .i64 ((rd_T62 l1 x5_1).f4), .int .i64 ((rd_T62 l1 x5_1).f5)]] (by rfl) rfl rfl ul_ ?_
       with_reducible refine (laws_eqAgg.calls ((rd_T62 l0 x5_1).f0) ((rd_T62 l0 x5_1).f1) ((rd_T62 l0 x5_1).f2) ((rd_T62 l0 x5_1).f3) ((rd_T62 l0 x5_1).f4) ((rd_T62 l0 x5_1).f5) ((rd_T62 l1 x5_1).f0) ((rd_T62 l1 x5_1).f1) ((rd_T62 l1 x5_1).f2) ((rd_T62 l1 x5_1).f3) ((rd_T62 l1 x5_1).f4) ((rd_T62 l1 x5_1).f5) false _ A7.out).mono ?_
       rintro e w12 ⟨rfl, hb⟩
       refine ⟨_, rfl, ?_⟩
       replace HB := hs_ HB hb
       (try clear hb)
       (try clear hb2)
       (try clear hk)
       (try clear hi)
       refine hK.out _ _ ⟨bc_ HB.out hw333_0, bc_ HB.out hw333_1, bc_ HB.out hw333_2, bc_ HB.out hw333_3, bc_ HB.out hw333_4, bc_ HB.out hw333_5, bc_ HB.out hw334_0, bc_ HB.out hw334_1, bc_ HB.out hw334_2, bc_ HB.out hw334_3, bc_ HB.out hw334_4, bc_ HB.out hw334_5⟩ (fun hHeld => ?_)
       clear hK K
       refine norm_ (a' := ?_) ?_ ?_
       rotate_left
       ·
        show Act.put _ (some 25) _ = _
        simp only [Act.put, List.setIfInBounds_toArray, List.set_cons_zero, List.set_cons_succ, i64_w, i32_w]
        rfl
       refine pu_ (i := 9) (N := some 26) #[true, true, true, true, true, true, true, true, true, true] HT_ ?_
       refine done_ (done_of HT_.out (by kernel_rfl)) ?_
       try go_wp2
       go_ret
       exact ⟨ew_, ue_ HB.out⟩
      rw [if_neg c6] at H
      exact absurd H (by simp)
     rw [if_neg c5] at H
     exact absurd H (by simp)
    rw [if_neg c4] at H
    have c4b0 : decide (x5_1 < (l0.length : Int)) = false := decide_eq_false c4
    clear c4
    obtain rfl := Option.some.inj H
    go_wp2
    go_ret
    exact ⟨ew_, ue_ HB.out⟩
 rw [if_neg c3] at H
 have c3b0 : ((l0.length : Int) == (l1.length : Int)) = false := beq_eq_false_iff_ne.mpr c3
 have c3b1 : ((l0.length : Int) != (l1.length : Int)) = true := bne_iff_ne.mpr c3
 have c3b2 : (l0.length == l1.length) = false := by first | simpa using c3 | (simp at c3 ⊢; omega)
 obtain rfl := Option.some.inj H
 go_enter Try.func45, Try.ntmps45
 go_wp2
 go_ret
 exact ⟨ew_, ue_ HB.out⟩

/-! ### laws_eqShard: function 10 -/
def laws_eqShard.f (k : Nat) (l0_0 : List (S62)) (a0_1 : Int) (a0_2 : Int) (a0_3 : Int) (l1_0 : List (S62)) (a1_1 : Int) (a1_2 : Int) (a1_3 : Int) : Option (Bool) := (laws_eqAggS.f k l0_0 l1_0).bind fun t338 => (if t338 = true then (if a0_1 = a1_1 then (if a0_2 = a1_2 then (if a0_3 = a1_3 then (some true) else (some false)) else (some false)) else (some false)) else (some false))
theorem laws_eqShard.mono : ∀ a0 a1 a2 a3 a4 a5 a6 a7 k, LeO (laws_eqShard.f k a0 a1 a2 a3 a4 a5 a6 a7) (laws_eqShard.f (k + 1) a0 a1 a2 a3 a4 a5 a6 a7) := by
 intro a0 a1 a2 a3 a4 a5 a6 a7 k
 unfold laws_eqShard.f
 repeat' first
   | (with_reducible exact laws_eqAggS.mono _ _ _)
   | (with_reducible exact LeO.refl _)
   | (with_reducible exact LeO.none _)
   | (with_reducible refine LeO.ite ?_ ?_)
   | (with_reducible refine LeO.bind ?_ (fun _ => ?_))
   | exact laws_eqAggS.mono _ _ _
   | exact LeO.none _
   | refine LeO.ite ?_ ?_
   | refine LeO.bind ?_ (fun _ => ?_)
set_option maxHeartbeats 8000000 in
set_option maxRecDepth 100000 in
theorem laws_eqShard.calls (k : Nat) (A0_0 : Option Addr) (c0_0 : Nat) (l0_0 : List (S62)) (a0_1 : Int) (a0_2 : Int) (a0_3 : Int) (A1_0 : Option Addr) (c1_0 : Nat) (l1_0 : List (S62)) (a1_1 : Int) (a1_2 : Int) (a1_3 : Int) (r : Bool) (w : World) (hr0_0 : Kd.C k62 w A0_0 l0_0.length l0_0) (hc0_0 : l0_0.length ≤ c0_0) (hr1_0 : Kd.C k62 w A1_0 l1_0.length l1_0) (hc1_0 : l1_0.length ≤ c1_0) (h : laws_eqShard.f k l0_0 a0_1 a0_2 a0_3 l1_0 a1_1 a1_2 a1_3 = some r) :
  Calls Try.prog 10 #[.agg #[.slice A0_0 l0_0.length c0_0, .int .i64 a0_1, .int .i64 a0_2, .int .i64 a0_3], .agg #[.slice A1_0 l1_0.length c1_0, .int .i64 a1_1, .int .i64 a1_2, .int .i64 a1_3]] w fun e w' => e = .returned (.bool r) ∧ Below w.heap.size w w' := by
 have hu30 := Try.underlying30
 have HR0_0 := Aside0.mk hr0_0
 have HC0_0 := Aside0.mk hc0_0
 clear hr0_0 hc0_0
 have HR1_0 := Aside0.mk hr1_0
 have HC1_0 := Aside0.mk hc1_0
 clear hr1_0 hc1_0
 have HB := am_ (Below.refl w.heap.size w)
 have H : ((laws_eqAggS.f k l0_0 l1_0).bind fun t338 => (if t338 = true then (if a0_1 = a1_1 then (if a0_2 = a1_2 then (if a0_3 = a1_3 then (some true) else (some false)) else (some false)) else (some false)) else (some false))) = some r := h
 clear h
 replace H := Option.bind_eq_some_iff.mp H
 obtain ⟨t338, A30, H⟩ := H
 replace H : (if t338 = true then (if a0_1 = a1_1 then (if a0_2 = a1_2 then (if a0_3 = a1_3 then (some true) else (some false)) else (some false)) else (some false)) else (some false)) = some r := H
 have A3 := Aside0.mk A30
 clear A30
 by_cases c4 : t338 = true
 ·
  subst c4
  have H1 : (if a0_1 = a1_1 then (if a0_2 = a1_2 then (if a0_3 = a1_3 then (some true) else (some false)) else (some false)) else (some false)) = some r := by rw [if_pos rfl] at H; exact H
  clear H
  have H := H1
  clear H1
  by_cases c5 : a0_1 = a1_1
  ·
   rw [if_pos c5] at H
   have c5b0 : (a0_1 == a1_1) = true := beq_iff_eq.mpr c5
   have c5b1 : (a0_1 != a1_1) = false := bne_eq_false_iff_eq.mpr c5
   clear c5
   by_cases c6 : a0_2 = a1_2
   ·
    rw [if_pos c6] at H
    have c6b0 : (a0_2 == a1_2) = true := beq_iff_eq.mpr c6
    have c6b1 : (a0_2 != a1_2) = false := bne_eq_false_iff_eq.mpr c6
    clear c6
    by_cases c7 : a0_3 = a1_3
    ·
     rw [if_pos c7] at H
     have c7b0 : (a0_3 == a1_3) = true := beq_iff_eq.mpr c7
     have c7b1 : (a0_3 != a1_3) = false := bne_eq_false_iff_eq.mpr c7
     clear c7
     obtain rfl := Option.some.inj H
     go_enter Try.func10, Try.ntmps10
     go_wp2_with (first | ((with_reducible refine gate_dst (N := 2) rfl ?_); refine bx_ (N := 2) (cs := #[.slice A0_0 l0_0.length c0_0, .int .i64 a0_1, .int .i64 a0_2, .int .i64 a0_3]) (t := 30) ?_; intro gb336 hg w8 hbox hb; have BK336 := am_ (hbox); have GW336 := gs_ hg HB.out; have GE336 := gs_ hg HB.out; replace HB := hs_ HB hb; clear hb hbox hg) | ((with_reducible refine gate_dst (N := 3) rfl ?_); refine bx_ (N := 3) (cs := #[.slice A1_0 l1_0.length c1_0, .int .i64 a1_1, .int .i64 a1_2, .int .i64 a1_3]) (t := 30) ?_; intro gb337 hg w9 hbox hb; have BK337 := am_ (hbox); have GW337 := gs_ hg HB.out; have GE337 := gs_ hg HB.out; replace HB := hs_ HB hb; have NB336_337 := nl_ hg BK336.out; have NB337_336 := ng_ hg BK336.out; replace BK336 := bs_ BK336 hb; clear hb hbox hg; have hnb10 := NB336_337.out; have hnc10 := NB337_336.out; obtain ⟨hcz11_0, hcz11_1, hcz11_2, hcz11_3⟩ := cb4_ BK336.out; obtain ⟨hfz11_0, hfz11_1, hfz11_2, hfz11_3⟩ := bf4_ BK336.out; obtain ⟨hcz12_0, hcz12_1, hcz12_2, hcz12_3⟩ := cb4_ BK337.out; obtain ⟨hfz12_0, hfz12_1, hfz12_2⟩ := bf3_ BK337.out; have hfz12_3 := blk_frozen BK337.out 3) | ((with_reducible refine gate_callee (f := 45) rfl ?_); refine goesL_ (some 9) rfl rfl Try.func45 (by kernel_rfl) rfl #[.slice A0_0 l0_0.length c0_0, .slice A1_0 l1_0.length c1_0] rfl ul_ ?_; (with_reducible refine (laws_eqAggS.calls k _ _ l0_0 _ _ l1_0 true _ ?side1 ?side2 ?side3 ?side4 A3.out).mono ?_); (case side1 => repeat (first | exact (Kd.C_below HR0_0.out HB.out) | (with_reducible refine Kd.C_alloc ?_ _) | (with_reducible refine Kd.C_drewN ?_ _) | (with_reducible refine Kd.C_drew ?_))); (case side2 => exact HC0_0.out); (case side3 => repeat (first | exact (Kd.C_below HR1_0.out HB.out) | (with_reducible refine Kd.C_alloc ?_ _) | (with_reducible refine Kd.C_drewN ?_ _) | (with_reducible refine Kd.C_drew ?_))); (case side4 => exact HC1_0.out); rintro e w13 ⟨rfl, hb⟩; refine ⟨_, rfl, ?_⟩; replace BK336 := bs_ BK336 hb; replace BK337 := bs_ BK337 hb; replace HB := hs_ HB hb; (try clear hb); (try clear hb2); (try clear hk); (try clear hi); obtain ⟨hcz14_0, hcz14_1, hcz14_2, hcz14_3⟩ := cb4_ BK336.out; obtain ⟨hfz14_0, hfz14_1, hfz14_2, hfz14_3⟩ := bf4_ BK336.out; obtain ⟨hcz15_0, hcz15_1, hcz15_2, hcz15_3⟩ := cb4_ BK337.out; obtain ⟨hfz15_0, hfz15_1, hfz15_2⟩ := bf3_ BK337.out; have hfz15_3 := blk_frozen BK337.out 3))
     go_ret
     exact ⟨ew_, ue_ HB.out⟩
    rw [if_neg c7] at H
    have c7b0 : (a0_3 == a1_3) = false := beq_eq_false_iff_ne.mpr c7
    have c7b1 : (a0_3 != a1_3) = true := bne_iff_ne.mpr c7
    obtain rfl := Option.some.inj H
    go_enter Try.func10, Try.ntmps10
    go_wp2_with (first | ((with_reducible refine gate_dst (N := 2) rfl ?_); refine bx_ (N := 2) (cs := #[.slice A0_0 l0_0.length c0_0, .int .i64 a0_1, .int .i64 a0_2, .int .i64 a0_3]) (t := 30) ?_; intro gb336 hg w16 hbox hb; have BK336 := am_ (hbox); have GW336 := gs_ hg HB.out; have GE336 := gs_ hg HB.out; replace HB := hs_ HB hb; clear hb hbox hg) | ((with_reducible refine gate_dst (N := 3) rfl ?_); refine bx_ (N := 3) (cs := #[.slice A1_0 l1_0.length c1_0, .int .i64 a1_1, .int .i64 a1_2, .int .i64 a1_3]) (t := 30) ?_; intro gb337 hg w17 hbox hb; have BK337 := am_ (hbox); have GW337 := gs_ hg HB.out; have GE337 := gs_ hg HB.out; replace HB := hs_ HB hb; have NB336_337 := nl_ hg BK336.out; have NB337_336 := ng_ hg BK336.out; replace BK336 := bs_ BK336 hb; clear hb hbox hg; have hnb18 := NB336_337.out; have hnc18 := NB337_336.out; obtain ⟨hcz19_0, hcz19_1, hcz19_2, hcz19_3⟩ := cb4_ BK336.out; obtain ⟨hfz19_0, hfz19_1, hfz19_2, hfz19_3⟩ := bf4_ BK336.out; obtain ⟨hcz20_0, hcz20_1, hcz20_2, hcz20_3⟩ := cb4_ BK337.out; obtain ⟨hfz20_0, hfz20_1, hfz20_2⟩ := bf3_ BK337.out; have hfz20_3 := blk_frozen BK337.out 3) | ((with_reducible refine gate_callee (f := 45) rfl ?_); refine goesL_ (some 9) rfl rfl Try.func45 (by kernel_rfl) rfl #[.slice A0_0 l0_0.length c0_0, .slice A1_0 l1_0.length c1_0] rfl ul_ ?_; (with_reducible refine (laws_eqAggS.calls k _ _ l0_0 _ _ l1_0 true _ ?side1 ?side2 ?side3 ?side4 A3.out).mono ?_); (case side1 => repeat (first | exact (Kd.C_below HR0_0.out HB.out) | (with_reducible refine Kd.C_alloc ?_ _) | (with_reducible refine Kd.C_drewN ?_ _) | (with_reducible refine Kd.C_drew ?_))); (case side2 => exact HC0_0.out); (case side3 => repeat (first | exact (Kd.C_below HR1_0.out HB.out) | (with_reducible refine Kd.C_alloc ?_ _) | (with_reducible refine Kd.C_drewN ?_ _) | (with_reducible refine Kd.C_drew ?_))); (case side4 => exact HC1_0.out); rintro e w21 ⟨rfl, hb⟩; refine ⟨_, rfl, ?_⟩; replace BK336 := bs_ BK336 hb; replace BK337 := bs_ BK337 hb; replace HB := hs_ HB hb; (try clear hb); (try clear hb2); (try clear hk); (try clear hi); obtain ⟨hcz22_0, hcz22_1, hcz22_2, hcz22_3⟩ := cb4_ BK336.out; obtain ⟨hfz22_0, hfz22_1, hfz22_2, hfz22_3⟩ := bf4_ BK336.out; obtain ⟨hcz23_0, hcz23_1, hcz23_2, hcz23_3⟩ := cb4_ BK337.out; obtain ⟨hfz23_0, hfz23_1, hfz23_2⟩ := bf3_ BK337.out; have hfz23_3 := blk_frozen BK337.out 3))
    go_ret
    exact ⟨ew_, ue_ HB.out⟩
   rw [if_neg c6] at H
   have c6b0 : (a0_2 == a1_2) = false := beq_eq_false_iff_ne.mpr c6
   have c6b1 : (a0_2 != a1_2) = true := bne_iff_ne.mpr c6
   obtain rfl := Option.some.inj H
   go_enter Try.func10, Try.ntmps10
   go_wp2_with (first | ((with_reducible refine gate_dst (N := 2) rfl ?_); refine bx_ (N := 2) (cs := #[.slice A0_0 l0_0.length c0_0, .int .i64 a0_1, .int .i64 a0_2, .int .i64 a0_3]) (t := 30) ?_; intro gb336 hg w24 hbox hb; have BK336 := am_ (hbox); have GW336 := gs_ hg HB.out; have GE336 := gs_ hg HB.out; replace HB := hs_ HB hb; clear hb hbox hg) | ((with_reducible refine gate_dst (N := 3) rfl ?_); refine bx_ (N := 3) (cs := #[.slice A1_0 l1_0.length c1_0, .int .i64 a1_1, .int .i64 a1_2, .int .i64 a1_3]) (t := 30) ?_; intro gb337 hg w25 hbox hb; have BK337 := am_ (hbox); have GW337 := gs_ hg HB.out; have GE337 := gs_ hg HB.out; replace HB := hs_ HB hb; have NB336_337 := nl_ hg BK336.out; have NB337_336 := ng_ hg BK336.out; replace BK336 := bs_ BK336 hb; clear hb hbox hg; have hnb26 := NB336_337.out; have hnc26 := NB337_336.out; obtain ⟨hcz27_0, hcz27_1, hcz27_2, hcz27_3⟩ := cb4_ BK336.out; obtain ⟨hfz27_0, hfz27_1, hfz27_2, hfz27_3⟩ := bf4_ BK336.out; obtain ⟨hcz28_0, hcz28_1, hcz28_2, hcz28_3⟩ := cb4_ BK337.out; obtain ⟨hfz28_0, hfz28_1, hfz28_2⟩ := bf3_ BK337.out; have hfz28_3 := blk_frozen BK337.out 3) | ((with_reducible refine gate_callee (f := 45) rfl ?_); refine goesL_ (some 9) rfl rfl Try.func45 (by kernel_rfl) rfl #[.slice A0_0 l0_0.length c0_0, .slice A1_0 l1_0.length c1_0] rfl ul_ ?_; (with_reducible refine (laws_eqAggS.calls k _ _ l0_0 _ _ l1_0 true _ ?side1 ?side2 ?side3 ?side4 A3.out).mono ?_); (case side1 => repeat (first | exact (Kd.C_below HR0_0.out HB.out) | (with_reducible refine Kd.C_alloc ?_ _) | (with_reducible refine Kd.C_drewN ?_ _) | (with_reducible refine Kd.C_drew ?_))); (case side2 => exact HC0_0.out); (case side3 => repeat (first | exact (Kd.C_below HR1_0.out HB.out) | (with_reducible refine Kd.C_alloc ?_ _) | (with_reducible refine Kd.C_drewN ?_ _) | (with_reducible refine Kd.C_drew ?_))); (case side4 => exact HC1_0.out); rintro e w29 ⟨rfl, hb⟩; refine ⟨_, rfl, ?_⟩; replace BK336 := bs_ BK336 hb; replace BK337 := bs_ BK337 hb; replace HB := hs_ HB hb; (try clear hb); (try clear hb2); (try clear hk); (try clear hi); obtain ⟨hcz30_0, hcz30_1, hcz30_2, hcz30_3⟩ := cb4_ BK336.out; obtain ⟨hfz30_0, hfz30_1, hfz30_2, hfz30_3⟩ := bf4_ BK336.out; obtain ⟨hcz31_0, hcz31_1, hcz31_2, hcz31_3⟩ := cb4_ BK337.out; obtain ⟨hfz31_0, hfz31_1, hfz31_2⟩ := bf3_ BK337.out; have hfz31_3 := blk_frozen BK337.out 3))
   go_ret
   exact ⟨ew_, ue_ HB.out⟩
  rw [if_neg c5] at H
  have c5b0 : (a0_1 == a1_1) = false := beq_eq_false_iff_ne.mpr c5
  have c5b1 : (a0_1 != a1_1) = true := bne_iff_ne.mpr c5
  obtain rfl := Option.some.inj H
  go_enter Try.func10, Try.ntmps10
  go_wp2_with (first | ((with_reducible refine gate_dst (N := 2) rfl ?_); refine bx_ (N := 2) (cs := #[.slice A0_0 l0_0.length c0_0, .int .i64 a0_1, .int .i64 a0_2, .int .i64 a0_3]) (t := 30) ?_; intro gb336 hg w32 hbox hb; have BK336 := am_ (hbox); have GW336 := gs_ hg HB.out; have GE336 := gs_ hg HB.out; replace HB := hs_ HB hb; clear hb hbox hg) | ((with_reducible refine gate_dst (N := 3) rfl ?_); refine bx_ (N := 3) (cs := #[.slice A1_0 l1_0.length c1_0, .int .i64 a1_1, .int .i64 a1_2, .int .i64 a1_3]) (t := 30) ?_; intro gb337 hg w33 hbox hb; have BK337 := am_ (hbox); have GW337 := gs_ hg HB.out; have GE337 := gs_ hg HB.out; replace HB := hs_ HB hb; have NB336_337 := nl_ hg BK336.out; have NB337_336 := ng_ hg BK336.out; replace BK336 := bs_ BK336 hb; clear hb hbox hg; have hnb34 := NB336_337.out; have hnc34 := NB337_336.out; obtain ⟨hcz35_0, hcz35_1, hcz35_2, hcz35_3⟩ := cb4_ BK336.out; obtain ⟨hfz35_0, hfz35_1, hfz35_2, hfz35_3⟩ := bf4_ BK336.out; obtain ⟨hcz36_0, hcz36_1, hcz36_2, hcz36_3⟩ := cb4_ BK337.out; obtain ⟨hfz36_0, hfz36_1, hfz36_2⟩ := bf3_ BK337.out; have hfz36_3 := blk_frozen BK337.out 3) | ((with_reducible refine gate_callee (f := 45) rfl ?_); refine goesL_ (some 9) rfl rfl Try.func45 (by kernel_rfl) rfl #[.slice A0_0 l0_0.length c0_0, .slice A1_0 l1_0.length c1_0] rfl ul_ ?_; (with_reducible refine (laws_eqAggS.calls k _ _ l0_0 _ _ l1_0 true _ ?side1 ?side2 ?side3 ?side4 A3.out).mono ?_); (case side1 => repeat (first | exact (Kd.C_below HR0_0.out HB.out) | (with_reducible refine Kd.C_alloc ?_ _) | (with_reducible refine Kd.C_drewN ?_ _) | (with_reducible refine Kd.C_drew ?_))); (case side2 => exact HC0_0.out); (case side3 => repeat (first | exact (Kd.C_below HR1_0.out HB.out) | (with_reducible refine Kd.C_alloc ?_ _) | (with_reducible refine Kd.C_drewN ?_ _) | (with_reducible refine Kd.C_drew ?_))); (case side4 => exact HC1_0.out); rintro e w37 ⟨rfl, hb⟩; refine ⟨_, rfl, ?_⟩; replace BK336 := bs_ BK336 hb; replace BK337 := bs_ BK337 hb; replace HB := hs_ HB hb; (try clear hb); (try clear hb2); (try clear hk); (try clear hi); obtain ⟨hcz38_0, hcz38_1, hcz38_2, hcz38_3⟩ := cb4_ BK336.out; obtain ⟨hfz38_0, hfz38_1, hfz38_2, hfz38_3⟩ := bf4_ BK336.out; obtain ⟨hcz39_0, hcz39_1, hcz39_2, hcz39_3⟩ := cb4_ BK337.out; obtain ⟨hfz39_0, hfz39_1, hfz39_2⟩ := bf3_ BK337.out; have hfz39_3 := blk_frozen BK337.out 3))
  go_ret
  exact ⟨ew_, ue_ HB.out⟩
 replace c4 := Bool.eq_false_iff.mpr c4
 subst c4
 have H1 : (some false) = some r := by rw [if_neg (show ¬ (false = true) by decide)] at H; exact H
 clear H
 have H := H1
 clear H1
 obtain rfl := Option.some.inj H
 go_enter Try.func10, Try.ntmps10
 go_wp2_with (first | ((with_reducible refine gate_dst (N := 2) rfl ?_); refine bx_ (N := 2) (cs := #[.slice A0_0 l0_0.length c0_0, .int .i64 a0_1, .int .i64 a0_2, .int .i64 a0_3]) (t := 30) ?_; intro gb336 hg w40 hbox hb; have BK336 := am_ (hbox); have GW336 := gs_ hg HB.out; have GE336 := gs_ hg HB.out; replace HB := hs_ HB hb; clear hb hbox hg) | ((with_reducible refine gate_dst (N := 3) rfl ?_); refine bx_ (N := 3) (cs := #[.slice A1_0 l1_0.length c1_0, .int .i64 a1_1, .int .i64 a1_2, .int .i64 a1_3]) (t := 30) ?_; intro gb337 hg w41 hbox hb; have BK337 := am_ (hbox); have GW337 := gs_ hg HB.out; have GE337 := gs_ hg HB.out; replace HB := hs_ HB hb; have NB336_337 := nl_ hg BK336.out; have NB337_336 := ng_ hg BK336.out; replace BK336 := bs_ BK336 hb; clear hb hbox hg; have hnb42 := NB336_337.out; have hnc42 := NB337_336.out; obtain ⟨hcz43_0, hcz43_1, hcz43_2, hcz43_3⟩ := cb4_ BK336.out; obtain ⟨hfz43_0, hfz43_1, hfz43_2, hfz43_3⟩ := bf4_ BK336.out; obtain ⟨hcz44_0, hcz44_1, hcz44_2, hcz44_3⟩ := cb4_ BK337.out; obtain ⟨hfz44_0, hfz44_1, hfz44_2⟩ := bf3_ BK337.out; have hfz44_3 := blk_frozen BK337.out 3) | ((with_reducible refine gate_callee (f := 45) rfl ?_); refine goesL_ (some 9) rfl rfl Try.func45 (by kernel_rfl) rfl #[.slice A0_0 l0_0.length c0_0, .slice A1_0 l1_0.length c1_0] rfl ul_ ?_; (with_reducible refine (laws_eqAggS.calls k _ _ l0_0 _ _ l1_0 false _ ?side1 ?side2 ?side3 ?side4 A3.out).mono ?_); (case side1 => repeat (first | exact (Kd.C_below HR0_0.out HB.out) | (with_reducible refine Kd.C_alloc ?_ _) | (with_reducible refine Kd.C_drewN ?_ _) | (with_reducible refine Kd.C_drew ?_))); (case side2 => exact HC0_0.out); (case side3 => repeat (first | exact (Kd.C_below HR1_0.out HB.out) | (with_reducible refine Kd.C_alloc ?_ _) | (with_reducible refine Kd.C_drewN ?_ _) | (with_reducible refine Kd.C_drew ?_))); (case side4 => exact HC1_0.out); rintro e w45 ⟨rfl, hb⟩; refine ⟨_, rfl, ?_⟩; replace BK336 := bs_ BK336 hb; replace BK337 := bs_ BK337 hb; replace HB := hs_ HB hb; (try clear hb); (try clear hb2); (try clear hk); (try clear hi)))
 go_ret
 exact ⟨ew_, ue_ HB.out⟩

/-! ### laws_markAggS: function 46 -/
def laws_markAggS.l0 : Nat → List (S62) → Int → Int → Option (Int × (List (S62)))
 | 0, _, _, _ => none
 | k + 1, x0, x1, x5 => if x5 < (x0.length : Int) then (if 0 ≤ x5 then ((some (x0.set (x5 : Int).toNat (⟨x1, (rd_T62 x0 x5).f1, (rd_T62 x0 x5).f2, (rd_T62 x0 x5).f3, (rd_T62 x0 x5).f4, (rd_T62 x0 x5).f5⟩ : S62) : List (S62))).bind fun y339 => ((some (y339.set (x5 : Int).toNat (⟨(rd_T62 y339 x5).f0, wrap64 (x1 + 1), (rd_T62 y339 x5).f2, (rd_T62 y339 x5).f3, (rd_T62 y339 x5).f4, (rd_T62 y339 x5).f5⟩ : S62) : List (S62))).bind fun y340 => ((some (y340.set (x5 : Int).toNat (⟨(rd_T62 y340 x5).f0, (rd_T62 y340 x5).f1, wrap64 ((wrap64 (x1 + 1)) + 1), (rd_T62 y340 x5).f3, (rd_T62 y340 x5).f4, (rd_T62 y340 x5).f5⟩ : S62) : List (S62))).bind fun y341 => ((some (y341.set (x5 : Int).toNat (⟨(rd_T62 y341 x5).f0, (rd_T62 y341 x5).f1, (rd_T62 y341 x5).f2, wrap64 ((wrap64 ((wrap64 (x1 + 1)) + 1)) + 1), (rd_T62 y341 x5).f4, (rd_T62 y341 x5).f5⟩ : S62) : List (S62))).bind fun y342 => ((some (y342.set (x5 : Int).toNat (⟨(rd_T62 y342 x5).f0, (rd_T62 y342 x5).f1, (rd_T62 y342 x5).f2, (rd_T62 y342 x5).f3, wrap64 ((wrap64 ((wrap64 ((wrap64 (x1 + 1)) + 1)) + 1)) + 1), (rd_T62 y342 x5).f5⟩ : S62) : List (S62))).bind fun y343 => (laws_markAggS.l0 k (y343.set (x5 : Int).toNat (⟨(rd_T62 y343 x5).f0, (rd_T62 y343 x5).f1, (rd_T62 y343 x5).f2, (rd_T62 y343 x5).f3, (rd_T62 y343 x5).f4, wrap64 ((wrap64 ((wrap64 ((wrap64 ((wrap64 (x1 + 1)) + 1)) + 1)) + 1)) + 1)⟩ : S62)) (wrap64 ((wrap64 ((wrap64 ((wrap64 ((wrap64 ((wrap64 (x1 + 1)) + 1)) + 1)) + 1)) + 1)) + 1)) (wrap64 (x5 + 1)))))))) else (none)) else (some (x1, x0))
def laws_markAggS.f (k : Nat) (l0 : List (S62)) (a1 : Int) : Option (Int × (List (S62))) := laws_markAggS.l0 k l0 a1 0
theorem laws_markAggS.mono_l : ∀ k, (∀ y0 y1 y2, LeO (laws_markAggS.l0 k y0 y1 y2) (laws_markAggS.l0 (k + 1) y0 y1 y2))
 | 0 => fun _ _ _ r h => by simp [laws_markAggS.l0] at h
 | k + 1 => by
  have ih0 := laws_markAggS.mono_l k
  intro y0 y1 y2
  unfold laws_markAggS.l0
  repeat' first
  | (with_reducible exact ih0 _ _ _)
  | (with_reducible exact LeO.refl _)
  | (with_reducible exact LeO.none _)
  | (with_reducible refine LeO.ite ?_ ?_)
  | (with_reducible refine LeO.bind ?_ (fun _ => ?_))
  | exact ih0 _ _ _
  | exact LeO.none _
  | refine LeO.ite ?_ ?_
  | refine LeO.bind ?_ (fun _ => ?_)
theorem laws_markAggS.mono : ∀ a0 a1 k, LeO (laws_markAggS.f k a0 a1) (laws_markAggS.f (k + 1) a0 a1) := by
 intro a0 a1 k
 have ih0 := laws_markAggS.mono_l k
 unfold laws_markAggS.f
 repeat' first
   | (with_reducible exact ih0 _ _ _)
   | (with_reducible exact LeO.refl _)
   | (with_reducible exact LeO.none _)
   | (with_reducible refine LeO.ite ?_ ?_)
   | (with_reducible refine LeO.bind ?_ (fun _ => ?_))
   | exact ih0 _ _ _
   | exact LeO.none _
   | refine LeO.ite ?_ ?_
   | refine LeO.bind ?_ (fun _ => ?_)
set_option maxHeartbeats 8000000 in
set_option maxRecDepth 100000 in
theorem laws_markAggS.calls (k : Nat) (P0_ : Nat → Prop) (u9000_ : Value) (l0 : List (S62)) (a1 : Int) (r1 : Int) (r2 : List (S62)) (w0 w : World) (hB : Below w0.heap.size w0 w) (ho0 : Kd.R k62 62 w w0.heap.size P0_ u9000_ l0) (h : laws_markAggS.f k l0 a1 = some (r1, r2)) :
  Calls Try.prog 46 #[u9000_, .int .i64 a1] w fun e w' => e = .returned (.int .i64 r1) ∧ Kd.R k62 62 w' w0.heap.size (fun k_ => (P0_ k_ ∨ w.heap.size ≤ k_)) u9000_ r2 ∧ Below w0.heap.size w0 w' ∧ Kept w w' (fun k_ => P0_ k_) := by
 have HO0 := am_ (show Kd.R k62 62 w w0.heap.size (fun k_ => (P0_ k_ ∨ w.heap.size ≤ k_)) u9000_ l0 from Kd.R_mono ho0 (fun k_ hk => (.inl hk)))
 have HK := am_ (Kept.refl w (fun k_ => P0_ k_))
 have HW0 := Aside0.mk hB.size
 have HB := Aside0.mk hB
 clear hB
 have H : (laws_markAggS.l0 k l0 a1 0) = some (r1, r2) := h
 clear h
 have H' := Aside0.mk H
 clear H
 go_enter Try.func46, Try.ntmps46
 go_wp2
 (try simp only [Act.put, List.setIfInBounds_toArray, List.set_cons_zero, List.set_cons_succ])
 go_loopg [1, 5] k (fun kq v1 v5 w' => ∃ (x0_1 : List (S62)) (x1_1 : Int) (x5_1 : Int), v1 = .int .i64 x1_1 ∧ v5 = .int .i64 x5_1 ∧ Aside0 (laws_markAggS.l0 kq x0_1 x1_1 x5_1 = some (r1, r2)) ∧ Aside0 (kq ≤ k) ∧ Aside0 (Kd.R k62 62 w' w0.heap.size (fun k_ => (P0_ k_ ∨ w.heap.size ≤ k_)) u9000_ x0_1) ∧ Aside0 (Kept w w' (fun k_ => P0_ k_)) ∧ Aside0 (Below w0.heap.size w0 w'))
 case atStart => exact ⟨(l0), (a1), (0), (by first | rfl | (simp; done) | (simp [*]; done)), (by first | rfl | (simp; done) | (simp [*]; done)), H', ⟨Nat.le_refl _⟩, ⟨by (with_reducible repeat (first | apply Kd.R_alloc | apply Kd.R_drewN | apply Kd.R_drew)); exact HO0.out⟩, ⟨by repeat (first | (with_reducible first | exact HK.out | apply Kept.alloc | apply Kept.drewN | apply Kept.drew) | exact HK.out)⟩, ⟨ue_ HB.out⟩⟩
 case round =>
  clear H'
  try clear p2
  obtain ⟨x0_1, x1_1, x5_1, rfl, rfl, HA, HK1, HO_0, HK, HB⟩ := hrel
  cases gk with
  | zero => exact absurd HA.out (by simp [laws_markAggS.l0])
  | succ k1 =>
   have H := HA.out
   clear HA
   simp only [laws_markAggS.l0] at H
   by_cases c3 : x5_1 < (x0_1.length : Int)
   ·
    rw [if_pos c3] at H
    have c3b0 : decide (x5_1 < (x0_1.length : Int)) = true := decide_eq_true c3
    clear c3
    by_cases c4 : 0 ≤ x5_1
    ·
     rw [if_pos c4] at H
     have c4b0 : decide (0 ≤ x5_1) = true := decide_eq_true c4
     clear c4
     obtain ⟨y339, hy339⟩ : ∃ y_ : List (S62), y_ = (x0_1.set (x5_1 : Int).toNat (⟨x1_1, (rd_T62 x0_1 x5_1).f1, (rd_T62 x0_1 x5_1).f2, (rd_T62 x0_1 x5_1).f3, (rd_T62 x0_1 x5_1).f4, (rd_T62 x0_1 x5_1).f5⟩ : S62)) := ⟨_, rfl⟩
     replace H : ((some (y339.set (x5_1 : Int).toNat (⟨(rd_T62 y339 x5_1).f0, wrap64 (x1_1 + 1), (rd_T62 y339 x5_1).f2, (rd_T62 y339 x5_1).f3, (rd_T62 y339 x5_1).f4, (rd_T62 y339 x5_1).f5⟩ : S62) : List (S62))).bind fun y340 => ((some (y340.set (x5_1 : Int).toNat (⟨(rd_T62 y340 x5_1).f0, (rd_T62 y340 x5_1).f1, wrap64 ((wrap64 (x1_1 + 1)) + 1), (rd_T62 y340 x5_1).f3, (rd_T62 y340 x5_1).f4, (rd_T62 y340 x5_1).f5⟩ : S62) : List (S62))).bind fun y341 => ((some (y341.set (x5_1 : Int).toNat (⟨(rd_T62 y341 x5_1).f0, (rd_T62 y341 x5_1).f1, (rd_T62 y341 x5_1).f2, wrap64 ((wrap64 ((wrap64 (x1_1 + 1)) + 1)) + 1), (rd_T62 y341 x5_1).f4, (rd_T62 y341 x5_1).f5⟩ : S62) : List (S62))).bind fun y342 => ((some (y342.set (x5_1 : Int).toNat (⟨(rd_T62 y342 x5_1).f0, (rd_T62 y342 x5_1).f1, (rd_T62 y342 x5_1).f2, (rd_T62 y342 x5_1).f3, wrap64 ((wrap64 ((wrap64 ((wrap64 (x1_1 + 1)) + 1)) + 1)) + 1), (rd_T62 y342 x5_1).f5⟩ : S62) : List (S62))).bind fun y343 => (laws_markAggS.l0 k1 (y343.set (x5_1 : Int).toNat (⟨(rd_T62 y343 x5_1).f0, (rd_T62 y343 x5_1).f1, (rd_T62 y343 x5_1).f2, (rd_T62 y343 x5_1).f3, (rd_T62 y343 x5_1).f4, wrap64 ((wrap64 ((wrap64 ((wrap64 ((wrap64 (x1_1 + 1)) + 1)) + 1)) + 1)) + 1)⟩ : S62)) (wrap64 ((wrap64 ((wrap64 ((wrap64 ((wrap64 ((wrap64 (x1_1 + 1)) + 1)) + 1)) + 1)) + 1)) + 1)) (wrap64 (x5_1 + 1))))))) = some (r1, r2) := by first | (rw [hy339]; with_reducible exact H) | (have H2_ := (Option.bind_some _ _).symm.trans H; rw [hy339]; with_reducible exact H2_) | (have H2_ := (Option.bind_some _ _).symm.trans H; with_reducible exact H2_) | with_reducible exact H | (rw [hy339]; exact H) | exact H
     have Ny339 := Aside0.mk hy339
     clear hy339
     obtain ⟨y340, hy340⟩ : ∃ y_ : List (S62), y_ = (y339.set (x5_1 : Int).toNat (⟨(rd_T62 y339 x5_1).f0, wrap64 (x1_1 + 1), (rd_T62 y339 x5_1).f2, (rd_T62 y339 x5_1).f3, (rd_T62 y339 x5_1).f4, (rd_T62 y339 x5_1).f5⟩ : S62)) := ⟨_, rfl⟩
     replace H : ((some (y340.set (x5_1 : Int).toNat (⟨(rd_T62 y340 x5_1).f0, (rd_T62 y340 x5_1).f1, wrap64 ((wrap64 (x1_1 + 1)) + 1), (rd_T62 y340 x5_1).f3, (rd_T62 y340 x5_1).f4, (rd_T62 y340 x5_1).f5⟩ : S62) : List (S62))).bind fun y341 => ((some (y341.set (x5_1 : Int).toNat (⟨(rd_T62 y341 x5_1).f0, (rd_T62 y341 x5_1).f1, (rd_T62 y341 x5_1).f2, wrap64 ((wrap64 ((wrap64 (x1_1 + 1)) + 1)) + 1), (rd_T62 y341 x5_1).f4, (rd_T62 y341 x5_1).f5⟩ : S62) : List (S62))).bind fun y342 => ((some (y342.set (x5_1 : Int).toNat (⟨(rd_T62 y342 x5_1).f0, (rd_T62 y342 x5_1).f1, (rd_T62 y342 x5_1).f2, (rd_T62 y342 x5_1).f3, wrap64 ((wrap64 ((wrap64 ((wrap64 (x1_1 + 1)) + 1)) + 1)) + 1), (rd_T62 y342 x5_1).f5⟩ : S62) : List (S62))).bind fun y343 => (laws_markAggS.l0 k1 (y343.set (x5_1 : Int).toNat (⟨(rd_T62 y343 x5_1).f0, (rd_T62 y343 x5_1).f1, (rd_T62 y343 x5_1).f2, (rd_T62 y343 x5_1).f3, (rd_T62 y343 x5_1).f4, wrap64 ((wrap64 ((wrap64 ((wrap64 ((wrap64 (x1_1 + 1)) + 1)) + 1)) + 1)) + 1)⟩ : S62)) (wrap64 ((wrap64 ((wrap64 ((wrap64 ((wrap64 ((wrap64 (x1_1 + 1)) + 1)) + 1)) + 1)) + 1)) + 1)) (wrap64 (x5_1 + 1)))))) = some (r1, r2) := by first | (rw [hy340]; with_reducible exact H) | (have H2_ := (Option.bind_some _ _).symm.trans H; rw [hy340]; with_reducible exact H2_) | (have H2_ := (Option.bind_some _ _).symm.trans H; with_reducible exact H2_) | with_reducible exact H | (rw [hy340]; exact H) | exact H
     have Ny340 := Aside0.mk hy340
     clear hy340
     obtain ⟨y341, hy341⟩ : ∃ y_ : List (S62), y_ = (y340.set (x5_1 : Int).toNat (⟨(rd_T62 y340 x5_1).f0, (rd_T62 y340 x5_1).f1, wrap64 ((wrap64 (x1_1 + 1)) + 1), (rd_T62 y340 x5_1).f3, (rd_T62 y340 x5_1).f4, (rd_T62 y340 x5_1).f5⟩ : S62)) := ⟨_, rfl⟩
     replace H : ((some (y341.set (x5_1 : Int).toNat (⟨(rd_T62 y341 x5_1).f0, (rd_T62 y341 x5_1).f1, (rd_T62 y341 x5_1).f2, wrap64 ((wrap64 ((wrap64 (x1_1 + 1)) + 1)) + 1), (rd_T62 y341 x5_1).f4, (rd_T62 y341 x5_1).f5⟩ : S62) : List (S62))).bind fun y342 => ((some (y342.set (x5_1 : Int).toNat (⟨(rd_T62 y342 x5_1).f0, (rd_T62 y342 x5_1).f1, (rd_T62 y342 x5_1).f2, (rd_T62 y342 x5_1).f3, wrap64 ((wrap64 ((wrap64 ((wrap64 (x1_1 + 1)) + 1)) + 1)) + 1), (rd_T62 y342 x5_1).f5⟩ : S62) : List (S62))).bind fun y343 => (laws_markAggS.l0 k1 (y343.set (x5_1 : Int).toNat (⟨(rd_T62 y343 x5_1).f0, (rd_T62 y343 x5_1).f1, (rd_T62 y343 x5_1).f2, (rd_T62 y343 x5_1).f3, (rd_T62 y343 x5_1).f4, wrap64 ((wrap64 ((wrap64 ((wrap64 ((wrap64 (x1_1 + 1)) + 1)) + 1)) + 1)) + 1)⟩ : S62)) (wrap64 ((wrap64 ((wrap64 ((wrap64 ((wrap64 ((wrap64 (x1_1 + 1)) + 1)) + 1)) + 1)) + 1)) + 1)) (wrap64 (x5_1 + 1))))) = some (r1, r2) := by first | (rw [hy341]; with_reducible exact H) | (have H2_ := (Option.bind_some _ _).symm.trans H; rw [hy341]; with_reducible exact H2_) | (have H2_ := (Option.bind_some _ _).symm.trans H; with_reducible exact H2_) | with_reducible exact H | (rw [hy341]; exact H) | exact H
     have Ny341 := Aside0.mk hy341
     clear hy341
     obtain ⟨y342, hy342⟩ : ∃ y_ : List (S62), y_ = (y341.set (x5_1 : Int).toNat (⟨(rd_T62 y341 x5_1).f0, (rd_T62 y341 x5_1).f1, (rd_T62 y341 x5_1).f2, wrap64 ((wrap64 ((wrap64 (x1_1 + 1)) + 1)) + 1), (rd_T62 y341 x5_1).f4, (rd_T62 y341 x5_1).f5⟩ : S62)) := ⟨_, rfl⟩
     replace H : ((some (y342.set (x5_1 : Int).toNat (⟨(rd_T62 y342 x5_1).f0, (rd_T62 y342 x5_1).f1, (rd_T62 y342 x5_1).f2, (rd_T62 y342 x5_1).f3, wrap64 ((wrap64 ((wrap64 ((wrap64 (x1_1 + 1)) + 1)) + 1)) + 1), (rd_T62 y342 x5_1).f5⟩ : S62) : List (S62))).bind fun y343 => (laws_markAggS.l0 k1 (y343.set (x5_1 : Int).toNat (⟨(rd_T62 y343 x5_1).f0, (rd_T62 y343 x5_1).f1, (rd_T62 y343 x5_1).f2, (rd_T62 y343 x5_1).f3, (rd_T62 y343 x5_1).f4, wrap64 ((wrap64 ((wrap64 ((wrap64 ((wrap64 (x1_1 + 1)) + 1)) + 1)) + 1)) + 1)⟩ : S62)) (wrap64 ((wrap64 ((wrap64 ((wrap64 ((wrap64 ((wrap64 (x1_1 + 1)) + 1)) + 1)) + 1)) + 1)) + 1)) (wrap64 (x5_1 + 1)))) = some (r1, r2) := by first | (rw [hy342]; with_reducible exact H) | (have H2_ := (Option.bind_some _ _).symm.trans H; rw [hy342]; with_reducible exact H2_) | (have H2_ := (Option.bind_some _ _).symm.trans H; with_reducible exact H2_) | with_reducible exact H | (rw [hy342]; exact H) | exact H
     have Ny342 := Aside0.mk hy342
     clear hy342
     obtain ⟨y343, hy343⟩ : ∃ y_ : List (S62), y_ = (y342.set (x5_1 : Int).toNat (⟨(rd_T62 y342 x5_1).f0, (rd_T62 y342 x5_1).f1, (rd_T62 y342 x5_1).f2, (rd_T62 y342 x5_1).f3, wrap64 ((wrap64 ((wrap64 ((wrap64 (x1_1 + 1)) + 1)) + 1)) + 1), (rd_T62 y342 x5_1).f5⟩ : S62)) := ⟨_, rfl⟩
     replace H : (laws_markAggS.l0 k1 (y343.set (x5_1 : Int).toNat (⟨(rd_T62 y343 x5_1).f0, (rd_T62 y343 x5_1).f1, (rd_T62 y343 x5_1).f2, (rd_T62 y343 x5_1).f3, (rd_T62 y343 x5_1).f4, wrap64 ((wrap64 ((wrap64 ((wrap64 ((wrap64 (x1_1 + 1)) + 1)) + 1)) + 1)) + 1)⟩ : S62)) (wrap64 ((wrap64 ((wrap64 ((wrap64 ((wrap64 ((wrap64 (x1_1 + 1)) + 1)) + 1)) + 1)) + 1)) + 1)) (wrap64 (x5_1 + 1))) = some (r1, r2) := by first | (rw [hy343]; with_reducible exact H) | (have H2_ := (Option.bind_some _ _).symm.trans H; rw [hy343]; with_reducible exact H2_) | (have H2_ := (Option.bind_some _ _).symm.trans H; with_reducible exact H2_) | with_reducible exact H | (rw [hy343]; exact H) | exact H
     have Ny343 := Aside0.mk hy343
     clear hy343
     obtain ⟨y344, hy344⟩ : ∃ y_ : List (S62), y_ = (y343.set (x5_1 : Int).toNat (⟨(rd_T62 y343 x5_1).f0, (rd_T62 y343 x5_1).f1, (rd_T62 y343 x5_1).f2, (rd_T62 y343 x5_1).f3, (rd_T62 y343 x5_1).f4, wrap64 ((wrap64 ((wrap64 ((wrap64 ((wrap64 (x1_1 + 1)) + 1)) + 1)) + 1)) + 1)⟩ : S62)) := ⟨_, rfl⟩
     replace H : (laws_markAggS.l0 k1 y344 (wrap64 ((wrap64 ((wrap64 ((wrap64 ((wrap64 ((wrap64 (x1_1 + 1)) + 1)) + 1)) + 1)) + 1)) + 1)) (wrap64 (x5_1 + 1))) = some (r1, r2) := by first | (rw [hy344]; with_reducible exact H) | (have H2_ := (Option.bind_some _ _).symm.trans H; rw [hy344]; with_reducible exact H2_) | (have H2_ := (Option.bind_some _ _).symm.trans H; with_reducible exact H2_) | with_reducible exact H | (rw [hy344]; exact H) | exact H
     have Ny344 := Aside0.mk hy344
     clear hy344
     have H' := Aside0.mk H
     clear H
     obtain ⟨Ao11, co11, eo11⟩ := Kd.R_slice HO_0.out
     subst eo11
     have p5 : 0 ≤ (x5_1 : Int) := of_decide_eq_true ua_
     have q5 : (x5_1 : Int) < ((x0_1.length : Int) : Int) := of_decide_eq_true ua_
     obtain ⟨go5, co5, eo5, gb5, gl5, cl5, HG5⟩ := Kd.R_form HO_0.out (by omega)
     (first | cases eo5 | (injection eo5 with ea_ en_ ec_; (first | subst ea_ | (injection ea_ with ea_; subst ea_)); subst ec_; clear en_))
     have GB5 := Aside0.mk gb5
     have GG5 := Aside0.mk HG5
     clear gb5 gl5 HG5
     have HMgo5 := am_ (show (P0_ go5 ∨ w.heap.size ≤ go5) from (HO_0.out.1 _ rfl))
     obtain ⟨ce5, hcl5, hM5, hcc5, hfr5⟩ := Kd.R_elem HO_0.out z62 (x5_1 : Int) p5 q5
     obtain rfl := k62_openM hM5
     have hx5_0 : wr.cell? ⟨go5, (x5_1 : Int).toNat * 6, none⟩ = some (.int .i64 ((rd_T62 x0_1 x5_1).f0)) := hcc5 0 _ rfl
     have hx5_1 : wr.cell? ⟨go5, (x5_1 : Int).toNat * 6 + 1, none⟩ = some (.int .i64 ((rd_T62 x0_1 x5_1).f1)) := hcc5 1 _ rfl
     have hx5_2 : wr.cell? ⟨go5, (x5_1 : Int).toNat * 6 + 2, none⟩ = some (.int .i64 ((rd_T62 x0_1 x5_1).f2)) := hcc5 2 _ rfl
     have hx5_3 : wr.cell? ⟨go5, (x5_1 : Int).toNat * 6 + 3, none⟩ = some (.int .i64 ((rd_T62 x0_1 x5_1).f3)) := hcc5 3 _ rfl
     have hx5_4 : wr.cell? ⟨go5, (x5_1 : Int).toNat * 6 + 4, none⟩ = some (.int .i64 ((rd_T62 x0_1 x5_1).f4)) := hcc5 4 _ rfl
     have hx5_5 : wr.cell? ⟨go5, (x5_1 : Int).toNat * 6 + 5, none⟩ = some (.int .i64 ((rd_T62 x0_1 x5_1).f5)) := hcc5 5 _ rfl
     have hf5_0 : wr.frozen? ⟨go5, (x5_1 : Int).toNat * 6, none⟩ = false := hfr5 0
     have hf5_1 : wr.frozen? ⟨go5, (x5_1 : Int).toNat * 6 + 1, none⟩ = false := hfr5 1
     have hf5_2 : wr.frozen? ⟨go5, (x5_1 : Int).toNat * 6 + 2, none⟩ = false := hfr5 2
     have hf5_3 : wr.frozen? ⟨go5, (x5_1 : Int).toNat * 6 + 3, none⟩ = false := hfr5 3
     have hf5_4 : wr.frozen? ⟨go5, (x5_1 : Int).toNat * 6 + 4, none⟩ = false := hfr5 4
     have hf5_5 : wr.frozen? ⟨go5, (x5_1 : Int).toNat * 6 + 5, none⟩ = false := hfr5 5
     clear hcl5 hcc5 hfr5 hM5
     replace p5 := eq_true p5
     replace q5 := eq_true q5
     have HX12 := am_ (show Kd.R k62 62 wr w0.heap.size (fun k_ => (P0_ k_ ∨ w.heap.size ≤ k_)) (.slice (some ⟨go5, 0, none⟩) x0_1.length co11) x0_1 from (ur_ HO_0.out))
     obtain ⟨ce12, hcl12, hM12, hcc12, hfr12⟩ := Kd.R_elem HX12.out z62 (x5_1 : Int) (of_decide_eq_true ua_) (by have h_ : (x5_1 : Int) < ((x0_1.length : Int) : Int) := of_decide_eq_true ua_; first | exact h_ | (have e_ := (Kd.R_reads' HO_0.out).1; omega) | simpa using h_)
     obtain rfl := k62_openM hM12
     have HP12 := Kd.R_seg HX12.out (x5_1 : Int) (of_decide_eq_true ua_) (by have h_ : (x5_1 : Int) < ((x0_1.length : Int) : Int) := of_decide_eq_true ua_; first | exact h_ | (have e_ := (Kd.R_reads' HO_0.out).1; omega) | simpa using h_) (seg := [.int .i64 x1_1]) (j := 0) hcl12 hcc12 (show 1 ≤ 6 from by decide) (x' := (⟨x1_1, (rd_T62 x0_1 x5_1).f1, (rd_T62 x0_1 x5_1).f2, (rd_T62 x0_1 x5_1).f3, (rd_T62 x0_1 x5_1).f4, (rd_T62 x0_1 x5_1).f5⟩ : S62)) (k62_mkM _ _ _ (⟨x1_1, (rd_T62 x0_1 x5_1).f1, (rd_T62 x0_1 x5_1).f2, (rd_T62 x0_1 x5_1).f3, (rd_T62 x0_1 x5_1).f4, (rd_T62 x0_1 x5_1).f5⟩ : S62) ) (fun _ hk => hk)
     have hx12_0 := hcc12 0 _ rfl
     (try simp only [show (k62).sz = 6 from rfl, Nat.mul_one, Nat.add_zero] at hx12_0)
     have hf12_0 := hfr12 0
     (try simp only [show (k62).sz = 6 from rfl, Nat.mul_one, Nat.add_zero] at hf12_0)
     clear hcl12 hcc12 hfr12 hM12
     go_wp2_with (first | ((with_reducible refine gate_store (t := 3) (p := 16) rfl ?_); refine st_ (w1 := (wr.setCell ⟨go5, (x5_1 : Int).toNat * 6, none⟩ (.int .i64 x1_1))) ?_; intro w13 hw; have hg : wr.grownBy w13 (some go5) := (by rw [hw]; exact HP12.2); have hp_ : Kd.R k62 62 w13 w0.heap.size (fun k_ => (P0_ k_ ∨ w.heap.size ≤ k_)) (.slice (some ⟨go5, 0, none⟩) x0_1.length co11) y339 := (by rw [hw, Ny339.out]; exact HP12.1); clear HP12; replace HB := am_ ((by rw [hw]; exact below_set (HB.out) GB5.out : Below w0.heap.size w0 w13)); replace HK := am_ (Kept.of_grown (S := (fun k_ => P0_ k_)) hg (by repeat (first | (with_reducible first | exact HK.out | apply Kept.alloc | apply Kept.drewN | apply Kept.drew) | exact HK.out)) (fun k_ e_ => (HO_0.out.1 k_ e_))); replace HO_0 := am_ (hp_); clear hg hw hp_; have p6 : 0 ≤ (x5_1 : Int) := of_decide_eq_true ua_; have q6 : (x5_1 : Int) < ((x0_1.length : Int) : Int) := of_decide_eq_true ua_; obtain ⟨ce6, hcl6, hM6, hcc6, hfr6⟩ := Kd.R_elem HO_0.out z62 (x5_1 : Int) p6 q6; obtain rfl := k62_openM hM6; have hx6_0 : w13.cell? ⟨go5, (x5_1 : Int).toNat * 6, none⟩ = some (.int .i64 ((rd_T62 y339 x5_1).f0)) := hcc6 0 _ rfl; have hx6_1 : w13.cell? ⟨go5, (x5_1 : Int).toNat * 6 + 1, none⟩ = some (.int .i64 ((rd_T62 y339 x5_1).f1)) := hcc6 1 _ rfl; have hx6_2 : w13.cell? ⟨go5, (x5_1 : Int).toNat * 6 + 2, none⟩ = some (.int .i64 ((rd_T62 y339 x5_1).f2)) := hcc6 2 _ rfl; have hx6_3 : w13.cell? ⟨go5, (x5_1 : Int).toNat * 6 + 3, none⟩ = some (.int .i64 ((rd_T62 y339 x5_1).f3)) := hcc6 3 _ rfl; have hx6_4 : w13.cell? ⟨go5, (x5_1 : Int).toNat * 6 + 4, none⟩ = some (.int .i64 ((rd_T62 y339 x5_1).f4)) := hcc6 4 _ rfl; have hx6_5 : w13.cell? ⟨go5, (x5_1 : Int).toNat * 6 + 5, none⟩ = some (.int .i64 ((rd_T62 y339 x5_1).f5)) := hcc6 5 _ rfl; have hf6_0 : w13.frozen? ⟨go5, (x5_1 : Int).toNat * 6, none⟩ = false := hfr6 0; have hf6_1 : w13.frozen? ⟨go5, (x5_1 : Int).toNat * 6 + 1, none⟩ = false := hfr6 1; have hf6_2 : w13.frozen? ⟨go5, (x5_1 : Int).toNat * 6 + 2, none⟩ = false := hfr6 2; have hf6_3 : w13.frozen? ⟨go5, (x5_1 : Int).toNat * 6 + 3, none⟩ = false := hfr6 3; have hf6_4 : w13.frozen? ⟨go5, (x5_1 : Int).toNat * 6 + 4, none⟩ = false := hfr6 4; have hf6_5 : w13.frozen? ⟨go5, (x5_1 : Int).toNat * 6 + 5, none⟩ = false := hfr6 5; clear hcl6 hcc6 hfr6 hM6; replace p6 := eq_true p6; replace q6 := eq_true q6; have HX14 := am_ (show Kd.R k62 62 w13 w0.heap.size (fun k_ => (P0_ k_ ∨ w.heap.size ≤ k_)) (.slice (some ⟨go5, 0, none⟩) x0_1.length co11) y339 from (ur_ HO_0.out)); obtain ⟨ce14, hcl14, hM14, hcc14, hfr14⟩ := Kd.R_elem HX14.out z62 (x5_1 : Int) (of_decide_eq_true ua_) (by have h_ : (x5_1 : Int) < ((x0_1.length : Int) : Int) := of_decide_eq_true ua_; first | exact h_ | (have e_ := (Kd.R_reads' HO_0.out).1; omega) | simpa using h_); obtain rfl := k62_openM hM14; have HP14 := Kd.R_seg HX14.out (x5_1 : Int) (of_decide_eq_true ua_) (by have h_ : (x5_1 : Int) < ((x0_1.length : Int) : Int) := of_decide_eq_true ua_; first | exact h_ | (have e_ := (Kd.R_reads' HO_0.out).1; omega) | simpa using h_) (seg := [.int .i64 (wrap64 (x1_1 + 1))]) (j := 1) hcl14 hcc14 (show 2 ≤ 6 from by decide) (x' := (⟨(rd_T62 y339 x5_1).f0, wrap64 (x1_1 + 1), (rd_T62 y339 x5_1).f2, (rd_T62 y339 x5_1).f3, (rd_T62 y339 x5_1).f4, (rd_T62 y339 x5_1).f5⟩ : S62)) (k62_mkM _ _ _ (⟨(rd_T62 y339 x5_1).f0, wrap64 (x1_1 + 1), (rd_T62 y339 x5_1).f2, (rd_T62 y339 x5_1).f3, (rd_T62 y339 x5_1).f4, (rd_T62 y339 x5_1).f5⟩ : S62) ) (fun _ hk => hk); have hx14_1 := hcc14 1 _ rfl; (try simp only [show (k62).sz = 6 from rfl, Nat.mul_one, Nat.add_zero] at hx14_1); have hf14_1 := hfr14 1; (try simp only [show (k62).sz = 6 from rfl, Nat.mul_one, Nat.add_zero] at hf14_1); clear hcl14 hcc14 hfr14 hM14) | ((with_reducible refine gate_store (t := 3) (p := 23) rfl ?_); refine st_ (w1 := (w13.setCell ⟨go5, (x5_1 : Int).toNat * 6 + 1, none⟩ (.int .i64 (wrap64 (x1_1 + 1))))) ?_; intro w15 hw; have hg : w13.grownBy w15 (some go5) := (by rw [hw]; exact HP14.2); have hp_ : Kd.R k62 62 w15 w0.heap.size (fun k_ => (P0_ k_ ∨ w.heap.size ≤ k_)) (.slice (some ⟨go5, 0, none⟩) x0_1.length co11) y340 := (by rw [hw, Ny340.out]; exact HP14.1); clear HP14; replace HB := am_ ((by rw [hw]; exact below_set (HB.out) GB5.out : Below w0.heap.size w0 w15)); replace HK := am_ (Kept.of_grown (S := (fun k_ => P0_ k_)) hg (by repeat (first | (with_reducible first | exact HK.out | apply Kept.alloc | apply Kept.drewN | apply Kept.drew) | exact HK.out)) (fun k_ e_ => (HO_0.out.1 k_ e_))); replace HO_0 := am_ (hp_); clear hg hw hp_; have p7 : 0 ≤ (x5_1 : Int) := of_decide_eq_true ua_; have q7 : (x5_1 : Int) < ((x0_1.length : Int) : Int) := of_decide_eq_true ua_; obtain ⟨ce7, hcl7, hM7, hcc7, hfr7⟩ := Kd.R_elem HO_0.out z62 (x5_1 : Int) p7 q7; obtain rfl := k62_openM hM7; have hx7_0 : w15.cell? ⟨go5, (x5_1 : Int).toNat * 6, none⟩ = some (.int .i64 ((rd_T62 y340 x5_1).f0)) := hcc7 0 _ rfl; have hx7_1 : w15.cell? ⟨go5, (x5_1 : Int).toNat * 6 + 1, none⟩ = some (.int .i64 ((rd_T62 y340 x5_1).f1)) := hcc7 1 _ rfl; have hx7_2 : w15.cell? ⟨go5, (x5_1 : Int).toNat * 6 + 2, none⟩ = some (.int .i64 ((rd_T62 y340 x5_1).f2)) := hcc7 2 _ rfl; have hx7_3 : w15.cell? ⟨go5, (x5_1 : Int).toNat * 6 + 3, none⟩ = some (.int .i64 ((rd_T62 y340 x5_1).f3)) := hcc7 3 _ rfl; have hx7_4 : w15.cell? ⟨go5, (x5_1 : Int).toNat * 6 + 4, none⟩ = some (.int .i64 ((rd_T62 y340 x5_1).f4)) := hcc7 4 _ rfl; have hx7_5 : w15.cell? ⟨go5, (x5_1 : Int).toNat * 6 + 5, none⟩ = some (.int .i64 ((rd_T62 y340 x5_1).f5)) := hcc7 5 _ rfl; have hf7_0 : w15.frozen? ⟨go5, (x5_1 : Int).toNat * 6, none⟩ = false := hfr7 0; have hf7_1 : w15.frozen? ⟨go5, (x5_1 : Int).toNat * 6 + 1, none⟩ = false := hfr7 1; have hf7_2 : w15.frozen? ⟨go5, (x5_1 : Int).toNat * 6 + 2, none⟩ = false := hfr7 2; have hf7_3 : w15.frozen? ⟨go5, (x5_1 : Int).toNat * 6 + 3, none⟩ = false := hfr7 3; have hf7_4 : w15.frozen? ⟨go5, (x5_1 : Int).toNat * 6 + 4, none⟩ = false := hfr7 4; have hf7_5 : w15.frozen? ⟨go5, (x5_1 : Int).toNat * 6 + 5, none⟩ = false := hfr7 5; clear hcl7 hcc7 hfr7 hM7; replace p7 := eq_true p7; replace q7 := eq_true q7; have HX16 := am_ (show Kd.R k62 62 w15 w0.heap.size (fun k_ => (P0_ k_ ∨ w.heap.size ≤ k_)) (.slice (some ⟨go5, 0, none⟩) x0_1.length co11) y340 from (ur_ HO_0.out)); obtain ⟨ce16, hcl16, hM16, hcc16, hfr16⟩ := Kd.R_elem HX16.out z62 (x5_1 : Int) (of_decide_eq_true ua_) (by have h_ : (x5_1 : Int) < ((x0_1.length : Int) : Int) := of_decide_eq_true ua_; first | exact h_ | (have e_ := (Kd.R_reads' HO_0.out).1; omega) | simpa using h_); obtain rfl := k62_openM hM16; have HP16 := Kd.R_seg HX16.out (x5_1 : Int) (of_decide_eq_true ua_) (by have h_ : (x5_1 : Int) < ((x0_1.length : Int) : Int) := of_decide_eq_true ua_; first | exact h_ | (have e_ := (Kd.R_reads' HO_0.out).1; omega) | simpa using h_) (seg := [.int .i64 (wrap64 ((wrap64 (x1_1 + 1)) + 1))]) (j := 2) hcl16 hcc16 (show 3 ≤ 6 from by decide) (x' := (⟨(rd_T62 y340 x5_1).f0, (rd_T62 y340 x5_1).f1, wrap64 ((wrap64 (x1_1 + 1)) + 1), (rd_T62 y340 x5_1).f3, (rd_T62 y340 x5_1).f4, (rd_T62 y340 x5_1).f5⟩ : S62)) (k62_mkM _ _ _ (⟨(rd_T62 y340 x5_1).f0, (rd_T62 y340 x5_1).f1, wrap64 ((wrap64 (x1_1 + 1)) + 1), (rd_T62 y340 x5_1).f3, (rd_T62 y340 x5_1).f4, (rd_T62 y340 x5_1).f5⟩ : S62) ) (fun _ hk => hk); have hx16_2 := hcc16 2 _ rfl; (try simp only [show (k62).sz = 6 from rfl, Nat.mul_one, Nat.add_zero] at hx16_2); have hf16_2 := hfr16 2; (try simp only [show (k62).sz = 6 from rfl, Nat.mul_one, Nat.add_zero] at hf16_2); clear hcl16 hcc16 hfr16 hM16) | ((with_reducible refine gate_store (t := 3) (p := 30) rfl ?_); refine st_ (w1 := (w15.setCell ⟨go5, (x5_1 : Int).toNat * 6 + 2, none⟩ (.int .i64 (wrap64 ((wrap64 (x1_1 + 1)) + 1))))) ?_; intro w17 hw; have hg : w15.grownBy w17 (some go5) := (by rw [hw]; exact HP16.2); have hp_ : Kd.R k62 62 w17 w0.heap.size (fun k_ => (P0_ k_ ∨ w.heap.size ≤ k_)) (.slice (some ⟨go5, 0, none⟩) x0_1.length co11) y341 := (by rw [hw, Ny341.out]; exact HP16.1); clear HP16; replace HB := am_ ((by rw [hw]; exact below_set (HB.out) GB5.out : Below w0.heap.size w0 w17)); replace HK := am_ (Kept.of_grown (S := (fun k_ => P0_ k_)) hg (by repeat (first | (with_reducible first | exact HK.out | apply Kept.alloc | apply Kept.drewN | apply Kept.drew) | exact HK.out)) (fun k_ e_ => (HO_0.out.1 k_ e_))); replace HO_0 := am_ (hp_); clear hg hw hp_; have p8 : 0 ≤ (x5_1 : Int) := of_decide_eq_true ua_; have q8 : (x5_1 : Int) < ((x0_1.length : Int) : Int) := of_decide_eq_true ua_; obtain ⟨ce8, hcl8, hM8, hcc8, hfr8⟩ := Kd.R_elem HO_0.out z62 (x5_1 : Int) p8 q8; obtain rfl := k62_openM hM8; have hx8_0 : w17.cell? ⟨go5, (x5_1 : Int).toNat * 6, none⟩ = some (.int .i64 ((rd_T62 y341 x5_1).f0)) := hcc8 0 _ rfl; have hx8_1 : w17.cell? ⟨go5, (x5_1 : Int).toNat * 6 + 1, none⟩ = some (.int .i64 ((rd_T62 y341 x5_1).f1)) := hcc8 1 _ rfl; have hx8_2 : w17.cell? ⟨go5, (x5_1 : Int).toNat * 6 + 2, none⟩ = some (.int .i64 ((rd_T62 y341 x5_1).f2)) := hcc8 2 _ rfl; have hx8_3 : w17.cell? ⟨go5, (x5_1 : Int).toNat * 6 + 3, none⟩ = some (.int .i64 ((rd_T62 y341 x5_1).f3)) := hcc8 3 _ rfl; have hx8_4 : w17.cell? ⟨go5, (x5_1 : Int).toNat * 6 + 4, none⟩ = some (.int .i64 ((rd_T62 y341 x5_1).f4)) := hcc8 4 _ rfl; have hx8_5 : w17.cell? ⟨go5, (x5_1 : Int).toNat * 6 + 5, none⟩ = some (.int .i64 ((rd_T62 y341 x5_1).f5)) := hcc8 5 _ rfl; have hf8_0 : w17.frozen? ⟨go5, (x5_1 : Int).toNat * 6, none⟩ = false := hfr8 0; have hf8_1 : w17.frozen? ⟨go5, (x5_1 : Int).toNat * 6 + 1, none⟩ = false := hfr8 1; have hf8_2 : w17.frozen? ⟨go5, (x5_1 : Int).toNat * 6 + 2, none⟩ = false := hfr8 2; have hf8_3 : w17.frozen? ⟨go5, (x5_1 : Int).toNat * 6 + 3, none⟩ = false := hfr8 3; have hf8_4 : w17.frozen? ⟨go5, (x5_1 : Int).toNat * 6 + 4, none⟩ = false := hfr8 4; have hf8_5 : w17.frozen? ⟨go5, (x5_1 : Int).toNat * 6 + 5, none⟩ = false := hfr8 5; clear hcl8 hcc8 hfr8 hM8; replace p8 := eq_true p8; replace q8 := eq_true q8; have HX18 := am_ (show Kd.R k62 62 w17 w0.heap.size (fun k_ => (P0_ k_ ∨ w.heap.size ≤ k_)) (.slice (some ⟨go5, 0, none⟩) x0_1.length co11) y341 from (ur_ HO_0.out)); obtain ⟨ce18, hcl18, hM18, hcc18, hfr18⟩ := Kd.R_elem HX18.out z62 (x5_1 : Int) (of_decide_eq_true ua_) (by have h_ : (x5_1 : Int) < ((x0_1.length : Int) : Int) := of_decide_eq_true ua_; first | exact h_ | (have e_ := (Kd.R_reads' HO_0.out).1; omega) | simpa using h_); obtain rfl := k62_openM hM18; have HP18 := Kd.R_seg HX18.out (x5_1 : Int) (of_decide_eq_true ua_) (by have h_ : (x5_1 : Int) < ((x0_1.length : Int) : Int) := of_decide_eq_true ua_; first | exact h_ | (have e_ := (Kd.R_reads' HO_0.out).1; omega) | simpa using h_) (seg := [.int .i64 (wrap64 ((wrap64 ((wrap64 (x1_1 + 1)) + 1)) + 1))]) (j := 3) hcl18 hcc18 (show 4 ≤ 6 from by decide) (x' := (⟨(rd_T62 y341 x5_1).f0, (rd_T62 y341 x5_1).f1, (rd_T62 y341 x5_1).f2, wrap64 ((wrap64 ((wrap64 (x1_1 + 1)) + 1)) + 1), (rd_T62 y341 x5_1).f4, (rd_T62 y341 x5_1).f5⟩ : S62)) (k62_mkM _ _ _ (⟨(rd_T62 y341 x5_1).f0, (rd_T62 y341 x5_1).f1, (rd_T62 y341 x5_1).f2, wrap64 ((wrap64 ((wrap64 (x1_1 + 1)) + 1)) + 1), (rd_T62 y341 x5_1).f4, (rd_T62 y341 x5_1).f5⟩ : S62) ) (fun _ hk => hk); have hx18_3 := hcc18 3 _ rfl; (try simp only [show (k62).sz = 6 from rfl, Nat.mul_one, Nat.add_zero] at hx18_3); have hf18_3 := hfr18 3; (try simp only [show (k62).sz = 6 from rfl, Nat.mul_one, Nat.add_zero] at hf18_3); clear hcl18 hcc18 hfr18 hM18) | ((with_reducible refine gate_store (t := 3) (p := 37) rfl ?_); refine st_ (w1 := (w17.setCell ⟨go5, (x5_1 : Int).toNat * 6 + 3, none⟩ (.int .i64 (wrap64 ((wrap64 ((wrap64 (x1_1 + 1)) + 1)) + 1))))) ?_; intro w19 hw; have hg : w17.grownBy w19 (some go5) := (by rw [hw]; exact HP18.2); have hp_ : Kd.R k62 62 w19 w0.heap.size (fun k_ => (P0_ k_ ∨ w.heap.size ≤ k_)) (.slice (some ⟨go5, 0, none⟩) x0_1.length co11) y342 := (by rw [hw, Ny342.out]; exact HP18.1); clear HP18; replace HB := am_ ((by rw [hw]; exact below_set (HB.out) GB5.out : Below w0.heap.size w0 w19)); replace HK := am_ (Kept.of_grown (S := (fun k_ => P0_ k_)) hg (by repeat (first | (with_reducible first | exact HK.out | apply Kept.alloc | apply Kept.drewN | apply Kept.drew) | exact HK.out)) (fun k_ e_ => (HO_0.out.1 k_ e_))); replace HO_0 := am_ (hp_); clear hg hw hp_; have p9 : 0 ≤ (x5_1 : Int) := of_decide_eq_true ua_; have q9 : (x5_1 : Int) < ((x0_1.length : Int) : Int) := of_decide_eq_true ua_; obtain ⟨ce9, hcl9, hM9, hcc9, hfr9⟩ := Kd.R_elem HO_0.out z62 (x5_1 : Int) p9 q9; obtain rfl := k62_openM hM9; have hx9_0 : w19.cell? ⟨go5, (x5_1 : Int).toNat * 6, none⟩ = some (.int .i64 ((rd_T62 y342 x5_1).f0)) := hcc9 0 _ rfl; have hx9_1 : w19.cell? ⟨go5, (x5_1 : Int).toNat * 6 + 1, none⟩ = some (.int .i64 ((rd_T62 y342 x5_1).f1)) := hcc9 1 _ rfl; have hx9_2 : w19.cell? ⟨go5, (x5_1 : Int).toNat * 6 + 2, none⟩ = some (.int .i64 ((rd_T62 y342 x5_1).f2)) := hcc9 2 _ rfl; have hx9_3 : w19.cell? ⟨go5, (x5_1 : Int).toNat * 6 + 3, none⟩ = some (.int .i64 ((rd_T62 y342 x5_1).f3)) := hcc9 3 _ rfl; have hx9_4 : w19.cell? ⟨go5, (x5_1 : Int).toNat * 6 + 4, none⟩ = some (.int .i64 ((rd_T62 y342 x5_1).f4)) := hcc9 4 _ rfl; have hx9_5 : w19.cell? ⟨go5, (x5_1 : Int).toNat * 6 + 5, none⟩ = some (.int .i64 ((rd_T62 y342 x5_1).f5)) := hcc9 5 _ rfl; have hf9_0 : w19.frozen? ⟨go5, (x5_1 : Int).toNat * 6, none⟩ = false := hfr9 0; have hf9_1 : w19.frozen? ⟨go5, (x5_1 : Int).toNat * 6 + 1, none⟩ = false := hfr9 1; have hf9_2 : w19.frozen? ⟨go5, (x5_1 : Int).toNat * 6 + 2, none⟩ = false := hfr9 2; have hf9_3 : w19.frozen? ⟨go5, (x5_1 : Int).toNat * 6 + 3, none⟩ = false := hfr9 3; have hf9_4 : w19.frozen? ⟨go5, (x5_1 : Int).toNat * 6 + 4, none⟩ = false := hfr9 4; have hf9_5 : w19.frozen? ⟨go5, (x5_1 : Int).toNat * 6 + 5, none⟩ = false := hfr9 5; clear hcl9 hcc9 hfr9 hM9; replace p9 := eq_true p9; replace q9 := eq_true q9; have HX20 := am_ (show Kd.R k62 62 w19 w0.heap.size (fun k_ => (P0_ k_ ∨ w.heap.size ≤ k_)) (.slice (some ⟨go5, 0, none⟩) x0_1.length co11) y342 from (ur_ HO_0.out)); obtain ⟨ce20, hcl20, hM20, hcc20, hfr20⟩ := Kd.R_elem HX20.out z62 (x5_1 : Int) (of_decide_eq_true ua_) (by have h_ : (x5_1 : Int) < ((x0_1.length : Int) : Int) := of_decide_eq_true ua_; first | exact h_ | (have e_ := (Kd.R_reads' HO_0.out).1; omega) | simpa using h_); obtain rfl := k62_openM hM20; have HP20 := Kd.R_seg HX20.out (x5_1 : Int) (of_decide_eq_true ua_) (by have h_ : (x5_1 : Int) < ((x0_1.length : Int) : Int) := of_decide_eq_true ua_; first | exact h_ | (have e_ := (Kd.R_reads' HO_0.out).1; omega) | simpa using h_) (seg := [.int .i64 (wrap64 ((wrap64 ((wrap64 ((wrap64 (x1_1 + 1)) + 1)) + 1)) + 1))]) (j := 4) hcl20 hcc20 (show 5 ≤ 6 from by decide) (x' := (⟨(rd_T62 y342 x5_1).f0, (rd_T62 y342 x5_1).f1, (rd_T62 y342 x5_1).f2, (rd_T62 y342 x5_1).f3, wrap64 ((wrap64 ((wrap64 ((wrap64 (x1_1 + 1)) + 1)) + 1)) + 1), (rd_T62 y342 x5_1).f5⟩ : S62)) (k62_mkM _ _ _ (⟨(rd_T62 y342 x5_1).f0, (rd_T62 y342 x5_1).f1, (rd_T62 y342 x5_1).f2, (rd_T62 y342 x5_1).f3, wrap64 ((wrap64 ((wrap64 ((wrap64 (x1_1 + 1)) + 1)) + 1)) + 1), (rd_T62 y342 x5_1).f5⟩ : S62) ) (fun _ hk => hk); have hx20_4 := hcc20 4 _ rfl; (try simp only [show (k62).sz = 6 from rfl, Nat.mul_one, Nat.add_zero] at hx20_4); have hf20_4 := hfr20 4; (try simp only [show (k62).sz = 6 from rfl, Nat.mul_one, Nat.add_zero] at hf20_4); clear hcl20 hcc20 hfr20 hM20) | ((with_reducible refine gate_store (t := 3) (p := 44) rfl ?_); refine st_ (w1 := (w19.setCell ⟨go5, (x5_1 : Int).toNat * 6 + 4, none⟩ (.int .i64 (wrap64 ((wrap64 ((wrap64 ((wrap64 (x1_1 + 1)) + 1)) + 1)) + 1))))) ?_; intro w21 hw; have hg : w19.grownBy w21 (some go5) := (by rw [hw]; exact HP20.2); have hp_ : Kd.R k62 62 w21 w0.heap.size (fun k_ => (P0_ k_ ∨ w.heap.size ≤ k_)) (.slice (some ⟨go5, 0, none⟩) x0_1.length co11) y343 := (by rw [hw, Ny343.out]; exact HP20.1); clear HP20; replace HB := am_ ((by rw [hw]; exact below_set (HB.out) GB5.out : Below w0.heap.size w0 w21)); replace HK := am_ (Kept.of_grown (S := (fun k_ => P0_ k_)) hg (by repeat (first | (with_reducible first | exact HK.out | apply Kept.alloc | apply Kept.drewN | apply Kept.drew) | exact HK.out)) (fun k_ e_ => (HO_0.out.1 k_ e_))); replace HO_0 := am_ (hp_); clear hg hw hp_; have p10 : 0 ≤ (x5_1 : Int) := of_decide_eq_true ua_; have q10 : (x5_1 : Int) < ((x0_1.length : Int) : Int) := of_decide_eq_true ua_; obtain ⟨ce10, hcl10, hM10, hcc10, hfr10⟩ := Kd.R_elem HO_0.out z62 (x5_1 : Int) p10 q10; obtain rfl := k62_openM hM10; have hx10_0 : w21.cell? ⟨go5, (x5_1 : Int).toNat * 6, none⟩ = some (.int .i64 ((rd_T62 y343 x5_1).f0)) := hcc10 0 _ rfl; have hx10_1 : w21.cell? ⟨go5, (x5_1 : Int).toNat * 6 + 1, none⟩ = some (.int .i64 ((rd_T62 y343 x5_1).f1)) := hcc10 1 _ rfl; have hx10_2 : w21.cell? ⟨go5, (x5_1 : Int).toNat * 6 + 2, none⟩ = some (.int .i64 ((rd_T62 y343 x5_1).f2)) := hcc10 2 _ rfl; have hx10_3 : w21.cell? ⟨go5, (x5_1 : Int).toNat * 6 + 3, none⟩ = some (.int .i64 ((rd_T62 y343 x5_1).f3)) := hcc10 3 _ rfl; have hx10_4 : w21.cell? ⟨go5, (x5_1 : Int).toNat * 6 + 4, none⟩ = some (.int .i64 ((rd_T62 y343 x5_1).f4)) := hcc10 4 _ rfl; have hx10_5 : w21.cell? ⟨go5, (x5_1 : Int).toNat * 6 + 5, none⟩ = some (.int .i64 ((rd_T62 y343 x5_1).f5)) := hcc10 5 _ rfl; have hf10_0 : w21.frozen? ⟨go5, (x5_1 : Int).toNat * 6, none⟩ = false := hfr10 0; have hf10_1 : w21.frozen? ⟨go5, (x5_1 : Int).toNat * 6 + 1, none⟩ = false := hfr10 1; have hf10_2 : w21.frozen? ⟨go5, (x5_1 : Int).toNat * 6 + 2, none⟩ = false := hfr10 2; have hf10_3 : w21.frozen? ⟨go5, (x5_1 : Int).toNat * 6 + 3, none⟩ = false := hfr10 3; have hf10_4 : w21.frozen? ⟨go5, (x5_1 : Int).toNat * 6 + 4, none⟩ = false := hfr10 4; have hf10_5 : w21.frozen? ⟨go5, (x5_1 : Int).toNat * 6 + 5, none⟩ = false := hfr10 5; clear hcl10 hcc10 hfr10 hM10; replace p10 := eq_true p10; replace q10 := eq_true q10; have HX22 := am_ (show Kd.R k62 62 w21 w0.heap.size (fun k_ => (P0_ k_ ∨ w.heap.size ≤ k_)) (.slice (some ⟨go5, 0, none⟩) x0_1.length co11) y343 from (ur_ HO_0.out)); obtain ⟨ce22, hcl22, hM22, hcc22, hfr22⟩ := Kd.R_elem HX22.out z62 (x5_1 : Int) (of_decide_eq_true ua_) (by have h_ : (x5_1 : Int) < ((x0_1.length : Int) : Int) := of_decide_eq_true ua_; first | exact h_ | (have e_ := (Kd.R_reads' HO_0.out).1; omega) | simpa using h_); obtain rfl := k62_openM hM22; have HP22 := Kd.R_seg HX22.out (x5_1 : Int) (of_decide_eq_true ua_) (by have h_ : (x5_1 : Int) < ((x0_1.length : Int) : Int) := of_decide_eq_true ua_; first | exact h_ | (have e_ := (Kd.R_reads' HO_0.out).1; omega) | simpa using h_) (seg := [.int .i64 (wrap64 ((wrap64 ((wrap64 ((wrap64 ((wrap64 (x1_1 + 1)) + 1)) + 1)) + 1)) + 1))]) (j := 5) hcl22 hcc22 (show 6 ≤ 6 from by decide) (x' := (⟨(rd_T62 y343 x5_1).f0, (rd_T62 y343 x5_1).f1, (rd_T62 y343 x5_1).f2, (rd_T62 y343 x5_1).f3, (rd_T62 y343 x5_1).f4, wrap64 ((wrap64 ((wrap64 ((wrap64 ((wrap64 (x1_1 + 1)) + 1)) + 1)) + 1)) + 1)⟩ : S62)) (k62_mkM _ _ _ (⟨(rd_T62 y343 x5_1).f0, (rd_T62 y343 x5_1).f1, (rd_T62 y343 x5_1).f2, (rd_T62 y343 x5_1).f3, (rd_T62 y343 x5_1).f4, wrap64 ((wrap64 ((wrap64 ((wrap64 ((wrap64 (x1_1 + 1)) + 1)) + 1)) + 1)) + 1)⟩ : S62) ) (fun _ hk => hk); have hx22_5 := hcc22 5 _ rfl; (try simp only [show (k62).sz = 6 from rfl, Nat.mul_one, Nat.add_zero] at hx22_5); have hf22_5 := hfr22 5; (try simp only [show (k62).sz = 6 from rfl, Nat.mul_one, Nat.add_zero] at hf22_5); clear hcl22 hcc22 hfr22 hM22) | ((with_reducible refine gate_store (t := 3) (p := 51) rfl ?_); refine st_ (w1 := (w21.setCell ⟨go5, (x5_1 : Int).toNat * 6 + 5, none⟩ (.int .i64 (wrap64 ((wrap64 ((wrap64 ((wrap64 ((wrap64 (x1_1 + 1)) + 1)) + 1)) + 1)) + 1))))) ?_; intro w23 hw; have hg : w21.grownBy w23 (some go5) := (by rw [hw]; exact HP22.2); have hp_ : Kd.R k62 62 w23 w0.heap.size (fun k_ => (P0_ k_ ∨ w.heap.size ≤ k_)) (.slice (some ⟨go5, 0, none⟩) x0_1.length co11) y344 := (by rw [hw, Ny344.out]; exact HP22.1); clear HP22; replace HB := am_ ((by rw [hw]; exact below_set (HB.out) GB5.out : Below w0.heap.size w0 w23)); replace HK := am_ (Kept.of_grown (S := (fun k_ => P0_ k_)) hg (by repeat (first | (with_reducible first | exact HK.out | apply Kept.alloc | apply Kept.drewN | apply Kept.drew) | exact HK.out)) (fun k_ e_ => (HO_0.out.1 k_ e_))); replace HO_0 := am_ (hp_); clear hg hw hp_))
     go_roundg k1
     case measure => have := HK1.out; omega
     case rel => exact ⟨(y344), (wrap64 ((wrap64 ((wrap64 ((wrap64 ((wrap64 ((wrap64 (x1_1 + 1)) + 1)) + 1)) + 1)) + 1)) + 1)), (wrap64 (x5_1 + 1)), (by first | rfl | (simp; done) | (simp [*]; done)), (by first | rfl | (simp; done) | (simp [*]; done)), H', ⟨by have := HK1.out; omega⟩, ⟨by (with_reducible repeat (first | apply Kd.R_alloc | apply Kd.R_drewN | apply Kd.R_drew)); exact HO_0.out⟩, ⟨by repeat (first | (with_reducible first | exact HK.out | apply Kept.alloc | apply Kept.drewN | apply Kept.drew) | exact HK.out)⟩, ⟨ue_ HB.out⟩⟩
    rw [if_neg c4] at H
    exact absurd H (by simp)
   rw [if_neg c3] at H
   have c3b0 : decide (x5_1 < (x0_1.length : Int)) = false := decide_eq_false c3
   clear c3
   simp only [Option.some.injEq, Prod.mk.injEq] at H
   obtain ⟨rfl, rfl⟩ := H
   obtain ⟨Ao24, co24, eo24⟩ := Kd.R_slice HO_0.out
   subst eo24
   go_wp2
   go_ret
   exact ⟨ew_, by (with_reducible repeat (first | apply Kd.R_alloc | apply Kd.R_drewN | apply Kd.R_drew)); exact HO_0.out, ue_ HB.out, by repeat (first | (with_reducible first | exact HK.out | apply Kept.alloc | apply Kept.drewN | apply Kept.drew) | exact HK.out)⟩

/-! ### laws_markShard: function 11 -/
def laws_markShard.f (k : Nat) (l0_0 : List (S62)) (a0_1 : Int) (a0_2 : Int) (a0_3 : Int) (a1 : Int) : Option (Int × (List (S62))) := (laws_markAggS.f k l0_0 a1).bind fun bt346 => (some (bt346.1, bt346.2))
theorem laws_markShard.mono : ∀ a0 a1 a2 a3 a4 k, LeO (laws_markShard.f k a0 a1 a2 a3 a4) (laws_markShard.f (k + 1) a0 a1 a2 a3 a4) := by
 intro a0 a1 a2 a3 a4 k
 unfold laws_markShard.f
 repeat' first
   | (with_reducible exact laws_markAggS.mono _ _ _)
   | (with_reducible exact LeO.refl _)
   | (with_reducible exact LeO.none _)
   | (with_reducible refine LeO.ite ?_ ?_)
   | (with_reducible refine LeO.bind ?_ (fun _ => ?_))
   | exact laws_markAggS.mono _ _ _
   | exact LeO.none _
   | refine LeO.ite ?_ ?_
   | refine LeO.bind ?_ (fun _ => ?_)
set_option maxHeartbeats 8000000 in
set_option maxRecDepth 100000 in
theorem laws_markShard.calls (k : Nat) (P0_0_ : Nat → Prop) (u9000_ : Value) (l0_0 : List (S62)) (a0_1 : Int) (a0_2 : Int) (a0_3 : Int) (a1 : Int) (r1 : Int) (r2 : List (S62)) (w0 w : World) (hB : Below w0.heap.size w0 w) (ho0_0 : Kd.R k62 62 w w0.heap.size P0_0_ u9000_ l0_0) (h : laws_markShard.f k l0_0 a0_1 a0_2 a0_3 a1 = some (r1, r2)) :
  Calls Try.prog 11 #[.agg #[u9000_, .int .i64 a0_1, .int .i64 a0_2, .int .i64 a0_3], .int .i64 a1] w fun e w' => e = .returned (.int .i64 r1) ∧ Kd.R k62 62 w' w0.heap.size (fun k_ => (P0_0_ k_ ∨ w.heap.size ≤ k_)) u9000_ r2 ∧ Below w0.heap.size w0 w' ∧ Kept w w' (fun k_ => P0_0_ k_) := by
 have hu30 := Try.underlying30
 have HO0_0 := am_ (show Kd.R k62 62 w w0.heap.size (fun k_ => (P0_0_ k_ ∨ w.heap.size ≤ k_)) u9000_ l0_0 from Kd.R_mono ho0_0 (fun k_ hk => (.inl hk)))
 have HK := am_ (Kept.refl w (fun k_ => P0_0_ k_))
 have HW0 := Aside0.mk hB.size
 have HB := Aside0.mk hB
 clear hB
 have H : ((laws_markAggS.f k l0_0 a1).bind fun bt346 => (some (bt346.1, bt346.2))) = some (r1, r2) := h
 clear h
 replace H := Option.bind_eq_some_iff.mp H
 obtain ⟨⟨t346, t347⟩, A30, H⟩ := H
 replace H : (some (t346, t347)) = some (r1, r2) := H
 have A3 := Aside0.mk A30
 clear A30
 simp only [Option.some.injEq, Prod.mk.injEq] at H
 obtain ⟨rfl, rfl⟩ := H
 obtain ⟨Ao4, co4, eo4⟩ := Kd.R_slice HO0_0.out
 subst eo4
 go_enter Try.func11, Try.ntmps11
 go_wp2_with (first | ((with_reducible refine gate_dst (N := 2) rfl ?_); refine bx_ (N := 2) (cs := #[.slice Ao4 l0_0.length co4, .int .i64 a0_1, .int .i64 a0_2, .int .i64 a0_3]) (t := 30) ?_; intro gb345 hg w5 hbox hb; replace HO0_0 := am_ (Kd.R_below (ur_ HO0_0.out) hb); have BK345 := am_ (hbox); have GW345 := am_ ((by rw [hg]; exact (by first | exact HK.out.1 | exact (show Kept w _ (fun k_ => P0_0_ k_) from by repeat (first | (with_reducible first | exact HK.out | apply Kept.alloc | apply Kept.drewN | apply Kept.drew) | exact HK.out)).1) : w.heap.size ≤ gb345)); replace HK := am_ (Kept.below (S := (fun k_ => P0_0_ k_)) (by repeat (first | (with_reducible first | exact HK.out | apply Kept.alloc | apply Kept.drewN | apply Kept.drew) | exact HK.out)) hb); have GE345 := am_ ((by rw [hg]; exact (below_size (ue_ HB.out)) : w0.heap.size ≤ gb345)); replace HB := hs_ HB hb; clear hb hbox hg; obtain ⟨hcz6_0, hcz6_1, hcz6_2, hcz6_3⟩ := cb4_ BK345.out; obtain ⟨hfz6_0, hfz6_1, hfz6_2⟩ := bf3_ BK345.out; have hfz6_3 := blk_frozen BK345.out 3) | ((with_reducible refine gate_callee (f := 46) rfl ?_); refine goesL_ (some 8) rfl rfl Try.func46 (by kernel_rfl) rfl #[.slice Ao4 l0_0.length co4, .int .i64 a1] rfl ul_ ?_; (with_reducible refine (laws_markAggS.calls k (fun k_ => some k_ = (.slice Ao4 l0_0.length co4 : Value).ownBlock) (.slice Ao4 l0_0.length co4) l0_0 a1 t346 t347 w0 _ ?side1 ?side2 A3.out).mono ?_); (case side1 => repeat (first | (with_reducible first | exact HB.out | apply below_alloc | apply pw_below_drewN | apply below_drew1 | refine below_set ?_ GE345.out) | exact HB.out)); (case side2 => exact Kd.R_tight rfl HO0_0.out); rintro e w7 ⟨rfl, hy0, hb, hkp⟩; refine ⟨_, rfl, ?_⟩; replace BK345 := am_ (blk_kept (g := gb345) (o := .cells #[.slice Ao4 l0_0.length co4, .int .i64 a0_1, .int .i64 a0_2, .int .i64 a0_3] 30 (0, 0)) (ub_ BK345.out) hkp (fun hs_ => (fun e_ => (Kd.R_ne HO0_0.out BK345.out (by decide)) e_) hs_)); replace HK := am_ (Kept.then_ (S := (fun k_ => P0_0_ k_)) (by repeat (first | (with_reducible first | exact HK.out | apply Kept.alloc | apply Kept.drewN | apply Kept.drew | refine Kept.setCell ?_ (.inr GW345.out) _) | exact HK.out)) hkp (fun k_ hs_ => (fun e_ => (HO0_0.out.1 k_ e_.symm)) hs_)); replace HO0_0 := am_ (Kd.R_reok rfl hy0 (fun k_ e_ => HO0_0.out.1 k_ e_)); replace HB := am_ (hb); (try clear hb); (try clear hkp); (try clear hy0)))
 go_ret
 exact ⟨ew_, by (with_reducible repeat (first | apply Kd.R_alloc | apply Kd.R_drewN | apply Kd.R_drew)); exact HO0_0.out, ue_ HB.out, by repeat (first | (with_reducible first | exact HK.out | apply Kept.alloc | apply Kept.drewN | apply Kept.drew | refine Kept.setCell ?_ (.inr GW345.out) _) | exact HK.out)⟩

end Go.Proofs.Ytaofcalmgodgjaa.QFnExactAddEvent
