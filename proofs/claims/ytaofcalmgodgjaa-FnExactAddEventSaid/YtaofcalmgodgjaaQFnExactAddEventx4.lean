/- The machine side of a law: Lean functions with the Go functions' answers and the walks that show it. No condition. -/
import Derived.Test.YtaofcalmgodgjaaQFnExactAddEventx0
import Derived.Test.YtaofcalmgodgjaaQFnExactAddEventx2
namespace Go.Proofs.Ytaofcalmgodgjaa.QFnExactAddEvent
open Go.RowKit Go.Proofs.YtaofcalmgodgjaaW.PrintWords Go.Proofs.YtaofcalmgodgjaaW.PrintLast Go.Proofs.YtaofcalmgodgjaaW.PrintMore
attribute [local go_sem] max2_int min2_int max_two min_two max_three min_three max_four min_four   -- for this text's walks alone
set_option linter.unusedVariables false
set_option linter.unusedSimpArgs false

/-! ### spec_FrameOk: function 26 -/
def spec_FrameOk.f (a0_0 : Int) (a0_1 : Int) (a0_2 : Int) (a0_3 : Int) : Option (Bool) := if a0_0 = 1 then ((spec_l01In.f a0_1 0 65535).bind fun t131 => (if t131 = true then ((spec_l01In.f a0_2 0 1000000).bind fun t132 => (if t132 = true then ((spec_l01In.f a0_3 (-1000000) 1000000).bind fun t133 => (some t133)) else (some false))) else (some false))) else (if a0_0 = 2 then (if a0_1 = 0 then ((spec_l01In.f a0_2 0 1000000).bind fun t134 => (if t134 = true then (some (a0_3 == 0)) else (some false))) else (some false)) else (if a0_0 = 3 then (if a0_1 = 0 then (if a0_2 = 0 then (some (a0_3 == 0)) else (some false)) else (some false)) else (some false)))
set_option maxHeartbeats 8000000 in
set_option maxRecDepth 100000 in
theorem spec_FrameOk.calls (a0_0 : Int) (a0_1 : Int) (a0_2 : Int) (a0_3 : Int) (r : Bool) (w : World) (h : spec_FrameOk.f a0_0 a0_1 a0_2 a0_3 = some r) :
  Calls Try.prog 26 #[.agg #[.int .i64 a0_0, .int .i64 a0_1, .int .i64 a0_2, .int .i64 a0_3]] w fun e w' => e = .returned (.bool r) ∧ Below w.heap.size w w' := by
 have hu34 := Try.underlying34
 have HB := am_ (Below.refl w.heap.size w)
 have H : (if a0_0 = 1 then ((spec_l01In.f a0_1 0 65535).bind fun t131 => (if t131 = true then ((spec_l01In.f a0_2 0 1000000).bind fun t132 => (if t132 = true then ((spec_l01In.f a0_3 (-1000000) 1000000).bind fun t133 => (some t133)) else (some false))) else (some false))) else (if a0_0 = 2 then (if a0_1 = 0 then ((spec_l01In.f a0_2 0 1000000).bind fun t134 => (if t134 = true then (some (a0_3 == 0)) else (some false))) else (some false)) else (if a0_0 = 3 then (if a0_1 = 0 then (if a0_2 = 0 then (some (a0_3 == 0)) else (some false)) else (some false)) else (some false)))) = some r := h
 clear h
 by_cases c2 : a0_0 = 1
 ·
  rw [if_pos c2] at H
  have c2b0 : (a0_0 == 1) = true := beq_iff_eq.mpr c2
  have c2b1 : (a0_0 != 1) = false := bne_eq_false_iff_eq.mpr c2
  clear c2
  replace H := Option.bind_eq_some_iff.mp H
  obtain ⟨t131, A30, H⟩ := H
  replace H : (if t131 = true then ((spec_l01In.f a0_2 0 1000000).bind fun t132 => (if t132 = true then ((spec_l01In.f a0_3 (-1000000) 1000000).bind fun t133 => (some t133)) else (some false))) else (some false)) = some r := H
  have A3 := Aside0.mk A30
  clear A30
  by_cases c4 : t131 = true
  ·
   subst c4
   have H1 : ((spec_l01In.f a0_2 0 1000000).bind fun t132 => (if t132 = true then ((spec_l01In.f a0_3 (-1000000) 1000000).bind fun t133 => (some t133)) else (some false))) = some r := by rw [if_pos rfl] at H; exact H
   clear H
   have H := H1
   clear H1
   replace H := Option.bind_eq_some_iff.mp H
   obtain ⟨t132, A50, H⟩ := H
   replace H : (if t132 = true then ((spec_l01In.f a0_3 (-1000000) 1000000).bind fun t133 => (some t133)) else (some false)) = some r := H
   have A5 := Aside0.mk A50
   clear A50
   by_cases c6 : t132 = true
   ·
    subst c6
    have H1 : ((spec_l01In.f a0_3 (-1000000) 1000000).bind fun t133 => (some t133)) = some r := by rw [if_pos rfl] at H; exact H
    clear H
    have H := H1
    clear H1
    replace H := Option.bind_eq_some_iff.mp H
    obtain ⟨t133, A70, H⟩ := H
    replace H : (some t133) = some r := H
    have A7 := Aside0.mk A70
    clear A70
    obtain rfl := Option.some.inj H
    go_enter Try.func26, Try.ntmps26
    go_wp2_with (first | ((with_reducible refine gate_dst (N := 1) rfl ?_); refine bx_ (N := 1) (cs := #[.int .i64 a0_0, .int .i64 a0_1, .int .i64 a0_2, .int .i64 a0_3]) (t := 34) ?_; intro gb130 hg w8 hbox hb; have BK130 := am_ (hbox); have GW130 := gs_ hg HB.out; have GE130 := gs_ hg HB.out; replace HB := hs_ HB hb; clear hb hbox hg; obtain ⟨hcz9_0, hcz9_1, hcz9_2, hcz9_3⟩ := cb4_ BK130.out; obtain ⟨hfz9_0, hfz9_1, hfz9_2⟩ := bf3_ BK130.out; have hfz9_3 := blk_frozen BK130.out 3) | ((with_reducible refine gate_callee (f := 25) rfl ?_); refine goesL_ (some 9) rfl rfl Try.func25 (by kernel_rfl) rfl #[.int .i64 a0_1, .int .i64 0, .int .i64 65535] rfl ul_ ?_; (with_reducible refine (spec_l01In.calls a0_1 0 65535 true _ A3.out).mono ?_); rintro e w' ⟨rfl, ⟨nd, rfl⟩⟩; refine ⟨_, rfl, ?_⟩) | (go_at_call 25; (with_reducible refine (spec_l01In.calls a0_2 0 1000000 true _ A5.out).mono ?_); rintro e w' ⟨rfl, ⟨nd, rfl⟩⟩) | (go_at_call 25; (with_reducible refine (spec_l01In.calls a0_3 (-1000000) 1000000 t133 _ A7.out).mono ?_); rintro e w' ⟨rfl, ⟨nd, rfl⟩⟩))
    go_ret
    exact ⟨ew_, ue_ HB.out⟩
   replace c6 := Bool.eq_false_iff.mpr c6
   subst c6
   have H1 : (some false) = some r := by rw [if_neg (show ¬ (false = true) by decide)] at H; exact H
   clear H
   have H := H1
   clear H1
   obtain rfl := Option.some.inj H
   go_enter Try.func26, Try.ntmps26
   go_wp2_with (first | ((with_reducible refine gate_dst (N := 1) rfl ?_); refine bx_ (N := 1) (cs := #[.int .i64 a0_0, .int .i64 a0_1, .int .i64 a0_2, .int .i64 a0_3]) (t := 34) ?_; intro gb130 hg w10 hbox hb; have BK130 := am_ (hbox); have GW130 := gs_ hg HB.out; have GE130 := gs_ hg HB.out; replace HB := hs_ HB hb; clear hb hbox hg; obtain ⟨hcz11_0, hcz11_1, hcz11_2, hcz11_3⟩ := cb4_ BK130.out; obtain ⟨hfz11_0, hfz11_1, hfz11_2⟩ := bf3_ BK130.out; have hfz11_3 := blk_frozen BK130.out 3) | ((with_reducible refine gate_callee (f := 25) rfl ?_); refine goesL_ (some 9) rfl rfl Try.func25 (by kernel_rfl) rfl #[.int .i64 a0_1, .int .i64 0, .int .i64 65535] rfl ul_ ?_; (with_reducible refine (spec_l01In.calls a0_1 0 65535 true _ A3.out).mono ?_); rintro e w' ⟨rfl, ⟨nd, rfl⟩⟩; refine ⟨_, rfl, ?_⟩) | (go_at_call 25; (with_reducible refine (spec_l01In.calls a0_2 0 1000000 false _ A5.out).mono ?_); rintro e w' ⟨rfl, ⟨nd, rfl⟩⟩))
   go_ret
   exact ⟨ew_, ue_ HB.out⟩
  replace c4 := Bool.eq_false_iff.mpr c4
  subst c4
  have H1 : (some false) = some r := by rw [if_neg (show ¬ (false = true) by decide)] at H; exact H
  clear H
  have H := H1
  clear H1
  obtain rfl := Option.some.inj H
  go_enter Try.func26, Try.ntmps26
  go_wp2_with (first | ((with_reducible refine gate_dst (N := 1) rfl ?_); refine bx_ (N := 1) (cs := #[.int .i64 a0_0, .int .i64 a0_1, .int .i64 a0_2, .int .i64 a0_3]) (t := 34) ?_; intro gb130 hg w12 hbox hb; have BK130 := am_ (hbox); have GW130 := gs_ hg HB.out; have GE130 := gs_ hg HB.out; replace HB := hs_ HB hb; clear hb hbox hg; obtain ⟨hcz13_0, hcz13_1, hcz13_2, hcz13_3⟩ := cb4_ BK130.out; obtain ⟨hfz13_0, hfz13_1, hfz13_2⟩ := bf3_ BK130.out; have hfz13_3 := blk_frozen BK130.out 3) | ((with_reducible refine gate_callee (f := 25) rfl ?_); refine goesL_ (some 9) rfl rfl Try.func25 (by kernel_rfl) rfl #[.int .i64 a0_1, .int .i64 0, .int .i64 65535] rfl ul_ ?_; (with_reducible refine (spec_l01In.calls a0_1 0 65535 false _ A3.out).mono ?_); rintro e w' ⟨rfl, ⟨nd, rfl⟩⟩; refine ⟨_, rfl, ?_⟩))
  go_ret
  exact ⟨ew_, ue_ HB.out⟩
 rw [if_neg c2] at H
 have c2b0 : (a0_0 == 1) = false := beq_eq_false_iff_ne.mpr c2
 have c2b1 : (a0_0 != 1) = true := bne_iff_ne.mpr c2
 by_cases c14 : a0_0 = 2
 ·
  rw [if_pos c14] at H
  have c14b0 : (a0_0 == 2) = true := beq_iff_eq.mpr c14
  have c14b1 : (a0_0 != 2) = false := bne_eq_false_iff_eq.mpr c14
  clear c14
  by_cases c15 : a0_1 = 0
  ·
   rw [if_pos c15] at H
   have c15b0 : (a0_1 == 0) = true := beq_iff_eq.mpr c15
   have c15b1 : (a0_1 != 0) = false := bne_eq_false_iff_eq.mpr c15
   clear c15
   replace H := Option.bind_eq_some_iff.mp H
   obtain ⟨t134, A160, H⟩ := H
   replace H : (if t134 = true then (some (a0_3 == 0)) else (some false)) = some r := H
   have A16 := Aside0.mk A160
   clear A160
   by_cases c17 : t134 = true
   ·
    subst c17
    have H1 : (some (a0_3 == 0)) = some r := by rw [if_pos rfl] at H; exact H
    clear H
    have H := H1
    clear H1
    obtain rfl := Option.some.inj H
    go_enter Try.func26, Try.ntmps26
    go_wp2_with (first | ((with_reducible refine gate_dst (N := 1) rfl ?_); refine bx_ (N := 1) (cs := #[.int .i64 a0_0, .int .i64 a0_1, .int .i64 a0_2, .int .i64 a0_3]) (t := 34) ?_; intro gb130 hg w18 hbox hb; have BK130 := am_ (hbox); have GW130 := gs_ hg HB.out; have GE130 := gs_ hg HB.out; replace HB := hs_ HB hb; clear hb hbox hg; obtain ⟨hcz19_0, hcz19_1, hcz19_2, hcz19_3⟩ := cb4_ BK130.out; obtain ⟨hfz19_0, hfz19_1, hfz19_2⟩ := bf3_ BK130.out; have hfz19_3 := blk_frozen BK130.out 3) | (go_at_call 25; (with_reducible refine (spec_l01In.calls a0_2 0 1000000 true _ A16.out).mono ?_); rintro e w' ⟨rfl, ⟨nd, rfl⟩⟩))
    go_ret
    exact ⟨ew_, ue_ HB.out⟩
   replace c17 := Bool.eq_false_iff.mpr c17
   subst c17
   have H1 : (some false) = some r := by rw [if_neg (show ¬ (false = true) by decide)] at H; exact H
   clear H
   have H := H1
   clear H1
   obtain rfl := Option.some.inj H
   go_enter Try.func26, Try.ntmps26
   go_wp2_with (first | ((with_reducible refine gate_dst (N := 1) rfl ?_); refine bx_ (N := 1) (cs := #[.int .i64 a0_0, .int .i64 a0_1, .int .i64 a0_2, .int .i64 a0_3]) (t := 34) ?_; intro gb130 hg w20 hbox hb; have BK130 := am_ (hbox); have GW130 := gs_ hg HB.out; have GE130 := gs_ hg HB.out; replace HB := hs_ HB hb; clear hb hbox hg; obtain ⟨hcz21_0, hcz21_1, hcz21_2, hcz21_3⟩ := cb4_ BK130.out; obtain ⟨hfz21_0, hfz21_1, hfz21_2⟩ := bf3_ BK130.out; have hfz21_3 := blk_frozen BK130.out 3) | (go_at_call 25; (with_reducible refine (spec_l01In.calls a0_2 0 1000000 false _ A16.out).mono ?_); rintro e w' ⟨rfl, ⟨nd, rfl⟩⟩))
   go_ret
   exact ⟨ew_, ue_ HB.out⟩
  rw [if_neg c15] at H
  have c15b0 : (a0_1 == 0) = false := beq_eq_false_iff_ne.mpr c15
  have c15b1 : (a0_1 != 0) = true := bne_iff_ne.mpr c15
  obtain rfl := Option.some.inj H
  go_enter Try.func26, Try.ntmps26
  go_wp2_with (first | ((with_reducible refine gate_dst (N := 1) rfl ?_); refine bx_ (N := 1) (cs := #[.int .i64 a0_0, .int .i64 a0_1, .int .i64 a0_2, .int .i64 a0_3]) (t := 34) ?_; intro gb130 hg w22 hbox hb; have BK130 := am_ (hbox); have GW130 := gs_ hg HB.out; have GE130 := gs_ hg HB.out; replace HB := hs_ HB hb; clear hb hbox hg; obtain ⟨hcz23_0, hcz23_1, hcz23_2, hcz23_3⟩ := cb4_ BK130.out; obtain ⟨hfz23_0, hfz23_1, hfz23_2⟩ := bf3_ BK130.out; have hfz23_3 := blk_frozen BK130.out 3))
  go_ret
  exact ⟨ew_, ue_ HB.out⟩
 rw [if_neg c14] at H
 have c14b0 : (a0_0 == 2) = false := beq_eq_false_iff_ne.mpr c14
 have c14b1 : (a0_0 != 2) = true := bne_iff_ne.mpr c14
 by_cases c24 : a0_0 = 3
 ·
  rw [if_pos c24] at H
  have c24b0 : (a0_0 == 3) = true := beq_iff_eq.mpr c24
  have c24b1 : (a0_0 != 3) = false := bne_eq_false_iff_eq.mpr c24
  clear c24
  by_cases c25 : a0_1 = 0
  ·
   rw [if_pos c25] at H
   have c25b0 : (a0_1 == 0) = true := beq_iff_eq.mpr c25
   have c25b1 : (a0_1 != 0) = false := bne_eq_false_iff_eq.mpr c25
   clear c25
   by_cases c26 : a0_2 = 0
   ·
    rw [if_pos c26] at H
    have c26b0 : (a0_2 == 0) = true := beq_iff_eq.mpr c26
    have c26b1 : (a0_2 != 0) = false := bne_eq_false_iff_eq.mpr c26
    clear c26
    obtain rfl := Option.some.inj H
    go_enter Try.func26, Try.ntmps26
    go_wp2_with (first | ((with_reducible refine gate_dst (N := 1) rfl ?_); refine bx_ (N := 1) (cs := #[.int .i64 a0_0, .int .i64 a0_1, .int .i64 a0_2, .int .i64 a0_3]) (t := 34) ?_; intro gb130 hg w27 hbox hb; have BK130 := am_ (hbox); have GW130 := gs_ hg HB.out; have GE130 := gs_ hg HB.out; replace HB := hs_ HB hb; clear hb hbox hg; obtain ⟨hcz28_0, hcz28_1, hcz28_2, hcz28_3⟩ := cb4_ BK130.out; obtain ⟨hfz28_0, hfz28_1, hfz28_2⟩ := bf3_ BK130.out; have hfz28_3 := blk_frozen BK130.out 3))
    go_ret
    exact ⟨ew_, ue_ HB.out⟩
   rw [if_neg c26] at H
   have c26b0 : (a0_2 == 0) = false := beq_eq_false_iff_ne.mpr c26
   have c26b1 : (a0_2 != 0) = true := bne_iff_ne.mpr c26
   obtain rfl := Option.some.inj H
   go_enter Try.func26, Try.ntmps26
   go_wp2_with (first | ((with_reducible refine gate_dst (N := 1) rfl ?_); refine bx_ (N := 1) (cs := #[.int .i64 a0_0, .int .i64 a0_1, .int .i64 a0_2, .int .i64 a0_3]) (t := 34) ?_; intro gb130 hg w29 hbox hb; have BK130 := am_ (hbox); have GW130 := gs_ hg HB.out; have GE130 := gs_ hg HB.out; replace HB := hs_ HB hb; clear hb hbox hg; obtain ⟨hcz30_0, hcz30_1, hcz30_2, hcz30_3⟩ := cb4_ BK130.out; obtain ⟨hfz30_0, hfz30_1, hfz30_2⟩ := bf3_ BK130.out; have hfz30_3 := blk_frozen BK130.out 3))
   go_ret
   exact ⟨ew_, ue_ HB.out⟩
  rw [if_neg c25] at H
  have c25b0 : (a0_1 == 0) = false := beq_eq_false_iff_ne.mpr c25
  have c25b1 : (a0_1 != 0) = true := bne_iff_ne.mpr c25
  obtain rfl := Option.some.inj H
  go_enter Try.func26, Try.ntmps26
  go_wp2_with (first | ((with_reducible refine gate_dst (N := 1) rfl ?_); refine bx_ (N := 1) (cs := #[.int .i64 a0_0, .int .i64 a0_1, .int .i64 a0_2, .int .i64 a0_3]) (t := 34) ?_; intro gb130 hg w31 hbox hb; have BK130 := am_ (hbox); have GW130 := gs_ hg HB.out; have GE130 := gs_ hg HB.out; replace HB := hs_ HB hb; clear hb hbox hg; obtain ⟨hcz32_0, hcz32_1, hcz32_2, hcz32_3⟩ := cb4_ BK130.out; obtain ⟨hfz32_0, hfz32_1, hfz32_2⟩ := bf3_ BK130.out; have hfz32_3 := blk_frozen BK130.out 3))
  go_ret
  exact ⟨ew_, ue_ HB.out⟩
 rw [if_neg c24] at H
 have c24b0 : (a0_0 == 3) = false := beq_eq_false_iff_ne.mpr c24
 have c24b1 : (a0_0 != 3) = true := bne_iff_ne.mpr c24
 obtain rfl := Option.some.inj H
 go_enter Try.func26, Try.ntmps26
 go_wp2_with (first | ((with_reducible refine gate_dst (N := 1) rfl ?_); refine bx_ (N := 1) (cs := #[.int .i64 a0_0, .int .i64 a0_1, .int .i64 a0_2, .int .i64 a0_3]) (t := 34) ?_; intro gb130 hg w33 hbox hb; have BK130 := am_ (hbox); have GW130 := gs_ hg HB.out; have GE130 := gs_ hg HB.out; replace HB := hs_ HB hb; clear hb hbox hg; obtain ⟨hcz34_0, hcz34_1, hcz34_2, hcz34_3⟩ := cb4_ BK130.out; obtain ⟨hfz34_0, hfz34_1, hfz34_2⟩ := bf3_ BK130.out; have hfz34_3 := blk_frozen BK130.out 3))
 go_ret
 exact ⟨ew_, ue_ HB.out⟩

/-! ### spec_WindowOf: function 27 -/
def spec_WindowOf.f (a0 : Int) (a1 : Int) : Option (Int) := (spec_l01In.f a0 0 1000000).bind fun t135 => (if t135 = true then ((spec_l01In.f a1 1 1000000).bind fun t136 => (if t136 = true then (if a1 = 0 then (none) else (some (wrap64 (Int.tdiv a0 a1)))) else (some (-1)))) else (some (-1)))
set_option maxHeartbeats 8000000 in
set_option maxRecDepth 100000 in
theorem spec_WindowOf.calls (a0 : Int) (a1 : Int) (r : Int) (w : World) (h : spec_WindowOf.f a0 a1 = some r) :
  Calls Try.prog 27 #[.int .i64 a0, .int .i64 a1] w fun e w' => e = .returned (.int .i64 r) ∧ Drawn0 w w' := by
 have H : ((spec_l01In.f a0 0 1000000).bind fun t135 => (if t135 = true then ((spec_l01In.f a1 1 1000000).bind fun t136 => (if t136 = true then (if a1 = 0 then (none) else (some (wrap64 (Int.tdiv a0 a1)))) else (some (-1)))) else (some (-1)))) = some r := h
 clear h
 replace H := Option.bind_eq_some_iff.mp H
 obtain ⟨t135, A30, H⟩ := H
 replace H : (if t135 = true then ((spec_l01In.f a1 1 1000000).bind fun t136 => (if t136 = true then (if a1 = 0 then (none) else (some (wrap64 (Int.tdiv a0 a1)))) else (some (-1)))) else (some (-1))) = some r := H
 have A3 := Aside0.mk A30
 clear A30
 by_cases c4 : t135 = true
 ·
  subst c4
  have H1 : ((spec_l01In.f a1 1 1000000).bind fun t136 => (if t136 = true then (if a1 = 0 then (none) else (some (wrap64 (Int.tdiv a0 a1)))) else (some (-1)))) = some r := by rw [if_pos rfl] at H; exact H
  clear H
  have H := H1
  clear H1
  replace H := Option.bind_eq_some_iff.mp H
  obtain ⟨t136, A50, H⟩ := H
  replace H : (if t136 = true then (if a1 = 0 then (none) else (some (wrap64 (Int.tdiv a0 a1)))) else (some (-1))) = some r := H
  have A5 := Aside0.mk A50
  clear A50
  by_cases c6 : t136 = true
  ·
   subst c6
   have H1 : (if a1 = 0 then (none) else (some (wrap64 (Int.tdiv a0 a1)))) = some r := by rw [if_pos rfl] at H; exact H
   clear H
   have H := H1
   clear H1
   by_cases c7 : a1 = 0
   ·
    rw [if_pos c7] at H
    exact absurd H (by simp)
   rw [if_neg c7] at H
   have c7b0 : (a1 == 0) = false := beq_eq_false_iff_ne.mpr c7
   have c7b1 : (a1 != 0) = true := bne_iff_ne.mpr c7
   obtain rfl := Option.some.inj H
   go_enter Try.func27, Try.ntmps27
   go_wp2_with (first | ((with_reducible refine gate_callee (f := 25) rfl ?_); refine goesL_ (some 6) rfl rfl Try.func25 (by kernel_rfl) rfl #[.int .i64 a0, .int .i64 0, .int .i64 1000000] rfl ul_ ?_; (with_reducible refine (spec_l01In.calls a0 0 1000000 true _ A3.out).mono ?_); rintro e w' ⟨rfl, ⟨nd, rfl⟩⟩; refine ⟨_, rfl, ?_⟩) | (go_at_call 25; (with_reducible refine (spec_l01In.calls a1 1 1000000 true _ A5.out).mono ?_); rintro e w' ⟨rfl, ⟨nd, rfl⟩⟩))
   go_ret
   exact ⟨by first | rfl | (simp; done) | (simp [*]; done), by repeat (first | exact Drawn0.refl _ | apply Drawn0.step)⟩
  replace c6 := Bool.eq_false_iff.mpr c6
  subst c6
  have H1 : (some (-1)) = some r := by rw [if_neg (show ¬ (false = true) by decide)] at H; exact H
  clear H
  have H := H1
  clear H1
  obtain rfl := Option.some.inj H
  go_enter Try.func27, Try.ntmps27
  go_wp2_with (first | ((with_reducible refine gate_callee (f := 25) rfl ?_); refine goesL_ (some 6) rfl rfl Try.func25 (by kernel_rfl) rfl #[.int .i64 a0, .int .i64 0, .int .i64 1000000] rfl ul_ ?_; (with_reducible refine (spec_l01In.calls a0 0 1000000 true _ A3.out).mono ?_); rintro e w' ⟨rfl, ⟨nd, rfl⟩⟩; refine ⟨_, rfl, ?_⟩) | (go_at_call 25; (with_reducible refine (spec_l01In.calls a1 1 1000000 false _ A5.out).mono ?_); rintro e w' ⟨rfl, ⟨nd, rfl⟩⟩))
  go_ret
  exact ⟨by first | rfl | (simp; done) | (simp [*]; done), by repeat (first | exact Drawn0.refl _ | apply Drawn0.step)⟩
 replace c4 := Bool.eq_false_iff.mpr c4
 subst c4
 have H1 : (some (-1)) = some r := by rw [if_neg (show ¬ (false = true) by decide)] at H; exact H
 clear H
 have H := H1
 clear H1
 obtain rfl := Option.some.inj H
 go_enter Try.func27, Try.ntmps27
 go_wp2_with (first | ((with_reducible refine gate_callee (f := 25) rfl ?_); refine goesL_ (some 6) rfl rfl Try.func25 (by kernel_rfl) rfl #[.int .i64 a0, .int .i64 0, .int .i64 1000000] rfl ul_ ?_; (with_reducible refine (spec_l01In.calls a0 0 1000000 false _ A3.out).mono ?_); rintro e w' ⟨rfl, ⟨nd, rfl⟩⟩; refine ⟨_, rfl, ?_⟩))
 go_ret
 exact ⟨by first | rfl | (simp; done) | (simp [*]; done), by repeat (first | exact Drawn0.refl _ | apply Drawn0.step)⟩

/-! ### spec_WindowEnd: function 28 -/
def spec_WindowEnd.f (a0 : Int) (a1 : Int) : Option (Int) := (spec_l01In.f a0 0 1000000).bind fun t137 => (if t137 = true then ((spec_l01In.f a1 1 1000000).bind fun t138 => (if t138 = true then (some (wrap64 ((wrap64 ((wrap64 (a0 + 1)) * a1)) - 1))) else (some (-1)))) else (some (-1)))
set_option maxHeartbeats 8000000 in
set_option maxRecDepth 100000 in
theorem spec_WindowEnd.calls (a0 : Int) (a1 : Int) (r : Int) (w : World) (h : spec_WindowEnd.f a0 a1 = some r) :
  Calls Try.prog 28 #[.int .i64 a0, .int .i64 a1] w fun e w' => e = .returned (.int .i64 r) ∧ Drawn0 w w' := by
 have H : ((spec_l01In.f a0 0 1000000).bind fun t137 => (if t137 = true then ((spec_l01In.f a1 1 1000000).bind fun t138 => (if t138 = true then (some (wrap64 ((wrap64 ((wrap64 (a0 + 1)) * a1)) - 1))) else (some (-1)))) else (some (-1)))) = some r := h
 clear h
 replace H := Option.bind_eq_some_iff.mp H
 obtain ⟨t137, A30, H⟩ := H
 replace H : (if t137 = true then ((spec_l01In.f a1 1 1000000).bind fun t138 => (if t138 = true then (some (wrap64 ((wrap64 ((wrap64 (a0 + 1)) * a1)) - 1))) else (some (-1)))) else (some (-1))) = some r := H
 have A3 := Aside0.mk A30
 clear A30
 by_cases c4 : t137 = true
 ·
  subst c4
  have H1 : ((spec_l01In.f a1 1 1000000).bind fun t138 => (if t138 = true then (some (wrap64 ((wrap64 ((wrap64 (a0 + 1)) * a1)) - 1))) else (some (-1)))) = some r := by rw [if_pos rfl] at H; exact H
  clear H
  have H := H1
  clear H1
  replace H := Option.bind_eq_some_iff.mp H
  obtain ⟨t138, A50, H⟩ := H
  replace H : (if t138 = true then (some (wrap64 ((wrap64 ((wrap64 (a0 + 1)) * a1)) - 1))) else (some (-1))) = some r := H
  have A5 := Aside0.mk A50
  clear A50
  by_cases c6 : t138 = true
  ·
   subst c6
   have H1 : (some (wrap64 ((wrap64 ((wrap64 (a0 + 1)) * a1)) - 1))) = some r := by rw [if_pos rfl] at H; exact H
   clear H
   have H := H1
   clear H1
   obtain rfl := Option.some.inj H
   go_enter Try.func28, Try.ntmps28
   go_wp2_with (first | ((with_reducible refine gate_callee (f := 25) rfl ?_); refine goesL_ (some 6) rfl rfl Try.func25 (by kernel_rfl) rfl #[.int .i64 a0, .int .i64 0, .int .i64 1000000] rfl ul_ ?_; (with_reducible refine (spec_l01In.calls a0 0 1000000 true _ A3.out).mono ?_); rintro e w' ⟨rfl, ⟨nd, rfl⟩⟩; refine ⟨_, rfl, ?_⟩) | (go_at_call 25; (with_reducible refine (spec_l01In.calls a1 1 1000000 true _ A5.out).mono ?_); rintro e w' ⟨rfl, ⟨nd, rfl⟩⟩))
   go_ret
   exact ⟨by first | rfl | (simp; done) | (simp [*]; done), by repeat (first | exact Drawn0.refl _ | apply Drawn0.step)⟩
  replace c6 := Bool.eq_false_iff.mpr c6
  subst c6
  have H1 : (some (-1)) = some r := by rw [if_neg (show ¬ (false = true) by decide)] at H; exact H
  clear H
  have H := H1
  clear H1
  obtain rfl := Option.some.inj H
  go_enter Try.func28, Try.ntmps28
  go_wp2_with (first | ((with_reducible refine gate_callee (f := 25) rfl ?_); refine goesL_ (some 6) rfl rfl Try.func25 (by kernel_rfl) rfl #[.int .i64 a0, .int .i64 0, .int .i64 1000000] rfl ul_ ?_; (with_reducible refine (spec_l01In.calls a0 0 1000000 true _ A3.out).mono ?_); rintro e w' ⟨rfl, ⟨nd, rfl⟩⟩; refine ⟨_, rfl, ?_⟩) | (go_at_call 25; (with_reducible refine (spec_l01In.calls a1 1 1000000 false _ A5.out).mono ?_); rintro e w' ⟨rfl, ⟨nd, rfl⟩⟩))
  go_ret
  exact ⟨by first | rfl | (simp; done) | (simp [*]; done), by repeat (first | exact Drawn0.refl _ | apply Drawn0.step)⟩
 replace c4 := Bool.eq_false_iff.mpr c4
 subst c4
 have H1 : (some (-1)) = some r := by rw [if_neg (show ¬ (false = true) by decide)] at H; exact H
 clear H
 have H := H1
 clear H1
 obtain rfl := Option.some.inj H
 go_enter Try.func28, Try.ntmps28
 go_wp2_with (first | ((with_reducible refine gate_callee (f := 25) rfl ?_); refine goesL_ (some 6) rfl rfl Try.func25 (by kernel_rfl) rfl #[.int .i64 a0, .int .i64 0, .int .i64 1000000] rfl ul_ ?_; (with_reducible refine (spec_l01In.calls a0 0 1000000 false _ A3.out).mono ?_); rintro e w' ⟨rfl, ⟨nd, rfl⟩⟩; refine ⟨_, rfl, ?_⟩))
 go_ret
 exact ⟨by first | rfl | (simp; done) | (simp [*]; done), by repeat (first | exact Drawn0.refl _ | apply Drawn0.step)⟩

/-! ### spec_l05Cap: function 29 -/
def spec_l05Cap.f (a0 : Int) : Option (Int) := if a0 > 1000000000 then (some 1000000000) else (if a0 < (-1000000000) then (some (-1000000000)) else (some a0))
set_option maxHeartbeats 8000000 in
set_option maxRecDepth 100000 in
theorem spec_l05Cap.calls (a0 : Int) (r : Int) (w : World) (h : spec_l05Cap.f a0 = some r) :
  Calls Try.prog 29 #[.int .i64 a0] w fun e w' => e = .returned (.int .i64 r) ∧ Drawn0 w w' := by
 have H : (if a0 > 1000000000 then (some 1000000000) else (if a0 < (-1000000000) then (some (-1000000000)) else (some a0))) = some r := h
 clear h
 by_cases c2 : a0 > 1000000000
 ·
  rw [if_pos c2] at H
  have c2b0 : decide (1000000000 < a0) = true := decide_eq_true c2
  clear c2
  obtain rfl := Option.some.inj H
  go_enter Try.func29, Try.ntmps29
  go_wp2
  go_ret
  exact ⟨by first | rfl | (simp; done) | (simp [*]; done), by repeat (first | exact Drawn0.refl _ | apply Drawn0.step)⟩
 rw [if_neg c2] at H
 have c2b0 : decide (1000000000 < a0) = false := decide_eq_false c2
 clear c2
 by_cases c3 : a0 < (-1000000000)
 ·
  rw [if_pos c3] at H
  have c3b0 : decide (a0 < (-1000000000)) = true := decide_eq_true c3
  clear c3
  obtain rfl := Option.some.inj H
  go_enter Try.func29, Try.ntmps29
  go_wp2
  go_ret
  exact ⟨by first | rfl | (simp; done) | (simp [*]; done), by repeat (first | exact Drawn0.refl _ | apply Drawn0.step)⟩
 rw [if_neg c3] at H
 have c3b0 : decide (a0 < (-1000000000)) = false := decide_eq_false c3
 clear c3
 obtain rfl := Option.some.inj H
 go_enter Try.func29, Try.ntmps29
 go_wp2
 go_ret
 exact ⟨by first | rfl | (simp; done) | (simp [*]; done), by repeat (first | exact Drawn0.refl _ | apply Drawn0.step)⟩

/-! ### spec_l05Sum: function 30 -/
def spec_l05Sum.f (a0_0 : Int) (a0_1 : Int) (a0_2 : Int) (a0_3 : Int) (a0_4 : Int) (a0_5 : Int) (a1_0 : Int) (a1_1 : Int) (a1_2 : Int) (a1_3 : Int) (a1_4 : Int) (a1_5 : Int) : Option (Int × Int × Int × Int × Int × Int) := (spec_l05Cap.f (wrap64 (a0_2 + a1_2))).bind fun t143 => ((spec_l05Cap.f (wrap64 (a0_3 + a1_3))).bind fun t144 => (if a1_4 < a0_4 then (if a1_5 > a0_5 then (some (a0_0, a0_1, t143, t144, a1_4, a1_5)) else (some (a0_0, a0_1, t143, t144, a1_4, a0_5))) else (if a1_5 > a0_5 then (some (a0_0, a0_1, t143, t144, a0_4, a1_5)) else (some (a0_0, a0_1, t143, t144, a0_4, a0_5)))))
set_option maxHeartbeats 8000000 in
set_option maxRecDepth 100000 in
theorem spec_l05Sum.calls (a0_0 : Int) (a0_1 : Int) (a0_2 : Int) (a0_3 : Int) (a0_4 : Int) (a0_5 : Int) (a1_0 : Int) (a1_1 : Int) (a1_2 : Int) (a1_3 : Int) (a1_4 : Int) (a1_5 : Int) (r1 : Int) (r2 : Int) (r3 : Int) (r4 : Int) (r5 : Int) (r6 : Int) (w : World) (h : spec_l05Sum.f a0_0 a0_1 a0_2 a0_3 a0_4 a0_5 a1_0 a1_1 a1_2 a1_3 a1_4 a1_5 = some (r1, r2, r3, r4, r5, r6)) :
  Calls Try.prog 30 #[.agg #[.int .i64 a0_0, .int .i64 a0_1, .int .i64 a0_2, .int .i64 a0_3, .int .i64 a0_4, .int .i64 a0_5], .agg #[.int .i64 a1_0, .int .i64 a1_1, .int .i64 a1_2, .int .i64 a1_3, .int .i64 a1_4, .int .i64 a1_5]] w fun e w' => e = .returned (.agg #[.int .i64 r1, .int .i64 r2, .int .i64 r3, .int .i64 r4, .int .i64 r5, .int .i64 r6]) ∧ Below w.heap.size w w' := by
 have hu62 := Try.underlying62
 have HB := am_ (Below.refl w.heap.size w)
 have H : ((spec_l05Cap.f (wrap64 (a0_2 + a1_2))).bind fun t143 => ((spec_l05Cap.f (wrap64 (a0_3 + a1_3))).bind fun t144 => (if a1_4 < a0_4 then (if a1_5 > a0_5 then (some (a0_0, a0_1, t143, t144, a1_4, a1_5)) else (some (a0_0, a0_1, t143, t144, a1_4, a0_5))) else (if a1_5 > a0_5 then (some (a0_0, a0_1, t143, t144, a0_4, a1_5)) else (some (a0_0, a0_1, t143, t144, a0_4, a0_5)))))) = some (r1, r2, r3, r4, r5, r6) := h
 clear h
 replace H := Option.bind_eq_some_iff.mp H
 obtain ⟨t143, A30, H⟩ := H
 replace H : ((spec_l05Cap.f (wrap64 (a0_3 + a1_3))).bind fun t144 => (if a1_4 < a0_4 then (if a1_5 > a0_5 then (some (a0_0, a0_1, t143, t144, a1_4, a1_5)) else (some (a0_0, a0_1, t143, t144, a1_4, a0_5))) else (if a1_5 > a0_5 then (some (a0_0, a0_1, t143, t144, a0_4, a1_5)) else (some (a0_0, a0_1, t143, t144, a0_4, a0_5))))) = some (r1, r2, r3, r4, r5, r6) := H
 have A3 := Aside0.mk A30
 clear A30
 replace H := Option.bind_eq_some_iff.mp H
 obtain ⟨t144, A40, H⟩ := H
 replace H : (if a1_4 < a0_4 then (if a1_5 > a0_5 then (some (a0_0, a0_1, t143, t144, a1_4, a1_5)) else (some (a0_0, a0_1, t143, t144, a1_4, a0_5))) else (if a1_5 > a0_5 then (some (a0_0, a0_1, t143, t144, a0_4, a1_5)) else (some (a0_0, a0_1, t143, t144, a0_4, a0_5)))) = some (r1, r2, r3, r4, r5, r6) := H
 have A4 := Aside0.mk A40
 clear A40
 by_cases c5 : a1_4 < a0_4
 ·
  rw [if_pos c5] at H
  have c5b0 : decide (a1_4 < a0_4) = true := decide_eq_true c5
  clear c5
  by_cases c6 : a1_5 > a0_5
  ·
   rw [if_pos c6] at H
   have c6b0 : decide (a0_5 < a1_5) = true := decide_eq_true c6
   clear c6
   simp only [Option.some.injEq, Prod.mk.injEq] at H
   obtain ⟨rfl, rfl, rfl, rfl, rfl, rfl⟩ := H
   go_enter Try.func30, Try.ntmps30
   go_wp2_with (first | ((with_reducible refine gate_dst (N := 2) rfl ?_); refine bx_ (N := 2) (cs := #[.int .i64 a0_0, .int .i64 a0_1, .int .i64 a0_2, .int .i64 a0_3, .int .i64 a0_4, .int .i64 a0_5]) (t := 62) ?_; intro gb139 hg w7 hbox hb; have BK139 := am_ (hbox); have GW139 := gs_ hg HB.out; have GE139 := gs_ hg HB.out; replace HB := hs_ HB hb; clear hb hbox hg) | ((with_reducible refine gate_dst (N := 3) rfl ?_); refine bx_ (N := 3) (cs := #[.int .i64 a1_0, .int .i64 a1_1, .int .i64 a1_2, .int .i64 a1_3, .int .i64 a1_4, .int .i64 a1_5]) (t := 62) ?_; intro gb140 hg w8 hbox hb; have BK140 := am_ (hbox); have GW140 := gs_ hg HB.out; have GE140 := gs_ hg HB.out; replace HB := hs_ HB hb; have NB139_140 := nl_ hg BK139.out; have NB140_139 := ng_ hg BK139.out; replace BK139 := bs_ BK139 hb; clear hb hbox hg) | ((with_reducible refine gate_dst (N := 4) rfl ?_); refine bx_ (N := 4) (cs := #[.int .i64 0, .int .i64 0, .int .i64 0, .int .i64 0, .int .i64 0, .int .i64 0]) (t := 62) ?_; intro gb141 hg w9 hbox hb; have BK141 := am_ (hbox); have GW141 := gs_ hg HB.out; have GE141 := gs_ hg HB.out; replace HB := hs_ HB hb; have NB139_141 := nl_ hg BK139.out; have NB141_139 := ng_ hg BK139.out; replace BK139 := bs_ BK139 hb; have NB140_141 := nl_ hg BK140.out; have NB141_140 := ng_ hg BK140.out; replace BK140 := bs_ BK140 hb; clear hb hbox hg; have hnb10 := NB139_140.out; have hnc10 := NB140_139.out; have hnb11 := NB139_141.out; have hnc11 := NB141_139.out; obtain ⟨hcz12_0, hcz12_1, hcz12_2, hcz12_3, hcz12_4, hcz12_5⟩ := cb6_ BK139.out; obtain ⟨hfz12_0, hfz12_1, hfz12_2, hfz12_3, hfz12_4⟩ := bf5_ BK139.out; have hfz12_5 := blk_frozen BK139.out 5) | ((with_reducible refine gate_dst (N := 5) rfl ?_); refine bx_ (N := 5) (cs := #[.int .i64 0, .int .i64 0, .int .i64 0, .int .i64 0, .int .i64 0, .int .i64 0]) (t := 62) ?_; intro gb142 hg w13 hbox hb; have BK142 := am_ (hbox); have GW142 := gs_ hg HB.out; have GE142 := gs_ hg HB.out; replace HB := hs_ HB hb; have NB139_142 := nl_ hg BK139.out; have NB142_139 := ng_ hg BK139.out; replace BK139 := bs_ BK139 hb; have NB140_142 := nl_ hg BK140.out; have NB142_140 := ng_ hg BK140.out; replace BK140 := bs_ BK140 hb; have NB141_142 := nl_ hg BK141.out; have NB142_141 := ng_ hg BK141.out; replace BK141 := bs_ BK141 hb; clear hb hbox hg; have hnb14 := NB142_139.out; have hnc14 := NB139_142.out; have hnb15 := NB142_140.out; have hnc15 := NB140_142.out; have hnb16 := NB142_141.out; have hnc16 := NB141_142.out; obtain ⟨hcz17_0, hcz17_1, hcz17_2, hcz17_3, hcz17_4, hcz17_5⟩ := cb6_ BK142.out; obtain ⟨hfz17_0, hfz17_1, hfz17_2, hfz17_3, hfz17_4⟩ := bf5_ BK142.out; have hfz17_5 := blk_frozen BK142.out 5) | ((with_reducible refine gate_store (t := 62) (p := 5) rfl ?_); refine st_ (w1 := ((((((w13.setCell ⟨gb142, 0, none⟩ (.int .i64 a0_0)).setCell ⟨gb142, 1, none⟩ (.int .i64 a0_1)).setCell ⟨gb142, 2, none⟩ (.int .i64 a0_2)).setCell ⟨gb142, 3, none⟩ (.int .i64 a0_3)).setCell ⟨gb142, 4, none⟩ (.int .i64 a0_4)).setCell ⟨gb142, 5, none⟩ (.int .i64 a0_5))) ?_; intro w18 hw; replace BK139 := uk_ hw BK139.out; replace BK140 := uk_ hw BK140.out; replace BK141 := uk_ hw BK141.out; replace BK142 : Aside0 (w18.heap[gb142]? = some (.cells #[.int .i64 a0_0, .int .i64 a0_1, .int .i64 a0_2, .int .i64 a0_3, .int .i64 a0_4, .int .i64 a0_5] 62 (0, 0))) := ⟨(by rw [hw]; exact (by (with_reducible repeat first|apply bn_|apply bd_|apply ba_); apply bp6_; (with_reducible repeat first|apply bn_|apply bd_|apply ba_); exact BK142.out))⟩; replace HB := uh_ hw HB.out; clear hw; obtain ⟨hcz19_0, hcz19_1, hcz19_2, hcz19_3, hcz19_4, hcz19_5⟩ := cb6_ BK139.out; obtain ⟨hfz19_0, hfz19_1, hfz19_2, hfz19_3, hfz19_4, hfz19_5⟩ := bf6_ BK139.out; have hnb20 := NB140_141.out; have hnc20 := NB141_140.out; obtain ⟨hcz21_0, hcz21_1, hcz21_2, hcz21_3, hcz21_4, hcz21_5⟩ := cb6_ BK140.out; obtain ⟨hfz21_0, hfz21_1, hfz21_2, hfz21_3, hfz21_4⟩ := bf5_ BK140.out; have hfz21_5 := blk_frozen BK140.out 5) | ((with_reducible refine gate_callee (f := 29) rfl ?_); refine goesL_ (some 12) rfl rfl Try.func29 (by kernel_rfl) rfl #[.int .i64 (wrap64 (a0_2 + a1_2))] rfl ul_ ?_; (with_reducible refine (spec_l05Cap.calls (wrap64 (a0_2 + a1_2)) t143 _ A3.out).mono ?_); rintro e w' ⟨rfl, ⟨nd, rfl⟩⟩; refine ⟨_, rfl, ?_⟩; (try (rw [drewN_self w18]; generalize hq_ : World.drewN w18 _ = w18; replace BK139 : Aside0 (w18.heap[gb139]? = some (.cells #[.int .i64 a0_0, .int .i64 a0_1, .int .i64 a0_2, .int .i64 a0_3, .int .i64 a0_4, .int .i64 a0_5] 62 (0, 0))) := ⟨by rw [← hq_]; exact (ub_ BK139.out)⟩; replace BK140 : Aside0 (w18.heap[gb140]? = some (.cells #[.int .i64 a1_0, .int .i64 a1_1, .int .i64 a1_2, .int .i64 a1_3, .int .i64 a1_4, .int .i64 a1_5] 62 (0, 0))) := ⟨by rw [← hq_]; exact (ub_ BK140.out)⟩; replace BK141 : Aside0 (w18.heap[gb141]? = some (.cells #[.int .i64 0, .int .i64 0, .int .i64 0, .int .i64 0, .int .i64 0, .int .i64 0] 62 (0, 0))) := ⟨by rw [← hq_]; exact (ub_ BK141.out)⟩; replace BK142 : Aside0 (w18.heap[gb142]? = some (.cells #[.int .i64 a0_0, .int .i64 a0_1, .int .i64 a0_2, .int .i64 a0_3, .int .i64 a0_4, .int .i64 a0_5] 62 (0, 0))) := ⟨by rw [← hq_]; exact (ub_ BK142.out)⟩; replace HB : Aside0 (Below w.heap.size w w18) := ⟨by rw [← hq_]; exact (ue_ HB.out)⟩; clear hq_)); obtain ⟨hcz22_0, hcz22_1, hcz22_2, hcz22_3, hcz22_4, hcz22_5⟩ := cb6_ BK142.out; obtain ⟨hfz22_0, hfz22_1, hfz22_2, hfz22_3, hfz22_4⟩ := bf5_ BK142.out; have hfz22_5 := blk_frozen BK142.out 5) | ((with_reducible refine gate_store (t := 3) (p := 13) rfl ?_); refine st_ (w1 := (w18.setCell ⟨gb142, 2, none⟩ (.int .i64 t143))) ?_; intro w23 hw; replace BK139 := uk_ hw BK139.out; replace BK140 := uk_ hw BK140.out; replace BK141 := uk_ hw BK141.out; replace BK142 : Aside0 (w23.heap[gb142]? = some (.cells #[.int .i64 a0_0, .int .i64 a0_1, .int .i64 t143, .int .i64 a0_3, .int .i64 a0_4, .int .i64 a0_5] 62 (0, 0))) := ⟨(by rw [hw]; exact (by (with_reducible repeat first|apply bn_|apply bd_|apply ba_); refine blk_put (cs := #[.int .i64 a0_0, .int .i64 a0_1, .int .i64 a0_2, .int .i64 a0_3, .int .i64 a0_4, .int .i64 a0_5]) ?_ 2 _ rfl; (with_reducible repeat first|apply bn_|apply bd_|apply ba_); exact BK142.out))⟩; replace HB := uh_ hw HB.out; clear hw; obtain ⟨hcz24_0, hcz24_1, hcz24_2, hcz24_3, hcz24_4, hcz24_5⟩ := cb6_ BK139.out; obtain ⟨hfz24_0, hfz24_1, hfz24_2, hfz24_3, hfz24_4, hfz24_5⟩ := bf6_ BK139.out; obtain ⟨hcz25_0, hcz25_1, hcz25_2, hcz25_3, hcz25_4, hcz25_5⟩ := cb6_ BK140.out; obtain ⟨hfz25_0, hfz25_1, hfz25_2, hfz25_3, hfz25_4⟩ := bf5_ BK140.out; have hfz25_5 := blk_frozen BK140.out 5) | ((with_reducible refine gate_callee (f := 29) rfl ?_); refine goesL_ (some 19) rfl rfl Try.func29 (by kernel_rfl) rfl #[.int .i64 (wrap64 (a0_3 + a1_3))] rfl ul_ ?_; (with_reducible refine (spec_l05Cap.calls (wrap64 (a0_3 + a1_3)) t144 _ A4.out).mono ?_); rintro e w' ⟨rfl, ⟨nd, rfl⟩⟩; refine ⟨_, rfl, ?_⟩; (try (rw [drewN_self w23]; generalize hq_ : World.drewN w23 _ = w23; replace BK139 : Aside0 (w23.heap[gb139]? = some (.cells #[.int .i64 a0_0, .int .i64 a0_1, .int .i64 a0_2, .int .i64 a0_3, .int .i64 a0_4, .int .i64 a0_5] 62 (0, 0))) := ⟨by rw [← hq_]; exact (ub_ BK139.out)⟩; replace BK140 : Aside0 (w23.heap[gb140]? = some (.cells #[.int .i64 a1_0, .int .i64 a1_1, .int .i64 a1_2, .int .i64 a1_3, .int .i64 a1_4, .int .i64 a1_5] 62 (0, 0))) := ⟨by rw [← hq_]; exact (ub_ BK140.out)⟩; replace BK141 : Aside0 (w23.heap[gb141]? = some (.cells #[.int .i64 0, .int .i64 0, .int .i64 0, .int .i64 0, .int .i64 0, .int .i64 0] 62 (0, 0))) := ⟨by rw [← hq_]; exact (ub_ BK141.out)⟩; replace BK142 : Aside0 (w23.heap[gb142]? = some (.cells #[.int .i64 a0_0, .int .i64 a0_1, .int .i64 t143, .int .i64 a0_3, .int .i64 a0_4, .int .i64 a0_5] 62 (0, 0))) := ⟨by rw [← hq_]; exact (ub_ BK142.out)⟩; replace HB : Aside0 (Below w.heap.size w w23) := ⟨by rw [← hq_]; exact (ue_ HB.out)⟩; clear hq_)); obtain ⟨hcz26_0, hcz26_1, hcz26_2, hcz26_3, hcz26_4, hcz26_5⟩ := cb6_ BK142.out; obtain ⟨hfz26_0, hfz26_1, hfz26_2, hfz26_3, hfz26_4⟩ := bf5_ BK142.out; have hfz26_5 := blk_frozen BK142.out 5) | ((with_reducible refine gate_store (t := 3) (p := 20) rfl ?_); refine st_ (w1 := (w23.setCell ⟨gb142, 3, none⟩ (.int .i64 t144))) ?_; intro w27 hw; replace BK139 := uk_ hw BK139.out; replace BK140 := uk_ hw BK140.out; replace BK141 := uk_ hw BK141.out; replace BK142 : Aside0 (w27.heap[gb142]? = some (.cells #[.int .i64 a0_0, .int .i64 a0_1, .int .i64 t143, .int .i64 t144, .int .i64 a0_4, .int .i64 a0_5] 62 (0, 0))) := ⟨(by rw [hw]; exact (by (with_reducible repeat first|apply bn_|apply bd_|apply ba_); refine blk_put (cs := #[.int .i64 a0_0, .int .i64 a0_1, .int .i64 t143, .int .i64 a0_3, .int .i64 a0_4, .int .i64 a0_5]) ?_ 3 _ rfl; (with_reducible repeat first|apply bn_|apply bd_|apply ba_); exact BK142.out))⟩; replace HB := uh_ hw HB.out; clear hw; obtain ⟨hcz28_0, hcz28_1, hcz28_2, hcz28_3, hcz28_4, hcz28_5⟩ := cb6_ BK140.out; obtain ⟨hfz28_0, hfz28_1, hfz28_2, hfz28_3, hfz28_4, hfz28_5⟩ := bf6_ BK140.out; obtain ⟨hcz29_0, hcz29_1, hcz29_2, hcz29_3, hcz29_4, hcz29_5⟩ := cb6_ BK139.out; obtain ⟨hfz29_0, hfz29_1, hfz29_2, hfz29_3, hfz29_4, hfz29_5⟩ := bf6_ BK139.out; obtain ⟨hcz30_0, hcz30_1, hcz30_2, hcz30_3, hcz30_4, hcz30_5⟩ := cb6_ BK142.out; obtain ⟨hfz30_0, hfz30_1, hfz30_2, hfz30_3, hfz30_4⟩ := bf5_ BK142.out; have hfz30_5 := blk_frozen BK142.out 5) | ((with_reducible refine gate_store (t := 3) (p := 28) rfl ?_); refine st_ (w1 := (w27.setCell ⟨gb142, 4, none⟩ (.int .i64 a1_4))) ?_; intro w31 hw; replace BK139 := uk_ hw BK139.out; replace BK140 := uk_ hw BK140.out; replace BK141 := uk_ hw BK141.out; replace BK142 : Aside0 (w31.heap[gb142]? = some (.cells #[.int .i64 a0_0, .int .i64 a0_1, .int .i64 t143, .int .i64 t144, .int .i64 a1_4, .int .i64 a0_5] 62 (0, 0))) := ⟨(by rw [hw]; exact (by (with_reducible repeat first|apply bn_|apply bd_|apply ba_); refine blk_put (cs := #[.int .i64 a0_0, .int .i64 a0_1, .int .i64 t143, .int .i64 t144, .int .i64 a0_4, .int .i64 a0_5]) ?_ 4 _ rfl; (with_reducible repeat first|apply bn_|apply bd_|apply ba_); exact BK142.out))⟩; replace HB := uh_ hw HB.out; clear hw; obtain ⟨hcz32_0, hcz32_1, hcz32_2, hcz32_3, hcz32_4, hcz32_5⟩ := cb6_ BK140.out; obtain ⟨hfz32_0, hfz32_1, hfz32_2, hfz32_3, hfz32_4, hfz32_5⟩ := bf6_ BK140.out; obtain ⟨hcz33_0, hcz33_1, hcz33_2, hcz33_3, hcz33_4, hcz33_5⟩ := cb6_ BK139.out; obtain ⟨hfz33_0, hfz33_1, hfz33_2, hfz33_3, hfz33_4, hfz33_5⟩ := bf6_ BK139.out; obtain ⟨hcz34_0, hcz34_1, hcz34_2, hcz34_3, hcz34_4, hcz34_5⟩ := cb6_ BK142.out; obtain ⟨hfz34_0, hfz34_1, hfz34_2, hfz34_3, hfz34_4⟩ := bf5_ BK142.out; have hfz34_5 := blk_frozen BK142.out 5) | ((with_reducible refine gate_store (t := 3) (p := 36) rfl ?_); refine st_ (w1 := (w31.setCell ⟨gb142, 5, none⟩ (.int .i64 a1_5))) ?_; intro w35 hw; replace BK139 := uk_ hw BK139.out; replace BK140 := uk_ hw BK140.out; replace BK141 := uk_ hw BK141.out; replace BK142 : Aside0 (w35.heap[gb142]? = some (.cells #[.int .i64 a0_0, .int .i64 a0_1, .int .i64 t143, .int .i64 t144, .int .i64 a1_4, .int .i64 a1_5] 62 (0, 0))) := ⟨(by rw [hw]; exact (by (with_reducible repeat first|apply bn_|apply bd_|apply ba_); refine blk_put (cs := #[.int .i64 a0_0, .int .i64 a0_1, .int .i64 t143, .int .i64 t144, .int .i64 a1_4, .int .i64 a0_5]) ?_ 5 _ rfl; (with_reducible repeat first|apply bn_|apply bd_|apply ba_); exact BK142.out))⟩; replace HB := uh_ hw HB.out; clear hw; obtain ⟨hcz36_0, hcz36_1, hcz36_2, hcz36_3, hcz36_4, hcz36_5⟩ := cb6_ BK142.out; obtain ⟨hfz36_0, hfz36_1, hfz36_2, hfz36_3, hfz36_4, hfz36_5⟩ := bf6_ BK142.out; obtain ⟨hcz37_0, hcz37_1, hcz37_2, hcz37_3, hcz37_4, hcz37_5⟩ := cb6_ BK141.out; obtain ⟨hfz37_0, hfz37_1, hfz37_2, hfz37_3, hfz37_4⟩ := bf5_ BK141.out; have hfz37_5 := blk_frozen BK141.out 5) | ((with_reducible refine gate_store (t := 62) (p := 4) rfl ?_); refine st_ (w1 := ((((((w35.setCell ⟨gb141, 0, none⟩ (.int .i64 a0_0)).setCell ⟨gb141, 1, none⟩ (.int .i64 a0_1)).setCell ⟨gb141, 2, none⟩ (.int .i64 t143)).setCell ⟨gb141, 3, none⟩ (.int .i64 t144)).setCell ⟨gb141, 4, none⟩ (.int .i64 a1_4)).setCell ⟨gb141, 5, none⟩ (.int .i64 a1_5))) ?_; intro w38 hw; replace BK139 := uk_ hw BK139.out; replace BK140 := uk_ hw BK140.out; replace BK141 : Aside0 (w38.heap[gb141]? = some (.cells #[.int .i64 a0_0, .int .i64 a0_1, .int .i64 t143, .int .i64 t144, .int .i64 a1_4, .int .i64 a1_5] 62 (0, 0))) := ⟨(by rw [hw]; exact (by (with_reducible repeat first|apply bn_|apply bd_|apply ba_); apply bp6_; (with_reducible repeat first|apply bn_|apply bd_|apply ba_); exact BK141.out))⟩; replace BK142 := uk_ hw BK142.out; replace HB := uh_ hw HB.out; clear hw))
   refine bodyPost_ret (results_cell_row rfl _ _ gb141 62 #[.int .i64 a0_0, .int .i64 a0_1, .int .i64 t143, .int .i64 t144, .int .i64 a1_4, .int .i64 a1_5] (0, 0) _ rfl (ub_ BK141.out) Try.underlying62 rfl (by kernel_rfl)) rfl ?_
   exact ⟨ew_, ue_ HB.out⟩
  rw [if_neg c6] at H
  have c6b0 : decide (a0_5 < a1_5) = false := decide_eq_false c6
  clear c6
  simp only [Option.some.injEq, Prod.mk.injEq] at H
  obtain ⟨rfl, rfl, rfl, rfl, rfl, rfl⟩ := H
  go_enter Try.func30, Try.ntmps30
  go_wp2_with (first | ((with_reducible refine gate_dst (N := 2) rfl ?_); refine bx_ (N := 2) (cs := #[.int .i64 a0_0, .int .i64 a0_1, .int .i64 a0_2, .int .i64 a0_3, .int .i64 a0_4, .int .i64 a0_5]) (t := 62) ?_; intro gb139 hg w39 hbox hb; have BK139 := am_ (hbox); have GW139 := gs_ hg HB.out; have GE139 := gs_ hg HB.out; replace HB := hs_ HB hb; clear hb hbox hg) | ((with_reducible refine gate_dst (N := 3) rfl ?_); refine bx_ (N := 3) (cs := #[.int .i64 a1_0, .int .i64 a1_1, .int .i64 a1_2, .int .i64 a1_3, .int .i64 a1_4, .int .i64 a1_5]) (t := 62) ?_; intro gb140 hg w40 hbox hb; have BK140 := am_ (hbox); have GW140 := gs_ hg HB.out; have GE140 := gs_ hg HB.out; replace HB := hs_ HB hb; have NB139_140 := nl_ hg BK139.out; have NB140_139 := ng_ hg BK139.out; replace BK139 := bs_ BK139 hb; clear hb hbox hg) | ((with_reducible refine gate_dst (N := 4) rfl ?_); refine bx_ (N := 4) (cs := #[.int .i64 0, .int .i64 0, .int .i64 0, .int .i64 0, .int .i64 0, .int .i64 0]) (t := 62) ?_; intro gb141 hg w41 hbox hb; have BK141 := am_ (hbox); have GW141 := gs_ hg HB.out; have GE141 := gs_ hg HB.out; replace HB := hs_ HB hb; have NB139_141 := nl_ hg BK139.out; have NB141_139 := ng_ hg BK139.out; replace BK139 := bs_ BK139 hb; have NB140_141 := nl_ hg BK140.out; have NB141_140 := ng_ hg BK140.out; replace BK140 := bs_ BK140 hb; clear hb hbox hg; have hnb42 := NB139_140.out; have hnc42 := NB140_139.out; have hnb43 := NB139_141.out; have hnc43 := NB141_139.out; obtain ⟨hcz44_0, hcz44_1, hcz44_2, hcz44_3, hcz44_4, hcz44_5⟩ := cb6_ BK139.out; obtain ⟨hfz44_0, hfz44_1, hfz44_2, hfz44_3, hfz44_4⟩ := bf5_ BK139.out; have hfz44_5 := blk_frozen BK139.out 5) | ((with_reducible refine gate_dst (N := 5) rfl ?_); refine bx_ (N := 5) (cs := #[.int .i64 0, .int .i64 0, .int .i64 0, .int .i64 0, .int .i64 0, .int .i64 0]) (t := 62) ?_; intro gb142 hg w45 hbox hb; have BK142 := am_ (hbox); have GW142 := gs_ hg HB.out; have GE142 := gs_ hg HB.out; replace HB := hs_ HB hb; have NB139_142 := nl_ hg BK139.out; have NB142_139 := ng_ hg BK139.out; replace BK139 := bs_ BK139 hb; have NB140_142 := nl_ hg BK140.out; have NB142_140 := ng_ hg BK140.out; replace BK140 := bs_ BK140 hb; have NB141_142 := nl_ hg BK141.out; have NB142_141 := ng_ hg BK141.out; replace BK141 := bs_ BK141 hb; clear hb hbox hg; have hnb46 := NB142_139.out; have hnc46 := NB139_142.out; have hnb47 := NB142_140.out; have hnc47 := NB140_142.out; have hnb48 := NB142_141.out; have hnc48 := NB141_142.out; obtain ⟨hcz49_0, hcz49_1, hcz49_2, hcz49_3, hcz49_4, hcz49_5⟩ := cb6_ BK142.out; obtain ⟨hfz49_0, hfz49_1, hfz49_2, hfz49_3, hfz49_4⟩ := bf5_ BK142.out; have hfz49_5 := blk_frozen BK142.out 5) | ((with_reducible refine gate_store (t := 62) (p := 5) rfl ?_); refine st_ (w1 := ((((((w45.setCell ⟨gb142, 0, none⟩ (.int .i64 a0_0)).setCell ⟨gb142, 1, none⟩ (.int .i64 a0_1)).setCell ⟨gb142, 2, none⟩ (.int .i64 a0_2)).setCell ⟨gb142, 3, none⟩ (.int .i64 a0_3)).setCell ⟨gb142, 4, none⟩ (.int .i64 a0_4)).setCell ⟨gb142, 5, none⟩ (.int .i64 a0_5))) ?_; intro w50 hw; replace BK139 := uk_ hw BK139.out; replace BK140 := uk_ hw BK140.out; replace BK141 := uk_ hw BK141.out; replace BK142 : Aside0 (w50.heap[gb142]? = some (.cells #[.int .i64 a0_0, .int .i64 a0_1, .int .i64 a0_2, .int .i64 a0_3, .int .i64 a0_4, .int .i64 a0_5] 62 (0, 0))) := ⟨(by rw [hw]; exact (by (with_reducible repeat first|apply bn_|apply bd_|apply ba_); apply bp6_; (with_reducible repeat first|apply bn_|apply bd_|apply ba_); exact BK142.out))⟩; replace HB := uh_ hw HB.out; clear hw; obtain ⟨hcz51_0, hcz51_1, hcz51_2, hcz51_3, hcz51_4, hcz51_5⟩ := cb6_ BK139.out; obtain ⟨hfz51_0, hfz51_1, hfz51_2, hfz51_3, hfz51_4, hfz51_5⟩ := bf6_ BK139.out; have hnb52 := NB140_141.out; have hnc52 := NB141_140.out; obtain ⟨hcz53_0, hcz53_1, hcz53_2, hcz53_3, hcz53_4, hcz53_5⟩ := cb6_ BK140.out; obtain ⟨hfz53_0, hfz53_1, hfz53_2, hfz53_3, hfz53_4⟩ := bf5_ BK140.out; have hfz53_5 := blk_frozen BK140.out 5) | ((with_reducible refine gate_callee (f := 29) rfl ?_); refine goesL_ (some 12) rfl rfl Try.func29 (by kernel_rfl) rfl #[.int .i64 (wrap64 (a0_2 + a1_2))] rfl ul_ ?_; (with_reducible refine (spec_l05Cap.calls (wrap64 (a0_2 + a1_2)) t143 _ A3.out).mono ?_); rintro e w' ⟨rfl, ⟨nd, rfl⟩⟩; refine ⟨_, rfl, ?_⟩; (try (rw [drewN_self w50]; generalize hq_ : World.drewN w50 _ = w50; replace BK139 : Aside0 (w50.heap[gb139]? = some (.cells #[.int .i64 a0_0, .int .i64 a0_1, .int .i64 a0_2, .int .i64 a0_3, .int .i64 a0_4, .int .i64 a0_5] 62 (0, 0))) := ⟨by rw [← hq_]; exact (ub_ BK139.out)⟩; replace BK140 : Aside0 (w50.heap[gb140]? = some (.cells #[.int .i64 a1_0, .int .i64 a1_1, .int .i64 a1_2, .int .i64 a1_3, .int .i64 a1_4, .int .i64 a1_5] 62 (0, 0))) := ⟨by rw [← hq_]; exact (ub_ BK140.out)⟩; replace BK141 : Aside0 (w50.heap[gb141]? = some (.cells #[.int .i64 0, .int .i64 0, .int .i64 0, .int .i64 0, .int .i64 0, .int .i64 0] 62 (0, 0))) := ⟨by rw [← hq_]; exact (ub_ BK141.out)⟩; replace BK142 : Aside0 (w50.heap[gb142]? = some (.cells #[.int .i64 a0_0, .int .i64 a0_1, .int .i64 a0_2, .int .i64 a0_3, .int .i64 a0_4, .int .i64 a0_5] 62 (0, 0))) := ⟨by rw [← hq_]; exact (ub_ BK142.out)⟩; replace HB : Aside0 (Below w.heap.size w w50) := ⟨by rw [← hq_]; exact (ue_ HB.out)⟩; clear hq_)); obtain ⟨hcz54_0, hcz54_1, hcz54_2, hcz54_3, hcz54_4, hcz54_5⟩ := cb6_ BK142.out; obtain ⟨hfz54_0, hfz54_1, hfz54_2, hfz54_3, hfz54_4⟩ := bf5_ BK142.out; have hfz54_5 := blk_frozen BK142.out 5) | ((with_reducible refine gate_store (t := 3) (p := 13) rfl ?_); refine st_ (w1 := (w50.setCell ⟨gb142, 2, none⟩ (.int .i64 t143))) ?_; intro w55 hw; replace BK139 := uk_ hw BK139.out; replace BK140 := uk_ hw BK140.out; replace BK141 := uk_ hw BK141.out; replace BK142 : Aside0 (w55.heap[gb142]? = some (.cells #[.int .i64 a0_0, .int .i64 a0_1, .int .i64 t143, .int .i64 a0_3, .int .i64 a0_4, .int .i64 a0_5] 62 (0, 0))) := ⟨(by rw [hw]; exact (by (with_reducible repeat first|apply bn_|apply bd_|apply ba_); refine blk_put (cs := #[.int .i64 a0_0, .int .i64 a0_1, .int .i64 a0_2, .int .i64 a0_3, .int .i64 a0_4, .int .i64 a0_5]) ?_ 2 _ rfl; (with_reducible repeat first|apply bn_|apply bd_|apply ba_); exact BK142.out))⟩; replace HB := uh_ hw HB.out; clear hw; obtain ⟨hcz56_0, hcz56_1, hcz56_2, hcz56_3, hcz56_4, hcz56_5⟩ := cb6_ BK139.out; obtain ⟨hfz56_0, hfz56_1, hfz56_2, hfz56_3, hfz56_4, hfz56_5⟩ := bf6_ BK139.out; obtain ⟨hcz57_0, hcz57_1, hcz57_2, hcz57_3, hcz57_4, hcz57_5⟩ := cb6_ BK140.out; obtain ⟨hfz57_0, hfz57_1, hfz57_2, hfz57_3, hfz57_4⟩ := bf5_ BK140.out; have hfz57_5 := blk_frozen BK140.out 5) | ((with_reducible refine gate_callee (f := 29) rfl ?_); refine goesL_ (some 19) rfl rfl Try.func29 (by kernel_rfl) rfl #[.int .i64 (wrap64 (a0_3 + a1_3))] rfl ul_ ?_; (with_reducible refine (spec_l05Cap.calls (wrap64 (a0_3 + a1_3)) t144 _ A4.out).mono ?_); rintro e w' ⟨rfl, ⟨nd, rfl⟩⟩; refine ⟨_, rfl, ?_⟩; (try (rw [drewN_self w55]; generalize hq_ : World.drewN w55 _ = w55; replace BK139 : Aside0 (w55.heap[gb139]? = some (.cells #[.int .i64 a0_0, .int .i64 a0_1, .int .i64 a0_2, .int .i64 a0_3, .int .i64 a0_4, .int .i64 a0_5] 62 (0, 0))) := ⟨by rw [← hq_]; exact (ub_ BK139.out)⟩; replace BK140 : Aside0 (w55.heap[gb140]? = some (.cells #[.int .i64 a1_0, .int .i64 a1_1, .int .i64 a1_2, .int .i64 a1_3, .int .i64 a1_4, .int .i64 a1_5] 62 (0, 0))) := ⟨by rw [← hq_]; exact (ub_ BK140.out)⟩; replace BK141 : Aside0 (w55.heap[gb141]? = some (.cells #[.int .i64 0, .int .i64 0, .int .i64 0, .int .i64 0, .int .i64 0, .int .i64 0] 62 (0, 0))) := ⟨by rw [← hq_]; exact (ub_ BK141.out)⟩; replace BK142 : Aside0 (w55.heap[gb142]? = some (.cells #[.int .i64 a0_0, .int .i64 a0_1, .int .i64 t143, .int .i64 a0_3, .int .i64 a0_4, .int .i64 a0_5] 62 (0, 0))) := ⟨by rw [← hq_]; exact (ub_ BK142.out)⟩; replace HB : Aside0 (Below w.heap.size w w55) := ⟨by rw [← hq_]; exact (ue_ HB.out)⟩; clear hq_)); obtain ⟨hcz58_0, hcz58_1, hcz58_2, hcz58_3, hcz58_4, hcz58_5⟩ := cb6_ BK142.out; obtain ⟨hfz58_0, hfz58_1, hfz58_2, hfz58_3, hfz58_4⟩ := bf5_ BK142.out; have hfz58_5 := blk_frozen BK142.out 5) | ((with_reducible refine gate_store (t := 3) (p := 20) rfl ?_); refine st_ (w1 := (w55.setCell ⟨gb142, 3, none⟩ (.int .i64 t144))) ?_; intro w59 hw; replace BK139 := uk_ hw BK139.out; replace BK140 := uk_ hw BK140.out; replace BK141 := uk_ hw BK141.out; replace BK142 : Aside0 (w59.heap[gb142]? = some (.cells #[.int .i64 a0_0, .int .i64 a0_1, .int .i64 t143, .int .i64 t144, .int .i64 a0_4, .int .i64 a0_5] 62 (0, 0))) := ⟨(by rw [hw]; exact (by (with_reducible repeat first|apply bn_|apply bd_|apply ba_); refine blk_put (cs := #[.int .i64 a0_0, .int .i64 a0_1, .int .i64 t143, .int .i64 a0_3, .int .i64 a0_4, .int .i64 a0_5]) ?_ 3 _ rfl; (with_reducible repeat first|apply bn_|apply bd_|apply ba_); exact BK142.out))⟩; replace HB := uh_ hw HB.out; clear hw; obtain ⟨hcz60_0, hcz60_1, hcz60_2, hcz60_3, hcz60_4, hcz60_5⟩ := cb6_ BK140.out; obtain ⟨hfz60_0, hfz60_1, hfz60_2, hfz60_3, hfz60_4, hfz60_5⟩ := bf6_ BK140.out; obtain ⟨hcz61_0, hcz61_1, hcz61_2, hcz61_3, hcz61_4, hcz61_5⟩ := cb6_ BK139.out; obtain ⟨hfz61_0, hfz61_1, hfz61_2, hfz61_3, hfz61_4, hfz61_5⟩ := bf6_ BK139.out; obtain ⟨hcz62_0, hcz62_1, hcz62_2, hcz62_3, hcz62_4, hcz62_5⟩ := cb6_ BK142.out; obtain ⟨hfz62_0, hfz62_1, hfz62_2, hfz62_3, hfz62_4⟩ := bf5_ BK142.out; have hfz62_5 := blk_frozen BK142.out 5) | ((with_reducible refine gate_store (t := 3) (p := 28) rfl ?_); refine st_ (w1 := (w59.setCell ⟨gb142, 4, none⟩ (.int .i64 a1_4))) ?_; intro w63 hw; replace BK139 := uk_ hw BK139.out; replace BK140 := uk_ hw BK140.out; replace BK141 := uk_ hw BK141.out; replace BK142 : Aside0 (w63.heap[gb142]? = some (.cells #[.int .i64 a0_0, .int .i64 a0_1, .int .i64 t143, .int .i64 t144, .int .i64 a1_4, .int .i64 a0_5] 62 (0, 0))) := ⟨(by rw [hw]; exact (by (with_reducible repeat first|apply bn_|apply bd_|apply ba_); refine blk_put (cs := #[.int .i64 a0_0, .int .i64 a0_1, .int .i64 t143, .int .i64 t144, .int .i64 a0_4, .int .i64 a0_5]) ?_ 4 _ rfl; (with_reducible repeat first|apply bn_|apply bd_|apply ba_); exact BK142.out))⟩; replace HB := uh_ hw HB.out; clear hw; obtain ⟨hcz64_0, hcz64_1, hcz64_2, hcz64_3, hcz64_4, hcz64_5⟩ := cb6_ BK140.out; obtain ⟨hfz64_0, hfz64_1, hfz64_2, hfz64_3, hfz64_4, hfz64_5⟩ := bf6_ BK140.out; obtain ⟨hcz65_0, hcz65_1, hcz65_2, hcz65_3, hcz65_4, hcz65_5⟩ := cb6_ BK139.out; obtain ⟨hfz65_0, hfz65_1, hfz65_2, hfz65_3, hfz65_4, hfz65_5⟩ := bf6_ BK139.out; obtain ⟨hcz66_0, hcz66_1, hcz66_2, hcz66_3, hcz66_4, hcz66_5⟩ := cb6_ BK142.out; obtain ⟨hfz66_0, hfz66_1, hfz66_2, hfz66_3, hfz66_4, hfz66_5⟩ := bf6_ BK142.out; obtain ⟨hcz67_0, hcz67_1, hcz67_2, hcz67_3, hcz67_4, hcz67_5⟩ := cb6_ BK141.out; obtain ⟨hfz67_0, hfz67_1, hfz67_2, hfz67_3, hfz67_4⟩ := bf5_ BK141.out; have hfz67_5 := blk_frozen BK141.out 5) | ((with_reducible refine gate_store (t := 62) (p := 4) rfl ?_); refine st_ (w1 := ((((((w63.setCell ⟨gb141, 0, none⟩ (.int .i64 a0_0)).setCell ⟨gb141, 1, none⟩ (.int .i64 a0_1)).setCell ⟨gb141, 2, none⟩ (.int .i64 t143)).setCell ⟨gb141, 3, none⟩ (.int .i64 t144)).setCell ⟨gb141, 4, none⟩ (.int .i64 a1_4)).setCell ⟨gb141, 5, none⟩ (.int .i64 a0_5))) ?_; intro w68 hw; replace BK139 := uk_ hw BK139.out; replace BK140 := uk_ hw BK140.out; replace BK141 : Aside0 (w68.heap[gb141]? = some (.cells #[.int .i64 a0_0, .int .i64 a0_1, .int .i64 t143, .int .i64 t144, .int .i64 a1_4, .int .i64 a0_5] 62 (0, 0))) := ⟨(by rw [hw]; exact (by (with_reducible repeat first|apply bn_|apply bd_|apply ba_); apply bp6_; (with_reducible repeat first|apply bn_|apply bd_|apply ba_); exact BK141.out))⟩; replace BK142 := uk_ hw BK142.out; replace HB := uh_ hw HB.out; clear hw))
  refine bodyPost_ret (results_cell_row rfl _ _ gb141 62 #[.int .i64 a0_0, .int .i64 a0_1, .int .i64 t143, .int .i64 t144, .int .i64 a1_4, .int .i64 a0_5] (0, 0) _ rfl (ub_ BK141.out) Try.underlying62 rfl (by kernel_rfl)) rfl ?_
  exact ⟨ew_, ue_ HB.out⟩
 rw [if_neg c5] at H
 have c5b0 : decide (a1_4 < a0_4) = false := decide_eq_false c5
 clear c5
 by_cases c69 : a1_5 > a0_5
 ·
  rw [if_pos c69] at H
  have c69b0 : decide (a0_5 < a1_5) = true := decide_eq_true c69
  clear c69
  simp only [Option.some.injEq, Prod.mk.injEq] at H
  obtain ⟨rfl, rfl, rfl, rfl, rfl, rfl⟩ := H
  go_enter Try.func30, Try.ntmps30
  go_wp2_with (first | ((with_reducible refine gate_dst (N := 2) rfl ?_); refine bx_ (N := 2) (cs := #[.int .i64 a0_0, .int .i64 a0_1, .int .i64 a0_2, .int .i64 a0_3, .int .i64 a0_4, .int .i64 a0_5]) (t := 62) ?_; intro gb139 hg w70 hbox hb; have BK139 := am_ (hbox); have GW139 := gs_ hg HB.out; have GE139 := gs_ hg HB.out; replace HB := hs_ HB hb; clear hb hbox hg) | ((with_reducible refine gate_dst (N := 3) rfl ?_); refine bx_ (N := 3) (cs := #[.int .i64 a1_0, .int .i64 a1_1, .int .i64 a1_2, .int .i64 a1_3, .int .i64 a1_4, .int .i64 a1_5]) (t := 62) ?_; intro gb140 hg w71 hbox hb; have BK140 := am_ (hbox); have GW140 := gs_ hg HB.out; have GE140 := gs_ hg HB.out; replace HB := hs_ HB hb; have NB139_140 := nl_ hg BK139.out; have NB140_139 := ng_ hg BK139.out; replace BK139 := bs_ BK139 hb; clear hb hbox hg) | ((with_reducible refine gate_dst (N := 4) rfl ?_); refine bx_ (N := 4) (cs := #[.int .i64 0, .int .i64 0, .int .i64 0, .int .i64 0, .int .i64 0, .int .i64 0]) (t := 62) ?_; intro gb141 hg w72 hbox hb; have BK141 := am_ (hbox); have GW141 := gs_ hg HB.out; have GE141 := gs_ hg HB.out; replace HB := hs_ HB hb; have NB139_141 := nl_ hg BK139.out; have NB141_139 := ng_ hg BK139.out; replace BK139 := bs_ BK139 hb; have NB140_141 := nl_ hg BK140.out; have NB141_140 := ng_ hg BK140.out; replace BK140 := bs_ BK140 hb; clear hb hbox hg; have hnb73 := NB139_140.out; have hnc73 := NB140_139.out; have hnb74 := NB139_141.out; have hnc74 := NB141_139.out; obtain ⟨hcz75_0, hcz75_1, hcz75_2, hcz75_3, hcz75_4, hcz75_5⟩ := cb6_ BK139.out; obtain ⟨hfz75_0, hfz75_1, hfz75_2, hfz75_3, hfz75_4⟩ := bf5_ BK139.out; have hfz75_5 := blk_frozen BK139.out 5) | ((with_reducible refine gate_dst (N := 5) rfl ?_); refine bx_ (N := 5) (cs := #[.int .i64 0, .int .i64 0, .int .i64 0, .int .i64 0, .int .i64 0, .int .i64 0]) (t := 62) ?_; intro gb142 hg w76 hbox hb; have BK142 := am_ (hbox); have GW142 := gs_ hg HB.out; have GE142 := gs_ hg HB.out; replace HB := hs_ HB hb; have NB139_142 := nl_ hg BK139.out; have NB142_139 := ng_ hg BK139.out; replace BK139 := bs_ BK139 hb; have NB140_142 := nl_ hg BK140.out; have NB142_140 := ng_ hg BK140.out; replace BK140 := bs_ BK140 hb; have NB141_142 := nl_ hg BK141.out; have NB142_141 := ng_ hg BK141.out; replace BK141 := bs_ BK141 hb; clear hb hbox hg; have hnb77 := NB142_139.out; have hnc77 := NB139_142.out; have hnb78 := NB142_140.out; have hnc78 := NB140_142.out; have hnb79 := NB142_141.out; have hnc79 := NB141_142.out; obtain ⟨hcz80_0, hcz80_1, hcz80_2, hcz80_3, hcz80_4, hcz80_5⟩ := cb6_ BK142.out; obtain ⟨hfz80_0, hfz80_1, hfz80_2, hfz80_3, hfz80_4⟩ := bf5_ BK142.out; have hfz80_5 := blk_frozen BK142.out 5) | ((with_reducible refine gate_store (t := 62) (p := 5) rfl ?_); refine st_ (w1 := ((((((w76.setCell ⟨gb142, 0, none⟩ (.int .i64 a0_0)).setCell ⟨gb142, 1, none⟩ (.int .i64 a0_1)).setCell ⟨gb142, 2, none⟩ (.int .i64 a0_2)).setCell ⟨gb142, 3, none⟩ (.int .i64 a0_3)).setCell ⟨gb142, 4, none⟩ (.int .i64 a0_4)).setCell ⟨gb142, 5, none⟩ (.int .i64 a0_5))) ?_; intro w81 hw; replace BK139 := uk_ hw BK139.out; replace BK140 := uk_ hw BK140.out; replace BK141 := uk_ hw BK141.out; replace BK142 : Aside0 (w81.heap[gb142]? = some (.cells #[.int .i64 a0_0, .int .i64 a0_1, .int .i64 a0_2, .int .i64 a0_3, .int .i64 a0_4, .int .i64 a0_5] 62 (0, 0))) := ⟨(by rw [hw]; exact (by (with_reducible repeat first|apply bn_|apply bd_|apply ba_); apply bp6_; (with_reducible repeat first|apply bn_|apply bd_|apply ba_); exact BK142.out))⟩; replace HB := uh_ hw HB.out; clear hw; obtain ⟨hcz82_0, hcz82_1, hcz82_2, hcz82_3, hcz82_4, hcz82_5⟩ := cb6_ BK139.out; obtain ⟨hfz82_0, hfz82_1, hfz82_2, hfz82_3, hfz82_4, hfz82_5⟩ := bf6_ BK139.out; have hnb83 := NB140_141.out; have hnc83 := NB141_140.out; obtain ⟨hcz84_0, hcz84_1, hcz84_2, hcz84_3, hcz84_4, hcz84_5⟩ := cb6_ BK140.out; obtain ⟨hfz84_0, hfz84_1, hfz84_2, hfz84_3, hfz84_4⟩ := bf5_ BK140.out; have hfz84_5 := blk_frozen BK140.out 5) | ((with_reducible refine gate_callee (f := 29) rfl ?_); refine goesL_ (some 12) rfl rfl Try.func29 (by kernel_rfl) rfl #[.int .i64 (wrap64 (a0_2 + a1_2))] rfl ul_ ?_; (with_reducible refine (spec_l05Cap.calls (wrap64 (a0_2 + a1_2)) t143 _ A3.out).mono ?_); rintro e w' ⟨rfl, ⟨nd, rfl⟩⟩; refine ⟨_, rfl, ?_⟩; (try (rw [drewN_self w81]; generalize hq_ : World.drewN w81 _ = w81; replace BK139 : Aside0 (w81.heap[gb139]? = some (.cells #[.int .i64 a0_0, .int .i64 a0_1, .int .i64 a0_2, .int .i64 a0_3, .int .i64 a0_4, .int .i64 a0_5] 62 (0, 0))) := ⟨by rw [← hq_]; exact (ub_ BK139.out)⟩; replace BK140 : Aside0 (w81.heap[gb140]? = some (.cells #[.int .i64 a1_0, .int .i64 a1_1, .int .i64 a1_2, .int .i64 a1_3, .int .i64 a1_4, .int .i64 a1_5] 62 (0, 0))) := ⟨by rw [← hq_]; exact (ub_ BK140.out)⟩; replace BK141 : Aside0 (w81.heap[gb141]? = some (.cells #[.int .i64 0, .int .i64 0, .int .i64 0, .int .i64 0, .int .i64 0, .int .i64 0] 62 (0, 0))) := ⟨by rw [← hq_]; exact (ub_ BK141.out)⟩; replace BK142 : Aside0 (w81.heap[gb142]? = some (.cells #[.int .i64 a0_0, .int .i64 a0_1, .int .i64 a0_2, .int .i64 a0_3, .int .i64 a0_4, .int .i64 a0_5] 62 (0, 0))) := ⟨by rw [← hq_]; exact (ub_ BK142.out)⟩; replace HB : Aside0 (Below w.heap.size w w81) := ⟨by rw [← hq_]; exact (ue_ HB.out)⟩; clear hq_)); obtain ⟨hcz85_0, hcz85_1, hcz85_2, hcz85_3, hcz85_4, hcz85_5⟩ := cb6_ BK142.out; obtain ⟨hfz85_0, hfz85_1, hfz85_2, hfz85_3, hfz85_4⟩ := bf5_ BK142.out; have hfz85_5 := blk_frozen BK142.out 5) | ((with_reducible refine gate_store (t := 3) (p := 13) rfl ?_); refine st_ (w1 := (w81.setCell ⟨gb142, 2, none⟩ (.int .i64 t143))) ?_; intro w86 hw; replace BK139 := uk_ hw BK139.out; replace BK140 := uk_ hw BK140.out; replace BK141 := uk_ hw BK141.out; replace BK142 : Aside0 (w86.heap[gb142]? = some (.cells #[.int .i64 a0_0, .int .i64 a0_1, .int .i64 t143, .int .i64 a0_3, .int .i64 a0_4, .int .i64 a0_5] 62 (0, 0))) := ⟨(by rw [hw]; exact (by (with_reducible repeat first|apply bn_|apply bd_|apply ba_); refine blk_put (cs := #[.int .i64 a0_0, .int .i64 a0_1, .int .i64 a0_2, .int .i64 a0_3, .int .i64 a0_4, .int .i64 a0_5]) ?_ 2 _ rfl; (with_reducible repeat first|apply bn_|apply bd_|apply ba_); exact BK142.out))⟩; replace HB := uh_ hw HB.out; clear hw; obtain ⟨hcz87_0, hcz87_1, hcz87_2, hcz87_3, hcz87_4, hcz87_5⟩ := cb6_ BK139.out; obtain ⟨hfz87_0, hfz87_1, hfz87_2, hfz87_3, hfz87_4, hfz87_5⟩ := bf6_ BK139.out; obtain ⟨hcz88_0, hcz88_1, hcz88_2, hcz88_3, hcz88_4, hcz88_5⟩ := cb6_ BK140.out; obtain ⟨hfz88_0, hfz88_1, hfz88_2, hfz88_3, hfz88_4⟩ := bf5_ BK140.out; have hfz88_5 := blk_frozen BK140.out 5) | ((with_reducible refine gate_callee (f := 29) rfl ?_); refine goesL_ (some 19) rfl rfl Try.func29 (by kernel_rfl) rfl #[.int .i64 (wrap64 (a0_3 + a1_3))] rfl ul_ ?_; (with_reducible refine (spec_l05Cap.calls (wrap64 (a0_3 + a1_3)) t144 _ A4.out).mono ?_); rintro e w' ⟨rfl, ⟨nd, rfl⟩⟩; refine ⟨_, rfl, ?_⟩; (try (rw [drewN_self w86]; generalize hq_ : World.drewN w86 _ = w86; replace BK139 : Aside0 (w86.heap[gb139]? = some (.cells #[.int .i64 a0_0, .int .i64 a0_1, .int .i64 a0_2, .int .i64 a0_3, .int .i64 a0_4, .int .i64 a0_5] 62 (0, 0))) := ⟨by rw [← hq_]; exact (ub_ BK139.out)⟩; replace BK140 : Aside0 (w86.heap[gb140]? = some (.cells #[.int .i64 a1_0, .int .i64 a1_1, .int .i64 a1_2, .int .i64 a1_3, .int .i64 a1_4, .int .i64 a1_5] 62 (0, 0))) := ⟨by rw [← hq_]; exact (ub_ BK140.out)⟩; replace BK141 : Aside0 (w86.heap[gb141]? = some (.cells #[.int .i64 0, .int .i64 0, .int .i64 0, .int .i64 0, .int .i64 0, .int .i64 0] 62 (0, 0))) := ⟨by rw [← hq_]; exact (ub_ BK141.out)⟩; replace BK142 : Aside0 (w86.heap[gb142]? = some (.cells #[.int .i64 a0_0, .int .i64 a0_1, .int .i64 t143, .int .i64 a0_3, .int .i64 a0_4, .int .i64 a0_5] 62 (0, 0))) := ⟨by rw [← hq_]; exact (ub_ BK142.out)⟩; replace HB : Aside0 (Below w.heap.size w w86) := ⟨by rw [← hq_]; exact (ue_ HB.out)⟩; clear hq_)); obtain ⟨hcz89_0, hcz89_1, hcz89_2, hcz89_3, hcz89_4, hcz89_5⟩ := cb6_ BK142.out; obtain ⟨hfz89_0, hfz89_1, hfz89_2, hfz89_3, hfz89_4⟩ := bf5_ BK142.out; have hfz89_5 := blk_frozen BK142.out 5) | ((with_reducible refine gate_store (t := 3) (p := 20) rfl ?_); refine st_ (w1 := (w86.setCell ⟨gb142, 3, none⟩ (.int .i64 t144))) ?_; intro w90 hw; replace BK139 := uk_ hw BK139.out; replace BK140 := uk_ hw BK140.out; replace BK141 := uk_ hw BK141.out; replace BK142 : Aside0 (w90.heap[gb142]? = some (.cells #[.int .i64 a0_0, .int .i64 a0_1, .int .i64 t143, .int .i64 t144, .int .i64 a0_4, .int .i64 a0_5] 62 (0, 0))) := ⟨(by rw [hw]; exact (by (with_reducible repeat first|apply bn_|apply bd_|apply ba_); refine blk_put (cs := #[.int .i64 a0_0, .int .i64 a0_1, .int .i64 t143, .int .i64 a0_3, .int .i64 a0_4, .int .i64 a0_5]) ?_ 3 _ rfl; (with_reducible repeat first|apply bn_|apply bd_|apply ba_); exact BK142.out))⟩; replace HB := uh_ hw HB.out; clear hw; obtain ⟨hcz91_0, hcz91_1, hcz91_2, hcz91_3, hcz91_4, hcz91_5⟩ := cb6_ BK140.out; obtain ⟨hfz91_0, hfz91_1, hfz91_2, hfz91_3, hfz91_4, hfz91_5⟩ := bf6_ BK140.out; obtain ⟨hcz92_0, hcz92_1, hcz92_2, hcz92_3, hcz92_4, hcz92_5⟩ := cb6_ BK139.out; obtain ⟨hfz92_0, hfz92_1, hfz92_2, hfz92_3, hfz92_4, hfz92_5⟩ := bf6_ BK139.out; obtain ⟨hcz93_0, hcz93_1, hcz93_2, hcz93_3, hcz93_4, hcz93_5⟩ := cb6_ BK142.out; obtain ⟨hfz93_0, hfz93_1, hfz93_2, hfz93_3, hfz93_4⟩ := bf5_ BK142.out; have hfz93_5 := blk_frozen BK142.out 5) | ((with_reducible refine gate_store (t := 3) (p := 36) rfl ?_); refine st_ (w1 := (w90.setCell ⟨gb142, 5, none⟩ (.int .i64 a1_5))) ?_; intro w94 hw; replace BK139 := uk_ hw BK139.out; replace BK140 := uk_ hw BK140.out; replace BK141 := uk_ hw BK141.out; replace BK142 : Aside0 (w94.heap[gb142]? = some (.cells #[.int .i64 a0_0, .int .i64 a0_1, .int .i64 t143, .int .i64 t144, .int .i64 a0_4, .int .i64 a1_5] 62 (0, 0))) := ⟨(by rw [hw]; exact (by (with_reducible repeat first|apply bn_|apply bd_|apply ba_); refine blk_put (cs := #[.int .i64 a0_0, .int .i64 a0_1, .int .i64 t143, .int .i64 t144, .int .i64 a0_4, .int .i64 a0_5]) ?_ 5 _ rfl; (with_reducible repeat first|apply bn_|apply bd_|apply ba_); exact BK142.out))⟩; replace HB := uh_ hw HB.out; clear hw; obtain ⟨hcz95_0, hcz95_1, hcz95_2, hcz95_3, hcz95_4, hcz95_5⟩ := cb6_ BK142.out; obtain ⟨hfz95_0, hfz95_1, hfz95_2, hfz95_3, hfz95_4, hfz95_5⟩ := bf6_ BK142.out; obtain ⟨hcz96_0, hcz96_1, hcz96_2, hcz96_3, hcz96_4, hcz96_5⟩ := cb6_ BK141.out; obtain ⟨hfz96_0, hfz96_1, hfz96_2, hfz96_3, hfz96_4⟩ := bf5_ BK141.out; have hfz96_5 := blk_frozen BK141.out 5) | ((with_reducible refine gate_store (t := 62) (p := 4) rfl ?_); refine st_ (w1 := ((((((w94.setCell ⟨gb141, 0, none⟩ (.int .i64 a0_0)).setCell ⟨gb141, 1, none⟩ (.int .i64 a0_1)).setCell ⟨gb141, 2, none⟩ (.int .i64 t143)).setCell ⟨gb141, 3, none⟩ (.int .i64 t144)).setCell ⟨gb141, 4, none⟩ (.int .i64 a0_4)).setCell ⟨gb141, 5, none⟩ (.int .i64 a1_5))) ?_; intro w97 hw; replace BK139 := uk_ hw BK139.out; replace BK140 := uk_ hw BK140.out; replace BK141 : Aside0 (w97.heap[gb141]? = some (.cells #[.int .i64 a0_0, .int .i64 a0_1, .int .i64 t143, .int .i64 t144, .int .i64 a0_4, .int .i64 a1_5] 62 (0, 0))) := ⟨(by rw [hw]; exact (by (with_reducible repeat first|apply bn_|apply bd_|apply ba_); apply bp6_; (with_reducible repeat first|apply bn_|apply bd_|apply ba_); exact BK141.out))⟩; replace BK142 := uk_ hw BK142.out; replace HB := uh_ hw HB.out; clear hw))
  refine bodyPost_ret (results_cell_row rfl _ _ gb141 62 #[.int .i64 a0_0, .int .i64 a0_1, .int .i64 t143, .int .i64 t144, .int .i64 a0_4, .int .i64 a1_5] (0, 0) _ rfl (ub_ BK141.out) Try.underlying62 rfl (by kernel_rfl)) rfl ?_
  exact ⟨ew_, ue_ HB.out⟩
 rw [if_neg c69] at H
 have c69b0 : decide (a0_5 < a1_5) = false := decide_eq_false c69
 clear c69
 simp only [Option.some.injEq, Prod.mk.injEq] at H
 obtain ⟨rfl, rfl, rfl, rfl, rfl, rfl⟩ := H
 go_enter Try.func30, Try.ntmps30
 go_wp2_with (first | ((with_reducible refine gate_dst (N := 2) rfl ?_); refine bx_ (N := 2) (cs := #[.int .i64 a0_0, .int .i64 a0_1, .int .i64 a0_2, .int .i64 a0_3, .int .i64 a0_4, .int .i64 a0_5]) (t := 62) ?_; intro gb139 hg w98 hbox hb; have BK139 := am_ (hbox); have GW139 := gs_ hg HB.out; have GE139 := gs_ hg HB.out; replace HB := hs_ HB hb; clear hb hbox hg) | ((with_reducible refine gate_dst (N := 3) rfl ?_); refine bx_ (N := 3) (cs := #[.int .i64 a1_0, .int .i64 a1_1, .int .i64 a1_2, .int .i64 a1_3, .int .i64 a1_4, .int .i64 a1_5]) (t := 62) ?_; intro gb140 hg w99 hbox hb; have BK140 := am_ (hbox); have GW140 := gs_ hg HB.out; have GE140 := gs_ hg HB.out; replace HB := hs_ HB hb; have NB139_140 := nl_ hg BK139.out; have NB140_139 := ng_ hg BK139.out; replace BK139 := bs_ BK139 hb; clear hb hbox hg) | ((with_reducible refine gate_dst (N := 4) rfl ?_); refine bx_ (N := 4) (cs := #[.int .i64 0, .int .i64 0, .int .i64 0, .int .i64 0, .int .i64 0, .int .i64 0]) (t := 62) ?_; intro gb141 hg w100 hbox hb; have BK141 := am_ (hbox); have GW141 := gs_ hg HB.out; have GE141 := gs_ hg HB.out; replace HB := hs_ HB hb; have NB139_141 := nl_ hg BK139.out; have NB141_139 := ng_ hg BK139.out; replace BK139 := bs_ BK139 hb; have NB140_141 := nl_ hg BK140.out; have NB141_140 := ng_ hg BK140.out; replace BK140 := bs_ BK140 hb; clear hb hbox hg; have hnb101 := NB139_140.out; have hnc101 := NB140_139.out; have hnb102 := NB139_141.out; have hnc102 := NB141_139.out; obtain ⟨hcz103_0, hcz103_1, hcz103_2, hcz103_3, hcz103_4, hcz103_5⟩ := cb6_ BK139.out; obtain ⟨hfz103_0, hfz103_1, hfz103_2, hfz103_3, hfz103_4⟩ := bf5_ BK139.out; have hfz103_5 := blk_frozen BK139.out 5) | ((with_reducible refine gate_dst (N := 5) rfl ?_); refine bx_ (N := 5) (cs := #[.int .i64 0, .int .i64 0, .int .i64 0, .int .i64 0, .int .i64 0, .int .i64 0]) (t := 62) ?_; intro gb142 hg w104 hbox hb; have BK142 := am_ (hbox); have GW142 := gs_ hg HB.out; have GE142 := gs_ hg HB.out; replace HB := hs_ HB hb; have NB139_142 := nl_ hg BK139.out; have NB142_139 := ng_ hg BK139.out; replace BK139 := bs_ BK139 hb; have NB140_142 := nl_ hg BK140.out; have NB142_140 := ng_ hg BK140.out; replace BK140 := bs_ BK140 hb; have NB141_142 := nl_ hg BK141.out; have NB142_141 := ng_ hg BK141.out; replace BK141 := bs_ BK141 hb; clear hb hbox hg; have hnb105 := NB142_139.out; have hnc105 := NB139_142.out; have hnb106 := NB142_140.out; have hnc106 := NB140_142.out; have hnb107 := NB142_141.out; have hnc107 := NB141_142.out; obtain ⟨hcz108_0, hcz108_1, hcz108_2, hcz108_3, hcz108_4, hcz108_5⟩ := cb6_ BK142.out; obtain ⟨hfz108_0, hfz108_1, hfz108_2, hfz108_3, hfz108_4⟩ := bf5_ BK142.out; have hfz108_5 := blk_frozen BK142.out 5) | ((with_reducible refine gate_store (t := 62) (p := 5) rfl ?_); refine st_ (w1 := ((((((w104.setCell ⟨gb142, 0, none⟩ (.int .i64 a0_0)).setCell ⟨gb142, 1, none⟩ (.int .i64 a0_1)).setCell ⟨gb142, 2, none⟩ (.int .i64 a0_2)).setCell ⟨gb142, 3, none⟩ (.int .i64 a0_3)).setCell ⟨gb142, 4, none⟩ (.int .i64 a0_4)).setCell ⟨gb142, 5, none⟩ (.int .i64 a0_5))) ?_; intro w109 hw; replace BK139 := uk_ hw BK139.out; replace BK140 := uk_ hw BK140.out; replace BK141 := uk_ hw BK141.out; replace BK142 : Aside0 (w109.heap[gb142]? = some (.cells #[.int .i64 a0_0, .int .i64 a0_1, .int .i64 a0_2, .int .i64 a0_3, .int .i64 a0_4, .int .i64 a0_5] 62 (0, 0))) := ⟨(by rw [hw]; exact (by (with_reducible repeat first|apply bn_|apply bd_|apply ba_); apply bp6_; (with_reducible repeat first|apply bn_|apply bd_|apply ba_); exact BK142.out))⟩; replace HB := uh_ hw HB.out; clear hw; obtain ⟨hcz110_0, hcz110_1, hcz110_2, hcz110_3, hcz110_4, hcz110_5⟩ := cb6_ BK139.out; obtain ⟨hfz110_0, hfz110_1, hfz110_2, hfz110_3, hfz110_4, hfz110_5⟩ := bf6_ BK139.out; have hnb111 := NB140_141.out; have hnc111 := NB141_140.out; obtain ⟨hcz112_0, hcz112_1, hcz112_2, hcz112_3, hcz112_4, hcz112_5⟩ := cb6_ BK140.out; obtain ⟨hfz112_0, hfz112_1, hfz112_2, hfz112_3, hfz112_4⟩ := bf5_ BK140.out; have hfz112_5 := blk_frozen BK140.out 5) | ((with_reducible refine gate_callee (f := 29) rfl ?_); refine goesL_ (some 12) rfl rfl Try.func29 (by kernel_rfl) rfl #[.int .i64 (wrap64 (a0_2 + a1_2))] rfl ul_ ?_; (with_reducible refine (spec_l05Cap.calls (wrap64 (a0_2 + a1_2)) t143 _ A3.out).mono ?_); rintro e w' ⟨rfl, ⟨nd, rfl⟩⟩; refine ⟨_, rfl, ?_⟩; (try (rw [drewN_self w109]; generalize hq_ : World.drewN w109 _ = w109; replace BK139 : Aside0 (w109.heap[gb139]? = some (.cells #[.int .i64 a0_0, .int .i64 a0_1, .int .i64 a0_2, .int .i64 a0_3, .int .i64 a0_4, .int .i64 a0_5] 62 (0, 0))) := ⟨by rw [← hq_]; exact (ub_ BK139.out)⟩; replace BK140 : Aside0 (w109.heap[gb140]? = some (.cells #[.int .i64 a1_0, .int .i64 a1_1, .int .i64 a1_2, .int .i64 a1_3, .int .i64 a1_4, .int .i64 a1_5] 62 (0, 0))) := ⟨by rw [← hq_]; exact (ub_ BK140.out)⟩; replace BK141 : Aside0 (w109.heap[gb141]? = some (.cells #[.int .i64 0, .int .i64 0, .int .i64 0, .int .i64 0, .int .i64 0, .int .i64 0] 62 (0, 0))) := ⟨by rw [← hq_]; exact (ub_ BK141.out)⟩; replace BK142 : Aside0 (w109.heap[gb142]? = some (.cells #[.int .i64 a0_0, .int .i64 a0_1, .int .i64 a0_2, .int .i64 a0_3, .int .i64 a0_4, .int .i64 a0_5] 62 (0, 0))) := ⟨by rw [← hq_]; exact (ub_ BK142.out)⟩; replace HB : Aside0 (Below w.heap.size w w109) := ⟨by rw [← hq_]; exact (ue_ HB.out)⟩; clear hq_)); obtain ⟨hcz113_0, hcz113_1, hcz113_2, hcz113_3, hcz113_4, hcz113_5⟩ := cb6_ BK142.out; obtain ⟨hfz113_0, hfz113_1, hfz113_2, hfz113_3, hfz113_4⟩ := bf5_ BK142.out; have hfz113_5 := blk_frozen BK142.out 5) | ((with_reducible refine gate_store (t := 3) (p := 13) rfl ?_); refine st_ (w1 := (w109.setCell ⟨gb142, 2, none⟩ (.int .i64 t143))) ?_; intro w114 hw; replace BK139 := uk_ hw BK139.out; replace BK140 := uk_ hw BK140.out; replace BK141 := uk_ hw BK141.out; replace BK142 : Aside0 (w114.heap[gb142]? = some (.cells #[.int .i64 a0_0, .int .i64 a0_1, .int .i64 t143, .int .i64 a0_3, .int .i64 a0_4, .int .i64 a0_5] 62 (0, 0))) := ⟨(by rw [hw]; exact (by (with_reducible repeat first|apply bn_|apply bd_|apply ba_); refine blk_put (cs := #[.int .i64 a0_0, .int .i64 a0_1, .int .i64 a0_2, .int .i64 a0_3, .int .i64 a0_4, .int .i64 a0_5]) ?_ 2 _ rfl; (with_reducible repeat first|apply bn_|apply bd_|apply ba_); exact BK142.out))⟩; replace HB := uh_ hw HB.out; clear hw; obtain ⟨hcz115_0, hcz115_1, hcz115_2, hcz115_3, hcz115_4, hcz115_5⟩ := cb6_ BK139.out; obtain ⟨hfz115_0, hfz115_1, hfz115_2, hfz115_3, hfz115_4, hfz115_5⟩ := bf6_ BK139.out; obtain ⟨hcz116_0, hcz116_1, hcz116_2, hcz116_3, hcz116_4, hcz116_5⟩ := cb6_ BK140.out; obtain ⟨hfz116_0, hfz116_1, hfz116_2, hfz116_3, hfz116_4⟩ := bf5_ BK140.out; have hfz116_5 := blk_frozen BK140.out 5) | ((with_reducible refine gate_callee (f := 29) rfl ?_); refine goesL_ (some 19) rfl rfl Try.func29 (by kernel_rfl) rfl #[.int .i64 (wrap64 (a0_3 + a1_3))] rfl ul_ ?_; (with_reducible refine (spec_l05Cap.calls (wrap64 (a0_3 + a1_3)) t144 _ A4.out).mono ?_); rintro e w' ⟨rfl, ⟨nd, rfl⟩⟩; refine ⟨_, rfl, ?_⟩; (try (rw [drewN_self w114]; generalize hq_ : World.drewN w114 _ = w114; replace BK139 : Aside0 (w114.heap[gb139]? = some (.cells #[.int .i64 a0_0, .int .i64 a0_1, .int .i64 a0_2, .int .i64 a0_3, .int .i64 a0_4, .int .i64 a0_5] 62 (0, 0))) := ⟨by rw [← hq_]; exact (ub_ BK139.out)⟩; replace BK140 : Aside0 (w114.heap[gb140]? = some (.cells #[.int .i64 a1_0, .int .i64 a1_1, .int .i64 a1_2, .int .i64 a1_3, .int .i64 a1_4, .int .i64 a1_5] 62 (0, 0))) := ⟨by rw [← hq_]; exact (ub_ BK140.out)⟩; replace BK141 : Aside0 (w114.heap[gb141]? = some (.cells #[.int .i64 0, .int .i64 0, .int .i64 0, .int .i64 0, .int .i64 0, .int .i64 0] 62 (0, 0))) := ⟨by rw [← hq_]; exact (ub_ BK141.out)⟩; replace BK142 : Aside0 (w114.heap[gb142]? = some (.cells #[.int .i64 a0_0, .int .i64 a0_1, .int .i64 t143, .int .i64 a0_3, .int .i64 a0_4, .int .i64 a0_5] 62 (0, 0))) := ⟨by rw [← hq_]; exact (ub_ BK142.out)⟩; replace HB : Aside0 (Below w.heap.size w w114) := ⟨by rw [← hq_]; exact (ue_ HB.out)⟩; clear hq_)); obtain ⟨hcz117_0, hcz117_1, hcz117_2, hcz117_3, hcz117_4, hcz117_5⟩ := cb6_ BK142.out; obtain ⟨hfz117_0, hfz117_1, hfz117_2, hfz117_3, hfz117_4⟩ := bf5_ BK142.out; have hfz117_5 := blk_frozen BK142.out 5) | ((with_reducible refine gate_store (t := 3) (p := 20) rfl ?_); refine st_ (w1 := (w114.setCell ⟨gb142, 3, none⟩ (.int .i64 t144))) ?_; intro w118 hw; replace BK139 := uk_ hw BK139.out; replace BK140 := uk_ hw BK140.out; replace BK141 := uk_ hw BK141.out; replace BK142 : Aside0 (w118.heap[gb142]? = some (.cells #[.int .i64 a0_0, .int .i64 a0_1, .int .i64 t143, .int .i64 t144, .int .i64 a0_4, .int .i64 a0_5] 62 (0, 0))) := ⟨(by rw [hw]; exact (by (with_reducible repeat first|apply bn_|apply bd_|apply ba_); refine blk_put (cs := #[.int .i64 a0_0, .int .i64 a0_1, .int .i64 t143, .int .i64 a0_3, .int .i64 a0_4, .int .i64 a0_5]) ?_ 3 _ rfl; (with_reducible repeat first|apply bn_|apply bd_|apply ba_); exact BK142.out))⟩; replace HB := uh_ hw HB.out; clear hw; obtain ⟨hcz119_0, hcz119_1, hcz119_2, hcz119_3, hcz119_4, hcz119_5⟩ := cb6_ BK140.out; obtain ⟨hfz119_0, hfz119_1, hfz119_2, hfz119_3, hfz119_4, hfz119_5⟩ := bf6_ BK140.out; obtain ⟨hcz120_0, hcz120_1, hcz120_2, hcz120_3, hcz120_4, hcz120_5⟩ := cb6_ BK139.out; obtain ⟨hfz120_0, hfz120_1, hfz120_2, hfz120_3, hfz120_4, hfz120_5⟩ := bf6_ BK139.out; obtain ⟨hcz121_0, hcz121_1, hcz121_2, hcz121_3, hcz121_4, hcz121_5⟩ := cb6_ BK142.out; obtain ⟨hfz121_0, hfz121_1, hfz121_2, hfz121_3, hfz121_4, hfz121_5⟩ := bf6_ BK142.out; obtain ⟨hcz122_0, hcz122_1, hcz122_2, hcz122_3, hcz122_4, hcz122_5⟩ := cb6_ BK141.out; obtain ⟨hfz122_0, hfz122_1, hfz122_2, hfz122_3, hfz122_4⟩ := bf5_ BK141.out; have hfz122_5 := blk_frozen BK141.out 5) | ((with_reducible refine gate_store (t := 62) (p := 4) rfl ?_); refine st_ (w1 := ((((((w118.setCell ⟨gb141, 0, none⟩ (.int .i64 a0_0)).setCell ⟨gb141, 1, none⟩ (.int .i64 a0_1)).setCell ⟨gb141, 2, none⟩ (.int .i64 t143)).setCell ⟨gb141, 3, none⟩ (.int .i64 t144)).setCell ⟨gb141, 4, none⟩ (.int .i64 a0_4)).setCell ⟨gb141, 5, none⟩ (.int .i64 a0_5))) ?_; intro w123 hw; replace BK139 := uk_ hw BK139.out; replace BK140 := uk_ hw BK140.out; replace BK141 : Aside0 (w123.heap[gb141]? = some (.cells #[.int .i64 a0_0, .int .i64 a0_1, .int .i64 t143, .int .i64 t144, .int .i64 a0_4, .int .i64 a0_5] 62 (0, 0))) := ⟨(by rw [hw]; exact (by (with_reducible repeat first|apply bn_|apply bd_|apply ba_); apply bp6_; (with_reducible repeat first|apply bn_|apply bd_|apply ba_); exact BK141.out))⟩; replace BK142 := uk_ hw BK142.out; replace HB := uh_ hw HB.out; clear hw))
 refine bodyPost_ret (results_cell_row rfl _ _ gb141 62 #[.int .i64 a0_0, .int .i64 a0_1, .int .i64 t143, .int .i64 t144, .int .i64 a0_4, .int .i64 a0_5] (0, 0) _ rfl (ub_ BK141.out) Try.underlying62 rfl (by kernel_rfl)) rfl ?_
 exact ⟨ew_, ue_ HB.out⟩

end Go.Proofs.Ytaofcalmgodgjaa.QFnExactAddEvent
