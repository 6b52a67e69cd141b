/- The machine side of a law: Lean functions with the Go functions' answers and the walks that show it. No condition. -/
import Derived.Test.YtaofcalmgodgjaaQFnExactAddEventx0
import Derived.Test.YtaofcalmgodgjaaQFnExactAddEventx1
import Derived.Test.YtaofcalmgodgjaaQFnExactAddEventx6
import Derived.Test.YtaofcalmgodgjaaQFnExactAddEventx7
namespace Go.Proofs.Ytaofcalmgodgjaa.QFnExactAddEvent
open Go.RowKit Go.Proofs.YtaofcalmgodgjaaW.PrintWords Go.Proofs.YtaofcalmgodgjaaW.PrintLast Go.Proofs.YtaofcalmgodgjaaW.PrintMore
attribute [local go_sem] max2_int min2_int max_two min_two max_three min_three max_four min_four   -- for this text's walks alone
set_option linter.unusedVariables false
set_option linter.unusedSimpArgs false

attribute [local go_sem high] eqA34
/-! ### impl_FrameOk: function 67 -/
def impl_FrameOk.f (a0_0 : Int) (a0_1 : Int) (a0_2 : Int) (a0_3 : Int) : Option (Bool) := if a0_0 = 1 then ((impl_isKey.f a0_1).bind fun t268 => (if t268 = true then ((impl_isTime.f a0_2).bind fun t269 => (if t269 = true then ((impl_isValue.f a0_3).bind fun t270 => (some t270)) else (some false))) else (some false))) else (if a0_0 = 2 then (if a0_1 = 0 then ((impl_isTime.f a0_2).bind fun t271 => (if t271 = true then (some (a0_3 == 0)) else (some false))) else (some false)) else (some (a0_0 == 3 && (a0_1 == 0 && (a0_2 == 0 && (a0_3 == 0))))))
set_option maxHeartbeats 8000000 in
set_option maxRecDepth 100000 in
theorem impl_FrameOk.calls (a0_0 : Int) (a0_1 : Int) (a0_2 : Int) (a0_3 : Int) (r : Bool) (w : World) (h : impl_FrameOk.f a0_0 a0_1 a0_2 a0_3 = some r) :
  Calls Try.prog 67 #[.agg #[.int .i64 a0_0, .int .i64 a0_1, .int .i64 a0_2, .int .i64 a0_3]] w fun e w' => e = .returned (.bool r) ∧ Below w.heap.size w w' := by
 have hu34 := Try.underlying34
 have HB := am_ (Below.refl w.heap.size w)
 have H : (if a0_0 = 1 then ((impl_isKey.f a0_1).bind fun t268 => (if t268 = true then ((impl_isTime.f a0_2).bind fun t269 => (if t269 = true then ((impl_isValue.f a0_3).bind fun t270 => (some t270)) else (some false))) else (some false))) else (if a0_0 = 2 then (if a0_1 = 0 then ((impl_isTime.f a0_2).bind fun t271 => (if t271 = true then (some (a0_3 == 0)) else (some false))) else (some false)) else (some (a0_0 == 3 && (a0_1 == 0 && (a0_2 == 0 && (a0_3 == 0))))))) = some r := h
 clear h
 by_cases c2 : a0_0 = 1
 ·
  rw [if_pos c2] at H
  have c2b0 : (a0_0 == 1) = true := beq_iff_eq.mpr c2
  have c2b1 : (a0_0 != 1) = false := bne_eq_false_iff_eq.mpr c2
  clear c2
  replace H := Option.bind_eq_some_iff.mp H
  obtain ⟨t268, A30, H⟩ := H
  replace H : (if t268 = true then ((impl_isTime.f a0_2).bind fun t269 => (if t269 = true then ((impl_isValue.f a0_3).bind fun t270 => (some t270)) else (some false))) else (some false)) = some r := H
  have A3 := Aside0.mk A30
  clear A30
  by_cases c4 : t268 = true
  ·
   subst c4
   have H1 : ((impl_isTime.f a0_2).bind fun t269 => (if t269 = true then ((impl_isValue.f a0_3).bind fun t270 => (some t270)) else (some false))) = some r := by rw [if_pos rfl] at H; exact H
   clear H
   have H := H1
   clear H1
   replace H := Option.bind_eq_some_iff.mp H
   obtain ⟨t269, A50, H⟩ := H
   replace H : (if t269 = true then ((impl_isValue.f a0_3).bind fun t270 => (some t270)) else (some false)) = some r := H
   have A5 := Aside0.mk A50
   clear A50
   by_cases c6 : t269 = true
   ·
    subst c6
    have H1 : ((impl_isValue.f a0_3).bind fun t270 => (some t270)) = some r := by rw [if_pos rfl] at H; exact H
    clear H
    have H := H1
    clear H1
    replace H := Option.bind_eq_some_iff.mp H
    obtain ⟨t270, A70, H⟩ := H
    replace H : (some t270) = some r := H
    have A7 := Aside0.mk A70
    clear A70
    obtain rfl := Option.some.inj H
    go_enter Try.func67, Try.ntmps67
    go_wp2_with (first | ((with_reducible refine gate_dst (N := 1) rfl ?_); refine bx_ (N := 1) (cs := #[.int .i64 a0_0, .int .i64 a0_1, .int .i64 a0_2, .int .i64 a0_3]) (t := 34) ?_; intro gb267 hg w8 hbox hb; have BK267 := am_ (hbox); have GW267 := gs_ hg HB.out; have GE267 := gs_ hg HB.out; replace HB := hs_ HB hb; clear hb hbox hg; obtain ⟨hcz9_0, hcz9_1, hcz9_2, hcz9_3⟩ := cb4_ BK267.out; obtain ⟨hfz9_0, hfz9_1, hfz9_2⟩ := bf3_ BK267.out; have hfz9_3 := blk_frozen BK267.out 3) | ((with_reducible refine gate_callee (f := 89) rfl ?_); refine goesL_ (some 9) rfl rfl Try.func89 (by kernel_rfl) rfl #[.int .i64 a0_1] rfl ul_ ?_; (with_reducible refine (impl_isKey.calls a0_1 true _ A3.out).mono ?_); rintro e w' ⟨rfl, ⟨nd, rfl⟩⟩; refine ⟨_, rfl, ?_⟩) | (go_at_call 68; (with_reducible refine (impl_isTime.calls a0_2 true _ A5.out).mono ?_); rintro e w' ⟨rfl, ⟨nd, rfl⟩⟩) | (go_at_call 90; (with_reducible refine (impl_isValue.calls a0_3 t270 _ A7.out).mono ?_); rintro e w' ⟨rfl, ⟨nd, rfl⟩⟩))
    go_ret
    exact ⟨ew_, ue_ HB.out⟩
   replace c6 := Bool.eq_false_iff.mpr c6
   subst c6
   have H1 : (some false) = some r := by rw [if_neg (show ¬ (false = true) by decide)] at H; exact H
   clear H
   have H := H1
   clear H1
   obtain rfl := Option.some.inj H
   go_enter Try.func67, Try.ntmps67
   go_wp2_with (first | ((with_reducible refine gate_dst (N := 1) rfl ?_); refine bx_ (N := 1) (cs := #[.int .i64 a0_0, .int .i64 a0_1, .int .i64 a0_2, .int .i64 a0_3]) (t := 34) ?_; intro gb267 hg w10 hbox hb; have BK267 := am_ (hbox); have GW267 := gs_ hg HB.out; have GE267 := gs_ hg HB.out; replace HB := hs_ HB hb; clear hb hbox hg; obtain ⟨hcz11_0, hcz11_1, hcz11_2, hcz11_3⟩ := cb4_ BK267.out; obtain ⟨hfz11_0, hfz11_1, hfz11_2⟩ := bf3_ BK267.out; have hfz11_3 := blk_frozen BK267.out 3) | ((with_reducible refine gate_callee (f := 89) rfl ?_); refine goesL_ (some 9) rfl rfl Try.func89 (by kernel_rfl) rfl #[.int .i64 a0_1] rfl ul_ ?_; (with_reducible refine (impl_isKey.calls a0_1 true _ A3.out).mono ?_); rintro e w' ⟨rfl, ⟨nd, rfl⟩⟩; refine ⟨_, rfl, ?_⟩) | (go_at_call 68; (with_reducible refine (impl_isTime.calls a0_2 false _ A5.out).mono ?_); rintro e w' ⟨rfl, ⟨nd, rfl⟩⟩))
   go_ret
   exact ⟨ew_, ue_ HB.out⟩
  replace c4 := Bool.eq_false_iff.mpr c4
  subst c4
  have H1 : (some false) = some r := by rw [if_neg (show ¬ (false = true) by decide)] at H; exact H
  clear H
  have H := H1
  clear H1
  obtain rfl := Option.some.inj H
  go_enter Try.func67, Try.ntmps67
  go_wp2_with (first | ((with_reducible refine gate_dst (N := 1) rfl ?_); refine bx_ (N := 1) (cs := #[.int .i64 a0_0, .int .i64 a0_1, .int .i64 a0_2, .int .i64 a0_3]) (t := 34) ?_; intro gb267 hg w12 hbox hb; have BK267 := am_ (hbox); have GW267 := gs_ hg HB.out; have GE267 := gs_ hg HB.out; replace HB := hs_ HB hb; clear hb hbox hg; obtain ⟨hcz13_0, hcz13_1, hcz13_2, hcz13_3⟩ := cb4_ BK267.out; obtain ⟨hfz13_0, hfz13_1, hfz13_2⟩ := bf3_ BK267.out; have hfz13_3 := blk_frozen BK267.out 3) | ((with_reducible refine gate_callee (f := 89) rfl ?_); refine goesL_ (some 9) rfl rfl Try.func89 (by kernel_rfl) rfl #[.int .i64 a0_1] rfl ul_ ?_; (with_reducible refine (impl_isKey.calls a0_1 false _ A3.out).mono ?_); rintro e w' ⟨rfl, ⟨nd, rfl⟩⟩; refine ⟨_, rfl, ?_⟩))
  go_ret
  exact ⟨ew_, ue_ HB.out⟩
 rw [if_neg c2] at H
 have c2b0 : (a0_0 == 1) = false := beq_eq_false_iff_ne.mpr c2
 have c2b1 : (a0_0 != 1) = true := bne_iff_ne.mpr c2
 by_cases c14 : a0_0 = 2
 ·
  rw [if_pos c14] at H
  have c14b0 : (a0_0 == 2) = true := beq_iff_eq.mpr c14
  have c14b1 : (a0_0 != 2) = false := bne_eq_false_iff_eq.mpr c14
  clear c14
  by_cases c15 : a0_1 = 0
  ·
   rw [if_pos c15] at H
   have c15b0 : (a0_1 == 0) = true := beq_iff_eq.mpr c15
   have c15b1 : (a0_1 != 0) = false := bne_eq_false_iff_eq.mpr c15
   clear c15
   replace H := Option.bind_eq_some_iff.mp H
   obtain ⟨t271, A160, H⟩ := H
   replace H : (if t271 = true then (some (a0_3 == 0)) else (some false)) = some r := H
   have A16 := Aside0.mk A160
   clear A160
   by_cases c17 : t271 = true
   ·
    subst c17
    have H1 : (some (a0_3 == 0)) = some r := by rw [if_pos rfl] at H; exact H
    clear H
    have H := H1
    clear H1
    obtain rfl := Option.some.inj H
    go_enter Try.func67, Try.ntmps67
    go_wp2_with (first | ((with_reducible refine gate_dst (N := 1) rfl ?_); refine bx_ (N := 1) (cs := #[.int .i64 a0_0, .int .i64 a0_1, .int .i64 a0_2, .int .i64 a0_3]) (t := 34) ?_; intro gb267 hg w18 hbox hb; have BK267 := am_ (hbox); have GW267 := gs_ hg HB.out; have GE267 := gs_ hg HB.out; replace HB := hs_ HB hb; clear hb hbox hg; obtain ⟨hcz19_0, hcz19_1, hcz19_2, hcz19_3⟩ := cb4_ BK267.out; obtain ⟨hfz19_0, hfz19_1, hfz19_2⟩ := bf3_ BK267.out; have hfz19_3 := blk_frozen BK267.out 3) | (go_at_call 68; (with_reducible refine (impl_isTime.calls a0_2 true _ A16.out).mono ?_); rintro e w' ⟨rfl, ⟨nd, rfl⟩⟩))
    go_ret
    exact ⟨ew_, ue_ HB.out⟩
   replace c17 := Bool.eq_false_iff.mpr c17
   subst c17
   have H1 : (some false) = some r := by rw [if_neg (show ¬ (false = true) by decide)] at H; exact H
   clear H
   have H := H1
   clear H1
   obtain rfl := Option.some.inj H
   go_enter Try.func67, Try.ntmps67
   go_wp2_with (first | ((with_reducible refine gate_dst (N := 1) rfl ?_); refine bx_ (N := 1) (cs := #[.int .i64 a0_0, .int .i64 a0_1, .int .i64 a0_2, .int .i64 a0_3]) (t := 34) ?_; intro gb267 hg w20 hbox hb; have BK267 := am_ (hbox); have GW267 := gs_ hg HB.out; have GE267 := gs_ hg HB.out; replace HB := hs_ HB hb; clear hb hbox hg; obtain ⟨hcz21_0, hcz21_1, hcz21_2, hcz21_3⟩ := cb4_ BK267.out; obtain ⟨hfz21_0, hfz21_1, hfz21_2⟩ := bf3_ BK267.out; have hfz21_3 := blk_frozen BK267.out 3) | (go_at_call 68; (with_reducible refine (impl_isTime.calls a0_2 false _ A16.out).mono ?_); rintro e w' ⟨rfl, ⟨nd, rfl⟩⟩))
   go_ret
   exact ⟨ew_, ue_ HB.out⟩
  rw [if_neg c15] at H
  have c15b0 : (a0_1 == 0) = false := beq_eq_false_iff_ne.mpr c15
  have c15b1 : (a0_1 != 0) = true := bne_iff_ne.mpr c15
  obtain rfl := Option.some.inj H
  go_enter Try.func67, Try.ntmps67
  go_wp2_with (first | ((with_reducible refine gate_dst (N := 1) rfl ?_); refine bx_ (N := 1) (cs := #[.int .i64 a0_0, .int .i64 a0_1, .int .i64 a0_2, .int .i64 a0_3]) (t := 34) ?_; intro gb267 hg w22 hbox hb; have BK267 := am_ (hbox); have GW267 := gs_ hg HB.out; have GE267 := gs_ hg HB.out; replace HB := hs_ HB hb; clear hb hbox hg; obtain ⟨hcz23_0, hcz23_1, hcz23_2, hcz23_3⟩ := cb4_ BK267.out; obtain ⟨hfz23_0, hfz23_1, hfz23_2⟩ := bf3_ BK267.out; have hfz23_3 := blk_frozen BK267.out 3))
  go_ret
  exact ⟨ew_, ue_ HB.out⟩
 rw [if_neg c14] at H
 have c14b0 : (a0_0 == 2) = false := beq_eq_false_iff_ne.mpr c14
 have c14b1 : (a0_0 != 2) = true := bne_iff_ne.mpr c14
 obtain rfl := Option.some.inj H
 go_enter Try.func67, Try.ntmps67
 go_wp2_with (first | ((with_reducible refine gate_dst (N := 1) rfl ?_); refine bx_ (N := 1) (cs := #[.int .i64 a0_0, .int .i64 a0_1, .int .i64 a0_2, .int .i64 a0_3]) (t := 34) ?_; intro gb267 hg w24 hbox hb; have BK267 := am_ (hbox); have GW267 := gs_ hg HB.out; have GE267 := gs_ hg HB.out; replace HB := hs_ HB hb; clear hb hbox hg; obtain ⟨hcz25_0, hcz25_1, hcz25_2, hcz25_3⟩ := cb4_ BK267.out; obtain ⟨hfz25_0, hfz25_1, hfz25_2⟩ := bf3_ BK267.out; have hfz25_3 := blk_frozen BK267.out 3))
 go_ret
 exact ⟨ew_, ue_ HB.out⟩

/-! ### impl_isEvent: function 37 -/
def impl_isEvent.f (a0_0 : Int) (a0_1 : Int) (a0_2 : Int) (a0_3 : Int) : Option (Bool) := if a0_0 = 1 then ((impl_FrameOk.f a0_0 a0_1 a0_2 a0_3).bind fun t273 => (some t273)) else (some false)
set_option maxHeartbeats 8000000 in
set_option maxRecDepth 100000 in
theorem impl_isEvent.calls (a0_0 : Int) (a0_1 : Int) (a0_2 : Int) (a0_3 : Int) (r : Bool) (w : World) (h : impl_isEvent.f a0_0 a0_1 a0_2 a0_3 = some r) :
  Calls Try.prog 37 #[.agg #[.int .i64 a0_0, .int .i64 a0_1, .int .i64 a0_2, .int .i64 a0_3]] w fun e w' => e = .returned (.bool r) ∧ Below w.heap.size w w' := by
 have hu34 := Try.underlying34
 have HB := am_ (Below.refl w.heap.size w)
 have H : (if a0_0 = 1 then ((impl_FrameOk.f a0_0 a0_1 a0_2 a0_3).bind fun t273 => (some t273)) else (some false)) = some r := h
 clear h
 by_cases c2 : a0_0 = 1
 ·
  rw [if_pos c2] at H
  have c2b0 : (a0_0 == 1) = true := beq_iff_eq.mpr c2
  have c2b1 : (a0_0 != 1) = false := bne_eq_false_iff_eq.mpr c2
  clear c2
  replace H := Option.bind_eq_some_iff.mp H
  obtain ⟨t273, A30, H⟩ := H
  replace H : (some t273) = some r := H
  have A3 := Aside0.mk A30
  clear A30
  obtain rfl := Option.some.inj H
  go_enter Try.func37, Try.ntmps37
  go_wp2_with (first | ((with_reducible refine gate_dst (N := 1) rfl ?_); refine bx_ (N := 1) (cs := #[.int .i64 a0_0, .int .i64 a0_1, .int .i64 a0_2, .int .i64 a0_3]) (t := 34) ?_; intro gb272 hg w4 hbox hb; have BK272 := am_ (hbox); have GW272 := gs_ hg HB.out; have GE272 := gs_ hg HB.out; replace HB := hs_ HB hb; clear hb hbox hg; obtain ⟨hcz5_0, hcz5_1, hcz5_2, hcz5_3⟩ := cb4_ BK272.out; obtain ⟨hfz5_0, hfz5_1, hfz5_2⟩ := bf3_ BK272.out; have hfz5_3 := blk_frozen BK272.out 3) | (go_at_call 67; (with_reducible refine (impl_FrameOk.calls a0_0 a0_1 a0_2 a0_3 t273 _ A3.out).mono ?_); rintro e w6 ⟨rfl, hb⟩; replace BK272 := bs_ BK272 hb; replace HB := hs_ HB hb; (try clear hb); (try clear hb2); (try clear hk); (try clear hi)))
  go_ret
  exact ⟨ew_, ue_ HB.out⟩
 rw [if_neg c2] at H
 have c2b0 : (a0_0 == 1) = false := beq_eq_false_iff_ne.mpr c2
 have c2b1 : (a0_0 != 1) = true := bne_iff_ne.mpr c2
 obtain rfl := Option.some.inj H
 go_enter Try.func37, Try.ntmps37
 go_wp2_with (first | ((with_reducible refine gate_dst (N := 1) rfl ?_); refine bx_ (N := 1) (cs := #[.int .i64 a0_0, .int .i64 a0_1, .int .i64 a0_2, .int .i64 a0_3]) (t := 34) ?_; intro gb272 hg w7 hbox hb; have BK272 := am_ (hbox); have GW272 := gs_ hg HB.out; have GE272 := gs_ hg HB.out; replace HB := hs_ HB hb; clear hb hbox hg; obtain ⟨hcz8_0, hcz8_1, hcz8_2, hcz8_3⟩ := cb4_ BK272.out; obtain ⟨hfz8_0, hfz8_1, hfz8_2⟩ := bf3_ BK272.out; have hfz8_3 := blk_frozen BK272.out 3))
 go_ret
 exact ⟨ew_, ue_ HB.out⟩

/-! ### impl_aggOf: function 38 -/
def impl_aggOf.f (a0_0 : Int) (a0_1 : Int) (a0_2 : Int) (a0_3 : Int) (a1 : Int) : Option (Int × Int × Int × Int × Int × Int) := some (a1, a0_1, 1, a0_3, a0_3, a0_3)
set_option maxHeartbeats 8000000 in
set_option maxRecDepth 100000 in
theorem impl_aggOf.calls (a0_0 : Int) (a0_1 : Int) (a0_2 : Int) (a0_3 : Int) (a1 : Int) (r1 : Int) (r2 : Int) (r3 : Int) (r4 : Int) (r5 : Int) (r6 : Int) (w : World) (h : impl_aggOf.f a0_0 a0_1 a0_2 a0_3 a1 = some (r1, r2, r3, r4, r5, r6)) :
  Calls Try.prog 38 #[.agg #[.int .i64 a0_0, .int .i64 a0_1, .int .i64 a0_2, .int .i64 a0_3], .int .i64 a1] w fun e w' => e = .returned (.agg #[.int .i64 r1, .int .i64 r2, .int .i64 r3, .int .i64 r4, .int .i64 r5, .int .i64 r6]) ∧ Below w.heap.size w w' := by
 have hu34 := Try.underlying34
 have hu62 := Try.underlying62
 have HB := am_ (Below.refl w.heap.size w)
 have H : (some (a1, a0_1, 1, a0_3, a0_3, a0_3)) = some (r1, r2, r3, r4, r5, r6) := h
 clear h
 simp only [Option.some.injEq, Prod.mk.injEq] at H
 obtain ⟨rfl, rfl, rfl, rfl, rfl, rfl⟩ := H
 go_enter Try.func38, Try.ntmps38
 go_wp2_with (first | ((with_reducible refine gate_dst (N := 2) rfl ?_); refine bx_ (N := 2) (cs := #[.int .i64 a0_0, .int .i64 a0_1, .int .i64 a0_2, .int .i64 a0_3]) (t := 34) ?_; intro gb274 hg w3 hbox hb; have BK274 := am_ (hbox); have GW274 := gs_ hg HB.out; have GE274 := gs_ hg HB.out; replace HB := hs_ HB hb; clear hb hbox hg) | ((with_reducible refine gate_dst (N := 4) rfl ?_); refine bx_ (N := 4) (cs := #[.int .i64 0, .int .i64 0, .int .i64 0, .int .i64 0, .int .i64 0, .int .i64 0]) (t := 62) ?_; intro gb275 hg w4 hbox hb; have BK275 := am_ (hbox); have GW275 := gs_ hg HB.out; have GE275 := gs_ hg HB.out; replace HB := hs_ HB hb; have NB274_275 := nl_ hg BK274.out; have NB275_274 := ng_ hg BK274.out; replace BK274 := bs_ BK274 hb; clear hb hbox hg; have hnb5 := NB274_275.out; have hnc5 := NB275_274.out; obtain ⟨hcz6_0, hcz6_1, hcz6_2, hcz6_3⟩ := cb4_ BK274.out; obtain ⟨hfz6_0, hfz6_1, hfz6_2, hfz6_3⟩ := bf4_ BK274.out; obtain ⟨hcz7_0, hcz7_1, hcz7_2, hcz7_3, hcz7_4, hcz7_5⟩ := cb6_ BK275.out; obtain ⟨hfz7_0, hfz7_1, hfz7_2, hfz7_3, hfz7_4⟩ := bf5_ BK275.out; have hfz7_5 := blk_frozen BK275.out 5) | ((with_reducible refine gate_store (t := 62) (p := 4) rfl ?_); refine st_ (w1 := ((((((w4.setCell ⟨gb275, 0, none⟩ (.int .i64 a1)).setCell ⟨gb275, 1, none⟩ (.int .i64 a0_1)).setCell ⟨gb275, 2, none⟩ (.int .i64 1)).setCell ⟨gb275, 3, none⟩ (.int .i64 a0_3)).setCell ⟨gb275, 4, none⟩ (.int .i64 a0_3)).setCell ⟨gb275, 5, none⟩ (.int .i64 a0_3))) ?_; intro w8 hw; replace BK274 := uk_ hw BK274.out; replace BK275 : Aside0 (w8.heap[gb275]? = some (.cells #[.int .i64 a1, .int .i64 a0_1, .int .i64 1, .int .i64 a0_3, .int .i64 a0_3, .int .i64 a0_3] 62 (0, 0))) := ⟨(by rw [hw]; exact (by (with_reducible repeat first|apply bn_|apply bd_|apply ba_); apply bp6_; (with_reducible repeat first|apply bn_|apply bd_|apply ba_); exact BK275.out))⟩; replace HB := uh_ hw HB.out; clear hw))
 refine bodyPost_ret (results_cell_row rfl _ _ gb275 62 #[.int .i64 a1, .int .i64 a0_1, .int .i64 1, .int .i64 a0_3, .int .i64 a0_3, .int .i64 a0_3] (0, 0) _ rfl (ub_ BK275.out) Try.underlying62 rfl (by kernel_rfl)) rfl ?_
 exact ⟨ew_, ue_ HB.out⟩

/-! ### impl_WindowOf: function 39 -/
def impl_WindowOf.f (a0 : Int) (a1 : Int) : Option (Int) := (impl_isTime.f a0).bind fun t276 => (if t276 = true then ((impl_isSize.f a1).bind fun t277 => (if t277 = true then (if a1 = 0 then (none) else (some (wrap64 (Int.tdiv a0 a1)))) else (some (-1)))) else (some (-1)))
set_option maxHeartbeats 8000000 in
set_option maxRecDepth 100000 in
theorem impl_WindowOf.calls (a0 : Int) (a1 : Int) (r : Int) (w : World) (h : impl_WindowOf.f a0 a1 = some r) :
  Calls Try.prog 39 #[.int .i64 a0, .int .i64 a1] w fun e w' => e = .returned (.int .i64 r) ∧ Drawn0 w w' := by
 have H : ((impl_isTime.f a0).bind fun t276 => (if t276 = true then ((impl_isSize.f a1).bind fun t277 => (if t277 = true then (if a1 = 0 then (none) else (some (wrap64 (Int.tdiv a0 a1)))) else (some (-1)))) else (some (-1)))) = some r := h
 clear h
 replace H := Option.bind_eq_some_iff.mp H
 obtain ⟨t276, A30, H⟩ := H
 replace H : (if t276 = true then ((impl_isSize.f a1).bind fun t277 => (if t277 = true then (if a1 = 0 then (none) else (some (wrap64 (Int.tdiv a0 a1)))) else (some (-1)))) else (some (-1))) = some r := H
 have A3 := Aside0.mk A30
 clear A30
 by_cases c4 : t276 = true
 ·
  subst c4
  have H1 : ((impl_isSize.f a1).bind fun t277 => (if t277 = true then (if a1 = 0 then (none) else (some (wrap64 (Int.tdiv a0 a1)))) else (some (-1)))) = some r := by rw [if_pos rfl] at H; exact H
  clear H
  have H := H1
  clear H1
  replace H := Option.bind_eq_some_iff.mp H
  obtain ⟨t277, A50, H⟩ := H
  replace H : (if t277 = true then (if a1 = 0 then (none) else (some (wrap64 (Int.tdiv a0 a1)))) else (some (-1))) = some r := H
  have A5 := Aside0.mk A50
  clear A50
  by_cases c6 : t277 = true
  ·
   subst c6
   have H1 : (if a1 = 0 then (none) else (some (wrap64 (Int.tdiv a0 a1)))) = some r := by rw [if_pos rfl] at H; exact H
   clear H
   have H := H1
   clear H1
   by_cases c7 : a1 = 0
   ·
    rw [if_pos c7] at H
    exact absurd H (by simp)
   rw [if_neg c7] at H
   have c7b0 : (a1 == 0) = false := beq_eq_false_iff_ne.mpr c7
   have c7b1 : (a1 != 0) = true := bne_iff_ne.mpr c7
   obtain rfl := Option.some.inj H
   go_enter Try.func39, Try.ntmps39
   go_wp2_with (first | ((with_reducible refine gate_callee (f := 68) rfl ?_); refine goesL_ (some 6) rfl rfl Try.func68 (by kernel_rfl) rfl #[.int .i64 a0] rfl ul_ ?_; (with_reducible refine (impl_isTime.calls a0 true _ A3.out).mono ?_); rintro e w' ⟨rfl, ⟨nd, rfl⟩⟩; refine ⟨_, rfl, ?_⟩) | (go_at_call 35; (with_reducible refine (impl_isSize.calls a1 true _ A5.out).mono ?_); rintro e w' ⟨rfl, ⟨nd, rfl⟩⟩))
   go_ret
   exact ⟨by first | rfl | (simp; done) | (simp [*]; done), by repeat (first | exact Drawn0.refl _ | apply Drawn0.step)⟩
  replace c6 := Bool.eq_false_iff.mpr c6
  subst c6
  have H1 : (some (-1)) = some r := by rw [if_neg (show ¬ (false = true) by decide)] at H; exact H
  clear H
  have H := H1
  clear H1
  obtain rfl := Option.some.inj H
  go_enter Try.func39, Try.ntmps39
  go_wp2_with (first | ((with_reducible refine gate_callee (f := 68) rfl ?_); refine goesL_ (some 6) rfl rfl Try.func68 (by kernel_rfl) rfl #[.int .i64 a0] rfl ul_ ?_; (with_reducible refine (impl_isTime.calls a0 true _ A3.out).mono ?_); rintro e w' ⟨rfl, ⟨nd, rfl⟩⟩; refine ⟨_, rfl, ?_⟩) | (go_at_call 35; (with_reducible refine (impl_isSize.calls a1 false _ A5.out).mono ?_); rintro e w' ⟨rfl, ⟨nd, rfl⟩⟩))
  go_ret
  exact ⟨by first | rfl | (simp; done) | (simp [*]; done), by repeat (first | exact Drawn0.refl _ | apply Drawn0.step)⟩
 replace c4 := Bool.eq_false_iff.mpr c4
 subst c4
 have H1 : (some (-1)) = some r := by rw [if_neg (show ¬ (false = true) by decide)] at H; exact H
 clear H
 have H := H1
 clear H1
 obtain rfl := Option.some.inj H
 go_enter Try.func39, Try.ntmps39
 go_wp2_with (first | ((with_reducible refine gate_callee (f := 68) rfl ?_); refine goesL_ (some 6) rfl rfl Try.func68 (by kernel_rfl) rfl #[.int .i64 a0] rfl ul_ ?_; (with_reducible refine (impl_isTime.calls a0 false _ A3.out).mono ?_); rintro e w' ⟨rfl, ⟨nd, rfl⟩⟩; refine ⟨_, rfl, ?_⟩))
 go_ret
 exact ⟨by first | rfl | (simp; done) | (simp [*]; done), by repeat (first | exact Drawn0.refl _ | apply Drawn0.step)⟩

/-- What an order's value answers, in every world in which all that lay in w lies unturned. -/
def PaysO62 (P : Program) (p : S62 → S62 → Option Int) (g : Nat) (lb : Array Value) (w : World) : Prop :=
 (∀ args W, (callFunc g args).run P W = .ok (.enter g args) W) ∧ ∀ (W : World) (x y : S62) (r : Int), Below w.heap.size w W → p x y = some r →
  Calls P g (#[.agg #[.int .i64 x.f0, .int .i64 x.f1, .int .i64 x.f2, .int .i64 x.f3, .int .i64 x.f4, .int .i64 x.f5], .agg #[.int .i64 y.f0, .int .i64 y.f1, .int .i64 y.f2, .int .i64 y.f3, .int .i64 y.f4, .int .i64 y.f5]] ++ lb) W fun e W' => e = .returned (.int .i64 r) ∧ Below W.heap.size W W'
theorem mid_eq {i j : Nat} (h : (i : Int) + (j : Int) < 18446744073709551616) : wrap64 (IntKind.u64.wrap (wrap64 ((i : Int) + (j : Int))) / 2) = (((i + j) / 2 : Nat) : Int) := by
 have h1 : IntKind.u64.wrap (wrap64 ((i : Int) + (j : Int))) = (i : Int) + (j : Int) := by
  have h2 : ∀ x, IntKind.u64.wrap x = x % 18446744073709551616 := fun x => by simp [IntKind.wrap, IntKind.bits, IntKind.signed]
  rw [h2]
  unfold wrap64
  rw [Int.sub_emod, Int.emod_emod_of_dvd _ (Int.dvd_refl _), ← Int.sub_emod, Int.add_sub_cancel]
  exact Int.emod_eq_of_lt (by omega) h
 rw [h1]
 have h3 : ((i : Int) + (j : Int)) / 2 = (((i + j) / 2 : Nat) : Int) := by omega
 rw [h3]
 have h4 : (i + j) / 2 < 9223372036854775808 := by omega
 unfold wrap64
 rw [Int.emod_eq_of_lt (by omega) (by omega)]
 omega
def bs62 (p : S62 → Option Int) (l : List S62) : Nat → Nat → Nat → Option Nat
 | 0, _, _ => none
 | k + 1, i, j => if i < j then (p (rd_T62 l (((i + j) / 2 : Nat) : Int))).bind fun r => if r < 0 then bs62 p l k ((i + j) / 2 + 1) j else bs62 p l k i ((i + j) / 2) else some i
def bsf62 (l : List S62) (t : S62) (p : S62 → S62 → Option Int) : Option (Int × Bool) :=
 (bs62 (fun x => p x t) l (l.length + 1) 0 l.length).bind fun i => if i < l.length then (p (rd_T62 l (i : Int)) t).bind fun r => some ((i : Int), decide (r = 0)) else some ((i : Int), false)
set_option maxHeartbeats 4000000 in
set_option maxRecDepth 100000 in
theorem bsf62_calls (A0 : Option Addr) (c0 : Nat) (l0 : List S62) (a0 a1 a2 a3 a4 a5 : Int) (p : S62 → S62 → Option Int) (g : Nat) (lb : Array Value) (r1 : Int) (r2 : Bool) (w : World) (hr0 : Kd.C k62 w A0 l0.length l0) (hc0 : l0.length ≤ c0)
  (hp : PaysO62 Try.prog p g lb w) (h : bsf62 l0 ⟨a0, a1, a2, a3, a4, a5⟩ p = some (r1, r2)) :
  Calls Try.prog 40 #[.slice A0 l0.length c0, .agg #[.int .i64 a0, .int .i64 a1, .int .i64 a2, .int .i64 a3, .int .i64 a4, .int .i64 a5], .func (.func g) #[] lb] w fun e w' => e = .returned (.tuple #[.int .i64 r1, .bool r2]) ∧ Below w.heap.size w w' := by
 have hu62 := Try.underlying62
 have HM : Aside0 (l0.length ≤ 9223372036854775807) := ⟨hr0.2.1⟩
 have HR0 := Aside0.mk hr0
 have HP := Aside0.mk hp.2
 have eg := hp.1
 unfold bsf62 at h
 obtain ⟨m, hm, h⟩ := Option.bind_eq_some_iff.mp h
 have HS := Aside0.mk hm
 have HE := Aside0.mk h
 have HMx := HM.out
 clear hr0 hc0 hp h hm HM
 go_enter Try.func40, Try.ntmps40
 go_wp2
 have hw1 := blk_new w (.cells #[.int .i64 a0, .int .i64 a1, .int .i64 a2, .int .i64 a3, .int .i64 a4, .int .i64 a5] 62)
 have HB := am_ (Below.refl (w.alloc (.cells #[.int .i64 a0, .int .i64 a1, .int .i64 a2, .int .i64 a3, .int .i64 a4, .int .i64 a5] 62)).heap.size (w.alloc (.cells #[.int .i64 a0, .int .i64 a1, .int .i64 a2, .int .i64 a3, .int .i64 a4, .int .i64 a5] 62)))
 have HBW := am_ (below_alloc (Below.refl w.heap.size w) (.cells #[.int .i64 a0, .int .i64 a1, .int .i64 a2, .int .i64 a3, .int .i64 a4, .int .i64 a5] 62))
 have HS' : Aside0 (∃ k, bs62 (fun x => p x ⟨a0, a1, a2, a3, a4, a5⟩) l0 k 0 l0.length = some m) := ⟨⟨_, HS.out⟩⟩
 have HN := Aside0.mk hw1
 clear hw1 HS
 generalize (w.alloc (.cells #[.int .i64 a0, .int .i64 a1, .int .i64 a2, .int .i64 a3, .int .i64 a4, .int .i64 a5] 62)) = wa at HB HBW HN ⊢
 go_loopg [9, 10, 11] l0.length (fun gg v9 v10 _ W => ∃ i j : Nat, v9 = .int .i64 i ∧ v10 = .int .i64 j ∧ i ≤ j ∧ j ≤ l0.length ∧ j - i ≤ gg ∧ Aside0 (∃ k, bs62 (fun x => p x ⟨a0, a1, a2, a3, a4, a5⟩) l0 k i j = some m) ∧ Aside0 (Below wa.heap.size wa W))
 case atStart => exact ⟨0, l0.length, rfl, rfl, Nat.zero_le _, Nat.le_refl _, Nat.le_refl _, HS', HB⟩
 case round =>
  clear HS' HB
  obtain ⟨i, j, rfl, rfl, hij, hjn, hg, HS, HB⟩ := hrel
  by_cases hlt : i < j
  ·
   have hltz : (i : Int) < (j : Int) := by omega
   obtain ⟨k, hk⟩ := HS.out
   obtain ⟨k, rfl⟩ : ∃ k', k = k' + 1 := ⟨k - 1, by cases k with | zero => exact absurd hk (by simp [bs62]) | succ k => omega⟩
   simp only [bs62] at hk
   rw [if_pos hlt] at hk
   obtain ⟨r, hr, hk⟩ := Option.bind_eq_some_iff.mp hk
   have hmid : (i + j) / 2 < l0.length := by omega
   obtain ⟨q, hq⟩ : ∃ q, q = (i + j) / 2 := ⟨_, rfl⟩
   have hqz : wrap64 (IntKind.u64.wrap (wrap64 ((i : Int) + (j : Int))) / 2) = (q : Int) := by
    rw [hq]
    exact mid_eq (by omega)
   have HQ := am_ (show i ≤ q ∧ q < j by omega)
   rw [← hq] at hmid hr hk
   clear hq
   have HR := am_ (show p (rd_T62 l0 (q : Int)) ⟨a0, a1, a2, a3, a4, a5⟩ = some r from hr)
   have HK := Aside0.mk hk
   clear hk hr HS
   have hb0 : wr.heap[w.heap.size]? = some (.cells #[.int .i64 a0, .int .i64 a1, .int .i64 a2, .int .i64 a3, .int .i64 a4, .int .i64 a5] 62 (0, 0)) := blk_below HN.out HB.out
   have hy0 := blk_cell hb0 0; have hy1 := blk_cell hb0 1; have hy2 := blk_cell hb0 2; have hy3 := blk_cell hb0 3; have hy4 := blk_cell hb0 4; have hy5 := blk_cell hb0 5
   simp at hy0 hy1 hy2 hy3 hy4 hy5
   clear hb0
   have hBw := below_step HBW.out HB.out
   obtain ⟨ad, e, hx0, hx1, hx2, hx3, hx4, hx5⟩ := at_T62 (Kd.C_below HR0.out hBw) (q : Int) (by omega) (by omega)
   subst e
   simp only [Int.toNat_natCast] at hx0 hx1 hx2 hx3 hx4 hx5
   have HC := am_ (HP.out wr (rd_T62 l0 (q : Int)) ⟨a0, a1, a2, a3, a4, a5⟩ r hBw HR.out)
   have hqlt : (q : Int) < (l0.length : Int) := by omega
   have hq0 : (0 : Int) ≤ (q : Int) := by omega
   by_cases hrn : r < 0
   ·
    go_wp2
    go_region_held3 (fun W' => Below wr.heap.size wr W' ∧ W'.cell? (ad.add (q * 6)) = some (.int .i64 (rd_T62 l0 (q : Int)).f0) ∧ W'.cell? ⟨(ad.add (q * 6)).block, (ad.add (q * 6)).off + 1, none⟩ = some (.int .i64 (rd_T62 l0 (q : Int)).f1) ∧ W'.cell? ⟨(ad.add (q * 6)).block, (ad.add (q * 6)).off + 2, none⟩ = some (.int .i64 (rd_T62 l0 (q : Int)).f2) ∧ W'.cell? ⟨(ad.add (q * 6)).block, (ad.add (q * 6)).off + 3, none⟩ = some (.int .i64 (rd_T62 l0 (q : Int)).f3) ∧ W'.cell? ⟨(ad.add (q * 6)).block, (ad.add (q * 6)).off + 4, none⟩ = some (.int .i64 (rd_T62 l0 (q : Int)).f4) ∧ W'.cell? ⟨(ad.add (q * 6)).block, (ad.add (q * 6)).off + 5, none⟩ = some (.int .i64 (rd_T62 l0 (q : Int)).f5) ∧ W'.cell? ⟨w.heap.size, 0, none⟩ = some (.int .i64 a0) ∧ W'.cell? ⟨w.heap.size, 1, none⟩ = some (.int .i64 a1) ∧ W'.cell? ⟨w.heap.size, 2, none⟩ = some (.int .i64 a2) ∧ W'.cell? ⟨w.heap.size, 3, none⟩ = some (.int .i64 a3) ∧ W'.cell? ⟨w.heap.size, 4, none⟩ = some (.int .i64 a4) ∧ W'.cell? ⟨w.heap.size, 5, none⟩ = some (.int .i64 a5)) (first | exact ⟨below_drew (Below.refl _ _), hx0, hx1, hx2, hx3, hx4, hx5, hy0, hy1, hy2, hy3, hy4, hy5⟩ | exact ⟨below_step (below_drew (Below.refl _ _)) hb', pw_cell_below hb' hx0, pw_cell_below hb' hx1, pw_cell_below hb' hx2, pw_cell_below hb' hx3, pw_cell_below hb' hx4, pw_cell_below hb' hx5, pw_cell_below hb' hy0, pw_cell_below hb' hy1, pw_cell_below hb' hy2, pw_cell_below hb' hy3, pw_cell_below hb' hy4, pw_cell_below hb' hy5⟩) (first | (go_at_fn g; refine (HP.out _ (rd_T62 l0 (q : Int)) ⟨a0, a1, a2, a3, a4, a5⟩ r (below_drew hBw) HR.out).mono ?_; rintro e w' ⟨rfl, hb'⟩))
    go_wp2
    have HKn := HK.out
    rw [if_pos hrn] at HKn
    go_roundg (j - (q + 1))
    case measure => have := HQ.out; omega
    case rel => exact ⟨q + 1, j, by go_num, rfl, by have := HQ.out; omega, hjn, Nat.le_refl _, ⟨⟨_, HKn⟩⟩, ⟨below_step (below_drew HB.out) hb'⟩⟩
   go_wp2
   go_region_held3 (fun W' => Below wr.heap.size wr W' ∧ W'.cell? (ad.add (q * 6)) = some (.int .i64 (rd_T62 l0 (q : Int)).f0) ∧ W'.cell? ⟨(ad.add (q * 6)).block, (ad.add (q * 6)).off + 1, none⟩ = some (.int .i64 (rd_T62 l0 (q : Int)).f1) ∧ W'.cell? ⟨(ad.add (q * 6)).block, (ad.add (q * 6)).off + 2, none⟩ = some (.int .i64 (rd_T62 l0 (q : Int)).f2) ∧ W'.cell? ⟨(ad.add (q * 6)).block, (ad.add (q * 6)).off + 3, none⟩ = some (.int .i64 (rd_T62 l0 (q : Int)).f3) ∧ W'.cell? ⟨(ad.add (q * 6)).block, (ad.add (q * 6)).off + 4, none⟩ = some (.int .i64 (rd_T62 l0 (q : Int)).f4) ∧ W'.cell? ⟨(ad.add (q * 6)).block, (ad.add (q * 6)).off + 5, none⟩ = some (.int .i64 (rd_T62 l0 (q : Int)).f5) ∧ W'.cell? ⟨w.heap.size, 0, none⟩ = some (.int .i64 a0) ∧ W'.cell? ⟨w.heap.size, 1, none⟩ = some (.int .i64 a1) ∧ W'.cell? ⟨w.heap.size, 2, none⟩ = some (.int .i64 a2) ∧ W'.cell? ⟨w.heap.size, 3, none⟩ = some (.int .i64 a3) ∧ W'.cell? ⟨w.heap.size, 4, none⟩ = some (.int .i64 a4) ∧ W'.cell? ⟨w.heap.size, 5, none⟩ = some (.int .i64 a5)) (first | exact ⟨below_drew (Below.refl _ _), hx0, hx1, hx2, hx3, hx4, hx5, hy0, hy1, hy2, hy3, hy4, hy5⟩ | exact ⟨below_step (below_drew (Below.refl _ _)) hb', pw_cell_below hb' hx0, pw_cell_below hb' hx1, pw_cell_below hb' hx2, pw_cell_below hb' hx3, pw_cell_below hb' hx4, pw_cell_below hb' hx5, pw_cell_below hb' hy0, pw_cell_below hb' hy1, pw_cell_below hb' hy2, pw_cell_below hb' hy3, pw_cell_below hb' hy4, pw_cell_below hb' hy5⟩) (first | (go_at_fn g; refine (HP.out _ (rd_T62 l0 (q : Int)) ⟨a0, a1, a2, a3, a4, a5⟩ r (below_drew hBw) HR.out).mono ?_; rintro e w' ⟨rfl, hb'⟩))
   go_wp2
   have HKn := HK.out
   rw [if_neg (by omega)] at HKn
   go_roundg (q - i)
   case measure => have := HQ.out; omega
   case rel => exact ⟨i, q, rfl, rfl, by have := HQ.out; omega, by have := HQ.out; omega, Nat.le_refl _, ⟨⟨_, HKn⟩⟩, ⟨below_step (below_drew HB.out) hb'⟩⟩
  have hltz : ¬ (i : Int) < (j : Int) := by omega
  obtain rfl : i = j := by omega
  obtain ⟨k, hk⟩ := HS.out
  have hm : i = m := by
   cases k with
   | zero => exact absurd hk (by simp [bs62])
   | succ k => simp only [bs62] at hk; rw [if_neg (by omega)] at hk; exact Option.some.inj hk
  subst hm
  clear hk HS
  have hb0 : wr.heap[w.heap.size]? = some (.cells #[.int .i64 a0, .int .i64 a1, .int .i64 a2, .int .i64 a3, .int .i64 a4, .int .i64 a5] 62 (0, 0)) := blk_below HN.out HB.out
  have hy0 := blk_cell hb0 0; have hy1 := blk_cell hb0 1; have hy2 := blk_cell hb0 2; have hy3 := blk_cell hb0 3; have hy4 := blk_cell hb0 4; have hy5 := blk_cell hb0 5
  simp at hy0 hy1 hy2 hy3 hy4 hy5
  clear hb0
  have hBw := below_step HBW.out HB.out
  have h := HE.out
  by_cases hmn : i < l0.length
  ·
   rw [if_pos hmn] at h
   obtain ⟨r, hr, h⟩ := Option.bind_eq_some_iff.mp h
   simp only [Option.some.injEq, Prod.mk.injEq] at h
   obtain ⟨rfl, rfl⟩ := h
   obtain ⟨ad, e, hx0, hx1, hx2, hx3, hx4, hx5⟩ := at_T62 (Kd.C_below HR0.out hBw) (i : Int) (by omega) (by omega)
   subst e
   simp only [Int.toNat_natCast] at hx0 hx1 hx2 hx3 hx4 hx5
   have hr8 := hr
   have hilt : (i : Int) < (l0.length : Int) := by omega
   have hi0 : (0 : Int) ≤ (i : Int) := by omega
   have HBw := Aside0.mk hBw
   clear hBw hr
   have HR8 := Aside0.mk hr8
   clear hr8
   go_wp2
   go_region_held3 (fun W' => Below wr.heap.size wr W' ∧ W'.cell? (ad.add (i * 6)) = some (.int .i64 (rd_T62 l0 (i : Int)).f0) ∧ W'.cell? ⟨(ad.add (i * 6)).block, (ad.add (i * 6)).off + 1, none⟩ = some (.int .i64 (rd_T62 l0 (i : Int)).f1) ∧ W'.cell? ⟨(ad.add (i * 6)).block, (ad.add (i * 6)).off + 2, none⟩ = some (.int .i64 (rd_T62 l0 (i : Int)).f2) ∧ W'.cell? ⟨(ad.add (i * 6)).block, (ad.add (i * 6)).off + 3, none⟩ = some (.int .i64 (rd_T62 l0 (i : Int)).f3) ∧ W'.cell? ⟨(ad.add (i * 6)).block, (ad.add (i * 6)).off + 4, none⟩ = some (.int .i64 (rd_T62 l0 (i : Int)).f4) ∧ W'.cell? ⟨(ad.add (i * 6)).block, (ad.add (i * 6)).off + 5, none⟩ = some (.int .i64 (rd_T62 l0 (i : Int)).f5) ∧ W'.cell? ⟨w.heap.size, 0, none⟩ = some (.int .i64 a0) ∧ W'.cell? ⟨w.heap.size, 1, none⟩ = some (.int .i64 a1) ∧ W'.cell? ⟨w.heap.size, 2, none⟩ = some (.int .i64 a2) ∧ W'.cell? ⟨w.heap.size, 3, none⟩ = some (.int .i64 a3) ∧ W'.cell? ⟨w.heap.size, 4, none⟩ = some (.int .i64 a4) ∧ W'.cell? ⟨w.heap.size, 5, none⟩ = some (.int .i64 a5)) (first | exact ⟨below_drew (Below.refl _ _), hx0, hx1, hx2, hx3, hx4, hx5, hy0, hy1, hy2, hy3, hy4, hy5⟩ | exact ⟨below_step (below_drew (Below.refl _ _)) hb', pw_cell_below hb' hx0, pw_cell_below hb' hx1, pw_cell_below hb' hx2, pw_cell_below hb' hx3, pw_cell_below hb' hx4, pw_cell_below hb' hx5, pw_cell_below hb' hy0, pw_cell_below hb' hy1, pw_cell_below hb' hy2, pw_cell_below hb' hy3, pw_cell_below hb' hy4, pw_cell_below hb' hy5⟩) (first | (go_at_fn g; refine (HP.out _ (rd_T62 l0 (i : Int)) ⟨a0, a1, a2, a3, a4, a5⟩ r (below_drew HBw.out) HR8.out).mono ?_; rintro e w' ⟨rfl, hb'⟩))
   go_wp2
   go_ret2
   exact ⟨by first | rfl | simp, below_step (below_drew HBw.out) hb'⟩
  rw [if_neg hmn] at h
  simp only [Option.some.injEq, Prod.mk.injEq] at h
  obtain ⟨rfl, rfl⟩ := h
  obtain rfl : i = l0.length := by omega
  have HBw := Aside0.mk hBw
  clear hBw
  go_wp2
  go_region
  go_wp2
  go_ret2
  exact ⟨rfl, by first | exact HBw.out | exact below_drew HBw.out⟩
/-- The order of the rows, as a function over two of them. -/
def ord62 (x y : S62) : Option Int := impl_aggOrder.f 5 x.f0 x.f1 x.f2 x.f3 x.f4 x.f5 y.f0 y.f1 y.f2 y.f3 y.f4 y.f5
theorem impl_aggOrder.pays (w : World) : PaysO62 Try.prog ord62 41 #[] w :=
 ⟨fun args W => enters_ Try.func41 (by kernel_rfl) rfl args W, fun W x y r _ h => impl_aggOrder.calls 5 x.f0 x.f1 x.f2 x.f3 x.f4 x.f5 y.f0 y.f1 y.f2 y.f3 y.f4 y.f5 r W h⟩
/-! ### slices_BinarySearchFunc_impl_Agg_impl_Agg_impl_Agg: function 40 -/
def slices_BinarySearchFunc_impl_Agg_impl_Agg_impl_Agg.f (l0 : List S62) (a0 a1 a2 a3 a4 a5 : Int) (p : S62 → S62 → Option Int) : Option (Int × Bool) := bsf62 l0 ⟨a0, a1, a2, a3, a4, a5⟩ p
theorem slices_BinarySearchFunc_impl_Agg_impl_Agg_impl_Agg.calls (A0 : Option Addr) (c0 : Nat) (l0 : List S62) (a0 a1 a2 a3 a4 a5 : Int) (p : S62 → S62 → Option Int) (g : Nat) (lb : Array Value) (r1 : Int) (r2 : Bool) (w : World) (hr0 : Kd.C k62 w A0 l0.length l0) (hc0 : l0.length ≤ c0)
  (hp : PaysO62 Try.prog p g lb w) (h : slices_BinarySearchFunc_impl_Agg_impl_Agg_impl_Agg.f l0 a0 a1 a2 a3 a4 a5 p = some (r1, r2)) :
  Calls Try.prog 40 #[.slice A0 l0.length c0, .agg #[.int .i64 a0, .int .i64 a1, .int .i64 a2, .int .i64 a3, .int .i64 a4, .int .i64 a5], .func (.func g) #[] lb] w fun e w' => e = .returned (.tuple #[.int .i64 r1, .bool r2]) ∧ Below w.heap.size w w' := bsf62_calls A0 c0 l0 a0 a1 a2 a3 a4 a5 p g lb r1 r2 w hr0 hc0 hp h

/-! ### impl_WindowEnd: function 42 -/
def impl_WindowEnd.f (a0 : Int) (a1 : Int) : Option (Int) := (impl_isTime.f a0).bind fun t278 => (if t278 = true then ((impl_isSize.f a1).bind fun t279 => (if t279 = true then (some (wrap64 ((wrap64 ((wrap64 (a0 + 1)) * a1)) - 1))) else (some (-1)))) else (some (-1)))
set_option maxHeartbeats 8000000 in
set_option maxRecDepth 100000 in
theorem impl_WindowEnd.calls (a0 : Int) (a1 : Int) (r : Int) (w : World) (h : impl_WindowEnd.f a0 a1 = some r) :
  Calls Try.prog 42 #[.int .i64 a0, .int .i64 a1] w fun e w' => e = .returned (.int .i64 r) ∧ Drawn0 w w' := by
 have H : ((impl_isTime.f a0).bind fun t278 => (if t278 = true then ((impl_isSize.f a1).bind fun t279 => (if t279 = true then (some (wrap64 ((wrap64 ((wrap64 (a0 + 1)) * a1)) - 1))) else (some (-1)))) else (some (-1)))) = some r := h
 clear h
 replace H := Option.bind_eq_some_iff.mp H
 obtain ⟨t278, A30, H⟩ := H
 replace H : (if t278 = true then ((impl_isSize.f a1).bind fun t279 => (if t279 = true then (some (wrap64 ((wrap64 ((wrap64 (a0 + 1)) * a1)) - 1))) else (some (-1)))) else (some (-1))) = some r := H
 have A3 := Aside0.mk A30
 clear A30
 by_cases c4 : t278 = true
 ·
  subst c4
  have H1 : ((impl_isSize.f a1).bind fun t279 => (if t279 = true then (some (wrap64 ((wrap64 ((wrap64 (a0 + 1)) * a1)) - 1))) else (some (-1)))) = some r := by rw [if_pos rfl] at H; exact H
  clear H
  have H := H1
  clear H1
  replace H := Option.bind_eq_some_iff.mp H
  obtain ⟨t279, A50, H⟩ := H
  replace H : (if t279 = true then (some (wrap64 ((wrap64 ((wrap64 (a0 + 1)) * a1)) - 1))) else (some (-1))) = some r := H
  have A5 := Aside0.mk A50
  clear A50
  by_cases c6 : t279 = true
  ·
   subst c6
   have H1 : (some (wrap64 ((wrap64 ((wrap64 (a0 + 1)) * a1)) - 1))) = some r := by rw [if_pos rfl] at H; exact H
   clear H
   have H := H1
   clear H1
   obtain rfl := Option.some.inj H
   go_enter Try.func42, Try.ntmps42
   go_wp2_with (first | ((with_reducible refine gate_callee (f := 68) rfl ?_); refine goesL_ (some 6) rfl rfl Try.func68 (by kernel_rfl) rfl #[.int .i64 a0] rfl ul_ ?_; (with_reducible refine (impl_isTime.calls a0 true _ A3.out).mono ?_); rintro e w' ⟨rfl, ⟨nd, rfl⟩⟩; refine ⟨_, rfl, ?_⟩) | (go_at_call 35; (with_reducible refine (impl_isSize.calls a1 true _ A5.out).mono ?_); rintro e w' ⟨rfl, ⟨nd, rfl⟩⟩))
   go_ret
   exact ⟨by first | rfl | (simp; done) | (simp [*]; done), by repeat (first | exact Drawn0.refl _ | apply Drawn0.step)⟩
  replace c6 := Bool.eq_false_iff.mpr c6
  subst c6
  have H1 : (some (-1)) = some r := by rw [if_neg (show ¬ (false = true) by decide)] at H; exact H
  clear H
  have H := H1
  clear H1
  obtain rfl := Option.some.inj H
  go_enter Try.func42, Try.ntmps42
  go_wp2_with (first | ((with_reducible refine gate_callee (f := 68) rfl ?_); refine goesL_ (some 6) rfl rfl Try.func68 (by kernel_rfl) rfl #[.int .i64 a0] rfl ul_ ?_; (with_reducible refine (impl_isTime.calls a0 true _ A3.out).mono ?_); rintro e w' ⟨rfl, ⟨nd, rfl⟩⟩; refine ⟨_, rfl, ?_⟩) | (go_at_call 35; (with_reducible refine (impl_isSize.calls a1 false _ A5.out).mono ?_); rintro e w' ⟨rfl, ⟨nd, rfl⟩⟩))
  go_ret
  exact ⟨by first | rfl | (simp; done) | (simp [*]; done), by repeat (first | exact Drawn0.refl _ | apply Drawn0.step)⟩
 replace c4 := Bool.eq_false_iff.mpr c4
 subst c4
 have H1 : (some (-1)) = some r := by rw [if_neg (show ¬ (false = true) by decide)] at H; exact H
 clear H
 have H := H1
 clear H1
 obtain rfl := Option.some.inj H
 go_enter Try.func42, Try.ntmps42
 go_wp2_with (first | ((with_reducible refine gate_callee (f := 68) rfl ?_); refine goesL_ (some 6) rfl rfl Try.func68 (by kernel_rfl) rfl #[.int .i64 a0] rfl ul_ ?_; (with_reducible refine (impl_isTime.calls a0 false _ A3.out).mono ?_); rintro e w' ⟨rfl, ⟨nd, rfl⟩⟩; refine ⟨_, rfl, ?_⟩))
 go_ret
 exact ⟨by first | rfl | (simp; done) | (simp [*]; done), by repeat (first | exact Drawn0.refl _ | apply Drawn0.step)⟩

/-! ### impl_more: function 43 -/
def impl_more.f (a0 : Int) : Option (Int) := some (mn (wrap64 (a0 + 1)) 1000000000)
set_option maxHeartbeats 8000000 in
set_option maxRecDepth 100000 in
theorem impl_more.calls (a0 : Int) (r : Int) (w : World) (h : impl_more.f a0 = some r) :
  Calls Try.prog 43 #[.int .i64 a0] w fun e w' => e = .returned (.int .i64 r) ∧ Below w.heap.size w w' := by
 have HB := am_ (Below.refl w.heap.size w)
 have H : (some (mn (wrap64 (a0 + 1)) 1000000000)) = some r := h
 clear h
 obtain ⟨ji2, hji2⟩ : ∃ j_ : Int, (mn (wrap64 (a0 + 1)) 1000000000) = j_ := ⟨_, rfl⟩
 replace H : (some ji2) = some r := by first | (rw [hji2] at H; exact H) | (simp only [hji2] at H ⊢; exact H)
 (try (have hji2h : ji2 ≤ 1000000000 := by (rw [← hji2]; unfold mn; (repeat' split) <;> omega)))
 (try (have hji2g : ji2 ≤ 64 := by omega))
 have hji2_ : (if 1000000000 < (wrap64 (a0 + 1)) then 1000000000 else (wrap64 (a0 + 1))) = ji2 := hji2
 obtain rfl := Option.some.inj H
 go_enter Try.func43, Try.ntmps43
 go_wp2
 go_ret
 exact ⟨by first | rfl | (simp [errW_none, errW_some] <;> rfl) | (simp only [← hji2]; first | rfl | (simp [errW_none, errW_some] <;> rfl)) | (simp [*, errW_none, errW_some] <;> rfl), ue_ HB.out⟩

-- NOT PRINTED: function 92 (slices_overlaps_impl_Agg)

-- NOT PRINTED: function 108 (slices_Reverse_impl_Agg_impl_Agg)

-- NOT PRINTED: function 107 (slices_rotateLeft_impl_Agg)

-- NOT PRINTED: function 93 (slices_rotateRight_impl_Agg)

/-- copy of elements of any size into a row. -/
theorem run_copy_rowN {P : Program} (w : World) (dT sT ty elem : TypeId) (size g o dLen dCap : Nat) (a : Addr) (sLen sCap : Nat) (cur : Array Value) (t : TypeId) (cs : List Value)
  (hu : P.underlying dT = some (.slice elem)) (hs : (P.info? elem).map (·.size) = some size)
  (hg : w.heap[g]? = some (.cells cur t (0, 0))) (hn : cs.length = Nat.min sLen dLen * size)
  (hsrc : ∀ j v, cs[j]? = some v → w.cell? (a.add j) = some v) (hfit : o + cs.length ≤ cur.size) (h1 : ∀ v ∈ cs, v.oneCell' = true) :
  (Builtin.copy_ #[dT, sT] ty #[.slice (some ⟨g, o, none⟩) dLen dCap, .slice (some a) sLen sCap]).run P w =
   .ok (goInt (Nat.min sLen dLen)) (w.setRow g (cur.toList.take o ++ cs ++ cur.toList.drop (o + cs.length)).toArray) := by
 have hl := run_loadCells_list (P := P) w a cs hsrc
 have hst := run_storeCells_at P g o t cs 0 cur w hg (by simpa using hfit) h1
 cases hq : P.info? elem with
 | none => simp [hq] at hs
 | some i =>
  have hi : i.size = size := by simpa [hq] using hs
  simp [Builtin.copy_, run_underlying hu, Builtin.lenOf, Builtin.firstCells, sizeOf, typeInfo, hq, hi, ← hn, hl, hst]
def c62 (x : S62) : List Value := [.int .i64 x.f0, .int .i64 x.f1, .int .i64 x.f2, .int .i64 x.f3, .int .i64 x.f4, .int .i64 x.f5]
def cs62 (xs : List S62) : List Value := xs.flatMap c62
theorem cs62_len (xs : List S62) : (cs62 xs).length = xs.length * 6 := by
 induction xs with
 | nil => rfl
 | cons x xs ih => simp [cs62, c62] at ih ⊢; omega
theorem cs62_app (xs ys : List S62) : cs62 (xs ++ ys) = cs62 xs ++ cs62 ys := by simp [cs62]
theorem cs62_take (xs : List S62) (i : Nat) : (cs62 xs).take (i * 6) = cs62 (xs.take i) := by
 induction xs generalizing i with
 | nil => simp [cs62]
 | cons x xs ih =>
  cases i with
  | zero => simp [cs62]
  | succ i =>
   show (c62 x ++ cs62 xs).take ((i + 1) * 6) = c62 x ++ cs62 (xs.take i)
   rw [show (i + 1) * 6 = (c62 x).length + i * 6 by simp [c62]; omega, List.take_length_add_append, ih]
theorem cs62_drop (xs : List S62) (i : Nat) : (cs62 xs).drop (i * 6) = cs62 (xs.drop i) := by
 induction xs generalizing i with
 | nil => simp [cs62]
 | cons x xs ih =>
  cases i with
  | zero => simp [cs62]
  | succ i =>
   show (c62 x ++ cs62 xs).drop ((i + 1) * 6) = cs62 (xs.drop i)
   rw [show (i + 1) * 6 = (c62 x).length + i * 6 by simp [c62]; omega, List.drop_length_add_append, ih]
theorem cs62_one (xs : List S62) : ∀ v ∈ cs62 xs, v.oneCell' = true := by
 intro v hv
 simp [cs62, c62] at hv
 obtain ⟨x, _, h⟩ := hv
 rcases h with h | h | h | h | h | h <;> subst h <;> rfl
theorem reps62_eq {w : World} {base : Nat} {ok : Nat → Prop} : ∀ {xs : List S62} {inner : List Value}, Reps (k62.M w base ok) 6 xs inner → inner = cs62 xs := by
 intro xs
 induction xs with
 | nil => intro inner h; exact List.eq_nil_of_length_eq_zero (by rw [h.1]; rfl)
 | cons x xs ih =>
  intro inner h
  have h0 := k62_openM (h.2 0 x rfl)
  have hl : inner.length = (xs.length + 1) * 6 := h.1
  have hd : Reps (k62.M w base ok) 6 xs (inner.drop 6) := ⟨by rw [List.length_drop, hl]; omega, fun j p hj => by
   have := h.2 (j + 1) p (by simpa using hj)
   rw [List.drop_drop]
   rwa [show (j + 1) * 6 = 6 + j * 6 by omega] at this⟩
  have e := ih hd
  rw [Nat.zero_mul, List.drop_zero] at h0
  rw [← List.take_append_drop 6 inner, h0, e]
  rfl
theorem reps62_mk (w : World) (base : Nat) (ok : Nat → Prop) (xs : List S62) : Reps (k62.M w base ok) 6 xs (cs62 xs) := by
 refine ⟨cs62_len xs, fun j p hj => ?_⟩
 rw [cs62_drop]
 have hlt := (List.getElem?_eq_some_iff.1 hj).1
 have e := (List.getElem?_eq_some_iff.1 hj).2
 rw [List.drop_eq_getElem_cons hlt, e]
 exact k62_mkM w base ok p
theorem row62 {w : World} {base g n c : Nat} {ok : Nat → Prop} {xs : List S62} (h : Kd.R k62 62 w base ok (.slice (some ⟨g, 0, none⟩) n c) xs) :
  ∃ cur : Array Value, w.heap[g]? = some (.cells cur 62 (0, 0)) ∧ cur.size = c * 6 ∧ cur.toList.take (xs.length * 6) = cs62 xs ∧ base ≤ g ∧ ok g ∧ n = xs.length ∧ n ≤ c ∧ c ≤ maxLen := by
 obtain ⟨hn, hnc, _⟩ := Kd.R_reads' h
 obtain ⟨hok, inner, hown, hr⟩ := h
 rcases hown.2 with ⟨hv, _⟩ | ⟨g', cap', cur, hv, hb, hh, hcn, hcm, hcs, htake⟩
 ·
  cases hv
 injection hv with ha _ hc
 injection ha with ha
 injection ha with ha
 subst ha
 subst hc
 exact ⟨cur, hh, hcs, by have := reps62_eq hr; rw [← this]; exact htake, hb, hok g rfl, hn, hnc, hcm⟩
theorem mk62 {w : World} {base g c : Nat} {ok : Nat → Prop} {xs : List S62} {cur : Array Value} (hh : w.heap[g]? = some (.cells cur 62 (0, 0))) (hcs : cur.size = c * 6) (ht : cur.toList.take (xs.length * 6) = cs62 xs) (hb : base ≤ g) (hok : ok g) (hn : xs.length ≤ c) (hc : c ≤ maxLen) :
  Kd.R k62 62 w base ok (.slice (some ⟨g, 0, none⟩) xs.length c) xs :=
 ⟨fun k hk => by injection hk with hk; subst hk; exact hok, cs62 xs, ⟨cs62_len xs, .inr ⟨g, c, cur, rfl, hb, hh, hn, hc, hcs, ht⟩⟩, reps62_mk _ _ _ xs⟩
/-- Insert of one element, which lies in the block that was laid last. -/
def InsPost (P0_ : Nat → Prop) (l : List S62) (i : Nat) (x : S62) (w0 W : World) (e : Ending) (w' : World) : Prop :=
 ∃ v0_ : Value, e = .returned v0_ ∧ Kd.R k62 62 w' w0.heap.size (fun k_ => (P0_ k_ ∨ W.heap.size ≤ k_)) v0_ (l.take i ++ x :: l.drop i) ∧ Below w0.heap.size w0 w' ∧ Kept W w' (fun k_ => P0_ k_)
set_option maxHeartbeats 4000000 in
set_option maxRecDepth 100000 in
theorem ins62_end (P0_ : Nat → Prop) (A0 : Option Addr) (c : Nat) (l : List S62) (x : S62) (w0 W : World) (hB : Below w0.heap.size w0 W) (ho0 : Kd.R k62 62 W w0.heap.size P0_ (.slice A0 l.length c) l) (hl : l.length ≤ 1000000) :
  Calls Try.prog 71 #[.slice A0 l.length c, .int .i64 (l.length : Int), .slice (some ⟨W.heap.size, 0, none⟩) 1 1] (W.alloc (.cells #[.int .i64 x.f0, .int .i64 x.f1, .int .i64 x.f2, .int .i64 x.f3, .int .i64 x.f4, .int .i64 x.f5] 62)) (InsPost P0_ l l.length x w0 W) := by
 have hbase : w0.heap.size ≤ W.heap.size := hB.size
 have HO := am_ (Kd.R_mono (ok' := fun k_ => (P0_ k_ ∨ W.heap.size ≤ k_)) ho0 (fun _ hk => .inl hk))
 have HO0 := Aside0.mk ho0
 have HB := Aside0.mk hB
 have hz1 : ¬ ((1 : Int) = 0) := by omega
 have hnc := (Kd.R_reads' ho0).2.1
 have hncz : (l.length : Int) ≤ (c : Int) := by omega
 clear ho0 hB
 go_enter Try.func71, Try.ntmps71
 go_wp2_with (at_builtin; refine Kd.R_append k62 (w0 := w0) w0.heap.size rfl (.tmp 23) (.tmp 24) 28 62 (.agg #[(.int .i64 0), (.int .i64 0), (.int .i64 0), (.int .i64 0), (.int .i64 0), (.int .i64 0)]) 48 rfl Try.underlying28 info62 rfl (by decide) (by omega) (.slice A0 l.length c) l x [.int .i64 x.f0, .int .i64 x.f1, .int .i64 x.f2, .int .i64 x.f3, .int .i64 x.f4, .int .i64 x.f5] (fun k_ => (P0_ k_ ∨ W.heap.size ≤ k_)) (fun _ => False) rfl rfl ?aP (fun _ hk => hk.elim) ?aF ?aO ?aB ?aS ?aL ?_; (case aP => exact k62_mkM _ _ _ x); (case aB => exact HB.out); (case aF => exact fun k hk => .inr hk); (case aO => exact HO.out); (case aS => exact hbase); (case aL => omega); intro v1 w1 ho hb hg hat)
 all_goals
  go_ret
  refine ⟨_, rfl, ?_, hb, ?_⟩
  ·
   rw [List.take_length, List.drop_length]
   exact ho
  exact Kept.of_grown hg (Kept.refl W _) (fun k hk => .inl (HO0.out.1 k hk))
theorem run_append_zeros_grow {P : Program} (w : World) (t ti ty e : TypeId) (i : TypeInfo) (z : Value) (ht : P.underlying t = some (.slice e)) {k : IntKind} (hti : P.underlying ti = some (.int k)) (hi : P.info? e = some i) (hz : i.zero = some z)
  (hsz : 0 < i.size) (hb0 : 0 < i.bytes) (A : Option Addr) (n cap : Nat) (xs : List Value) (hfo : (Builtin.firstCells i.size n (.slice A n cap)).run P w.drew = .ok xs.toArray w.drew) (kx : IntKind) (m : Nat) (hm : 0 < m) (hcap : cap < n + m) (hbytes : (n + m) * i.bytes ≤ 140737488355328) :
  (Builtin.append_ #[t, ti] ty #[.slice A n cap, .int kx m]).run P w =
   .ok (.slice (some ⟨w.heap.size, 0, none⟩) (n + m) (grownCap w (n + m) cap e)) (w.drew.alloc (.cells (xs.toArray ++ Builtin.zeroCells z.cells m ++ Builtin.zeroCells z.cells (grownCap w (n + m) cap e - (n + m))) e)) := by
 have hle : n + m ≤ 140737488355328 := Nat.le_trans (Nat.le_mul_of_pos_right _ hb0) hbytes
 have hw : IntKind.i64.wrap (m : Int) = m := by rw [IntKind.wrap_i64]; omega
 have hneg : ¬ ((m : Int) < 0) := by omega
 have hmb : m * i.bytes ≤ 140737488355328 := Nat.le_trans (Nat.mul_le_mul_right _ (Nat.le_add_left m n)) hbytes
 have hbig : ¬ (281474976710656 < (m : Int) * (i.bytes : Int)) := by
  rw [← Int.natCast_mul]
  omega
 have hsn : i.size ≠ 0 := by omega
 obtain ⟨news, hnews⟩ : ∃ news, news = (Builtin.zeroCells z.cells m).toList := ⟨_, rfl⟩
 have hna : Builtin.zeroCells z.cells m = news.toArray := by rw [hnews]
 have hn : ¬ (n + m ≤ cap) := by omega
 have h63' : ¬ (9223372036854775807 < ((n : Int) + (m : Int))) := by omega
 have hfit := growslice_fits hcap hbytes
 have h48' : ¬ (281474976710656 < Builtin.nextslicecap (n + m) cap * i.bytes) := by omega
 have hmz : ¬ (m * i.size = 0) := Nat.mul_ne_zero (by omega) hsn
 simp [Builtin.append_, run_underlying ht, run_underlying hti, sizeOf, typeInfo, zeroValue, hi, hz, asInt, asIntOf, hw, hneg, hbig, hn, h63', h48', Question.forced, hfo, newRow, grownCap, hmz, hna]
 congr 2
 apply Array.ext'
 simp [List.append_assoc]
theorem firstCells62 {W W' : World} {base g n c : Nat} {ok : Nat → Prop} {l : List S62} (h : Kd.R k62 62 W base ok (.slice (some ⟨g, 0, none⟩) n c) l) (hW : W'.heap[g]? = W.heap[g]?) : ∀ j v, (cs62 l)[j]? = some v → W'.cell? ⟨g, j, none⟩ = some v := by
 obtain ⟨cur, hh, hcs, ht, _, _, hn, hnc, _⟩ := row62 h
 intro j v hj
 rw [cell_of_row W' g j cur 62 (0, 0) (hW.trans hh)]
 rw [← ht, List.getElem?_take] at hj
 split at hj
 ·
  simpa using hj
 cases hj
theorem zer62 {base g c i : Nat} {ok : Nat → Prop} {l : List S62} {W : World} (h : Kd.R k62 62 W base ok (.slice (some ⟨g, 0, none⟩) l.length c) l) (hi : i < l.length) (hc : c < l.length + 1) (hl : l.length ≤ 1000000) :
  ∃ (c2 : Nat) (W9 : World) (cur : Array Value), (∀ ty, (Builtin.append_ #[28, 3] ty #[.slice (some ⟨g, 0, none⟩) i c, .int .i64 ((l.length : Int) + 1 - (i : Int))]).run Try.prog W = .ok (.slice (some ⟨W.heap.size, 0, none⟩) (l.length + 1) c2) W9) ∧
   W9.heap[W.heap.size]? = some (.cells cur 62 (0, 0)) ∧ cur.size = c2 * 6 ∧ cur.toList.take (i * 6) = cs62 (l.take i) ∧ l.length + 1 ≤ c2 ∧ c2 ≤ maxLen ∧ W.grownBy W9 none := by
 obtain ⟨i0, hi0, hzz⟩ := Option.map_eq_some_iff.1 info62
 simp only [Prod.mk.injEq] at hzz
 obtain ⟨hz, hs, hb⟩ := hzz
 have hcell := firstCells62 h (W' := W.drew) rfl
 have hm : i + (l.length + 1 - i) = l.length + 1 := by omega
 have hlen : (cs62 (l.take i)).length = i * 6 := by rw [cs62_len, List.length_take, Nat.min_eq_left (by omega)]
 have hrun := fun ty => run_append_zeros_grow (P := Try.prog) W 28 3 ty 62 i0 _ Try.underlying28 (k := .i64) Try.underlying3 hi0 hz (by omega) (by omega) (some ⟨g, 0, none⟩) i c (cs62 (l.take i))
  (run_firstCells_some W.drew i0.size i ⟨g, 0, none⟩ i c _ (by rw [hs]; exact hlen) (fun j v hj => by rw [add_plain]; refine hcell j v ?_; rw [← cs62_take, List.getElem?_take] at hj; split at hj; exact hj; cases hj)) .i64 (l.length + 1 - i) (by omega) (by omega) (by rw [hm, hb]; omega)
 rw [hm] at hrun
 have hge := grownCap_ge W (l.length + 1) c 62
 obtain ⟨cur, hcur⟩ : ∃ cur, cur = (cs62 (l.take i)).toArray ++ Builtin.zeroCells (Value.agg #[.int .i64 0, .int .i64 0, .int .i64 0, .int .i64 0, .int .i64 0, .int .i64 0]).cells (l.length + 1 - i) ++ Builtin.zeroCells (Value.agg #[.int .i64 0, .int .i64 0, .int .i64 0, .int .i64 0, .int .i64 0, .int .i64 0]).cells (grownCap W (l.length + 1) c 62 - (l.length + 1)) := ⟨_, rfl⟩
 rw [← hcur] at hrun
 refine ⟨grownCap W (l.length + 1) c 62, W.drew.alloc (.cells cur 62), cur, fun ty => ?_, heap_alloc_new W.drew _, ?_, ?_, hge, grownCap_le_maxLen W (l.length + 1) c 62 (by unfold maxLen; omega), ⟨rfl, rfl, rfl, by simp, fun k hk _ => heap_alloc_old W.drew _ hk⟩⟩
 ·
  rw [show ((l.length : Int) + 1 - (i : Int)) = ((l.length + 1 - i : Nat) : Int) by omega]
  exact hrun ty
 ·
  rw [hcur]
  simp only [Array.size_append, List.size_toArray, size_zeroCells, hlen]
  show i * 6 + (l.length + 1 - i) * 6 + (grownCap W (l.length + 1) c 62 - (l.length + 1)) * 6 = _
  omega
 rw [hcur]
 simp only [Array.toList_append, List.append_assoc]
 rw [← hlen]
 exact List.take_left
theorem c62_src {w : World} {g : Nat} {x : S62} (h : w.heap[g]? = some (.cells #[.int .i64 x.f0, .int .i64 x.f1, .int .i64 x.f2, .int .i64 x.f3, .int .i64 x.f4, .int .i64 x.f5] 62 (0, 0))) : ∀ j v, (c62 x)[j]? = some v → w.cell? ((⟨g, 0, none⟩ : Addr).add j) = some v := by
 intro j v hj
 rw [add_plain, cell_of_row w g j _ 62 (0, 0) h]
 rw [← hj]
 simp [c62]
/-- Elements are copied into a row at j. -/
theorem put62 {w : World} {g b o j n m c : Nat} {ys : List S62} {cur : Array Value} (hg : w.heap[g]? = some (.cells cur 62 (0, 0))) (hb : ∀ k v, (cs62 ys)[k]? = some v → w.cell? ⟨b, o + k, none⟩ = some v) (hcs : cur.size = c * 6) (hj : j + ys.length ≤ c) (hn : ys.length = Nat.min m n) :
  ∃ (w1 : World) (cur1 : Array Value), (∀ ty dc sc, (Builtin.copy_ #[28, 28] ty #[.slice (some ⟨g, j * 6, none⟩) n dc, .slice (some ⟨b, o, none⟩) m sc]).run Try.prog w = .ok (goInt (Nat.min m n)) w1) ∧ w1.heap[g]? = some (.cells cur1 62 (0, 0)) ∧ cur1.size = c * 6 ∧
   cur1.toList = cur.toList.take (j * 6) ++ cs62 ys ++ cur.toList.drop (j * 6 + ys.length * 6) ∧ w.grownBy w1 (some g) := by
 have hl : cur.toList.length = c * 6 := hcs
 have hy := cs62_len ys
 have hjc : j * 6 + ys.length * 6 ≤ c * 6 := by omega
 refine ⟨w.setRow g (cur.toList.take (j * 6) ++ cs62 ys ++ cur.toList.drop (j * 6 + (cs62 ys).length)).toArray, _, fun ty dc sc => run_copy_rowN w 28 28 ty 62 6 g (j * 6) n dc ⟨b, o, none⟩ m sc cur 62 (cs62 ys) Try.underlying28 (by kernel_rfl) hg (by rw [← hn]; exact hy) (fun k v hk => ?_) (by rw [hcs, hy]; exact hjc) (cs62_one ys), setRow_heap w g cur _ 62 (0, 0) hg, ?_, by rw [hy], ⟨rfl, rfl, rfl, by simp, fun k _ hne => setRow_other w g k _ (fun e_ => hne (by rw [e_]))⟩⟩
 ·
  have e : (⟨b, o, none⟩ : Addr).add k = ⟨b, o + k, none⟩ := by unfold Addr.add; split <;> simp_all
  rw [e]
  exact hb k v hk
 rw [List.size_toArray]
 simp only [List.length_append, List.length_take, List.length_drop, hl, hy]
 omega
/-- What the two copies leave: the elements before, the new one, the elements behind. -/
theorem ins62_cells {l : List S62} {x : S62} {i c2 : Nat} {cur cur1 cur2 : Array Value} (hi : i ≤ l.length) (hc2 : l.length + 1 ≤ c2) (hs : cur.size = c2 * 6) (ht : cur.toList.take (i * 6) = cs62 (l.take i)) (h1 : cur1.toList = cur.toList.take (i * 6) ++ cs62 [x] ++ cur.toList.drop (i * 6 + 1 * 6))
  (h2 : cur2.toList = cur1.toList.take ((i + 1) * 6) ++ cs62 (l.drop i) ++ cur1.toList.drop ((i + 1) * 6 + (l.drop i).length * 6)) : cur2.toList.take ((l.take i ++ x :: l.drop i).length * 6) = cs62 (l.take i ++ x :: l.drop i) := by
 have hti : (cs62 (l.take i)).length = i * 6 := by rw [cs62_len, List.length_take, Nat.min_eq_left hi]
 have e1 : cur1.toList.take ((i + 1) * 6) = cs62 (l.take i) ++ cs62 [x] := by
  rw [h1, ht]
  refine List.take_left' ?_
  rw [List.length_append, hti, cs62_len]
  simp
  omega
 have e2 : cs62 (l.take i ++ x :: l.drop i) = cs62 (l.take i) ++ cs62 [x] ++ cs62 (l.drop i) := by
  rw [cs62_app, show x :: l.drop i = [x] ++ l.drop i from rfl, cs62_app, List.append_assoc]
 rw [e2, h2, e1]
 refine List.take_left' ?_
 rw [← e2, cs62_len]
set_option maxHeartbeats 4000000 in
set_option maxRecDepth 100000 in
theorem ins62_grow (P0_ : Nat → Prop) (g c i : Nat) (l : List S62) (x : S62) (w0 W : World) (hi : i < l.length) (hc : c < l.length + 1) (hB : Below w0.heap.size w0 W) (ho0 : Kd.R k62 62 W w0.heap.size P0_ (.slice (some ⟨g, 0, none⟩) l.length c) l) (hl : l.length ≤ 1000000) :
  Calls Try.prog 71 #[.slice (some ⟨g, 0, none⟩) l.length c, .int .i64 (i : Int), .slice (some ⟨W.heap.size, 0, none⟩) 1 1] (W.alloc (.cells #[.int .i64 x.f0, .int .i64 x.f1, .int .i64 x.f2, .int .i64 x.f3, .int .i64 x.f4, .int .i64 x.f5] 62)) (InsPost P0_ l i x w0 W) := by
 have hbase : w0.heap.size ≤ W.heap.size := hB.size
 obtain ⟨_, hg0, _, _, hbg, hgok, _, hnc, hcm⟩ := row62 ho0
 have hgW : g < W.heap.size := blk_lt hg0
 have hX := Kd.R_alloc ho0 (.cells #[.int .i64 x.f0, .int .i64 x.f1, .int .i64 x.f2, .int .i64 x.f3, .int .i64 x.f4, .int .i64 x.f5] 62)
 have hv := blk_new W (.cells #[.int .i64 x.f0, .int .i64 x.f1, .int .i64 x.f2, .int .i64 x.f3, .int .i64 x.f4, .int .i64 x.f5] 62)
 have hsx : (W.alloc (.cells #[.int .i64 x.f0, .int .i64 x.f1, .int .i64 x.f2, .int .i64 x.f3, .int .i64 x.f4, .int .i64 x.f5] 62)).heap.size = W.heap.size + 1 := by simp
 have hBX := below_alloc (Below.refl w0.heap.size w0 |> fun _ => Below.refl W.heap.size W) (.cells #[.int .i64 x.f0, .int .i64 x.f1, .int .i64 x.f2, .int .i64 x.f3, .int .i64 x.f4, .int .i64 x.f5] 62)
 have hKX : Kept W (W.alloc (.cells #[.int .i64 x.f0, .int .i64 x.f1, .int .i64 x.f2, .int .i64 x.f3, .int .i64 x.f4, .int .i64 x.f5] 62)) (fun k_ => P0_ k_) := Kept.alloc (Kept.refl W _) _
 have hBW : Below w0.heap.size w0 (W.alloc (.cells #[.int .i64 x.f0, .int .i64 x.f1, .int .i64 x.f2, .int .i64 x.f3, .int .i64 x.f4, .int .i64 x.f5] 62)) := below_then hB hbase hBX
 generalize W.alloc (.cells #[.int .i64 x.f0, .int .i64 x.f1, .int .i64 x.f2, .int .i64 x.f3, .int .i64 x.f4, .int .i64 x.f5] 62) = Wx at hX hv hsx hBX hKX hBW ⊢
 obtain ⟨c2, W9, cur, hrun, h9, hs9, ht9, hc2, hcm2, hg9⟩ := zer62 hX hi hc hl
 have hv9 := blk_grown hv hg9 (by simp)
 obtain ⟨W10, cur1, hcp1, h10, hs10, ht10, hg10⟩ := put62 (b := W.heap.size) (o := 0) (j := i) (n := l.length + 1 - i) (m := 1) (ys := [x]) h9 (fun k v hk => by rw [Nat.zero_add, ← add_plain]; exact c62_src hv9 k v (by simpa [cs62] using hk)) hs9 (by show i + 1 ≤ c2; omega) (by show 1 = Nat.min 1 _; exact (Nat.min_eq_left (by omega)).symm)
 have hg9' : W9.heap[g]? = Wx.heap[g]? := hg9.block g (by omega) (by simp)
 have hg10' : W10.heap[g]? = Wx.heap[g]? := (hg10.block g (by have := hg9.size; omega) (fun e => by injection e with e; omega)).trans hg9'
 have hsrc := firstCells62 hX (W' := W10.drew) hg10'
 obtain ⟨W11, cur2, hcp2, h11, hs11, ht11, hg11⟩ := put62 (w := W10.drew) (b := g) (o := i * 6) (j := i + 1) (n := l.length - i) (m := l.length - i) (ys := l.drop i) h10 (fun k v hk => hsrc (i * 6 + k) v (by rw [← cs62_drop, List.getElem?_drop] at hk; exact hk)) hs10 (by rw [List.length_drop]; omega) (by rw [List.length_drop]; exact (Nat.min_eq_left (by omega)).symm)
 have hcells := ins62_cells (x := x) (Nat.le_of_lt hi) hc2 hs9 ht9 ht10 ht11
 have hfin : Kd.R k62 62 W11 w0.heap.size (fun k_ => (P0_ k_ ∨ W.heap.size ≤ k_)) (.slice (some ⟨Wx.heap.size, 0, none⟩) (l.length + 1) c2) (l.take i ++ x :: l.drop i) := by
  have hlen : (l.take i ++ x :: l.drop i).length = l.length + 1 := by simp; omega
  have := mk62 (base := w0.heap.size) (ok := fun k_ => (P0_ k_ ∨ W.heap.size ≤ k_)) h11 hs11 hcells (by omega) (.inr (by omega)) (by omega) hcm2
  rw [hlen] at this
  exact this
 have hBe : Below w0.heap.size w0 W11 := by
  have b9 := hBW.grown hg9 hBW.size (fun k hk => by cases hk)
  have b10 := b9.grown hg10 b9.size (fun k hk => by injection hk with hk; subst hk; omega)
  have b11 := below_drew1 b10
  exact b11.grown hg11 b11.size (fun k hk => by injection hk with hk; subst hk; omega)
 have hKe : Kept W W11 (fun k_ => P0_ k_) :=
  Kept.of_grown hg11 (Kept.drew (Kept.of_grown hg10 (Kept.of_grown hg9 hKX (fun k hk => by cases hk)) (fun k hk => by injection hk with hk; subst hk; exact .inr (by omega)))) (fun k hk => by injection hk with hk; subst hk; exact .inr (by omega))
 have F : Aside0 (InsPost P0_ l i x w0 W (.returned (.slice (some ⟨Wx.heap.size, 0, none⟩) (l.length + 1) c2)) W11) := ⟨_, rfl, hfin, hBe, hKe⟩
 have hu62 := Try.underlying62
 have hu28 := Try.underlying28
 have hsz : (Try.prog.info? 62).map (·.size) = some 6 := by kernel_rfl
 have hz1 : ¬ ((1 : Int) = 0) := by omega
 have hz2 : ¬ ((i : Int) = (l.length : Int)) := by omega
 have hcz : (c : Int) < (l.length : Int) + 1 := by omega
 have hw1 : IntKind.i64.wrap ((i : Int) + 1) = (i : Int) + 1 := by rw [IntKind.wrap_i64]; omega
 have hb1 : (0 : Int) ≤ (i : Int) + 1 := by omega
 have htn : ((i : Int) + 1).toNat = i + 1 := by omega
 have hile : i ≤ l.length := by omega
 have hic : i ≤ c := by omega
 have hilez : (i : Int) ≤ (l.length : Int) := by omega
 have hicz : (i : Int) ≤ (c : Int) := by omega
 have hilz1 : (i : Int) ≤ (l.length : Int) + 1 := by omega
 have hilz2 : (i : Int) + 1 ≤ (l.length : Int) + 1 := by omega
 have hn1 : ¬ c2 = i := by omega
 have hn2 : ¬ c2 = i + 1 := by omega
 have hn3 : ¬ c = i := by omega
 have hlb : l.length + 1 ≤ 1000001 := by omega
 have mixed : Try.prog.follows .mixedOrders = true := by kernel_rfl
 clear ho0 hB hBW hX hv hBX hKX hg0 hg9 hv9 hg10 hg9' hg10' hsrc hg11 hcells hfin hBe hKe ht9 ht10 ht11 h9 h10 h11 hs9 hs10 hs11 hsx hgok
 go_enter Try.func71, Try.ntmps71
 go_wp2_with (first | (at_builtin; refine Lib.wpList_append_run _ rfl _ _ _ _ rfl _ _ rfl rfl _ _ (hrun _) ?_) | ((with_reducible refine gate_builtin (b := Builtin.copy) rfl ?_); refine wpList_copy_runI _ rfl _ _ 28 28 rfl _ _ rfl rfl (hcp1 _ _ _) ?_))
 go_region_law_o (refine step_copy_runI rfl _ _ 28 28 rfl _ _ (by simp [Act.eval, Act.put]) (by simp [Act.eval, Act.put]) (hcp2 _ _ _) ?_)
 go_wp2
 go_ret
 exact F.out
/-- What the two copies leave in place: the elements before, the new one, the elements behind. -/
theorem ins62_cellsR {l : List S62} {x : S62} {i c : Nat} {cur cur1 cur2 : Array Value} (hi : i ≤ l.length) (hc : l.length + 1 ≤ c) (hs : cur.size = c * 6) (ht : cur.toList.take (l.length * 6) = cs62 l) (h1 : cur1.toList = cur.toList.take ((i + 1) * 6) ++ cs62 (l.drop i) ++ cur.toList.drop ((i + 1) * 6 + (l.drop i).length * 6))
  (h2 : cur2.toList = cur1.toList.take (i * 6) ++ cs62 [x] ++ cur1.toList.drop (i * 6 + 1 * 6)) : cur2.toList.take ((l.take i ++ x :: l.drop i).length * 6) = cs62 (l.take i ++ x :: l.drop i) := by
 have hti : (cs62 (l.take i)).length = i * 6 := by rw [cs62_len, List.length_take, Nat.min_eq_left hi]
 have hcl : cur.toList.length = c * 6 := hs
 have e0 : cur.toList.take (i * 6) = cs62 (l.take i) := by
  rw [← cs62_take, ← ht, List.take_take, Nat.min_eq_left (by omega)]
 have e1 : cur1.toList.take (i * 6) = cs62 (l.take i) := by
  rw [h1, List.append_assoc, List.take_append_of_le_length (by rw [List.length_take]; omega), List.take_take, Nat.min_eq_left (by omega), e0]
 have e3 : cur1.toList.drop (i * 6 + 1 * 6) = cs62 (l.drop i) ++ cur.toList.drop ((i + 1) * 6 + (l.drop i).length * 6) := by
  rw [h1, List.append_assoc]
  refine List.drop_left' ?_
  rw [List.length_take]
  omega
 have e2 : cs62 (l.take i ++ x :: l.drop i) = cs62 (l.take i) ++ cs62 [x] ++ cs62 (l.drop i) := by
  rw [cs62_app, show x :: l.drop i = [x] ++ l.drop i from rfl, cs62_app, List.append_assoc]
 rw [e2, h2, e1, e3, ← List.append_assoc]
 refine List.take_left' ?_
 rw [← e2, cs62_len]
theorem shape_of {w : World} {g : Nat} {cur : Array Value} {t : TypeId} {z : Nat × Nat} (h : w.heap[g]? = some (.cells cur t z)) : w.shape? g = some (t, cur.size) := by
 unfold World.shape?
 rw [h]
theorem frozen_of {w : World} {g o : Nat} {cur : Array Value} {t : TypeId} (h : w.heap[g]? = some (.cells cur t (0, 0))) : w.frozen? ⟨g, o, none⟩ = false := by
 unfold World.frozen?
 rw [h]
 simp
set_option maxHeartbeats 4000000 in
set_option maxRecDepth 100000 in
theorem ins62_room (P0_ : Nat → Prop) (g c i : Nat) (l : List S62) (x : S62) (w0 W : World) (hi : i < l.length) (hc : l.length + 1 ≤ c) (hB : Below w0.heap.size w0 W) (ho0 : Kd.R k62 62 W w0.heap.size P0_ (.slice (some ⟨g, 0, none⟩) l.length c) l) (hl : l.length ≤ 1000000) :
  Calls Try.prog 71 #[.slice (some ⟨g, 0, none⟩) l.length c, .int .i64 (i : Int), .slice (some ⟨W.heap.size, 0, none⟩) 1 1] (W.alloc (.cells #[.int .i64 x.f0, .int .i64 x.f1, .int .i64 x.f2, .int .i64 x.f3, .int .i64 x.f4, .int .i64 x.f5] 62)) (InsPost P0_ l i x w0 W) := by
 have hbase : w0.heap.size ≤ W.heap.size := hB.size
 obtain ⟨_, hg0, _, _, hbg, hgok, _, hnc, hcm⟩ := row62 ho0
 have hgW : g < W.heap.size := blk_lt hg0
 have hX := Kd.R_alloc ho0 (.cells #[.int .i64 x.f0, .int .i64 x.f1, .int .i64 x.f2, .int .i64 x.f3, .int .i64 x.f4, .int .i64 x.f5] 62)
 have hv := blk_new W (.cells #[.int .i64 x.f0, .int .i64 x.f1, .int .i64 x.f2, .int .i64 x.f3, .int .i64 x.f4, .int .i64 x.f5] 62)
 have hsx : (W.alloc (.cells #[.int .i64 x.f0, .int .i64 x.f1, .int .i64 x.f2, .int .i64 x.f3, .int .i64 x.f4, .int .i64 x.f5] 62)).heap.size = W.heap.size + 1 := by simp
 have hBX := below_alloc (Below.refl w0.heap.size w0 |> fun _ => Below.refl W.heap.size W) (.cells #[.int .i64 x.f0, .int .i64 x.f1, .int .i64 x.f2, .int .i64 x.f3, .int .i64 x.f4, .int .i64 x.f5] 62)
 have hKX : Kept W (W.alloc (.cells #[.int .i64 x.f0, .int .i64 x.f1, .int .i64 x.f2, .int .i64 x.f3, .int .i64 x.f4, .int .i64 x.f5] 62)) (fun k_ => P0_ k_) := Kept.alloc (Kept.refl W _) _
 have hBW : Below w0.heap.size w0 (W.alloc (.cells #[.int .i64 x.f0, .int .i64 x.f1, .int .i64 x.f2, .int .i64 x.f3, .int .i64 x.f4, .int .i64 x.f5] 62)) := below_then hB hbase hBX
 generalize W.alloc (.cells #[.int .i64 x.f0, .int .i64 x.f1, .int .i64 x.f2, .int .i64 x.f3, .int .i64 x.f4, .int .i64 x.f5] 62) = Wx at hX hv hsx hBX hKX hBW ⊢
 obtain ⟨cur, hgx, hsz0, ht0, _⟩ := row62 hX
 have hov : ∀ lb cb, (callFunc 92 #[.slice (some ⟨W.heap.size, 0, none⟩) 1 1, .slice (some ⟨g, (i + 1) * 6, none⟩) lb cb]).run Try.prog Wx = .ok (.value (.bool false)) Wx := fun lb cb => by
  rw [run_callFunc_extern Try.func92 (by kernel_rfl) (by kernel_rfl) (by kernel_rfl) (e := Extern.SlicesOverlaps.overlaps #[28, 28] #[4]) (by kernel_rfl),
   Lib.run_overlaps_apart Wx 28 4 62 Try.underlying28 6 (fun _ => by kernel_rfl) ⟨W.heap.size, 0, none⟩ ⟨g, (i + 1) * 6, none⟩ 1 1 lb cb (by show W.heap.size ≠ g; omega) 62 62 6 cur.size (shape_of hv) (shape_of hgx) (by rw [hsz0]; omega) (frozen_of hv) (frozen_of hv)]
  rfl
 have hsrc := firstCells62 hX (W' := Wx.drew) rfl
 obtain ⟨W10, cur1, hcp1, h10, hs10, ht10, hg10⟩ := put62 (w := Wx.drew) (b := g) (o := i * 6) (j := i + 1) (n := l.length - i) (m := l.length + 1 - i) (ys := l.drop i) hgx (fun k v hk => hsrc (i * 6 + k) v (by rw [← cs62_drop, List.getElem?_drop] at hk; exact hk)) hsz0 (by rw [List.length_drop]; omega) (by rw [List.length_drop]; exact (Nat.min_eq_right (by omega)).symm)
 have hv10 : W10.heap[W.heap.size]? = some (.cells #[.int .i64 x.f0, .int .i64 x.f1, .int .i64 x.f2, .int .i64 x.f3, .int .i64 x.f4, .int .i64 x.f5] 62 (0, 0)) := (hg10.block W.heap.size (by show _ < Wx.heap.size; omega) (fun e => by injection e with e; omega)).trans hv
 obtain ⟨W11, cur2, hcp2, h11, hs11, ht11, hg11⟩ := put62 (b := W.heap.size) (o := 0) (j := i) (n := l.length + 1 - i) (m := 1) (ys := [x]) h10 (fun k v hk => by rw [Nat.zero_add, ← add_plain]; exact c62_src hv10 k v (by simpa [cs62] using hk)) hs10 (by show i + 1 ≤ c; omega) (by show 1 = Nat.min 1 _; exact (Nat.min_eq_left (by omega)).symm)
 have hcells := ins62_cellsR (x := x) (Nat.le_of_lt hi) hc hsz0 ht0 ht10 ht11
 have hfin : Kd.R k62 62 W11 w0.heap.size (fun k_ => (P0_ k_ ∨ W.heap.size ≤ k_)) (.slice (some ⟨g, 0, none⟩) (l.length + 1) c) (l.take i ++ x :: l.drop i) := by
  have hlen : (l.take i ++ x :: l.drop i).length = l.length + 1 := by simp; omega
  have := mk62 (base := w0.heap.size) (ok := fun k_ => (P0_ k_ ∨ W.heap.size ≤ k_)) h11 hs11 hcells hbg (.inl hgok) (by omega) hcm
  rw [hlen] at this
  exact this
 have hBe : Below w0.heap.size w0 W11 := by
  have b9 := below_drew1 hBW
  have b10 := b9.grown hg10 b9.size (fun k hk => by injection hk with hk; subst hk; exact hbg)
  exact b10.grown hg11 b10.size (fun k hk => by injection hk with hk; subst hk; exact hbg)
 have hKe : Kept W W11 (fun k_ => P0_ k_) :=
  Kept.of_grown hg11 (Kept.of_grown hg10 (Kept.drew hKX) (fun k hk => by injection hk with hk; subst hk; exact .inl hgok)) (fun k hk => by injection hk with hk; subst hk; exact .inl hgok)
 have F : Aside0 (InsPost P0_ l i x w0 W (.returned (.slice (some ⟨g, 0, none⟩) (l.length + 1) c)) W11) := ⟨_, rfl, hfin, hBe, hKe⟩
 have hu62 := Try.underlying62
 have hu28 := Try.underlying28
 have hsz : (Try.prog.info? 62).map (·.size) = some 6 := by kernel_rfl
 have hz1 : ¬ ((1 : Int) = 0) := by omega
 have hz2 : ¬ ((i : Int) = (l.length : Int)) := by omega
 have hcz : ¬ (c : Int) < (l.length : Int) + 1 := by omega
 have hcz2 : (l.length : Int) + 1 ≤ (c : Int) := by omega
 have hw1 : IntKind.i64.wrap ((i : Int) + 1) = (i : Int) + 1 := by rw [IntKind.wrap_i64]; omega
 have hb1 : (0 : Int) ≤ (i : Int) + 1 := by omega
 have htn : ((i : Int) + 1).toNat = i + 1 := by omega
 have htl : ((l.length : Int) + 1).toNat = l.length + 1 := by omega
 have hile : i ≤ l.length := by omega
 have hic : i ≤ c := by omega
 have hilez : (i : Int) ≤ (l.length : Int) := by omega
 have hicz : (i : Int) ≤ (c : Int) := by omega
 have hilz1 : (i : Int) ≤ (l.length : Int) + 1 := by omega
 have hilz2 : (i : Int) + 1 ≤ (l.length : Int) + 1 := by omega
 have hn2 : ¬ c = i + 1 := by omega
 have hn3 : ¬ c = i := by omega
 have hlb : l.length + 1 ≤ 1000001 := by omega
 have hcb : c ≤ 9223372036854775807 := by unfold maxLen at hcm; omega
 have mixed : Try.prog.follows .mixedOrders = true := by kernel_rfl
 clear ho0 hB hBW hX hv hBX hKX hg0 hgx hv10 hg10 hsrc hg11 hcells hfin hBe hKe ht0 ht10 ht11 h10 h11 hsz0 hs10 hs11 hsx hgok hcm
 go_enter Try.func71, Try.ntmps71
 go_wp2_with (first | (simp only [hov]) | ((with_reducible refine gate_builtin (b := Builtin.copy) rfl ?_); refine wpList_copy_runI _ rfl _ _ 28 28 rfl _ _ rfl rfl (hcp2 _ _ _) ?_))
 go_region_law_o (refine step_copy_runI rfl _ _ 28 28 rfl _ _ (by simp [Act.eval, Act.put]) (by simp [Act.eval, Act.put]) (hcp1 _ _ _) ?_)
 go_wp2_with (((with_reducible refine gate_builtin (b := Builtin.copy) rfl ?_); refine wpList_copy_runI _ rfl _ _ 28 28 rfl _ _ rfl rfl (hcp2 _ _ _) ?_))
 go_ret
 exact F.out
/-- Insert of one element, whatever the place and the room. -/
theorem ins62 (P0_ : Nat → Prop) (u : Value) (i : Nat) (l : List S62) (x : S62) (w0 W : World) (hi : i ≤ l.length) (hB : Below w0.heap.size w0 W) (ho0 : Kd.R k62 62 W w0.heap.size P0_ u l) (hl : l.length ≤ 1000000) :
  Calls Try.prog 71 #[u, .int .i64 (i : Int), .slice (some ⟨W.heap.size, 0, none⟩) 1 1] (W.alloc (.cells #[.int .i64 x.f0, .int .i64 x.f1, .int .i64 x.f2, .int .i64 x.f3, .int .i64 x.f4, .int .i64 x.f5] 62)) (InsPost P0_ l i x w0 W) := by
 obtain ⟨A0, c, rfl⟩ := Kd.R_slice ho0
 by_cases he : i = l.length
 ·
  subst he
  exact ins62_end P0_ A0 c l x w0 W hB ho0 hl
 obtain ⟨g, rfl⟩ : ∃ g, A0 = some ⟨g, 0, none⟩ := by
  rcases ho0.2 with ⟨inner, hown, _⟩
  rcases hown.2 with ⟨hv, hz⟩ | ⟨g', cap', cur, hv, _⟩
  ·
   omega
  injection hv with ha _ _
  exact ⟨g', ha⟩
 by_cases hc : c < l.length + 1
 ·
  exact ins62_grow P0_ g c i l x w0 W (by omega) hc hB ho0 hl
 exact ins62_room P0_ g c i l x w0 W (by omega) (by omega) hB ho0 hl
/-! ### slices_Insert_impl_Agg_impl_Agg: function 71 -/
def slices_Insert_impl_Agg_impl_Agg.f (l0 : List S62) (i : Int) (l2 : List S62) : Option (List S62) := if 0 ≤ i ∧ i ≤ (l0.length : Int) ∧ l2.length = 1 ∧ l0.length ≤ 1000000 then some (l0.take i.toNat ++ l2 ++ l0.drop i.toNat) else none

/-! ### impl_sumOf: function 94 -/
def impl_sumOf.f (a0 : Int) : Option (Int) := some (mn (mx a0 (-1000000000)) 1000000000)
set_option maxHeartbeats 8000000 in
set_option maxRecDepth 100000 in
theorem impl_sumOf.calls (a0 : Int) (r : Int) (w : World) (h : impl_sumOf.f a0 = some r) :
  Calls Try.prog 94 #[.int .i64 a0] w fun e w' => e = .returned (.int .i64 r) ∧ Below w.heap.size w w' := by
 have HB := am_ (Below.refl w.heap.size w)
 have H : (some (mn (mx a0 (-1000000000)) 1000000000)) = some r := h
 clear h
 obtain ⟨ji2, hji2⟩ : ∃ j_ : Int, (mx a0 (-1000000000)) = j_ := ⟨_, rfl⟩
 replace H : (some (mn (ji2) 1000000000)) = some r := by first | (rw [hji2] at H; exact H) | (simp only [hji2] at H ⊢; exact H)
 have hji2_ : (if a0 < (-1000000000) then (-1000000000) else a0) = ji2 := hji2
 obtain ⟨ji3, hji3⟩ : ∃ j_ : Int, (mn (ji2) 1000000000) = j_ := ⟨_, rfl⟩
 replace H : (some ji3) = some r := by first | (rw [hji3] at H; exact H) | (simp only [hji3] at H ⊢; exact H)
 have hji3_ : (if 1000000000 < (ji2) then 1000000000 else (ji2)) = ji3 := hji3
 obtain rfl := Option.some.inj H
 go_enter Try.func94, Try.ntmps94
 go_wp2
 go_ret
 exact ⟨by first | rfl | (simp [errW_none, errW_some] <;> rfl) | (simp only [← hji2, ← hji3]; first | rfl | (simp [errW_none, errW_some] <;> rfl)) | (simp [*, errW_none, errW_some] <;> rfl), ue_ HB.out⟩

/-! ### impl_merged: function 72 -/
def impl_merged.f (a0_0 : Int) (a0_1 : Int) (a0_2 : Int) (a0_3 : Int) (a0_4 : Int) (a0_5 : Int) (a1_0 : Int) (a1_1 : Int) (a1_2 : Int) (a1_3 : Int) (a1_4 : Int) (a1_5 : Int) : Option (Int × Int × Int × Int × Int × Int) := (impl_sumOf.f (wrap64 (a0_3 + a1_3))).bind fun t283 => (some (a0_0, a0_1, mn (wrap64 (a0_2 + a1_2)) 1000000000, t283, mn a0_4 a1_4, mx a0_5 a1_5))
set_option maxHeartbeats 8000000 in
set_option maxRecDepth 100000 in
theorem impl_merged.calls (a0_0 : Int) (a0_1 : Int) (a0_2 : Int) (a0_3 : Int) (a0_4 : Int) (a0_5 : Int) (a1_0 : Int) (a1_1 : Int) (a1_2 : Int) (a1_3 : Int) (a1_4 : Int) (a1_5 : Int) (r1 : Int) (r2 : Int) (r3 : Int) (r4 : Int) (r5 : Int) (r6 : Int) (w : World) (h : impl_merged.f a0_0 a0_1 a0_2 a0_3 a0_4 a0_5 a1_0 a1_1 a1_2 a1_3 a1_4 a1_5 = some (r1, r2, r3, r4, r5, r6)) :
  Calls Try.prog 72 #[.agg #[.int .i64 a0_0, .int .i64 a0_1, .int .i64 a0_2, .int .i64 a0_3, .int .i64 a0_4, .int .i64 a0_5], .agg #[.int .i64 a1_0, .int .i64 a1_1, .int .i64 a1_2, .int .i64 a1_3, .int .i64 a1_4, .int .i64 a1_5]] w fun e w' => e = .returned (.agg #[.int .i64 r1, .int .i64 r2, .int .i64 r3, .int .i64 r4, .int .i64 r5, .int .i64 r6]) ∧ Below w.heap.size w w' := by
 have hu62 := Try.underlying62
 have HB := am_ (Below.refl w.heap.size w)
 have H : ((impl_sumOf.f (wrap64 (a0_3 + a1_3))).bind fun t283 => (some (a0_0, a0_1, mn (wrap64 (a0_2 + a1_2)) 1000000000, t283, mn a0_4 a1_4, mx a0_5 a1_5))) = some (r1, r2, r3, r4, r5, r6) := h
 clear h
 obtain ⟨ji3, hji3⟩ : ∃ j_ : Int, (mn (wrap64 (a0_2 + a1_2)) 1000000000) = j_ := ⟨_, rfl⟩
 replace H : ((impl_sumOf.f (wrap64 (a0_3 + a1_3))).bind fun t283 => (some (a0_0, a0_1, ji3, t283, mn a0_4 a1_4, mx a0_5 a1_5))) = some (r1, r2, r3, r4, r5, r6) := by first | (rw [hji3] at H; exact H) | (simp only [hji3] at H ⊢; exact H)
 (try (have hji3h : ji3 ≤ 1000000000 := by (rw [← hji3]; unfold mn; (repeat' split) <;> omega)))
 (try (have hji3g : ji3 ≤ 64 := by omega))
 have hji3_ : (if 1000000000 < (wrap64 (a0_2 + a1_2)) then 1000000000 else (wrap64 (a0_2 + a1_2))) = ji3 := hji3
 replace H := Option.bind_eq_some_iff.mp H
 obtain ⟨t283, A40, H⟩ := H
 replace H : (some (a0_0, a0_1, ji3, t283, mn a0_4 a1_4, mx a0_5 a1_5)) = some (r1, r2, r3, r4, r5, r6) := H
 have A4 := Aside0.mk A40
 clear A40
 obtain ⟨ji5, hji5⟩ : ∃ j_ : Int, (mn a0_4 a1_4) = j_ := ⟨_, rfl⟩
 replace H : (some (a0_0, a0_1, ji3, t283, ji5, mx a0_5 a1_5)) = some (r1, r2, r3, r4, r5, r6) := by first | (rw [hji5] at H; exact H) | (simp only [hji5] at H ⊢; exact H)
 (try rw [hji5] at A4)
 have hji5_ : (if a1_4 < a0_4 then a1_4 else a0_4) = ji5 := hji5
 obtain ⟨ji6, hji6⟩ : ∃ j_ : Int, (mx a0_5 a1_5) = j_ := ⟨_, rfl⟩
 replace H : (some (a0_0, a0_1, ji3, t283, ji5, ji6)) = some (r1, r2, r3, r4, r5, r6) := by first | (rw [hji6] at H; exact H) | (simp only [hji6] at H ⊢; exact H)
 (try rw [hji6] at A4)
 have hji6_ : (if a0_5 < a1_5 then a1_5 else a0_5) = ji6 := hji6
 simp only [Option.some.injEq, Prod.mk.injEq] at H
 obtain ⟨rfl, rfl, rfl, rfl, rfl, rfl⟩ := H
 go_enter Try.func72, Try.ntmps72
 go_wp2_with (first | ((with_reducible refine gate_dst (N := 2) rfl ?_); refine bx_ (N := 2) (cs := #[.int .i64 a0_0, .int .i64 a0_1, .int .i64 a0_2, .int .i64 a0_3, .int .i64 a0_4, .int .i64 a0_5]) (t := 62) ?_; intro gb280 hg w7 hbox hb; have BK280 := am_ (hbox); have GW280 := gs_ hg HB.out; have GE280 := gs_ hg HB.out; replace HB := hs_ HB hb; clear hb hbox hg) | ((with_reducible refine gate_dst (N := 3) rfl ?_); refine bx_ (N := 3) (cs := #[.int .i64 a1_0, .int .i64 a1_1, .int .i64 a1_2, .int .i64 a1_3, .int .i64 a1_4, .int .i64 a1_5]) (t := 62) ?_; intro gb281 hg w8 hbox hb; have BK281 := am_ (hbox); have GW281 := gs_ hg HB.out; have GE281 := gs_ hg HB.out; replace HB := hs_ HB hb; have NB280_281 := nl_ hg BK280.out; have NB281_280 := ng_ hg BK280.out; replace BK280 := bs_ BK280 hb; clear hb hbox hg) | ((with_reducible refine gate_dst (N := 4) rfl ?_); refine bx_ (N := 4) (cs := #[.int .i64 0, .int .i64 0, .int .i64 0, .int .i64 0, .int .i64 0, .int .i64 0]) (t := 62) ?_; intro gb282 hg w9 hbox hb; have BK282 := am_ (hbox); have GW282 := gs_ hg HB.out; have GE282 := gs_ hg HB.out; replace HB := hs_ HB hb; have NB280_282 := nl_ hg BK280.out; have NB282_280 := ng_ hg BK280.out; replace BK280 := bs_ BK280 hb; have NB281_282 := nl_ hg BK281.out; have NB282_281 := ng_ hg BK281.out; replace BK281 := bs_ BK281 hb; clear hb hbox hg; have hnb10 := NB280_281.out; have hnc10 := NB281_280.out; have hnb11 := NB280_282.out; have hnc11 := NB282_280.out; obtain ⟨hcz12_0, hcz12_1, hcz12_2, hcz12_3, hcz12_4, hcz12_5⟩ := cb6_ BK280.out; obtain ⟨hfz12_0, hfz12_1, hfz12_2, hfz12_3, hfz12_4, hfz12_5⟩ := bf6_ BK280.out; have hnb13 := NB281_282.out; have hnc13 := NB282_281.out; obtain ⟨hcz14_0, hcz14_1, hcz14_2, hcz14_3, hcz14_4, hcz14_5⟩ := cb6_ BK281.out; obtain ⟨hfz14_0, hfz14_1, hfz14_2, hfz14_3, hfz14_4⟩ := bf5_ BK281.out; have hfz14_5 := blk_frozen BK281.out 5) | ((with_reducible refine gate_store (t := 3) (p := 11) rfl ?_); refine st_ (w1 := (w9.setCell ⟨gb280, 2, none⟩ (.int .i64 ji3))) ?_; intro w15 hw; replace BK280 : Aside0 (w15.heap[gb280]? = some (.cells #[.int .i64 a0_0, .int .i64 a0_1, .int .i64 ji3, .int .i64 a0_3, .int .i64 a0_4, .int .i64 a0_5] 62 (0, 0))) := ⟨(by rw [hw]; exact (by (with_reducible repeat first|apply bn_|apply bd_|apply ba_); refine blk_put (cs := #[.int .i64 a0_0, .int .i64 a0_1, .int .i64 a0_2, .int .i64 a0_3, .int .i64 a0_4, .int .i64 a0_5]) ?_ 2 _ rfl; (with_reducible repeat first|apply bn_|apply bd_|apply ba_); exact BK280.out))⟩; replace BK281 := uk_ hw BK281.out; replace BK282 := uk_ hw BK282.out; replace HB := uh_ hw HB.out; clear hw; obtain ⟨hcz16_0, hcz16_1, hcz16_2, hcz16_3, hcz16_4, hcz16_5⟩ := cb6_ BK280.out; obtain ⟨hfz16_0, hfz16_1, hfz16_2, hfz16_3, hfz16_4, hfz16_5⟩ := bf6_ BK280.out; obtain ⟨hcz17_0, hcz17_1, hcz17_2, hcz17_3, hcz17_4, hcz17_5⟩ := cb6_ BK281.out; obtain ⟨hfz17_0, hfz17_1, hfz17_2, hfz17_3, hfz17_4⟩ := bf5_ BK281.out; have hfz17_5 := blk_frozen BK281.out 5) | ((with_reducible refine gate_callee (f := 94) rfl ?_); refine goesL_ (some 17) rfl rfl Try.func94 (by kernel_rfl) rfl #[.int .i64 (wrap64 (a0_3 + a1_3))] rfl ul_ ?_; (with_reducible refine (impl_sumOf.calls (wrap64 (a0_3 + a1_3)) t283 _ A4.out).mono ?_); rintro e w18 ⟨rfl, hb⟩; refine ⟨_, rfl, ?_⟩; replace BK280 := bs_ BK280 hb; replace BK281 := bs_ BK281 hb; replace BK282 := bs_ BK282 hb; replace HB := hs_ HB hb; (try clear hb); (try clear hb2); (try clear hk); (try clear hi); obtain ⟨hcz19_0, hcz19_1, hcz19_2, hcz19_3, hcz19_4, hcz19_5⟩ := cb6_ BK280.out; obtain ⟨hfz19_0, hfz19_1, hfz19_2, hfz19_3, hfz19_4⟩ := bf5_ BK280.out; have hfz19_5 := blk_frozen BK280.out 5) | ((with_reducible refine gate_store (t := 3) (p := 18) rfl ?_); refine st_ (w1 := (w18.setCell ⟨gb280, 3, none⟩ (.int .i64 t283))) ?_; intro w20 hw; replace BK280 : Aside0 (w20.heap[gb280]? = some (.cells #[.int .i64 a0_0, .int .i64 a0_1, .int .i64 ji3, .int .i64 t283, .int .i64 a0_4, .int .i64 a0_5] 62 (0, 0))) := ⟨(by rw [hw]; exact (by (with_reducible repeat first|apply bn_|apply bd_|apply ba_); refine blk_put (cs := #[.int .i64 a0_0, .int .i64 a0_1, .int .i64 ji3, .int .i64 a0_3, .int .i64 a0_4, .int .i64 a0_5]) ?_ 3 _ rfl; (with_reducible repeat first|apply bn_|apply bd_|apply ba_); exact BK280.out))⟩; replace BK281 := uk_ hw BK281.out; replace BK282 := uk_ hw BK282.out; replace HB := uh_ hw HB.out; clear hw; obtain ⟨hcz21_0, hcz21_1, hcz21_2, hcz21_3, hcz21_4, hcz21_5⟩ := cb6_ BK280.out; obtain ⟨hfz21_0, hfz21_1, hfz21_2, hfz21_3, hfz21_4, hfz21_5⟩ := bf6_ BK280.out; obtain ⟨hcz22_0, hcz22_1, hcz22_2, hcz22_3, hcz22_4, hcz22_5⟩ := cb6_ BK281.out; obtain ⟨hfz22_0, hfz22_1, hfz22_2, hfz22_3, hfz22_4⟩ := bf5_ BK281.out; have hfz22_5 := blk_frozen BK281.out 5) | ((with_reducible refine gate_store (t := 3) (p := 24) rfl ?_); refine st_ (w1 := (w20.setCell ⟨gb280, 4, none⟩ (.int .i64 ji5))) ?_; intro w23 hw; replace BK280 : Aside0 (w23.heap[gb280]? = some (.cells #[.int .i64 a0_0, .int .i64 a0_1, .int .i64 ji3, .int .i64 t283, .int .i64 ji5, .int .i64 a0_5] 62 (0, 0))) := ⟨(by rw [hw]; exact (by (with_reducible repeat first|apply bn_|apply bd_|apply ba_); refine blk_put (cs := #[.int .i64 a0_0, .int .i64 a0_1, .int .i64 ji3, .int .i64 t283, .int .i64 a0_4, .int .i64 a0_5]) ?_ 4 _ rfl; (with_reducible repeat first|apply bn_|apply bd_|apply ba_); exact BK280.out))⟩; replace BK281 := uk_ hw BK281.out; replace BK282 := uk_ hw BK282.out; replace HB := uh_ hw HB.out; clear hw; obtain ⟨hcz24_0, hcz24_1, hcz24_2, hcz24_3, hcz24_4, hcz24_5⟩ := cb6_ BK280.out; obtain ⟨hfz24_0, hfz24_1, hfz24_2, hfz24_3, hfz24_4, hfz24_5⟩ := bf6_ BK280.out; obtain ⟨hcz25_0, hcz25_1, hcz25_2, hcz25_3, hcz25_4, hcz25_5⟩ := cb6_ BK281.out; obtain ⟨hfz25_0, hfz25_1, hfz25_2, hfz25_3, hfz25_4⟩ := bf5_ BK281.out; have hfz25_5 := blk_frozen BK281.out 5) | ((with_reducible refine gate_store (t := 3) (p := 30) rfl ?_); refine st_ (w1 := (w23.setCell ⟨gb280, 5, none⟩ (.int .i64 ji6))) ?_; intro w26 hw; replace BK280 : Aside0 (w26.heap[gb280]? = some (.cells #[.int .i64 a0_0, .int .i64 a0_1, .int .i64 ji3, .int .i64 t283, .int .i64 ji5, .int .i64 ji6] 62 (0, 0))) := ⟨(by rw [hw]; exact (by (with_reducible repeat first|apply bn_|apply bd_|apply ba_); refine blk_put (cs := #[.int .i64 a0_0, .int .i64 a0_1, .int .i64 ji3, .int .i64 t283, .int .i64 ji5, .int .i64 a0_5]) ?_ 5 _ rfl; (with_reducible repeat first|apply bn_|apply bd_|apply ba_); exact BK280.out))⟩; replace BK281 := uk_ hw BK281.out; replace BK282 := uk_ hw BK282.out; replace HB := uh_ hw HB.out; clear hw; obtain ⟨hcz27_0, hcz27_1, hcz27_2, hcz27_3, hcz27_4, hcz27_5⟩ := cb6_ BK280.out; obtain ⟨hfz27_0, hfz27_1, hfz27_2, hfz27_3, hfz27_4, hfz27_5⟩ := bf6_ BK280.out; obtain ⟨hcz28_0, hcz28_1, hcz28_2, hcz28_3, hcz28_4, hcz28_5⟩ := cb6_ BK282.out; obtain ⟨hfz28_0, hfz28_1, hfz28_2, hfz28_3, hfz28_4⟩ := bf5_ BK282.out; have hfz28_5 := blk_frozen BK282.out 5) | ((with_reducible refine gate_store (t := 62) (p := 4) rfl ?_); refine st_ (w1 := ((((((w26.setCell ⟨gb282, 0, none⟩ (.int .i64 a0_0)).setCell ⟨gb282, 1, none⟩ (.int .i64 a0_1)).setCell ⟨gb282, 2, none⟩ (.int .i64 ji3)).setCell ⟨gb282, 3, none⟩ (.int .i64 t283)).setCell ⟨gb282, 4, none⟩ (.int .i64 ji5)).setCell ⟨gb282, 5, none⟩ (.int .i64 ji6))) ?_; intro w29 hw; replace BK280 := uk_ hw BK280.out; replace BK281 := uk_ hw BK281.out; replace BK282 : Aside0 (w29.heap[gb282]? = some (.cells #[.int .i64 a0_0, .int .i64 a0_1, .int .i64 ji3, .int .i64 t283, .int .i64 ji5, .int .i64 ji6] 62 (0, 0))) := ⟨(by rw [hw]; exact (by (with_reducible repeat first|apply bn_|apply bd_|apply ba_); apply bp6_; (with_reducible repeat first|apply bn_|apply bd_|apply ba_); exact BK282.out))⟩; replace HB := uh_ hw HB.out; clear hw))
 refine bodyPost_ret (results_cell_row rfl _ _ gb282 62 #[.int .i64 a0_0, .int .i64 a0_1, .int .i64 ji3, .int .i64 t283, .int .i64 ji5, .int .i64 ji6] (0, 0) _ rfl (ub_ BK282.out) Try.underlying62 rfl (by kernel_rfl)) rfl ?_
 exact ⟨by first | rfl | (simp [errW_none, errW_some] <;> rfl) | (simp only [← hji3, ← hji5, ← hji6]; first | rfl | (simp [errW_none, errW_some] <;> rfl)) | (simp [*, errW_none, errW_some] <;> rfl), ue_ HB.out⟩

end Go.Proofs.Ytaofcalmgodgjaa.QFnExactAddEvent
