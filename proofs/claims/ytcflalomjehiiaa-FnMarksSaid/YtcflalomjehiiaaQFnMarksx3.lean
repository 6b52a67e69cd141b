/- The machine side of a law: Lean functions with the Go functions' answers and the walks that show it. No condition. -/
import Derived.Test.YtcflalomjehiiaaQFnMarksx0
import Derived.Test.YtcflalomjehiiaaQFnMarksx2
namespace Go.Proofs.Ytcflalomjehiiaa.QFnMarks
open Go.RowKit Go.Proofs.YtcflalomjehiiaaW.PrintWords Go.Proofs.YtcflalomjehiiaaW.PrintLast Go.Proofs.YtcflalomjehiiaaW.PrintMore
attribute [local go_sem] max2_int min2_int max_two min_two max_three min_three max_four min_four   -- for this text's walks alone
set_option linter.unusedVariables false
set_option linter.unusedSimpArgs false

/-! ### spec_DueAt: function 176 -/
def spec_DueAt.f (k : Nat) (a0 : Int) (a1 : Int) (a2 : Int) : Option (Bool) := (spec_TickOk.f a0).bind fun t129 => (if t129 = true then ((spec_TickOk.f a1).bind fun t130 => (if t130 = true then ((spec_TickOk.f a2).bind fun t131 => (if t131 = true then (if a1 > 0 then ((spec_AddTick.f k a0 a1).bind fun t132 => (some (decide (t132 ≤ a2)))) else (some false)) else (some false))) else (some false))) else (some false))
theorem spec_DueAt.mono : ∀ a0 a1 a2 k, LeO (spec_DueAt.f k a0 a1 a2) (spec_DueAt.f (k + 1) a0 a1 a2) := by
 intro a0 a1 a2 k
 unfold spec_DueAt.f
 repeat' first
   | (with_reducible exact spec_AddTick.mono _ _ _)
   | (with_reducible exact LeO.refl _)
   | (with_reducible exact LeO.none _)
   | (with_reducible refine LeO.ite ?_ ?_)
   | (with_reducible refine LeO.bind ?_ (fun _ => ?_))
   | exact spec_AddTick.mono _ _ _
   | exact LeO.none _
   | refine LeO.ite ?_ ?_
   | refine LeO.bind ?_ (fun _ => ?_)
set_option maxHeartbeats 8000000 in
set_option maxRecDepth 100000 in
theorem spec_DueAt.calls (k : Nat) (a0 : Int) (a1 : Int) (a2 : Int) (r : Bool) (w : World) (h : spec_DueAt.f k a0 a1 a2 = some r) :
  Calls Try.prog 176 #[.int .i64 a0, .int .i64 a1, .int .i64 a2] w fun e w' => e = .returned (.bool r) ∧ Drawn0 w w' := by
 have H : ((spec_TickOk.f a0).bind fun t129 => (if t129 = true then ((spec_TickOk.f a1).bind fun t130 => (if t130 = true then ((spec_TickOk.f a2).bind fun t131 => (if t131 = true then (if a1 > 0 then ((spec_AddTick.f k a0 a1).bind fun t132 => (some (decide (t132 ≤ a2)))) else (some false)) else (some false))) else (some false))) else (some false))) = some r := h
 clear h
 replace H := Option.bind_eq_some_iff.mp H
 obtain ⟨t129, A40, H⟩ := H
 replace H : (if t129 = true then ((spec_TickOk.f a1).bind fun t130 => (if t130 = true then ((spec_TickOk.f a2).bind fun t131 => (if t131 = true then (if a1 > 0 then ((spec_AddTick.f k a0 a1).bind fun t132 => (some (decide (t132 ≤ a2)))) else (some false)) else (some false))) else (some false))) else (some false)) = some r := H
 have A4 := Aside0.mk A40
 clear A40
 by_cases c5 : t129 = true
 ·
  subst c5
  have H1 : ((spec_TickOk.f a1).bind fun t130 => (if t130 = true then ((spec_TickOk.f a2).bind fun t131 => (if t131 = true then (if a1 > 0 then ((spec_AddTick.f k a0 a1).bind fun t132 => (some (decide (t132 ≤ a2)))) else (some false)) else (some false))) else (some false))) = some r := by rw [if_pos rfl] at H; exact H
  clear H
  have H := H1
  clear H1
  replace H := Option.bind_eq_some_iff.mp H
  obtain ⟨t130, A60, H⟩ := H
  replace H : (if t130 = true then ((spec_TickOk.f a2).bind fun t131 => (if t131 = true then (if a1 > 0 then ((spec_AddTick.f k a0 a1).bind fun t132 => (some (decide (t132 ≤ a2)))) else (some false)) else (some false))) else (some false)) = some r := H
  have A6 := Aside0.mk A60
  clear A60
  by_cases c7 : t130 = true
  ·
   subst c7
   have H1 : ((spec_TickOk.f a2).bind fun t131 => (if t131 = true then (if a1 > 0 then ((spec_AddTick.f k a0 a1).bind fun t132 => (some (decide (t132 ≤ a2)))) else (some false)) else (some false))) = some r := by rw [if_pos rfl] at H; exact H
   clear H
   have H := H1
   clear H1
   replace H := Option.bind_eq_some_iff.mp H
   obtain ⟨t131, A80, H⟩ := H
   replace H : (if t131 = true then (if a1 > 0 then ((spec_AddTick.f k a0 a1).bind fun t132 => (some (decide (t132 ≤ a2)))) else (some false)) else (some false)) = some r := H
   have A8 := Aside0.mk A80
   clear A80
   by_cases c9 : t131 = true
   ·
    subst c9
    have H1 : (if a1 > 0 then ((spec_AddTick.f k a0 a1).bind fun t132 => (some (decide (t132 ≤ a2)))) else (some false)) = some r := by rw [if_pos rfl] at H; exact H
    clear H
    have H := H1
    clear H1
    by_cases c10 : a1 > 0
    ·
     rw [if_pos c10] at H
     have c10b0 : decide (0 < a1) = true := decide_eq_true c10
     clear c10
     replace H := Option.bind_eq_some_iff.mp H
     obtain ⟨t132, A110, H⟩ := H
     replace H : (some (decide (t132 ≤ a2))) = some r := H
     have A11 := Aside0.mk A110
     clear A110
     obtain rfl := Option.some.inj H
     go_enter Try.func176, Try.ntmps176
     go_wp2_with (first | ((with_reducible refine gate_callee (f := 173) rfl ?_); refine goesL_ (some 8) rfl rfl Try.func173 (by kernel_rfl) rfl #[.int .i64 a0] rfl ul_ ?_; (with_reducible refine (spec_TickOk.calls a0 true _ A4.out).mono ?_); rintro e w' ⟨rfl, ⟨nd, rfl⟩⟩; refine ⟨_, rfl, ?_⟩) | (go_at_call 173; (with_reducible refine (spec_TickOk.calls a1 true _ A6.out).mono ?_); rintro e w' ⟨rfl, ⟨nd, rfl⟩⟩) | (go_at_call 173; (with_reducible refine (spec_TickOk.calls a2 true _ A8.out).mono ?_); rintro e w' ⟨rfl, ⟨nd, rfl⟩⟩) | (go_at_call 189; (with_reducible refine (spec_AddTick.calls k a0 a1 t132 _ A11.out).mono ?_); rintro e w' ⟨rfl, ⟨nd, rfl⟩⟩))
     go_ret
     exact ⟨by first | rfl | (simp; done) | (simp [*]; done), by repeat (first | exact Drawn0.refl _ | apply Drawn0.step)⟩
    ·
     rw [if_neg c10] at H
     have c10b0 : decide (0 < a1) = false := decide_eq_false c10
     clear c10
     obtain rfl := Option.some.inj H
     go_enter Try.func176, Try.ntmps176
     go_wp2_with (first | ((with_reducible refine gate_callee (f := 173) rfl ?_); refine goesL_ (some 8) rfl rfl Try.func173 (by kernel_rfl) rfl #[.int .i64 a0] rfl ul_ ?_; (with_reducible refine (spec_TickOk.calls a0 true _ A4.out).mono ?_); rintro e w' ⟨rfl, ⟨nd, rfl⟩⟩; refine ⟨_, rfl, ?_⟩) | (go_at_call 173; (with_reducible refine (spec_TickOk.calls a1 true _ A6.out).mono ?_); rintro e w' ⟨rfl, ⟨nd, rfl⟩⟩) | (go_at_call 173; (with_reducible refine (spec_TickOk.calls a2 true _ A8.out).mono ?_); rintro e w' ⟨rfl, ⟨nd, rfl⟩⟩))
     go_ret
     exact ⟨by first | rfl | (simp; done) | (simp [*]; done), by repeat (first | exact Drawn0.refl _ | apply Drawn0.step)⟩
   ·
    replace c9 := Bool.eq_false_iff.mpr c9
    subst c9
    have H1 : (some false) = some r := by rw [if_neg (show ¬ (false = true) by decide)] at H; exact H
    clear H
    have H := H1
    clear H1
    obtain rfl := Option.some.inj H
    go_enter Try.func176, Try.ntmps176
    go_wp2_with (first | ((with_reducible refine gate_callee (f := 173) rfl ?_); refine goesL_ (some 8) rfl rfl Try.func173 (by kernel_rfl) rfl #[.int .i64 a0] rfl ul_ ?_; (with_reducible refine (spec_TickOk.calls a0 true _ A4.out).mono ?_); rintro e w' ⟨rfl, ⟨nd, rfl⟩⟩; refine ⟨_, rfl, ?_⟩) | (go_at_call 173; (with_reducible refine (spec_TickOk.calls a1 true _ A6.out).mono ?_); rintro e w' ⟨rfl, ⟨nd, rfl⟩⟩) | (go_at_call 173; (with_reducible refine (spec_TickOk.calls a2 false _ A8.out).mono ?_); rintro e w' ⟨rfl, ⟨nd, rfl⟩⟩))
    go_ret
    exact ⟨by first | rfl | (simp; done) | (simp [*]; done), by repeat (first | exact Drawn0.refl _ | apply Drawn0.step)⟩
  ·
   replace c7 := Bool.eq_false_iff.mpr c7
   subst c7
   have H1 : (some false) = some r := by rw [if_neg (show ¬ (false = true) by decide)] at H; exact H
   clear H
   have H := H1
   clear H1
   obtain rfl := Option.some.inj H
   go_enter Try.func176, Try.ntmps176
   go_wp2_with (first | ((with_reducible refine gate_callee (f := 173) rfl ?_); refine goesL_ (some 8) rfl rfl Try.func173 (by kernel_rfl) rfl #[.int .i64 a0] rfl ul_ ?_; (with_reducible refine (spec_TickOk.calls a0 true _ A4.out).mono ?_); rintro e w' ⟨rfl, ⟨nd, rfl⟩⟩; refine ⟨_, rfl, ?_⟩) | (go_at_call 173; (with_reducible refine (spec_TickOk.calls a1 false _ A6.out).mono ?_); rintro e w' ⟨rfl, ⟨nd, rfl⟩⟩))
   go_ret
   exact ⟨by first | rfl | (simp; done) | (simp [*]; done), by repeat (first | exact Drawn0.refl _ | apply Drawn0.step)⟩
 ·
  replace c5 := Bool.eq_false_iff.mpr c5
  subst c5
  have H1 : (some false) = some r := by rw [if_neg (show ¬ (false = true) by decide)] at H; exact H
  clear H
  have H := H1
  clear H1
  obtain rfl := Option.some.inj H
  go_enter Try.func176, Try.ntmps176
  go_wp2_with (first | ((with_reducible refine gate_callee (f := 173) rfl ?_); refine goesL_ (some 8) rfl rfl Try.func173 (by kernel_rfl) rfl #[.int .i64 a0] rfl ul_ ?_; (with_reducible refine (spec_TickOk.calls a0 false _ A4.out).mono ?_); rintro e w' ⟨rfl, ⟨nd, rfl⟩⟩; refine ⟨_, rfl, ?_⟩))
  go_ret
  exact ⟨by first | rfl | (simp; done) | (simp [*]; done), by repeat (first | exact Drawn0.refl _ | apply Drawn0.step)⟩

/-! ### spec_SeeTick: function 133 -/
def spec_SeeTick.j0 : Nat → Int → Int → Bool → Int → Int → Int → Bool → Bool → Option (Int × Int × Int × Bool × Bool × Bool)
 | 0, _, _, _, _, _, _, _, _ => none
 | k + 1, x1, x2, x21, x134000, x134001, x134002, x134003, x134004 => if x21 = true then (some (x134000, x134001, x134002, x134003, x134004, false)) else (if x134004 = true then (if x134003 = true then (some (x134000, x134001, x134002, x134003, x134004, false)) else ((spec_DueAt.f k x134002 x1 x2).bind fun t139 => (if t139 = true then (some (x134000, x134001, x134002, true, x134004, true)) else (some (x134000, x134001, x134002, x134003, x134004, false))))) else (some (x134000, x134001, x134002, x134003, x134004, false)))
def spec_SeeTick.f (k : Nat) (a0_0 : Int) (a0_1 : Int) (a0_2 : Int) (a0_3 : Bool) (a0_4 : Bool) (a1 : Int) (a2 : Int) : Option (Int × Int × Int × Bool × Bool × Bool) := (spec_SourceOk.f a0_0 a0_1 a0_2 a0_3 a0_4).bind fun t135 => (if t135 = true then ((spec_TickOk.f a1).bind fun t136 => (if t136 = true then ((spec_TickOk.f a2).bind fun t137 => (spec_SeeTick.j0 k a1 a2 (!t137) a0_0 a0_1 a0_2 a0_3 a0_4)) else (spec_SeeTick.j0 k a1 a2 true a0_0 a0_1 a0_2 a0_3 a0_4))) else (spec_SeeTick.j0 k a1 a2 true a0_0 a0_1 a0_2 a0_3 a0_4))
theorem spec_SeeTick.mono_l : ∀ k, (∀ y0 y1 y2 y3 y4 y5 y6 y7, LeO (spec_SeeTick.j0 k y0 y1 y2 y3 y4 y5 y6 y7) (spec_SeeTick.j0 (k + 1) y0 y1 y2 y3 y4 y5 y6 y7))
 | 0 => fun _ _ _ _ _ _ _ _ r h => by simp [spec_SeeTick.j0] at h
 | k + 1 => by
  have ih0 := spec_SeeTick.mono_l k
  ·
   intro y0 y1 y2 y3 y4 y5 y6 y7
   unfold spec_SeeTick.j0
   repeat' first
   | (with_reducible exact ih0 _ _ _ _ _ _ _ _)
   | (with_reducible exact spec_DueAt.mono _ _ _ _)
   | (with_reducible exact LeO.refl _)
   | (with_reducible exact LeO.none _)
   | (with_reducible refine LeO.ite ?_ ?_)
   | (with_reducible refine LeO.bind ?_ (fun _ => ?_))
   | exact ih0 _ _ _ _ _ _ _ _
   | exact spec_DueAt.mono _ _ _ _
   | exact LeO.none _
   | refine LeO.ite ?_ ?_
   | refine LeO.bind ?_ (fun _ => ?_)
theorem spec_SeeTick.mono : ∀ a0 a1 a2 a3 a4 a5 a6 k, LeO (spec_SeeTick.f k a0 a1 a2 a3 a4 a5 a6) (spec_SeeTick.f (k + 1) a0 a1 a2 a3 a4 a5 a6) := by
 intro a0 a1 a2 a3 a4 a5 a6 k
 have ih0 := spec_SeeTick.mono_l k
 unfold spec_SeeTick.f
 repeat' first
   | (with_reducible exact ih0 _ _ _ _ _ _ _ _)
   | (with_reducible exact spec_DueAt.mono _ _ _ _)
   | (with_reducible exact LeO.refl _)
   | (with_reducible exact LeO.none _)
   | (with_reducible refine LeO.ite ?_ ?_)
   | (with_reducible refine LeO.bind ?_ (fun _ => ?_))
   | exact ih0 _ _ _ _ _ _ _ _
   | exact spec_DueAt.mono _ _ _ _
   | exact LeO.none _
   | refine LeO.ite ?_ ?_
   | refine LeO.bind ?_ (fun _ => ?_)
set_option maxHeartbeats 8000000 in
set_option maxRecDepth 100000 in
theorem spec_SeeTick.calls (k : Nat) (a0_0 : Int) (a0_1 : Int) (a0_2 : Int) (a0_3 : Bool) (a0_4 : Bool) (a1 : Int) (a2 : Int) (r1 : Int) (r2 : Int) (r3 : Int) (r4 : Bool) (r5 : Bool) (r6 : Bool) (w : World) (h : spec_SeeTick.f k a0_0 a0_1 a0_2 a0_3 a0_4 a1 a2 = some (r1, r2, r3, r4, r5, r6)) :
  Calls Try.prog 133 #[.agg #[.int .i64 a0_0, .int .i64 a0_1, .int .i64 a0_2, .bool a0_3, .bool a0_4], .int .i64 a1, .int .i64 a2] w fun e w' => e = .returned (.tuple #[.agg #[.int .i64 r1, .int .i64 r2, .int .i64 r3, .bool r4, .bool r5], .bool r6]) ∧ Below w.heap.size w w' := by
 have hu72 := Try.underlying72
 have HB := am_ (Below.refl w.heap.size w)
 have H : ((spec_SourceOk.f a0_0 a0_1 a0_2 a0_3 a0_4).bind fun t135 => (if t135 = true then ((spec_TickOk.f a1).bind fun t136 => (if t136 = true then ((spec_TickOk.f a2).bind fun t137 => (spec_SeeTick.j0 k a1 a2 (!t137) a0_0 a0_1 a0_2 a0_3 a0_4)) else (spec_SeeTick.j0 k a1 a2 true a0_0 a0_1 a0_2 a0_3 a0_4))) else (spec_SeeTick.j0 k a1 a2 true a0_0 a0_1 a0_2 a0_3 a0_4))) = some (r1, r2, r3, r4, r5, r6) := h
 clear h
 have HC4 := Aside0.mk H
 clear H
 go_enter Try.func133, Try.ntmps133
 go_upto_region 1 with (first | ((with_reducible refine gate_dst (N := 3) rfl ?_); refine box_event ?hg (N := 3) ?hd (cs := #[.int .i64 a0_0, .int .i64 a0_1, .int .i64 a0_2, .bool a0_3, .bool a0_4]) (t := 72) ?hr ?_; (case hd => rfl); (case hg => rfl); (case hr => first | (go_simp; done) | (go_simp; rfl)); intro gb133 hg w5 hbox hb; have n0_ := am_ (below_step (ue_ HB.out) hb); have n1_ := am_ (hbox); have n2_ := am_ ((by rw [hg]; exact (below_size (ue_ HB.out)) : w.heap.size ≤ gb133)); have n3_ := am_ ((by rw [hg]; exact (below_size (ue_ HB.out)) : w.heap.size ≤ gb133)); clear HB; have HB := n0_; have BK133 := n1_; have GW133 := n2_; have GE133 := n3_; clear n0_ n1_ n2_ n3_; clear hb hbox hg) | ((with_reducible refine gate_dst (N := 6) rfl ?_); refine box_event ?hg (N := 6) ?hd (cs := #[.int .i64 0, .int .i64 0, .int .i64 0, .bool false, .bool false]) (t := 72) ?hr ?_; (case hd => rfl); (case hg => rfl); (case hr => first | (go_simp; done) | (go_simp; rfl)); intro gb134 hg w6 hbox hb; have n0_ := am_ (bb_ BK133.out hb); have n1_ := am_ (below_step (ue_ HB.out) hb); have n2_ := am_ (hbox); have n3_ := am_ ((by rw [hg]; exact (below_size (ue_ HB.out)) : w.heap.size ≤ gb134)); have n4_ := am_ ((by rw [hg]; exact (below_size (ue_ HB.out)) : w.heap.size ≤ gb134)); have n5_ := am_ ((by rw [hg]; exact Nat.ne_of_lt (bl_ BK133.out) : gb133 ≠ gb134)); have n6_ := am_ ((by rw [hg]; exact Nat.ne_of_gt (bl_ BK133.out) : gb134 ≠ gb133)); clear BK133 HB; have BK133 := n0_; have HB := n1_; have BK134 := n2_; have GW134 := n3_; have GE134 := n4_; have NB133_134 := n5_; have NB134_133 := n6_; clear n0_ n1_ n2_ n3_ n4_ n5_ n6_; clear hb hbox hg))
 (try simp only [Act.put, List.setIfInBounds_toArray, List.set_cons_zero, List.set_cons_succ])
 go_cut [21] (fun v21 wc => ∃ (kq : Nat) (x21_3 : Bool), v21 = .bool x21_3 ∧ Aside0 (spec_SeeTick.j0 kq a1 a2 x21_3 a0_0 a0_1 a0_2 a0_3 a0_4 = some (r1, r2, r3, r4, r5, r6)) ∧ Aside0 (kq ≤ k) ∧ Aside0 (wc.heap[gb133]? = some (.cells #[.int .i64 a0_0, .int .i64 a0_1, .int .i64 a0_2, .bool a0_3, .bool a0_4] 72 (0, 0))) ∧ Aside0 (wc.heap[gb134]? = some (.cells #[.int .i64 0, .int .i64 0, .int .i64 0, .bool false, .bool false] 72 (0, 0))) ∧ Aside0 (Below w.heap.size w wc))
 case first =>
  have H := HC4.out
  clear HC4
  replace H := Option.bind_eq_some_iff.mp H
  obtain ⟨t135, A70, H⟩ := H
  replace H : (if t135 = true then ((spec_TickOk.f a1).bind fun t136 => (if t136 = true then ((spec_TickOk.f a2).bind fun t137 => (spec_SeeTick.j0 k a1 a2 (!t137) a0_0 a0_1 a0_2 a0_3 a0_4)) else (spec_SeeTick.j0 k a1 a2 true a0_0 a0_1 a0_2 a0_3 a0_4))) else (spec_SeeTick.j0 k a1 a2 true a0_0 a0_1 a0_2 a0_3 a0_4)) = some (r1, r2, r3, r4, r5, r6) := H
  have A7 := Aside0.mk A70
  clear A70
  by_cases c8 : t135 = true
  ·
   subst c8
   have H1 : ((spec_TickOk.f a1).bind fun t136 => (if t136 = true then ((spec_TickOk.f a2).bind fun t137 => (spec_SeeTick.j0 k a1 a2 (!t137) a0_0 a0_1 a0_2 a0_3 a0_4)) else (spec_SeeTick.j0 k a1 a2 true a0_0 a0_1 a0_2 a0_3 a0_4))) = some (r1, r2, r3, r4, r5, r6) := by rw [if_pos rfl] at H; exact H
   clear H
   have H := H1
   clear H1
   replace H := Option.bind_eq_some_iff.mp H
   obtain ⟨t136, A90, H⟩ := H
   replace H : (if t136 = true then ((spec_TickOk.f a2).bind fun t137 => (spec_SeeTick.j0 k a1 a2 (!t137) a0_0 a0_1 a0_2 a0_3 a0_4)) else (spec_SeeTick.j0 k a1 a2 true a0_0 a0_1 a0_2 a0_3 a0_4)) = some (r1, r2, r3, r4, r5, r6) := H
   have A9 := Aside0.mk A90
   clear A90
   by_cases c10 : t136 = true
   ·
    subst c10
    have H1 : ((spec_TickOk.f a2).bind fun t137 => (spec_SeeTick.j0 k a1 a2 (!t137) a0_0 a0_1 a0_2 a0_3 a0_4)) = some (r1, r2, r3, r4, r5, r6) := by rw [if_pos rfl] at H; exact H
    clear H
    have H := H1
    clear H1
    replace H := Option.bind_eq_some_iff.mp H
    obtain ⟨t137, A110, H⟩ := H
    replace H : (spec_SeeTick.j0 k a1 a2 (!t137) a0_0 a0_1 a0_2 a0_3 a0_4) = some (r1, r2, r3, r4, r5, r6) := H
    have A11 := Aside0.mk A110
    clear A110
    have H' := Aside0.mk H
    clear H
    have hnb12 := NB133_134.out
    have hnc12 := NB134_133.out
    have hcz13_0 := cb_ BK133.out 0 rfl
    have hcz13_1 := cb_ BK133.out 1 rfl
    have hcz13_2 := cb_ BK133.out 2 rfl
    have hcz13_3 := cb_ BK133.out 3 rfl
    have hcz13_4 := cb_ BK133.out 4 rfl
    have hfz13_0 := blk_frozen BK133.out 0
    have hfz13_1 := blk_frozen BK133.out 1
    have hfz13_2 := blk_frozen BK133.out 2
    have hfz13_3 := blk_frozen BK133.out 3
    have hfz13_4 := blk_frozen BK133.out 4
    go_wp2_with (first | ((with_reducible refine gate_callee (f := 147) rfl ?_); refine goesL_ (some 10) rfl rfl Try.func147 (by kernel_rfl) rfl #[.agg #[.int .i64 a0_0, .int .i64 a0_1, .int .i64 a0_2, .bool a0_3, .bool a0_4]] rfl ul_ ?_; (with_reducible refine (spec_SourceOk.calls a0_0 a0_1 a0_2 a0_3 a0_4 true _ A7.out).mono ?_); rintro e w14 ⟨rfl, hb⟩; refine ⟨_, rfl, ?_⟩; have n0_ := am_ (bb_ BK133.out hb); have n1_ := am_ (bb_ BK134.out hb); have n2_ := am_ (below_step (ue_ HB.out) hb); clear BK133 BK134 HB; have BK133 := n0_; have BK134 := n1_; have HB := n2_; clear n0_ n1_ n2_; (try clear hb); (try clear hb2); (try clear hk); (try clear hi)) | (go_at_call 173; (with_reducible refine (spec_TickOk.calls a1 true _ A9.out).mono ?_); rintro e w' ⟨rfl, ⟨nd, rfl⟩⟩) | (go_at_call 173; (with_reducible refine (spec_TickOk.calls a2 t137 _ A11.out).mono ?_); rintro e w' ⟨rfl, ⟨nd, rfl⟩⟩))
    go_meet
    case rel => exact ⟨_, (!t137), (by first | rfl | (simp; done) | (simp [*]; done)), H', ⟨by first | omega | exact Nat.le_refl _⟩, ⟨by (with_reducible repeat first|apply bn_|apply bd_|apply ba_); exact BK133.out⟩, ⟨by (with_reducible repeat first|apply bn_|apply bd_|apply ba_); exact BK134.out⟩, ⟨ue_ HB.out⟩⟩
   ·
    replace c10 := Bool.eq_false_iff.mpr c10
    subst c10
    have H1 : (spec_SeeTick.j0 k a1 a2 true a0_0 a0_1 a0_2 a0_3 a0_4) = some (r1, r2, r3, r4, r5, r6) := by rw [if_neg (show ¬ (false = true) by decide)] at H; exact H
    clear H
    have H := H1
    clear H1
    have H' := Aside0.mk H
    clear H
    have hnb15 := NB133_134.out
    have hnc15 := NB134_133.out
    have hcz16_0 := cb_ BK133.out 0 rfl
    have hcz16_1 := cb_ BK133.out 1 rfl
    have hcz16_2 := cb_ BK133.out 2 rfl
    have hcz16_3 := cb_ BK133.out 3 rfl
    have hcz16_4 := cb_ BK133.out 4 rfl
    have hfz16_0 := blk_frozen BK133.out 0
    have hfz16_1 := blk_frozen BK133.out 1
    have hfz16_2 := blk_frozen BK133.out 2
    have hfz16_3 := blk_frozen BK133.out 3
    have hfz16_4 := blk_frozen BK133.out 4
    go_wp2_with (first | ((with_reducible refine gate_callee (f := 147) rfl ?_); refine goesL_ (some 10) rfl rfl Try.func147 (by kernel_rfl) rfl #[.agg #[.int .i64 a0_0, .int .i64 a0_1, .int .i64 a0_2, .bool a0_3, .bool a0_4]] rfl ul_ ?_; (with_reducible refine (spec_SourceOk.calls a0_0 a0_1 a0_2 a0_3 a0_4 true _ A7.out).mono ?_); rintro e w17 ⟨rfl, hb⟩; refine ⟨_, rfl, ?_⟩; have n0_ := am_ (bb_ BK133.out hb); have n1_ := am_ (bb_ BK134.out hb); have n2_ := am_ (below_step (ue_ HB.out) hb); clear BK133 BK134 HB; have BK133 := n0_; have BK134 := n1_; have HB := n2_; clear n0_ n1_ n2_; (try clear hb); (try clear hb2); (try clear hk); (try clear hi)) | (go_at_call 173; (with_reducible refine (spec_TickOk.calls a1 false _ A9.out).mono ?_); rintro e w' ⟨rfl, ⟨nd, rfl⟩⟩))
    go_meet
    case rel => exact ⟨_, (true), (by first | rfl | (simp; done) | (simp [*]; done)), H', ⟨by first | omega | exact Nat.le_refl _⟩, ⟨by (with_reducible repeat first|apply bn_|apply bd_|apply ba_); exact BK133.out⟩, ⟨by (with_reducible repeat first|apply bn_|apply bd_|apply ba_); exact BK134.out⟩, ⟨ue_ HB.out⟩⟩
  ·
   replace c8 := Bool.eq_false_iff.mpr c8
   subst c8
   have H1 : (spec_SeeTick.j0 k a1 a2 true a0_0 a0_1 a0_2 a0_3 a0_4) = some (r1, r2, r3, r4, r5, r6) := by rw [if_neg (show ¬ (false = true) by decide)] at H; exact H
   clear H
   have H := H1
   clear H1
   have H' := Aside0.mk H
   clear H
   have hnb18 := NB133_134.out
   have hnc18 := NB134_133.out
   have hcz19_0 := cb_ BK133.out 0 rfl
   have hcz19_1 := cb_ BK133.out 1 rfl
   have hcz19_2 := cb_ BK133.out 2 rfl
   have hcz19_3 := cb_ BK133.out 3 rfl
   have hcz19_4 := cb_ BK133.out 4 rfl
   have hfz19_0 := blk_frozen BK133.out 0
   have hfz19_1 := blk_frozen BK133.out 1
   have hfz19_2 := blk_frozen BK133.out 2
   have hfz19_3 := blk_frozen BK133.out 3
   have hfz19_4 := blk_frozen BK133.out 4
   go_wp2_with (first | ((with_reducible refine gate_callee (f := 147) rfl ?_); refine goesL_ (some 10) rfl rfl Try.func147 (by kernel_rfl) rfl #[.agg #[.int .i64 a0_0, .int .i64 a0_1, .int .i64 a0_2, .bool a0_3, .bool a0_4]] rfl ul_ ?_; (with_reducible refine (spec_SourceOk.calls a0_0 a0_1 a0_2 a0_3 a0_4 false _ A7.out).mono ?_); rintro e w20 ⟨rfl, hb⟩; refine ⟨_, rfl, ?_⟩; have n0_ := am_ (bb_ BK133.out hb); have n1_ := am_ (bb_ BK134.out hb); have n2_ := am_ (below_step (ue_ HB.out) hb); clear BK133 BK134 HB; have BK133 := n0_; have BK134 := n1_; have HB := n2_; clear n0_ n1_ n2_; (try clear hb); (try clear hb2); (try clear hk); (try clear hi)))
   go_meet
   case rel => exact ⟨_, (true), (by first | rfl | (simp; done) | (simp [*]; done)), H', ⟨by first | omega | exact Nat.le_refl _⟩, ⟨by (with_reducible repeat first|apply bn_|apply bd_|apply ba_); exact BK133.out⟩, ⟨by (with_reducible repeat first|apply bn_|apply bd_|apply ba_); exact BK134.out⟩, ⟨ue_ HB.out⟩⟩
 case rest =>
  clear HC4
  try clear c1
  try clear p2
  try clear c8
  try clear c10
  try clear c12
  try clear c13
  try clear c14
  try clear c15
  try clear c18
  try clear hcz13_0
  try clear hcz13_1
  try clear hcz13_2
  try clear hcz13_3
  try clear hcz13_4
  try clear hcz16_0
  try clear hcz16_1
  try clear hcz16_2
  try clear hcz16_3
  try clear hcz16_4
  try clear hcz19_0
  try clear hcz19_1
  try clear hcz19_2
  try clear hcz19_3
  try clear hcz19_4
  try clear hfz13_0
  try clear hfz13_1
  try clear hfz13_2
  try clear hfz13_3
  try clear hfz13_4
  try clear hfz16_0
  try clear hfz16_1
  try clear hfz16_2
  try clear hfz16_3
  try clear hfz16_4
  try clear hfz19_0
  try clear hfz19_1
  try clear hfz19_2
  try clear hfz19_3
  try clear hfz19_4
  obtain ⟨kq, x21_3, rfl, HA, HJ3, BK133, BK134, HB⟩ := hcut
  cases kq with
  | zero => exact absurd HA.out (by simp [spec_SeeTick.j0])
  | succ kj3 =>
   have H := HA.out
   clear HA
   simp only [spec_SeeTick.j0] at H
   by_cases c21 : x21_3 = true
   ·
    subst c21
    have H1 : (some (a0_0, a0_1, a0_2, a0_3, a0_4, false)) = some (r1, r2, r3, r4, r5, r6) := by rw [if_pos rfl] at H; exact H
    clear H
    have H := H1
    clear H1
    simp only [Option.some.injEq, Prod.mk.injEq] at H
    obtain ⟨rfl, rfl, rfl, rfl, rfl, rfl⟩ := H
    have hnb22 := NB133_134.out
    have hnc22 := NB134_133.out
    have hcz23_0 := cb_ BK133.out 0 rfl
    have hcz23_1 := cb_ BK133.out 1 rfl
    have hcz23_2 := cb_ BK133.out 2 rfl
    have hcz23_3 := cb_ BK133.out 3 rfl
    have hcz23_4 := cb_ BK133.out 4 rfl
    have hfz23_0 := blk_frozen BK133.out 0
    have hfz23_1 := blk_frozen BK133.out 1
    have hfz23_2 := blk_frozen BK133.out 2
    have hfz23_3 := blk_frozen BK133.out 3
    have hfz23_4 := blk_frozen BK133.out 4
    have hcz24_0 := cb_ BK134.out 0 rfl
    have hcz24_1 := cb_ BK134.out 1 rfl
    have hcz24_2 := cb_ BK134.out 2 rfl
    have hcz24_3 := cb_ BK134.out 3 rfl
    have hcz24_4 := cb_ BK134.out 4 rfl
    have hfz24_0 := blk_frozen BK134.out 0
    have hfz24_1 := blk_frozen BK134.out 1
    have hfz24_2 := blk_frozen BK134.out 2
    have hfz24_3 := blk_frozen BK134.out 3
    have hfz24_4 := blk_frozen BK134.out 4
    go_wp2_with (first | ((with_reducible refine gate_store (t := 72) (p := 6) rfl ?_); refine store_event (t := 72) (p := 6) (v := ?vo_w25) (w1 := (((((wc.setCell ⟨gb134, 0, none⟩ (.int .i64 a0_0)).setCell ⟨gb134, 1, none⟩ (.int .i64 a0_1)).setCell ⟨gb134, 2, none⟩ (.int .i64 a0_2)).setCell ⟨gb134, 3, none⟩ (.bool a0_3)).setCell ⟨gb134, 4, none⟩ (.bool a0_4))) ?hg ?ho ?hn ?hr ?_; (case ho => rfl); (case hg => rfl); (case hn => rfl); (case hr => first | (go_simp; done) | (go_simp; rfl)); intro w25 hw; have n0_ : Aside0 (w25.heap[gb133]? = some (.cells #[.int .i64 a0_0, .int .i64 a0_1, .int .i64 a0_2, .bool a0_3, .bool a0_4] 72 (0, 0))) := ⟨(by rw [hw]; exact (uf_ BK133.out))⟩; have n1_ : Aside0 (w25.heap[gb134]? = some (.cells #[.int .i64 a0_0, .int .i64 a0_1, .int .i64 a0_2, .bool a0_3, .bool a0_4] 72 (0, 0))) := ⟨(by rw [hw]; exact (by (with_reducible repeat first|apply bn_|apply bd_|apply ba_); refine blk_put (cs := #[.int .i64 a0_0, .int .i64 a0_1, .int .i64 a0_2, .bool a0_3, .bool false]) ?_ 4 _ rfl; refine blk_put (cs := #[.int .i64 a0_0, .int .i64 a0_1, .int .i64 a0_2, .bool false, .bool false]) ?_ 3 _ rfl; refine blk_put (cs := #[.int .i64 a0_0, .int .i64 a0_1, .int .i64 0, .bool false, .bool false]) ?_ 2 _ rfl; refine blk_put (cs := #[.int .i64 a0_0, .int .i64 0, .int .i64 0, .bool false, .bool false]) ?_ 1 _ rfl; refine blk_put (cs := #[.int .i64 0, .int .i64 0, .int .i64 0, .bool false, .bool false]) ?_ 0 _ rfl; (with_reducible repeat first|apply bn_|apply bd_|apply ba_); exact BK134.out))⟩; have n2_ : Aside0 (Below w.heap.size w w25) := ⟨(by rw [hw]; exact (ue_ HB.out))⟩; clear hw BK133 BK134 HB; have BK133 := n0_; have BK134 := n1_; have HB := n2_; clear n0_ n1_ n2_))
    refine bodyPost_ret (results_ct rfl _ _ gb134 72 #[.int .i64 a0_0, .int .i64 a0_1, .int .i64 a0_2, .bool a0_3, .bool a0_4] (0, 0) _ rfl (ub_ BK134.out) Try.underlying72 rfl (by kernel_rfl)) rfl ?_
    exact ⟨ew_, ue_ HB.out⟩
   ·
    replace c21 := Bool.eq_false_iff.mpr c21
    subst c21
    have H1 : (if a0_4 = true then (if a0_3 = true then (some (a0_0, a0_1, a0_2, a0_3, a0_4, false)) else ((spec_DueAt.f kj3 a0_2 a1 a2).bind fun t139 => (if t139 = true then (some (a0_0, a0_1, a0_2, true, a0_4, true)) else (some (a0_0, a0_1, a0_2, a0_3, a0_4, false))))) else (some (a0_0, a0_1, a0_2, a0_3, a0_4, false))) = some (r1, r2, r3, r4, r5, r6) := by rw [if_neg (show ¬ (false = true) by decide)] at H; exact H
    clear H
    have H := H1
    clear H1
    by_cases c26 : a0_4 = true
    ·
     subst c26
     have H1 : (if a0_3 = true then (some (a0_0, a0_1, a0_2, a0_3, true, false)) else ((spec_DueAt.f kj3 a0_2 a1 a2).bind fun t139 => (if t139 = true then (some (a0_0, a0_1, a0_2, true, true, true)) else (some (a0_0, a0_1, a0_2, a0_3, true, false))))) = some (r1, r2, r3, r4, r5, r6) := by rw [if_pos rfl] at H; exact H
     clear H
     have H := H1
     clear H1
     by_cases c27 : a0_3 = true
     ·
      subst c27
      have H1 : (some (a0_0, a0_1, a0_2, true, true, false)) = some (r1, r2, r3, r4, r5, r6) := by rw [if_pos rfl] at H; exact H
      clear H
      have H := H1
      clear H1
      simp only [Option.some.injEq, Prod.mk.injEq] at H
      obtain ⟨rfl, rfl, rfl, rfl, rfl, rfl⟩ := H
      have hnb28 := NB133_134.out
      have hnc28 := NB134_133.out
      have hcz29_0 := cb_ BK133.out 0 rfl
      have hcz29_1 := cb_ BK133.out 1 rfl
      have hcz29_2 := cb_ BK133.out 2 rfl
      have hcz29_3 := cb_ BK133.out 3 rfl
      have hcz29_4 := cb_ BK133.out 4 rfl
      have hfz29_0 := blk_frozen BK133.out 0
      have hfz29_1 := blk_frozen BK133.out 1
      have hfz29_2 := blk_frozen BK133.out 2
      have hfz29_3 := blk_frozen BK133.out 3
      have hfz29_4 := blk_frozen BK133.out 4
      go_wp2_with (first | ((with_reducible refine gate_dst (N := 8) rfl ?_); refine box_event ?hg (N := 8) ?hd (cs := #[.int .i64 0, .int .i64 0, .int .i64 0, .bool false, .bool false]) (t := 72) ?hr ?_; (case hd => rfl); (case hg => rfl); (case hr => first | (go_simp; done) | (go_simp; rfl)); intro gb138 hg w30 hbox hb; have n0_ := am_ (bb_ BK133.out hb); have n1_ := am_ (bb_ BK134.out hb); have n2_ := am_ (below_step (ue_ HB.out) hb); have n3_ := am_ (hbox); have n4_ := am_ ((by rw [hg]; exact (below_size (ue_ HB.out)) : w.heap.size ≤ gb138)); have n5_ := am_ ((by rw [hg]; exact (below_size (ue_ HB.out)) : w.heap.size ≤ gb138)); have n6_ := am_ ((by rw [hg]; exact Nat.ne_of_lt (bl_ BK133.out) : gb133 ≠ gb138)); have n7_ := am_ ((by rw [hg]; exact Nat.ne_of_gt (bl_ BK133.out) : gb138 ≠ gb133)); have n8_ := am_ ((by rw [hg]; exact Nat.ne_of_lt (bl_ BK134.out) : gb134 ≠ gb138)); have n9_ := am_ ((by rw [hg]; exact Nat.ne_of_gt (bl_ BK134.out) : gb138 ≠ gb134)); clear BK133 BK134 HB; have BK133 := n0_; have BK134 := n1_; have HB := n2_; have BK138 := n3_; have GW138 := n4_; have GE138 := n5_; have NB133_138 := n6_; have NB138_133 := n7_; have NB134_138 := n8_; have NB138_134 := n9_; clear n0_ n1_ n2_ n3_ n4_ n5_ n6_ n7_ n8_ n9_; clear hb hbox hg; have hnb31 := NB138_133.out; have hnc31 := NB133_138.out; have hnb32 := NB138_134.out; have hnc32 := NB134_138.out; obtain ⟨hcz33_0, hcz33_1, hcz33_2, hcz33_3, hcz33_4⟩ := cb5_ BK138.out; obtain ⟨hfz33_0, hfz33_1, hfz33_2, hfz33_3⟩ := bf4_ BK138.out; have hfz33_4 := blk_frozen BK138.out 4) | ((with_reducible refine gate_store (t := 72) (p := 8) rfl ?_); refine store_event (t := 72) (p := 8) (v := ?vo_w34) (w1 := (((((w30.setCell ⟨gb138, 0, none⟩ (.int .i64 a0_0)).setCell ⟨gb138, 1, none⟩ (.int .i64 a0_1)).setCell ⟨gb138, 2, none⟩ (.int .i64 a0_2)).setCell ⟨gb138, 3, none⟩ (.bool true)).setCell ⟨gb138, 4, none⟩ (.bool true))) ?hg ?ho ?hn ?hr ?_; (case ho => rfl); (case hg => rfl); (case hn => rfl); (case hr => first | (go_simp; done) | (go_simp; rfl)); intro w34 hw; have n0_ : Aside0 (w34.heap[gb133]? = some (.cells #[.int .i64 a0_0, .int .i64 a0_1, .int .i64 a0_2, .bool true, .bool true] 72 (0, 0))) := ⟨(by rw [hw]; exact (uf_ BK133.out))⟩; have n1_ : Aside0 (w34.heap[gb134]? = some (.cells #[.int .i64 0, .int .i64 0, .int .i64 0, .bool false, .bool false] 72 (0, 0))) := ⟨(by rw [hw]; exact (uf_ BK134.out))⟩; have n2_ : Aside0 (w34.heap[gb138]? = some (.cells #[.int .i64 a0_0, .int .i64 a0_1, .int .i64 a0_2, .bool true, .bool true] 72 (0, 0))) := ⟨(by rw [hw]; exact (by (with_reducible repeat first|apply bn_|apply bd_|apply ba_); refine blk_put (cs := #[.int .i64 a0_0, .int .i64 a0_1, .int .i64 a0_2, .bool true, .bool false]) ?_ 4 _ rfl; refine blk_put (cs := #[.int .i64 a0_0, .int .i64 a0_1, .int .i64 a0_2, .bool false, .bool false]) ?_ 3 _ rfl; refine blk_put (cs := #[.int .i64 a0_0, .int .i64 a0_1, .int .i64 0, .bool false, .bool false]) ?_ 2 _ rfl; refine blk_put (cs := #[.int .i64 a0_0, .int .i64 0, .int .i64 0, .bool false, .bool false]) ?_ 1 _ rfl; refine blk_put (cs := #[.int .i64 0, .int .i64 0, .int .i64 0, .bool false, .bool false]) ?_ 0 _ rfl; (with_reducible repeat first|apply bn_|apply bd_|apply ba_); exact BK138.out))⟩; have n3_ : Aside0 (Below w.heap.size w w34) := ⟨(by rw [hw]; exact (ue_ HB.out))⟩; clear hw BK133 BK134 BK138 HB; have BK133 := n0_; have BK134 := n1_; have BK138 := n2_; have HB := n3_; clear n0_ n1_ n2_ n3_; obtain ⟨hcz35_0, hcz35_1, hcz35_2, hcz35_3, hcz35_4⟩ := cb5_ BK133.out; obtain ⟨hfz35_0, hfz35_1, hfz35_2, hfz35_3, hfz35_4⟩ := bf5_ BK133.out; obtain ⟨hcz36_0, hcz36_1, hcz36_2, hcz36_3, hcz36_4⟩ := cb5_ BK138.out; obtain ⟨hfz36_0, hfz36_1, hfz36_2, hfz36_3, hfz36_4⟩ := bf5_ BK138.out; obtain ⟨hcz37_0, hcz37_1, hcz37_2, hcz37_3, hcz37_4⟩ := cb5_ BK134.out; obtain ⟨hfz37_0, hfz37_1, hfz37_2, hfz37_3⟩ := bf4_ BK134.out; have hfz37_4 := blk_frozen BK134.out 4) | ((with_reducible refine gate_store (t := 72) (p := 6) rfl ?_); refine store_event (t := 72) (p := 6) (v := ?vo_w38) (w1 := (((((w34.setCell ⟨gb134, 0, none⟩ (.int .i64 a0_0)).setCell ⟨gb134, 1, none⟩ (.int .i64 a0_1)).setCell ⟨gb134, 2, none⟩ (.int .i64 a0_2)).setCell ⟨gb134, 3, none⟩ (.bool true)).setCell ⟨gb134, 4, none⟩ (.bool true))) ?hg ?ho ?hn ?hr ?_; (case ho => rfl); (case hg => rfl); (case hn => rfl); (case hr => first | (go_simp; done) | (go_simp; rfl)); intro w38 hw; have n0_ : Aside0 (w38.heap[gb133]? = some (.cells #[.int .i64 a0_0, .int .i64 a0_1, .int .i64 a0_2, .bool true, .bool true] 72 (0, 0))) := ⟨(by rw [hw]; exact (uf_ BK133.out))⟩; have n1_ : Aside0 (w38.heap[gb134]? = some (.cells #[.int .i64 a0_0, .int .i64 a0_1, .int .i64 a0_2, .bool true, .bool true] 72 (0, 0))) := ⟨(by rw [hw]; exact (by (with_reducible repeat first|apply bn_|apply bd_|apply ba_); refine blk_put (cs := #[.int .i64 a0_0, .int .i64 a0_1, .int .i64 a0_2, .bool true, .bool false]) ?_ 4 _ rfl; refine blk_put (cs := #[.int .i64 a0_0, .int .i64 a0_1, .int .i64 a0_2, .bool false, .bool false]) ?_ 3 _ rfl; refine blk_put (cs := #[.int .i64 a0_0, .int .i64 a0_1, .int .i64 0, .bool false, .bool false]) ?_ 2 _ rfl; refine blk_put (cs := #[.int .i64 a0_0, .int .i64 0, .int .i64 0, .bool false, .bool false]) ?_ 1 _ rfl; refine blk_put (cs := #[.int .i64 0, .int .i64 0, .int .i64 0, .bool false, .bool false]) ?_ 0 _ rfl; (with_reducible repeat first|apply bn_|apply bd_|apply ba_); exact BK134.out))⟩; have n2_ : Aside0 (w38.heap[gb138]? = some (.cells #[.int .i64 a0_0, .int .i64 a0_1, .int .i64 a0_2, .bool true, .bool true] 72 (0, 0))) := ⟨(by rw [hw]; exact (uf_ BK138.out))⟩; have n3_ : Aside0 (Below w.heap.size w w38) := ⟨(by rw [hw]; exact (ue_ HB.out))⟩; clear hw BK133 BK134 BK138 HB; have BK133 := n0_; have BK134 := n1_; have BK138 := n2_; have HB := n3_; clear n0_ n1_ n2_ n3_))
      refine bodyPost_ret (results_ct rfl _ _ gb134 72 #[.int .i64 a0_0, .int .i64 a0_1, .int .i64 a0_2, .bool true, .bool true] (0, 0) _ rfl (ub_ BK134.out) Try.underlying72 rfl (by kernel_rfl)) rfl ?_
      exact ⟨ew_, ue_ HB.out⟩
     ·
      replace c27 := Bool.eq_false_iff.mpr c27
      subst c27
      have H1 : ((spec_DueAt.f kj3 a0_2 a1 a2).bind fun t139 => (if t139 = true then (some (a0_0, a0_1, a0_2, true, true, true)) else (some (a0_0, a0_1, a0_2, false, true, false)))) = some (r1, r2, r3, r4, r5, r6) := by rw [if_neg (show ¬ (false = true) by decide)] at H; exact H
      clear H
      have H := H1
      clear H1
      replace H := Option.bind_eq_some_iff.mp H
      obtain ⟨t139, A390, H⟩ := H
      replace H : (if t139 = true then (some (a0_0, a0_1, a0_2, true, true, true)) else (some (a0_0, a0_1, a0_2, false, true, false))) = some (r1, r2, r3, r4, r5, r6) := H
      have A39 := Aside0.mk A390
      clear A390
      by_cases c40 : t139 = true
      ·
       subst c40
       have H1 : (some (a0_0, a0_1, a0_2, true, true, true)) = some (r1, r2, r3, r4, r5, r6) := by rw [if_pos rfl] at H; exact H
       clear H
       have H := H1
       clear H1
       simp only [Option.some.injEq, Prod.mk.injEq] at H
       obtain ⟨rfl, rfl, rfl, rfl, rfl, rfl⟩ := H
       have hnb41 := NB133_134.out
       have hnc41 := NB134_133.out
       have hcz42_0 := cb_ BK133.out 0 rfl
       have hcz42_1 := cb_ BK133.out 1 rfl
       have hcz42_2 := cb_ BK133.out 2 rfl
       have hcz42_3 := cb_ BK133.out 3 rfl
       have hcz42_4 := cb_ BK133.out 4 rfl
       have hfz42_0 := blk_frozen BK133.out 0
       have hfz42_1 := blk_frozen BK133.out 1
       have hfz42_2 := blk_frozen BK133.out 2
       have hfz42_3 := blk_frozen BK133.out 3
       have hfz42_4 := blk_frozen BK133.out 4
       go_wp2_with (first | ((with_reducible refine gate_dst (N := 8) rfl ?_); refine box_event ?hg (N := 8) ?hd (cs := #[.int .i64 0, .int .i64 0, .int .i64 0, .bool false, .bool false]) (t := 72) ?hr ?_; (case hd => rfl); (case hg => rfl); (case hr => first | (go_simp; done) | (go_simp; rfl)); intro gb138 hg w43 hbox hb; have n0_ := am_ (bb_ BK133.out hb); have n1_ := am_ (bb_ BK134.out hb); have n2_ := am_ (below_step (ue_ HB.out) hb); have n3_ := am_ (hbox); have n4_ := am_ ((by rw [hg]; exact (below_size (ue_ HB.out)) : w.heap.size ≤ gb138)); have n5_ := am_ ((by rw [hg]; exact (below_size (ue_ HB.out)) : w.heap.size ≤ gb138)); have n6_ := am_ ((by rw [hg]; exact Nat.ne_of_lt (bl_ BK133.out) : gb133 ≠ gb138)); have n7_ := am_ ((by rw [hg]; exact Nat.ne_of_gt (bl_ BK133.out) : gb138 ≠ gb133)); have n8_ := am_ ((by rw [hg]; exact Nat.ne_of_lt (bl_ BK134.out) : gb134 ≠ gb138)); have n9_ := am_ ((by rw [hg]; exact Nat.ne_of_gt (bl_ BK134.out) : gb138 ≠ gb134)); clear BK133 BK134 HB; have BK133 := n0_; have BK134 := n1_; have HB := n2_; have BK138 := n3_; have GW138 := n4_; have GE138 := n5_; have NB133_138 := n6_; have NB138_133 := n7_; have NB134_138 := n8_; have NB138_134 := n9_; clear n0_ n1_ n2_ n3_ n4_ n5_ n6_ n7_ n8_ n9_; clear hb hbox hg; have hnb44 := NB138_133.out; have hnc44 := NB133_138.out; have hnb45 := NB138_134.out; have hnc45 := NB134_138.out; obtain ⟨hcz46_0, hcz46_1, hcz46_2, hcz46_3, hcz46_4⟩ := cb5_ BK138.out; obtain ⟨hfz46_0, hfz46_1, hfz46_2, hfz46_3⟩ := bf4_ BK138.out; have hfz46_4 := blk_frozen BK138.out 4) | ((with_reducible refine gate_store (t := 72) (p := 8) rfl ?_); refine store_event (t := 72) (p := 8) (v := ?vo_w47) (w1 := (((((w43.setCell ⟨gb138, 0, none⟩ (.int .i64 a0_0)).setCell ⟨gb138, 1, none⟩ (.int .i64 a0_1)).setCell ⟨gb138, 2, none⟩ (.int .i64 a0_2)).setCell ⟨gb138, 3, none⟩ (.bool false)).setCell ⟨gb138, 4, none⟩ (.bool true))) ?hg ?ho ?hn ?hr ?_; (case ho => rfl); (case hg => rfl); (case hn => rfl); (case hr => first | (go_simp; done) | (go_simp; rfl)); intro w47 hw; have n0_ : Aside0 (w47.heap[gb133]? = some (.cells #[.int .i64 a0_0, .int .i64 a0_1, .int .i64 a0_2, .bool false, .bool true] 72 (0, 0))) := ⟨(by rw [hw]; exact (uf_ BK133.out))⟩; have n1_ : Aside0 (w47.heap[gb134]? = some (.cells #[.int .i64 0, .int .i64 0, .int .i64 0, .bool false, .bool false] 72 (0, 0))) := ⟨(by rw [hw]; exact (uf_ BK134.out))⟩; have n2_ : Aside0 (w47.heap[gb138]? = some (.cells #[.int .i64 a0_0, .int .i64 a0_1, .int .i64 a0_2, .bool false, .bool true] 72 (0, 0))) := ⟨(by rw [hw]; exact (by (with_reducible repeat first|apply bn_|apply bd_|apply ba_); refine blk_put (cs := #[.int .i64 a0_0, .int .i64 a0_1, .int .i64 a0_2, .bool false, .bool false]) ?_ 4 _ rfl; refine blk_put (cs := #[.int .i64 a0_0, .int .i64 a0_1, .int .i64 a0_2, .bool false, .bool false]) ?_ 3 _ rfl; refine blk_put (cs := #[.int .i64 a0_0, .int .i64 a0_1, .int .i64 0, .bool false, .bool false]) ?_ 2 _ rfl; refine blk_put (cs := #[.int .i64 a0_0, .int .i64 0, .int .i64 0, .bool false, .bool false]) ?_ 1 _ rfl; refine blk_put (cs := #[.int .i64 0, .int .i64 0, .int .i64 0, .bool false, .bool false]) ?_ 0 _ rfl; (with_reducible repeat first|apply bn_|apply bd_|apply ba_); exact BK138.out))⟩; have n3_ : Aside0 (Below w.heap.size w w47) := ⟨(by rw [hw]; exact (ue_ HB.out))⟩; clear hw BK133 BK134 BK138 HB; have BK133 := n0_; have BK134 := n1_; have BK138 := n2_; have HB := n3_; clear n0_ n1_ n2_ n3_; obtain ⟨hcz48_0, hcz48_1, hcz48_2, hcz48_3, hcz48_4⟩ := cb5_ BK133.out; obtain ⟨hfz48_0, hfz48_1, hfz48_2, hfz48_3⟩ := bf4_ BK133.out; have hfz48_4 := blk_frozen BK133.out 4) | (go_at_call 176; (with_reducible refine (spec_DueAt.calls kj3 a0_2 a1 a2 true _ A39.out).mono ?_); rintro e w' ⟨rfl, ⟨nd, rfl⟩⟩; (try (rw [drewN_self w47]; generalize hq_ : World.drewN w47 _ = w47; have n0_ : Aside0 (w47.heap[gb133]? = some (.cells #[.int .i64 a0_0, .int .i64 a0_1, .int .i64 a0_2, .bool false, .bool true] 72 (0, 0))) := ⟨by rw [← hq_]; exact (ub_ BK133.out)⟩; have n1_ : Aside0 (w47.heap[gb134]? = some (.cells #[.int .i64 0, .int .i64 0, .int .i64 0, .bool false, .bool false] 72 (0, 0))) := ⟨by rw [← hq_]; exact (ub_ BK134.out)⟩; have n2_ : Aside0 (w47.heap[gb138]? = some (.cells #[.int .i64 a0_0, .int .i64 a0_1, .int .i64 a0_2, .bool false, .bool true] 72 (0, 0))) := ⟨by rw [← hq_]; exact (ub_ BK138.out)⟩; have n3_ : Aside0 (Below w.heap.size w w47) := ⟨by rw [← hq_]; exact (ue_ HB.out)⟩; clear BK133 BK134 BK138 HB hq_; have BK133 := n0_; have BK134 := n1_; have BK138 := n2_; have HB := n3_; clear n0_ n1_ n2_ n3_)); obtain ⟨hcz49_0, hcz49_1, hcz49_2, hcz49_3, hcz49_4⟩ := cb5_ BK138.out; obtain ⟨hfz49_0, hfz49_1, hfz49_2, hfz49_3⟩ := bf4_ BK138.out; have hfz49_4 := blk_frozen BK138.out 4) | ((with_reducible refine gate_store (t := 4) (p := 38) rfl ?_); refine store_event (t := 4) (p := 38) (v := ?vo_w50) (w1 := (w47.setCell ⟨gb138, 3, none⟩ (.bool true))) ?hg ?ho ?hn ?hr ?_; (case ho => rfl); (case hg => rfl); (case hn => rfl); (case hr => first | (go_simp; done) | (go_simp; rfl)); intro w50 hw; have n0_ : Aside0 (w50.heap[gb133]? = some (.cells #[.int .i64 a0_0, .int .i64 a0_1, .int .i64 a0_2, .bool false, .bool true] 72 (0, 0))) := ⟨(by rw [hw]; exact (uf_ BK133.out))⟩; have n1_ : Aside0 (w50.heap[gb134]? = some (.cells #[.int .i64 0, .int .i64 0, .int .i64 0, .bool false, .bool false] 72 (0, 0))) := ⟨(by rw [hw]; exact (uf_ BK134.out))⟩; have n2_ : Aside0 (w50.heap[gb138]? = some (.cells #[.int .i64 a0_0, .int .i64 a0_1, .int .i64 a0_2, .bool true, .bool true] 72 (0, 0))) := ⟨(by rw [hw]; exact (by (with_reducible repeat first|apply bn_|apply bd_|apply ba_); refine blk_put (cs := #[.int .i64 a0_0, .int .i64 a0_1, .int .i64 a0_2, .bool false, .bool true]) ?_ 3 _ rfl; (with_reducible repeat first|apply bn_|apply bd_|apply ba_); exact BK138.out))⟩; have n3_ : Aside0 (Below w.heap.size w w50) := ⟨(by rw [hw]; exact (ue_ HB.out))⟩; clear hw BK133 BK134 BK138 HB; have BK133 := n0_; have BK134 := n1_; have BK138 := n2_; have HB := n3_; clear n0_ n1_ n2_ n3_; obtain ⟨hcz51_0, hcz51_1, hcz51_2, hcz51_3, hcz51_4⟩ := cb5_ BK138.out; obtain ⟨hfz51_0, hfz51_1, hfz51_2, hfz51_3, hfz51_4⟩ := bf5_ BK138.out; obtain ⟨hcz52_0, hcz52_1, hcz52_2, hcz52_3, hcz52_4⟩ := cb5_ BK134.out; obtain ⟨hfz52_0, hfz52_1, hfz52_2, hfz52_3⟩ := bf4_ BK134.out; have hfz52_4 := blk_frozen BK134.out 4) | ((with_reducible refine gate_store (t := 72) (p := 6) rfl ?_); refine store_event (t := 72) (p := 6) (v := ?vo_w53) (w1 := (((((w50.setCell ⟨gb134, 0, none⟩ (.int .i64 a0_0)).setCell ⟨gb134, 1, none⟩ (.int .i64 a0_1)).setCell ⟨gb134, 2, none⟩ (.int .i64 a0_2)).setCell ⟨gb134, 3, none⟩ (.bool true)).setCell ⟨gb134, 4, none⟩ (.bool true))) ?hg ?ho ?hn ?hr ?_; (case ho => rfl); (case hg => rfl); (case hn => rfl); (case hr => first | (go_simp; done) | (go_simp; rfl)); intro w53 hw; have n0_ : Aside0 (w53.heap[gb133]? = some (.cells #[.int .i64 a0_0, .int .i64 a0_1, .int .i64 a0_2, .bool false, .bool true] 72 (0, 0))) := ⟨(by rw [hw]; exact (uf_ BK133.out))⟩; have n1_ : Aside0 (w53.heap[gb134]? = some (.cells #[.int .i64 a0_0, .int .i64 a0_1, .int .i64 a0_2, .bool true, .bool true] 72 (0, 0))) := ⟨(by rw [hw]; exact (by (with_reducible repeat first|apply bn_|apply bd_|apply ba_); refine blk_put (cs := #[.int .i64 a0_0, .int .i64 a0_1, .int .i64 a0_2, .bool true, .bool false]) ?_ 4 _ rfl; refine blk_put (cs := #[.int .i64 a0_0, .int .i64 a0_1, .int .i64 a0_2, .bool false, .bool false]) ?_ 3 _ rfl; refine blk_put (cs := #[.int .i64 a0_0, .int .i64 a0_1, .int .i64 0, .bool false, .bool false]) ?_ 2 _ rfl; refine blk_put (cs := #[.int .i64 a0_0, .int .i64 0, .int .i64 0, .bool false, .bool false]) ?_ 1 _ rfl; refine blk_put (cs := #[.int .i64 0, .int .i64 0, .int .i64 0, .bool false, .bool false]) ?_ 0 _ rfl; (with_reducible repeat first|apply bn_|apply bd_|apply ba_); exact BK134.out))⟩; have n2_ : Aside0 (w53.heap[gb138]? = some (.cells #[.int .i64 a0_0, .int .i64 a0_1, .int .i64 a0_2, .bool true, .bool true] 72 (0, 0))) := ⟨(by rw [hw]; exact (uf_ BK138.out))⟩; have n3_ : Aside0 (Below w.heap.size w w53) := ⟨(by rw [hw]; exact (ue_ HB.out))⟩; clear hw BK133 BK134 BK138 HB; have BK133 := n0_; have BK134 := n1_; have BK138 := n2_; have HB := n3_; clear n0_ n1_ n2_ n3_))
       refine bodyPost_ret (results_ct rfl _ _ gb134 72 #[.int .i64 a0_0, .int .i64 a0_1, .int .i64 a0_2, .bool true, .bool true] (0, 0) _ rfl (ub_ BK134.out) Try.underlying72 rfl (by kernel_rfl)) rfl ?_
       exact ⟨ew_, ue_ HB.out⟩
      ·
       replace c40 := Bool.eq_false_iff.mpr c40
       subst c40
       have H1 : (some (a0_0, a0_1, a0_2, false, true, false)) = some (r1, r2, r3, r4, r5, r6) := by rw [if_neg (show ¬ (false = true) by decide)] at H; exact H
       clear H
       have H := H1
       clear H1
       simp only [Option.some.injEq, Prod.mk.injEq] at H
       obtain ⟨rfl, rfl, rfl, rfl, rfl, rfl⟩ := H
       have hnb54 := NB133_134.out
       have hnc54 := NB134_133.out
       have hcz55_0 := cb_ BK133.out 0 rfl
       have hcz55_1 := cb_ BK133.out 1 rfl
       have hcz55_2 := cb_ BK133.out 2 rfl
       have hcz55_3 := cb_ BK133.out 3 rfl
       have hcz55_4 := cb_ BK133.out 4 rfl
       have hfz55_0 := blk_frozen BK133.out 0
       have hfz55_1 := blk_frozen BK133.out 1
       have hfz55_2 := blk_frozen BK133.out 2
       have hfz55_3 := blk_frozen BK133.out 3
       have hfz55_4 := blk_frozen BK133.out 4
       go_wp2_with (first | ((with_reducible refine gate_dst (N := 8) rfl ?_); refine box_event ?hg (N := 8) ?hd (cs := #[.int .i64 0, .int .i64 0, .int .i64 0, .bool false, .bool false]) (t := 72) ?hr ?_; (case hd => rfl); (case hg => rfl); (case hr => first | (go_simp; done) | (go_simp; rfl)); intro gb138 hg w56 hbox hb; have n0_ := am_ (bb_ BK133.out hb); have n1_ := am_ (bb_ BK134.out hb); have n2_ := am_ (below_step (ue_ HB.out) hb); have n3_ := am_ (hbox); have n4_ := am_ ((by rw [hg]; exact (below_size (ue_ HB.out)) : w.heap.size ≤ gb138)); have n5_ := am_ ((by rw [hg]; exact (below_size (ue_ HB.out)) : w.heap.size ≤ gb138)); have n6_ := am_ ((by rw [hg]; exact Nat.ne_of_lt (bl_ BK133.out) : gb133 ≠ gb138)); have n7_ := am_ ((by rw [hg]; exact Nat.ne_of_gt (bl_ BK133.out) : gb138 ≠ gb133)); have n8_ := am_ ((by rw [hg]; exact Nat.ne_of_lt (bl_ BK134.out) : gb134 ≠ gb138)); have n9_ := am_ ((by rw [hg]; exact Nat.ne_of_gt (bl_ BK134.out) : gb138 ≠ gb134)); clear BK133 BK134 HB; have BK133 := n0_; have BK134 := n1_; have HB := n2_; have BK138 := n3_; have GW138 := n4_; have GE138 := n5_; have NB133_138 := n6_; have NB138_133 := n7_; have NB134_138 := n8_; have NB138_134 := n9_; clear n0_ n1_ n2_ n3_ n4_ n5_ n6_ n7_ n8_ n9_; clear hb hbox hg; have hnb57 := NB138_133.out; have hnc57 := NB133_138.out; have hnb58 := NB138_134.out; have hnc58 := NB134_138.out; obtain ⟨hcz59_0, hcz59_1, hcz59_2, hcz59_3, hcz59_4⟩ := cb5_ BK138.out; obtain ⟨hfz59_0, hfz59_1, hfz59_2, hfz59_3⟩ := bf4_ BK138.out; have hfz59_4 := blk_frozen BK138.out 4) | ((with_reducible refine gate_store (t := 72) (p := 8) rfl ?_); refine store_event (t := 72) (p := 8) (v := ?vo_w60) (w1 := (((((w56.setCell ⟨gb138, 0, none⟩ (.int .i64 a0_0)).setCell ⟨gb138, 1, none⟩ (.int .i64 a0_1)).setCell ⟨gb138, 2, none⟩ (.int .i64 a0_2)).setCell ⟨gb138, 3, none⟩ (.bool false)).setCell ⟨gb138, 4, none⟩ (.bool true))) ?hg ?ho ?hn ?hr ?_; (case ho => rfl); (case hg => rfl); (case hn => rfl); (case hr => first | (go_simp; done) | (go_simp; rfl)); intro w60 hw; have n0_ : Aside0 (w60.heap[gb133]? = some (.cells #[.int .i64 a0_0, .int .i64 a0_1, .int .i64 a0_2, .bool false, .bool true] 72 (0, 0))) := ⟨(by rw [hw]; exact (uf_ BK133.out))⟩; have n1_ : Aside0 (w60.heap[gb134]? = some (.cells #[.int .i64 0, .int .i64 0, .int .i64 0, .bool false, .bool false] 72 (0, 0))) := ⟨(by rw [hw]; exact (uf_ BK134.out))⟩; have n2_ : Aside0 (w60.heap[gb138]? = some (.cells #[.int .i64 a0_0, .int .i64 a0_1, .int .i64 a0_2, .bool false, .bool true] 72 (0, 0))) := ⟨(by rw [hw]; exact (by (with_reducible repeat first|apply bn_|apply bd_|apply ba_); refine blk_put (cs := #[.int .i64 a0_0, .int .i64 a0_1, .int .i64 a0_2, .bool false, .bool false]) ?_ 4 _ rfl; refine blk_put (cs := #[.int .i64 a0_0, .int .i64 a0_1, .int .i64 a0_2, .bool false, .bool false]) ?_ 3 _ rfl; refine blk_put (cs := #[.int .i64 a0_0, .int .i64 a0_1, .int .i64 0, .bool false, .bool false]) ?_ 2 _ rfl; refine blk_put (cs := #[.int .i64 a0_0, .int .i64 0, .int .i64 0, .bool false, .bool false]) ?_ 1 _ rfl; refine blk_put (cs := #[.int .i64 0, .int .i64 0, .int .i64 0, .bool false, .bool false]) ?_ 0 _ rfl; (with_reducible repeat first|apply bn_|apply bd_|apply ba_); exact BK138.out))⟩; have n3_ : Aside0 (Below w.heap.size w w60) := ⟨(by rw [hw]; exact (ue_ HB.out))⟩; clear hw BK133 BK134 BK138 HB; have BK133 := n0_; have BK134 := n1_; have BK138 := n2_; have HB := n3_; clear n0_ n1_ n2_ n3_; obtain ⟨hcz61_0, hcz61_1, hcz61_2, hcz61_3, hcz61_4⟩ := cb5_ BK133.out; obtain ⟨hfz61_0, hfz61_1, hfz61_2, hfz61_3⟩ := bf4_ BK133.out; have hfz61_4 := blk_frozen BK133.out 4) | (go_at_call 176; (with_reducible refine (spec_DueAt.calls kj3 a0_2 a1 a2 false _ A39.out).mono ?_); rintro e w' ⟨rfl, ⟨nd, rfl⟩⟩; (try (rw [drewN_self w60]; generalize hq_ : World.drewN w60 _ = w60; have n0_ : Aside0 (w60.heap[gb133]? = some (.cells #[.int .i64 a0_0, .int .i64 a0_1, .int .i64 a0_2, .bool false, .bool true] 72 (0, 0))) := ⟨by rw [← hq_]; exact (ub_ BK133.out)⟩; have n1_ : Aside0 (w60.heap[gb134]? = some (.cells #[.int .i64 0, .int .i64 0, .int .i64 0, .bool false, .bool false] 72 (0, 0))) := ⟨by rw [← hq_]; exact (ub_ BK134.out)⟩; have n2_ : Aside0 (w60.heap[gb138]? = some (.cells #[.int .i64 a0_0, .int .i64 a0_1, .int .i64 a0_2, .bool false, .bool true] 72 (0, 0))) := ⟨by rw [← hq_]; exact (ub_ BK138.out)⟩; have n3_ : Aside0 (Below w.heap.size w w60) := ⟨by rw [← hq_]; exact (ue_ HB.out)⟩; clear BK133 BK134 BK138 HB hq_; have BK133 := n0_; have BK134 := n1_; have BK138 := n2_; have HB := n3_; clear n0_ n1_ n2_ n3_)); obtain ⟨hcz62_0, hcz62_1, hcz62_2, hcz62_3, hcz62_4⟩ := cb5_ BK138.out; obtain ⟨hfz62_0, hfz62_1, hfz62_2, hfz62_3, hfz62_4⟩ := bf5_ BK138.out; obtain ⟨hcz63_0, hcz63_1, hcz63_2, hcz63_3, hcz63_4⟩ := cb5_ BK134.out; obtain ⟨hfz63_0, hfz63_1, hfz63_2, hfz63_3⟩ := bf4_ BK134.out; have hfz63_4 := blk_frozen BK134.out 4) | ((with_reducible refine gate_store (t := 72) (p := 6) rfl ?_); refine store_event (t := 72) (p := 6) (v := ?vo_w64) (w1 := (((((w60.setCell ⟨gb134, 0, none⟩ (.int .i64 a0_0)).setCell ⟨gb134, 1, none⟩ (.int .i64 a0_1)).setCell ⟨gb134, 2, none⟩ (.int .i64 a0_2)).setCell ⟨gb134, 3, none⟩ (.bool false)).setCell ⟨gb134, 4, none⟩ (.bool true))) ?hg ?ho ?hn ?hr ?_; (case ho => rfl); (case hg => rfl); (case hn => rfl); (case hr => first | (go_simp; done) | (go_simp; rfl)); intro w64 hw; have n0_ : Aside0 (w64.heap[gb133]? = some (.cells #[.int .i64 a0_0, .int .i64 a0_1, .int .i64 a0_2, .bool false, .bool true] 72 (0, 0))) := ⟨(by rw [hw]; exact (uf_ BK133.out))⟩; have n1_ : Aside0 (w64.heap[gb134]? = some (.cells #[.int .i64 a0_0, .int .i64 a0_1, .int .i64 a0_2, .bool false, .bool true] 72 (0, 0))) := ⟨(by rw [hw]; exact (by (with_reducible repeat first|apply bn_|apply bd_|apply ba_); refine blk_put (cs := #[.int .i64 a0_0, .int .i64 a0_1, .int .i64 a0_2, .bool false, .bool false]) ?_ 4 _ rfl; refine blk_put (cs := #[.int .i64 a0_0, .int .i64 a0_1, .int .i64 a0_2, .bool false, .bool false]) ?_ 3 _ rfl; refine blk_put (cs := #[.int .i64 a0_0, .int .i64 a0_1, .int .i64 0, .bool false, .bool false]) ?_ 2 _ rfl; refine blk_put (cs := #[.int .i64 a0_0, .int .i64 0, .int .i64 0, .bool false, .bool false]) ?_ 1 _ rfl; refine blk_put (cs := #[.int .i64 0, .int .i64 0, .int .i64 0, .bool false, .bool false]) ?_ 0 _ rfl; (with_reducible repeat first|apply bn_|apply bd_|apply ba_); exact BK134.out))⟩; have n2_ : Aside0 (w64.heap[gb138]? = some (.cells #[.int .i64 a0_0, .int .i64 a0_1, .int .i64 a0_2, .bool false, .bool true] 72 (0, 0))) := ⟨(by rw [hw]; exact (uf_ BK138.out))⟩; have n3_ : Aside0 (Below w.heap.size w w64) := ⟨(by rw [hw]; exact (ue_ HB.out))⟩; clear hw BK133 BK134 BK138 HB; have BK133 := n0_; have BK134 := n1_; have BK138 := n2_; have HB := n3_; clear n0_ n1_ n2_ n3_))
       refine bodyPost_ret (results_ct rfl _ _ gb134 72 #[.int .i64 a0_0, .int .i64 a0_1, .int .i64 a0_2, .bool false, .bool true] (0, 0) _ rfl (ub_ BK134.out) Try.underlying72 rfl (by kernel_rfl)) rfl ?_
       exact ⟨ew_, ue_ HB.out⟩
    ·
     replace c26 := Bool.eq_false_iff.mpr c26
     subst c26
     have H1 : (some (a0_0, a0_1, a0_2, a0_3, false, false)) = some (r1, r2, r3, r4, r5, r6) := by rw [if_neg (show ¬ (false = true) by decide)] at H; exact H
     clear H
     have H := H1
     clear H1
     simp only [Option.some.injEq, Prod.mk.injEq] at H
     obtain ⟨rfl, rfl, rfl, rfl, rfl, rfl⟩ := H
     have hnb65 := NB133_134.out
     have hnc65 := NB134_133.out
     have hcz66_0 := cb_ BK133.out 0 rfl
     have hcz66_1 := cb_ BK133.out 1 rfl
     have hcz66_2 := cb_ BK133.out 2 rfl
     have hcz66_3 := cb_ BK133.out 3 rfl
     have hcz66_4 := cb_ BK133.out 4 rfl
     have hfz66_0 := blk_frozen BK133.out 0
     have hfz66_1 := blk_frozen BK133.out 1
     have hfz66_2 := blk_frozen BK133.out 2
     have hfz66_3 := blk_frozen BK133.out 3
     have hfz66_4 := blk_frozen BK133.out 4
     go_wp2_with (first | ((with_reducible refine gate_dst (N := 8) rfl ?_); refine box_event ?hg (N := 8) ?hd (cs := #[.int .i64 0, .int .i64 0, .int .i64 0, .bool false, .bool false]) (t := 72) ?hr ?_; (case hd => rfl); (case hg => rfl); (case hr => first | (go_simp; done) | (go_simp; rfl)); intro gb138 hg w67 hbox hb; have n0_ := am_ (bb_ BK133.out hb); have n1_ := am_ (bb_ BK134.out hb); have n2_ := am_ (below_step (ue_ HB.out) hb); have n3_ := am_ (hbox); have n4_ := am_ ((by rw [hg]; exact (below_size (ue_ HB.out)) : w.heap.size ≤ gb138)); have n5_ := am_ ((by rw [hg]; exact (below_size (ue_ HB.out)) : w.heap.size ≤ gb138)); have n6_ := am_ ((by rw [hg]; exact Nat.ne_of_lt (bl_ BK133.out) : gb133 ≠ gb138)); have n7_ := am_ ((by rw [hg]; exact Nat.ne_of_gt (bl_ BK133.out) : gb138 ≠ gb133)); have n8_ := am_ ((by rw [hg]; exact Nat.ne_of_lt (bl_ BK134.out) : gb134 ≠ gb138)); have n9_ := am_ ((by rw [hg]; exact Nat.ne_of_gt (bl_ BK134.out) : gb138 ≠ gb134)); clear BK133 BK134 HB; have BK133 := n0_; have BK134 := n1_; have HB := n2_; have BK138 := n3_; have GW138 := n4_; have GE138 := n5_; have NB133_138 := n6_; have NB138_133 := n7_; have NB134_138 := n8_; have NB138_134 := n9_; clear n0_ n1_ n2_ n3_ n4_ n5_ n6_ n7_ n8_ n9_; clear hb hbox hg; have hnb68 := NB138_133.out; have hnc68 := NB133_138.out; have hnb69 := NB138_134.out; have hnc69 := NB134_138.out; obtain ⟨hcz70_0, hcz70_1, hcz70_2, hcz70_3, hcz70_4⟩ := cb5_ BK138.out; obtain ⟨hfz70_0, hfz70_1, hfz70_2, hfz70_3⟩ := bf4_ BK138.out; have hfz70_4 := blk_frozen BK138.out 4) | ((with_reducible refine gate_store (t := 72) (p := 8) rfl ?_); refine store_event (t := 72) (p := 8) (v := ?vo_w71) (w1 := (((((w67.setCell ⟨gb138, 0, none⟩ (.int .i64 a0_0)).setCell ⟨gb138, 1, none⟩ (.int .i64 a0_1)).setCell ⟨gb138, 2, none⟩ (.int .i64 a0_2)).setCell ⟨gb138, 3, none⟩ (.bool a0_3)).setCell ⟨gb138, 4, none⟩ (.bool false))) ?hg ?ho ?hn ?hr ?_; (case ho => rfl); (case hg => rfl); (case hn => rfl); (case hr => first | (go_simp; done) | (go_simp; rfl)); intro w71 hw; have n0_ : Aside0 (w71.heap[gb133]? = some (.cells #[.int .i64 a0_0, .int .i64 a0_1, .int .i64 a0_2, .bool a0_3, .bool false] 72 (0, 0))) := ⟨(by rw [hw]; exact (uf_ BK133.out))⟩; have n1_ : Aside0 (w71.heap[gb134]? = some (.cells #[.int .i64 0, .int .i64 0, .int .i64 0, .bool false, .bool false] 72 (0, 0))) := ⟨(by rw [hw]; exact (uf_ BK134.out))⟩; have n2_ : Aside0 (w71.heap[gb138]? = some (.cells #[.int .i64 a0_0, .int .i64 a0_1, .int .i64 a0_2, .bool a0_3, .bool false] 72 (0, 0))) := ⟨(by rw [hw]; exact (by (with_reducible repeat first|apply bn_|apply bd_|apply ba_); refine blk_put (cs := #[.int .i64 a0_0, .int .i64 a0_1, .int .i64 a0_2, .bool a0_3, .bool false]) ?_ 4 _ rfl; refine blk_put (cs := #[.int .i64 a0_0, .int .i64 a0_1, .int .i64 a0_2, .bool false, .bool false]) ?_ 3 _ rfl; refine blk_put (cs := #[.int .i64 a0_0, .int .i64 a0_1, .int .i64 0, .bool false, .bool false]) ?_ 2 _ rfl; refine blk_put (cs := #[.int .i64 a0_0, .int .i64 0, .int .i64 0, .bool false, .bool false]) ?_ 1 _ rfl; refine blk_put (cs := #[.int .i64 0, .int .i64 0, .int .i64 0, .bool false, .bool false]) ?_ 0 _ rfl; (with_reducible repeat first|apply bn_|apply bd_|apply ba_); exact BK138.out))⟩; have n3_ : Aside0 (Below w.heap.size w w71) := ⟨(by rw [hw]; exact (ue_ HB.out))⟩; clear hw BK133 BK134 BK138 HB; have BK133 := n0_; have BK134 := n1_; have BK138 := n2_; have HB := n3_; clear n0_ n1_ n2_ n3_; obtain ⟨hcz72_0, hcz72_1, hcz72_2, hcz72_3, hcz72_4⟩ := cb5_ BK133.out; obtain ⟨hfz72_0, hfz72_1, hfz72_2, hfz72_3, hfz72_4⟩ := bf5_ BK133.out; obtain ⟨hcz73_0, hcz73_1, hcz73_2, hcz73_3, hcz73_4⟩ := cb5_ BK138.out; obtain ⟨hfz73_0, hfz73_1, hfz73_2, hfz73_3, hfz73_4⟩ := bf5_ BK138.out; obtain ⟨hcz74_0, hcz74_1, hcz74_2, hcz74_3, hcz74_4⟩ := cb5_ BK134.out; obtain ⟨hfz74_0, hfz74_1, hfz74_2, hfz74_3⟩ := bf4_ BK134.out; have hfz74_4 := blk_frozen BK134.out 4) | ((with_reducible refine gate_store (t := 72) (p := 6) rfl ?_); refine store_event (t := 72) (p := 6) (v := ?vo_w75) (w1 := (((((w71.setCell ⟨gb134, 0, none⟩ (.int .i64 a0_0)).setCell ⟨gb134, 1, none⟩ (.int .i64 a0_1)).setCell ⟨gb134, 2, none⟩ (.int .i64 a0_2)).setCell ⟨gb134, 3, none⟩ (.bool a0_3)).setCell ⟨gb134, 4, none⟩ (.bool false))) ?hg ?ho ?hn ?hr ?_; (case ho => rfl); (case hg => rfl); (case hn => rfl); (case hr => first | (go_simp; done) | (go_simp; rfl)); intro w75 hw; have n0_ : Aside0 (w75.heap[gb133]? = some (.cells #[.int .i64 a0_0, .int .i64 a0_1, .int .i64 a0_2, .bool a0_3, .bool false] 72 (0, 0))) := ⟨(by rw [hw]; exact (uf_ BK133.out))⟩; have n1_ : Aside0 (w75.heap[gb134]? = some (.cells #[.int .i64 a0_0, .int .i64 a0_1, .int .i64 a0_2, .bool a0_3, .bool false] 72 (0, 0))) := ⟨(by rw [hw]; exact (by (with_reducible repeat first|apply bn_|apply bd_|apply ba_); refine blk_put (cs := #[.int .i64 a0_0, .int .i64 a0_1, .int .i64 a0_2, .bool a0_3, .bool false]) ?_ 4 _ rfl; refine blk_put (cs := #[.int .i64 a0_0, .int .i64 a0_1, .int .i64 a0_2, .bool false, .bool false]) ?_ 3 _ rfl; refine blk_put (cs := #[.int .i64 a0_0, .int .i64 a0_1, .int .i64 0, .bool false, .bool false]) ?_ 2 _ rfl; refine blk_put (cs := #[.int .i64 a0_0, .int .i64 0, .int .i64 0, .bool false, .bool false]) ?_ 1 _ rfl; refine blk_put (cs := #[.int .i64 0, .int .i64 0, .int .i64 0, .bool false, .bool false]) ?_ 0 _ rfl; (with_reducible repeat first|apply bn_|apply bd_|apply ba_); exact BK134.out))⟩; have n2_ : Aside0 (w75.heap[gb138]? = some (.cells #[.int .i64 a0_0, .int .i64 a0_1, .int .i64 a0_2, .bool a0_3, .bool false] 72 (0, 0))) := ⟨(by rw [hw]; exact (uf_ BK138.out))⟩; have n3_ : Aside0 (Below w.heap.size w w75) := ⟨(by rw [hw]; exact (ue_ HB.out))⟩; clear hw BK133 BK134 BK138 HB; have BK133 := n0_; have BK134 := n1_; have BK138 := n2_; have HB := n3_; clear n0_ n1_ n2_ n3_))
     refine bodyPost_ret (results_ct rfl _ _ gb134 72 #[.int .i64 a0_0, .int .i64 a0_1, .int .i64 a0_2, .bool a0_3, .bool false] (0, 0) _ rfl (ub_ BK134.out) Try.underlying72 rfl (by kernel_rfl)) rfl ?_
     exact ⟨ew_, ue_ HB.out⟩

/-! ### spec_CloseSource: function 134 -/
def spec_CloseSource.f (a0_0 : Int) (a0_1 : Int) (a0_2 : Int) (a0_3 : Bool) (a0_4 : Bool) : Option (Int × Int × Int × Bool × Bool × Bool) := (spec_SourceOk.f a0_0 a0_1 a0_2 a0_3 a0_4).bind fun t142 => (if t142 = true then (if a0_4 = true then (some (a0_0, a0_1, a0_2, false, false, true)) else (some (a0_0, a0_1, a0_2, a0_3, a0_4, false))) else (some (a0_0, a0_1, a0_2, a0_3, a0_4, false)))
set_option maxHeartbeats 8000000 in
set_option maxRecDepth 100000 in
theorem spec_CloseSource.calls (a0_0 : Int) (a0_1 : Int) (a0_2 : Int) (a0_3 : Bool) (a0_4 : Bool) (r1 : Int) (r2 : Int) (r3 : Int) (r4 : Bool) (r5 : Bool) (r6 : Bool) (w : World) (h : spec_CloseSource.f a0_0 a0_1 a0_2 a0_3 a0_4 = some (r1, r2, r3, r4, r5, r6)) :
  Calls Try.prog 134 #[.agg #[.int .i64 a0_0, .int .i64 a0_1, .int .i64 a0_2, .bool a0_3, .bool a0_4]] w fun e w' => e = .returned (.tuple #[.agg #[.int .i64 r1, .int .i64 r2, .int .i64 r3, .bool r4, .bool r5], .bool r6]) ∧ Below w.heap.size w w' := by
 have hu72 := Try.underlying72
 have HB := am_ (Below.refl w.heap.size w)
 have H : ((spec_SourceOk.f a0_0 a0_1 a0_2 a0_3 a0_4).bind fun t142 => (if t142 = true then (if a0_4 = true then (some (a0_0, a0_1, a0_2, false, false, true)) else (some (a0_0, a0_1, a0_2, a0_3, a0_4, false))) else (some (a0_0, a0_1, a0_2, a0_3, a0_4, false)))) = some (r1, r2, r3, r4, r5, r6) := h
 clear h
 replace H := Option.bind_eq_some_iff.mp H
 obtain ⟨t142, A20, H⟩ := H
 replace H : (if t142 = true then (if a0_4 = true then (some (a0_0, a0_1, a0_2, false, false, true)) else (some (a0_0, a0_1, a0_2, a0_3, a0_4, false))) else (some (a0_0, a0_1, a0_2, a0_3, a0_4, false))) = some (r1, r2, r3, r4, r5, r6) := H
 have A2 := Aside0.mk A20
 clear A20
 by_cases c3 : t142 = true
 ·
  subst c3
  have H1 : (if a0_4 = true then (some (a0_0, a0_1, a0_2, false, false, true)) else (some (a0_0, a0_1, a0_2, a0_3, a0_4, false))) = some (r1, r2, r3, r4, r5, r6) := by rw [if_pos rfl] at H; exact H
  clear H
  have H := H1
  clear H1
  by_cases c4 : a0_4 = true
  ·
   subst c4
   have H1 : (some (a0_0, a0_1, a0_2, false, false, true)) = some (r1, r2, r3, r4, r5, r6) := by rw [if_pos rfl] at H; exact H
   clear H
   have H := H1
   clear H1
   simp only [Option.some.injEq, Prod.mk.injEq] at H
   obtain ⟨rfl, rfl, rfl, rfl, rfl, rfl⟩ := H
   go_enter Try.func134, Try.ntmps134
   go_wp2_with (first | ((with_reducible refine gate_dst (N := 1) rfl ?_); refine box_event ?hg (N := 1) ?hd (cs := #[.int .i64 a0_0, .int .i64 a0_1, .int .i64 a0_2, .bool a0_3, .bool true]) (t := 72) ?hr ?_; (case hd => rfl); (case hg => rfl); (case hr => first | (go_simp; done) | (go_simp; rfl)); intro gb140 hg w5 hbox hb; have n0_ := am_ (below_step (ue_ HB.out) hb); have n1_ := am_ (hbox); have n2_ := am_ ((by rw [hg]; exact (below_size (ue_ HB.out)) : w.heap.size ≤ gb140)); have n3_ := am_ ((by rw [hg]; exact (below_size (ue_ HB.out)) : w.heap.size ≤ gb140)); clear HB; have HB := n0_; have BK140 := n1_; have GW140 := n2_; have GE140 := n3_; clear n0_ n1_ n2_ n3_; clear hb hbox hg) | ((with_reducible refine gate_dst (N := 2) rfl ?_); refine box_event ?hg (N := 2) ?hd (cs := #[.int .i64 0, .int .i64 0, .int .i64 0, .bool false, .bool false]) (t := 72) ?hr ?_; (case hd => rfl); (case hg => rfl); (case hr => first | (go_simp; done) | (go_simp; rfl)); intro gb141 hg w6 hbox hb; have n0_ := am_ (bb_ BK140.out hb); have n1_ := am_ (below_step (ue_ HB.out) hb); have n2_ := am_ (hbox); have n3_ := am_ ((by rw [hg]; exact (below_size (ue_ HB.out)) : w.heap.size ≤ gb141)); have n4_ := am_ ((by rw [hg]; exact (below_size (ue_ HB.out)) : w.heap.size ≤ gb141)); have n5_ := am_ ((by rw [hg]; exact Nat.ne_of_lt (bl_ BK140.out) : gb140 ≠ gb141)); have n6_ := am_ ((by rw [hg]; exact Nat.ne_of_gt (bl_ BK140.out) : gb141 ≠ gb140)); clear BK140 HB; have BK140 := n0_; have HB := n1_; have BK141 := n2_; have GW141 := n3_; have GE141 := n4_; have NB140_141 := n5_; have NB141_140 := n6_; clear n0_ n1_ n2_ n3_ n4_ n5_ n6_; clear hb hbox hg; have hnb7 := NB140_141.out; have hnc7 := NB141_140.out; obtain ⟨hcz8_0, hcz8_1, hcz8_2, hcz8_3, hcz8_4⟩ := cb5_ BK140.out; obtain ⟨hfz8_0, hfz8_1, hfz8_2, hfz8_3⟩ := bf4_ BK140.out; have hfz8_4 := blk_frozen BK140.out 4) | ((with_reducible refine gate_callee (f := 147) rfl ?_); refine goesL_ (some 6) rfl rfl Try.func147 (by kernel_rfl) rfl #[.agg #[.int .i64 a0_0, .int .i64 a0_1, .int .i64 a0_2, .bool a0_3, .bool true]] rfl ul_ ?_; (with_reducible refine (spec_SourceOk.calls a0_0 a0_1 a0_2 a0_3 true true _ A2.out).mono ?_); rintro e w9 ⟨rfl, hb⟩; refine ⟨_, rfl, ?_⟩; have n0_ := am_ (bb_ BK140.out hb); have n1_ := am_ (bb_ BK141.out hb); have n2_ := am_ (below_step (ue_ HB.out) hb); clear BK140 BK141 HB; have BK140 := n0_; have BK141 := n1_; have HB := n2_; clear n0_ n1_ n2_; (try clear hb); (try clear hb2); (try clear hk); (try clear hi); obtain ⟨hcz10_0, hcz10_1, hcz10_2, hcz10_3, hcz10_4⟩ := cb5_ BK140.out; obtain ⟨hfz10_0, hfz10_1, hfz10_2, hfz10_3⟩ := bf4_ BK140.out; have hfz10_4 := blk_frozen BK140.out 4) | ((with_reducible refine gate_dst (N := 4) rfl ?_); refine box_event ?hg (N := 4) ?hd (cs := #[.int .i64 0, .int .i64 0, .int .i64 0, .bool false, .bool false]) (t := 72) ?hr ?_; (case hd => rfl); (case hg => rfl); (case hr => first | (go_simp; done) | (go_simp; rfl)); intro gb143 hg w11 hbox hb; have n0_ := am_ (bb_ BK140.out hb); have n1_ := am_ (bb_ BK141.out hb); have n2_ := am_ (below_step (ue_ HB.out) hb); have n3_ := am_ (hbox); have n4_ := am_ ((by rw [hg]; exact (below_size (ue_ HB.out)) : w.heap.size ≤ gb143)); have n5_ := am_ ((by rw [hg]; exact (below_size (ue_ HB.out)) : w.heap.size ≤ gb143)); have n6_ := am_ ((by rw [hg]; exact Nat.ne_of_lt (bl_ BK140.out) : gb140 ≠ gb143)); have n7_ := am_ ((by rw [hg]; exact Nat.ne_of_gt (bl_ BK140.out) : gb143 ≠ gb140)); have n8_ := am_ ((by rw [hg]; exact Nat.ne_of_lt (bl_ BK141.out) : gb141 ≠ gb143)); have n9_ := am_ ((by rw [hg]; exact Nat.ne_of_gt (bl_ BK141.out) : gb143 ≠ gb141)); clear BK140 BK141 HB; have BK140 := n0_; have BK141 := n1_; have HB := n2_; have BK143 := n3_; have GW143 := n4_; have GE143 := n5_; have NB140_143 := n6_; have NB143_140 := n7_; have NB141_143 := n8_; have NB143_141 := n9_; clear n0_ n1_ n2_ n3_ n4_ n5_ n6_ n7_ n8_ n9_; clear hb hbox hg; have hnb12 := NB143_140.out; have hnc12 := NB140_143.out; have hnb13 := NB143_141.out; have hnc13 := NB141_143.out; obtain ⟨hcz14_0, hcz14_1, hcz14_2, hcz14_3, hcz14_4⟩ := cb5_ BK143.out; obtain ⟨hfz14_0, hfz14_1, hfz14_2, hfz14_3⟩ := bf4_ BK143.out; have hfz14_4 := blk_frozen BK143.out 4) | ((with_reducible refine gate_store (t := 72) (p := 4) rfl ?_); refine store_event (t := 72) (p := 4) (v := ?vo_w15) (w1 := (((((w11.setCell ⟨gb143, 0, none⟩ (.int .i64 a0_0)).setCell ⟨gb143, 1, none⟩ (.int .i64 a0_1)).setCell ⟨gb143, 2, none⟩ (.int .i64 a0_2)).setCell ⟨gb143, 3, none⟩ (.bool a0_3)).setCell ⟨gb143, 4, none⟩ (.bool true))) ?hg ?ho ?hn ?hr ?_; (case ho => rfl); (case hg => rfl); (case hn => rfl); (case hr => first | (go_simp; done) | (go_simp; rfl)); intro w15 hw; have n0_ : Aside0 (w15.heap[gb140]? = some (.cells #[.int .i64 a0_0, .int .i64 a0_1, .int .i64 a0_2, .bool a0_3, .bool true] 72 (0, 0))) := ⟨(by rw [hw]; exact (uf_ BK140.out))⟩; have n1_ : Aside0 (w15.heap[gb141]? = some (.cells #[.int .i64 0, .int .i64 0, .int .i64 0, .bool false, .bool false] 72 (0, 0))) := ⟨(by rw [hw]; exact (uf_ BK141.out))⟩; have n2_ : Aside0 (w15.heap[gb143]? = some (.cells #[.int .i64 a0_0, .int .i64 a0_1, .int .i64 a0_2, .bool a0_3, .bool true] 72 (0, 0))) := ⟨(by rw [hw]; exact (by (with_reducible repeat first|apply bn_|apply bd_|apply ba_); refine blk_put (cs := #[.int .i64 a0_0, .int .i64 a0_1, .int .i64 a0_2, .bool a0_3, .bool false]) ?_ 4 _ rfl; refine blk_put (cs := #[.int .i64 a0_0, .int .i64 a0_1, .int .i64 a0_2, .bool false, .bool false]) ?_ 3 _ rfl; refine blk_put (cs := #[.int .i64 a0_0, .int .i64 a0_1, .int .i64 0, .bool false, .bool false]) ?_ 2 _ rfl; refine blk_put (cs := #[.int .i64 a0_0, .int .i64 0, .int .i64 0, .bool false, .bool false]) ?_ 1 _ rfl; refine blk_put (cs := #[.int .i64 0, .int .i64 0, .int .i64 0, .bool false, .bool false]) ?_ 0 _ rfl; (with_reducible repeat first|apply bn_|apply bd_|apply ba_); exact BK143.out))⟩; have n3_ : Aside0 (Below w.heap.size w w15) := ⟨(by rw [hw]; exact (ue_ HB.out))⟩; clear hw BK140 BK141 BK143 HB; have BK140 := n0_; have BK141 := n1_; have BK143 := n2_; have HB := n3_; clear n0_ n1_ n2_ n3_; obtain ⟨hcz16_0, hcz16_1, hcz16_2, hcz16_3, hcz16_4⟩ := cb5_ BK143.out; obtain ⟨hfz16_0, hfz16_1, hfz16_2, hfz16_3⟩ := bf4_ BK143.out; have hfz16_4 := blk_frozen BK143.out 4) | ((with_reducible refine gate_store (t := 4) (p := 15) rfl ?_); refine store_event (t := 4) (p := 15) (v := ?vo_w17) (w1 := (w15.setCell ⟨gb143, 4, none⟩ (.bool false))) ?hg ?ho ?hn ?hr ?_; (case ho => rfl); (case hg => rfl); (case hn => rfl); (case hr => first | (go_simp; done) | (go_simp; rfl)); intro w17 hw; have n0_ : Aside0 (w17.heap[gb140]? = some (.cells #[.int .i64 a0_0, .int .i64 a0_1, .int .i64 a0_2, .bool a0_3, .bool true] 72 (0, 0))) := ⟨(by rw [hw]; exact (uf_ BK140.out))⟩; have n1_ : Aside0 (w17.heap[gb141]? = some (.cells #[.int .i64 0, .int .i64 0, .int .i64 0, .bool false, .bool false] 72 (0, 0))) := ⟨(by rw [hw]; exact (uf_ BK141.out))⟩; have n2_ : Aside0 (w17.heap[gb143]? = some (.cells #[.int .i64 a0_0, .int .i64 a0_1, .int .i64 a0_2, .bool a0_3, .bool false] 72 (0, 0))) := ⟨(by rw [hw]; exact (by (with_reducible repeat first|apply bn_|apply bd_|apply ba_); refine blk_put (cs := #[.int .i64 a0_0, .int .i64 a0_1, .int .i64 a0_2, .bool a0_3, .bool true]) ?_ 4 _ rfl; (with_reducible repeat first|apply bn_|apply bd_|apply ba_); exact BK143.out))⟩; have n3_ : Aside0 (Below w.heap.size w w17) := ⟨(by rw [hw]; exact (ue_ HB.out))⟩; clear hw BK140 BK141 BK143 HB; have BK140 := n0_; have BK141 := n1_; have BK143 := n2_; have HB := n3_; clear n0_ n1_ n2_ n3_; obtain ⟨hcz18_0, hcz18_1, hcz18_2, hcz18_3, hcz18_4⟩ := cb5_ BK143.out; obtain ⟨hfz18_0, hfz18_1, hfz18_2, hfz18_3⟩ := bf4_ BK143.out; have hfz18_4 := blk_frozen BK143.out 4) | ((with_reducible refine gate_store (t := 4) (p := 16) rfl ?_); refine store_event (t := 4) (p := 16) (v := ?vo_w19) (w1 := (w17.setCell ⟨gb143, 3, none⟩ (.bool false))) ?hg ?ho ?hn ?hr ?_; (case ho => rfl); (case hg => rfl); (case hn => rfl); (case hr => first | (go_simp; done) | (go_simp; rfl)); intro w19 hw; have n0_ : Aside0 (w19.heap[gb140]? = some (.cells #[.int .i64 a0_0, .int .i64 a0_1, .int .i64 a0_2, .bool a0_3, .bool true] 72 (0, 0))) := ⟨(by rw [hw]; exact (uf_ BK140.out))⟩; have n1_ : Aside0 (w19.heap[gb141]? = some (.cells #[.int .i64 0, .int .i64 0, .int .i64 0, .bool false, .bool false] 72 (0, 0))) := ⟨(by rw [hw]; exact (uf_ BK141.out))⟩; have n2_ : Aside0 (w19.heap[gb143]? = some (.cells #[.int .i64 a0_0, .int .i64 a0_1, .int .i64 a0_2, .bool false, .bool false] 72 (0, 0))) := ⟨(by rw [hw]; exact (by (with_reducible repeat first|apply bn_|apply bd_|apply ba_); refine blk_put (cs := #[.int .i64 a0_0, .int .i64 a0_1, .int .i64 a0_2, .bool a0_3, .bool false]) ?_ 3 _ rfl; (with_reducible repeat first|apply bn_|apply bd_|apply ba_); exact BK143.out))⟩; have n3_ : Aside0 (Below w.heap.size w w19) := ⟨(by rw [hw]; exact (ue_ HB.out))⟩; clear hw BK140 BK141 BK143 HB; have BK140 := n0_; have BK141 := n1_; have BK143 := n2_; have HB := n3_; clear n0_ n1_ n2_ n3_; obtain ⟨hcz20_0, hcz20_1, hcz20_2, hcz20_3, hcz20_4⟩ := cb5_ BK143.out; obtain ⟨hfz20_0, hfz20_1, hfz20_2, hfz20_3, hfz20_4⟩ := bf5_ BK143.out; obtain ⟨hcz21_0, hcz21_1, hcz21_2, hcz21_3, hcz21_4⟩ := cb5_ BK141.out; obtain ⟨hfz21_0, hfz21_1, hfz21_2, hfz21_3⟩ := bf4_ BK141.out; have hfz21_4 := blk_frozen BK141.out 4) | ((with_reducible refine gate_store (t := 72) (p := 2) rfl ?_); refine store_event (t := 72) (p := 2) (v := ?vo_w22) (w1 := (((((w19.setCell ⟨gb141, 0, none⟩ (.int .i64 a0_0)).setCell ⟨gb141, 1, none⟩ (.int .i64 a0_1)).setCell ⟨gb141, 2, none⟩ (.int .i64 a0_2)).setCell ⟨gb141, 3, none⟩ (.bool false)).setCell ⟨gb141, 4, none⟩ (.bool false))) ?hg ?ho ?hn ?hr ?_; (case ho => rfl); (case hg => rfl); (case hn => rfl); (case hr => first | (go_simp; done) | (go_simp; rfl)); intro w22 hw; have n0_ : Aside0 (w22.heap[gb140]? = some (.cells #[.int .i64 a0_0, .int .i64 a0_1, .int .i64 a0_2, .bool a0_3, .bool true] 72 (0, 0))) := ⟨(by rw [hw]; exact (uf_ BK140.out))⟩; have n1_ : Aside0 (w22.heap[gb141]? = some (.cells #[.int .i64 a0_0, .int .i64 a0_1, .int .i64 a0_2, .bool false, .bool false] 72 (0, 0))) := ⟨(by rw [hw]; exact (by (with_reducible repeat first|apply bn_|apply bd_|apply ba_); refine blk_put (cs := #[.int .i64 a0_0, .int .i64 a0_1, .int .i64 a0_2, .bool false, .bool false]) ?_ 4 _ rfl; refine blk_put (cs := #[.int .i64 a0_0, .int .i64 a0_1, .int .i64 a0_2, .bool false, .bool false]) ?_ 3 _ rfl; refine blk_put (cs := #[.int .i64 a0_0, .int .i64 a0_1, .int .i64 0, .bool false, .bool false]) ?_ 2 _ rfl; refine blk_put (cs := #[.int .i64 a0_0, .int .i64 0, .int .i64 0, .bool false, .bool false]) ?_ 1 _ rfl; refine blk_put (cs := #[.int .i64 0, .int .i64 0, .int .i64 0, .bool false, .bool false]) ?_ 0 _ rfl; (with_reducible repeat first|apply bn_|apply bd_|apply ba_); exact BK141.out))⟩; have n2_ : Aside0 (w22.heap[gb143]? = some (.cells #[.int .i64 a0_0, .int .i64 a0_1, .int .i64 a0_2, .bool false, .bool false] 72 (0, 0))) := ⟨(by rw [hw]; exact (uf_ BK143.out))⟩; have n3_ : Aside0 (Below w.heap.size w w22) := ⟨(by rw [hw]; exact (ue_ HB.out))⟩; clear hw BK140 BK141 BK143 HB; have BK140 := n0_; have BK141 := n1_; have BK143 := n2_; have HB := n3_; clear n0_ n1_ n2_ n3_))
   refine bodyPost_ret (results_ct rfl _ _ gb141 72 #[.int .i64 a0_0, .int .i64 a0_1, .int .i64 a0_2, .bool false, .bool false] (0, 0) _ rfl (ub_ BK141.out) Try.underlying72 rfl (by kernel_rfl)) rfl ?_
   exact ⟨ew_, ue_ HB.out⟩
  ·
   replace c4 := Bool.eq_false_iff.mpr c4
   subst c4
   have H1 : (some (a0_0, a0_1, a0_2, a0_3, false, false)) = some (r1, r2, r3, r4, r5, r6) := by rw [if_neg (show ¬ (false = true) by decide)] at H; exact H
   clear H
   have H := H1
   clear H1
   simp only [Option.some.injEq, Prod.mk.injEq] at H
   obtain ⟨rfl, rfl, rfl, rfl, rfl, rfl⟩ := H
   go_enter Try.func134, Try.ntmps134
   go_wp2_with (first | ((with_reducible refine gate_dst (N := 1) rfl ?_); refine box_event ?hg (N := 1) ?hd (cs := #[.int .i64 a0_0, .int .i64 a0_1, .int .i64 a0_2, .bool a0_3, .bool false]) (t := 72) ?hr ?_; (case hd => rfl); (case hg => rfl); (case hr => first | (go_simp; done) | (go_simp; rfl)); intro gb140 hg w23 hbox hb; have n0_ := am_ (below_step (ue_ HB.out) hb); have n1_ := am_ (hbox); have n2_ := am_ ((by rw [hg]; exact (below_size (ue_ HB.out)) : w.heap.size ≤ gb140)); have n3_ := am_ ((by rw [hg]; exact (below_size (ue_ HB.out)) : w.heap.size ≤ gb140)); clear HB; have HB := n0_; have BK140 := n1_; have GW140 := n2_; have GE140 := n3_; clear n0_ n1_ n2_ n3_; clear hb hbox hg) | ((with_reducible refine gate_dst (N := 2) rfl ?_); refine box_event ?hg (N := 2) ?hd (cs := #[.int .i64 0, .int .i64 0, .int .i64 0, .bool false, .bool false]) (t := 72) ?hr ?_; (case hd => rfl); (case hg => rfl); (case hr => first | (go_simp; done) | (go_simp; rfl)); intro gb141 hg w24 hbox hb; have n0_ := am_ (bb_ BK140.out hb); have n1_ := am_ (below_step (ue_ HB.out) hb); have n2_ := am_ (hbox); have n3_ := am_ ((by rw [hg]; exact (below_size (ue_ HB.out)) : w.heap.size ≤ gb141)); have n4_ := am_ ((by rw [hg]; exact (below_size (ue_ HB.out)) : w.heap.size ≤ gb141)); have n5_ := am_ ((by rw [hg]; exact Nat.ne_of_lt (bl_ BK140.out) : gb140 ≠ gb141)); have n6_ := am_ ((by rw [hg]; exact Nat.ne_of_gt (bl_ BK140.out) : gb141 ≠ gb140)); clear BK140 HB; have BK140 := n0_; have HB := n1_; have BK141 := n2_; have GW141 := n3_; have GE141 := n4_; have NB140_141 := n5_; have NB141_140 := n6_; clear n0_ n1_ n2_ n3_ n4_ n5_ n6_; clear hb hbox hg; have hnb25 := NB140_141.out; have hnc25 := NB141_140.out; obtain ⟨hcz26_0, hcz26_1, hcz26_2, hcz26_3, hcz26_4⟩ := cb5_ BK140.out; obtain ⟨hfz26_0, hfz26_1, hfz26_2, hfz26_3⟩ := bf4_ BK140.out; have hfz26_4 := blk_frozen BK140.out 4) | ((with_reducible refine gate_callee (f := 147) rfl ?_); refine goesL_ (some 6) rfl rfl Try.func147 (by kernel_rfl) rfl #[.agg #[.int .i64 a0_0, .int .i64 a0_1, .int .i64 a0_2, .bool a0_3, .bool false]] rfl ul_ ?_; (with_reducible refine (spec_SourceOk.calls a0_0 a0_1 a0_2 a0_3 false true _ A2.out).mono ?_); rintro e w27 ⟨rfl, hb⟩; refine ⟨_, rfl, ?_⟩; have n0_ := am_ (bb_ BK140.out hb); have n1_ := am_ (bb_ BK141.out hb); have n2_ := am_ (below_step (ue_ HB.out) hb); clear BK140 BK141 HB; have BK140 := n0_; have BK141 := n1_; have HB := n2_; clear n0_ n1_ n2_; (try clear hb); (try clear hb2); (try clear hk); (try clear hi); obtain ⟨hcz28_0, hcz28_1, hcz28_2, hcz28_3, hcz28_4⟩ := cb5_ BK140.out; obtain ⟨hfz28_0, hfz28_1, hfz28_2, hfz28_3, hfz28_4⟩ := bf5_ BK140.out; obtain ⟨hcz29_0, hcz29_1, hcz29_2, hcz29_3, hcz29_4⟩ := cb5_ BK141.out; obtain ⟨hfz29_0, hfz29_1, hfz29_2, hfz29_3⟩ := bf4_ BK141.out; have hfz29_4 := blk_frozen BK141.out 4) | ((with_reducible refine gate_store (t := 72) (p := 2) rfl ?_); refine store_event (t := 72) (p := 2) (v := ?vo_w30) (w1 := (((((w27.setCell ⟨gb141, 0, none⟩ (.int .i64 a0_0)).setCell ⟨gb141, 1, none⟩ (.int .i64 a0_1)).setCell ⟨gb141, 2, none⟩ (.int .i64 a0_2)).setCell ⟨gb141, 3, none⟩ (.bool a0_3)).setCell ⟨gb141, 4, none⟩ (.bool false))) ?hg ?ho ?hn ?hr ?_; (case ho => rfl); (case hg => rfl); (case hn => rfl); (case hr => first | (go_simp; done) | (go_simp; rfl)); intro w30 hw; have n0_ : Aside0 (w30.heap[gb140]? = some (.cells #[.int .i64 a0_0, .int .i64 a0_1, .int .i64 a0_2, .bool a0_3, .bool false] 72 (0, 0))) := ⟨(by rw [hw]; exact (uf_ BK140.out))⟩; have n1_ : Aside0 (w30.heap[gb141]? = some (.cells #[.int .i64 a0_0, .int .i64 a0_1, .int .i64 a0_2, .bool a0_3, .bool false] 72 (0, 0))) := ⟨(by rw [hw]; exact (by (with_reducible repeat first|apply bn_|apply bd_|apply ba_); refine blk_put (cs := #[.int .i64 a0_0, .int .i64 a0_1, .int .i64 a0_2, .bool a0_3, .bool false]) ?_ 4 _ rfl; refine blk_put (cs := #[.int .i64 a0_0, .int .i64 a0_1, .int .i64 a0_2, .bool false, .bool false]) ?_ 3 _ rfl; refine blk_put (cs := #[.int .i64 a0_0, .int .i64 a0_1, .int .i64 0, .bool false, .bool false]) ?_ 2 _ rfl; refine blk_put (cs := #[.int .i64 a0_0, .int .i64 0, .int .i64 0, .bool false, .bool false]) ?_ 1 _ rfl; refine blk_put (cs := #[.int .i64 0, .int .i64 0, .int .i64 0, .bool false, .bool false]) ?_ 0 _ rfl; (with_reducible repeat first|apply bn_|apply bd_|apply ba_); exact BK141.out))⟩; have n2_ : Aside0 (Below w.heap.size w w30) := ⟨(by rw [hw]; exact (ue_ HB.out))⟩; clear hw BK140 BK141 HB; have BK140 := n0_; have BK141 := n1_; have HB := n2_; clear n0_ n1_ n2_))
   refine bodyPost_ret (results_ct rfl _ _ gb141 72 #[.int .i64 a0_0, .int .i64 a0_1, .int .i64 a0_2, .bool a0_3, .bool false] (0, 0) _ rfl (ub_ BK141.out) Try.underlying72 rfl (by kernel_rfl)) rfl ?_
   exact ⟨ew_, ue_ HB.out⟩
 ·
  replace c3 := Bool.eq_false_iff.mpr c3
  subst c3
  have H1 : (some (a0_0, a0_1, a0_2, a0_3, a0_4, false)) = some (r1, r2, r3, r4, r5, r6) := by rw [if_neg (show ¬ (false = true) by decide)] at H; exact H
  clear H
  have H := H1
  clear H1
  simp only [Option.some.injEq, Prod.mk.injEq] at H
  obtain ⟨rfl, rfl, rfl, rfl, rfl, rfl⟩ := H
  go_enter Try.func134, Try.ntmps134
  go_wp2_with (first | ((with_reducible refine gate_dst (N := 1) rfl ?_); refine box_event ?hg (N := 1) ?hd (cs := #[.int .i64 a0_0, .int .i64 a0_1, .int .i64 a0_2, .bool a0_3, .bool a0_4]) (t := 72) ?hr ?_; (case hd => rfl); (case hg => rfl); (case hr => first | (go_simp; done) | (go_simp; rfl)); intro gb140 hg w31 hbox hb; have n0_ := am_ (below_step (ue_ HB.out) hb); have n1_ := am_ (hbox); have n2_ := am_ ((by rw [hg]; exact (below_size (ue_ HB.out)) : w.heap.size ≤ gb140)); have n3_ := am_ ((by rw [hg]; exact (below_size (ue_ HB.out)) : w.heap.size ≤ gb140)); clear HB; have HB := n0_; have BK140 := n1_; have GW140 := n2_; have GE140 := n3_; clear n0_ n1_ n2_ n3_; clear hb hbox hg) | ((with_reducible refine gate_dst (N := 2) rfl ?_); refine box_event ?hg (N := 2) ?hd (cs := #[.int .i64 0, .int .i64 0, .int .i64 0, .bool false, .bool false]) (t := 72) ?hr ?_; (case hd => rfl); (case hg => rfl); (case hr => first | (go_simp; done) | (go_simp; rfl)); intro gb141 hg w32 hbox hb; have n0_ := am_ (bb_ BK140.out hb); have n1_ := am_ (below_step (ue_ HB.out) hb); have n2_ := am_ (hbox); have n3_ := am_ ((by rw [hg]; exact (below_size (ue_ HB.out)) : w.heap.size ≤ gb141)); have n4_ := am_ ((by rw [hg]; exact (below_size (ue_ HB.out)) : w.heap.size ≤ gb141)); have n5_ := am_ ((by rw [hg]; exact Nat.ne_of_lt (bl_ BK140.out) : gb140 ≠ gb141)); have n6_ := am_ ((by rw [hg]; exact Nat.ne_of_gt (bl_ BK140.out) : gb141 ≠ gb140)); clear BK140 HB; have BK140 := n0_; have HB := n1_; have BK141 := n2_; have GW141 := n3_; have GE141 := n4_; have NB140_141 := n5_; have NB141_140 := n6_; clear n0_ n1_ n2_ n3_ n4_ n5_ n6_; clear hb hbox hg; have hnb33 := NB140_141.out; have hnc33 := NB141_140.out; obtain ⟨hcz34_0, hcz34_1, hcz34_2, hcz34_3, hcz34_4⟩ := cb5_ BK140.out; obtain ⟨hfz34_0, hfz34_1, hfz34_2, hfz34_3⟩ := bf4_ BK140.out; have hfz34_4 := blk_frozen BK140.out 4) | ((with_reducible refine gate_callee (f := 147) rfl ?_); refine goesL_ (some 6) rfl rfl Try.func147 (by kernel_rfl) rfl #[.agg #[.int .i64 a0_0, .int .i64 a0_1, .int .i64 a0_2, .bool a0_3, .bool a0_4]] rfl ul_ ?_; (with_reducible refine (spec_SourceOk.calls a0_0 a0_1 a0_2 a0_3 a0_4 false _ A2.out).mono ?_); rintro e w35 ⟨rfl, hb⟩; refine ⟨_, rfl, ?_⟩; have n0_ := am_ (bb_ BK140.out hb); have n1_ := am_ (bb_ BK141.out hb); have n2_ := am_ (below_step (ue_ HB.out) hb); clear BK140 BK141 HB; have BK140 := n0_; have BK141 := n1_; have HB := n2_; clear n0_ n1_ n2_; (try clear hb); (try clear hb2); (try clear hk); (try clear hi); obtain ⟨hcz36_0, hcz36_1, hcz36_2, hcz36_3, hcz36_4⟩ := cb5_ BK140.out; obtain ⟨hfz36_0, hfz36_1, hfz36_2, hfz36_3, hfz36_4⟩ := bf5_ BK140.out; obtain ⟨hcz37_0, hcz37_1, hcz37_2, hcz37_3, hcz37_4⟩ := cb5_ BK141.out; obtain ⟨hfz37_0, hfz37_1, hfz37_2, hfz37_3⟩ := bf4_ BK141.out; have hfz37_4 := blk_frozen BK141.out 4) | ((with_reducible refine gate_store (t := 72) (p := 2) rfl ?_); refine store_event (t := 72) (p := 2) (v := ?vo_w38) (w1 := (((((w35.setCell ⟨gb141, 0, none⟩ (.int .i64 a0_0)).setCell ⟨gb141, 1, none⟩ (.int .i64 a0_1)).setCell ⟨gb141, 2, none⟩ (.int .i64 a0_2)).setCell ⟨gb141, 3, none⟩ (.bool a0_3)).setCell ⟨gb141, 4, none⟩ (.bool a0_4))) ?hg ?ho ?hn ?hr ?_; (case ho => rfl); (case hg => rfl); (case hn => rfl); (case hr => first | (go_simp; done) | (go_simp; rfl)); intro w38 hw; have n0_ : Aside0 (w38.heap[gb140]? = some (.cells #[.int .i64 a0_0, .int .i64 a0_1, .int .i64 a0_2, .bool a0_3, .bool a0_4] 72 (0, 0))) := ⟨(by rw [hw]; exact (uf_ BK140.out))⟩; have n1_ : Aside0 (w38.heap[gb141]? = some (.cells #[.int .i64 a0_0, .int .i64 a0_1, .int .i64 a0_2, .bool a0_3, .bool a0_4] 72 (0, 0))) := ⟨(by rw [hw]; exact (by (with_reducible repeat first|apply bn_|apply bd_|apply ba_); refine blk_put (cs := #[.int .i64 a0_0, .int .i64 a0_1, .int .i64 a0_2, .bool a0_3, .bool false]) ?_ 4 _ rfl; refine blk_put (cs := #[.int .i64 a0_0, .int .i64 a0_1, .int .i64 a0_2, .bool false, .bool false]) ?_ 3 _ rfl; refine blk_put (cs := #[.int .i64 a0_0, .int .i64 a0_1, .int .i64 0, .bool false, .bool false]) ?_ 2 _ rfl; refine blk_put (cs := #[.int .i64 a0_0, .int .i64 0, .int .i64 0, .bool false, .bool false]) ?_ 1 _ rfl; refine blk_put (cs := #[.int .i64 0, .int .i64 0, .int .i64 0, .bool false, .bool false]) ?_ 0 _ rfl; (with_reducible repeat first|apply bn_|apply bd_|apply ba_); exact BK141.out))⟩; have n2_ : Aside0 (Below w.heap.size w w38) := ⟨(by rw [hw]; exact (ue_ HB.out))⟩; clear hw BK140 BK141 HB; have BK140 := n0_; have BK141 := n1_; have HB := n2_; clear n0_ n1_ n2_))
  refine bodyPost_ret (results_ct rfl _ _ gb141 72 #[.int .i64 a0_0, .int .i64 a0_1, .int .i64 a0_2, .bool a0_3, .bool a0_4] (0, 0) _ rfl (ub_ BK141.out) Try.underlying72 rfl (by kernel_rfl)) rfl ?_
  exact ⟨ew_, ue_ HB.out⟩

end Go.Proofs.Ytcflalomjehiiaa.QFnMarks
