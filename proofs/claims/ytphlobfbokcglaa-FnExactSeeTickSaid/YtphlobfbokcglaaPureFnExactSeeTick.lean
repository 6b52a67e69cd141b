/-
  The law FnExactSeeTick answers true: the program's SeeTick is the reference's, for all arguments. No condition.
-/
import Derived.Test.YtphlobfbokcglaaQFnExactSeeTickx2
namespace Go.Proofs.Ytphlobfbokcglaa.Pure
open Go.RowKit Go.Proofs.Ytphlobfbokcglaa.QFnExactSeeTick Go.Proofs.YtphlobfbokcglaaW.PrintWords Go.Proofs.YtphlobfbokcglaaW.PrintLast Go.Proofs.YtphlobfbokcglaaW.PrintMore
set_option linter.unusedSimpArgs false
set_option linter.unusedVariables false

theorem spec_in_eq (a lo hi : Int) : spec_l01In.f a lo hi = some (decide (lo ≤ a ∧ a ≤ hi)) := by
  unfold spec_l01In.f; by_cases h : lo ≤ a <;> simp [h]

theorem spec_l04Mark_eq (a : Int) : spec_l04Mark.f a = some (decide ((-1) ≤ a ∧ a ≤ 1000000)) := by
  simp only [spec_l04Mark.f, spec_in_eq, Option.bind_some]

theorem spec_TickOk_eq (a : Int) : spec_TickOk.f a = some (decide (0 ≤ a ∧ a ≤ 1000000000)) := by
  simp only [spec_TickOk.f, spec_in_eq, Option.bind_some]

theorem impl_within_eq (a lo hi : Int) : impl_within.f a lo hi = some (decide (lo ≤ a ∧ a ≤ hi)) := by
  unfold impl_within.f; by_cases h : lo ≤ a <;> simp [h]

theorem impl_isMark_eq (a : Int) : impl_isMark.f a = some (decide ((-1) ≤ a ∧ a ≤ 1000000)) := by
  simp only [impl_isMark.f, impl_within_eq, Option.bind_some]

theorem impl_TickOk_eq (a : Int) : impl_TickOk.f a = some (decide (0 ≤ a ∧ a ≤ 1000000000)) := by
  simp only [impl_TickOk.f, impl_within_eq, Option.bind_some]

def srcOk (m k n : Int) : Bool := decide (-1 ≤ m ∧ m ≤ 1000000) && (decide (-1 ≤ k ∧ k ≤ 1000000) && decide (0 ≤ n ∧ n ≤ 1000000000))
theorem spec_SourceOk_eq (a b c : Int) (d e : Bool) : spec_SourceOk.f a b c d e = some (srcOk a b c) := by
  simp only [spec_SourceOk.f, spec_l04Mark_eq, spec_TickOk_eq, Option.bind_some, srcOk]
  by_cases h1 : -1 ≤ a ∧ a ≤ 1000000
  · by_cases h2 : -1 ≤ b ∧ b ≤ 1000000
    · simp [h1, h2]
    · simp [h1, h2]
  · simp [h1]
theorem impl_SourceOk_eq (a b c : Int) (d e : Bool) : impl_SourceOk.f a b c d e = some (srcOk a b c) := by
  simp only [impl_SourceOk.f, impl_isMark_eq, impl_TickOk_eq, Option.bind_some, srcOk]
  by_cases h1 : -1 ≤ a ∧ a ≤ 1000000
  · by_cases h2 : -1 ≤ b ∧ b ≤ 1000000
    · simp [h1, h2]
    · simp [h1, h2]
  · simp [h1]
theorem srcOk_iff (m k n : Int) : srcOk m k n = true ↔ (-1 ≤ m ∧ m ≤ 1000000) ∧ (-1 ≤ k ∧ k ≤ 1000000) ∧ 0 ≤ n ∧ n ≤ 1000000000 := by
  simp [srcOk]

theorem w64 {x : Int} (h1 : -9223372036854775808 ≤ x) (h2 : x ≤ 9223372036854775807) : wrap64 x = x := by
  unfold wrap64; omega

def addT (a b : Int) : Int :=
  if 0 ≤ a ∧ a ≤ 1000000000 then (if -1000000000 ≤ b ∧ b ≤ 1000000000 then (if a + b > 1000000000 then 1000000000 else if a + b < 0 then 0 else a + b) else -1) else -1

theorem spec_AddTick_eq {k : Nat} (hk : 1 ≤ k) (a b : Int) : spec_AddTick.f k a b = some (addT a b) := by
  obtain ⟨k, rfl⟩ : ∃ m, k = m + 1 := ⟨k - 1, by omega⟩
  unfold addT
  simp only [spec_AddTick.f, spec_TickOk_eq, spec_in_eq, Option.bind_some, spec_AddTick.j0]
  by_cases h1 : 0 ≤ a ∧ a ≤ 1000000000
  · by_cases h2 : -1000000000 ≤ b ∧ b ≤ 1000000000
    · rw [w64 (x := a + b) (by omega) (by omega)]
      simp only [h1, h2, and_self, decide_true, if_true, Bool.not_true, Bool.false_eq_true, if_false]
      by_cases h3 : a + b > 1000000000
      · rw [if_pos h3, if_pos h3]
      · rw [if_neg h3, if_neg h3]
        by_cases h4 : a + b < 0
        · rw [if_pos h4, if_pos h4]
        · rw [if_neg h4, if_neg h4]
    · simp [h1, h2]
  · simp [h1]

def dueT (a b c : Int) : Bool :=
  if 0 ≤ a ∧ a ≤ 1000000000 then (if 0 ≤ b ∧ b ≤ 1000000000 then (if 0 ≤ c ∧ c ≤ 1000000000 then (if b > 0 then decide (addT a b ≤ c) else false) else false) else false) else false

theorem spec_DueAt_eq {k : Nat} (hk : 1 ≤ k) (a b c : Int) : spec_DueAt.f k a b c = some (dueT a b c) := by
  unfold dueT
  simp only [spec_DueAt.f, spec_TickOk_eq, spec_AddTick_eq hk, Option.bind_some]
  by_cases h1 : 0 ≤ a ∧ a ≤ 1000000000
  · by_cases h2 : 0 ≤ b ∧ b ≤ 1000000000
    · by_cases h3 : 0 ≤ c ∧ c ≤ 1000000000
      · by_cases h4 : b > 0
        · simp [h1, h2, h3, h4]
        · simp [h1, h2, h3, h4]
      · simp [h1, h2, h3]
    · simp [h1, h2]
  · simp [h1]

theorem impl_AddTick_eq (a b : Int) : impl_AddTick.f a b = some (addT a b) := by
  unfold addT
  simp only [impl_AddTick.f, impl_TickOk_eq, impl_within_eq, Option.bind_some]
  by_cases h1 : 0 ≤ a ∧ a ≤ 1000000000
  · by_cases h2 : -1000000000 ≤ b ∧ b ≤ 1000000000
    · rw [w64 (x := a + b) (by omega) (by omega)]
      simp only [h1, h2, and_self, decide_true, if_true]
      congr 1
      unfold mn mx
      (repeat' split) <;> omega
    · simp [h1, h2]
  · simp [h1]

theorem impl_DueAt_eq (a b c : Int) : impl_DueAt.f a b c = some (dueT a b c) := by
  unfold dueT
  simp only [impl_DueAt.f, impl_TickOk_eq, impl_AddTick_eq, Option.bind_some]
  by_cases h1 : 0 ≤ a ∧ a ≤ 1000000000
  · by_cases h2 : 0 ≤ b ∧ b ≤ 1000000000
    · by_cases h3 : 0 ≤ c ∧ c ≤ 1000000000
      · by_cases h4 : b > 0
        · simp [h1, h2, h3, h4]
        · simp [h1, h2, h3, h4]
      · simp [h1, h2, h3]
    · simp [h1, h2]
  · simp [h1]

theorem SeeTick_eq {k : Nat} (hk : 2 ≤ k) (a b c : Int) (d e : Bool) (x y : Int) : spec_SeeTick.f k a b c d e x y = impl_SeeTick.f a b c d e x y := by
  obtain ⟨k, rfl⟩ : ∃ m, k = m + 1 := ⟨k - 1, by omega⟩
  simp only [spec_SeeTick.f, impl_SeeTick.f, spec_SourceOk_eq, impl_SourceOk_eq, spec_TickOk_eq, Option.bind_some, spec_SeeTick.j0, spec_DueAt_eq (show 1 ≤ k by omega), impl_DueAt_eq]
  cases srcOk a b c
  · simp
  · by_cases h1 : 0 ≤ x ∧ x ≤ 1000000000
    · by_cases h2 : 0 ≤ y ∧ y ≤ 1000000000
      · simp [h1, h2]
      · have h3 : dueT c x y = false := by unfold dueT; simp [h1, h2]
        simp [h1, h2, h3]
    · have h3 : dueT c x y = false := by unfold dueT; simp [h1]
      simp [h1, h3]
theorem impl_SeeTick_some (a b c : Int) (d e : Bool) (x y : Int) : ∃ p q r s t u, impl_SeeTick.f a b c d e x y = some (p, q, r, s, t, u) := by
  simp only [impl_SeeTick.f, impl_SourceOk_eq, impl_DueAt_eq, Option.bind_some]
  (repeat' split) <;> exact ⟨_, _, _, _, _, _, rfl⟩

theorem eqSource_refl (a b c : Int) (d e : Bool) : laws_eqSource.f a b c d e a b c d e = some true := by
  simp [laws_eqSource.f]

theorem FnExactSeeTick : ∀ (a0_0 : Int) (a0_1 : Int) (a0_2 : Int) (a0_3 : Bool) (a0_4 : Bool) (a1 : Int) (a2 : Int), (Lit.int .i64 a0_0).wf = true → (Lit.int .i64 a0_1).wf = true → (Lit.int .i64 a0_2).wf = true → (Lit.int .i64 a1).wf = true → (Lit.int .i64 a2).wf = true → ∃ k, laws_FnExactSeeTick.f k a0_0 a0_1 a0_2 a0_3 a0_4 a1 a2 = some true := by
  intro a0 a1 a2 a3 a4 b c _ _ _ _ _
  refine ⟨2, ?_⟩
  obtain ⟨p, q, r, s, t, u, h⟩ := impl_SeeTick_some a0 a1 a2 a3 a4 b c
  simp only [laws_FnExactSeeTick.f, laws_toSource.f, SeeTick_eq (Nat.le_refl 2), Option.bind_some, h, eqSource_refl]
  simp

end Go.Proofs.Ytphlobfbokcglaa.Pure
