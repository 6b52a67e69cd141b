/-
  The law FnExactDueAt answers true: the program's DueAt is the reference's, for all arguments. No condition.
-/
import Derived.Test.YtnejoikjcdjneaaPFnExactDueAtx1
namespace Go.Proofs.Ytnejoikjcdjneaa.Pure
open Go.RowKit Go.Proofs.Ytnejoikjcdjneaa.PFnExactDueAt Go.Proofs.YtnejoikjcdjneaaW.PrintWords Go.Proofs.YtnejoikjcdjneaaW.PrintLast Go.Proofs.YtnejoikjcdjneaaW.PrintMore
set_option linter.unusedSimpArgs false
set_option linter.unusedVariables false

theorem spec_in_eq (a lo hi : Int) : spec_l01In.f a lo hi = some (decide (lo ≤ a ∧ a ≤ hi)) := by
  unfold spec_l01In.f; by_cases h : lo ≤ a <;> simp [h]

theorem spec_TickOk_eq (a : Int) : spec_TickOk.f a = some (decide (0 ≤ a ∧ a ≤ 1000000000)) := by
  simp only [spec_TickOk.f, spec_in_eq, Option.bind_some]

theorem w64 {x : Int} (h1 : -9223372036854775808 ≤ x) (h2 : x ≤ 9223372036854775807) : wrap64 x = x := by
  unfold wrap64; omega

def addT (a b : Int) : Int :=
  if 0 ≤ a ∧ a ≤ 1000000000 then (if -1000000000 ≤ b ∧ b ≤ 1000000000 then (if a + b > 1000000000 then 1000000000 else if a + b < 0 then 0 else a + b) else -1) else -1

theorem spec_AddTick_eq (k : Nat) (a b : Int) : spec_AddTick.f (k + 1) a b = some (addT a b) := by
  unfold addT
  simp only [spec_AddTick.f, spec_TickOk_eq, spec_in_eq, Option.bind_some, spec_AddTick.j0]
  by_cases h1 : 0 ≤ a ∧ a ≤ 1000000000
  · by_cases h2 : -1000000000 ≤ b ∧ b ≤ 1000000000
    · rw [w64 (x := a + b) (by omega) (by omega)]
      simp only [h1, h2, and_self, decide_true, if_true, Bool.not_true, Bool.false_eq_true, if_false]
      by_cases h3 : a + b > 1000000000
      · rw [if_pos h3, if_pos h3]
      · rw [if_neg h3, if_neg h3]
        by_cases h4 : a + b < 0
        · rw [if_pos h4, if_pos h4]
        · rw [if_neg h4, if_neg h4]
    · simp [h1, h2]
  · simp [h1]

def dueT (a b c : Int) : Bool :=
  if 0 ≤ a ∧ a ≤ 1000000000 then (if 0 ≤ b ∧ b ≤ 1000000000 then (if 0 ≤ c ∧ c ≤ 1000000000 then (if b > 0 then decide (addT a b ≤ c) else false) else false) else false) else false

theorem spec_DueAt_eq (k : Nat) (a b c : Int) : spec_DueAt.f (k + 1) a b c = some (dueT a b c) := by
  unfold dueT
  simp only [spec_DueAt.f, spec_TickOk_eq, spec_AddTick_eq, Option.bind_some]
  by_cases h1 : 0 ≤ a ∧ a ≤ 1000000000
  · by_cases h2 : 0 ≤ b ∧ b ≤ 1000000000
    · by_cases h3 : 0 ≤ c ∧ c ≤ 1000000000
      · by_cases h4 : b > 0
        · simp [h1, h2, h3, h4]
        · simp [h1, h2, h3, h4]
      · simp [h1, h2, h3]
    · simp [h1, h2]
  · simp [h1]

theorem impl_within_eq (a lo hi : Int) : impl_within.f a lo hi = some (decide (lo ≤ a ∧ a ≤ hi)) := by
  unfold impl_within.f; by_cases h : lo ≤ a <;> simp [h]

theorem impl_TickOk_eq (a : Int) : impl_TickOk.f a = some (decide (0 ≤ a ∧ a ≤ 1000000000)) := by
  simp only [impl_TickOk.f, impl_within_eq, Option.bind_some]

theorem impl_AddTick_eq (a b : Int) : impl_AddTick.f a b = some (addT a b) := by
  unfold addT
  simp only [impl_AddTick.f, impl_TickOk_eq, impl_within_eq, Option.bind_some]
  by_cases h1 : 0 ≤ a ∧ a ≤ 1000000000
  · by_cases h2 : -1000000000 ≤ b ∧ b ≤ 1000000000
    · rw [w64 (x := a + b) (by omega) (by omega)]
      simp only [h1, h2, and_self, decide_true, if_true]
      congr 1
      unfold mn mx
      (repeat' split) <;> omega
    · simp [h1, h2]
  · simp [h1]

theorem impl_DueAt_eq (a b c : Int) : impl_DueAt.f a b c = some (dueT a b c) := by
  unfold dueT
  simp only [impl_DueAt.f, impl_TickOk_eq, impl_AddTick_eq, Option.bind_some]
  by_cases h1 : 0 ≤ a ∧ a ≤ 1000000000
  · by_cases h2 : 0 ≤ b ∧ b ≤ 1000000000
    · by_cases h3 : 0 ≤ c ∧ c ≤ 1000000000
      · by_cases h4 : b > 0
        · simp [h1, h2, h3, h4]
        · simp [h1, h2, h3, h4]
      · simp [h1, h2, h3]
    · simp [h1, h2]
  · simp [h1]

theorem FnExactDueAt : laws_FnExactDueAt.Pure := by
  intro a0 a1 a2 w0 w1 w2
  refine ⟨1, ?_⟩
  simp [laws_FnExactDueAt.f, spec_DueAt_eq 0, impl_DueAt_eq]

end Go.Proofs.Ytnejoikjcdjneaa.Pure
