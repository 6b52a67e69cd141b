/-
  The law FnExactSince answers true: the program's Since is the reference's, for all arguments. No condition.
-/
import Derived.Test.YtnejoikjcdjneaaPFnExactSincex1
namespace Go.Proofs.Ytnejoikjcdjneaa.Pure
open Go.RowKit Go.Proofs.Ytnejoikjcdjneaa.PFnExactSince Go.Proofs.YtnejoikjcdjneaaW.PrintWords Go.Proofs.YtnejoikjcdjneaaW.PrintLast Go.Proofs.YtnejoikjcdjneaaW.PrintMore
set_option linter.unusedSimpArgs false
set_option linter.unusedVariables false

theorem w64 {x : Int} (h1 : -9223372036854775808 ≤ x) (h2 : x ≤ 9223372036854775807) : wrap64 x = x := by
  unfold wrap64; omega

theorem spec_in_eq (a lo hi : Int) : spec_l01In.f a lo hi = some (decide (lo ≤ a ∧ a ≤ hi)) := by
  unfold spec_l01In.f; by_cases h : lo ≤ a <;> simp [h]

theorem spec_TickOk_eq (a : Int) : spec_TickOk.f a = some (decide (0 ≤ a ∧ a ≤ 1000000000)) := by
  simp only [spec_TickOk.f, spec_in_eq, Option.bind_some]

def sinceT (a b : Int) : Int :=
  if 0 ≤ a ∧ a ≤ 1000000000 then (if 0 ≤ b ∧ b ≤ 1000000000 then (if b < a then 0 else b - a) else -1) else -1

theorem spec_Since_eq (k : Nat) (a b : Int) : spec_Since.f (k + 1) a b = some (sinceT a b) := by
  unfold sinceT
  simp only [spec_Since.f, spec_TickOk_eq, Option.bind_some, spec_Since.j0]
  by_cases h1 : 0 ≤ a ∧ a ≤ 1000000000
  · by_cases h2 : 0 ≤ b ∧ b ≤ 1000000000
    · rw [w64 (x := b - a) (by omega) (by omega)]
      simp only [h1, h2, and_self, decide_true, if_true, Bool.not_true, Bool.false_eq_true, if_false]
      by_cases h3 : b < a
      · rw [if_pos h3, if_pos h3]
      · rw [if_neg h3, if_neg h3]
    · simp [h1, h2]
  · simp [h1]

theorem impl_within_eq (a lo hi : Int) : impl_within.f a lo hi = some (decide (lo ≤ a ∧ a ≤ hi)) := by
  unfold impl_within.f; by_cases h : lo ≤ a <;> simp [h]

theorem impl_TickOk_eq (a : Int) : impl_TickOk.f a = some (decide (0 ≤ a ∧ a ≤ 1000000000)) := by
  simp only [impl_TickOk.f, impl_within_eq, Option.bind_some]

theorem impl_Since_eq (a b : Int) : impl_Since.f a b = some (sinceT a b) := by
  unfold sinceT
  simp only [impl_Since.f, impl_TickOk_eq, Option.bind_some]
  by_cases h1 : 0 ≤ a ∧ a ≤ 1000000000
  · by_cases h2 : 0 ≤ b ∧ b ≤ 1000000000
    · rw [w64 (x := b - a) (by omega) (by omega)]
      simp only [h1, h2, and_self, decide_true, if_true]
      congr 1
      unfold mx
      split <;> split <;> omega
    · simp [h1, h2]
  · simp [h1]

theorem FnExactSince : laws_FnExactSince.Pure := by
  intro a0 a1 w0 w1
  refine ⟨1, ?_⟩
  simp [laws_FnExactSince.f, spec_Since_eq 0, impl_Since_eq]

end Go.Proofs.Ytnejoikjcdjneaa.Pure
