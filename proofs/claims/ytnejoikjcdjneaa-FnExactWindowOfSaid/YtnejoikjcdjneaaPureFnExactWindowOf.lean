/-
  The law FnExactWindowOf answers true: the program's WindowOf is the reference's, for all arguments. No condition.
-/
import Derived.Test.YtnejoikjcdjneaaPFnExactWindowOfx1
namespace Go.Proofs.Ytnejoikjcdjneaa.Pure
open Go.RowKit Go.Proofs.Ytnejoikjcdjneaa.PFnExactWindowOf Go.Proofs.YtnejoikjcdjneaaW.PrintWords Go.Proofs.YtnejoikjcdjneaaW.PrintLast Go.Proofs.YtnejoikjcdjneaaW.PrintMore
set_option linter.unusedSimpArgs false
set_option linter.unusedVariables false

theorem spec_in_eq (a lo hi : Int) : spec_l01In.f a lo hi = some (decide (lo ≤ a ∧ a ≤ hi)) := by
  unfold spec_l01In.f; by_cases h : lo ≤ a <;> simp [h]

theorem impl_within_eq (a lo hi : Int) : impl_within.f a lo hi = some (decide (lo ≤ a ∧ a ≤ hi)) := by
  unfold impl_within.f; by_cases h : lo ≤ a <;> simp [h]

theorem impl_isTime_eq (a : Int) : impl_isTime.f a = some (decide (0 ≤ a ∧ a ≤ 1000000)) := by
  simp only [impl_isTime.f, impl_within_eq, Option.bind_some]

theorem impl_isSize_eq (a : Int) : impl_isSize.f a = some (decide (1 ≤ a ∧ a ≤ 1000000)) := by
  simp only [impl_isSize.f, impl_within_eq, Option.bind_some]

theorem FnExactWindowOf : laws_FnExactWindowOf.Pure := by
  intro a0 a1 w0 w1
  simp only [laws_FnExactWindowOf.f, spec_WindowOf.f, impl_WindowOf.f, spec_in_eq, impl_isTime_eq, impl_isSize_eq, Option.bind_some]
  by_cases h1 : 0 ≤ a0 ∧ a0 ≤ 1000000
  · by_cases h2 : 1 ≤ a1 ∧ a1 ≤ 1000000
    · have h3 : ¬ a1 = 0 := by omega
      simp [h1, h2, h3]
    · simp [h1, h2]
  · simp [h1]

end Go.Proofs.Ytnejoikjcdjneaa.Pure
