/-
  The law FnExactNewSource answers true: the program's NewSource is the reference's, for all arguments. No condition.
-/
import Derived.Test.YtnejoikjcdjneaaPFnExactNewSourcex1
namespace Go.Proofs.Ytnejoikjcdjneaa.Pure
open Go.RowKit Go.Proofs.Ytnejoikjcdjneaa.PFnExactNewSource Go.Proofs.YtnejoikjcdjneaaW.PrintWords Go.Proofs.YtnejoikjcdjneaaW.PrintLast Go.Proofs.YtnejoikjcdjneaaW.PrintMore
set_option linter.unusedSimpArgs false
set_option linter.unusedVariables false

theorem spec_in_eq (a lo hi : Int) : spec_l01In.f a lo hi = some (decide (lo ≤ a ∧ a ≤ hi)) := by
  unfold spec_l01In.f; by_cases h : lo ≤ a <;> simp [h]

theorem spec_TickOk_eq (a : Int) : spec_TickOk.f a = some (decide (0 ≤ a ∧ a ≤ 1000000000)) := by
  simp only [spec_TickOk.f, spec_in_eq, Option.bind_some]

theorem impl_within_eq (a lo hi : Int) : impl_within.f a lo hi = some (decide (lo ≤ a ∧ a ≤ hi)) := by
  unfold impl_within.f; by_cases h : lo ≤ a <;> simp [h]

theorem impl_TickOk_eq (a : Int) : impl_TickOk.f a = some (decide (0 ≤ a ∧ a ≤ 1000000000)) := by
  simp only [impl_TickOk.f, impl_within_eq, Option.bind_some]

theorem FnExactNewSource : laws_FnExactNewSource.Pure := by
  intro a0 w0
  simp only [laws_FnExactNewSource.f, spec_NewSource.f, impl_NewSource.f, spec_TickOk_eq, impl_TickOk_eq, Option.bind_some, laws_eqSource.f]
  by_cases h1 : 0 ≤ a0 ∧ a0 ≤ 1000000000
  · simp [h1]
  · simp [h1]

end Go.Proofs.Ytnejoikjcdjneaa.Pure
