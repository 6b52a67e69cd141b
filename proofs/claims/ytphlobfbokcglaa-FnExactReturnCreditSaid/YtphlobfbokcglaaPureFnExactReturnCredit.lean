/-
  The law FnExactReturnCredit answers true: the program's ReturnCredit is the reference's, for all arguments. No condition.
-/
import Derived.Test.YtphlobfbokcglaaPFnExactReturnCreditx1
namespace Go.Proofs.Ytphlobfbokcglaa.Pure
open Go.RowKit Go.Proofs.Ytphlobfbokcglaa.PFnExactReturnCredit Go.Proofs.YtphlobfbokcglaaW.PrintWords Go.Proofs.YtphlobfbokcglaaW.PrintLast Go.Proofs.YtphlobfbokcglaaW.PrintMore
set_option linter.unusedSimpArgs false
set_option linter.unusedVariables false

theorem w64 {x : Int} (h1 : -9223372036854775808 ≤ x) (h2 : x ≤ 9223372036854775807) : wrap64 x = x := by
  unfold wrap64; omega

theorem spec_in_eq (a lo hi : Int) : spec_l01In.f a lo hi = some (decide (lo ≤ a ∧ a ≤ hi)) := by
  unfold spec_l01In.f; by_cases h : lo ≤ a <;> simp [h]

theorem impl_within_eq (a lo hi : Int) : impl_within.f a lo hi = some (decide (lo ≤ a ∧ a ≤ hi)) := by
  unfold impl_within.f; by_cases h : lo ≤ a <;> simp [h]

def credOk (a b : Int) : Bool := decide (0 ≤ a ∧ a ≤ 20) && decide (0 ≤ b ∧ b ≤ 20 - a)
theorem spec_l03Credit_eq (a b : Int) : spec_l03Credit.f a b = some (credOk a b) := by
  simp only [spec_l03Credit.f, spec_in_eq, Option.bind_some, credOk]
  by_cases h1 : 0 ≤ a ∧ a ≤ 20
  · rw [w64 (x := 20 - a) (by omega) (by omega)]
    simp [h1]
  · simp [h1]
theorem impl_creditOk_eq (a b : Int) : impl_creditOk.f a b = some (credOk a b) := by
  simp only [impl_creditOk.f, impl_within_eq, Option.bind_some, credOk]
  by_cases h1 : 0 ≤ a ∧ a ≤ 20
  · by_cases h2 : 0 ≤ b ∧ b ≤ 20
    · rw [w64 (x := a + b) (by omega) (by omega)]
      by_cases h3 : a + b ≤ 20
      · have h4 : b ≤ 20 - a := by omega
        simp [h1, h2, h3, h4]
      · have h4 : ¬ b ≤ 20 - a := by omega
        simp [h1, h2, h3, h4]
    · have h3 : ¬ (0 ≤ b ∧ b ≤ 20 - a) := by omega
      simp [h1, h2, h3]
  · simp [h1]

theorem FnExactReturnCredit : ∀ (a0_0 : Int) (a0_1 : Int), (Lit.int .i64 a0_0).wf = true → (Lit.int .i64 a0_1).wf = true → laws_FnExactReturnCredit.f a0_0 a0_1 = some true := by
  intro a0 a1 _ _
  simp only [laws_FnExactReturnCredit.f, laws_toCredit.f, spec_ReturnCredit.f, impl_ReturnCredit.f, spec_l03Credit_eq, impl_creditOk_eq, Option.bind_some]
  cases credOk a0 a1
  · simp [laws_eqCredit.f]
  · by_cases h : a1 = 0 <;> simp [laws_eqCredit.f, h]

end Go.Proofs.Ytphlobfbokcglaa.Pure
