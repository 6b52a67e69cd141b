/-
  The law FnExactAggOk answers true: the program's AggOk is the reference's, for all arguments. No condition.
-/
import Derived.Test.YtnejoikjcdjneaaPFnExactAggOkx1
namespace Go.Proofs.Ytnejoikjcdjneaa.Pure
open Go.RowKit Go.Proofs.Ytnejoikjcdjneaa.PFnExactAggOk Go.Proofs.YtnejoikjcdjneaaW.PrintWords Go.Proofs.YtnejoikjcdjneaaW.PrintLast Go.Proofs.YtnejoikjcdjneaaW.PrintMore
set_option linter.unusedSimpArgs false
set_option linter.unusedVariables false

theorem spec_in_eq (a lo hi : Int) : spec_l01In.f a lo hi = some (decide (lo ≤ a ∧ a ≤ hi)) := by
  unfold spec_l01In.f; by_cases h : lo ≤ a <;> simp [h]

theorem spec_l05Value_eq (a : Int) : spec_l05Value.f a = some (decide ((-1000000) ≤ a ∧ a ≤ 1000000)) := by
  simp only [spec_l05Value.f, spec_in_eq, Option.bind_some]

theorem impl_within_eq (a lo hi : Int) : impl_within.f a lo hi = some (decide (lo ≤ a ∧ a ≤ hi)) := by
  unfold impl_within.f; by_cases h : lo ≤ a <;> simp [h]

theorem impl_isTime_eq (a : Int) : impl_isTime.f a = some (decide (0 ≤ a ∧ a ≤ 1000000)) := by
  simp only [impl_isTime.f, impl_within_eq, Option.bind_some]

theorem impl_isKey_eq (a : Int) : impl_isKey.f a = some (decide (0 ≤ a ∧ a ≤ 65535)) := by
  simp only [impl_isKey.f, impl_within_eq, Option.bind_some]

theorem impl_isSum_eq (a : Int) : impl_isSum.f a = some (decide ((-1000000000) ≤ a ∧ a ≤ 1000000000)) := by
  simp only [impl_isSum.f, impl_within_eq, Option.bind_some]

theorem impl_isValue_eq (a : Int) : impl_isValue.f a = some (decide ((-1000000) ≤ a ∧ a ≤ 1000000)) := by
  simp only [impl_isValue.f, impl_within_eq, Option.bind_some]

theorem impl_AggOk_eq (a b c d e f : Int) : impl_AggOk.f a b c d e f = spec_AggOk.f a b c d e f := by
  simp only [impl_AggOk.f, spec_AggOk.f, spec_in_eq, spec_l05Value_eq, impl_within_eq, impl_isTime_eq, impl_isKey_eq, impl_isSum_eq, impl_isValue_eq]
theorem spec_AggOk_some (a b c d e f : Int) : ∃ r, spec_AggOk.f a b c d e f = some r := by
  simp only [spec_AggOk.f, spec_in_eq, spec_l05Value_eq, Option.bind_some]
  (repeat' split) <;> exact ⟨_, rfl⟩

theorem FnExactAggOk : ∀ (a0_0 : Int) (a0_1 : Int) (a0_2 : Int) (a0_3 : Int) (a0_4 : Int) (a0_5 : Int), (Lit.int .i64 a0_0).wf = true → (Lit.int .i64 a0_1).wf = true → (Lit.int .i64 a0_2).wf = true → (Lit.int .i64 a0_3).wf = true → (Lit.int .i64 a0_4).wf = true → (Lit.int .i64 a0_5).wf = true → laws_FnExactAggOk.f a0_0 a0_1 a0_2 a0_3 a0_4 a0_5 = some true := by
  intro a0 a1 a2 a3 a4 a5 _ _ _ _ _ _
  obtain ⟨r, hr⟩ := spec_AggOk_some a0 a1 a2 a3 a4 a5
  simp [laws_FnExactAggOk.f, laws_toAgg.f, impl_AggOk_eq, hr]

end Go.Proofs.Ytnejoikjcdjneaa.Pure
