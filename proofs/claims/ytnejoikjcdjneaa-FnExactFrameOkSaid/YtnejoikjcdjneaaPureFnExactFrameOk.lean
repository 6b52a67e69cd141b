/-
  The law FnExactFrameOk answers true: the program's FrameOk is the reference's, for all arguments. No condition.
-/
import Derived.Test.YtnejoikjcdjneaaPFnExactFrameOkx2
namespace Go.Proofs.Ytnejoikjcdjneaa.Pure
open Go.RowKit Go.Proofs.Ytnejoikjcdjneaa.PFnExactFrameOk Go.Proofs.YtnejoikjcdjneaaW.PrintWords Go.Proofs.YtnejoikjcdjneaaW.PrintLast Go.Proofs.YtnejoikjcdjneaaW.PrintMore
set_option linter.unusedSimpArgs false
set_option linter.unusedVariables false

theorem spec_in_eq (a lo hi : Int) : spec_l01In.f a lo hi = some (decide (lo ≤ a ∧ a ≤ hi)) := by
  unfold spec_l01In.f; by_cases h : lo ≤ a <;> simp [h]

theorem impl_within_eq (a lo hi : Int) : impl_within.f a lo hi = some (decide (lo ≤ a ∧ a ≤ hi)) := by
  unfold impl_within.f; by_cases h : lo ≤ a <;> simp [h]

theorem impl_isKey_eq (a : Int) : impl_isKey.f a = some (decide (0 ≤ a ∧ a ≤ 65535)) := by
  simp only [impl_isKey.f, impl_within_eq, Option.bind_some]

theorem impl_isTime_eq (a : Int) : impl_isTime.f a = some (decide (0 ≤ a ∧ a ≤ 1000000)) := by
  simp only [impl_isTime.f, impl_within_eq, Option.bind_some]

theorem impl_isValue_eq (a : Int) : impl_isValue.f a = some (decide ((-1000000) ≤ a ∧ a ≤ 1000000)) := by
  simp only [impl_isValue.f, impl_within_eq, Option.bind_some]

theorem impl_FrameOk_eq (a b c d : Int) : impl_FrameOk.f a b c d = spec_FrameOk.f a b c d := by
  simp only [impl_FrameOk.f, spec_FrameOk.f, spec_in_eq, impl_isKey_eq, impl_isTime_eq, impl_isValue_eq, Option.bind_some]
  by_cases h1 : a = 1
  · simp [h1]
  · by_cases h2 : a = 2
    · simp [h2]
    · by_cases h3 : a = 3
      · by_cases h4 : b = 0
        · by_cases h5 : c = 0
          · simp [h3, h4, h5]
          · simp [h3, h4, h5]
        · simp [h3, h4]
      · simp [h1, h2, h3]
theorem spec_FrameOk_some (a b c d : Int) : ∃ r, spec_FrameOk.f a b c d = some r := by
  simp only [spec_FrameOk.f, spec_in_eq, Option.bind_some]
  (repeat' split) <;> exact ⟨_, rfl⟩

theorem FnExactFrameOk : ∀ (a0_0 : Int) (a0_1 : Int) (a0_2 : Int) (a0_3 : Int), (Lit.int .i64 a0_0).wf = true → (Lit.int .i64 a0_1).wf = true → (Lit.int .i64 a0_2).wf = true → (Lit.int .i64 a0_3).wf = true → laws_FnExactFrameOk.f a0_0 a0_1 a0_2 a0_3 = some true := by
  intro a0 a1 a2 a3 _ _ _ _
  obtain ⟨r, hr⟩ := spec_FrameOk_some a0 a1 a2 a3
  simp [laws_FnExactFrameOk.f, laws_toFrame.f, impl_FrameOk_eq, hr]

end Go.Proofs.Ytnejoikjcdjneaa.Pure
