/-
  The law FnExactCloseSource answers true: the program's CloseSource is the reference's, for all arguments. No condition.
-/
import Derived.Test.YtphlobfbokcglaaQFnExactCloseSourcex1
namespace Go.Proofs.Ytphlobfbokcglaa.Pure
open Go.RowKit Go.Proofs.Ytphlobfbokcglaa.QFnExactCloseSource Go.Proofs.YtphlobfbokcglaaW.PrintWords Go.Proofs.YtphlobfbokcglaaW.PrintLast Go.Proofs.YtphlobfbokcglaaW.PrintMore
set_option linter.unusedSimpArgs false
set_option linter.unusedVariables false

theorem spec_in_eq (a lo hi : Int) : spec_l01In.f a lo hi = some (decide (lo ≤ a ∧ a ≤ hi)) := by
  unfold spec_l01In.f; by_cases h : lo ≤ a <;> simp [h]

theorem spec_l04Mark_eq (a : Int) : spec_l04Mark.f a = some (decide ((-1) ≤ a ∧ a ≤ 1000000)) := by
  simp only [spec_l04Mark.f, spec_in_eq, Option.bind_some]

theorem spec_TickOk_eq (a : Int) : spec_TickOk.f a = some (decide (0 ≤ a ∧ a ≤ 1000000000)) := by
  simp only [spec_TickOk.f, spec_in_eq, Option.bind_some]

theorem impl_within_eq (a lo hi : Int) : impl_within.f a lo hi = some (decide (lo ≤ a ∧ a ≤ hi)) := by
  unfold impl_within.f; by_cases h : lo ≤ a <;> simp [h]

theorem impl_isMark_eq (a : Int) : impl_isMark.f a = some (decide ((-1) ≤ a ∧ a ≤ 1000000)) := by
  simp only [impl_isMark.f, impl_within_eq, Option.bind_some]

theorem impl_TickOk_eq (a : Int) : impl_TickOk.f a = some (decide (0 ≤ a ∧ a ≤ 1000000000)) := by
  simp only [impl_TickOk.f, impl_within_eq, Option.bind_some]

def srcOk (m k n : Int) : Bool := decide (-1 ≤ m ∧ m ≤ 1000000) && (decide (-1 ≤ k ∧ k ≤ 1000000) && decide (0 ≤ n ∧ n ≤ 1000000000))
theorem spec_SourceOk_eq (a b c : Int) (d e : Bool) : spec_SourceOk.f a b c d e = some (srcOk a b c) := by
  simp only [spec_SourceOk.f, spec_l04Mark_eq, spec_TickOk_eq, Option.bind_some, srcOk]
  by_cases h1 : -1 ≤ a ∧ a ≤ 1000000
  · by_cases h2 : -1 ≤ b ∧ b ≤ 1000000
    · simp [h1, h2]
    · simp [h1, h2]
  · simp [h1]
theorem impl_SourceOk_eq (a b c : Int) (d e : Bool) : impl_SourceOk.f a b c d e = some (srcOk a b c) := by
  simp only [impl_SourceOk.f, impl_isMark_eq, impl_TickOk_eq, Option.bind_some, srcOk]
  by_cases h1 : -1 ≤ a ∧ a ≤ 1000000
  · by_cases h2 : -1 ≤ b ∧ b ≤ 1000000
    · simp [h1, h2]
    · simp [h1, h2]
  · simp [h1]
theorem srcOk_iff (m k n : Int) : srcOk m k n = true ↔ (-1 ≤ m ∧ m ≤ 1000000) ∧ (-1 ≤ k ∧ k ≤ 1000000) ∧ 0 ≤ n ∧ n ≤ 1000000000 := by
  simp [srcOk]

theorem eqSource_refl (a b c : Int) (d e : Bool) : laws_eqSource.f a b c d e a b c d e = some true := by
  simp [laws_eqSource.f]

theorem FnExactCloseSource : ∀ (a0_0 : Int) (a0_1 : Int) (a0_2 : Int) (a0_3 : Bool) (a0_4 : Bool), (Lit.int .i64 a0_0).wf = true → (Lit.int .i64 a0_1).wf = true → (Lit.int .i64 a0_2).wf = true → laws_FnExactCloseSource.f a0_0 a0_1 a0_2 a0_3 a0_4 = some true := by
  intro a0 a1 a2 a3 a4 _ _ _
  simp only [laws_FnExactCloseSource.f, laws_toSource.f, spec_CloseSource.f, impl_CloseSource.f, spec_SourceOk_eq, impl_SourceOk_eq, Option.bind_some]
  cases srcOk a0 a1 a2 <;> cases a4 <;> simp [eqSource_refl]

end Go.Proofs.Ytphlobfbokcglaa.Pure
