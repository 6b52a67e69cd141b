/-
  The law FnExactSeeEvent answers true: the program's SeeEvent is the reference's, for all arguments. No condition.
-/
import Derived.Test.YtphlobfbokcglaaQFnExactSeeEventx2
namespace Go.Proofs.Ytphlobfbokcglaa.Pure
open Go.RowKit Go.Proofs.Ytphlobfbokcglaa.QFnExactSeeEvent Go.Proofs.YtphlobfbokcglaaW.PrintWords Go.Proofs.YtphlobfbokcglaaW.PrintLast Go.Proofs.YtphlobfbokcglaaW.PrintMore
set_option linter.unusedSimpArgs false
set_option linter.unusedVariables false

theorem spec_in_eq (a lo hi : Int) : spec_l01In.f a lo hi = some (decide (lo ≤ a ∧ a ≤ hi)) := by
  unfold spec_l01In.f; by_cases h : lo ≤ a <;> simp [h]

theorem spec_l04Mark_eq (a : Int) : spec_l04Mark.f a = some (decide ((-1) ≤ a ∧ a ≤ 1000000)) := by
  simp only [spec_l04Mark.f, spec_in_eq, Option.bind_some]

theorem spec_TickOk_eq (a : Int) : spec_TickOk.f a = some (decide (0 ≤ a ∧ a ≤ 1000000000)) := by
  simp only [spec_TickOk.f, spec_in_eq, Option.bind_some]

theorem impl_within_eq (a lo hi : Int) : impl_within.f a lo hi = some (decide (lo ≤ a ∧ a ≤ hi)) := by
  unfold impl_within.f; by_cases h : lo ≤ a <;> simp [h]

theorem impl_isMark_eq (a : Int) : impl_isMark.f a = some (decide ((-1) ≤ a ∧ a ≤ 1000000)) := by
  simp only [impl_isMark.f, impl_within_eq, Option.bind_some]

theorem impl_TickOk_eq (a : Int) : impl_TickOk.f a = some (decide (0 ≤ a ∧ a ≤ 1000000000)) := by
  simp only [impl_TickOk.f, impl_within_eq, Option.bind_some]

def srcOk (m k n : Int) : Bool := decide (-1 ≤ m ∧ m ≤ 1000000) && (decide (-1 ≤ k ∧ k ≤ 1000000) && decide (0 ≤ n ∧ n ≤ 1000000000))
theorem spec_SourceOk_eq (a b c : Int) (d e : Bool) : spec_SourceOk.f a b c d e = some (srcOk a b c) := by
  simp only [spec_SourceOk.f, spec_l04Mark_eq, spec_TickOk_eq, Option.bind_some, srcOk]
  by_cases h1 : -1 ≤ a ∧ a ≤ 1000000
  · by_cases h2 : -1 ≤ b ∧ b ≤ 1000000
    · simp [h1, h2]
    · simp [h1, h2]
  · simp [h1]
theorem impl_SourceOk_eq (a b c : Int) (d e : Bool) : impl_SourceOk.f a b c d e = some (srcOk a b c) := by
  simp only [impl_SourceOk.f, impl_isMark_eq, impl_TickOk_eq, Option.bind_some, srcOk]
  by_cases h1 : -1 ≤ a ∧ a ≤ 1000000
  · by_cases h2 : -1 ≤ b ∧ b ≤ 1000000
    · simp [h1, h2]
    · simp [h1, h2]
  · simp [h1]
theorem srcOk_iff (m k n : Int) : srcOk m k n = true ↔ (-1 ≤ m ∧ m ≤ 1000000) ∧ (-1 ≤ k ∧ k ≤ 1000000) ∧ 0 ≤ n ∧ n ≤ 1000000000 := by
  simp [srcOk]

theorem impl_isTime_eq (a : Int) : impl_isTime.f a = some (decide (0 ≤ a ∧ a ≤ 1000000)) := by
  simp only [impl_isTime.f, impl_within_eq, Option.bind_some]

def hearsB (a b c : Int) (e : Bool) (x y : Int) : Bool := srcOk a b c && (e && (decide (0 ≤ x ∧ x ≤ 1000000) && decide (c ≤ y ∧ y ≤ 1000000000)))
theorem spec_l04Fine_eq (a b c : Int) (d e : Bool) (x y : Int) : spec_l04Fine.f a b c d e x y = some (hearsB a b c e x y) := by
  simp only [spec_l04Fine.f, spec_SourceOk_eq, spec_in_eq, Option.bind_some, hearsB]
  cases srcOk a b c <;> cases e <;> by_cases h1 : 0 ≤ x ∧ x ≤ 1000000 <;> simp [h1]
theorem impl_hears_eq (a b c : Int) (d e : Bool) (x y : Int) : impl_Source_hears.f a b c d e x y = some (hearsB a b c e x y, a, b, c, d, e) := by
  simp only [impl_Source_hears.f, impl_SourceOk_eq, impl_isTime_eq, impl_TickOk_eq, Option.bind_some, hearsB]
  by_cases h0 : srcOk a b c = true
  · have hb := (srcOk_iff a b c).1 h0
    cases e
    · simp [h0]
    · by_cases h1 : 0 ≤ x ∧ x ≤ 1000000
      · by_cases h2 : 0 ≤ y ∧ y ≤ 1000000000
        · simp [h0, h1, h2]
        · have h3 : ¬ (c ≤ y ∧ y ≤ 1000000000) := by omega
          simp [h0, h1, h2, h3]
      · simp [h0, h1]
  · simp [h0]
theorem spec_l04More_eq (a b : Int) : spec_l04More.f a b = some (mx a b) := by
  unfold spec_l04More.f mx
  by_cases h : b > a
  · rw [if_pos h, if_pos (by omega)]
  · rw [if_neg h, if_neg (by omega)]

def seeEventV (a b c : Int) (d e : Bool) (l x y : Int) : Int × Int × Int × Bool × Bool × Bool :=
  if hearsB a b c e x y = true then (if 0 ≤ l ∧ l ≤ 1000000 then (mx a x, mx b (wrap64 (wrap64 (mx a x - l) - 1)), y, false, e, true) else (a, b, c, d, e, false)) else (a, b, c, d, e, false)
theorem spec_SeeEvent_eq {k : Nat} (hk : 1 ≤ k) (a b c : Int) (d e : Bool) (l x y : Int) : spec_SeeEvent.f k a b c d e l x y = some (seeEventV a b c d e l x y) := by
  obtain ⟨k, rfl⟩ : ∃ m, k = m + 1 := ⟨k - 1, by omega⟩
  simp only [spec_SeeEvent.f, spec_l04Fine_eq, spec_in_eq, spec_SeeEvent.j0, spec_l04More_eq, Option.bind_some, seeEventV]
  cases hearsB a b c e x y <;> by_cases h : 0 ≤ l ∧ l ≤ 1000000 <;> simp [h]
theorem impl_SeeEvent_eq (a b c : Int) (d e : Bool) (l x y : Int) : impl_SeeEvent.f a b c d e l x y = some (seeEventV a b c d e l x y) := by
  simp only [impl_SeeEvent.f, impl_hears_eq, impl_isTime_eq, Option.bind_some, seeEventV]
  cases hearsB a b c e x y <;> by_cases h : 0 ≤ l ∧ l ≤ 1000000 <;> simp [h]

theorem eqSource_refl (a b c : Int) (d e : Bool) : laws_eqSource.f a b c d e a b c d e = some true := by
  simp [laws_eqSource.f]

theorem FnExactSeeEvent : ∀ (a0_0 : Int) (a0_1 : Int) (a0_2 : Int) (a0_3 : Bool) (a0_4 : Bool) (a1 : Int) (a2 : Int) (a3 : Int), (Lit.int .i64 a0_0).wf = true → (Lit.int .i64 a0_1).wf = true → (Lit.int .i64 a0_2).wf = true → (Lit.int .i64 a1).wf = true → (Lit.int .i64 a2).wf = true → (Lit.int .i64 a3).wf = true → ∃ k, laws_FnExactSeeEvent.f k a0_0 a0_1 a0_2 a0_3 a0_4 a1 a2 a3 = some true := by
  intro a0 a1 a2 a3 a4 b c d _ _ _ _ _ _
  refine ⟨1, ?_⟩
  simp only [laws_FnExactSeeEvent.f, laws_toSource.f, spec_SeeEvent_eq (Nat.le_refl 1), impl_SeeEvent_eq, Option.bind_some, eqSource_refl]
  simp

end Go.Proofs.Ytphlobfbokcglaa.Pure
