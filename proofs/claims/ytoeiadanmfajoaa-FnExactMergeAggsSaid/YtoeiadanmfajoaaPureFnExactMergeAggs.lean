/-
  The law FnExactMergeAggs answers true: the program's MergeAggs is the reference's, for all arguments. No condition.
-/
import Derived.Test.YtoeiadanmfajoaaQFnExactMergeAggsx4
namespace Go.Proofs.Ytoeiadanmfajoaa.Pure
open Go.RowKit Go.Proofs.Ytoeiadanmfajoaa.QFnExactMergeAggs Go.Proofs.YtoeiadanmfajoaaW.PrintWords Go.Proofs.YtoeiadanmfajoaaW.PrintLast Go.Proofs.YtoeiadanmfajoaaW.PrintMore
set_option linter.unusedSimpArgs false
set_option linter.unusedVariables false

theorem wi {i : Nat} (h : i < 4611686018427387904) : wrap64 ((i : Int) + 1) = ((i + 1 : Nat) : Int) := by
  unfold wrap64; omega

def cmpV (a b : Int) : Int := if a < b then -1 else if a > b then 1 else 0
theorem cmp_Compare_eq (a b : Int) : cmp_Compare_int.f a b = some (cmpV a b) := by
  simp only [cmp_Compare_int.f, cmp_isNaN_int.f, Option.bind_some, bne_self_eq_false, Bool.false_eq_true, if_false, cmpV]
  (repeat' split) <;> rfl
def ordV (a b c d : Int) : Int := if cmpV a c = 0 then cmpV b d else cmpV a c
theorem cmp_Or_eq {k : Nat} (hk : 3 ≤ k) (a b : Int) : cmp_Or_int.f k [a, b] = some (if a = 0 then b else a) := by
  obtain ⟨k, rfl⟩ : ∃ m, k = m + 1 + 1 + 1 := ⟨k - 3, by omega⟩
  have w0 : wrap64 (0 + 1) = 1 := by unfold wrap64; omega
  have w1 : wrap64 (1 + 1) = 2 := by unfold wrap64; omega
  have r0 : rd [a, b] 0 = a := rfl
  have r1 : rd [a, b] 1 = b := rfl
  simp only [cmp_Or_int.f, cmp_Or_int.l0, List.length_cons, List.length_nil, w0, w1, r0, r1]
  by_cases h1 : a = 0
  · by_cases h2 : b = 0
    · simp [h1, h2]
    · simp [h1, h2]
  · simp [h1]
theorem impl_aggOrder_eq {k : Nat} (hk : 3 ≤ k) (a b c d e f a' b' c' d' e' f' : Int) : impl_aggOrder.f k a b c d e f a' b' c' d' e' f' = some (ordV a b a' b') := by
  simp only [impl_aggOrder.f, cmp_Compare_eq, cmp_Or_eq hk, Option.bind_some, ordV]
theorem cmpV_zero (a b : Int) : cmpV a b = 0 ↔ a = b := by
  unfold cmpV
  split
  · omega
  · split <;> omega
theorem ordV_zero (a b c d : Int) : ordV a b c d = 0 ↔ a = c ∧ b = d := by
  unfold ordV
  by_cases h : cmpV a c = 0
  · rw [if_pos h, cmpV_zero]
    exact ⟨fun h2 => ⟨(cmpV_zero _ _).1 h, h2⟩, fun h2 => h2.2⟩
  · rw [if_neg h]
    exact ⟨fun h2 => absurd h2 h, fun h2 => absurd ((cmpV_zero _ _).2 h2.1) h⟩

theorem spec_in_eq (a lo hi : Int) : spec_l01In.f a lo hi = some (decide (lo ≤ a ∧ a ≤ hi)) := by
  unfold spec_l01In.f; by_cases h : lo ≤ a <;> simp [h]

theorem spec_l05Value_eq (a : Int) : spec_l05Value.f a = some (decide ((-1000000) ≤ a ∧ a ≤ 1000000)) := by
  simp only [spec_l05Value.f, spec_in_eq, Option.bind_some]

theorem impl_within_eq (a lo hi : Int) : impl_within.f a lo hi = some (decide (lo ≤ a ∧ a ≤ hi)) := by
  unfold impl_within.f; by_cases h : lo ≤ a <;> simp [h]

theorem impl_isTime_eq (a : Int) : impl_isTime.f a = some (decide (0 ≤ a ∧ a ≤ 1000000)) := by
  simp only [impl_isTime.f, impl_within_eq, Option.bind_some]

theorem impl_isKey_eq (a : Int) : impl_isKey.f a = some (decide (0 ≤ a ∧ a ≤ 65535)) := by
  simp only [impl_isKey.f, impl_within_eq, Option.bind_some]

theorem impl_isSum_eq (a : Int) : impl_isSum.f a = some (decide ((-1000000000) ≤ a ∧ a ≤ 1000000000)) := by
  simp only [impl_isSum.f, impl_within_eq, Option.bind_some]

theorem impl_isValue_eq (a : Int) : impl_isValue.f a = some (decide ((-1000000) ≤ a ∧ a ≤ 1000000)) := by
  simp only [impl_isValue.f, impl_within_eq, Option.bind_some]

theorem impl_AggOk_eq (a b c d e f : Int) : impl_AggOk.f a b c d e f = spec_AggOk.f a b c d e f := by
  simp only [impl_AggOk.f, spec_AggOk.f, spec_in_eq, spec_l05Value_eq, impl_within_eq, impl_isTime_eq, impl_isKey_eq, impl_isSum_eq, impl_isValue_eq]
theorem spec_AggOk_some (a b c d e f : Int) : ∃ r, spec_AggOk.f a b c d e f = some r := by
  simp only [spec_AggOk.f, spec_in_eq, spec_l05Value_eq, Option.bind_some]
  (repeat' split) <;> exact ⟨_, rfl⟩

def aggOkB (a b c d e f : Int) : Bool :=
  decide (0 ≤ a ∧ a ≤ 1000000) && (decide (0 ≤ b ∧ b ≤ 65535) && (decide (1 ≤ c ∧ c ≤ 1000000000) && (decide (-1000000000 ≤ d ∧ d ≤ 1000000000) && (decide (-1000000 ≤ e ∧ e ≤ 1000000) && (decide (-1000000 ≤ f ∧ f ≤ 1000000) && decide (e ≤ f))))))
theorem spec_AggOk_eq (a b c d e f : Int) : spec_AggOk.f a b c d e f = some (aggOkB a b c d e f) := by
  simp only [spec_AggOk.f, spec_in_eq, spec_l05Value_eq, Option.bind_some, aggOkB]
  by_cases h1 : 0 ≤ a ∧ a ≤ 1000000
  · by_cases h2 : 0 ≤ b ∧ b ≤ 65535
    · by_cases h3 : 1 ≤ c ∧ c ≤ 1000000000
      · by_cases h4 : -1000000000 ≤ d ∧ d ≤ 1000000000
        · by_cases h5 : -1000000 ≤ e ∧ e ≤ 1000000
          · by_cases h6 : -1000000 ≤ f ∧ f ≤ 1000000
            · simp [h1, h2, h3, h4, h5, h6]
            · simp [h1, h2, h3, h4, h5, h6]
          · simp [h1, h2, h3, h4, h5]
        · simp [h1, h2, h3, h4]
      · simp [h1, h2, h3]
    · simp [h1, h2]
  · simp [h1]
theorem aggOkB_iff (a b c d e f : Int) : aggOkB a b c d e f = true ↔ (0 ≤ a ∧ a ≤ 1000000) ∧ (0 ≤ b ∧ b ≤ 65535) ∧ (1 ≤ c ∧ c ≤ 1000000000) ∧ (-1000000000 ≤ d ∧ d ≤ 1000000000) ∧ (-1000000 ≤ e ∧ e ≤ 1000000) ∧ (-1000000 ≤ f ∧ f ≤ 1000000) ∧ e ≤ f := by
  simp [aggOkB]

theorem w64 {x : Int} (h1 : -9223372036854775808 ≤ x) (h2 : x ≤ 9223372036854775807) : wrap64 x = x := by
  unfold wrap64; omega

def capV (x : Int) : Int := if x > 1000000000 then 1000000000 else if x < -1000000000 then -1000000000 else x
theorem spec_l05Cap_eq (x : Int) : spec_l05Cap.f x = some (capV x) := by
  unfold spec_l05Cap.f capV
  (repeat' split) <;> rfl
def sumV (a b c d e f c' d' e' f' : Int) : Int × Int × Int × Int × Int × Int := (a, b, capV (c + c'), capV (d + d'), mn e e', mx f f')
theorem spec_l05Sum_eq {a b c d e f a' b' c' d' e' f' : Int} (h1 : -1000000000 ≤ c ∧ c ≤ 1000000000) (h2 : -1000000000 ≤ c' ∧ c' ≤ 1000000000) (h3 : -1000000000 ≤ d ∧ d ≤ 1000000000) (h4 : -1000000000 ≤ d' ∧ d' ≤ 1000000000) :
    spec_l05Sum.f a b c d e f a' b' c' d' e' f' = some (sumV a b c d e f c' d' e' f') := by
  simp only [spec_l05Sum.f, spec_l05Cap_eq, w64 (x := c + c') (by omega) (by omega), w64 (x := d + d') (by omega) (by omega), Option.bind_some, sumV, mn, mx]
  by_cases h5 : e' < e
  · by_cases h6 : f' > f
    · rw [if_pos h5, if_pos h6, if_pos h5, if_pos (by omega)]
    · rw [if_pos h5, if_neg h6, if_pos h5, if_neg (by omega)]
  · by_cases h6 : f' > f
    · rw [if_neg h5, if_pos h6, if_neg h5, if_pos (by omega)]
    · rw [if_neg h5, if_neg h6, if_neg h5, if_neg (by omega)]
theorem impl_merged_eq {a b c d e f a' b' c' d' e' f' : Int} (h1 : 1 ≤ c ∧ c ≤ 1000000000) (h2 : 1 ≤ c' ∧ c' ≤ 1000000000) (h3 : -1000000000 ≤ d ∧ d ≤ 1000000000) (h4 : -1000000000 ≤ d' ∧ d' ≤ 1000000000) :
    impl_merged.f a b c d e f a' b' c' d' e' f' = some (sumV a b c d e f c' d' e' f') := by
  have e1 : mn (c + c') 1000000000 = capV (c + c') := by
    unfold mn capV; (repeat' split) <;> omega
  have e2 : mn (mx (d + d') (-1000000000)) 1000000000 = capV (d + d') := by
    unfold mn mx capV; (repeat' split) <;> omega
  simp only [impl_merged.f, impl_sumOf.f, w64 (x := c + c') (by omega) (by omega), w64 (x := d + d') (by omega) (by omega), Option.bind_some, sumV, e1, e2]

def mergeV (a b c d e f a' b' c' d' e' f' : Int) : Int × Int × Int × Int × Int × Int × Bool :=
  if aggOkB a b c d e f = true then (if aggOkB a' b' c' d' e' f' = true then (if a = a' then (if b = b' then (a, b, capV (c + c'), capV (d + d'), mn e e', mx f f', true) else (0, 0, 0, 0, 0, 0, false)) else (0, 0, 0, 0, 0, 0, false)) else (0, 0, 0, 0, 0, 0, false)) else (0, 0, 0, 0, 0, 0, false)
theorem spec_MergeAggs_eq (a b c d e f a' b' c' d' e' f' : Int) : spec_MergeAggs.f a b c d e f a' b' c' d' e' f' = some (mergeV a b c d e f a' b' c' d' e' f') := by
  simp only [spec_MergeAggs.f, spec_AggOk_eq, Option.bind_some, mergeV]
  by_cases h1 : aggOkB a b c d e f = true
  · by_cases h2 : aggOkB a' b' c' d' e' f' = true
    · have g1 := (aggOkB_iff _ _ _ _ _ _).1 h1
      have g2 := (aggOkB_iff _ _ _ _ _ _).1 h2
      rw [if_pos h1, if_pos h2, if_pos h1, if_pos h2, spec_l05Sum_eq (by omega) (by omega) (by omega) (by omega)]
      by_cases h3 : a = a'
      · by_cases h4 : b = b'
        · simp [h3, h4, sumV]
        · simp [h3, h4]
      · simp [h3]
    · simp [h1, h2]
  · simp [h1]
theorem impl_MergeAggs_eq {k : Nat} (hk : 3 ≤ k) (a b c d e f a' b' c' d' e' f' : Int) : impl_MergeAggs.f k a b c d e f a' b' c' d' e' f' = some (mergeV a b c d e f a' b' c' d' e' f') := by
  simp only [impl_MergeAggs.f, impl_AggOk_eq, spec_AggOk_eq, impl_aggOrder_eq hk, Option.bind_some, mergeV]
  by_cases h1 : aggOkB a b c d e f = true
  · by_cases h2 : aggOkB a' b' c' d' e' f' = true
    · have g1 := (aggOkB_iff _ _ _ _ _ _).1 h1
      have g2 := (aggOkB_iff _ _ _ _ _ _).1 h2
      rw [if_pos h1, if_pos h2, if_pos h1, if_pos h2, impl_merged_eq (by omega) (by omega) (by omega) (by omega)]
      by_cases h3 : a = a'
      · by_cases h4 : b = b'
        · have h5 : ordV a b a' b' = 0 := (ordV_zero _ _ _ _).2 ⟨h3, h4⟩
          simp [h3, h4, sumV] at h5 ⊢
          simp [h5]
        · have h5 : ¬ ordV a b a' b' = 0 := fun hh => h4 ((ordV_zero _ _ _ _).1 hh).2
          simp [h4, h5]
      · have h5 : ¬ ordV a b a' b' = 0 := fun hh => h3 ((ordV_zero _ _ _ _).1 hh).1
        simp [h3, h5]
    · simp [h1, h2]
  · simp [h1]

theorem FnExactMergeAggs : ∀ (a0_0 : Int) (a0_1 : Int) (a0_2 : Int) (a0_3 : Int) (a0_4 : Int) (a0_5 : Int) (a1_0 : Int) (a1_1 : Int) (a1_2 : Int) (a1_3 : Int) (a1_4 : Int) (a1_5 : Int), (Lit.int .i64 a0_0).wf = true → (Lit.int .i64 a0_1).wf = true → (Lit.int .i64 a0_2).wf = true → (Lit.int .i64 a0_3).wf = true → (Lit.int .i64 a0_4).wf = true → (Lit.int .i64 a0_5).wf = true → (Lit.int .i64 a1_0).wf = true → (Lit.int .i64 a1_1).wf = true → (Lit.int .i64 a1_2).wf = true → (Lit.int .i64 a1_3).wf = true → (Lit.int .i64 a1_4).wf = true → (Lit.int .i64 a1_5).wf = true → ∃ k, laws_FnExactMergeAggs.f k a0_0 a0_1 a0_2 a0_3 a0_4 a0_5 a1_0 a1_1 a1_2 a1_3 a1_4 a1_5 = some true := by
  intro a b c d e f a' b' c' d' e' f' _ _ _ _ _ _ _ _ _ _ _ _
  refine ⟨3, ?_⟩
  simp only [laws_FnExactMergeAggs.f, laws_toAgg.f, spec_MergeAggs_eq, impl_MergeAggs_eq (Nat.le_refl 3), Option.bind_some, laws_eqAgg.f]
  simp

end Go.Proofs.Ytoeiadanmfajoaa.Pure
