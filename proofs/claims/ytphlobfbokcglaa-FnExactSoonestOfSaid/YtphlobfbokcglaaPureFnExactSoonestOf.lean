/-
  The law FnExactSoonestOf answers true: the program's SoonestOf is the reference's, for all arguments. No condition.
-/
import Derived.Test.YtphlobfbokcglaaPFnExactSoonestOfx1
namespace Go.Proofs.Ytphlobfbokcglaa.Pure
open Go.RowKit Go.Proofs.Ytphlobfbokcglaa.PFnExactSoonestOf Go.Proofs.YtphlobfbokcglaaW.PrintWords Go.Proofs.YtphlobfbokcglaaW.PrintLast Go.Proofs.YtphlobfbokcglaaW.PrintMore
set_option linter.unusedSimpArgs false
set_option linter.unusedVariables false

theorem wi {i : Nat} (h : i < 4611686018427387904) : wrap64 ((i : Int) + 1) = ((i + 1 : Nat) : Int) := by
  unfold wrap64; omega

theorem spec_in_eq (a lo hi : Int) : spec_l01In.f a lo hi = some (decide (lo ≤ a ∧ a ≤ hi)) := by
  unfold spec_l01In.f; by_cases h : lo ≤ a <;> simp [h]

theorem spec_TickOk_eq (a : Int) : spec_TickOk.f a = some (decide (0 ≤ a ∧ a ≤ 1000000000)) := by
  simp only [spec_TickOk.f, spec_in_eq, Option.bind_some]

theorem impl_within_eq (a lo hi : Int) : impl_within.f a lo hi = some (decide (lo ≤ a ∧ a ≤ hi)) := by
  unfold impl_within.f; by_cases h : lo ≤ a <;> simp [h]

theorem impl_TickOk_eq (a : Int) : impl_TickOk.f a = some (decide (0 ≤ a ∧ a ≤ 1000000000)) := by
  simp only [impl_TickOk.f, impl_within_eq, Option.bind_some]

theorem SoonestOf_l0_eq (l : List Int) : ∀ (k : Nat) (x3 x4 : Int), impl_SoonestOf.l0 k x3 l (l.length : Int) x4 = spec_SoonestOf.l0 k l x3 x4 := by
  intro k
  induction k with
  | zero => intro x3 x4; rfl
  | succ k ih =>
    intro x3 x4
    simp only [impl_SoonestOf.l0, spec_SoonestOf.l0, impl_TickOk_eq, spec_TickOk_eq, ih, Option.bind_some]
    by_cases h1 : x4 < (l.length : Int)
    · by_cases h2 : 0 ≤ x4
      · simp only [if_pos h1, if_pos h2]
      · simp only [if_pos h1, if_neg h2]
    · simp only [if_neg h1]
theorem spec_SoonestOf_l0_some (l : List Int) (hn : l.length ≤ 300) : ∀ (d k i : Nat) (x : Int), i + d = l.length → d < k → ∃ r, spec_SoonestOf.l0 k l x (i : Int) = some r := by
  intro d
  induction d with
  | zero =>
    intro k i x h hk
    obtain ⟨k, rfl⟩ : ∃ m, k = m + 1 := ⟨k - 1, by omega⟩
    simp only [spec_SoonestOf.l0]
    rw [if_neg (by omega)]
    exact ⟨_, rfl⟩
  | succ d ih =>
    intro k i x h hk
    obtain ⟨k, rfl⟩ : ∃ m, k = m + 1 := ⟨k - 1, by omega⟩
    simp only [spec_SoonestOf.l0, spec_TickOk_eq, Option.bind_some]
    rw [if_pos (by omega), if_pos (by omega), wi (by omega)]
    (repeat' split) <;> exact ih k (i + 1) _ (by omega) (by omega)
theorem SoonestOf_eq (k : Nat) (l : List Int) : impl_SoonestOf.f k l = spec_SoonestOf.f k l := by
  simp only [impl_SoonestOf.f, spec_SoonestOf.f, SoonestOf_l0_eq]
theorem spec_SoonestOf_some {k : Nat} (l : List Int) (hk : 300 < k) : ∃ r, spec_SoonestOf.f k l = some r := by
  unfold spec_SoonestOf.f
  by_cases h : (l.length : Int) > 300
  · rw [if_pos h]; exact ⟨_, rfl⟩
  · rw [if_neg h]; exact spec_SoonestOf_l0_some l (by omega) l.length k 0 _ (by omega) (by omega)

theorem rd_at {x : List Int} {i : Nat} (h : i < x.length) : x[i]? = some (rd x (i : Int)) := by
  simp [rd, List.getD_eq_getElem?_getD, List.getElem?_eq_getElem h]

theorem toIntS_l0 (x0 : List Int) (hn : x0.length ≤ 1048576) : ∀ (d k i : Nat) (x3 : List Int), i + d = x0.length → d < k → x3.length = x0.length → (∀ j, j < i → x3[j]? = x0[j]?) →
    laws_toIntS.l0 k x0 x3 (i : Int) = some x0 := by
  intro d
  induction d with
  | zero =>
    intro k i x3 h hk hl hp
    obtain ⟨k, rfl⟩ : ∃ m, k = m + 1 := ⟨k - 1, by omega⟩
    simp only [laws_toIntS.l0]
    rw [if_neg (by omega)]
    congr 1
    apply List.ext_getElem?
    intro j
    by_cases hj : j < i
    · exact hp j hj
    · rw [List.getElem?_eq_none (by omega), List.getElem?_eq_none (by omega)]
  | succ d ih =>
    intro k i x3 h hk hl hp
    obtain ⟨k, rfl⟩ : ∃ m, k = m + 1 := ⟨k - 1, by omega⟩
    simp only [laws_toIntS.l0]
    rw [if_pos (by omega), if_pos (by omega), if_pos (by omega), wi (by omega)]
    refine ih k (i + 1) _ (by omega) (by omega) (by simp [hl]) ?_
    intro j hj
    rw [Int.toNat_natCast, List.getElem?_set]
    by_cases e : i = j
    · subst e
      rw [if_pos rfl, if_pos (by omega), rd_at (by omega)]
    · rw [if_neg e]
      exact hp j (by omega)
theorem toIntS_eq {k : Nat} {l : List Int} (hn : l.length ≤ 1048576) (hk : l.length < k) : laws_toIntS.f k l = some l := by
  unfold laws_toIntS.f
  rw [if_pos (by omega), if_pos (by omega)]
  exact toIntS_l0 l hn l.length k 0 _ (by omega) hk (by simp) (by omega)

theorem eqIntS_l0 (x : List Int) (hn : x.length ≤ 1048576) : ∀ (d k i : Nat), i + d = x.length → d < k → laws_eqIntS.l0 k x x (i : Int) = some true := by
  intro d
  induction d with
  | zero =>
    intro k i h hk
    obtain ⟨k, rfl⟩ : ∃ m, k = m + 1 := ⟨k - 1, by omega⟩
    simp only [laws_eqIntS.l0]
    rw [if_neg (by omega)]
  | succ d ih =>
    intro k i h hk
    obtain ⟨k, rfl⟩ : ∃ m, k = m + 1 := ⟨k - 1, by omega⟩
    simp only [laws_eqIntS.l0]
    rw [if_pos (by omega), if_pos (by omega), if_pos (by omega), wi (by omega)]
    exact ih k (i + 1) (by omega) (by omega)
theorem eqIntS_refl {k : Nat} {x : List Int} (hn : x.length ≤ 1048576) (hk : x.length < k) : laws_eqIntS.f k x x = some true := by
  unfold laws_eqIntS.f
  rw [if_pos rfl]
  exact eqIntS_l0 x hn x.length k 0 (by omega) hk

theorem FnExactSoonestOf : ∀ (l0 : List Int), l0.length ≤ maxLen → (∀ x ∈ l0, (Lit.int .i64 x).wf = true) → ∃ k, laws_FnExactSoonestOf.f k l0 = some true := by
  intro l _ _
  refine ⟨l.length + 400, ?_⟩
  unfold laws_FnExactSoonestOf.f
  by_cases h : (l.length : Int) > 1048576
  · rw [if_pos h]
  · rw [if_neg h]
    obtain ⟨r, hr⟩ := spec_SoonestOf_some (k := l.length + 400) l (by omega)
    simp only [toIntS_eq (k := l.length + 400) (l := l) (by omega) (by omega), Option.bind_some, SoonestOf_eq, hr, eqIntS_refl (k := l.length + 400) (x := l) (by omega) (by omega)]
    simp

end Go.Proofs.Ytphlobfbokcglaa.Pure
