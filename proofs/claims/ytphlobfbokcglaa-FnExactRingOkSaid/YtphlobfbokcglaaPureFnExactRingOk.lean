/-
  The law FnExactRingOk answers true: the program's RingOk is the reference's, for all arguments. No condition.
-/
import Derived.Test.YtphlobfbokcglaaPFnExactRingOkx2
namespace Go.Proofs.Ytphlobfbokcglaa.Pure
open Go.RowKit Go.Proofs.Ytphlobfbokcglaa.PFnExactRingOk Go.Proofs.YtphlobfbokcglaaW.PrintWords Go.Proofs.YtphlobfbokcglaaW.PrintLast Go.Proofs.YtphlobfbokcglaaW.PrintMore
set_option linter.unusedSimpArgs false
set_option linter.unusedVariables false

theorem spec_in_eq (a lo hi : Int) : spec_l01In.f a lo hi = some (decide (lo ≤ a ∧ a ≤ hi)) := by
  unfold spec_l01In.f; by_cases h : lo ≤ a <;> simp [h]

theorem impl_within_eq (a lo hi : Int) : impl_within.f a lo hi = some (decide (lo ≤ a ∧ a ≤ hi)) := by
  unfold impl_within.f; by_cases h : lo ≤ a <;> simp [h]

theorem w64 {x : Int} (h1 : -9223372036854775808 ≤ x) (h2 : x ≤ 9223372036854775807) : wrap64 x = x := by
  unfold wrap64; omega

theorem wi {i : Nat} (h : i < 4611686018427387904) : wrap64 ((i : Int) + 1) = ((i + 1 : Nat) : Int) := by
  unfold wrap64; omega

theorem RingOk_l0_eq : ∀ (k : Nat) (n x4 : Int) (l : List Int) (h c : Int), impl_RingOk.l0 k n x4 l h c = spec_RingOk.l0 k n x4 l h c := by
  intro k
  induction k with
  | zero => intro n x4 l h c; rfl
  | succ k ih => intro n x4 l h c; simp only [impl_RingOk.l0, spec_RingOk.l0, ih]
theorem RingOk_j0_eq (k : Nat) (n : Int) (b : Bool) (l : List Int) (h c : Int) : impl_RingOk.j0 k n b l h c = spec_RingOk.j0 k n b l h c := by
  cases k with
  | zero => rfl
  | succ k => simp only [impl_RingOk.j0, spec_RingOk.j0, RingOk_l0_eq]
theorem RingOk_eq (k : Nat) (l : List Int) (h c : Int) : impl_RingOk.f k l h c = spec_RingOk.f k l h c := by
  simp only [impl_RingOk.f, spec_RingOk.f, RingOk_j0_eq, impl_within_eq, spec_in_eq]
theorem spec_RingOk_l0_some (l : List Int) (h c : Int) (hn : l.length ≤ 20) (h0 : 0 ≤ h) (h1 : h ≤ 20) : ∀ (d k i : Nat), i + d = l.length → d < k → ∃ r, spec_RingOk.l0 k (l.length : Int) (i : Int) l h c = some r := by
  intro d
  induction d with
  | zero =>
    intro k i hi hk
    obtain ⟨k, rfl⟩ : ∃ m, k = m + 1 := ⟨k - 1, by omega⟩
    simp only [spec_RingOk.l0]
    rw [if_neg (by omega)]
    exact ⟨_, rfl⟩
  | succ d ih =>
    intro k i hi hk
    obtain ⟨k, rfl⟩ : ∃ m, k = m + 1 := ⟨k - 1, by omega⟩
    simp only [spec_RingOk.l0]
    have g0 : 0 ≤ Int.tmod (h + (i : Int)) (l.length : Int) := Int.tmod_nonneg _ (by omega)
    have g1 : Int.tmod (h + (i : Int)) (l.length : Int) < (l.length : Int) := Int.tmod_lt_of_pos _ (by omega)
    rw [if_pos (by omega), if_neg (by omega), w64 (x := h + (i : Int)) (by omega) (by omega), if_pos g0, if_pos g1, wi (by omega)]
    split
    · exact ih k (i + 1) (by omega) (by omega)
    · exact ⟨_, rfl⟩
theorem spec_RingOk_some {k : Nat} (l : List Int) (h c : Int) (hm : l.length ≤ 1048576) (hk : 100 ≤ k) : ∃ r, spec_RingOk.f k l h c = some r := by
  obtain ⟨k, rfl⟩ : ∃ m, k = m + 1 := ⟨k - 1, by omega⟩
  simp only [spec_RingOk.f, spec_in_eq, Option.bind_some, spec_RingOk.j0]
  by_cases h1 : 1 ≤ (l.length : Int) ∧ (l.length : Int) ≤ 20
  · rw [w64 (x := (l.length : Int) - 1) (by omega) (by omega)]
    by_cases h2 : 0 ≤ h ∧ h ≤ (l.length : Int) - 1
    · by_cases h3 : 0 ≤ c ∧ c ≤ (l.length : Int)
      · simp only [h1, h2, h3, and_self, decide_true, if_true, Bool.not_true, Bool.false_eq_true, if_false]
        obtain ⟨i, rfl⟩ : ∃ i : Nat, c = (i : Int) := ⟨c.toNat, by omega⟩
        exact spec_RingOk_l0_some l h _ (by omega) (by omega) (by omega) (l.length - i) k i (by omega) (by omega)
      · simp [h1, h2, h3]
    · simp [h1, h2]
  · simp [h1]

theorem szIntS_eq {l : List Int} {c : Int} (hm : l.length ≤ maxLen) (h0 : 0 ≤ c) (h1 : c ≤ 1048576) : laws_szIntS.f l c = some (if (l.length : Int) ≤ c then c - (l.length : Int) else -1) := by
  unfold maxLen at hm
  unfold laws_szIntS.f
  rw [w64 (x := c - (l.length : Int)) (by omega) (by omega)]
  by_cases h : (l.length : Int) ≤ c
  · rw [if_neg (by omega), if_pos h]
  · rw [if_pos (by omega), if_neg h]

theorem szRing_eq {l : List Int} {a b : Int} {c : Int} (hm : l.length ≤ maxLen) (h0 : 0 ≤ c) (h1 : c ≤ 1048576) : laws_szRing.f l a b c = some (if (l.length : Int) ≤ c then c - (l.length : Int) else -1) := by
  unfold laws_szRing.f
  rw [szIntS_eq hm h0 h1, Option.bind_some]
  by_cases h : (l.length : Int) ≤ c
  · rw [if_pos h, if_neg (by omega)]
  · rw [if_neg h, if_pos (by omega)]

theorem rd_at {x : List Int} {i : Nat} (h : i < x.length) : x[i]? = some (rd x (i : Int)) := by
  simp [rd, List.getD_eq_getElem?_getD, List.getElem?_eq_getElem h]

theorem toIntS_l0 (x0 : List Int) (hn : x0.length ≤ 1048576) : ∀ (d k i : Nat) (x3 : List Int), i + d = x0.length → d < k → x3.length = x0.length → (∀ j, j < i → x3[j]? = x0[j]?) →
    laws_toIntS.l0 k x0 x3 (i : Int) = some x0 := by
  intro d
  induction d with
  | zero =>
    intro k i x3 h hk hl hp
    obtain ⟨k, rfl⟩ : ∃ m, k = m + 1 := ⟨k - 1, by omega⟩
    simp only [laws_toIntS.l0]
    rw [if_neg (by omega)]
    congr 1
    apply List.ext_getElem?
    intro j
    by_cases hj : j < i
    · exact hp j hj
    · rw [List.getElem?_eq_none (by omega), List.getElem?_eq_none (by omega)]
  | succ d ih =>
    intro k i x3 h hk hl hp
    obtain ⟨k, rfl⟩ : ∃ m, k = m + 1 := ⟨k - 1, by omega⟩
    simp only [laws_toIntS.l0]
    rw [if_pos (by omega), if_pos (by omega), if_pos (by omega), wi (by omega)]
    refine ih k (i + 1) _ (by omega) (by omega) (by simp [hl]) ?_
    intro j hj
    rw [Int.toNat_natCast, List.getElem?_set]
    by_cases e : i = j
    · subst e
      rw [if_pos rfl, if_pos (by omega), rd_at (by omega)]
    · rw [if_neg e]
      exact hp j (by omega)
theorem toIntS_eq {k : Nat} {l : List Int} (hn : l.length ≤ 1048576) (hk : l.length < k) : laws_toIntS.f k l = some l := by
  unfold laws_toIntS.f
  rw [if_pos (by omega), if_pos (by omega)]
  exact toIntS_l0 l hn l.length k 0 _ (by omega) hk (by simp) (by omega)

theorem toRing_eq {k : Nat} {l : List Int} {a b : Int} (hn : l.length ≤ 1048576) (hk : l.length < k) : laws_toRing.f k l a b = some (l, a, b) := by
  simp [laws_toRing.f, toIntS_eq hn hk]

theorem eqIntS_l0 (x : List Int) (hn : x.length ≤ 1048576) : ∀ (d k i : Nat), i + d = x.length → d < k → laws_eqIntS.l0 k x x (i : Int) = some true := by
  intro d
  induction d with
  | zero =>
    intro k i h hk
    obtain ⟨k, rfl⟩ : ∃ m, k = m + 1 := ⟨k - 1, by omega⟩
    simp only [laws_eqIntS.l0]
    rw [if_neg (by omega)]
  | succ d ih =>
    intro k i h hk
    obtain ⟨k, rfl⟩ : ∃ m, k = m + 1 := ⟨k - 1, by omega⟩
    simp only [laws_eqIntS.l0]
    rw [if_pos (by omega), if_pos (by omega), if_pos (by omega), wi (by omega)]
    exact ih k (i + 1) (by omega) (by omega)
theorem eqIntS_refl {k : Nat} {x : List Int} (hn : x.length ≤ 1048576) (hk : x.length < k) : laws_eqIntS.f k x x = some true := by
  unfold laws_eqIntS.f
  rw [if_pos rfl]
  exact eqIntS_l0 x hn x.length k 0 (by omega) hk

theorem eqRing_refl {k : Nat} {x : List Int} {a b : Int} (hn : x.length ≤ 1048576) (hk : x.length < k) : laws_eqRing.f k x a b x a b = some true := by
  simp [laws_eqRing.f, eqIntS_refl hn hk]

theorem FnExactRingOk : ∀ (l0_0 : List Int) (a0_1 : Int) (a0_2 : Int), l0_0.length ≤ maxLen → (∀ x ∈ l0_0, (Lit.int .i64 x).wf = true) → (Lit.int .i64 a0_1).wf = true → (Lit.int .i64 a0_2).wf = true → ∃ k, laws_FnExactRingOk.f k l0_0 a0_1 a0_2 = some true := by
  intro l h c hm _ _ _
  refine ⟨l.length + 100, ?_⟩
  simp only [laws_FnExactRingOk.f, szRing_eq (c := 1048576) hm (by omega) (by omega), Option.bind_some]
  by_cases hl : (l.length : Int) ≤ 1048576
  · obtain ⟨r, hr⟩ := spec_RingOk_some (k := l.length + 100) l h c (by omega) (by omega)
    rw [if_pos hl, if_neg (by omega)]
    simp (discharger := omega) only [toRing_eq, RingOk_eq, hr, eqRing_refl, Option.bind_some, bne_self_eq_false, Bool.false_eq_true, if_false, if_true]
  · rw [if_neg hl, if_pos (by omega)]

end Go.Proofs.Ytphlobfbokcglaa.Pure
