/-
  The law FnExactPlayLink answers true: the program's PlayLink is the reference's, in new memory, for all arguments. No condition.
-/
import Derived.Test.YtcflalomjehiiaaQFnExactPlayLinkx7
import Derived.Laws.BitsAllLaws
import Derived.OpenShut
namespace Go.Proofs.Ytcflalomjehiiaa.Pure
open Go.RowKit Go.Proofs.Ytcflalomjehiiaa.QFnExactPlayLink Go.Proofs.YtcflalomjehiiaaW.PrintWords Go.Proofs.YtcflalomjehiiaaW.PrintLast Go.Proofs.YtcflalomjehiiaaW.PrintMore
set_option linter.unusedSimpArgs false
set_option linter.unusedVariables false

theorem spec_in_eq (a lo hi : Int) : spec_l01In.f a lo hi = some (decide (lo ≤ a ∧ a ≤ hi)) := by
  unfold spec_l01In.f; by_cases h : lo ≤ a <;> simp [h]

theorem impl_within_eq (a lo hi : Int) : impl_within.f a lo hi = some (decide (lo ≤ a ∧ a ≤ hi)) := by
  unfold impl_within.f; by_cases h : lo ≤ a <;> simp [h]

theorem w64 {x : Int} (h1 : -9223372036854775808 ≤ x) (h2 : x ≤ 9223372036854775807) : wrap64 x = x := by
  unfold wrap64; omega

theorem wi {i : Nat} (h : i < 4611686018427387904) : wrap64 ((i : Int) + 1) = ((i + 1 : Nat) : Int) := by
  unfold wrap64; omega

theorem RingOk_l0_eq : ∀ (k : Nat) (n x4 : Int) (l : List Int) (h c : Int), impl_RingOk.l0 k n x4 l h c = spec_RingOk.l0 k n x4 l h c := by
  intro k
  induction k with
  | zero => intro n x4 l h c; rfl
  | succ k ih => intro n x4 l h c; simp only [impl_RingOk.l0, spec_RingOk.l0, ih]
theorem RingOk_j0_eq (k : Nat) (n : Int) (b : Bool) (l : List Int) (h c : Int) : impl_RingOk.j0 k n b l h c = spec_RingOk.j0 k n b l h c := by
  cases k with
  | zero => rfl
  | succ k => simp only [impl_RingOk.j0, spec_RingOk.j0, RingOk_l0_eq]
theorem RingOk_eq (k : Nat) (l : List Int) (h c : Int) : impl_RingOk.f k l h c = spec_RingOk.f k l h c := by
  simp only [impl_RingOk.f, spec_RingOk.f, RingOk_j0_eq, impl_within_eq, spec_in_eq]
theorem spec_RingOk_l0_some (l : List Int) (h c : Int) (hn : l.length ≤ 20) (h0 : 0 ≤ h) (h1 : h ≤ 20) : ∀ (d k i : Nat), i + d = l.length → d < k → ∃ r, spec_RingOk.l0 k (l.length : Int) (i : Int) l h c = some r := by
  intro d
  induction d with
  | zero =>
    intro k i hi hk
    obtain ⟨k, rfl⟩ : ∃ m, k = m + 1 := ⟨k - 1, by omega⟩
    simp only [spec_RingOk.l0]
    rw [if_neg (by omega)]
    exact ⟨_, rfl⟩
  | succ d ih =>
    intro k i hi hk
    obtain ⟨k, rfl⟩ : ∃ m, k = m + 1 := ⟨k - 1, by omega⟩
    simp only [spec_RingOk.l0]
    have g0 : 0 ≤ Int.tmod (h + (i : Int)) (l.length : Int) := Int.tmod_nonneg _ (by omega)
    have g1 : Int.tmod (h + (i : Int)) (l.length : Int) < (l.length : Int) := Int.tmod_lt_of_pos _ (by omega)
    rw [if_pos (by omega), if_neg (by omega), w64 (x := h + (i : Int)) (by omega) (by omega), if_pos g0, if_pos g1, wi (by omega)]
    split
    · exact ih k (i + 1) (by omega) (by omega)
    · exact ⟨_, rfl⟩
theorem spec_RingOk_some {k : Nat} (l : List Int) (h c : Int) (hm : l.length ≤ 1048576) (hk : 100 ≤ k) : ∃ r, spec_RingOk.f k l h c = some r := by
  obtain ⟨k, rfl⟩ : ∃ m, k = m + 1 := ⟨k - 1, by omega⟩
  simp only [spec_RingOk.f, spec_in_eq, Option.bind_some, spec_RingOk.j0]
  by_cases h1 : 1 ≤ (l.length : Int) ∧ (l.length : Int) ≤ 20
  · rw [w64 (x := (l.length : Int) - 1) (by omega) (by omega)]
    by_cases h2 : 0 ≤ h ∧ h ≤ (l.length : Int) - 1
    · by_cases h3 : 0 ≤ c ∧ c ≤ (l.length : Int)
      · simp only [h1, h2, h3, and_self, decide_true, if_true, Bool.not_true, Bool.false_eq_true, if_false]
        obtain ⟨i, rfl⟩ : ∃ i : Nat, c = (i : Int) := ⟨c.toNat, by omega⟩
        exact spec_RingOk_l0_some l h _ (by omega) (by omega) (by omega) (l.length - i) k i (by omega) (by omega)
      · simp [h1, h2, h3]
    · simp [h1, h2]
  · simp [h1]

theorem rd_at {x : List Int} {i : Nat} (h : i < x.length) : x[i]? = some (rd x (i : Int)) := by
  simp [rd, List.getD_eq_getElem?_getD, List.getElem?_eq_getElem h]

def ringOkP (l : List Int) (h c : Int) : Prop :=
  ((1 ≤ (l.length : Int) ∧ (l.length : Int) ≤ 20) ∧ (0 ≤ h ∧ h ≤ (l.length : Int) - 1) ∧ (0 ≤ c ∧ c ≤ (l.length : Int))) ∧ ∀ i : Nat, i < l.length → c ≤ (i : Int) → rd l ((h + (i : Int)) % (l.length : Int)) = 0
instance (l : List Int) (h c : Int) : Decidable (ringOkP l h c) := by unfold ringOkP; infer_instance
theorem spec_RingOk_l0_eq (l : List Int) (h c : Int) (hn : l.length ≤ 20) (h0 : 0 ≤ h) (h1 : h ≤ 20) : ∀ (d k i : Nat), i + d = l.length → d < k →
    spec_RingOk.l0 k (l.length : Int) (i : Int) l h c = some (decide (∀ j : Nat, j < l.length → i ≤ j → rd l ((h + (j : Int)) % (l.length : Int)) = 0)) := by
  intro d
  induction d with
  | zero =>
    intro k i hi hk
    obtain ⟨k, rfl⟩ : ∃ m, k = m + 1 := ⟨k - 1, by omega⟩
    simp only [spec_RingOk.l0]
    rw [if_neg (by omega)]
    congr 1
    symm
    rw [decide_eq_true_eq]
    intro j h2 h3
    omega
  | succ d ih =>
    intro k i hi hk
    obtain ⟨k, rfl⟩ : ∃ m, k = m + 1 := ⟨k - 1, by omega⟩
    simp only [spec_RingOk.l0]
    have g0 : 0 ≤ Int.tmod (h + (i : Int)) (l.length : Int) := Int.tmod_nonneg _ (by omega)
    have g1 : Int.tmod (h + (i : Int)) (l.length : Int) < (l.length : Int) := Int.tmod_lt_of_pos _ (by omega)
    have g2 : Int.tmod (h + (i : Int)) (l.length : Int) = (h + (i : Int)) % (l.length : Int) := Int.tmod_eq_emod_of_nonneg (by omega)
    rw [if_pos (by omega), if_neg (by omega), w64 (x := h + (i : Int)) (by omega) (by omega), if_pos g0, if_pos g1, wi (by omega), g2, ih k (i + 1) (by omega) (by omega)]
    by_cases hz : rd l ((h + (i : Int)) % (l.length : Int)) = 0
    · rw [if_pos hz]
      congr 1
      rw [decide_eq_decide]
      constructor
      · intro hh j h2 h3
        by_cases e : i = j
        · subst e; exact hz
        · exact hh j h2 (by omega)
      · intro hh j h2 h3
        exact hh j h2 (by omega)
    · rw [if_neg hz]
      congr 1
      symm
      rw [decide_eq_false_iff_not]
      intro hh
      exact hz (hh i (by omega) (by omega))
theorem spec_RingOk_eq {k : Nat} {l : List Int} {h c : Int} (hm : l.length ≤ 1048576) (hk : 100 ≤ k) : spec_RingOk.f k l h c = some (decide (ringOkP l h c)) := by
  obtain ⟨k, rfl⟩ : ∃ m, k = m + 1 := ⟨k - 1, by omega⟩
  simp only [spec_RingOk.f, spec_in_eq, Option.bind_some, spec_RingOk.j0]
  by_cases h1 : 1 ≤ (l.length : Int) ∧ (l.length : Int) ≤ 20
  · rw [w64 (x := (l.length : Int) - 1) (by omega) (by omega)]
    by_cases h2 : 0 ≤ h ∧ h ≤ (l.length : Int) - 1
    · by_cases h3 : 0 ≤ c ∧ c ≤ (l.length : Int)
      · simp only [h1, h2, h3, and_self, decide_true, if_true, Bool.not_true, Bool.false_eq_true, if_false]
        obtain ⟨i, rfl⟩ : ∃ i : Nat, c = (i : Int) := ⟨c.toNat, by omega⟩
        rw [spec_RingOk_l0_eq l h _ (by omega) (by omega) (by omega) (l.length - i) k i (by omega) (by omega)]
        congr 1
        rw [decide_eq_decide]
        unfold ringOkP
        constructor
        · intro hh
          exact ⟨⟨h1, h2, h3⟩, fun j h4 h5 => hh j h4 (by omega)⟩
        · intro hh j h4 h5
          exact hh.2 j h4 (by omega)
      · have h4 : ¬ ringOkP l h c := fun hh => h3 hh.1.2.2
        simp [h1, h2, h3, h4]
    · have h4 : ¬ ringOkP l h c := fun hh => h2 hh.1.2.1
      simp [h1, h2, h4]
  · have h4 : ¬ ringOkP l h c := fun hh => h1 hh.1.1
    simp [h1, h4]
theorem impl_RingOk_eq {k : Nat} {l : List Int} {h c : Int} (hm : l.length ≤ 1048576) (hk : 100 ≤ k) : impl_RingOk.f k l h c = some (decide (ringOkP l h c)) := by
  rw [RingOk_eq, spec_RingOk_eq hm hk]
theorem mod_in {l : List Int} {h c : Int} (hn : 1 ≤ (l.length : Int)) (h0 : 0 ≤ h) (c0 : 0 ≤ c) :
    0 ≤ Int.tmod (h + c) (l.length : Int) ∧ Int.tmod (h + c) (l.length : Int) < (l.length : Int) ∧ Int.tmod (h + c) (l.length : Int) = (h + c) % (l.length : Int) :=
  ⟨Int.tmod_nonneg _ (by omega), Int.tmod_lt_of_pos _ (by omega), Int.tmod_eq_emod_of_nonneg (by omega)⟩

theorem spec_l01Copy_l0 (x0 : List Int) (hn : x0.length ≤ 1048576) : ∀ (d k i : Nat), i + d = x0.length → d < k → spec_l01Copy.l0 k x0 (x0.take i) (i : Int) = some x0 := by
  intro d
  induction d with
  | zero =>
    intro k i h hk
    obtain ⟨k, rfl⟩ : ∃ m, k = m + 1 := ⟨k - 1, by omega⟩
    simp only [spec_l01Copy.l0]
    rw [if_neg (by omega), List.take_of_length_le (by omega)]
  | succ d ih =>
    intro k i h hk
    obtain ⟨k, rfl⟩ : ∃ m, k = m + 1 := ⟨k - 1, by omega⟩
    simp only [spec_l01Copy.l0]
    have e : x0.take i ++ [rd x0 (i : Int)] = x0.take (i + 1) := by
      have h2 := rd_at (x := x0) (i := i) (by omega)
      rw [List.getElem?_eq_getElem (by omega)] at h2
      rw [List.take_succ_eq_append_getElem (by omega), Option.some.inj h2]
    rw [if_pos (by omega), if_pos (by omega), if_pos (by rw [List.length_take]; omega), wi (by omega), e]
    exact ih k (i + 1) (by omega) (by omega)
theorem spec_l01Copy_eq {k : Nat} {l : List Int} (hn : l.length ≤ 1048576) (hk : l.length < k) : spec_l01Copy.f k l = some l := by
  have h := spec_l01Copy_l0 l hn l.length k 0 (by omega) hk
  simpa [spec_l01Copy.f] using h

theorem spec_l03Copy_eq {k : Nat} {l : List Int} {h c : Int} (hn : l.length ≤ 1048576) (hk : l.length < k) : spec_l03Copy.f k l h c = some (l, h, c) := by
  simp [spec_l03Copy.f, spec_l01Copy_eq hn hk]
theorem impl_ownRing_eq {l : List Int} {h c : Int} (hn : l.length ≤ 1048576) : impl_ownRing.f l h c = some (l, h, c) := by
  have e : l.length < 17592186044416 := by omega
  simp [impl_ownRing.f, slices_Clone_int_int.f, e]

def pushV (l : List Int) (h c x : Int) : List Int × Int × Int × Bool :=
  if ringOkP l h c then (if c = (l.length : Int) then (l, h, c, false) else (l.set ((h + c) % (l.length : Int)).toNat x, h, c + 1, true)) else (l, h, c, false)
theorem pushV_length (l : List Int) (h c x : Int) : (pushV l h c x).1.length = l.length := by
  unfold pushV
  (repeat' split) <;> simp
theorem spec_PushRing_eq {k : Nat} {l : List Int} {h c x : Int} (hm : l.length ≤ 1048576) (hk : l.length + 100 ≤ k) : spec_PushRing.f k l h c x = some (pushV l h c x) := by
  simp only [spec_PushRing.f, spec_l03Copy_eq hm (show l.length < k by omega), spec_RingOk_eq (h := h) (c := c) hm (show 100 ≤ k by omega), Option.bind_some, pushV, decide_eq_true_eq]
  by_cases h0 : ringOkP l h c
  · obtain ⟨⟨h1, h2, h3⟩, _⟩ := id h0
    rw [if_pos h0, if_pos h0]
    by_cases h4 : c = (l.length : Int)
    · rw [if_pos h4, if_pos h4]
    · obtain ⟨g0, g1, g2⟩ := mod_in (l := l) h1.1 h2.1 h3.1
      rw [if_neg h4, if_neg h4, if_neg (by omega), w64 (x := h + c) (by omega) (by omega), if_pos g0, if_pos g1, g2, w64 (x := c + 1) (by omega) (by omega)]
  · rw [if_neg h0, if_neg h0]
theorem impl_PushRing_eq {k : Nat} {l : List Int} {h c x : Int} (hm : l.length ≤ 1048576) (hk : 100 ≤ k) : impl_PushRing.f k l h c x = some (pushV l h c x) := by
  simp only [impl_PushRing.f, impl_ownRing_eq hm, impl_RingOk_eq (h := h) (c := c) hm (show 100 ≤ k by omega), Option.bind_some, pushV, decide_eq_true_eq]
  by_cases h0 : ringOkP l h c
  · obtain ⟨⟨h1, h2, h3⟩, _⟩ := id h0
    rw [if_pos h0, if_pos h0]
    by_cases h4 : c = (l.length : Int)
    · rw [if_pos h4, if_pos h4]
    · obtain ⟨g0, g1, g2⟩ := mod_in (l := l) h1.1 h2.1 h3.1
      rw [if_neg h4, if_neg h4, if_neg (by omega), w64 (x := h + c) (by omega) (by omega), if_pos g0, if_pos g1, g2, w64 (x := c + 1) (by omega) (by omega)]
  · rw [if_neg h0, if_neg h0]

def popV (l : List Int) (h c : Int) : List Int × Int × Int × Int × Bool :=
  if ringOkP l h c then (if c = 0 then (l, h, c, 0, false) else (l.set h.toNat 0, (h + 1) % (l.length : Int), c - 1, rd l h, true)) else (l, h, c, 0, false)
theorem popV_length (l : List Int) (h c : Int) : (popV l h c).1.length = l.length := by
  unfold popV
  (repeat' split) <;> simp
theorem spec_PopRing_eq {k : Nat} {l : List Int} {h c : Int} (hm : l.length ≤ 1048576) (hk : l.length + 100 ≤ k) : spec_PopRing.f k l h c = some (popV l h c) := by
  simp only [spec_PopRing.f, spec_l03Copy_eq hm (show l.length < k by omega), spec_RingOk_eq (h := h) (c := c) hm (show 100 ≤ k by omega), Option.bind_some, popV, decide_eq_true_eq]
  by_cases h0 : ringOkP l h c
  · obtain ⟨⟨h1, h2, h3⟩, _⟩ := id h0
    rw [if_pos h0, if_pos h0]
    by_cases h4 : c = 0
    · rw [if_pos h4, if_pos h4]
    · obtain ⟨g0, g1, g2⟩ := mod_in (l := l) (c := 1) h1.1 h2.1 (by omega)
      rw [if_neg h4, if_neg h4, if_pos h2.1, if_pos (by omega), if_pos (by omega), if_neg (by omega), w64 (x := h + 1) (by omega) (by omega), g2, w64 (x := c - 1) (by omega) (by omega)]
  · rw [if_neg h0, if_neg h0]
theorem impl_PopRing_eq {k : Nat} {l : List Int} {h c : Int} (hm : l.length ≤ 1048576) (hk : 100 ≤ k) : impl_PopRing.f k l h c = some (popV l h c) := by
  simp only [impl_PopRing.f, impl_ownRing_eq hm, impl_RingOk_eq (h := h) (c := c) hm (show 100 ≤ k by omega), Option.bind_some, popV, decide_eq_true_eq]
  by_cases h0 : ringOkP l h c
  · obtain ⟨⟨h1, h2, h3⟩, _⟩ := id h0
    rw [if_pos h0, if_pos h0]
    by_cases h4 : c = 0
    · rw [if_pos h4, if_pos h4]
    · obtain ⟨g0, g1, g2⟩ := mod_in (l := l) (c := 1) h1.1 h2.1 (by omega)
      rw [if_neg h4, if_neg h4, if_pos h2.1, if_pos (by omega), if_pos (by omega), if_neg (by omega), w64 (x := h + 1) (by omega) (by omega), g2, w64 (x := c - 1) (by omega) (by omega)]
  · rw [if_neg h0, if_neg h0]

def newRingV (a : Int) : List Int × Int × Int × Bool := if 1 ≤ a ∧ a ≤ 20 then (List.replicate a.toNat 0, 0, 0, true) else ([], 0, 0, false)
theorem newRingV_length (a : Int) : (newRingV a).1.length ≤ 20 := by
  unfold newRingV
  by_cases h : 1 ≤ a ∧ a ≤ 20
  · rw [if_pos h]; simp; omega
  · rw [if_neg h]; simp
theorem spec_NewRing_eq (a : Int) : spec_NewRing.f a = some (newRingV a) := by
  simp only [spec_NewRing.f, spec_in_eq, Option.bind_some, newRingV]
  by_cases h : 1 ≤ a ∧ a ≤ 20
  · have h1 : 0 ≤ a := by omega
    have h2 : a.toNat ≤ 35184372088832 := by omega
    simp [h, h1, h2]
  · simp [h]
theorem impl_NewRing_eq (a : Int) : impl_NewRing.f a = some (newRingV a) := by
  simp only [impl_NewRing.f, impl_within_eq, Option.bind_some, newRingV]
  by_cases h : 1 ≤ a ∧ a ≤ 20
  · have h1 : 0 ≤ a := by omega
    have h2 : a.toNat ≤ 35184372088832 := by omega
    simp [h, h1, h2]
  · simp [h]

def credOk (a b : Int) : Bool := decide (0 ≤ a ∧ a ≤ 20) && decide (0 ≤ b ∧ b ≤ 20 - a)
theorem spec_l03Credit_eq (a b : Int) : spec_l03Credit.f a b = some (credOk a b) := by
  simp only [spec_l03Credit.f, spec_in_eq, Option.bind_some, credOk]
  by_cases h1 : 0 ≤ a ∧ a ≤ 20
  · rw [w64 (x := 20 - a) (by omega) (by omega)]
    simp [h1]
  · simp [h1]
theorem impl_creditOk_eq (a b : Int) : impl_creditOk.f a b = some (credOk a b) := by
  simp only [impl_creditOk.f, impl_within_eq, Option.bind_some, credOk]
  by_cases h1 : 0 ≤ a ∧ a ≤ 20
  · by_cases h2 : 0 ≤ b ∧ b ≤ 20
    · rw [w64 (x := a + b) (by omega) (by omega)]
      by_cases h3 : a + b ≤ 20
      · have h4 : b ≤ 20 - a := by omega
        simp [h1, h2, h3, h4]
      · have h4 : ¬ b ≤ 20 - a := by omega
        simp [h1, h2, h3, h4]
    · have h3 : ¬ (0 ≤ b ∧ b ≤ 20 - a) := by omega
      simp [h1, h2, h3]
  · simp [h1]

theorem Spend_both (a b : Int) : ∃ v, spec_SpendCredit.f a b = some v ∧ impl_SpendCredit.f a b = some v := by
  simp only [spec_SpendCredit.f, impl_SpendCredit.f, spec_l03Credit_eq, impl_creditOk_eq, Option.bind_some]
  by_cases h : credOk a b = true
  · by_cases h2 : a = 0
    · simp only [if_pos h, if_pos h2]; exact ⟨_, rfl, rfl⟩
    · simp only [if_pos h, if_neg h2]; exact ⟨_, rfl, rfl⟩
  · simp only [if_neg h]; exact ⟨_, rfl, rfl⟩
theorem Return_both (a b : Int) : ∃ v, spec_ReturnCredit.f a b = some v ∧ impl_ReturnCredit.f a b = some v := by
  simp only [spec_ReturnCredit.f, impl_ReturnCredit.f, spec_l03Credit_eq, impl_creditOk_eq, Option.bind_some]
  by_cases h : credOk a b = true
  · by_cases h2 : b = 0
    · simp only [if_pos h, if_pos h2]; exact ⟨_, rfl, rfl⟩
    · simp only [if_pos h, if_neg h2]; exact ⟨_, rfl, rfl⟩
  · simp only [if_neg h]; exact ⟨_, rfl, rfl⟩
theorem PlayLink_l0 (x : List Int) (hx : x.length ≤ 300) : ∀ (d k i : Nat) (acc l : List Int) (h c p q : Int), i + d = x.length → 200 + d ≤ k → acc.length = i → l.length ≤ 20 →
    ∃ r : List Int × Int × Int × Int × Int × List Int, spec_PlayLink.l0 k x acc (i : Int) l h c p q = some r ∧ impl_PlayLink.l0 k acc x (x.length : Int) (i : Int) l h c p q = some r ∧ r.1.length ≤ 20 ∧ r.2.2.2.2.2.length ≤ 300 := by
  intro d
  induction d with
  | zero =>
    intro k i acc l h c p q hi hk ha hl
    obtain ⟨k, rfl⟩ : ∃ m, k = m + 1 := ⟨k - 1, by omega⟩
    simp only [spec_PlayLink.l0, impl_PlayLink.l0]
    rw [if_neg (by omega), if_neg (by omega)]
    exact ⟨_, rfl, rfl, hl, by show acc.length ≤ 300; omega⟩
  | succ d ih =>
    intro k i acc l h c p q hi hk ha hl
    obtain ⟨k, rfl⟩ : ∃ m, k = m + 1 := ⟨k - 1, by omega⟩
    have c1 : (i : Int) < (x.length : Int) := by omega
    have c2 : 0 ≤ (i : Int) := by omega
    have c3 : acc.length < 17592186044416 := by omega
    obtain ⟨v, s1, s2⟩ := Spend_both p q
    obtain ⟨u, t1, t2⟩ := Return_both p q
    have p1 := spec_PushRing_eq (k := k) (l := l) (h := h) (c := c) (x := rd x (i : Int)) (by omega) (by omega)
    have p2 := impl_PushRing_eq (k := k) (l := l) (h := h) (c := c) (x := rd x (i : Int)) (by omega) (by omega)
    have o1 := spec_PopRing_eq (k := k) (l := l) (h := h) (c := c) (by omega) (by omega)
    have o2 := impl_PopRing_eq (k := k) (l := l) (h := h) (c := c) (by omega) (by omega)
    have hv1 := pushV_length l h c (rd x (i : Int))
    have hv2 := popV_length l h c
    have step : ∀ (y : Int) (l' : List Int) (h' c' p' q' : Int), l'.length ≤ 20 → ∃ r : List Int × Int × Int × Int × Int × List Int, spec_PlayLink.l0 k x (acc ++ [y]) ((i + 1 : Nat) : Int) l' h' c' p' q' = some r ∧ impl_PlayLink.l0 k (acc ++ [y]) x (x.length : Int) ((i + 1 : Nat) : Int) l' h' c' p' q' = some r ∧ r.1.length ≤ 20 ∧ r.2.2.2.2.2.length ≤ 300 :=
      fun y l' h' c' p' q' hl' => ih k (i + 1) (acc ++ [y]) l' h' c' p' q' (by omega) (by omega) (by rw [List.length_append, List.length_singleton]; omega) hl'
    simp only [spec_PlayLink.l0, impl_PlayLink.l0, if_pos c1, if_pos c2, if_pos c3, s1, s2, t1, t2, p1, p2, o1, o2, Option.bind_some, wi (show i < 4611686018427387904 by omega)]
    by_cases g : rd x (i : Int) ≥ 0
    · have g2 : ¬ rd x (i : Int) < 0 := by omega
      simp only [if_pos g, if_neg g2]
      by_cases b : v.2.2 = true
      · simp only [if_pos b]
        exact step _ _ _ _ _ _ (by omega)
      · simp only [if_neg b]
        exact step _ _ _ _ _ _ (by omega)
    · have g2 : rd x (i : Int) < 0 := by omega
      simp only [if_neg g, if_pos g2]
      by_cases b : (popV l h c).2.2.2.2 = true
      · simp only [if_pos b]
        exact step _ _ _ _ _ _ (by omega)
      · simp only [if_neg b]
        exact step _ _ _ _ _ _ (by omega)
theorem PlayLink_both (a : Int) (x : List Int) : ∃ r : List Int × Int × Int × Int × Int × List Int, (∀ k, 600 ≤ k → spec_PlayLink.f k a x = some r) ∧ (∀ k, 600 ≤ k → impl_PlayLink.f k a x = some r) ∧ r.1.length ≤ 20 ∧ r.2.2.2.2.2.length ≤ 300 := by
  suffices hh : ∃ r : List Int × Int × Int × Int × Int × List Int, spec_PlayLink.f 600 a x = some r ∧ impl_PlayLink.f 600 a x = some r ∧ r.1.length ≤ 20 ∧ r.2.2.2.2.2.length ≤ 300 by
    obtain ⟨r, e1, e2, e3⟩ := hh
    exact ⟨r, fun k hk => at_rounds (fun k => spec_PlayLink.mono a x k) hk e1, fun k hk => at_rounds (fun k => impl_PlayLink.mono a x k) hk e2, e3⟩
  have hv := newRingV_length a
  simp only [spec_PlayLink.f, impl_PlayLink.f, spec_NewRing_eq, impl_NewRing_eq, Option.bind_some]
  generalize newRingV a = v at hv ⊢
  have no : ∀ k, spec_PlayLink.j0 (k + 1) a x true v.1 v.2.1 v.2.2.1 = some ([], 0, 0, 0, 0, []) ∧ impl_PlayLink.j0 (k + 1) a x true v.1 v.2.1 v.2.2.1 = some ([], 0, 0, 0, 0, []) := fun k => ⟨rfl, rfl⟩
  by_cases b : v.2.2.2 = true
  · simp only [if_pos b]
    by_cases g : (x.length : Int) > 300
    · rw [decide_eq_true g]
      exact ⟨_, (no 599).1, (no 599).2, by simp, by simp⟩
    · rw [decide_eq_false g]
      simp only [spec_PlayLink.j0, impl_PlayLink.j0, Bool.false_eq_true, if_false]
      exact PlayLink_l0 x (by omega) x.length 599 0 [] v.1 v.2.1 v.2.2.1 a 0 (by omega) (by omega) rfl hv
  · simp only [if_neg b]
    exact ⟨_, (no 599).1, (no 599).2, by simp, by simp⟩
theorem eqCredit_refl (a b : Int) : laws_eqCredit.f a b a b = some true := by simp [laws_eqCredit.f]

theorem toIntS_l0 (x0 : List Int) (hn : x0.length ≤ 1048576) : ∀ (d k i : Nat) (x3 : List Int), i + d = x0.length → d < k → x3.length = x0.length → (∀ j, j < i → x3[j]? = x0[j]?) →
    laws_toIntS.l0 k x0 x3 (i : Int) = some x0 := by
  intro d
  induction d with
  | zero =>
    intro k i x3 h hk hl hp
    obtain ⟨k, rfl⟩ : ∃ m, k = m + 1 := ⟨k - 1, by omega⟩
    simp only [laws_toIntS.l0]
    rw [if_neg (by omega)]
    congr 1
    apply List.ext_getElem?
    intro j
    by_cases hj : j < i
    · exact hp j hj
    · rw [List.getElem?_eq_none (by omega), List.getElem?_eq_none (by omega)]
  | succ d ih =>
    intro k i x3 h hk hl hp
    obtain ⟨k, rfl⟩ : ∃ m, k = m + 1 := ⟨k - 1, by omega⟩
    simp only [laws_toIntS.l0]
    rw [if_pos (by omega), if_pos (by omega), if_pos (by omega), wi (by omega)]
    refine ih k (i + 1) _ (by omega) (by omega) (by simp [hl]) ?_
    intro j hj
    rw [Int.toNat_natCast, List.getElem?_set]
    by_cases e : i = j
    · subst e
      rw [if_pos rfl, if_pos (by omega), rd_at (by omega)]
    · rw [if_neg e]
      exact hp j (by omega)
theorem toIntS_eq {k : Nat} {l : List Int} (hn : l.length ≤ 1048576) (hk : l.length < k) : laws_toIntS.f k l = some l := by
  unfold laws_toIntS.f
  rw [if_pos (by omega), if_pos (by omega)]
  exact toIntS_l0 l hn l.length k 0 _ (by omega) hk (by simp) (by omega)

theorem eqIntS_l0 (x : List Int) (hn : x.length ≤ 1048576) : ∀ (d k i : Nat), i + d = x.length → d < k → laws_eqIntS.l0 k x x (i : Int) = some true := by
  intro d
  induction d with
  | zero =>
    intro k i h hk
    obtain ⟨k, rfl⟩ : ∃ m, k = m + 1 := ⟨k - 1, by omega⟩
    simp only [laws_eqIntS.l0]
    rw [if_neg (by omega)]
  | succ d ih =>
    intro k i h hk
    obtain ⟨k, rfl⟩ : ∃ m, k = m + 1 := ⟨k - 1, by omega⟩
    simp only [laws_eqIntS.l0]
    rw [if_pos (by omega), if_pos (by omega), if_pos (by omega), wi (by omega)]
    exact ih k (i + 1) (by omega) (by omega)
theorem eqIntS_refl {k : Nat} {x : List Int} (hn : x.length ≤ 1048576) (hk : x.length < k) : laws_eqIntS.f k x x = some true := by
  unfold laws_eqIntS.f
  rw [if_pos rfl]
  exact eqIntS_l0 x hn x.length k 0 (by omega) hk

theorem eqRing_refl {k : Nat} {x : List Int} {a b : Int} (hn : x.length ≤ 1048576) (hk : x.length < k) : laws_eqRing.f k x a b x a b = some true := by
  simp [laws_eqRing.f, eqIntS_refl hn hk]

def markL (c : Int) (n : Nat) : List Int := (List.range n).map fun (j : Nat) => c + (j : Int)
theorem markL_length (c : Int) (n : Nat) : (markL c n).length = n := by simp [markL]
theorem markL_get {c : Int} {n j : Nat} (h : j < n) : (markL c n)[j]? = some (c + (j : Int)) := by
  simp [markL, List.getElem?_range, h]
theorem wc {c : Int} {i : Nat} (h0 : 0 ≤ c) (h1 : c ≤ 1073741824) (h2 : i ≤ 1073741824) : wrap64 (c + (i : Int) + 1) = c + ((i + 1 : Nat) : Int) := by
  unfold wrap64; omega

theorem markIntS_l0 (n : Nat) (hn : n ≤ 1048576) (c : Int) (h0 : 0 ≤ c) (h1 : c ≤ 1073741824) : ∀ (d k i : Nat) (x : List Int), x.length = n → i + d = n → d < k → (∀ j, j < i → x[j]? = some (c + (j : Int))) →
    laws_markIntS.l0 k x (c + (i : Int)) (i : Int) = some (c + (n : Int), markL c n) := by
  intro d
  induction d with
  | zero =>
    intro k i x hx h hk hp
    obtain ⟨k, rfl⟩ : ∃ m, k = m + 1 := ⟨k - 1, by omega⟩
    simp only [laws_markIntS.l0]
    rw [if_neg (by omega)]
    obtain rfl : i = n := by omega
    congr 2
    apply List.ext_getElem?
    intro j
    by_cases hj : j < i
    · rw [hp j hj, markL_get hj]
    · rw [List.getElem?_eq_none (by omega), List.getElem?_eq_none (by rw [markL_length]; omega)]
  | succ d ih =>
    intro k i x hx h hk hp
    obtain ⟨k, rfl⟩ : ∃ m, k = m + 1 := ⟨k - 1, by omega⟩
    simp only [laws_markIntS.l0]
    rw [if_pos (by omega), if_pos (by omega), wi (by omega), wc h0 h1 (by omega)]
    refine ih k (i + 1) _ (by simp [hx]) (by omega) (by omega) ?_
    intro j hj
    rw [Int.toNat_natCast, List.getElem?_set]
    by_cases e : i = j
    · subst e
      rw [if_pos rfl, if_pos (by omega)]
    · rw [if_neg e]
      exact hp j (by omega)
theorem markIntS_eq {k : Nat} {x : List Int} {c : Int} (hn : x.length ≤ 1048576) (h0 : 0 ≤ c) (h1 : c ≤ 1073741824) (hk : x.length < k) :
    laws_markIntS.f k x c = some (c + (x.length : Int), markL c x.length) := by
  unfold laws_markIntS.f
  have h := markIntS_l0 x.length hn c h0 h1 x.length k 0 x rfl (by omega) hk (by omega)
  simpa using h

theorem markRing_eq {k : Nat} {x : List Int} {a b c : Int} (hn : x.length ≤ 1048576) (h0 : 0 ≤ c) (h1 : c ≤ 1073741824) (hk : x.length < k) :
    laws_markRing.f k x a b c = some (c + (x.length : Int), markL c x.length) := by
  simp [laws_markRing.f, markIntS_eq hn h0 h1 hk]

theorem heldIntS_l0 (n : Nat) (hn : n ≤ 1048576) (c : Int) (h0 : 0 ≤ c) (h1 : c ≤ 1073741824) : ∀ (d k i : Nat), i + d = n → d < k →
    laws_heldIntS.l0 k (markL c n) (c + (i : Int)) (i : Int) = some (c + (n : Int)) := by
  intro d
  induction d with
  | zero =>
    intro k i h hk
    obtain ⟨k, rfl⟩ : ∃ m, k = m + 1 := ⟨k - 1, by omega⟩
    simp only [laws_heldIntS.l0]
    rw [if_neg (by rw [markL_length]; omega)]
    obtain rfl : i = n := by omega
    rfl
  | succ d ih =>
    intro k i h hk
    obtain ⟨k, rfl⟩ : ∃ m, k = m + 1 := ⟨k - 1, by omega⟩
    have e : rd (markL c n) (i : Int) = c + (i : Int) := by
      have h2 := rd_at (x := markL c n) (i := i) (by rw [markL_length]; omega)
      rw [markL_get (by omega)] at h2
      exact (Option.some.inj h2).symm
    simp only [laws_heldIntS.l0]
    rw [if_pos (by rw [markL_length]; omega), if_pos (by omega), if_pos e, wi (by omega), wc h0 h1 (by omega)]
    exact ih k (i + 1) (by omega) (by omega)
theorem heldIntS_eq {k n : Nat} {c : Int} (hn : n ≤ 1048576) (h0 : 0 ≤ c) (h1 : c ≤ 1073741824) (hk : n < k) :
    laws_heldIntS.f k (markL c n) c = some (c + (n : Int)) := by
  unfold laws_heldIntS.f
  have h := heldIntS_l0 n hn c h0 h1 n k 0 (by omega) hk
  simpa using h

theorem heldRing_eq {k n : Nat} {a b c : Int} (hn : n ≤ 1048576) (h0 : 0 ≤ c) (h1 : c ≤ 1073741824) (hk : n < k) :
    laws_heldRing.f k (markL c n) a b c = some (c + (n : Int)) := by
  simp only [laws_heldRing.f, heldIntS_eq hn h0 h1 hk, Option.bind_some]
  rw [if_neg (by omega)]

theorem FnExactPlayLink : ∀ (a0 : Int) (l1 : List Int), (Lit.int .i64 a0).wf = true → l1.length ≤ maxLen → (∀ x ∈ l1, (Lit.int .i64 x).wf = true) → ∃ k, laws_FnExactPlayLink.f k a0 l1 = some true := by
  intro a x _ _ _
  refine ⟨x.length + 1000 + 1 + 1 + 1, ?_⟩
  unfold laws_FnExactPlayLink.f
  by_cases h : (x.length : Int) > 1048576
  · rw [if_pos h]
  rw [if_neg h]
  obtain ⟨⟨l, h', c, p, q, o⟩, e1, e2, hl, ho⟩ := PlayLink_both a x
  replace hl : l.length ≤ 20 := hl
  replace ho : o.length ≤ 300 := ho
  (first | rw [toIntS_eq (by omega) (by omega), Option.bind_some] | rw [Option.bind_some]); (try dsimp only)
  (first | rw [e1 _ (by omega), Option.bind_some] | rw [Option.bind_some]); (try dsimp only)
  (first | rw [toIntS_eq (by omega) (by omega), Option.bind_some] | rw [Option.bind_some]); (try dsimp only)
  (first | rw [e2 _ (by omega), Option.bind_some] | rw [Option.bind_some]); (try dsimp only)
  (first | rw [eqRing_refl (by omega) (by omega), Option.bind_some] | rw [Option.bind_some]); (try dsimp only)
  (first | rw [if_pos rfl] | rw [if_pos trivial]); (try dsimp only)
  (first | rw [eqCredit_refl, Option.bind_some] | rw [Option.bind_some]); (try dsimp only)
  (first | rw [if_pos rfl] | rw [if_pos trivial]); (try dsimp only)
  (first | rw [eqIntS_refl (by omega) (by omega), Option.bind_some] | rw [Option.bind_some]); (try dsimp only)
  simp only [laws_FnExactPlayLink.j0, bne_self_eq_false, Bool.not_true, Bool.false_eq_true, if_false]
  (first | rw [toIntS_eq (by omega) (by omega), Option.bind_some] | rw [Option.bind_some]); (try dsimp only)
  (first | rw [eqIntS_refl (by omega) (by omega), Option.bind_some] | rw [Option.bind_some]); (try dsimp only)
  (first | rw [if_pos rfl] | rw [if_pos trivial]); (try dsimp only)
  (first | rw [markIntS_eq (by omega) (by omega) (by omega) (by omega), Option.bind_some] | rw [Option.bind_some]); (try dsimp only)
  rw [if_neg (by omega)]
  (first | rw [eqRing_refl (by omega) (by omega), Option.bind_some] | rw [Option.bind_some]); (try dsimp only)
  (first | rw [if_pos rfl] | rw [if_pos trivial]); (try dsimp only)
  (first | rw [eqCredit_refl, Option.bind_some] | rw [Option.bind_some]); (try dsimp only)
  (first | rw [if_pos rfl] | rw [if_pos trivial]); (try dsimp only)
  (first | rw [eqIntS_refl (by omega) (by omega), Option.bind_some] | rw [Option.bind_some]); (try dsimp only)
  simp only [laws_FnExactPlayLink.j1, bne_self_eq_false, Bool.not_true, Bool.false_eq_true, if_false]
  (first | rw [markRing_eq (by omega) (by omega) (by omega) (by omega), Option.bind_some] | rw [Option.bind_some]); (try dsimp only)
  (first | rw [markIntS_eq (by omega) (by omega) (by omega) (by omega), Option.bind_some] | rw [Option.bind_some]); (try dsimp only)
  (first | rw [heldRing_eq (by omega) (by omega) (by omega) (by omega), Option.bind_some] | rw [Option.bind_some]); (try dsimp only)
  rw [if_neg (by omega)]
  (first | rw [heldIntS_eq (by omega) (by omega) (by omega) (by omega), Option.bind_some] | rw [Option.bind_some]); (try dsimp only)
  rw [if_neg (by omega)]
  (first | rw [if_pos rfl] | rw [if_pos trivial]); (try dsimp only)
  (first | rw [toIntS_eq (by omega) (by omega), Option.bind_some] | rw [Option.bind_some]); (try dsimp only)
  (first | rw [e2 _ (by omega), Option.bind_some] | rw [Option.bind_some]); (try dsimp only)
  (first | rw [eqRing_refl (by omega) (by omega), Option.bind_some] | rw [Option.bind_some]); (try dsimp only)
  (first | rw [if_pos rfl] | rw [if_pos trivial]); (try dsimp only)
  (first | rw [eqCredit_refl, Option.bind_some] | rw [Option.bind_some]); (try dsimp only)
  (first | rw [if_pos rfl] | rw [if_pos trivial]); (try dsimp only)
  (first | rw [eqIntS_refl (by omega) (by omega), Option.bind_some] | rw [Option.bind_some]); (try dsimp only)
  simp only [laws_FnExactPlayLink.j2, bne_self_eq_false, Bool.not_true, Bool.false_eq_true, if_false]
  (first | rw [heldRing_eq (by omega) (by omega) (by omega) (by omega), Option.bind_some] | rw [Option.bind_some]); (try dsimp only)
  rw [if_neg (by omega)]
  (first | rw [heldIntS_eq (by omega) (by omega) (by omega) (by omega), Option.bind_some] | rw [Option.bind_some]); (try dsimp only)
  rw [if_neg (by omega)]
  (first | rw [if_pos rfl] | rw [if_pos trivial]); (try dsimp only)

end Go.Proofs.Ytcflalomjehiiaa.Pure
