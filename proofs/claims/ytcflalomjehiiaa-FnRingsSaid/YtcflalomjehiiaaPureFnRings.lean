/-
  The law FnRings answers true for all data: through the ops that are drawn out of them what is popped comes in the order in which it was pushed, nothing is lost, and a grown ring has the same. No condition.
-/
import Derived.Test.YtcflalomjehiiaaQFnRingsx9
import Derived.Laws.BitsAllLaws
import Derived.OpenShut
namespace Go.Proofs.Ytcflalomjehiiaa.Pure
open Go.RowKit Go.Proofs.Ytcflalomjehiiaa.QFnRings Go.Proofs.YtcflalomjehiiaaW.PrintWords Go.Proofs.YtcflalomjehiiaaW.PrintLast Go.Proofs.YtcflalomjehiiaaW.PrintMore
set_option linter.unusedSimpArgs false
set_option linter.unusedVariables false

theorem spec_in_eq (a lo hi : Int) : spec_l01In.f a lo hi = some (decide (lo ≤ a ∧ a ≤ hi)) := by
  unfold spec_l01In.f; by_cases h : lo ≤ a <;> simp [h]

theorem impl_within_eq (a lo hi : Int) : impl_within.f a lo hi = some (decide (lo ≤ a ∧ a ≤ hi)) := by
  unfold impl_within.f; by_cases h : lo ≤ a <;> simp [h]

theorem w64 {x : Int} (h1 : -9223372036854775808 ≤ x) (h2 : x ≤ 9223372036854775807) : wrap64 x = x := by
  unfold wrap64; omega

theorem wi {i : Nat} (h : i < 4611686018427387904) : wrap64 ((i : Int) + 1) = ((i + 1 : Nat) : Int) := by
  unfold wrap64; omega

theorem RingOk_l0_eq : ∀ (k : Nat) (n x4 : Int) (l : List Int) (h c : Int), impl_RingOk.l0 k n x4 l h c = spec_RingOk.l0 k n x4 l h c := by
  intro k
  induction k with
  | zero => intro n x4 l h c; rfl
  | succ k ih => intro n x4 l h c; simp only [impl_RingOk.l0, spec_RingOk.l0, ih]
theorem RingOk_j0_eq (k : Nat) (n : Int) (b : Bool) (l : List Int) (h c : Int) : impl_RingOk.j0 k n b l h c = spec_RingOk.j0 k n b l h c := by
  cases k with
  | zero => rfl
  | succ k => simp only [impl_RingOk.j0, spec_RingOk.j0, RingOk_l0_eq]
theorem RingOk_eq (k : Nat) (l : List Int) (h c : Int) : impl_RingOk.f k l h c = spec_RingOk.f k l h c := by
  simp only [impl_RingOk.f, spec_RingOk.f, RingOk_j0_eq, impl_within_eq, spec_in_eq]
theorem spec_RingOk_l0_some (l : List Int) (h c : Int) (hn : l.length ≤ 20) (h0 : 0 ≤ h) (h1 : h ≤ 20) : ∀ (d k i : Nat), i + d = l.length → d < k → ∃ r, spec_RingOk.l0 k (l.length : Int) (i : Int) l h c = some r := by
  intro d
  induction d with
  | zero =>
    intro k i hi hk
    obtain ⟨k, rfl⟩ : ∃ m, k = m + 1 := ⟨k - 1, by omega⟩
    simp only [spec_RingOk.l0]
    rw [if_neg (by omega)]
    exact ⟨_, rfl⟩
  | succ d ih =>
    intro k i hi hk
    obtain ⟨k, rfl⟩ : ∃ m, k = m + 1 := ⟨k - 1, by omega⟩
    simp only [spec_RingOk.l0]
    have g0 : 0 ≤ Int.tmod (h + (i : Int)) (l.length : Int) := Int.tmod_nonneg _ (by omega)
    have g1 : Int.tmod (h + (i : Int)) (l.length : Int) < (l.length : Int) := Int.tmod_lt_of_pos _ (by omega)
    rw [if_pos (by omega), if_neg (by omega), w64 (x := h + (i : Int)) (by omega) (by omega), if_pos g0, if_pos g1, wi (by omega)]
    split
    · exact ih k (i + 1) (by omega) (by omega)
    · exact ⟨_, rfl⟩
theorem spec_RingOk_some {k : Nat} (l : List Int) (h c : Int) (hm : l.length ≤ 1048576) (hk : 100 ≤ k) : ∃ r, spec_RingOk.f k l h c = some r := by
  obtain ⟨k, rfl⟩ : ∃ m, k = m + 1 := ⟨k - 1, by omega⟩
  simp only [spec_RingOk.f, spec_in_eq, Option.bind_some, spec_RingOk.j0]
  by_cases h1 : 1 ≤ (l.length : Int) ∧ (l.length : Int) ≤ 20
  · rw [w64 (x := (l.length : Int) - 1) (by omega) (by omega)]
    by_cases h2 : 0 ≤ h ∧ h ≤ (l.length : Int) - 1
    · by_cases h3 : 0 ≤ c ∧ c ≤ (l.length : Int)
      · simp only [h1, h2, h3, and_self, decide_true, if_true, Bool.not_true, Bool.false_eq_true, if_false]
        obtain ⟨i, rfl⟩ : ∃ i : Nat, c = (i : Int) := ⟨c.toNat, by omega⟩
        exact spec_RingOk_l0_some l h _ (by omega) (by omega) (by omega) (l.length - i) k i (by omega) (by omega)
      · simp [h1, h2, h3]
    · simp [h1, h2]
  · simp [h1]

theorem rd_at {x : List Int} {i : Nat} (h : i < x.length) : x[i]? = some (rd x (i : Int)) := by
  simp [rd, List.getD_eq_getElem?_getD, List.getElem?_eq_getElem h]

def ringOkP (l : List Int) (h c : Int) : Prop :=
  ((1 ≤ (l.length : Int) ∧ (l.length : Int) ≤ 20) ∧ (0 ≤ h ∧ h ≤ (l.length : Int) - 1) ∧ (0 ≤ c ∧ c ≤ (l.length : Int))) ∧ ∀ i : Nat, i < l.length → c ≤ (i : Int) → rd l ((h + (i : Int)) % (l.length : Int)) = 0
instance (l : List Int) (h c : Int) : Decidable (ringOkP l h c) := by unfold ringOkP; infer_instance
theorem spec_RingOk_l0_eq (l : List Int) (h c : Int) (hn : l.length ≤ 20) (h0 : 0 ≤ h) (h1 : h ≤ 20) : ∀ (d k i : Nat), i + d = l.length → d < k →
    spec_RingOk.l0 k (l.length : Int) (i : Int) l h c = some (decide (∀ j : Nat, j < l.length → i ≤ j → rd l ((h + (j : Int)) % (l.length : Int)) = 0)) := by
  intro d
  induction d with
  | zero =>
    intro k i hi hk
    obtain ⟨k, rfl⟩ : ∃ m, k = m + 1 := ⟨k - 1, by omega⟩
    simp only [spec_RingOk.l0]
    rw [if_neg (by omega)]
    congr 1
    symm
    rw [decide_eq_true_eq]
    intro j h2 h3
    omega
  | succ d ih =>
    intro k i hi hk
    obtain ⟨k, rfl⟩ : ∃ m, k = m + 1 := ⟨k - 1, by omega⟩
    simp only [spec_RingOk.l0]
    have g0 : 0 ≤ Int.tmod (h + (i : Int)) (l.length : Int) := Int.tmod_nonneg _ (by omega)
    have g1 : Int.tmod (h + (i : Int)) (l.length : Int) < (l.length : Int) := Int.tmod_lt_of_pos _ (by omega)
    have g2 : Int.tmod (h + (i : Int)) (l.length : Int) = (h + (i : Int)) % (l.length : Int) := Int.tmod_eq_emod_of_nonneg (by omega)
    rw [if_pos (by omega), if_neg (by omega), w64 (x := h + (i : Int)) (by omega) (by omega), if_pos g0, if_pos g1, wi (by omega), g2, ih k (i + 1) (by omega) (by omega)]
    by_cases hz : rd l ((h + (i : Int)) % (l.length : Int)) = 0
    · rw [if_pos hz]
      congr 1
      rw [decide_eq_decide]
      constructor
      · intro hh j h2 h3
        by_cases e : i = j
        · subst e; exact hz
        · exact hh j h2 (by omega)
      · intro hh j h2 h3
        exact hh j h2 (by omega)
    · rw [if_neg hz]
      congr 1
      symm
      rw [decide_eq_false_iff_not]
      intro hh
      exact hz (hh i (by omega) (by omega))
theorem spec_RingOk_eq {k : Nat} {l : List Int} {h c : Int} (hm : l.length ≤ 1048576) (hk : 100 ≤ k) : spec_RingOk.f k l h c = some (decide (ringOkP l h c)) := by
  obtain ⟨k, rfl⟩ : ∃ m, k = m + 1 := ⟨k - 1, by omega⟩
  simp only [spec_RingOk.f, spec_in_eq, Option.bind_some, spec_RingOk.j0]
  by_cases h1 : 1 ≤ (l.length : Int) ∧ (l.length : Int) ≤ 20
  · rw [w64 (x := (l.length : Int) - 1) (by omega) (by omega)]
    by_cases h2 : 0 ≤ h ∧ h ≤ (l.length : Int) - 1
    · by_cases h3 : 0 ≤ c ∧ c ≤ (l.length : Int)
      · simp only [h1, h2, h3, and_self, decide_true, if_true, Bool.not_true, Bool.false_eq_true, if_false]
        obtain ⟨i, rfl⟩ : ∃ i : Nat, c = (i : Int) := ⟨c.toNat, by omega⟩
        rw [spec_RingOk_l0_eq l h _ (by omega) (by omega) (by omega) (l.length - i) k i (by omega) (by omega)]
        congr 1
        rw [decide_eq_decide]
        unfold ringOkP
        constructor
        · intro hh
          exact ⟨⟨h1, h2, h3⟩, fun j h4 h5 => hh j h4 (by omega)⟩
        · intro hh j h4 h5
          exact hh.2 j h4 (by omega)
      · have h4 : ¬ ringOkP l h c := fun hh => h3 hh.1.2.2
        simp [h1, h2, h3, h4]
    · have h4 : ¬ ringOkP l h c := fun hh => h2 hh.1.2.1
      simp [h1, h2, h4]
  · have h4 : ¬ ringOkP l h c := fun hh => h1 hh.1.1
    simp [h1, h4]
theorem impl_RingOk_eq {k : Nat} {l : List Int} {h c : Int} (hm : l.length ≤ 1048576) (hk : 100 ≤ k) : impl_RingOk.f k l h c = some (decide (ringOkP l h c)) := by
  rw [RingOk_eq, spec_RingOk_eq hm hk]
theorem mod_in {l : List Int} {h c : Int} (hn : 1 ≤ (l.length : Int)) (h0 : 0 ≤ h) (c0 : 0 ≤ c) :
    0 ≤ Int.tmod (h + c) (l.length : Int) ∧ Int.tmod (h + c) (l.length : Int) < (l.length : Int) ∧ Int.tmod (h + c) (l.length : Int) = (h + c) % (l.length : Int) :=
  ⟨Int.tmod_nonneg _ (by omega), Int.tmod_lt_of_pos _ (by omega), Int.tmod_eq_emod_of_nonneg (by omega)⟩

theorem spec_l01Copy_l0 (x0 : List Int) (hn : x0.length ≤ 1048576) : ∀ (d k i : Nat), i + d = x0.length → d < k → spec_l01Copy.l0 k x0 (x0.take i) (i : Int) = some x0 := by
  intro d
  induction d with
  | zero =>
    intro k i h hk
    obtain ⟨k, rfl⟩ : ∃ m, k = m + 1 := ⟨k - 1, by omega⟩
    simp only [spec_l01Copy.l0]
    rw [if_neg (by omega), List.take_of_length_le (by omega)]
  | succ d ih =>
    intro k i h hk
    obtain ⟨k, rfl⟩ : ∃ m, k = m + 1 := ⟨k - 1, by omega⟩
    simp only [spec_l01Copy.l0]
    have e : x0.take i ++ [rd x0 (i : Int)] = x0.take (i + 1) := by
      have h2 := rd_at (x := x0) (i := i) (by omega)
      rw [List.getElem?_eq_getElem (by omega)] at h2
      rw [List.take_succ_eq_append_getElem (by omega), Option.some.inj h2]
    rw [if_pos (by omega), if_pos (by omega), if_pos (by rw [List.length_take]; omega), wi (by omega), e]
    exact ih k (i + 1) (by omega) (by omega)
theorem spec_l01Copy_eq {k : Nat} {l : List Int} (hn : l.length ≤ 1048576) (hk : l.length < k) : spec_l01Copy.f k l = some l := by
  have h := spec_l01Copy_l0 l hn l.length k 0 (by omega) hk
  simpa [spec_l01Copy.f] using h

theorem spec_l03Copy_eq {k : Nat} {l : List Int} {h c : Int} (hn : l.length ≤ 1048576) (hk : l.length < k) : spec_l03Copy.f k l h c = some (l, h, c) := by
  simp [spec_l03Copy.f, spec_l01Copy_eq hn hk]
theorem impl_ownRing_eq {l : List Int} {h c : Int} (hn : l.length ≤ 1048576) : impl_ownRing.f l h c = some (l, h, c) := by
  have e : l.length < 17592186044416 := by omega
  simp [impl_ownRing.f, slices_Clone_int_int.f, e]

def pushV (l : List Int) (h c x : Int) : List Int × Int × Int × Bool :=
  if ringOkP l h c then (if c = (l.length : Int) then (l, h, c, false) else (l.set ((h + c) % (l.length : Int)).toNat x, h, c + 1, true)) else (l, h, c, false)
theorem pushV_length (l : List Int) (h c x : Int) : (pushV l h c x).1.length = l.length := by
  unfold pushV
  (repeat' split) <;> simp
theorem spec_PushRing_eq {k : Nat} {l : List Int} {h c x : Int} (hm : l.length ≤ 1048576) (hk : l.length + 100 ≤ k) : spec_PushRing.f k l h c x = some (pushV l h c x) := by
  simp only [spec_PushRing.f, spec_l03Copy_eq hm (show l.length < k by omega), spec_RingOk_eq (h := h) (c := c) hm (show 100 ≤ k by omega), Option.bind_some, pushV, decide_eq_true_eq]
  by_cases h0 : ringOkP l h c
  · obtain ⟨⟨h1, h2, h3⟩, _⟩ := id h0
    rw [if_pos h0, if_pos h0]
    by_cases h4 : c = (l.length : Int)
    · rw [if_pos h4, if_pos h4]
    · obtain ⟨g0, g1, g2⟩ := mod_in (l := l) h1.1 h2.1 h3.1
      rw [if_neg h4, if_neg h4, if_neg (by omega), w64 (x := h + c) (by omega) (by omega), if_pos g0, if_pos g1, g2, w64 (x := c + 1) (by omega) (by omega)]
  · rw [if_neg h0, if_neg h0]
theorem impl_PushRing_eq {k : Nat} {l : List Int} {h c x : Int} (hm : l.length ≤ 1048576) (hk : 100 ≤ k) : impl_PushRing.f k l h c x = some (pushV l h c x) := by
  simp only [impl_PushRing.f, impl_ownRing_eq hm, impl_RingOk_eq (h := h) (c := c) hm (show 100 ≤ k by omega), Option.bind_some, pushV, decide_eq_true_eq]
  by_cases h0 : ringOkP l h c
  · obtain ⟨⟨h1, h2, h3⟩, _⟩ := id h0
    rw [if_pos h0, if_pos h0]
    by_cases h4 : c = (l.length : Int)
    · rw [if_pos h4, if_pos h4]
    · obtain ⟨g0, g1, g2⟩ := mod_in (l := l) h1.1 h2.1 h3.1
      rw [if_neg h4, if_neg h4, if_neg (by omega), w64 (x := h + c) (by omega) (by omega), if_pos g0, if_pos g1, g2, w64 (x := c + 1) (by omega) (by omega)]
  · rw [if_neg h0, if_neg h0]

def popV (l : List Int) (h c : Int) : List Int × Int × Int × Int × Bool :=
  if ringOkP l h c then (if c = 0 then (l, h, c, 0, false) else (l.set h.toNat 0, (h + 1) % (l.length : Int), c - 1, rd l h, true)) else (l, h, c, 0, false)
theorem popV_length (l : List Int) (h c : Int) : (popV l h c).1.length = l.length := by
  unfold popV
  (repeat' split) <;> simp
theorem spec_PopRing_eq {k : Nat} {l : List Int} {h c : Int} (hm : l.length ≤ 1048576) (hk : l.length + 100 ≤ k) : spec_PopRing.f k l h c = some (popV l h c) := by
  simp only [spec_PopRing.f, spec_l03Copy_eq hm (show l.length < k by omega), spec_RingOk_eq (h := h) (c := c) hm (show 100 ≤ k by omega), Option.bind_some, popV, decide_eq_true_eq]
  by_cases h0 : ringOkP l h c
  · obtain ⟨⟨h1, h2, h3⟩, _⟩ := id h0
    rw [if_pos h0, if_pos h0]
    by_cases h4 : c = 0
    · rw [if_pos h4, if_pos h4]
    · obtain ⟨g0, g1, g2⟩ := mod_in (l := l) (c := 1) h1.1 h2.1 (by omega)
      rw [if_neg h4, if_neg h4, if_pos h2.1, if_pos (by omega), if_pos (by omega), if_neg (by omega), w64 (x := h + 1) (by omega) (by omega), g2, w64 (x := c - 1) (by omega) (by omega)]
  · rw [if_neg h0, if_neg h0]
theorem impl_PopRing_eq {k : Nat} {l : List Int} {h c : Int} (hm : l.length ≤ 1048576) (hk : 100 ≤ k) : impl_PopRing.f k l h c = some (popV l h c) := by
  simp only [impl_PopRing.f, impl_ownRing_eq hm, impl_RingOk_eq (h := h) (c := c) hm (show 100 ≤ k by omega), Option.bind_some, popV, decide_eq_true_eq]
  by_cases h0 : ringOkP l h c
  · obtain ⟨⟨h1, h2, h3⟩, _⟩ := id h0
    rw [if_pos h0, if_pos h0]
    by_cases h4 : c = 0
    · rw [if_pos h4, if_pos h4]
    · obtain ⟨g0, g1, g2⟩ := mod_in (l := l) (c := 1) h1.1 h2.1 (by omega)
      rw [if_neg h4, if_neg h4, if_pos h2.1, if_pos (by omega), if_pos (by omega), if_neg (by omega), w64 (x := h + 1) (by omega) (by omega), g2, w64 (x := c - 1) (by omega) (by omega)]
  · rw [if_neg h0, if_neg h0]

def newRingV (a : Int) : List Int × Int × Int × Bool := if 1 ≤ a ∧ a ≤ 20 then (List.replicate a.toNat 0, 0, 0, true) else ([], 0, 0, false)
theorem newRingV_length (a : Int) : (newRingV a).1.length ≤ 20 := by
  unfold newRingV
  by_cases h : 1 ≤ a ∧ a ≤ 20
  · rw [if_pos h]; simp; omega
  · rw [if_neg h]; simp
theorem spec_NewRing_eq (a : Int) : spec_NewRing.f a = some (newRingV a) := by
  simp only [spec_NewRing.f, spec_in_eq, Option.bind_some, newRingV]
  by_cases h : 1 ≤ a ∧ a ≤ 20
  · have h1 : 0 ≤ a := by omega
    have h2 : a.toNat ≤ 35184372088832 := by omega
    simp [h, h1, h2]
  · simp [h]
theorem impl_NewRing_eq (a : Int) : impl_NewRing.f a = some (newRingV a) := by
  simp only [impl_NewRing.f, impl_within_eq, Option.bind_some, newRingV]
  by_cases h : 1 ≤ a ∧ a ≤ 20
  · have h1 : 0 ≤ a := by omega
    have h2 : a.toNat ≤ 35184372088832 := by omega
    simp [h, h1, h2]
  · simp [h]

def credOk (a b : Int) : Bool := decide (0 ≤ a ∧ a ≤ 20) && decide (0 ≤ b ∧ b ≤ 20 - a)
theorem spec_l03Credit_eq (a b : Int) : spec_l03Credit.f a b = some (credOk a b) := by
  simp only [spec_l03Credit.f, spec_in_eq, Option.bind_some, credOk]
  by_cases h1 : 0 ≤ a ∧ a ≤ 20
  · rw [w64 (x := 20 - a) (by omega) (by omega)]
    simp [h1]
  · simp [h1]
theorem impl_creditOk_eq (a b : Int) : impl_creditOk.f a b = some (credOk a b) := by
  simp only [impl_creditOk.f, impl_within_eq, Option.bind_some, credOk]
  by_cases h1 : 0 ≤ a ∧ a ≤ 20
  · by_cases h2 : 0 ≤ b ∧ b ≤ 20
    · rw [w64 (x := a + b) (by omega) (by omega)]
      by_cases h3 : a + b ≤ 20
      · have h4 : b ≤ 20 - a := by omega
        simp [h1, h2, h3, h4]
      · have h4 : ¬ b ≤ 20 - a := by omega
        simp [h1, h2, h3, h4]
    · have h3 : ¬ (0 ≤ b ∧ b ≤ 20 - a) := by omega
      simp [h1, h2, h3]
  · simp [h1]

theorem Spend_both (a b : Int) : ∃ v, spec_SpendCredit.f a b = some v ∧ impl_SpendCredit.f a b = some v := by
  simp only [spec_SpendCredit.f, impl_SpendCredit.f, spec_l03Credit_eq, impl_creditOk_eq, Option.bind_some]
  by_cases h : credOk a b = true
  · by_cases h2 : a = 0
    · simp only [if_pos h, if_pos h2]; exact ⟨_, rfl, rfl⟩
    · simp only [if_pos h, if_neg h2]; exact ⟨_, rfl, rfl⟩
  · simp only [if_neg h]; exact ⟨_, rfl, rfl⟩
theorem Return_both (a b : Int) : ∃ v, spec_ReturnCredit.f a b = some v ∧ impl_ReturnCredit.f a b = some v := by
  simp only [spec_ReturnCredit.f, impl_ReturnCredit.f, spec_l03Credit_eq, impl_creditOk_eq, Option.bind_some]
  by_cases h : credOk a b = true
  · by_cases h2 : b = 0
    · simp only [if_pos h, if_pos h2]; exact ⟨_, rfl, rfl⟩
    · simp only [if_pos h, if_neg h2]; exact ⟨_, rfl, rfl⟩
  · simp only [if_neg h]; exact ⟨_, rfl, rfl⟩
theorem PlayLink_l0 (x : List Int) (hx : x.length ≤ 300) : ∀ (d k i : Nat) (acc l : List Int) (h c p q : Int), i + d = x.length → 200 + d ≤ k → acc.length = i → l.length ≤ 20 →
    ∃ r : List Int × Int × Int × Int × Int × List Int, spec_PlayLink.l0 k x acc (i : Int) l h c p q = some r ∧ impl_PlayLink.l0 k acc x (x.length : Int) (i : Int) l h c p q = some r ∧ r.1.length ≤ 20 ∧ r.2.2.2.2.2.length ≤ 300 := by
  intro d
  induction d with
  | zero =>
    intro k i acc l h c p q hi hk ha hl
    obtain ⟨k, rfl⟩ : ∃ m, k = m + 1 := ⟨k - 1, by omega⟩
    simp only [spec_PlayLink.l0, impl_PlayLink.l0]
    rw [if_neg (by omega), if_neg (by omega)]
    exact ⟨_, rfl, rfl, hl, by show acc.length ≤ 300; omega⟩
  | succ d ih =>
    intro k i acc l h c p q hi hk ha hl
    obtain ⟨k, rfl⟩ : ∃ m, k = m + 1 := ⟨k - 1, by omega⟩
    have c1 : (i : Int) < (x.length : Int) := by omega
    have c2 : 0 ≤ (i : Int) := by omega
    have c3 : acc.length < 17592186044416 := by omega
    obtain ⟨v, s1, s2⟩ := Spend_both p q
    obtain ⟨u, t1, t2⟩ := Return_both p q
    have p1 := spec_PushRing_eq (k := k) (l := l) (h := h) (c := c) (x := rd x (i : Int)) (by omega) (by omega)
    have p2 := impl_PushRing_eq (k := k) (l := l) (h := h) (c := c) (x := rd x (i : Int)) (by omega) (by omega)
    have o1 := spec_PopRing_eq (k := k) (l := l) (h := h) (c := c) (by omega) (by omega)
    have o2 := impl_PopRing_eq (k := k) (l := l) (h := h) (c := c) (by omega) (by omega)
    have hv1 := pushV_length l h c (rd x (i : Int))
    have hv2 := popV_length l h c
    have step : ∀ (y : Int) (l' : List Int) (h' c' p' q' : Int), l'.length ≤ 20 → ∃ r : List Int × Int × Int × Int × Int × List Int, spec_PlayLink.l0 k x (acc ++ [y]) ((i + 1 : Nat) : Int) l' h' c' p' q' = some r ∧ impl_PlayLink.l0 k (acc ++ [y]) x (x.length : Int) ((i + 1 : Nat) : Int) l' h' c' p' q' = some r ∧ r.1.length ≤ 20 ∧ r.2.2.2.2.2.length ≤ 300 :=
      fun y l' h' c' p' q' hl' => ih k (i + 1) (acc ++ [y]) l' h' c' p' q' (by omega) (by omega) (by rw [List.length_append, List.length_singleton]; omega) hl'
    simp only [spec_PlayLink.l0, impl_PlayLink.l0, if_pos c1, if_pos c2, if_pos c3, s1, s2, t1, t2, p1, p2, o1, o2, Option.bind_some, wi (show i < 4611686018427387904 by omega)]
    by_cases g : rd x (i : Int) ≥ 0
    · have g2 : ¬ rd x (i : Int) < 0 := by omega
      simp only [if_pos g, if_neg g2]
      by_cases b : v.2.2 = true
      · simp only [if_pos b]
        exact step _ _ _ _ _ _ (by omega)
      · simp only [if_neg b]
        exact step _ _ _ _ _ _ (by omega)
    · have g2 : rd x (i : Int) < 0 := by omega
      simp only [if_neg g, if_pos g2]
      by_cases b : (popV l h c).2.2.2.2 = true
      · simp only [if_pos b]
        exact step _ _ _ _ _ _ (by omega)
      · simp only [if_neg b]
        exact step _ _ _ _ _ _ (by omega)
theorem PlayLink_both (a : Int) (x : List Int) : ∃ r : List Int × Int × Int × Int × Int × List Int, (∀ k, 600 ≤ k → spec_PlayLink.f k a x = some r) ∧ (∀ k, 600 ≤ k → impl_PlayLink.f k a x = some r) ∧ r.1.length ≤ 20 ∧ r.2.2.2.2.2.length ≤ 300 := by
  suffices hh : ∃ r : List Int × Int × Int × Int × Int × List Int, spec_PlayLink.f 600 a x = some r ∧ impl_PlayLink.f 600 a x = some r ∧ r.1.length ≤ 20 ∧ r.2.2.2.2.2.length ≤ 300 by
    obtain ⟨r, e1, e2, e3⟩ := hh
    exact ⟨r, fun k hk => at_rounds (fun k => spec_PlayLink.mono a x k) hk e1, fun k hk => at_rounds (fun k => impl_PlayLink.mono a x k) hk e2, e3⟩
  have hv := newRingV_length a
  simp only [spec_PlayLink.f, impl_PlayLink.f, spec_NewRing_eq, impl_NewRing_eq, Option.bind_some]
  generalize newRingV a = v at hv ⊢
  have no : ∀ k, spec_PlayLink.j0 (k + 1) a x true v.1 v.2.1 v.2.2.1 = some ([], 0, 0, 0, 0, []) ∧ impl_PlayLink.j0 (k + 1) a x true v.1 v.2.1 v.2.2.1 = some ([], 0, 0, 0, 0, []) := fun k => ⟨rfl, rfl⟩
  by_cases b : v.2.2.2 = true
  · simp only [if_pos b]
    by_cases g : (x.length : Int) > 300
    · rw [decide_eq_true g]
      exact ⟨_, (no 599).1, (no 599).2, by simp, by simp⟩
    · rw [decide_eq_false g]
      simp only [spec_PlayLink.j0, impl_PlayLink.j0, Bool.false_eq_true, if_false]
      exact PlayLink_l0 x (by omega) x.length 599 0 [] v.1 v.2.1 v.2.2.1 a 0 (by omega) (by omega) rfl hv
  · simp only [if_neg b]
    exact ⟨_, (no 599).1, (no 599).2, by simp, by simp⟩

def listV (l : List Int) (h c : Int) : List Int := (List.range c.toNat).map fun (i : Nat) => rd l ((h + (i : Int)) % (l.length : Int))
theorem impl_ListRing_l0 (l : List Int) (h : Int) (c : Nat) (hn : 1 ≤ l.length) (hn2 : l.length ≤ 20) (h0 : 0 ≤ h) (h1 : h ≤ 20) (hc : c ≤ l.length) : ∀ (d k i : Nat), i + d = c → d < k →
    impl_ListRing.l0 k (listV l h (i : Int)) (c : Int) (i : Int) l h (c : Int) = some (listV l h (c : Int)) := by
  intro d
  induction d with
  | zero =>
    intro k i hi hk
    obtain ⟨k, rfl⟩ : ∃ m, k = m + 1 := ⟨k - 1, by omega⟩
    simp only [impl_ListRing.l0]
    obtain rfl : i = c := by omega
    rw [if_neg (by omega)]
  | succ d ih =>
    intro k i hi hk
    obtain ⟨k, rfl⟩ : ∃ m, k = m + 1 := ⟨k - 1, by omega⟩
    simp only [impl_ListRing.l0]
    obtain ⟨g0, g1, g2⟩ := mod_in (l := l) (h := h) (c := (i : Int)) (by omega) h0 (by omega)
    have e : listV l h (i : Int) ++ [rd l ((h + (i : Int)) % (l.length : Int))] = listV l h ((i + 1 : Nat) : Int) := by
      simp [listV, List.range_succ]
    rw [if_pos (by omega), if_neg (by omega), w64 (x := h + (i : Int)) (by omega) (by omega), if_pos g0, if_pos g1, if_pos (by simp [listV]; omega), wi (by omega), g2, e]
    exact ih k (i + 1) (by omega) (by omega)
def listRingV (l : List Int) (h c : Int) : List Int := if ringOkP l h c then listV l h c else []
theorem listRingV_length (l : List Int) (h c : Int) : (listRingV l h c).length ≤ 20 := by
  unfold listRingV
  by_cases h0 : ringOkP l h c
  · rw [if_pos h0]
    obtain ⟨⟨h1, h2, h3⟩, _⟩ := h0
    simp [listV]; omega
  · rw [if_neg h0]; simp
theorem impl_ListRing_eq {k : Nat} {l : List Int} {h c : Int} (hm : l.length ≤ 1048576) (hk : 100 ≤ k) : impl_ListRing.f k l h c = some (listRingV l h c) := by
  simp only [impl_ListRing.f, impl_RingOk_eq (h := h) (c := c) hm (show 100 ≤ k by omega), Option.bind_some, listRingV, decide_eq_true_eq]
  by_cases h0 : ringOkP l h c
  · obtain ⟨⟨h1, h2, h3⟩, _⟩ := id h0
    rw [if_pos h0, if_pos h0]
    obtain ⟨i, rfl⟩ : ∃ i : Nat, c = (i : Int) := ⟨c.toNat, by omega⟩
    have e := impl_ListRing_l0 l h i (by omega) (by omega) (by omega) (by omega) (by omega) i k 0 (by omega) (by omega)
    simpa [listV] using e
  · rw [if_neg h0, if_neg h0]

def fillV (L : List Int) (n i : Nat) : List Int := L.take i ++ List.replicate (n - i) 0
theorem fillV_length {L : List Int} {n i : Nat} (h1 : i ≤ L.length) (h2 : i ≤ n) : (fillV L n i).length = n := by
  unfold fillV
  rw [List.length_append, List.length_take, List.length_replicate]
  omega
def growV (l : List Int) (h c n : Int) : List Int × Int × Int × Bool := if ringOkP l h c ∧ (1 ≤ n ∧ n ≤ 20) ∧ c ≤ n then (fillV (listV l h c) n.toNat (listV l h c).length, 0, c, true) else (l, h, c, false)
theorem listV_length (l : List Int) (h c : Int) : (listV l h c).length = c.toNat := by simp [listV]
theorem growV_length (l : List Int) (h c n : Int) : (growV l h c n).1.length ≤ l.length + 20 := by
  unfold growV
  split
  · rename_i hh
    rw [fillV_length (Nat.le_refl _) (by rw [listV_length]; omega)]
    omega
  · exact Nat.le_add_right _ _
theorem impl_GrowRing_eq {k : Nat} {l : List Int} {h c n : Int} (hm : l.length ≤ 1048576) (hk : l.length + 400 ≤ k) : impl_GrowRing.f k l h c n = some (growV l h c n) := by
  obtain ⟨k, rfl⟩ : ∃ m, k = m + 1 := ⟨k - 1, by omega⟩
  simp only [impl_GrowRing.f, impl_RingOk_eq (h := h) (c := c) hm (show 100 ≤ k + 1 by omega), impl_within_eq, Option.bind_some, growV, decide_eq_true_eq]
  have hf : impl_GrowRing.j0 (k + 1) n true l h c = some (l, h, c, false) := by
    simp only [impl_GrowRing.j0, if_true]
    rw [impl_ownRing_eq hm, Option.bind_some]
  by_cases h1 : ringOkP l h c
  · rw [if_pos h1]
    by_cases h2 : 1 ≤ n ∧ n ≤ 20
    · rw [if_pos h2]
      by_cases h3 : c > n
      · rw [decide_eq_true h3, hf, if_neg (fun h => by have := h.2.2; omega)]
      · rw [decide_eq_false h3, if_pos ⟨h1, h2, by omega⟩]
        have hc := h1.1.2.2
        obtain ⟨m, rfl⟩ : ∃ m : Nat, n = (m : Int) := ⟨n.toNat, by omega⟩
        simp only [impl_GrowRing.j0, Bool.false_eq_true, if_false, Int.toNat_natCast]
        rw [if_pos (by omega), if_pos (by omega), impl_ListRing_eq hm (by omega), Option.bind_some]
        unfold listRingV copyInts.f
        rw [if_pos h1, List.length_replicate, if_pos (by omega), Option.bind_some]
        have hlen : (listV l h c).length ≤ m := by rw [listV_length]; omega
        dsimp only
        unfold fillV
        rw [List.take_of_length_le hlen, List.take_of_length_le (Nat.le_refl _), List.drop_replicate]
    · rw [if_neg h2, hf, if_neg (fun h => h2 h.2.1)]
  · rw [if_neg h1, hf, if_neg (fun h => h1 h.1)]

theorem same_l0 (x : List Int) (hn : x.length ≤ 1048576) : ∀ (d k i : Nat), i + d = x.length → d < k → laws_same.l0 k x x (i : Int) = some true := by
  intro d
  induction d with
  | zero =>
    intro k i h hk
    obtain ⟨k, rfl⟩ : ∃ m, k = m + 1 := ⟨k - 1, by omega⟩
    simp only [laws_same.l0]
    rw [if_neg (by omega)]
  | succ d ih =>
    intro k i h hk
    obtain ⟨k, rfl⟩ : ∃ m, k = m + 1 := ⟨k - 1, by omega⟩
    simp only [laws_same.l0, if_true]
    rw [if_pos (by omega), if_pos (by omega), if_pos (by omega), wi (by omega)]
    exact ih k (i + 1) (by omega) (by omega)
theorem same_refl {k : Nat} {x : List Int} (hn : x.length ≤ 1048576) (hk : x.length < k) : laws_same.f k x x = some true := by
  unfold laws_same.f
  rw [if_pos rfl]
  exact same_l0 x hn x.length k 0 (by omega) hk

theorem bits255 (x : Int) : 0 ≤ Go.bits .and .i64 x 255 ∧ Go.bits .and .i64 x 255 ≤ 255 := by
  have e2 : (BitVec.ofInt 64 (255 : Int)).toNat = 255 := by decide
  have e : Go.bits .and .i64 x 255 = IntKind.i64.wrap (((BitVec.ofInt 64 x).toNat &&& 255 : Nat) : Int) := by
    show IntKind.i64.wrap ((BitVec.ofInt 64 x &&& BitVec.ofInt 64 255).toNat : Int) = _
    rw [BitVec.toNat_and, e2]
  have h : (BitVec.ofInt 64 x).toNat &&& 255 ≤ 255 := Nat.and_le_right
  rw [e, IntKind.wrap_i64]
  omega
theorem Byte_some {l : List Int} (hl : l.length ≤ 4611686018427387903) (p s : Int) (hp : 0 ≤ p) : ∃ b p' s', spec_l01Byte.f l p s = some (b, p', s') ∧ (0 ≤ b ∧ b ≤ 255) ∧ 0 ≤ p' := by
  unfold spec_l01Byte.f
  by_cases h : p < (l.length : Int)
  · rw [if_pos h, if_pos hp, w64 (x := p + 1) (by omega) (by omega)]
    exact ⟨_, _, _, rfl, bits255 _, by omega⟩
  · rw [if_neg h]
    exact ⟨_, _, _, rfl, bits255 _, hp⟩
theorem tmodB {v a : Int} (h0 : 0 ≤ v) (ha : 0 < a) : 0 ≤ Int.tmod v a ∧ Int.tmod v a < a := ⟨Int.tmod_nonneg _ h0, Int.tmod_lt_of_pos _ ha⟩
theorem Below_some {l : List Int} (hl : l.length ≤ 4611686018427387903) (p s a : Int) (hp : 0 ≤ p) : ∃ v p' s', spec_l01Below.f l p s a = some (v, p', s') ∧ (0 ≤ v ∧ (v < a ∨ v = 0)) ∧ (0 < a → v < a) ∧ 0 ≤ p' := by
  unfold spec_l01Below.f
  by_cases h : a ≤ 0
  · rw [if_pos h]
    exact ⟨_, _, _, rfl, ⟨by omega, .inr rfl⟩, by omega, hp⟩
  · rw [if_neg h]
    by_cases h2 : a ≤ 256
    · rw [if_pos h2]
      obtain ⟨b, p1, s1, e1, hb, hp1⟩ := Byte_some hl p s hp
      rw [e1, Option.bind_some, if_neg (by omega)]
      have := tmodB (v := b) (a := a) hb.1 (by omega)
      exact ⟨_, _, _, rfl, ⟨this.1, .inl this.2⟩, fun _ => this.2, hp1⟩
    · rw [if_neg h2]
      obtain ⟨b, p1, s1, e1, hb, hp1⟩ := Byte_some hl p s hp
      obtain ⟨b2, p2, s2, e2, hb2, hp2⟩ := Byte_some hl p1 s1 hp1
      obtain ⟨b3, p3, s3, e3, hb3, hp3⟩ := Byte_some hl p2 s2 hp2
      rw [e1, Option.bind_some]
      dsimp only
      rw [e2, Option.bind_some]
      dsimp only
      rw [e3, Option.bind_some, if_neg (by omega), w64 (x := b * 65536) (by omega) (by omega), w64 (x := b2 * 256) (by omega) (by omega), w64 (x := b * 65536 + b2 * 256) (by omega) (by omega), w64 (x := b * 65536 + b2 * 256 + b3) (by omega) (by omega)]
      have := tmodB (v := b * 65536 + b2 * 256 + b3) (a := a) (by omega) (by omega)
      exact ⟨_, _, _, rfl, ⟨this.1, .inl this.2⟩, fun _ => this.2, hp3⟩
theorem Once_some {l : List Int} (hl : l.length ≤ 4611686018427387903) (p s a : Int) (hp : 0 ≤ p) : ∃ v p' s', spec_l01Once.f l p s a = some (v, p', s') ∧ 0 ≤ p' := by
  obtain ⟨v, p1, s1, e, _, _, h⟩ := Below_some hl p s a hp
  unfold spec_l01Once.f
  rw [e, Option.bind_some]
  exact ⟨_, _, _, rfl, h⟩
theorem Pick_some {l : List Int} (hl : l.length ≤ 4611686018427387903) (p s : Int) (hp : 0 ≤ p) (c : List Int) (hc : 0 < c.length) : ∃ v p' s', spec_l01PickInt.f l p s c = some (v, p', s') ∧ 0 ≤ p' := by
  obtain ⟨v, p1, s1, e, h1, h2, h⟩ := Below_some hl p s (c.length : Int) hp
  unfold spec_l01PickInt.f
  rw [e, Option.bind_some, if_pos h1.1, if_pos (h2 (by omega))]
  exact ⟨_, _, _, rfl, h⟩
theorem New_l0 (l : List Int) : ∀ (d k i : Nat) (s : Int), i + d = 4000 → d < k → ∃ s', spec_l01New.l0 k l s (i : Int) = some (l, 0, s') := by
  intro d
  induction d with
  | zero =>
    intro k i s h hk
    obtain ⟨k, rfl⟩ : ∃ m, k = m + 1 := ⟨k - 1, by omega⟩
    simp only [spec_l01New.l0]
    rw [if_neg (c := (i : Int) < 4000) (by omega)]
    exact ⟨s, by split <;> rfl⟩
  | succ d ih =>
    intro k i s h hk
    obtain ⟨k, rfl⟩ : ∃ m, k = m + 1 := ⟨k - 1, by omega⟩
    simp only [spec_l01New.l0]
    rw [wi (by omega), if_pos (c := (i : Int) < 4000) (by omega), if_pos (c := 0 ≤ (i : Int)) (by omega)]
    by_cases h1 : (i : Int) < (l.length : Int)
    · rw [if_pos h1]
      exact ih k (i + 1) _ (by omega) (by omega)
    · rw [if_neg h1]
      exact ⟨s, rfl⟩
theorem New_some {k : Nat} (l : List Int) (hk : 4001 ≤ k) : ∃ s, spec_l01New.f k l = some (l, 0, s) := by
  unfold spec_l01New.f
  exact New_l0 l 4000 k 0 _ (by omega) (by omega)

theorem Size_some (l : List Int) : ∃ v, spec_l01Size.f l 40 = some v ∧ v ≤ 40 := by
  unfold spec_l01Size.f
  split
  · exact ⟨_, rfl, by omega⟩
  · exact ⟨_, rfl, by omega⟩

theorem modc {h i n : Int} (h0 : 0 ≤ h) (h1 : h < n) (i0 : 0 ≤ i) (i1 : i ≤ n) : (h + i) % n = if h + i < n then h + i else h + i - n := by
  split
  · exact Int.emod_eq_of_lt (by omega) (by omega)
  · have e : (h + i) % n = ((h + i - n) + n * 1) % n := by congr 1; omega
    rw [e, Int.add_mul_emod_self_left]
    exact Int.emod_eq_of_lt (by omega) (by omega)
theorem mod_ne {h i j n : Int} (h0 : 0 ≤ h) (h1 : h < n) (i0 : 0 ≤ i) (i1 : i < n) (j0 : 0 ≤ j) (j1 : j < n) (hij : i ≠ j) : (h + i) % n ≠ (h + j) % n := by
  rw [modc h0 h1 i0 (by omega), modc h0 h1 j0 (by omega)]
  split <;> split <;> omega
theorem rd_set_ne {l : List Int} {x a b : Int} (a0 : 0 ≤ a) (b0 : 0 ≤ b) (hne : a ≠ b) : rd (l.set a.toNat x) b = rd l b := by
  have : a.toNat ≠ b.toNat := by omega
  simp [rd, List.getD_eq_getElem?_getD, List.getElem?_set, this]
theorem rd_set_eq {l : List Int} {x a : Int} (a0 : 0 ≤ a) (a1 : a < (l.length : Int)) : rd (l.set a.toNat x) a = x := by
  have : a.toNat < l.length := by omega
  simp [rd, List.getD_eq_getElem?_getD, List.getElem?_set, this]
/-- The ring holds the list, and its link's credit is right. -/
def RInv (n : Nat) (l : List Int) (h c p q : Int) (L : List Int) : Prop := l.length = n ∧ ringOkP l h c ∧ listV l h c = L ∧ q = c ∧ p = (n : Int) - c
theorem RInv.len {n : Nat} {l : List Int} {h c p q : Int} {L : List Int} (H : RInv n l h c p q L) : L.length = c.toNat := by
  obtain ⟨_, _, rfl, _, _⟩ := H
  exact listV_length l h c
theorem RInv.push {n : Nat} {l : List Int} {h c p q : Int} {L : List Int} (x : Int) (H : RInv n l h c p q L) (hc : c < (n : Int)) :
    pushV l h c x = (l.set ((h + c) % (l.length : Int)).toNat x, h, c + 1, true) ∧ RInv n (l.set ((h + c) % (l.length : Int)).toNat x) h (c + 1) (p - 1) (q + 1) (L ++ [x]) := by
  obtain ⟨hn, hok, hL, hq, hp⟩ := H
  subst hn
  obtain ⟨⟨h1, h2, h3⟩, hz⟩ := id hok
  have hpos : (0 : Int) ≤ (h + c) % (l.length : Int) := Int.emod_nonneg _ (by omega)
  have hlt : (h + c) % (l.length : Int) < (l.length : Int) := Int.emod_lt_of_pos _ (by omega)
  refine ⟨by unfold pushV; rw [if_pos hok, if_neg (by omega)], by simp, ?_, ?_, by omega, by omega⟩
  · unfold ringOkP
    rw [List.length_set]
    refine ⟨⟨h1, h2, by omega⟩, fun i hi hci => ?_⟩
    rw [rd_set_ne hpos (Int.emod_nonneg _ (by omega)) (mod_ne h2.1 (by omega) h3.1 hc (by omega) (by omega) (by omega))]
    exact hz i hi (by omega)
  · rw [← hL]
    unfold listV
    rw [show (c + 1).toNat = c.toNat + 1 by omega, List.range_succ, List.map_append, List.length_set]
    congr 1
    · apply List.map_congr_left
      intro i hi
      have hi := List.mem_range.1 hi
      exact rd_set_ne hpos (Int.emod_nonneg _ (by omega)) (mod_ne h2.1 (by omega) h3.1 hc (by omega) (by omega) (by omega))
    · simp only [List.map_cons, List.map_nil]
      rw [show ((c.toNat : Nat) : Int) = c by omega, rd_set_eq hpos hlt]
theorem RInv.pop {n : Nat} {l : List Int} {h c p q : Int} {L : List Int} (H : RInv n l h c p q L) (hc : 0 < c) :
    ∃ y ys, L = y :: ys ∧ popV l h c = (l.set h.toNat 0, (h + 1) % (l.length : Int), c - 1, y, true) ∧ RInv n (l.set h.toNat 0) ((h + 1) % (l.length : Int)) (c - 1) (p + 1) (q - 1) ys := by
  obtain ⟨hn, hok, hL, hq, hp⟩ := H
  subst hn
  obtain ⟨⟨h1, h2, h3⟩, hz⟩ := id hok
  have hmod : ∀ i : Nat, ((h + 1) % (l.length : Int) + (i : Int)) % (l.length : Int) = (h + ((i + 1 : Nat) : Int)) % (l.length : Int) := by
    intro i
    rw [Int.emod_add_emod]
    congr 1
    omega
  have h00 : (h + ((0 : Nat) : Int)) % (l.length : Int) = h := by rw [modc h2.1 (by omega) (by omega) (by omega)]; split <;> omega
  have hne : ∀ i : Nat, i + 1 < l.length → h ≠ (h + ((i + 1 : Nat) : Int)) % (l.length : Int) := by
    intro i hi e
    have := mod_ne (h := h) (i := ((0 : Nat) : Int)) (j := ((i + 1 : Nat) : Int)) (n := (l.length : Int)) h2.1 (by omega) (by omega) (by omega) (by omega) (by omega) (by omega)
    rw [h00] at this
    exact this e
  refine ⟨rd l h, listV (l.set h.toNat 0) ((h + 1) % (l.length : Int)) (c - 1), ?_, by unfold popV; rw [if_pos hok, if_neg (by omega)], by simp, ?_, rfl, by omega, by omega⟩
  · rw [← hL]
    unfold listV
    rw [show c.toNat = (c - 1).toNat + 1 by omega, List.range_succ_eq_map, List.map_cons, List.map_map, h00, List.length_set]
    congr 1
    apply List.map_congr_left
    intro i hi
    have hi := List.mem_range.1 hi
    show rd l ((h + ((i + 1 : Nat) : Int)) % (l.length : Int)) = _
    rw [hmod i, rd_set_ne h2.1 (Int.emod_nonneg _ (by omega)) (hne i (by omega))]
  · unfold ringOkP
    rw [List.length_set]
    refine ⟨⟨h1, ⟨Int.emod_nonneg _ (by omega), by have := Int.emod_lt_of_pos (h + 1) (show (0 : Int) < (l.length : Int) by omega); omega⟩, by omega⟩, fun i hi hci => ?_⟩
    rw [hmod i]
    by_cases e : i + 1 = l.length
    · have : (h + ((i + 1 : Nat) : Int)) % (l.length : Int) = h := by
        rw [modc h2.1 (by omega) (by omega) (by omega)]; split <;> omega
      rw [this, rd_set_eq h2.1 (by omega)]
    · rw [rd_set_ne h2.1 (Int.emod_nonneg _ (by omega)) (hne i (by omega))]
      exact hz (i + 1) (by omega) (by omega)
theorem RInv.cred {n : Nat} {l : List Int} {h c p q : Int} {L : List Int} (H : RInv n l h c p q L) : credOk p q = true ∧ (0 ≤ c ∧ c ≤ (n : Int)) ∧ (1 ≤ n ∧ n ≤ 20) := by
  obtain ⟨hn, ⟨⟨h1, h2, h3⟩, hz⟩, hL, hq, hp⟩ := H
  subst hn
  refine ⟨?_, h3, by omega, by omega⟩
  unfold credOk
  rw [decide_eq_true (by omega), decide_eq_true (by omega)]
  rfl
def simS (n : Nat) (x : Int) (L : List Int) : Int × List Int := if x ≥ 0 then (if L.length < n then (1, L ++ [x]) else (0, L)) else (match L with | [] => (-1, []) | y :: ys => (y, ys))
def simR (n : Nat) : List Int → List Int → List Int × List Int
  | [], L => ([], L)
  | x :: xs, L => ((simS n x L).1 :: (simR n xs (simS n x L).2).1, (simR n xs (simS n x L).2).2)
theorem simR_len (n : Nat) : ∀ (xs L : List Int), (simR n xs L).1.length = xs.length := by
  intro xs
  induction xs with
  | nil => intro L; rfl
  | cons x xs ih => intro L; simp [simR, ih]
theorem dropR {x : List Int} {i : Nat} (h : i < x.length) : x.drop i = rd x (i : Int) :: x.drop (i + 1) := by
  have e := rd_at (x := x) (i := i) h
  rw [List.getElem?_eq_getElem h] at e
  rw [List.drop_eq_getElem_cons h, Option.some.inj e]
theorem Play_sim (n : Nat) (x : List Int) (hx : x.length ≤ 300) : ∀ (d k i : Nat) (acc l : List Int) (h c p q : Int) (L : List Int), i + d = x.length → 200 + d ≤ k → acc.length = i → RInv n l h c p q L →
    ∃ l' h' c' p' q', impl_PlayLink.l0 k acc x (x.length : Int) (i : Int) l h c p q = some (l', h', c', p', q', acc ++ (simR n (x.drop i) L).1) ∧ RInv n l' h' c' p' q' (simR n (x.drop i) L).2 := by
  intro d
  induction d with
  | zero =>
    intro k i acc l h c p q L hi hk ha H
    obtain ⟨k, rfl⟩ : ∃ m, k = m + 1 := ⟨k - 1, by omega⟩
    simp only [impl_PlayLink.l0]
    rw [if_neg (by omega), List.drop_of_length_le (by omega)]
    exact ⟨l, h, c, p, q, by simp [simR], H⟩
  | succ d ih =>
    intro k i acc l h c p q L hi hk ha H
    obtain ⟨k, rfl⟩ : ∃ m, k = m + 1 := ⟨k - 1, by omega⟩
    obtain ⟨hcr, hcb, hnb⟩ := H.cred
    have hlen := H.len
    have hll : l.length = n := H.1
    have hq : q = c := H.2.2.2.1
    have hp : p = (n : Int) - c := H.2.2.2.2
    simp only [impl_PlayLink.l0]
    rw [if_pos (by omega), if_pos (by omega), if_pos (by omega), wi (show i < 4611686018427387904 by omega), dropR (show i < x.length by omega)]
    unfold simR
    have step : ∀ (y : Int) (l' : List Int) (h' c' p' q' : Int) (L' : List Int), RInv n l' h' c' p' q' L' → ∃ l2 h2 c2 p2 q2, impl_PlayLink.l0 k (acc ++ [y]) x (x.length : Int) ((i + 1 : Nat) : Int) l' h' c' p' q' = some (l2, h2, c2, p2, q2, acc ++ (y :: (simR n (x.drop (i + 1)) L').1)) ∧ RInv n l2 h2 c2 p2 q2 (simR n (x.drop (i + 1)) L').2 := by
      intro y l' h' c' p' q' L' H'
      have := ih k (i + 1) (acc ++ [y]) l' h' c' p' q' L' (by omega) (by omega) (by rw [List.length_append, List.length_singleton]; omega) H'
      rw [List.append_assoc] at this
      exact this
    by_cases g : rd x (i : Int) < 0
    · have g2 : ¬ rd x (i : Int) ≥ 0 := by omega
      rw [if_pos g, impl_PopRing_eq (by omega) (by omega), Option.bind_some]
      unfold simS
      rw [if_neg g2]
      by_cases hc : 0 < c
      · obtain ⟨y, ys, rfl, e, H'⟩ := H.pop hc
        rw [e]
        dsimp only
        have ec : impl_ReturnCredit.f p q = some (p + 1, q - 1, true) := by
          simp only [impl_ReturnCredit.f, impl_creditOk_eq, Option.bind_some]
          rw [if_pos hcr, if_neg (by omega), w64 (x := p + 1) (by omega) (by omega), w64 (x := q - 1) (by omega) (by omega)]
        rw [if_pos rfl, ec, Option.bind_some, if_pos (by omega)]
        exact step y _ _ _ _ _ _ H'
      · have hc0 : c = 0 := by omega
        have hL : L = [] := List.eq_nil_of_length_eq_zero (by omega)
        have e : popV l h c = (l, h, c, 0, false) := by unfold popV; rw [if_pos H.2.1, if_pos hc0]
        rw [e, if_neg (by simp), if_pos (by omega)]
        subst hL
        exact step (-1) _ _ _ _ _ _ H
    · have g2 : rd x (i : Int) ≥ 0 := by omega
      rw [if_neg g]
      unfold simS
      rw [if_pos g2]
      by_cases hc : c < (n : Int)
      · obtain ⟨e, H'⟩ := H.push (rd x (i : Int)) hc
        have ec : impl_SpendCredit.f p q = some (p - 1, q + 1, true) := by
          simp only [impl_SpendCredit.f, impl_creditOk_eq, Option.bind_some]
          rw [if_pos hcr, if_neg (by omega), w64 (x := p - 1) (by omega) (by omega), w64 (x := q + 1) (by omega) (by omega)]
        rw [ec, Option.bind_some, if_pos rfl, impl_PushRing_eq (by omega) (by omega), Option.bind_some, if_pos (by omega), e, if_pos (show L.length < n by omega)]
        exact step 1 _ _ _ _ _ _ H'
      · have ec : impl_SpendCredit.f p q = some (p, q, false) := by
          simp only [impl_SpendCredit.f, impl_creditOk_eq, Option.bind_some]
          rw [if_pos hcr, if_pos (by omega)]
        rw [ec, Option.bind_some, if_neg (by simp), if_pos (by omega), if_neg (show ¬ L.length < n by omega)]
        exact step 0 _ _ _ _ _ _ H
theorem simS_len {n : Nat} {x : Int} {L : List Int} (hL : L.length ≤ n) : (simS n x L).2.length ≤ n := by
  unfold simS
  by_cases g : x ≥ 0
  · rw [if_pos g]
    by_cases h : L.length < n
    · rw [if_pos h]; simp; omega
    · rw [if_neg h]; exact hL
  · rw [if_neg g]
    cases L with
    | nil => simp
    | cons y ys => simp at hL; dsimp only; omega
theorem simR_len2 {n : Nat} : ∀ (xs L : List Int), L.length ≤ n → (simR n xs L).2.length ≤ n := by
  intro xs
  induction xs with
  | nil => intro L h; exact h
  | cons x xs ih => intro L h; exact ih _ (simS_len h)
theorem fillV_ok {L : List Int} (h2 : L.length ≤ 20) : ringOkP (fillV L 20 L.length) 0 (L.length : Int) ∧ listV (fillV L 20 L.length) 0 (L.length : Int) = L := by
  have hl : (fillV L 20 L.length).length = 20 := fillV_length (Nat.le_refl _) h2
  have hm : ∀ j : Nat, j < 20 → (0 + (j : Int)) % ((20 : Nat) : Int) = (j : Int) := fun j hj => by rw [Int.zero_add]; exact Int.emod_eq_of_lt (by omega) (by omega)
  have hf : fillV L 20 L.length = L ++ List.replicate (20 - L.length) 0 := by unfold fillV; rw [List.take_of_length_le (Nat.le_refl _)]
  constructor
  · unfold ringOkP
    rw [hl]
    refine ⟨⟨by omega, by omega, by omega⟩, fun j h4 h5 => ?_⟩
    rw [hm j h4]
    have : (fillV L 20 L.length)[j]? = some 0 := by
      rw [hf, List.getElem?_append_right (by omega), List.getElem?_replicate, if_pos (by omega)]
    have h6 := rd_at (x := fillV L 20 L.length) (i := j) (by omega)
    rw [this] at h6
    exact (Option.some.inj h6).symm
  · unfold listV
    rw [hl, Int.toNat_natCast]
    apply List.ext_getElem
    · simp
    · intro j h3 h4
      rw [List.getElem_map, List.getElem_range, hm j (by omega)]
      have h6 := rd_at (x := fillV L 20 L.length) (i := j) (by omega)
      rw [hf, List.getElem?_append_left h4, List.getElem?_eq_getElem h4, ← hf] at h6
      exact (Option.some.inj h6).symm
theorem rings_end {k n : Nat} {x told L l : List Int} {h c p q : Int} (hk : 1000 ≤ k) (H : RInv n l h c p q L) : laws_FnRings.l0 k (n : Int) x told L (x.length : Int) l h c p q = some true := by
  obtain ⟨k, rfl⟩ : ∃ m, k = m + 1 := ⟨k - 1, by omega⟩
  obtain ⟨hcr, hcb, hnb⟩ := H.cred
  have hlen := H.len
  obtain ⟨hn, hok, hL, hq, hp⟩ := H
  have hLr : listRingV l h c = L := by unfold listRingV; rw [if_pos hok, hL]
  have hL20 : L.length ≤ 20 := by omega
  have hgv : growV l h c 20 = (fillV L 20 L.length, 0, c, true) := by
    unfold growV
    rw [if_pos ⟨hok, by omega, by omega⟩, hL]
    rfl
  have hc : c = (L.length : Int) := by omega
  have hgl : listRingV (fillV L 20 L.length) 0 c = L := by
    obtain ⟨f1, f2⟩ := fillV_ok hL20
    unfold listRingV
    rw [hc, if_pos f1, f2]
  have hfl : (fillV L 20 L.length).length = 20 := fillV_length (Nat.le_refl _) hL20
  have hlk : ((wrap64 (p + q)) == (l.length : Int)) = true := by rw [w64 (x := p + q) (by omega) (by omega)]; simp; omega
  simp only [laws_FnRings.l0]
  rw [if_neg (by omega), impl_GrowRing_eq (by omega) (by omega), Option.bind_some, hgv, impl_ListRing_eq (by omega) (by omega), Option.bind_some, hLr, same_refl (by omega) (by omega), Option.bind_some, if_pos rfl]
  unfold impl_LinkOk.f spec_LinkOk.f
  rw [impl_RingOk_eq (by omega) (by omega), spec_RingOk_eq (by omega) (by omega), Option.bind_some, decide_eq_true hok, if_pos rfl, impl_creditOk_eq, spec_l03Credit_eq, Option.bind_some, hcr, if_pos rfl, if_pos hq, Option.bind_some, if_pos hlk, Option.bind_some, if_pos rfl, Option.bind_some, if_pos rfl, if_pos hlk]
  dsimp only
  rw [impl_ListRing_eq (by omega) (by omega), Option.bind_some, hgl, same_refl (by omega) (by omega), Option.bind_some, if_pos rfl]
  rfl
theorem rings_l0 {n : Nat} {x told l : List Int} {h c p q : Int} {Le : List Int} (hn : n ≤ 20) (hx : x.length ≤ 300) (ht : told.length = x.length) (H : RInv n l h c p q Le) : ∀ (d k i : Nat) (L : List Int), i + d = x.length → 1000 + d ≤ k → L.length ≤ n → told.drop i = (simR n (x.drop i) L).1 → Le = (simR n (x.drop i) L).2 →
    laws_FnRings.l0 k (n : Int) x told L (i : Int) l h c p q = some true := by
  intro d
  induction d with
  | zero =>
    intro k i L hi hk hL h1 h2
    rw [List.drop_of_length_le (by omega)] at h2
    obtain rfl : i = x.length := by omega
    rw [show L = Le from h2.symm]
    exact rings_end (by omega) H
  | succ d ih =>
    intro k i L hi hk hL h1 h2
    obtain ⟨k, rfl⟩ : ∃ m, k = m + 1 := ⟨k - 1, by omega⟩
    rw [dropR (show i < x.length by omega)] at h1 h2
    rw [dropR (show i < told.length by omega)] at h1
    unfold simR at h1 h2
    dsimp only at h1 h2
    obtain ⟨h3, h4⟩ := List.cons.inj h1
    have next := ih k (i + 1) _ (by omega) (by omega) (simS_len (x := rd x (i : Int)) hL) h4 h2
    simp only [laws_FnRings.l0]
    rw [if_pos (by omega), if_pos (by omega), if_pos (show (i : Int) < (told.length : Int) by omega), wi (show i < 4611686018427387904 by omega), h3]
    unfold simS at next ⊢
    by_cases g : rd x (i : Int) ≥ 0
    · rw [if_pos g] at next ⊢
      rw [if_pos g]
      by_cases hc : L.length < n
      · rw [if_pos hc] at next ⊢
        rw [if_neg (by simp; omega), if_pos rfl, if_pos (by omega)]
        exact next
      · rw [if_neg hc] at next ⊢
        rw [if_neg (by simp; omega), if_neg (by simp)]
        exact next
    · rw [if_neg g] at next ⊢
      rw [if_neg g]
      cases L with
      | nil =>
        rw [if_pos (by simp), if_pos (show (i : Int) < (told.length : Int) by omega), if_pos rfl]
        exact next
      | cons y ys =>
        rw [if_neg (by simp; omega), if_pos (show (i : Int) < (told.length : Int) by omega), if_pos (by simp)]
        dsimp only
        rw [if_pos (show y = rd (y :: ys) 0 from rfl), if_pos (by simp; omega)]
        exact next
theorem DrawPlayLink_l0 {l : List Int} (hl : l.length ≤ 4611686018427387903) (z : Int) (hz : z ≤ 400) : ∀ (d k i : Nat) (acc : List Int) (p s : Int), i + d = 400 → d < k → 0 ≤ p → acc.length = i → ∃ r, spec_DrawPlayLink.l0 k acc z (i : Int) l p s = some r := by
  intro d
  induction d with
  | zero =>
    intro k i acc p s h hk hp ha
    obtain ⟨k, rfl⟩ : ∃ m, k = m + 1 := ⟨k - 1, by omega⟩
    obtain ⟨v1, p1, s1, e1, _, _, hp1⟩ := Below_some hl p s 8 hp
    obtain ⟨v2, p2, s2, e2, hp2⟩ := Pick_some hl p1 s1 hp1 [1, 2, 3, wrap64 (1 + v1), 0, 20, 21] (by simp)
    simp only [spec_DrawPlayLink.l0, e1, e2, Option.bind_some]
    rw [if_neg (by omega)]
    exact ⟨_, rfl⟩
  | succ d ih =>
    intro k i acc p s h hk hp ha
    obtain ⟨k, rfl⟩ : ∃ m, k = m + 1 := ⟨k - 1, by omega⟩
    by_cases g : (i : Int) < z
    · obtain ⟨v1, p1, s1, e1, _, _, hp1⟩ := Below_some hl p s 50 hp
      obtain ⟨v2, p2, s2, e2, _, _, hp2⟩ := Below_some hl p1 s1 50 hp1
      obtain ⟨v3, p3, s3, e3, hp3⟩ := Pick_some hl p2 s2 hp2 [v1, v2, (-1), (-7)] (by simp)
      simp only [spec_DrawPlayLink.l0, e1, e2, e3, Option.bind_some]
      rw [if_pos g, if_pos (by omega), wi (show i < 4611686018427387904 by omega)]
      exact ih k (i + 1) _ _ _ (by omega) (by omega) hp3 (by rw [List.length_append, List.length_singleton]; omega)
    · obtain ⟨v1, p1, s1, e1, _, _, hp1⟩ := Below_some hl p s 8 hp
      obtain ⟨v2, p2, s2, e2, hp2⟩ := Pick_some hl p1 s1 hp1 [1, 2, 3, wrap64 (1 + v1), 0, 20, 21] (by simp)
      simp only [spec_DrawPlayLink.l0, e1, e2, Option.bind_some]
      rw [if_neg g]
      exact ⟨_, rfl⟩
theorem DrawPlayLink_some {k : Nat} {l : List Int} (hl : l.length ≤ 4611686018427387903) (hk : 5000 ≤ k) : ∃ r, spec_DrawPlayLink.f k l = some r := by
  obtain ⟨k, rfl⟩ : ∃ m, k = m + 1 := ⟨k - 1, by omega⟩
  unfold spec_DrawPlayLink.f
  obtain ⟨s, e0⟩ := New_some (k := k + 1) l (by omega)
  obtain ⟨z, e1, hz⟩ := Size_some l
  obtain ⟨v2, p2, s2, e2, h2, h2', hp2⟩ := Below_some hl 0 s z (by omega)
  obtain ⟨v3, p3, s3, e3, hp3⟩ := Once_some hl p2 s2 40 hp2
  obtain ⟨v4, p4, s4, e4, hv4, hv4', hp4⟩ := Below_some hl p3 s3 2 hp3
  simp only [e0, e1, e2, e3, e4, Option.bind_some, spec_DrawPlayLink.j0]
  have hv4' := hv4' (by omega)
  by_cases b : v3 = true
  · rw [if_pos b, w64 (x := 300 + v4) (by omega) (by omega)]
    exact DrawPlayLink_l0 hl _ (by omega) 400 k 0 _ _ _ (by omega) (by omega) hp4 rfl
  · rw [if_neg b]
    exact DrawPlayLink_l0 hl _ (by omega) 400 k 0 _ _ _ (by omega) (by omega) hp3 rfl
theorem PlayLink_sim {n : Nat} {x : List Int} (h1 : 1 ≤ n) (h2 : n ≤ 20) (hx : x.length ≤ 300) : ∃ l h c p q, impl_PlayLink.f 600 (n : Int) x = some (l, h, c, p, q, (simR n x []).1) ∧ RInv n l h c p q (simR n x []).2 := by
  simp only [impl_PlayLink.f, impl_NewRing_eq, Option.bind_some]
  have hv : newRingV (n : Int) = (List.replicate n 0, 0, 0, true) := by unfold newRingV; rw [if_pos (by omega), Int.toNat_natCast]
  rw [hv]
  dsimp only
  rw [if_pos rfl, decide_eq_false (by omega)]
  simp only [impl_PlayLink.j0, Bool.false_eq_true, if_false]
  have H0 : RInv n (List.replicate n 0) 0 0 (n : Int) 0 [] := by
    refine ⟨by simp, ?_, by simp [listV], rfl, by omega⟩
    unfold ringOkP
    rw [List.length_replicate]
    refine ⟨by omega, fun i hi _ => ?_⟩
    simp [rd, List.getD_eq_getElem?_getD, List.getElem?_replicate]
    split <;> rfl
  have := Play_sim n x hx x.length 599 0 [] _ _ _ _ _ _ (by omega) (by omega) rfl H0
  simpa using this
theorem PlayLink_no {n : Int} {x : List Int} (h : n < 1 ∨ n > 20 ∨ (x.length : Int) > 300) : impl_PlayLink.f 600 n x = some ([], 0, 0, 0, 0, []) := by
  simp only [impl_PlayLink.f, impl_NewRing_eq, Option.bind_some]
  by_cases hn : 1 ≤ n ∧ n ≤ 20
  · unfold newRingV
    rw [if_pos hn]
    dsimp only
    rw [if_pos rfl, decide_eq_true (by omega)]
    rfl
  · unfold newRingV
    rw [if_neg hn]
    dsimp only
    rw [if_neg (by simp)]
    rfl

theorem FnRings : ∀ (l0 : List Int), l0.length ≤ maxLen → (∀ x ∈ l0, (Lit.int .u8 x).wf = true) → ∃ k, laws_FnRings.f k l0 = some true := by
  intro l _ _
  refine ⟨6000 + 1, ?_⟩
  unfold laws_FnRings.f laws_big.f
  rw [Option.bind_some]
  by_cases hb : (l.length : Int) > 1048576
  · rw [if_pos (decide_eq_true hb)]
  rw [if_neg (by rw [decide_eq_true_eq]; exact hb)]
  obtain ⟨⟨n, x⟩, e1⟩ := DrawPlayLink_some (k := 6000 + 1) (l := l) (by omega) (by omega)
  obtain ⟨⟨r1, r2, r3, r4, r5, o⟩, f1, f2, h1, h2⟩ := PlayLink_both n x
  replace h1 : r1.length ≤ 20 := h1
  replace h2 : o.length ≤ 300 := h2
  rw [e1, Option.bind_some]
  dsimp only
  rw [f1 _ (by omega), Option.bind_some, f2 _ (by omega), Option.bind_some]
  dsimp only
  rw [same_refl (by omega) (by omega), Option.bind_some, if_pos rfl]
  have f3 := f2 600 (Nat.le_refl _)
  have no : n < 1 ∨ n > 20 ∨ (x.length : Int) > 300 → laws_FnRings.j0 (6000 + 1) n x o true r1 r2 r3 r4 r5 = some true := by
    intro hh
    rw [PlayLink_no hh] at f3
    injection f3 with f3
    injection f3 with f3
    subst f3
    rfl
  by_cases g1 : n < 1
  · rw [if_pos g1]
    exact no (.inl g1)
  rw [if_neg g1]
  by_cases g2 : n > 20
  · rw [if_pos g2]
    exact no (.inr (.inl g2))
  rw [if_neg g2]
  by_cases g3 : (x.length : Int) > 300
  · rw [decide_eq_true g3]
    exact no (.inr (.inr g3))
  rw [decide_eq_false g3]
  obtain ⟨m, rfl⟩ : ∃ m : Nat, n = (m : Int) := ⟨n.toNat, by omega⟩
  obtain ⟨l', h', c', p', q', e2, H⟩ := PlayLink_sim (n := m) (x := x) (by omega) (by omega) (by omega)
  rw [e2] at f3
  simp only [Option.some.injEq, Prod.mk.injEq] at f3
  obtain ⟨rfl, rfl, rfl, rfl, rfl, rfl⟩ := f3
  simp only [laws_FnRings.j0, Bool.false_eq_true, if_false]
  exact rings_l0 (by omega) (by omega) (simR_len m x []) H x.length 6000 0 [] (by omega) (by omega) (by simp) rfl rfl

end Go.Proofs.Ytcflalomjehiiaa.Pure
