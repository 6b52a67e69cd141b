/-
  The law FnExactGrowRing answers true: the program's GrowRing is the reference's, in new memory, for all arguments. No condition.
-/
import Derived.Test.YtoeiadanmfajoaaQFnExactGrowRingx7
namespace Go.Proofs.Ytoeiadanmfajoaa.Pure
open Go.RowKit Go.Proofs.Ytoeiadanmfajoaa.QFnExactGrowRing Go.Proofs.YtoeiadanmfajoaaW.PrintWords Go.Proofs.YtoeiadanmfajoaaW.PrintLast Go.Proofs.YtoeiadanmfajoaaW.PrintMore
set_option linter.unusedSimpArgs false
set_option linter.unusedVariables false

theorem spec_in_eq (a lo hi : Int) : spec_l01In.f a lo hi = some (decide (lo ≤ a ∧ a ≤ hi)) := by
  unfold spec_l01In.f; by_cases h : lo ≤ a <;> simp [h]

theorem impl_within_eq (a lo hi : Int) : impl_within.f a lo hi = some (decide (lo ≤ a ∧ a ≤ hi)) := by
  unfold impl_within.f; by_cases h : lo ≤ a <;> simp [h]

theorem w64 {x : Int} (h1 : -9223372036854775808 ≤ x) (h2 : x ≤ 9223372036854775807) : wrap64 x = x := by
  unfold wrap64; omega

theorem wi {i : Nat} (h : i < 4611686018427387904) : wrap64 ((i : Int) + 1) = ((i + 1 : Nat) : Int) := by
  unfold wrap64; omega

theorem RingOk_l0_eq : ∀ (k : Nat) (n x4 : Int) (l : List Int) (h c : Int), impl_RingOk.l0 k n x4 l h c = spec_RingOk.l0 k n x4 l h c := by
  intro k
  induction k with
  | zero => intro n x4 l h c; rfl
  | succ k ih => intro n x4 l h c; simp only [impl_RingOk.l0, spec_RingOk.l0, ih]
theorem RingOk_j0_eq (k : Nat) (n : Int) (b : Bool) (l : List Int) (h c : Int) : impl_RingOk.j0 k n b l h c = spec_RingOk.j0 k n b l h c := by
  cases k with
  | zero => rfl
  | succ k => simp only [impl_RingOk.j0, spec_RingOk.j0, RingOk_l0_eq]
theorem RingOk_eq (k : Nat) (l : List Int) (h c : Int) : impl_RingOk.f k l h c = spec_RingOk.f k l h c := by
  simp only [impl_RingOk.f, spec_RingOk.f, RingOk_j0_eq, impl_within_eq, spec_in_eq]
theorem spec_RingOk_l0_some (l : List Int) (h c : Int) (hn : l.length ≤ 20) (h0 : 0 ≤ h) (h1 : h ≤ 20) : ∀ (d k i : Nat), i + d = l.length → d < k → ∃ r, spec_RingOk.l0 k (l.length : Int) (i : Int) l h c = some r := by
  intro d
  induction d with
  | zero =>
    intro k i hi hk
    obtain ⟨k, rfl⟩ : ∃ m, k = m + 1 := ⟨k - 1, by omega⟩
    simp only [spec_RingOk.l0]
    rw [if_neg (by omega)]
    exact ⟨_, rfl⟩
  | succ d ih =>
    intro k i hi hk
    obtain ⟨k, rfl⟩ : ∃ m, k = m + 1 := ⟨k - 1, by omega⟩
    simp only [spec_RingOk.l0]
    have g0 : 0 ≤ Int.tmod (h + (i : Int)) (l.length : Int) := Int.tmod_nonneg _ (by omega)
    have g1 : Int.tmod (h + (i : Int)) (l.length : Int) < (l.length : Int) := Int.tmod_lt_of_pos _ (by omega)
    rw [if_pos (by omega), if_neg (by omega), w64 (x := h + (i : Int)) (by omega) (by omega), if_pos g0, if_pos g1, wi (by omega)]
    split
    · exact ih k (i + 1) (by omega) (by omega)
    · exact ⟨_, rfl⟩
theorem spec_RingOk_some {k : Nat} (l : List Int) (h c : Int) (hm : l.length ≤ 1048576) (hk : 100 ≤ k) : ∃ r, spec_RingOk.f k l h c = some r := by
  obtain ⟨k, rfl⟩ : ∃ m, k = m + 1 := ⟨k - 1, by omega⟩
  simp only [spec_RingOk.f, spec_in_eq, Option.bind_some, spec_RingOk.j0]
  by_cases h1 : 1 ≤ (l.length : Int) ∧ (l.length : Int) ≤ 20
  · rw [w64 (x := (l.length : Int) - 1) (by omega) (by omega)]
    by_cases h2 : 0 ≤ h ∧ h ≤ (l.length : Int) - 1
    · by_cases h3 : 0 ≤ c ∧ c ≤ (l.length : Int)
      · simp only [h1, h2, h3, and_self, decide_true, if_true, Bool.not_true, Bool.false_eq_true, if_false]
        obtain ⟨i, rfl⟩ : ∃ i : Nat, c = (i : Int) := ⟨c.toNat, by omega⟩
        exact spec_RingOk_l0_some l h _ (by omega) (by omega) (by omega) (l.length - i) k i (by omega) (by omega)
      · simp [h1, h2, h3]
    · simp [h1, h2]
  · simp [h1]

theorem rd_at {x : List Int} {i : Nat} (h : i < x.length) : x[i]? = some (rd x (i : Int)) := by
  simp [rd, List.getD_eq_getElem?_getD, List.getElem?_eq_getElem h]

def ringOkP (l : List Int) (h c : Int) : Prop :=
  ((1 ≤ (l.length : Int) ∧ (l.length : Int) ≤ 20) ∧ (0 ≤ h ∧ h ≤ (l.length : Int) - 1) ∧ (0 ≤ c ∧ c ≤ (l.length : Int))) ∧ ∀ i : Nat, i < l.length → c ≤ (i : Int) → rd l ((h + (i : Int)) % (l.length : Int)) = 0
instance (l : List Int) (h c : Int) : Decidable (ringOkP l h c) := by unfold ringOkP; infer_instance
theorem spec_RingOk_l0_eq (l : List Int) (h c : Int) (hn : l.length ≤ 20) (h0 : 0 ≤ h) (h1 : h ≤ 20) : ∀ (d k i : Nat), i + d = l.length → d < k →
    spec_RingOk.l0 k (l.length : Int) (i : Int) l h c = some (decide (∀ j : Nat, j < l.length → i ≤ j → rd l ((h + (j : Int)) % (l.length : Int)) = 0)) := by
  intro d
  induction d with
  | zero =>
    intro k i hi hk
    obtain ⟨k, rfl⟩ : ∃ m, k = m + 1 := ⟨k - 1, by omega⟩
    simp only [spec_RingOk.l0]
    rw [if_neg (by omega)]
    congr 1
    symm
    rw [decide_eq_true_eq]
    intro j h2 h3
    omega
  | succ d ih =>
    intro k i hi hk
    obtain ⟨k, rfl⟩ : ∃ m, k = m + 1 := ⟨k - 1, by omega⟩
    simp only [spec_RingOk.l0]
    have g0 : 0 ≤ Int.tmod (h + (i : Int)) (l.length : Int) := Int.tmod_nonneg _ (by omega)
    have g1 : Int.tmod (h + (i : Int)) (l.length : Int) < (l.length : Int) := Int.tmod_lt_of_pos _ (by omega)
    have g2 : Int.tmod (h + (i : Int)) (l.length : Int) = (h + (i : Int)) % (l.length : Int) := Int.tmod_eq_emod_of_nonneg (by omega)
    rw [if_pos (by omega), if_neg (by omega), w64 (x := h + (i : Int)) (by omega) (by omega), if_pos g0, if_pos g1, wi (by omega), g2, ih k (i + 1) (by omega) (by omega)]
    by_cases hz : rd l ((h + (i : Int)) % (l.length : Int)) = 0
    · rw [if_pos hz]
      congr 1
      rw [decide_eq_decide]
      constructor
      · intro hh j h2 h3
        by_cases e : i = j
        · subst e; exact hz
        · exact hh j h2 (by omega)
      · intro hh j h2 h3
        exact hh j h2 (by omega)
    · rw [if_neg hz]
      congr 1
      symm
      rw [decide_eq_false_iff_not]
      intro hh
      exact hz (hh i (by omega) (by omega))
theorem spec_RingOk_eq {k : Nat} {l : List Int} {h c : Int} (hm : l.length ≤ 1048576) (hk : 100 ≤ k) : spec_RingOk.f k l h c = some (decide (ringOkP l h c)) := by
  obtain ⟨k, rfl⟩ : ∃ m, k = m + 1 := ⟨k - 1, by omega⟩
  simp only [spec_RingOk.f, spec_in_eq, Option.bind_some, spec_RingOk.j0]
  by_cases h1 : 1 ≤ (l.length : Int) ∧ (l.length : Int) ≤ 20
  · rw [w64 (x := (l.length : Int) - 1) (by omega) (by omega)]
    by_cases h2 : 0 ≤ h ∧ h ≤ (l.length : Int) - 1
    · by_cases h3 : 0 ≤ c ∧ c ≤ (l.length : Int)
      · simp only [h1, h2, h3, and_self, decide_true, if_true, Bool.not_true, Bool.false_eq_true, if_false]
        obtain ⟨i, rfl⟩ : ∃ i : Nat, c = (i : Int) := ⟨c.toNat, by omega⟩
        rw [spec_RingOk_l0_eq l h _ (by omega) (by omega) (by omega) (l.length - i) k i (by omega) (by omega)]
        congr 1
        rw [decide_eq_decide]
        unfold ringOkP
        constructor
        · intro hh
          exact ⟨⟨h1, h2, h3⟩, fun j h4 h5 => hh j h4 (by omega)⟩
        · intro hh j h4 h5
          exact hh.2 j h4 (by omega)
      · have h4 : ¬ ringOkP l h c := fun hh => h3 hh.1.2.2
        simp [h1, h2, h3, h4]
    · have h4 : ¬ ringOkP l h c := fun hh => h2 hh.1.2.1
      simp [h1, h2, h4]
  · have h4 : ¬ ringOkP l h c := fun hh => h1 hh.1.1
    simp [h1, h4]
theorem impl_RingOk_eq {k : Nat} {l : List Int} {h c : Int} (hm : l.length ≤ 1048576) (hk : 100 ≤ k) : impl_RingOk.f k l h c = some (decide (ringOkP l h c)) := by
  rw [RingOk_eq, spec_RingOk_eq hm hk]
theorem mod_in {l : List Int} {h c : Int} (hn : 1 ≤ (l.length : Int)) (h0 : 0 ≤ h) (c0 : 0 ≤ c) :
    0 ≤ Int.tmod (h + c) (l.length : Int) ∧ Int.tmod (h + c) (l.length : Int) < (l.length : Int) ∧ Int.tmod (h + c) (l.length : Int) = (h + c) % (l.length : Int) :=
  ⟨Int.tmod_nonneg _ (by omega), Int.tmod_lt_of_pos _ (by omega), Int.tmod_eq_emod_of_nonneg (by omega)⟩

theorem spec_l01Copy_l0 (x0 : List Int) (hn : x0.length ≤ 1048576) : ∀ (d k i : Nat), i + d = x0.length → d < k → spec_l01Copy.l0 k x0 (x0.take i) (i : Int) = some x0 := by
  intro d
  induction d with
  | zero =>
    intro k i h hk
    obtain ⟨k, rfl⟩ : ∃ m, k = m + 1 := ⟨k - 1, by omega⟩
    simp only [spec_l01Copy.l0]
    rw [if_neg (by omega), List.take_of_length_le (by omega)]
  | succ d ih =>
    intro k i h hk
    obtain ⟨k, rfl⟩ : ∃ m, k = m + 1 := ⟨k - 1, by omega⟩
    simp only [spec_l01Copy.l0]
    have e : x0.take i ++ [rd x0 (i : Int)] = x0.take (i + 1) := by
      have h2 := rd_at (x := x0) (i := i) (by omega)
      rw [List.getElem?_eq_getElem (by omega)] at h2
      rw [List.take_succ_eq_append_getElem (by omega), Option.some.inj h2]
    rw [if_pos (by omega), if_pos (by omega), if_pos (by rw [List.length_take]; omega), wi (by omega), e]
    exact ih k (i + 1) (by omega) (by omega)
theorem spec_l01Copy_eq {k : Nat} {l : List Int} (hn : l.length ≤ 1048576) (hk : l.length < k) : spec_l01Copy.f k l = some l := by
  have h := spec_l01Copy_l0 l hn l.length k 0 (by omega) hk
  simpa [spec_l01Copy.f] using h

theorem spec_l03Copy_eq {k : Nat} {l : List Int} {h c : Int} (hn : l.length ≤ 1048576) (hk : l.length < k) : spec_l03Copy.f k l h c = some (l, h, c) := by
  simp [spec_l03Copy.f, spec_l01Copy_eq hn hk]
theorem impl_ownRing_eq {l : List Int} {h c : Int} (hn : l.length ≤ 1048576) : impl_ownRing.f l h c = some (l, h, c) := by
  have e : l.length < 17592186044416 := by omega
  simp [impl_ownRing.f, slices_Clone_int_int.f, e]

def pushV (l : List Int) (h c x : Int) : List Int × Int × Int × Bool :=
  if ringOkP l h c then (if c = (l.length : Int) then (l, h, c, false) else (l.set ((h + c) % (l.length : Int)).toNat x, h, c + 1, true)) else (l, h, c, false)
theorem pushV_length (l : List Int) (h c x : Int) : (pushV l h c x).1.length = l.length := by
  unfold pushV
  (repeat' split) <;> simp
theorem spec_PushRing_eq {k : Nat} {l : List Int} {h c x : Int} (hm : l.length ≤ 1048576) (hk : l.length + 100 ≤ k) : spec_PushRing.f k l h c x = some (pushV l h c x) := by
  simp only [spec_PushRing.f, spec_l03Copy_eq hm (show l.length < k by omega), spec_RingOk_eq (h := h) (c := c) hm (show 100 ≤ k by omega), Option.bind_some, pushV, decide_eq_true_eq]
  by_cases h0 : ringOkP l h c
  · obtain ⟨⟨h1, h2, h3⟩, _⟩ := id h0
    rw [if_pos h0, if_pos h0]
    by_cases h4 : c = (l.length : Int)
    · rw [if_pos h4, if_pos h4]
    · obtain ⟨g0, g1, g2⟩ := mod_in (l := l) h1.1 h2.1 h3.1
      rw [if_neg h4, if_neg h4, if_neg (by omega), w64 (x := h + c) (by omega) (by omega), if_pos g0, if_pos g1, g2, w64 (x := c + 1) (by omega) (by omega)]
  · rw [if_neg h0, if_neg h0]

def listV (l : List Int) (h c : Int) : List Int := (List.range c.toNat).map fun (i : Nat) => rd l ((h + (i : Int)) % (l.length : Int))
theorem ListRing_l0_eq (l : List Int) (h c : Int) : ∀ (k : Nat) (acc : List Int) (x : Int), impl_ListRing.l0 k acc c x l h c = spec_ListRing.l0 k acc x l h c := by
  intro k
  induction k with
  | zero => intro acc x; rfl
  | succ k ih => intro acc x; simp only [impl_ListRing.l0, spec_ListRing.l0, ih]
theorem spec_ListRing_l0 (l : List Int) (h : Int) (c : Nat) (hn : 1 ≤ l.length) (hn2 : l.length ≤ 20) (h0 : 0 ≤ h) (h1 : h ≤ 20) (hc : c ≤ l.length) : ∀ (d k i : Nat), i + d = c → d < k →
    spec_ListRing.l0 k (listV l h (i : Int)) (i : Int) l h (c : Int) = some (listV l h (c : Int)) := by
  intro d
  induction d with
  | zero =>
    intro k i hi hk
    obtain ⟨k, rfl⟩ : ∃ m, k = m + 1 := ⟨k - 1, by omega⟩
    simp only [spec_ListRing.l0]
    obtain rfl : i = c := by omega
    rw [if_neg (by omega)]
  | succ d ih =>
    intro k i hi hk
    obtain ⟨k, rfl⟩ : ∃ m, k = m + 1 := ⟨k - 1, by omega⟩
    simp only [spec_ListRing.l0]
    obtain ⟨g0, g1, g2⟩ := mod_in (l := l) (h := h) (c := (i : Int)) (by omega) h0 (by omega)
    have e : listV l h (i : Int) ++ [rd l ((h + (i : Int)) % (l.length : Int))] = listV l h ((i + 1 : Nat) : Int) := by
      simp [listV, List.range_succ]
    rw [if_pos (by omega), if_neg (by omega), w64 (x := h + (i : Int)) (by omega) (by omega), if_pos g0, if_pos g1, if_pos (by simp [listV]; omega), wi (by omega), g2, e]
    exact ih k (i + 1) (by omega) (by omega)
def listRingV (l : List Int) (h c : Int) : List Int := if ringOkP l h c then listV l h c else []
theorem listRingV_length (l : List Int) (h c : Int) : (listRingV l h c).length ≤ 20 := by
  unfold listRingV
  by_cases h0 : ringOkP l h c
  · rw [if_pos h0]
    obtain ⟨⟨h1, h2, h3⟩, _⟩ := h0
    simp [listV]; omega
  · rw [if_neg h0]; simp
theorem spec_ListRing_eq {k : Nat} {l : List Int} {h c : Int} (hm : l.length ≤ 1048576) (hk : 100 ≤ k) : spec_ListRing.f k l h c = some (listRingV l h c) := by
  simp only [spec_ListRing.f, spec_RingOk_eq (h := h) (c := c) hm (show 100 ≤ k by omega), Option.bind_some, listRingV, decide_eq_true_eq]
  by_cases h0 : ringOkP l h c
  · obtain ⟨⟨h1, h2, h3⟩, _⟩ := id h0
    rw [if_pos h0, if_pos h0]
    obtain ⟨i, rfl⟩ : ∃ i : Nat, c = (i : Int) := ⟨c.toNat, by omega⟩
    have e := spec_ListRing_l0 l h i (by omega) (by omega) (by omega) (by omega) (by omega) i k 0 (by omega) (by omega)
    simpa [listV] using e
  · rw [if_neg h0, if_neg h0]
theorem impl_ListRing_eq {k : Nat} {l : List Int} {h c : Int} (hm : l.length ≤ 1048576) (hk : 100 ≤ k) : impl_ListRing.f k l h c = some (listRingV l h c) := by
  rw [← spec_ListRing_eq hm hk]
  simp only [impl_ListRing.f, spec_ListRing.f, ListRing_l0_eq, RingOk_eq]

def newRingV (a : Int) : List Int × Int × Int × Bool := if 1 ≤ a ∧ a ≤ 20 then (List.replicate a.toNat 0, 0, 0, true) else ([], 0, 0, false)
theorem newRingV_length (a : Int) : (newRingV a).1.length ≤ 20 := by
  unfold newRingV
  by_cases h : 1 ≤ a ∧ a ≤ 20
  · rw [if_pos h]; simp; omega
  · rw [if_neg h]; simp
theorem spec_NewRing_eq (a : Int) : spec_NewRing.f a = some (newRingV a) := by
  simp only [spec_NewRing.f, spec_in_eq, Option.bind_some, newRingV]
  by_cases h : 1 ≤ a ∧ a ≤ 20
  · have h1 : 0 ≤ a := by omega
    have h2 : a.toNat ≤ 35184372088832 := by omega
    simp [h, h1, h2]
  · simp [h]

def fillV (L : List Int) (n i : Nat) : List Int := L.take i ++ List.replicate (n - i) 0
theorem fillV_length {L : List Int} {n i : Nat} (h1 : i ≤ L.length) (h2 : i ≤ n) : (fillV L n i).length = n := by
  unfold fillV
  rw [List.length_append, List.length_take, List.length_replicate]
  omega
theorem fillV_push {L : List Int} {n i : Nat} (h1 : i < L.length) (h2 : L.length ≤ n) (h3 : n ≤ 20) : pushV (fillV L n i) 0 (i : Int) (rd L (i : Int)) = (fillV L n (i + 1), 0, ((i + 1 : Nat) : Int), true) := by
  have hl : (fillV L n i).length = n := fillV_length (by omega) (by omega)
  have hm : ∀ j : Nat, j < n → (0 + (j : Int)) % (n : Int) = (j : Int) := fun j hj => by rw [Int.zero_add]; exact Int.emod_eq_of_lt (by omega) (by omega)
  have hok : ringOkP (fillV L n i) 0 (i : Int) := by
    unfold ringOkP
    rw [hl]
    refine ⟨⟨by omega, by omega, by omega⟩, fun j h4 h5 => ?_⟩
    rw [hm j h4]
    have : (fillV L n i)[j]? = some 0 := by
      unfold fillV
      rw [List.getElem?_append_right (by rw [List.length_take]; omega), List.getElem?_replicate, if_pos (by rw [List.length_take]; omega)]
    have h6 := rd_at (x := fillV L n i) (i := j) (by omega)
    rw [this] at h6
    exact (Option.some.inj h6).symm
  unfold pushV
  rw [if_pos hok, hl, if_neg (by omega), hm i (by omega), Int.toNat_natCast]
  have hs : (fillV L n i).set i (rd L (i : Int)) = fillV L n (i + 1) := by
    have e := rd_at (x := L) (i := i) h1
    rw [List.getElem?_eq_getElem h1] at e
    unfold fillV
    rw [List.take_succ_eq_append_getElem h1, Option.some.inj e, show n - i = (n - (i + 1)) + 1 by omega, List.replicate_succ, List.set_append_right _ _ (by rw [List.length_take]; omega)]
    rw [show i - (L.take i).length = 0 by rw [List.length_take]; omega, List.set_cons_zero, List.append_assoc]
    rfl
  rw [hs]
  rfl
theorem spec_GrowRing_l0 (L : List Int) (n : Nat) (h2 : L.length ≤ n) (h3 : n ≤ 20) : ∀ (d k i : Nat), i + d = L.length → 200 + d ≤ k → spec_GrowRing.l0 k L (i : Int) (fillV L n i) 0 (i : Int) = some (fillV L n L.length, 0, (L.length : Int), true) := by
  intro d
  induction d with
  | zero =>
    intro k i h hk
    obtain ⟨k, rfl⟩ : ∃ m, k = m + 1 := ⟨k - 1, by omega⟩
    simp only [spec_GrowRing.l0]
    rw [if_neg (by omega)]
    obtain rfl : i = L.length := by omega
    rfl
  | succ d ih =>
    intro k i h hk
    obtain ⟨k, rfl⟩ : ∃ m, k = m + 1 := ⟨k - 1, by omega⟩
    have hl : (fillV L n i).length = n := fillV_length (by omega) (by omega)
    simp only [spec_GrowRing.l0]
    rw [if_pos (by omega), if_pos (by omega), wi (by omega), spec_PushRing_eq (by omega) (by omega), fillV_push (by omega) h2 h3, Option.bind_some]
    exact ih k (i + 1) (by omega) (by omega)
def growV (l : List Int) (h c n : Int) : List Int × Int × Int × Bool := if ringOkP l h c ∧ (1 ≤ n ∧ n ≤ 20) ∧ c ≤ n then (fillV (listV l h c) n.toNat (listV l h c).length, 0, c, true) else (l, h, c, false)
theorem listV_length (l : List Int) (h c : Int) : (listV l h c).length = c.toNat := by simp [listV]
theorem growV_length (l : List Int) (h c n : Int) : (growV l h c n).1.length ≤ l.length + 20 := by
  unfold growV
  split
  · rename_i hh
    rw [fillV_length (Nat.le_refl _) (by rw [listV_length]; omega)]
    omega
  · exact Nat.le_add_right _ _
theorem spec_GrowRing_eq {k : Nat} {l : List Int} {h c n : Int} (hm : l.length ≤ 1048576) (hk : l.length + 400 ≤ k) : spec_GrowRing.f k l h c n = some (growV l h c n) := by
  obtain ⟨k, rfl⟩ : ∃ m, k = m + 1 := ⟨k - 1, by omega⟩
  simp only [spec_GrowRing.f, spec_RingOk_eq (h := h) (c := c) hm (show 100 ≤ k + 1 by omega), spec_in_eq, Option.bind_some, growV, decide_eq_true_eq]
  have hf : spec_GrowRing.j0 (k + 1) n true l h c = some (l, h, c, false) := by
    simp only [spec_GrowRing.j0, if_true]
    rw [spec_l03Copy_eq hm (by omega), Option.bind_some]
  by_cases h1 : ringOkP l h c
  · rw [if_pos h1]
    by_cases h2 : 1 ≤ n ∧ n ≤ 20
    · rw [if_pos h2]
      by_cases h3 : c > n
      · rw [decide_eq_true h3, hf, if_neg (fun h => by have := h.2.2; omega)]
      · rw [decide_eq_false h3, if_pos ⟨h1, h2, by omega⟩]
        have hc := h1.1.2.2
        obtain ⟨m, rfl⟩ : ∃ m : Nat, n = (m : Int) := ⟨n.toNat, by omega⟩
        simp only [spec_GrowRing.j0, Bool.false_eq_true, if_false]
        rw [spec_NewRing_eq, Option.bind_some, spec_ListRing_eq hm (by omega), Option.bind_some]
        unfold newRingV listRingV
        rw [if_pos h2, if_pos h1, Int.toNat_natCast]
        have := spec_GrowRing_l0 (listV l h c) m (by rw [listV_length]; omega) (by omega) (listV l h c).length k 0 (by omega) (by rw [listV_length]; omega)
        rw [show fillV (listV l h c) m 0 = List.replicate m 0 by simp [fillV]] at this
        rw [show ((0 : Nat) : Int) = 0 from rfl] at this
        dsimp only
        rw [this, listV_length, Int.toNat_of_nonneg hc.1]
    · rw [if_neg h2, hf, if_neg (fun h => h2 h.2.1)]
  · rw [if_neg h1, hf, if_neg (fun h => h1 h.1)]
theorem impl_GrowRing_eq {k : Nat} {l : List Int} {h c n : Int} (hm : l.length ≤ 1048576) (hk : l.length + 400 ≤ k) : impl_GrowRing.f k l h c n = some (growV l h c n) := by
  obtain ⟨k, rfl⟩ : ∃ m, k = m + 1 := ⟨k - 1, by omega⟩
  simp only [impl_GrowRing.f, impl_RingOk_eq (h := h) (c := c) hm (show 100 ≤ k + 1 by omega), impl_within_eq, Option.bind_some, growV, decide_eq_true_eq]
  have hf : impl_GrowRing.j0 (k + 1) n true l h c = some (l, h, c, false) := by
    simp only [impl_GrowRing.j0, if_true]
    rw [impl_ownRing_eq hm, Option.bind_some]
  by_cases h1 : ringOkP l h c
  · rw [if_pos h1]
    by_cases h2 : 1 ≤ n ∧ n ≤ 20
    · rw [if_pos h2]
      by_cases h3 : c > n
      · rw [decide_eq_true h3, hf, if_neg (fun h => by have := h.2.2; omega)]
      · rw [decide_eq_false h3, if_pos ⟨h1, h2, by omega⟩]
        have hc := h1.1.2.2
        obtain ⟨m, rfl⟩ : ∃ m : Nat, n = (m : Int) := ⟨n.toNat, by omega⟩
        simp only [impl_GrowRing.j0, Bool.false_eq_true, if_false, Int.toNat_natCast]
        rw [if_pos (by omega), if_pos (by omega), impl_ListRing_eq hm (by omega), Option.bind_some]
        unfold listRingV copyInts.f
        rw [if_pos h1, List.length_replicate, if_pos (by omega), Option.bind_some]
        have hlen : (listV l h c).length ≤ m := by rw [listV_length]; omega
        dsimp only
        unfold fillV
        rw [List.take_of_length_le hlen, List.take_of_length_le (Nat.le_refl _), List.drop_replicate]
    · rw [if_neg h2, hf, if_neg (fun h => h2 h.2.1)]
  · rw [if_neg h1, hf, if_neg (fun h => h1 h.1)]

theorem szIntS_eq {l : List Int} {c : Int} (hm : l.length ≤ maxLen) (h0 : 0 ≤ c) (h1 : c ≤ 1048576) : laws_szIntS.f l c = some (if (l.length : Int) ≤ c then c - (l.length : Int) else -1) := by
  unfold maxLen at hm
  unfold laws_szIntS.f
  rw [w64 (x := c - (l.length : Int)) (by omega) (by omega)]
  by_cases h : (l.length : Int) ≤ c
  · rw [if_neg (by omega), if_pos h]
  · rw [if_pos (by omega), if_neg h]

theorem szRing_eq {l : List Int} {a b : Int} {c : Int} (hm : l.length ≤ maxLen) (h0 : 0 ≤ c) (h1 : c ≤ 1048576) : laws_szRing.f l a b c = some (if (l.length : Int) ≤ c then c - (l.length : Int) else -1) := by
  unfold laws_szRing.f
  rw [szIntS_eq hm h0 h1, Option.bind_some]
  by_cases h : (l.length : Int) ≤ c
  · rw [if_pos h, if_neg (by omega)]
  · rw [if_neg h, if_pos (by omega)]

theorem toIntS_l0 (x0 : List Int) (hn : x0.length ≤ 1048576) : ∀ (d k i : Nat) (x3 : List Int), i + d = x0.length → d < k → x3.length = x0.length → (∀ j, j < i → x3[j]? = x0[j]?) →
    laws_toIntS.l0 k x0 x3 (i : Int) = some x0 := by
  intro d
  induction d with
  | zero =>
    intro k i x3 h hk hl hp
    obtain ⟨k, rfl⟩ : ∃ m, k = m + 1 := ⟨k - 1, by omega⟩
    simp only [laws_toIntS.l0]
    rw [if_neg (by omega)]
    congr 1
    apply List.ext_getElem?
    intro j
    by_cases hj : j < i
    · exact hp j hj
    · rw [List.getElem?_eq_none (by omega), List.getElem?_eq_none (by omega)]
  | succ d ih =>
    intro k i x3 h hk hl hp
    obtain ⟨k, rfl⟩ : ∃ m, k = m + 1 := ⟨k - 1, by omega⟩
    simp only [laws_toIntS.l0]
    rw [if_pos (by omega), if_pos (by omega), if_pos (by omega), wi (by omega)]
    refine ih k (i + 1) _ (by omega) (by omega) (by simp [hl]) ?_
    intro j hj
    rw [Int.toNat_natCast, List.getElem?_set]
    by_cases e : i = j
    · subst e
      rw [if_pos rfl, if_pos (by omega), rd_at (by omega)]
    · rw [if_neg e]
      exact hp j (by omega)
theorem toIntS_eq {k : Nat} {l : List Int} (hn : l.length ≤ 1048576) (hk : l.length < k) : laws_toIntS.f k l = some l := by
  unfold laws_toIntS.f
  rw [if_pos (by omega), if_pos (by omega)]
  exact toIntS_l0 l hn l.length k 0 _ (by omega) hk (by simp) (by omega)

theorem toRing_eq {k : Nat} {l : List Int} {a b : Int} (hn : l.length ≤ 1048576) (hk : l.length < k) : laws_toRing.f k l a b = some (l, a, b) := by
  simp [laws_toRing.f, toIntS_eq hn hk]

theorem eqIntS_l0 (x : List Int) (hn : x.length ≤ 1048576) : ∀ (d k i : Nat), i + d = x.length → d < k → laws_eqIntS.l0 k x x (i : Int) = some true := by
  intro d
  induction d with
  | zero =>
    intro k i h hk
    obtain ⟨k, rfl⟩ : ∃ m, k = m + 1 := ⟨k - 1, by omega⟩
    simp only [laws_eqIntS.l0]
    rw [if_neg (by omega)]
  | succ d ih =>
    intro k i h hk
    obtain ⟨k, rfl⟩ : ∃ m, k = m + 1 := ⟨k - 1, by omega⟩
    simp only [laws_eqIntS.l0]
    rw [if_pos (by omega), if_pos (by omega), if_pos (by omega), wi (by omega)]
    exact ih k (i + 1) (by omega) (by omega)
theorem eqIntS_refl {k : Nat} {x : List Int} (hn : x.length ≤ 1048576) (hk : x.length < k) : laws_eqIntS.f k x x = some true := by
  unfold laws_eqIntS.f
  rw [if_pos rfl]
  exact eqIntS_l0 x hn x.length k 0 (by omega) hk

theorem eqRing_refl {k : Nat} {x : List Int} {a b : Int} (hn : x.length ≤ 1048576) (hk : x.length < k) : laws_eqRing.f k x a b x a b = some true := by
  simp [laws_eqRing.f, eqIntS_refl hn hk]

def markL (c : Int) (n : Nat) : List Int := (List.range n).map fun (j : Nat) => c + (j : Int)
theorem markL_length (c : Int) (n : Nat) : (markL c n).length = n := by simp [markL]
theorem markL_get {c : Int} {n j : Nat} (h : j < n) : (markL c n)[j]? = some (c + (j : Int)) := by
  simp [markL, List.getElem?_range, h]
theorem wc {c : Int} {i : Nat} (h0 : 0 ≤ c) (h1 : c ≤ 1073741824) (h2 : i ≤ 1073741824) : wrap64 (c + (i : Int) + 1) = c + ((i + 1 : Nat) : Int) := by
  unfold wrap64; omega

theorem markIntS_l0 (n : Nat) (hn : n ≤ 1048576) (c : Int) (h0 : 0 ≤ c) (h1 : c ≤ 1073741824) : ∀ (d k i : Nat) (x : List Int), x.length = n → i + d = n → d < k → (∀ j, j < i → x[j]? = some (c + (j : Int))) →
    laws_markIntS.l0 k x (c + (i : Int)) (i : Int) = some (c + (n : Int), markL c n) := by
  intro d
  induction d with
  | zero =>
    intro k i x hx h hk hp
    obtain ⟨k, rfl⟩ : ∃ m, k = m + 1 := ⟨k - 1, by omega⟩
    simp only [laws_markIntS.l0]
    rw [if_neg (by omega)]
    obtain rfl : i = n := by omega
    congr 2
    apply List.ext_getElem?
    intro j
    by_cases hj : j < i
    · rw [hp j hj, markL_get hj]
    · rw [List.getElem?_eq_none (by omega), List.getElem?_eq_none (by rw [markL_length]; omega)]
  | succ d ih =>
    intro k i x hx h hk hp
    obtain ⟨k, rfl⟩ : ∃ m, k = m + 1 := ⟨k - 1, by omega⟩
    simp only [laws_markIntS.l0]
    rw [if_pos (by omega), if_pos (by omega), wi (by omega), wc h0 h1 (by omega)]
    refine ih k (i + 1) _ (by simp [hx]) (by omega) (by omega) ?_
    intro j hj
    rw [Int.toNat_natCast, List.getElem?_set]
    by_cases e : i = j
    · subst e
      rw [if_pos rfl, if_pos (by omega)]
    · rw [if_neg e]
      exact hp j (by omega)
theorem markIntS_eq {k : Nat} {x : List Int} {c : Int} (hn : x.length ≤ 1048576) (h0 : 0 ≤ c) (h1 : c ≤ 1073741824) (hk : x.length < k) :
    laws_markIntS.f k x c = some (c + (x.length : Int), markL c x.length) := by
  unfold laws_markIntS.f
  have h := markIntS_l0 x.length hn c h0 h1 x.length k 0 x rfl (by omega) hk (by omega)
  simpa using h

theorem markRing_eq {k : Nat} {x : List Int} {a b c : Int} (hn : x.length ≤ 1048576) (h0 : 0 ≤ c) (h1 : c ≤ 1073741824) (hk : x.length < k) :
    laws_markRing.f k x a b c = some (c + (x.length : Int), markL c x.length) := by
  simp [laws_markRing.f, markIntS_eq hn h0 h1 hk]

theorem heldIntS_l0 (n : Nat) (hn : n ≤ 1048576) (c : Int) (h0 : 0 ≤ c) (h1 : c ≤ 1073741824) : ∀ (d k i : Nat), i + d = n → d < k →
    laws_heldIntS.l0 k (markL c n) (c + (i : Int)) (i : Int) = some (c + (n : Int)) := by
  intro d
  induction d with
  | zero =>
    intro k i h hk
    obtain ⟨k, rfl⟩ : ∃ m, k = m + 1 := ⟨k - 1, by omega⟩
    simp only [laws_heldIntS.l0]
    rw [if_neg (by rw [markL_length]; omega)]
    obtain rfl : i = n := by omega
    rfl
  | succ d ih =>
    intro k i h hk
    obtain ⟨k, rfl⟩ : ∃ m, k = m + 1 := ⟨k - 1, by omega⟩
    have e : rd (markL c n) (i : Int) = c + (i : Int) := by
      have h2 := rd_at (x := markL c n) (i := i) (by rw [markL_length]; omega)
      rw [markL_get (by omega)] at h2
      exact (Option.some.inj h2).symm
    simp only [laws_heldIntS.l0]
    rw [if_pos (by rw [markL_length]; omega), if_pos (by omega), if_pos e, wi (by omega), wc h0 h1 (by omega)]
    exact ih k (i + 1) (by omega) (by omega)
theorem heldIntS_eq {k n : Nat} {c : Int} (hn : n ≤ 1048576) (h0 : 0 ≤ c) (h1 : c ≤ 1073741824) (hk : n < k) :
    laws_heldIntS.f k (markL c n) c = some (c + (n : Int)) := by
  unfold laws_heldIntS.f
  have h := heldIntS_l0 n hn c h0 h1 n k 0 (by omega) hk
  simpa using h

theorem heldRing_eq {k n : Nat} {a b c : Int} (hn : n ≤ 1048576) (h0 : 0 ≤ c) (h1 : c ≤ 1073741824) (hk : n < k) :
    laws_heldRing.f k (markL c n) a b c = some (c + (n : Int)) := by
  simp only [laws_heldRing.f, heldIntS_eq hn h0 h1 hk, Option.bind_some]
  rw [if_neg (by omega)]

theorem FnExactGrowRing : ∀ (l0_0 : List Int) (a0_1 : Int) (a0_2 : Int) (a1 : Int), l0_0.length ≤ maxLen → (∀ x ∈ l0_0, (Lit.int .i64 x).wf = true) → (Lit.int .i64 a0_1).wf = true → (Lit.int .i64 a0_2).wf = true → (Lit.int .i64 a1).wf = true → ∃ k, laws_FnExactGrowRing.f k l0_0 a0_1 a0_2 a1 = some true := by
  intro l h c n hm _ _ _ _
  refine ⟨l.length + 600, ?_⟩
  simp only [laws_FnExactGrowRing.f, szRing_eq (c := 1048576) hm (by omega) (by omega), Option.bind_some]
  by_cases hl : (l.length : Int) ≤ 1048576
  · rw [if_pos hl, if_neg (by omega)]
    have e1 : ∀ k, l.length + 400 ≤ k → spec_GrowRing.f k l h c n = some (growV l h c n) := fun k hk => spec_GrowRing_eq (by omega) (by omega)
    have e2 : ∀ k, l.length + 400 ≤ k → impl_GrowRing.f k l h c n = some (growV l h c n) := fun k hk => impl_GrowRing_eq (by omega) (by omega)
    have hv := growV_length l h c n
    have hb : l.length + 20 ≤ 1048596 := by omega
    have hv2 : (growV l h c n).1.length ≤ 1048576 := by
      unfold growV
      split
      · rename_i hh
        rw [fillV_length (Nat.le_refl _) (by rw [listV_length]; omega)]
        omega
      · exact (by omega : l.length ≤ 1048576)
    generalize growV l h c n = v at e1 e2 hv hv2
    obtain ⟨l', h', c', b'⟩ := v
    replace hv : l'.length ≤ l.length + 20 := hv
    replace hv2 : l'.length ≤ 1048576 := hv2
    (first | rw [toRing_eq (by omega) (by omega), Option.bind_some] | rw [Option.bind_some]); (try dsimp only)
    (first | rw [e1 _ (by omega), Option.bind_some] | rw [Option.bind_some]); (try dsimp only)
    (first | rw [toRing_eq (by omega) (by omega), Option.bind_some] | rw [Option.bind_some]); (try dsimp only)
    (first | rw [e2 _ (by omega), Option.bind_some] | rw [Option.bind_some]); (try dsimp only)
    (first | rw [eqRing_refl (by omega) (by omega), Option.bind_some] | rw [Option.bind_some]); (try dsimp only)
    (first | rw [if_pos rfl] | rw [if_pos trivial]); (try dsimp only)
    simp only [laws_FnExactGrowRing.j0, bne_self_eq_false, Bool.not_true, Bool.false_eq_true, if_false]
    (first | rw [toRing_eq (by omega) (by omega), Option.bind_some] | rw [Option.bind_some]); (try dsimp only)
    (first | rw [eqRing_refl (by omega) (by omega), Option.bind_some] | rw [Option.bind_some]); (try dsimp only)
    (first | rw [if_pos rfl] | rw [if_pos trivial]); (try dsimp only)
    (first | rw [markRing_eq (by omega) (by omega) (by omega) (by omega), Option.bind_some] | rw [Option.bind_some]); (try dsimp only)
    rw [if_neg (by omega)]
    (first | rw [eqRing_refl (by omega) (by omega), Option.bind_some] | rw [Option.bind_some]); (try dsimp only)
    (first | rw [if_pos rfl] | rw [if_pos trivial]); (try dsimp only)
    simp only [laws_FnExactGrowRing.j1, bne_self_eq_false, Bool.not_true, Bool.false_eq_true, if_false]
    (first | rw [markRing_eq (by omega) (by omega) (by omega) (by omega), Option.bind_some] | rw [Option.bind_some]); (try dsimp only)
    (first | rw [heldRing_eq (by omega) (by omega) (by omega) (by omega), Option.bind_some] | rw [Option.bind_some]); (try dsimp only)
    rw [if_neg (by omega)]
    (first | rw [if_pos rfl] | rw [if_pos trivial]); (try dsimp only)
    (first | rw [toRing_eq (by omega) (by omega), Option.bind_some] | rw [Option.bind_some]); (try dsimp only)
    (first | rw [e2 _ (by omega), Option.bind_some] | rw [Option.bind_some]); (try dsimp only)
    (first | rw [eqRing_refl (by omega) (by omega), Option.bind_some] | rw [Option.bind_some]); (try dsimp only)
    (first | rw [if_pos rfl] | rw [if_pos trivial]); (try dsimp only)
    simp only [laws_FnExactGrowRing.j2, bne_self_eq_false, Bool.not_true, Bool.false_eq_true, if_false]
    (first | rw [heldRing_eq (by omega) (by omega) (by omega) (by omega), Option.bind_some] | rw [Option.bind_some]); (try dsimp only)
    rw [if_neg (by omega)]
    (first | rw [if_pos rfl] | rw [if_pos trivial]); (try dsimp only)
  · rw [if_neg hl, if_pos (by omega)]

end Go.Proofs.Ytoeiadanmfajoaa.Pure
