/-
  The law FnExactNewRing answers true: the program's NewRing is the reference's, in new memory, for all arguments. No condition.
-/
import Derived.Test.YtphlobfbokcglaaPFnExactNewRingx2
namespace Go.Proofs.Ytphlobfbokcglaa.Pure
open Go.RowKit Go.Proofs.Ytphlobfbokcglaa.PFnExactNewRing Go.Proofs.YtphlobfbokcglaaW.PrintWords Go.Proofs.YtphlobfbokcglaaW.PrintLast Go.Proofs.YtphlobfbokcglaaW.PrintMore
set_option linter.unusedSimpArgs false
set_option linter.unusedVariables false

theorem spec_in_eq (a lo hi : Int) : spec_l01In.f a lo hi = some (decide (lo ≤ a ∧ a ≤ hi)) := by
  unfold spec_l01In.f; by_cases h : lo ≤ a <;> simp [h]

theorem impl_within_eq (a lo hi : Int) : impl_within.f a lo hi = some (decide (lo ≤ a ∧ a ≤ hi)) := by
  unfold impl_within.f; by_cases h : lo ≤ a <;> simp [h]

def newRingV (a : Int) : List Int × Int × Int × Bool := if 1 ≤ a ∧ a ≤ 20 then (List.replicate a.toNat 0, 0, 0, true) else ([], 0, 0, false)
theorem newRingV_length (a : Int) : (newRingV a).1.length ≤ 20 := by
  unfold newRingV
  by_cases h : 1 ≤ a ∧ a ≤ 20
  · rw [if_pos h]; simp; omega
  · rw [if_neg h]; simp
theorem spec_NewRing_eq (a : Int) : spec_NewRing.f a = some (newRingV a) := by
  simp only [spec_NewRing.f, spec_in_eq, Option.bind_some, newRingV]
  by_cases h : 1 ≤ a ∧ a ≤ 20
  · have h1 : 0 ≤ a := by omega
    have h2 : a.toNat ≤ 35184372088832 := by omega
    simp [h, h1, h2]
  · simp [h]
theorem impl_NewRing_eq (a : Int) : impl_NewRing.f a = some (newRingV a) := by
  simp only [impl_NewRing.f, impl_within_eq, Option.bind_some, newRingV]
  by_cases h : 1 ≤ a ∧ a ≤ 20
  · have h1 : 0 ≤ a := by omega
    have h2 : a.toNat ≤ 35184372088832 := by omega
    simp [h, h1, h2]
  · simp [h]

theorem wi {i : Nat} (h : i < 4611686018427387904) : wrap64 ((i : Int) + 1) = ((i + 1 : Nat) : Int) := by
  unfold wrap64; omega

theorem eqIntS_l0 (x : List Int) (hn : x.length ≤ 1048576) : ∀ (d k i : Nat), i + d = x.length → d < k → laws_eqIntS.l0 k x x (i : Int) = some true := by
  intro d
  induction d with
  | zero =>
    intro k i h hk
    obtain ⟨k, rfl⟩ : ∃ m, k = m + 1 := ⟨k - 1, by omega⟩
    simp only [laws_eqIntS.l0]
    rw [if_neg (by omega)]
  | succ d ih =>
    intro k i h hk
    obtain ⟨k, rfl⟩ : ∃ m, k = m + 1 := ⟨k - 1, by omega⟩
    simp only [laws_eqIntS.l0]
    rw [if_pos (by omega), if_pos (by omega), if_pos (by omega), wi (by omega)]
    exact ih k (i + 1) (by omega) (by omega)
theorem eqIntS_refl {k : Nat} {x : List Int} (hn : x.length ≤ 1048576) (hk : x.length < k) : laws_eqIntS.f k x x = some true := by
  unfold laws_eqIntS.f
  rw [if_pos rfl]
  exact eqIntS_l0 x hn x.length k 0 (by omega) hk

theorem eqRing_refl {k : Nat} {x : List Int} {a b : Int} (hn : x.length ≤ 1048576) (hk : x.length < k) : laws_eqRing.f k x a b x a b = some true := by
  simp [laws_eqRing.f, eqIntS_refl hn hk]

def markL (c : Int) (n : Nat) : List Int := (List.range n).map fun (j : Nat) => c + (j : Int)
theorem markL_length (c : Int) (n : Nat) : (markL c n).length = n := by simp [markL]
theorem markL_get {c : Int} {n j : Nat} (h : j < n) : (markL c n)[j]? = some (c + (j : Int)) := by
  simp [markL, List.getElem?_range, h]
theorem wc {c : Int} {i : Nat} (h0 : 0 ≤ c) (h1 : c ≤ 1073741824) (h2 : i ≤ 1073741824) : wrap64 (c + (i : Int) + 1) = c + ((i + 1 : Nat) : Int) := by
  unfold wrap64; omega

theorem markIntS_l0 (n : Nat) (hn : n ≤ 1048576) (c : Int) (h0 : 0 ≤ c) (h1 : c ≤ 1073741824) : ∀ (d k i : Nat) (x : List Int), x.length = n → i + d = n → d < k → (∀ j, j < i → x[j]? = some (c + (j : Int))) →
    laws_markIntS.l0 k x (c + (i : Int)) (i : Int) = some (c + (n : Int), markL c n) := by
  intro d
  induction d with
  | zero =>
    intro k i x hx h hk hp
    obtain ⟨k, rfl⟩ : ∃ m, k = m + 1 := ⟨k - 1, by omega⟩
    simp only [laws_markIntS.l0]
    rw [if_neg (by omega)]
    obtain rfl : i = n := by omega
    congr 2
    apply List.ext_getElem?
    intro j
    by_cases hj : j < i
    · rw [hp j hj, markL_get hj]
    · rw [List.getElem?_eq_none (by omega), List.getElem?_eq_none (by rw [markL_length]; omega)]
  | succ d ih =>
    intro k i x hx h hk hp
    obtain ⟨k, rfl⟩ : ∃ m, k = m + 1 := ⟨k - 1, by omega⟩
    simp only [laws_markIntS.l0]
    rw [if_pos (by omega), if_pos (by omega), wi (by omega), wc h0 h1 (by omega)]
    refine ih k (i + 1) _ (by simp [hx]) (by omega) (by omega) ?_
    intro j hj
    rw [Int.toNat_natCast, List.getElem?_set]
    by_cases e : i = j
    · subst e
      rw [if_pos rfl, if_pos (by omega)]
    · rw [if_neg e]
      exact hp j (by omega)
theorem markIntS_eq {k : Nat} {x : List Int} {c : Int} (hn : x.length ≤ 1048576) (h0 : 0 ≤ c) (h1 : c ≤ 1073741824) (hk : x.length < k) :
    laws_markIntS.f k x c = some (c + (x.length : Int), markL c x.length) := by
  unfold laws_markIntS.f
  have h := markIntS_l0 x.length hn c h0 h1 x.length k 0 x rfl (by omega) hk (by omega)
  simpa using h

theorem markRing_eq {k : Nat} {x : List Int} {a b c : Int} (hn : x.length ≤ 1048576) (h0 : 0 ≤ c) (h1 : c ≤ 1073741824) (hk : x.length < k) :
    laws_markRing.f k x a b c = some (c + (x.length : Int), markL c x.length) := by
  simp [laws_markRing.f, markIntS_eq hn h0 h1 hk]

theorem rd_at {x : List Int} {i : Nat} (h : i < x.length) : x[i]? = some (rd x (i : Int)) := by
  simp [rd, List.getD_eq_getElem?_getD, List.getElem?_eq_getElem h]

theorem heldIntS_l0 (n : Nat) (hn : n ≤ 1048576) (c : Int) (h0 : 0 ≤ c) (h1 : c ≤ 1073741824) : ∀ (d k i : Nat), i + d = n → d < k →
    laws_heldIntS.l0 k (markL c n) (c + (i : Int)) (i : Int) = some (c + (n : Int)) := by
  intro d
  induction d with
  | zero =>
    intro k i h hk
    obtain ⟨k, rfl⟩ : ∃ m, k = m + 1 := ⟨k - 1, by omega⟩
    simp only [laws_heldIntS.l0]
    rw [if_neg (by rw [markL_length]; omega)]
    obtain rfl : i = n := by omega
    rfl
  | succ d ih =>
    intro k i h hk
    obtain ⟨k, rfl⟩ : ∃ m, k = m + 1 := ⟨k - 1, by omega⟩
    have e : rd (markL c n) (i : Int) = c + (i : Int) := by
      have h2 := rd_at (x := markL c n) (i := i) (by rw [markL_length]; omega)
      rw [markL_get (by omega)] at h2
      exact (Option.some.inj h2).symm
    simp only [laws_heldIntS.l0]
    rw [if_pos (by rw [markL_length]; omega), if_pos (by omega), if_pos e, wi (by omega), wc h0 h1 (by omega)]
    exact ih k (i + 1) (by omega) (by omega)
theorem heldIntS_eq {k n : Nat} {c : Int} (hn : n ≤ 1048576) (h0 : 0 ≤ c) (h1 : c ≤ 1073741824) (hk : n < k) :
    laws_heldIntS.f k (markL c n) c = some (c + (n : Int)) := by
  unfold laws_heldIntS.f
  have h := heldIntS_l0 n hn c h0 h1 n k 0 (by omega) hk
  simpa using h

theorem heldRing_eq {k n : Nat} {a b c : Int} (hn : n ≤ 1048576) (h0 : 0 ≤ c) (h1 : c ≤ 1073741824) (hk : n < k) :
    laws_heldRing.f k (markL c n) a b c = some (c + (n : Int)) := by
  simp only [laws_heldRing.f, heldIntS_eq hn h0 h1 hk, Option.bind_some]
  rw [if_neg (by omega)]

theorem FnExactNewRing : laws_FnExactNewRing.Pure := by
  intro a _
  refine ⟨100, ?_⟩
  have hl := newRingV_length a
  have e1 := spec_NewRing_eq a
  have e2 := impl_NewRing_eq a
  generalize newRingV a = v at hl e1 e2
  obtain ⟨l, h, c, b⟩ := v
  replace hl : l.length ≤ 20 := hl
  simp (discharger := omega) only [laws_FnExactNewRing.f, laws_FnExactNewRing.j0, laws_FnExactNewRing.j1, e1, e2, Option.bind_some, eqRing_refl, markRing_eq, heldRing_eq, bne_self_eq_false, if_true, Bool.false_eq_true, if_false]
  (repeat rw [if_neg (by omega)])

end Go.Proofs.Ytphlobfbokcglaa.Pure
