/-
  The law FnExactCheck answers true: the program's Check is the reference's, for all bytes. No condition.
-/
import Derived.Test.YtphlobfbokcglaaQFnExactCheckx1
import Derived.Laws.BitsAllLaws
import Derived.OpenShut
namespace Go.Proofs.Ytphlobfbokcglaa.Pure
open Go.RowKit Go.Proofs.Ytphlobfbokcglaa.QFnExactCheck Go.Proofs.YtphlobfbokcglaaW.PrintWords Go.Proofs.YtphlobfbokcglaaW.PrintLast Go.Proofs.YtphlobfbokcglaaW.PrintMore
set_option linter.unusedSimpArgs false
set_option linter.unusedVariables false

theorem wi {i : Nat} (h : i < 4611686018427387904) : wrap64 ((i : Int) + 1) = ((i + 1 : Nat) : Int) := by
  unfold wrap64; omega

theorem w64 {x : Int} (h1 : -9223372036854775808 ≤ x) (h2 : x ≤ 9223372036854775807) : wrap64 x = x := by
  unfold wrap64; omega

theorem i64_xor_nat (a b : Nat) (ha : a < 4294967296) (hb : b < 4294967296) : Go.bits .xor .i64 (a : Int) (b : Int) = ((a ^^^ b : Nat) : Int) := by
  have hx : a ^^^ b < 2 ^ 32 := Nat.xor_lt_two_pow (by omega) (by omega)
  have h1 : (BitVec.ofInt 64 (a : Int)).toNat = a := by
    rw [BitVec.ofInt_natCast, BitVec.toNat_ofNat]; exact Nat.mod_eq_of_lt (by omega)
  have h2 : (BitVec.ofInt 64 (b : Int)).toNat = b := by
    rw [BitVec.ofInt_natCast, BitVec.toNat_ofNat]; exact Nat.mod_eq_of_lt (by omega)
  show IntKind.i64.wrap ((BitVec.ofInt 64 (a : Int) ^^^ BitVec.ofInt 64 (b : Int)).toNat : Int) = _
  rw [BitVec.toNat_xor, h1, h2, IntKind.wrap_i64]
  omega
theorem not_nat (c : Nat) (hc : c < 4294967296) : 4294967295 ^^^ c = 4294967295 - c := by
  apply Nat.eq_of_testBit_eq
  intro i
  have e : (4294967295 - c : Nat) = 2 ^ 32 - (c + 1) := by omega
  rw [Nat.testBit_xor, e, Nat.testBit_two_pow_sub_succ (by omega), show (4294967295 : Nat) = 2 ^ 32 - 1 from rfl, Nat.testBit_two_pow_sub_one]
  by_cases h : i < 32
  · simp [h]
  · have h2 : c.testBit i = false := Nat.testBit_lt_two_pow (Nat.lt_of_lt_of_le (show c < 2 ^ 32 by omega) (Nat.pow_le_pow_right (by omega) (by omega)))
    simp [h, h2]
def crcBit (c : Nat) : Nat := if c % 2 = 1 then (c / 2) ^^^ 3988292384 else c / 2
def crcBits : Nat → Nat → Nat
  | 0, c => c
  | n + 1, c => crcBits n (crcBit c)
theorem crcBit_lt {c : Nat} (h : c < 4294967296) : crcBit c < 4294967296 := by
  unfold crcBit
  split
  · exact Nat.xor_lt_two_pow (n := 32) (by omega) (by omega)
  · omega
theorem crcBits_lt (n : Nat) : ∀ {c : Nat}, c < 4294967296 → crcBits n c < 4294967296 := by
  induction n with
  | zero => intro c h; exact h
  | succ n ih => intro c h; exact ih (crcBit_lt h)
theorem spec_Check_l1 (l : List Int) (x4 : Int) : ∀ (n k c j : Nat), j + n = 8 → c < 4294967296 → spec_Check.l1 (k + n + 1) l (c : Int) x4 (j : Int) = spec_Check.l0 k l (crcBits n c : Nat) (wrap64 (x4 + 1)) := by
  intro n
  induction n with
  | zero =>
    intro k c j hj hc
    simp only [spec_Check.l1, crcBits]
    rw [if_neg (by omega)]
  | succ n ih =>
    intro k c j hj hc
    rw [show k + (n + 1) + 1 = (k + n + 1) + 1 by omega]
    simp only [spec_Check.l1, crcBits]
    have e1 : Int.tmod (c : Int) 2 = ((c % 2 : Nat) : Int) := by rw [Int.tmod_eq_emod_of_nonneg (by omega)]; omega
    have e2 : wrap64 (Int.tdiv (c : Int) 2) = ((c / 2 : Nat) : Int) := by rw [Int.tdiv_eq_ediv_of_nonneg (by omega), w64 (by omega) (by omega)]; omega
    have e3 : Go.bits .xor .i64 ((c / 2 : Nat) : Int) 3988292384 = ((c / 2 ^^^ 3988292384 : Nat) : Int) := i64_xor_nat (c / 2) 3988292384 (by omega) (by omega)
    rw [if_pos (by omega), e1, e2, e3, wi (by omega)]
    have ih' := ih k (crcBit c) (j + 1) (by omega) (crcBit_lt hc)
    by_cases h : c % 2 = 1
    · rw [if_pos (by omega)]
      rw [show crcBit c = c / 2 ^^^ 3988292384 by unfold crcBit; rw [if_pos h]] at ih' ⊢
      exact ih'
    · rw [if_neg (by omega)]
      rw [show crcBit c = c / 2 by unfold crcBit; rw [if_neg h]] at ih' ⊢
      exact ih'
theorem impl_Check_l1 (l : List Int) (x7 x8 : Int) : ∀ (n k c j : Nat), j + n = 8 → c < 4294967296 → impl_Check.l1 (k + n + 1) (c : Int) l x7 x8 (j : Int) = impl_Check.l0 k (crcBits n c : Nat) l x7 (wrap64 (x8 + 1)) := by
  intro n
  induction n with
  | zero =>
    intro k c j hj hc
    simp only [impl_Check.l1, crcBits]
    rw [if_neg (by omega)]
  | succ n ih =>
    intro k c j hj hc
    rw [show k + (n + 1) + 1 = (k + n + 1) + 1 by omega]
    simp only [impl_Check.l1, crcBits]
    have e1 : Go.bits .and .u32 (c : Int) 1 = ((c % 2 : Nat) : Int) := by
      have := u32_and_nat c 1 hc (by omega)
      rw [Nat.and_one_is_mod] at this
      exact this
    have e2 : (c : Int) / 2 = ((c / 2 : Nat) : Int) := by omega
    have e3 : Go.bits .xor .u32 ((c / 2 : Nat) : Int) 3988292384 = ((c / 2 ^^^ 3988292384 : Nat) : Int) := u32_xor_nat (c / 2) 3988292384 (by omega) (by omega)
    rw [if_pos (by omega), e1, e2, e3, wi (by omega)]
    have ih' := ih k (crcBit c) (j + 1) (by omega) (crcBit_lt hc)
    by_cases h : c % 2 = 1
    · rw [if_pos (by omega)]
      rw [show crcBit c = c / 2 ^^^ 3988292384 by unfold crcBit; rw [if_pos h]] at ih' ⊢
      exact ih'
    · rw [if_neg (by omega)]
      rw [show crcBit c = c / 2 by unfold crcBit; rw [if_neg h]] at ih' ⊢
      exact ih'
theorem Check_l0 (l : List Int) (hn : l.length ≤ 1048576) (hl : ∀ i, i < l.length → 0 ≤ rd l (i : Int) ∧ rd l (i : Int) ≤ 255) : ∀ (d k i c : Nat), i + d = l.length → 10 * d < k → c < 4294967296 →
    ∃ r : Nat, r < 4294967296 ∧ spec_Check.l0 k l (c : Int) (i : Int) = some (r : Int) ∧ impl_Check.l0 k (c : Int) l (l.length : Int) (i : Int) = some (r : Int) := by
  intro d
  induction d with
  | zero =>
    intro k i c h hk hc
    obtain ⟨k, rfl⟩ : ∃ m, k = m + 1 := ⟨k - 1, by omega⟩
    refine ⟨4294967295 - c, by omega, ?_, ?_⟩
    · simp only [spec_Check.l0]
      rw [if_neg (by omega), w64 (by omega) (by omega)]
      congr 1
      omega
    · simp only [impl_Check.l0]
      have e := u32_xor_nat 4294967295 c (by omega) hc
      rw [not_nat c hc] at e
      rw [if_neg (by omega), show (4294967295 : Int) = ((4294967295 : Nat) : Int) from rfl, e, w64 (by omega) (by omega)]
  | succ d ih =>
    intro k i c h hk hc
    obtain ⟨k, rfl⟩ : ∃ m, k = m + 8 + 1 + 1 := ⟨k - 10, by omega⟩
    obtain ⟨hb0, hb1⟩ := hl i (by omega)
    obtain ⟨b, hb⟩ : ∃ b : Nat, rd l (i : Int) = (b : Int) := ⟨(rd l (i : Int)).toNat, by omega⟩
    have hx : c ^^^ b < 4294967296 := Nat.xor_lt_two_pow (n := 32) (by omega) (by omega)
    obtain ⟨r, hr, h1, h2⟩ := ih k (i + 1) (crcBits 8 (c ^^^ b)) (by omega) (by omega) (crcBits_lt 8 hx)
    refine ⟨r, hr, ?_, ?_⟩
    · simp only [spec_Check.l0]
      rw [if_pos (by omega), if_pos (by omega), hb, w64 (x := (b : Int)) (by omega) (by omega), i64_xor_nat c b hc (by omega)]
      have e := spec_Check_l1 l (i : Int) 8 k (c ^^^ b) 0 rfl hx
      rw [wi (by omega)] at e
      exact e.trans h1
    · simp only [impl_Check.l0]
      rw [if_pos (by omega), if_pos (by omega), if_pos (by omega), hb, show (b : Int) % 4294967296 = (b : Int) by omega, u32_xor_nat c b hc (by omega)]
      have e := impl_Check_l1 l (l.length : Int) (i : Int) 8 k (c ^^^ b) 0 rfl hx
      rw [wi (by omega)] at e
      exact e.trans h2
theorem Check_both {k : Nat} (l : List Int) (hn : l.length ≤ 1048576) (hl : ∀ i, i < l.length → 0 ≤ rd l (i : Int) ∧ rd l (i : Int) ≤ 255) (hk : 10 * l.length < k) :
    ∃ r : Nat, r < 4294967296 ∧ spec_Check.f k l = some (r : Int) ∧ impl_Check.f k l = some (r : Int) :=
  Check_l0 l hn hl l.length k 0 4294967295 (by omega) hk (by omega)
theorem bytes_range {l : List Int} (h : ∀ x ∈ l, (Lit.int .u8 x).wf = true) : ∀ i, i < l.length → 0 ≤ rd l (i : Int) ∧ rd l (i : Int) ≤ 255 := by
  intro i hi
  have e : rd l (i : Int) = l[i] := by simp [rd, List.getD_eq_getElem?_getD, List.getElem?_eq_getElem hi]
  rw [e]
  exact Go.bounds_u8 (h _ (List.getElem_mem hi))

theorem rd_at {x : List Int} {i : Nat} (h : i < x.length) : x[i]? = some (rd x (i : Int)) := by
  simp [rd, List.getD_eq_getElem?_getD, List.getElem?_eq_getElem h]

theorem toByteS_l0 (x0 : List Int) (hn : x0.length ≤ 1048576) : ∀ (d k i : Nat) (x3 : List Int), i + d = x0.length → d < k → x3.length = x0.length → (∀ j, j < i → x3[j]? = x0[j]?) →
    laws_toByteS.l0 k x0 x3 (i : Int) = some x0 := by
  intro d
  induction d with
  | zero =>
    intro k i x3 h hk hl hp
    obtain ⟨k, rfl⟩ : ∃ m, k = m + 1 := ⟨k - 1, by omega⟩
    simp only [laws_toByteS.l0]
    rw [if_neg (by omega)]
    congr 1
    apply List.ext_getElem?
    intro j
    by_cases hj : j < i
    · exact hp j hj
    · rw [List.getElem?_eq_none (by omega), List.getElem?_eq_none (by omega)]
  | succ d ih =>
    intro k i x3 h hk hl hp
    obtain ⟨k, rfl⟩ : ∃ m, k = m + 1 := ⟨k - 1, by omega⟩
    simp only [laws_toByteS.l0]
    rw [if_pos (by omega), if_pos (by omega), if_pos (by omega), wi (by omega)]
    refine ih k (i + 1) _ (by omega) (by omega) (by simp [hl]) ?_
    intro j hj
    rw [Int.toNat_natCast, List.getElem?_set]
    by_cases e : i = j
    · subst e
      rw [if_pos rfl, if_pos (by omega), rd_at (by omega)]
    · rw [if_neg e]
      exact hp j (by omega)
theorem toByteS_eq {k : Nat} {l : List Int} (hn : l.length ≤ 1048576) (hk : l.length < k) : laws_toByteS.f k l = some l := by
  unfold laws_toByteS.f
  rw [if_pos (by omega), if_pos (by omega)]
  exact toByteS_l0 l hn l.length k 0 _ (by omega) hk (by simp) (by omega)

theorem eqByteS_l0 (x : List Int) (hn : x.length ≤ 1048576) : ∀ (d k i : Nat), i + d = x.length → d < k → laws_eqByteS.l0 k x x (i : Int) = some true := by
  intro d
  induction d with
  | zero =>
    intro k i h hk
    obtain ⟨k, rfl⟩ : ∃ m, k = m + 1 := ⟨k - 1, by omega⟩
    simp only [laws_eqByteS.l0]
    rw [if_neg (by omega)]
  | succ d ih =>
    intro k i h hk
    obtain ⟨k, rfl⟩ : ∃ m, k = m + 1 := ⟨k - 1, by omega⟩
    simp only [laws_eqByteS.l0]
    rw [if_pos (by omega), if_pos (by omega), if_pos (by omega), wi (by omega)]
    exact ih k (i + 1) (by omega) (by omega)
theorem eqByteS_refl {k : Nat} {x : List Int} (hn : x.length ≤ 1048576) (hk : x.length < k) : laws_eqByteS.f k x x = some true := by
  unfold laws_eqByteS.f
  rw [if_pos rfl]
  exact eqByteS_l0 x hn x.length k 0 (by omega) hk

theorem FnExactCheck : ∀ (l0 : List Int), l0.length ≤ maxLen → (∀ x ∈ l0, (Lit.int .u8 x).wf = true) → ∃ k, laws_FnExactCheck.f k l0 = some true := by
  intro l _ hw
  refine ⟨10 * l.length + 400, ?_⟩
  unfold laws_FnExactCheck.f
  by_cases h : (l.length : Int) > 1048576
  · rw [if_pos h]
  · rw [if_neg h]
    obtain ⟨r, _, h1, h2⟩ := Check_both (k := 10 * l.length + 400) l (by omega) (bytes_range hw) (by omega)
    simp only [toByteS_eq (k := 10 * l.length + 400) (l := l) (by omega) (by omega), Option.bind_some, h1, h2, eqByteS_refl (k := 10 * l.length + 400) (x := l) (by omega) (by omega)]
    simp

end Go.Proofs.Ytphlobfbokcglaa.Pure
