/-
  The law FnExactPutFrame answers true: the program's PutFrame is the reference's, in new memory, for all arguments. No condition.
-/
import Derived.Test.YtoeiadanmfajoaaQFnExactPutFramex5
import Derived.Laws.BitsAllLaws
import Derived.OpenShut
namespace Go.Proofs.Ytoeiadanmfajoaa.Pure
open Go.RowKit Go.Proofs.Ytoeiadanmfajoaa.QFnExactPutFrame Go.Proofs.YtoeiadanmfajoaaW.PrintWords Go.Proofs.YtoeiadanmfajoaaW.PrintLast Go.Proofs.YtoeiadanmfajoaaW.PrintMore
set_option linter.unusedSimpArgs false
set_option linter.unusedVariables false

theorem spec_in_eq (a lo hi : Int) : spec_l01In.f a lo hi = some (decide (lo ≤ a ∧ a ≤ hi)) := by
  unfold spec_l01In.f; by_cases h : lo ≤ a <;> simp [h]

theorem impl_within_eq (a lo hi : Int) : impl_within.f a lo hi = some (decide (lo ≤ a ∧ a ≤ hi)) := by
  unfold impl_within.f; by_cases h : lo ≤ a <;> simp [h]

theorem impl_isKey_eq (a : Int) : impl_isKey.f a = some (decide (0 ≤ a ∧ a ≤ 65535)) := by
  simp only [impl_isKey.f, impl_within_eq, Option.bind_some]

theorem impl_isTime_eq (a : Int) : impl_isTime.f a = some (decide (0 ≤ a ∧ a ≤ 1000000)) := by
  simp only [impl_isTime.f, impl_within_eq, Option.bind_some]

theorem impl_isValue_eq (a : Int) : impl_isValue.f a = some (decide ((-1000000) ≤ a ∧ a ≤ 1000000)) := by
  simp only [impl_isValue.f, impl_within_eq, Option.bind_some]

theorem impl_FrameOk_eq (a b c d : Int) : impl_FrameOk.f a b c d = spec_FrameOk.f a b c d := by
  simp only [impl_FrameOk.f, spec_FrameOk.f, spec_in_eq, impl_isKey_eq, impl_isTime_eq, impl_isValue_eq, Option.bind_some]
  by_cases h1 : a = 1
  · simp [h1]
  · by_cases h2 : a = 2
    · simp [h2]
    · by_cases h3 : a = 3
      · by_cases h4 : b = 0
        · by_cases h5 : c = 0
          · simp [h3, h4, h5]
          · simp [h3, h4, h5]
        · simp [h3, h4]
      · simp [h1, h2, h3]
theorem spec_FrameOk_some (a b c d : Int) : ∃ r, spec_FrameOk.f a b c d = some r := by
  simp only [spec_FrameOk.f, spec_in_eq, Option.bind_some]
  (repeat' split) <;> exact ⟨_, rfl⟩

def frameOkB (a b c d : Int) : Bool :=
  if a = 1 then decide (0 ≤ b ∧ b ≤ 65535) && (decide (0 ≤ c ∧ c ≤ 1000000) && decide (-1000000 ≤ d ∧ d ≤ 1000000))
  else if a = 2 then decide (b = 0) && (decide (0 ≤ c ∧ c ≤ 1000000) && decide (d = 0))
  else if a = 3 then decide (b = 0) && (decide (c = 0) && decide (d = 0)) else false
theorem spec_FrameOk_eq (a b c d : Int) : spec_FrameOk.f a b c d = some (frameOkB a b c d) := by
  simp only [spec_FrameOk.f, spec_in_eq, Option.bind_some, frameOkB]
  by_cases h1 : a = 1
  · rw [if_pos h1, if_pos h1]
    by_cases h2 : 0 ≤ b ∧ b ≤ 65535
    · by_cases h3 : 0 ≤ c ∧ c ≤ 1000000
      · simp [h2, h3]
      · simp [h2, h3]
    · simp [h2]
  · rw [if_neg h1, if_neg h1]
    by_cases h2 : a = 2
    · rw [if_pos h2, if_pos h2]
      by_cases h3 : b = 0
      · by_cases h4 : 0 ≤ c ∧ c ≤ 1000000
        · simp [h3, h4]; rfl
        · simp [h3, h4]
      · simp [h3]
    · rw [if_neg h2, if_neg h2]
      by_cases h3 : a = 3
      · by_cases h4 : b = 0
        · by_cases h5 : c = 0
          · simp [h3, h4, h5]; rfl
          · simp [h3, h4, h5]
        · simp [h3, h4]
      · simp [h3]
theorem frameOkB_kind {a b c d : Int} (h : frameOkB a b c d = true) : (a = 1 ∧ (0 ≤ b ∧ b ≤ 65535) ∧ (0 ≤ c ∧ c ≤ 1000000) ∧ (-1000000 ≤ d ∧ d ≤ 1000000)) ∨ (a = 2 ∧ b = 0 ∧ (0 ≤ c ∧ c ≤ 1000000) ∧ d = 0) ∨ (a = 3 ∧ b = 0 ∧ c = 0 ∧ d = 0) := by
  unfold frameOkB at h
  by_cases h1 : a = 1
  · rw [if_pos h1] at h
    simp at h
    exact .inl ⟨h1, h.1, h.2.1, h.2.2⟩
  · rw [if_neg h1] at h
    by_cases h2 : a = 2
    · rw [if_pos h2] at h
      simp at h
      exact .inr (.inl ⟨h2, h.1, h.2.1, h.2.2⟩)
    · rw [if_neg h2] at h
      by_cases h3 : a = 3
      · rw [if_pos h3] at h
        simp at h
        exact .inr (.inr ⟨h3, h.1, h.2.1, h.2.2⟩)
      · rw [if_neg h3] at h
        cases h

theorem wi {i : Nat} (h : i < 4611686018427387904) : wrap64 ((i : Int) + 1) = ((i + 1 : Nat) : Int) := by
  unfold wrap64; omega

theorem w64 {x : Int} (h1 : -9223372036854775808 ≤ x) (h2 : x ≤ 9223372036854775807) : wrap64 x = x := by
  unfold wrap64; omega

theorem i64_xor_nat (a b : Nat) (ha : a < 4294967296) (hb : b < 4294967296) : Go.bits .xor .i64 (a : Int) (b : Int) = ((a ^^^ b : Nat) : Int) := by
  have hx : a ^^^ b < 2 ^ 32 := Nat.xor_lt_two_pow (by omega) (by omega)
  have h1 : (BitVec.ofInt 64 (a : Int)).toNat = a := by
    rw [BitVec.ofInt_natCast, BitVec.toNat_ofNat]; exact Nat.mod_eq_of_lt (by omega)
  have h2 : (BitVec.ofInt 64 (b : Int)).toNat = b := by
    rw [BitVec.ofInt_natCast, BitVec.toNat_ofNat]; exact Nat.mod_eq_of_lt (by omega)
  show IntKind.i64.wrap ((BitVec.ofInt 64 (a : Int) ^^^ BitVec.ofInt 64 (b : Int)).toNat : Int) = _
  rw [BitVec.toNat_xor, h1, h2, IntKind.wrap_i64]
  omega
theorem not_nat (c : Nat) (hc : c < 4294967296) : 4294967295 ^^^ c = 4294967295 - c := by
  apply Nat.eq_of_testBit_eq
  intro i
  have e : (4294967295 - c : Nat) = 2 ^ 32 - (c + 1) := by omega
  rw [Nat.testBit_xor, e, Nat.testBit_two_pow_sub_succ (by omega), show (4294967295 : Nat) = 2 ^ 32 - 1 from rfl, Nat.testBit_two_pow_sub_one]
  by_cases h : i < 32
  · simp [h]
  · have h2 : c.testBit i = false := Nat.testBit_lt_two_pow (Nat.lt_of_lt_of_le (show c < 2 ^ 32 by omega) (Nat.pow_le_pow_right (by omega) (by omega)))
    simp [h, h2]
def crcBit (c : Nat) : Nat := if c % 2 = 1 then (c / 2) ^^^ 3988292384 else c / 2
def crcBits : Nat → Nat → Nat
  | 0, c => c
  | n + 1, c => crcBits n (crcBit c)
theorem crcBit_lt {c : Nat} (h : c < 4294967296) : crcBit c < 4294967296 := by
  unfold crcBit
  split
  · exact Nat.xor_lt_two_pow (n := 32) (by omega) (by omega)
  · omega
theorem crcBits_lt (n : Nat) : ∀ {c : Nat}, c < 4294967296 → crcBits n c < 4294967296 := by
  induction n with
  | zero => intro c h; exact h
  | succ n ih => intro c h; exact ih (crcBit_lt h)
theorem spec_Check_l1 (l : List Int) (x4 : Int) : ∀ (n k c j : Nat), j + n = 8 → c < 4294967296 → spec_Check.l1 (k + n + 1) l (c : Int) x4 (j : Int) = spec_Check.l0 k l (crcBits n c : Nat) (wrap64 (x4 + 1)) := by
  intro n
  induction n with
  | zero =>
    intro k c j hj hc
    simp only [spec_Check.l1, crcBits]
    rw [if_neg (by omega)]
  | succ n ih =>
    intro k c j hj hc
    rw [show k + (n + 1) + 1 = (k + n + 1) + 1 by omega]
    simp only [spec_Check.l1, crcBits]
    have e1 : Int.tmod (c : Int) 2 = ((c % 2 : Nat) : Int) := by rw [Int.tmod_eq_emod_of_nonneg (by omega)]; omega
    have e2 : wrap64 (Int.tdiv (c : Int) 2) = ((c / 2 : Nat) : Int) := by rw [Int.tdiv_eq_ediv_of_nonneg (by omega), w64 (by omega) (by omega)]; omega
    have e3 : Go.bits .xor .i64 ((c / 2 : Nat) : Int) 3988292384 = ((c / 2 ^^^ 3988292384 : Nat) : Int) := i64_xor_nat (c / 2) 3988292384 (by omega) (by omega)
    rw [if_pos (by omega), e1, e2, e3, wi (by omega)]
    have ih' := ih k (crcBit c) (j + 1) (by omega) (crcBit_lt hc)
    by_cases h : c % 2 = 1
    · rw [if_pos (by omega)]
      rw [show crcBit c = c / 2 ^^^ 3988292384 by unfold crcBit; rw [if_pos h]] at ih' ⊢
      exact ih'
    · rw [if_neg (by omega)]
      rw [show crcBit c = c / 2 by unfold crcBit; rw [if_neg h]] at ih' ⊢
      exact ih'
theorem impl_Check_l1 (l : List Int) (x7 x8 : Int) : ∀ (n k c j : Nat), j + n = 8 → c < 4294967296 → impl_Check.l1 (k + n + 1) (c : Int) l x7 x8 (j : Int) = impl_Check.l0 k (crcBits n c : Nat) l x7 (wrap64 (x8 + 1)) := by
  intro n
  induction n with
  | zero =>
    intro k c j hj hc
    simp only [impl_Check.l1, crcBits]
    rw [if_neg (by omega)]
  | succ n ih =>
    intro k c j hj hc
    rw [show k + (n + 1) + 1 = (k + n + 1) + 1 by omega]
    simp only [impl_Check.l1, crcBits]
    have e1 : Go.bits .and .u32 (c : Int) 1 = ((c % 2 : Nat) : Int) := by
      have := u32_and_nat c 1 hc (by omega)
      rw [Nat.and_one_is_mod] at this
      exact this
    have e2 : (c : Int) / 2 = ((c / 2 : Nat) : Int) := by omega
    have e3 : Go.bits .xor .u32 ((c / 2 : Nat) : Int) 3988292384 = ((c / 2 ^^^ 3988292384 : Nat) : Int) := u32_xor_nat (c / 2) 3988292384 (by omega) (by omega)
    rw [if_pos (by omega), e1, e2, e3, wi (by omega)]
    have ih' := ih k (crcBit c) (j + 1) (by omega) (crcBit_lt hc)
    by_cases h : c % 2 = 1
    · rw [if_pos (by omega)]
      rw [show crcBit c = c / 2 ^^^ 3988292384 by unfold crcBit; rw [if_pos h]] at ih' ⊢
      exact ih'
    · rw [if_neg (by omega)]
      rw [show crcBit c = c / 2 by unfold crcBit; rw [if_neg h]] at ih' ⊢
      exact ih'
theorem Check_l0 (l : List Int) (hn : l.length ≤ 1048576) (hl : ∀ i, i < l.length → 0 ≤ rd l (i : Int) ∧ rd l (i : Int) ≤ 255) : ∀ (d k i c : Nat), i + d = l.length → 10 * d < k → c < 4294967296 →
    ∃ r : Nat, r < 4294967296 ∧ spec_Check.l0 k l (c : Int) (i : Int) = some (r : Int) ∧ impl_Check.l0 k (c : Int) l (l.length : Int) (i : Int) = some (r : Int) := by
  intro d
  induction d with
  | zero =>
    intro k i c h hk hc
    obtain ⟨k, rfl⟩ : ∃ m, k = m + 1 := ⟨k - 1, by omega⟩
    refine ⟨4294967295 - c, by omega, ?_, ?_⟩
    · simp only [spec_Check.l0]
      rw [if_neg (by omega), w64 (by omega) (by omega)]
      congr 1
      omega
    · simp only [impl_Check.l0]
      have e := u32_xor_nat 4294967295 c (by omega) hc
      rw [not_nat c hc] at e
      rw [if_neg (by omega), show (4294967295 : Int) = ((4294967295 : Nat) : Int) from rfl, e, w64 (by omega) (by omega)]
  | succ d ih =>
    intro k i c h hk hc
    obtain ⟨k, rfl⟩ : ∃ m, k = m + 8 + 1 + 1 := ⟨k - 10, by omega⟩
    obtain ⟨hb0, hb1⟩ := hl i (by omega)
    obtain ⟨b, hb⟩ : ∃ b : Nat, rd l (i : Int) = (b : Int) := ⟨(rd l (i : Int)).toNat, by omega⟩
    have hx : c ^^^ b < 4294967296 := Nat.xor_lt_two_pow (n := 32) (by omega) (by omega)
    obtain ⟨r, hr, h1, h2⟩ := ih k (i + 1) (crcBits 8 (c ^^^ b)) (by omega) (by omega) (crcBits_lt 8 hx)
    refine ⟨r, hr, ?_, ?_⟩
    · simp only [spec_Check.l0]
      rw [if_pos (by omega), if_pos (by omega), hb, w64 (x := (b : Int)) (by omega) (by omega), i64_xor_nat c b hc (by omega)]
      have e := spec_Check_l1 l (i : Int) 8 k (c ^^^ b) 0 rfl hx
      rw [wi (by omega)] at e
      exact e.trans h1
    · simp only [impl_Check.l0]
      rw [if_pos (by omega), if_pos (by omega), if_pos (by omega), hb, show (b : Int) % 4294967296 = (b : Int) by omega, u32_xor_nat c b hc (by omega)]
      have e := impl_Check_l1 l (l.length : Int) (i : Int) 8 k (c ^^^ b) 0 rfl hx
      rw [wi (by omega)] at e
      exact e.trans h2
theorem Check_both {k : Nat} (l : List Int) (hn : l.length ≤ 1048576) (hl : ∀ i, i < l.length → 0 ≤ rd l (i : Int) ∧ rd l (i : Int) ≤ 255) (hk : 10 * l.length < k) :
    ∃ r : Nat, r < 4294967296 ∧ spec_Check.f k l = some (r : Int) ∧ impl_Check.f k l = some (r : Int) :=
  Check_l0 l hn hl l.length k 0 4294967295 (by omega) hk (by omega)
theorem bytes_range {l : List Int} (h : ∀ x ∈ l, (Lit.int .u8 x).wf = true) : ∀ i, i < l.length → 0 ≤ rd l (i : Int) ∧ rd l (i : Int) ≤ 255 := by
  intro i hi
  have e : rd l (i : Int) = l[i] := by simp [rd, List.getD_eq_getElem?_getD, List.getElem?_eq_getElem hi]
  rw [e]
  exact Go.bounds_u8 (h _ (List.getElem_mem hi))

def crcV (l : List Int) : Int := (spec_Check.f (10 * l.length + 1) l).getD 0
theorem Check_eq {k : Nat} {l : List Int} (hn : l.length ≤ 1048576) (hl : ∀ i, i < l.length → 0 ≤ rd l (i : Int) ∧ rd l (i : Int) ≤ 255) (hk : 10 * l.length < k) :
    spec_Check.f k l = some (crcV l) ∧ impl_Check.f k l = some (crcV l) ∧ 0 ≤ crcV l ∧ crcV l < 4294967296 := by
  obtain ⟨r, hr, h1, _⟩ := Check_both (k := 10 * l.length + 1) l hn hl (by omega)
  obtain ⟨r', hr', h2, h3⟩ := Check_both (k := k) l hn hl hk
  have e := at_rounds (g := fun k => spec_Check.f k l) (fun k => spec_Check.mono l k) (show 10 * l.length + 1 ≤ k by omega) h1
  have e2 : (r' : Int) = (r : Int) := Option.some.inj (h2.symm.trans e)
  have e3 : crcV l = (r : Int) := by rw [crcV, h1]; rfl
  rw [e3]
  exact ⟨e, by rw [h3, e2], by omega, by omega⟩

theorem shr0 (x : Int) : shr .i64 x 0 = x := by simp [shr]
theorem shr8 (x : Int) : shr .i64 x 8 = x / 256 := by simp [shr, IntKind.bits]
theorem shr16 (x : Int) : shr .i64 x 16 = x / 65536 := by simp [shr, IntKind.bits]
theorem shr24 (x : Int) : shr .i64 x 24 = x / 16777216 := by simp [shr, IntKind.bits]
theorem and255 {x : Int} (h0 : 0 ≤ x) (h1 : x ≤ 1099511627776) : Go.bits .and .i64 x 255 = x % 256 := by
  obtain ⟨a, rfl⟩ : ∃ a : Nat, x = (a : Int) := ⟨x.toNat, by omega⟩
  have e1 : (BitVec.ofInt 64 (a : Int)).toNat = a := by
    rw [BitVec.ofInt_natCast, BitVec.toNat_ofNat]; exact Nat.mod_eq_of_lt (by omega)
  have e2 : (BitVec.ofInt 64 (255 : Int)).toNat = 255 := by decide
  have e3 : a &&& 255 = a % 256 := Nat.and_two_pow_sub_one_eq_mod a 8
  show IntKind.i64.wrap ((BitVec.ofInt 64 (a : Int) &&& BitVec.ofInt 64 255).toNat : Int) = _
  rw [BitVec.toNat_and, e1, e2, e3, IntKind.wrap_i64]
  omega
def wide2 (x : Int) : List Int := [x / 256 % 256, x % 256]
def wide3 (x : Int) : List Int := [x / 65536 % 256, x / 256 % 256, x % 256]
def wide4 (x : Int) : List Int := [x / 16777216 % 256, x / 65536 % 256, x / 256 % 256, x % 256]

theorem spec_l02Wide_step {k : Nat} {x i : Int} {acc : List Int} (h0 : 0 ≤ i) (h1 : i ≤ 3) (hx : 0 ≤ x) (hx2 : x ≤ 1099511627776) (ha : acc.length ≤ 10) {y : Int} (hy : shr .i64 x (8 * i) = y) (hy0 : 0 ≤ y) (hy1 : y ≤ 1099511627776) :
    spec_l02Wide.l0 (k + 1) x acc i = spec_l02Wide.l0 k x (acc ++ [y % 256]) (i - 1) := by
  have e1 : IntKind.u64.wrap (wrap64 (8 * i)) = 8 * i := by
    rw [w64 (by omega) (by omega), IntKind.wrap_u64]; omega
  simp only [spec_l02Wide.l0]
  rw [if_pos (by omega), e1, if_pos (by omega), if_pos (by omega), w64 (x := i - 1) (by omega) (by omega), hy, and255 hy0 hy1]
  congr 3
  omega
theorem spec_l02Wide_end {k : Nat} {x : Int} {acc : List Int} : spec_l02Wide.l0 (k + 1) x acc (-1) = some acc := by
  simp only [spec_l02Wide.l0]
  rw [if_neg (by omega)]
theorem spec_l02Wide2 {k : Nat} (hk : 6 ≤ k) {x : Int} (hx : 0 ≤ x) (hx2 : x ≤ 1099511627776) : spec_l02Wide.f k x 2 = some (wide2 x) := by
  obtain ⟨k, rfl⟩ : ∃ m, k = m + 1 + 1 + 1 := ⟨k - 3, by omega⟩
  unfold spec_l02Wide.f
  rw [w64 (by omega) (by omega), spec_l02Wide_step (y := x / 256) (by omega) (by omega) hx hx2 (by simp) (shr8 x) (by omega) (by omega),
    spec_l02Wide_step (y := x) (by omega) (by omega) hx hx2 (by simp) (shr0 x) (by omega) (by omega)]
  exact spec_l02Wide_end
theorem spec_l02Wide3 {k : Nat} (hk : 6 ≤ k) {x : Int} (hx : 0 ≤ x) (hx2 : x ≤ 1099511627776) : spec_l02Wide.f k x 3 = some (wide3 x) := by
  obtain ⟨k, rfl⟩ : ∃ m, k = m + 1 + 1 + 1 + 1 := ⟨k - 4, by omega⟩
  unfold spec_l02Wide.f
  rw [w64 (by omega) (by omega), spec_l02Wide_step (y := x / 65536) (by omega) (by omega) hx hx2 (by simp) (shr16 x) (by omega) (by omega),
    spec_l02Wide_step (y := x / 256) (by omega) (by omega) hx hx2 (by simp) (shr8 x) (by omega) (by omega),
    spec_l02Wide_step (y := x) (by omega) (by omega) hx hx2 (by simp) (shr0 x) (by omega) (by omega)]
  exact spec_l02Wide_end
theorem spec_l02Wide4 {k : Nat} (hk : 6 ≤ k) {x : Int} (hx : 0 ≤ x) (hx2 : x ≤ 1099511627776) : spec_l02Wide.f k x 4 = some (wide4 x) := by
  obtain ⟨k, rfl⟩ : ∃ m, k = m + 1 + 1 + 1 + 1 + 1 := ⟨k - 5, by omega⟩
  unfold spec_l02Wide.f
  rw [w64 (by omega) (by omega), spec_l02Wide_step (y := x / 16777216) (by omega) (by omega) hx hx2 (by simp) (shr24 x) (by omega) (by omega),
    spec_l02Wide_step (y := x / 65536) (by omega) (by omega) hx hx2 (by simp) (shr16 x) (by omega) (by omega),
    spec_l02Wide_step (y := x / 256) (by omega) (by omega) hx hx2 (by simp) (shr8 x) (by omega) (by omega),
    spec_l02Wide_step (y := x) (by omega) (by omega) hx hx2 (by simp) (shr0 x) (by omega) (by omega)]
  exact spec_l02Wide_end

theorem impl_putNumber_step {k : Nat} {x i : Int} {acc : List Int} (h0 : 0 ≤ i) (h1 : i ≤ 3) (ha : acc.length ≤ 1048590) {y : Int} (hy : shr .i64 x (8 * i) = y) :
    impl_putNumber.l0 (k + 1) acc x i = impl_putNumber.l0 k (acc ++ [y % 256]) x (i - 1) := by
  simp only [impl_putNumber.l0]
  rw [if_pos (by omega), w64 (x := 8 * i) (by omega) (by omega), if_pos (by omega), if_pos (by omega), w64 (x := i - 1) (by omega) (by omega), hy]
theorem impl_putNumber_end {k : Nat} {x : Int} {acc : List Int} : impl_putNumber.l0 (k + 1) acc x (-1) = some acc := by
  simp only [impl_putNumber.l0]
  rw [if_neg (by omega)]
theorem impl_putNumber2 {k : Nat} (hk : 6 ≤ k) {x : Int} {acc : List Int} (ha : acc.length ≤ 1048576) : impl_putNumber.f k acc x 2 = some (acc ++ wide2 x) := by
  obtain ⟨k, rfl⟩ : ∃ m, k = m + 1 + 1 + 1 := ⟨k - 3, by omega⟩
  unfold impl_putNumber.f
  rw [w64 (by omega) (by omega), impl_putNumber_step (y := x / 256) (by omega) (by omega) (by omega) (shr8 x),
    impl_putNumber_step (y := x) (by omega) (by omega) (by simp; omega) (shr0 x), show (2 - 1 - 1 - 1 : Int) = -1 by omega, impl_putNumber_end]
  simp [wide2]
theorem impl_putNumber3 {k : Nat} (hk : 6 ≤ k) {x : Int} {acc : List Int} (ha : acc.length ≤ 1048576) : impl_putNumber.f k acc x 3 = some (acc ++ wide3 x) := by
  obtain ⟨k, rfl⟩ : ∃ m, k = m + 1 + 1 + 1 + 1 := ⟨k - 4, by omega⟩
  unfold impl_putNumber.f
  rw [w64 (by omega) (by omega), impl_putNumber_step (y := x / 65536) (by omega) (by omega) (by omega) (shr16 x), impl_putNumber_step (y := x / 256) (by omega) (by omega) (by simp; omega) (shr8 x),
    impl_putNumber_step (y := x) (by omega) (by omega) (by simp; omega) (shr0 x), show (3 - 1 - 1 - 1 - 1 : Int) = -1 by omega, impl_putNumber_end]
  simp [wide3]
theorem impl_putNumber4 {k : Nat} (hk : 6 ≤ k) {x : Int} {acc : List Int} (ha : acc.length ≤ 1048576) : impl_putNumber.f k acc x 4 = some (acc ++ wide4 x) := by
  obtain ⟨k, rfl⟩ : ∃ m, k = m + 1 + 1 + 1 + 1 + 1 := ⟨k - 5, by omega⟩
  unfold impl_putNumber.f
  rw [w64 (by omega) (by omega), impl_putNumber_step (y := x / 16777216) (by omega) (by omega) (by omega) (shr24 x), impl_putNumber_step (y := x / 65536) (by omega) (by omega) (by simp; omega) (shr16 x), impl_putNumber_step (y := x / 256) (by omega) (by omega) (by simp; omega) (shr8 x),
    impl_putNumber_step (y := x) (by omega) (by omega) (by simp; omega) (shr0 x), show (4 - 1 - 1 - 1 - 1 - 1 : Int) = -1 by omega, impl_putNumber_end]
  simp [wide4]

theorem rd_at {x : List Int} {i : Nat} (h : i < x.length) : x[i]? = some (rd x (i : Int)) := by
  simp [rd, List.getD_eq_getElem?_getD, List.getElem?_eq_getElem h]

theorem spec_l01Bytes_l0 (x0 : List Int) (hn : x0.length ≤ 1048576) : ∀ (d k i : Nat), i + d = x0.length → d < k → spec_l01Bytes.l0 k x0 (x0.take i) (i : Int) = some x0 := by
  intro d
  induction d with
  | zero =>
    intro k i h hk
    obtain ⟨k, rfl⟩ : ∃ m, k = m + 1 := ⟨k - 1, by omega⟩
    simp only [spec_l01Bytes.l0]
    rw [if_neg (by omega), List.take_of_length_le (by omega)]
  | succ d ih =>
    intro k i h hk
    obtain ⟨k, rfl⟩ : ∃ m, k = m + 1 := ⟨k - 1, by omega⟩
    simp only [spec_l01Bytes.l0]
    have e : x0.take i ++ [rd x0 (i : Int)] = x0.take (i + 1) := by
      have h2 := rd_at (x := x0) (i := i) (by omega)
      rw [List.getElem?_eq_getElem (by omega)] at h2
      rw [List.take_succ_eq_append_getElem (by omega), Option.some.inj h2]
    rw [if_pos (by omega), if_pos (by omega), if_pos (by rw [List.length_take]; omega), wi (by omega), e]
    exact ih k (i + 1) (by omega) (by omega)
theorem spec_l01Bytes_eq {k : Nat} {l : List Int} (hn : l.length ≤ 1048576) (hk : l.length < k) : spec_l01Bytes.f k l = some l := by
  have h := spec_l01Bytes_l0 l hn l.length k 0 (by omega) hk
  simpa [spec_l01Bytes.f] using h
theorem spec_l01Join_l0 (l m : List Int) (hl : l.length ≤ 1048576) (hm : m.length ≤ 1048576) : ∀ (d k i : Nat), i + d = m.length → d < k → spec_l01Join.l0 k m (l ++ m.take i) (i : Int) = some (l ++ m) := by
  intro d
  induction d with
  | zero =>
    intro k i h hk
    obtain ⟨k, rfl⟩ : ∃ m, k = m + 1 := ⟨k - 1, by omega⟩
    simp only [spec_l01Join.l0]
    rw [if_neg (by omega), List.take_of_length_le (by omega)]
  | succ d ih =>
    intro k i h hk
    obtain ⟨k, rfl⟩ : ∃ m, k = m + 1 := ⟨k - 1, by omega⟩
    simp only [spec_l01Join.l0]
    have e : l ++ m.take i ++ [rd m (i : Int)] = l ++ m.take (i + 1) := by
      have h2 := rd_at (x := m) (i := i) (by omega)
      rw [List.getElem?_eq_getElem (by omega)] at h2
      rw [List.take_succ_eq_append_getElem (by omega), Option.some.inj h2, List.append_assoc]
    rw [if_pos (by omega), if_pos (by omega), if_pos (by rw [List.length_append, List.length_take]; omega), wi (by omega), e]
    exact ih k (i + 1) (by omega) (by omega)
theorem spec_l01Join_eq {k : Nat} {l m : List Int} (hl : l.length ≤ 1048576) (hm : m.length ≤ 1048576) (hk : l.length + m.length < k) : spec_l01Join.f k l m = some (l ++ m) := by
  have h := spec_l01Join_l0 l m hl hm m.length k 0 (by omega) (by omega)
  simp only [spec_l01Join.f, spec_l01Bytes_eq hl (show l.length < k by omega), Option.bind_some]
  simpa using h

def bodyV (a b c d : Int) : List Int :=
  if a = 1 then [a % 256] ++ wide2 b ++ wide3 c ++ wide3 (d + 1000000) else if a = 2 then [a % 256] ++ wide3 c else [a % 256]
theorem bodyV_length (a b c d : Int) : (bodyV a b c d).length = if a = 1 then 9 else if a = 2 then 4 else 1 := by
  unfold bodyV
  (repeat' split) <;> simp [wide2, wide3]
theorem bodyV_bytes (a b c d : Int) : ∀ x ∈ bodyV a b c d, 0 ≤ x ∧ x ≤ 255 := by
  intro x hx
  unfold bodyV at hx
  split at hx
  · simp [wide2, wide3] at hx
    omega
  · split at hx
    · simp [wide3] at hx
      omega
    · simp at hx
      omega
theorem rd_of_mem {l : List Int} (h : ∀ x ∈ l, 0 ≤ x ∧ x ≤ 255) : ∀ i, i < l.length → 0 ≤ rd l (i : Int) ∧ rd l (i : Int) ≤ 255 := by
  intro i hi
  have e : rd l (i : Int) = l[i] := by simp [rd, List.getD_eq_getElem?_getD, List.getElem?_eq_getElem hi]
  rw [e]
  exact h _ (List.getElem_mem hi)
def putV (a b c d : Int) : List Int :=
  if frameOkB a b c d = true then [((bodyV a b c d).length : Int) % 256] ++ bodyV a b c d ++ wide4 (crcV (bodyV a b c d)) else []
theorem putV_length (a b c d : Int) : (putV a b c d).length ≤ 14 := by
  unfold putV
  split
  · have := bodyV_length a b c d
    simp [wide4]
    (repeat' split at this) <;> omega
  · simp
theorem spec_PutFrame_eq {k : Nat} (hk : 200 ≤ k) (a b c d : Int) : spec_PutFrame.f k a b c d = some (putV a b c d) := by
  obtain ⟨k, rfl⟩ : ∃ m, k = m + 1 + 1 + 1 := ⟨k - 3, by omega⟩
  simp only [spec_PutFrame.f, spec_FrameOk_eq, Option.bind_some, putV]
  by_cases h0 : frameOkB a b c d = true
  · rw [if_pos h0, if_pos h0]
    have hb := bodyV_length a b c d
    obtain ⟨c1, _, c3, c4⟩ := Check_eq (k := k) (l := bodyV a b c d) (by (repeat' split at hb) <;> omega) (rd_of_mem (bodyV_bytes a b c d)) (by (repeat' split at hb) <;> omega)
    have last : spec_PutFrame.j2 (k + 1) (bodyV a b c d) = some ([((bodyV a b c d).length : Int) % 256] ++ bodyV a b c d ++ wide4 (crcV (bodyV a b c d))) := by
      have hl : (bodyV a b c d).length ≤ 9 := by (repeat' split at hb) <;> omega
      simp only [spec_PutFrame.j2]
      rw [spec_l01Join_eq (by simp) (by omega) (by simp; omega), Option.bind_some, c1, Option.bind_some, spec_l02Wide4 (by omega) c3 (by omega), Option.bind_some, spec_l01Join_eq (by simp; omega) (by simp [wide4]) (by simp [wide4]; omega)]
      rfl
    rcases frameOkB_kind h0 with ⟨rfl, h1, h2, h3⟩ | ⟨rfl, rfl, h2, rfl⟩ | ⟨rfl, rfl, rfl, rfl⟩
    · rw [if_pos rfl, spec_l02Wide2 (by omega) (by omega) (by omega), Option.bind_some, spec_l01Join_eq (by simp) (by simp [wide2]) (by simp [wide2]; omega), Option.bind_some]
      simp only [spec_PutFrame.j0]
      rw [if_neg (by omega), spec_l02Wide3 (by omega) (by omega) (by omega), Option.bind_some, spec_l01Join_eq (by simp [wide2]) (by simp [wide3]) (by simp [wide2, wide3]; omega), Option.bind_some]
      simp only [spec_PutFrame.j1]
      rw [if_true, w64 (x := d + 1000000) (by omega) (by omega), spec_l02Wide3 (by omega) (by omega) (by omega), Option.bind_some, spec_l01Join_eq (by simp [wide2, wide3]) (by simp [wide3]) (by simp [wide2, wide3]; omega), Option.bind_some]
      exact last
    · rw [if_neg (by omega)]
      simp only [spec_PutFrame.j0]
      rw [if_neg (by omega), spec_l02Wide3 (by omega) (by omega) (by omega), Option.bind_some, spec_l01Join_eq (by simp) (by simp [wide3]) (by simp [wide3]; omega), Option.bind_some]
      simp only [spec_PutFrame.j1]
      rw [if_neg (by omega)]
      exact last
    · rw [if_neg (by omega)]
      simp only [spec_PutFrame.j0]
      rw [if_true]
      simp only [spec_PutFrame.j1]
      rw [if_neg (by omega)]
      exact last
  · rw [if_neg h0, if_neg h0]
theorem impl_PutFrame_eq {k : Nat} (hk : 200 ≤ k) (a b c d : Int) : impl_PutFrame.f k a b c d = some (putV a b c d) := by
  simp only [impl_PutFrame.f, impl_FrameOk_eq, spec_FrameOk_eq, Option.bind_some, putV]
  by_cases h0 : frameOkB a b c d = true
  · rw [if_pos h0, if_pos h0]
    have hb := bodyV_length a b c d
    have hl : (bodyV a b c d).length ≤ 9 := by (repeat' split at hb) <;> omega
    obtain ⟨_, c2, c3, c4⟩ := Check_eq (k := k) (l := bodyV a b c d) (by omega) (rd_of_mem (bodyV_bytes a b c d)) (by omega)
    have body : impl_bodyOf.f k a b c d = some (bodyV a b c d) := by
      simp only [impl_bodyOf.f, Option.bind_some]
      rcases frameOkB_kind h0 with ⟨rfl, h1, h2, h3⟩ | ⟨rfl, rfl, h2, rfl⟩ | ⟨rfl, rfl, rfl, rfl⟩
      · rw [if_pos rfl, impl_putNumber2 (by omega) (by simp), Option.bind_some, impl_putNumber3 (by omega) (by simp [wide2]), Option.bind_some, w64 (x := d + 1000000) (by omega) (by omega), impl_putNumber3 (by omega) (by simp [wide2, wide3])]
        rfl
      · rw [if_neg (by omega), if_pos rfl, impl_putNumber3 (by omega) (by simp)]
        rfl
      · rw [if_neg (by omega), if_neg (by omega)]
        rfl
    simp only [body, Option.bind_some]
    rw [if_pos (by simp; omega), c2, Option.bind_some, impl_putNumber4 (by omega) (by simp; omega)]
    rfl
  · rw [if_neg h0, if_neg h0]

theorem eqByteS_l0 (x : List Int) (hn : x.length ≤ 1048576) : ∀ (d k i : Nat), i + d = x.length → d < k → laws_eqByteS.l0 k x x (i : Int) = some true := by
  intro d
  induction d with
  | zero =>
    intro k i h hk
    obtain ⟨k, rfl⟩ : ∃ m, k = m + 1 := ⟨k - 1, by omega⟩
    simp only [laws_eqByteS.l0]
    rw [if_neg (by omega)]
  | succ d ih =>
    intro k i h hk
    obtain ⟨k, rfl⟩ : ∃ m, k = m + 1 := ⟨k - 1, by omega⟩
    simp only [laws_eqByteS.l0]
    rw [if_pos (by omega), if_pos (by omega), if_pos (by omega), wi (by omega)]
    exact ih k (i + 1) (by omega) (by omega)
theorem eqByteS_refl {k : Nat} {x : List Int} (hn : x.length ≤ 1048576) (hk : x.length < k) : laws_eqByteS.f k x x = some true := by
  unfold laws_eqByteS.f
  rw [if_pos rfl]
  exact eqByteS_l0 x hn x.length k 0 (by omega) hk

def markB (c : Int) (n : Nat) : List Int := (List.range n).map fun (j : Nat) => (c + (j : Int)) % 256
theorem markB_length (c : Int) (n : Nat) : (markB c n).length = n := by simp [markB]
theorem markB_get {c : Int} {n j : Nat} (h : j < n) : (markB c n)[j]? = some ((c + (j : Int)) % 256) := by
  simp [markB, List.getElem?_range, h]
theorem wcb {c : Int} {i : Nat} (h0 : 0 ≤ c) (h1 : c ≤ 1073741824) (h2 : i ≤ 1073741824) : wrap64 (c + (i : Int) + 1) = c + ((i + 1 : Nat) : Int) := by
  unfold wrap64; omega

theorem markByteS_l0 (n : Nat) (hn : n ≤ 1048576) (c : Int) (h0 : 0 ≤ c) (h1 : c ≤ 1073741824) : ∀ (d k i : Nat) (x : List Int), x.length = n → i + d = n → d < k → (∀ j, j < i → x[j]? = some ((c + (j : Int)) % 256)) →
    laws_markByteS.l0 k x (c + (i : Int)) (i : Int) = some (c + (n : Int), markB c n) := by
  intro d
  induction d with
  | zero =>
    intro k i x hx h hk hp
    obtain ⟨k, rfl⟩ : ∃ m, k = m + 1 := ⟨k - 1, by omega⟩
    simp only [laws_markByteS.l0]
    rw [if_neg (by omega)]
    obtain rfl : i = n := by omega
    congr 2
    apply List.ext_getElem?
    intro j
    by_cases hj : j < i
    · rw [hp j hj, markB_get hj]
    · rw [List.getElem?_eq_none (by omega), List.getElem?_eq_none (by rw [markB_length]; omega)]
  | succ d ih =>
    intro k i x hx h hk hp
    obtain ⟨k, rfl⟩ : ∃ m, k = m + 1 := ⟨k - 1, by omega⟩
    simp only [laws_markByteS.l0]
    rw [if_pos (by omega), if_pos (by omega), wi (by omega), wcb h0 h1 (by omega)]
    refine ih k (i + 1) _ (by simp [hx]) (by omega) (by omega) ?_
    intro j hj
    rw [Int.toNat_natCast, List.getElem?_set]
    by_cases e : i = j
    · subst e
      rw [if_pos rfl, if_pos (by omega)]
    · rw [if_neg e]
      exact hp j (by omega)
theorem markByteS_eq {k : Nat} {x : List Int} {c : Int} (hn : x.length ≤ 1048576) (h0 : 0 ≤ c) (h1 : c ≤ 1073741824) (hk : x.length < k) :
    laws_markByteS.f k x c = some (c + (x.length : Int), markB c x.length) := by
  unfold laws_markByteS.f
  have h := markByteS_l0 x.length hn c h0 h1 x.length k 0 x rfl (by omega) hk (by omega)
  simpa using h

theorem heldByteS_l0 (n : Nat) (hn : n ≤ 1048576) (c : Int) (h0 : 0 ≤ c) (h1 : c ≤ 1073741824) : ∀ (d k i : Nat), i + d = n → d < k →
    laws_heldByteS.l0 k (markB c n) (c + (i : Int)) (i : Int) = some (c + (n : Int)) := by
  intro d
  induction d with
  | zero =>
    intro k i h hk
    obtain ⟨k, rfl⟩ : ∃ m, k = m + 1 := ⟨k - 1, by omega⟩
    simp only [laws_heldByteS.l0]
    rw [if_neg (by rw [markB_length]; omega)]
    obtain rfl : i = n := by omega
    rfl
  | succ d ih =>
    intro k i h hk
    obtain ⟨k, rfl⟩ : ∃ m, k = m + 1 := ⟨k - 1, by omega⟩
    have e : rd (markB c n) (i : Int) = (c + (i : Int)) % 256 := by
      have h2 := rd_at (x := markB c n) (i := i) (by rw [markB_length]; omega)
      rw [markB_get (by omega)] at h2
      exact (Option.some.inj h2).symm
    simp only [laws_heldByteS.l0]
    rw [if_pos (by rw [markB_length]; omega), if_pos (by omega), if_pos e, wi (by omega), wcb h0 h1 (by omega)]
    exact ih k (i + 1) (by omega) (by omega)
theorem heldByteS_eq {k n : Nat} {c : Int} (hn : n ≤ 1048576) (h0 : 0 ≤ c) (h1 : c ≤ 1073741824) (hk : n < k) :
    laws_heldByteS.f k (markB c n) c = some (c + (n : Int)) := by
  unfold laws_heldByteS.f
  have h := heldByteS_l0 n hn c h0 h1 n k 0 (by omega) hk
  simpa using h

theorem FnExactPutFrame : ∀ (a0_0 : Int) (a0_1 : Int) (a0_2 : Int) (a0_3 : Int), (Lit.int .i64 a0_0).wf = true → (Lit.int .i64 a0_1).wf = true → (Lit.int .i64 a0_2).wf = true → (Lit.int .i64 a0_3).wf = true → ∃ k, laws_FnExactPutFrame.f k a0_0 a0_1 a0_2 a0_3 = some true := by
  intro a b c d _ _ _ _
  refine ⟨300, ?_⟩
  have hv := putV_length a b c d
  have e1 := spec_PutFrame_eq (k := 300) (by omega) a b c d
  have e2 := impl_PutFrame_eq (k := 300) (by omega) a b c d
  generalize putV a b c d = l at hv e1 e2
  simp only [laws_FnExactPutFrame.f, laws_toFrame.f, Option.bind_some]
  (first | rw [e1, Option.bind_some] | rw [Option.bind_some]); (try dsimp only)
  (first | rw [e2, Option.bind_some] | rw [Option.bind_some]); (try dsimp only)
  (first | rw [eqByteS_refl (by omega) (by omega), Option.bind_some] | rw [Option.bind_some]); (try dsimp only)
  (first | rw [if_pos rfl] | rw [if_pos trivial]); (try dsimp only)
  (first | rw [markByteS_eq (by omega) (by omega) (by omega) (by omega), Option.bind_some] | rw [Option.bind_some]); (try dsimp only)
  (first | rw [heldByteS_eq (by omega) (by omega) (by omega) (by omega), Option.bind_some] | rw [Option.bind_some]); (try dsimp only)
  rw [if_neg (by omega)]
  (first | rw [if_pos rfl] | rw [if_pos trivial]); (try dsimp only)
  (first | rw [e2, Option.bind_some] | rw [Option.bind_some]); (try dsimp only)
  (first | rw [eqByteS_refl (by omega) (by omega), Option.bind_some] | rw [Option.bind_some]); (try dsimp only)
  (first | rw [if_pos rfl] | rw [if_pos trivial]); (try dsimp only)
  (first | rw [heldByteS_eq (by omega) (by omega) (by omega) (by omega), Option.bind_some] | rw [Option.bind_some]); (try dsimp only)
  rw [if_neg (by omega)]
  (first | rw [if_pos rfl] | rw [if_pos trivial]); (try dsimp only)

end Go.Proofs.Ytoeiadanmfajoaa.Pure
