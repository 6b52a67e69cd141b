/-
  The law FnFrames answers true: for drawn frames, reading what was put gives the frame; cut shorter it is asked for more; a turned byte is not read as it was. No condition.
-/
import Derived.Test.YtcflalomjehiiaaQFnFramesx8
import Derived.Laws.BitsAllLaws
import Derived.OpenShut
namespace Go.Proofs.Ytcflalomjehiiaa.Pure
open Go.RowKit Go.Proofs.Ytcflalomjehiiaa.QFnFrames Go.Proofs.YtcflalomjehiiaaW.PrintWords Go.Proofs.YtcflalomjehiiaaW.PrintLast Go.Proofs.YtcflalomjehiiaaW.PrintMore
set_option linter.unusedSimpArgs false
set_option linter.unusedVariables false

theorem w64 {x : Int} (h1 : -9223372036854775808 ≤ x) (h2 : x ≤ 9223372036854775807) : wrap64 x = x := by
  unfold wrap64; omega

theorem wi {i : Nat} (h : i < 4611686018427387904) : wrap64 ((i : Int) + 1) = ((i + 1 : Nat) : Int) := by
  unfold wrap64; omega

theorem i64_xor_nat (a b : Nat) (ha : a < 4294967296) (hb : b < 4294967296) : Go.bits .xor .i64 (a : Int) (b : Int) = ((a ^^^ b : Nat) : Int) := by
  have hx : a ^^^ b < 2 ^ 32 := Nat.xor_lt_two_pow (by omega) (by omega)
  have h1 : (BitVec.ofInt 64 (a : Int)).toNat = a := by
    rw [BitVec.ofInt_natCast, BitVec.toNat_ofNat]; exact Nat.mod_eq_of_lt (by omega)
  have h2 : (BitVec.ofInt 64 (b : Int)).toNat = b := by
    rw [BitVec.ofInt_natCast, BitVec.toNat_ofNat]; exact Nat.mod_eq_of_lt (by omega)
  show IntKind.i64.wrap ((BitVec.ofInt 64 (a : Int) ^^^ BitVec.ofInt 64 (b : Int)).toNat : Int) = _
  rw [BitVec.toNat_xor, h1, h2, IntKind.wrap_i64]
  omega
theorem not_nat (c : Nat) (hc : c < 4294967296) : 4294967295 ^^^ c = 4294967295 - c := by
  apply Nat.eq_of_testBit_eq
  intro i
  have e : (4294967295 - c : Nat) = 2 ^ 32 - (c + 1) := by omega
  rw [Nat.testBit_xor, e, Nat.testBit_two_pow_sub_succ (by omega), show (4294967295 : Nat) = 2 ^ 32 - 1 from rfl, Nat.testBit_two_pow_sub_one]
  by_cases h : i < 32
  · simp [h]
  · have h2 : c.testBit i = false := Nat.testBit_lt_two_pow (Nat.lt_of_lt_of_le (show c < 2 ^ 32 by omega) (Nat.pow_le_pow_right (by omega) (by omega)))
    simp [h, h2]
def crcBit (c : Nat) : Nat := if c % 2 = 1 then (c / 2) ^^^ 3988292384 else c / 2
def crcBits : Nat → Nat → Nat
  | 0, c => c
  | n + 1, c => crcBits n (crcBit c)
theorem crcBit_lt {c : Nat} (h : c < 4294967296) : crcBit c < 4294967296 := by
  unfold crcBit
  split
  · exact Nat.xor_lt_two_pow (n := 32) (by omega) (by omega)
  · omega
theorem crcBits_lt (n : Nat) : ∀ {c : Nat}, c < 4294967296 → crcBits n c < 4294967296 := by
  induction n with
  | zero => intro c h; exact h
  | succ n ih => intro c h; exact ih (crcBit_lt h)
theorem spec_Check_l1 (l : List Int) (x4 : Int) : ∀ (n k c j : Nat), j + n = 8 → c < 4294967296 → spec_Check.l1 (k + n + 1) l (c : Int) x4 (j : Int) = spec_Check.l0 k l (crcBits n c : Nat) (wrap64 (x4 + 1)) := by
  intro n
  induction n with
  | zero =>
    intro k c j hj hc
    simp only [spec_Check.l1, crcBits]
    rw [if_neg (by omega)]
  | succ n ih =>
    intro k c j hj hc
    rw [show k + (n + 1) + 1 = (k + n + 1) + 1 by omega]
    simp only [spec_Check.l1, crcBits]
    have e1 : Int.tmod (c : Int) 2 = ((c % 2 : Nat) : Int) := by rw [Int.tmod_eq_emod_of_nonneg (by omega)]; omega
    have e2 : wrap64 (Int.tdiv (c : Int) 2) = ((c / 2 : Nat) : Int) := by rw [Int.tdiv_eq_ediv_of_nonneg (by omega), w64 (by omega) (by omega)]; omega
    have e3 : Go.bits .xor .i64 ((c / 2 : Nat) : Int) 3988292384 = ((c / 2 ^^^ 3988292384 : Nat) : Int) := i64_xor_nat (c / 2) 3988292384 (by omega) (by omega)
    rw [if_pos (by omega), e1, e2, e3, wi (by omega)]
    have ih' := ih k (crcBit c) (j + 1) (by omega) (crcBit_lt hc)
    by_cases h : c % 2 = 1
    · rw [if_pos (by omega)]
      rw [show crcBit c = c / 2 ^^^ 3988292384 by unfold crcBit; rw [if_pos h]] at ih' ⊢
      exact ih'
    · rw [if_neg (by omega)]
      rw [show crcBit c = c / 2 by unfold crcBit; rw [if_neg h]] at ih' ⊢
      exact ih'
theorem impl_Check_l1 (l : List Int) (x7 x8 : Int) : ∀ (n k c j : Nat), j + n = 8 → c < 4294967296 → impl_Check.l1 (k + n + 1) (c : Int) l x7 x8 (j : Int) = impl_Check.l0 k (crcBits n c : Nat) l x7 (wrap64 (x8 + 1)) := by
  intro n
  induction n with
  | zero =>
    intro k c j hj hc
    simp only [impl_Check.l1, crcBits]
    rw [if_neg (by omega)]
  | succ n ih =>
    intro k c j hj hc
    rw [show k + (n + 1) + 1 = (k + n + 1) + 1 by omega]
    simp only [impl_Check.l1, crcBits]
    have e1 : Go.bits .and .u32 (c : Int) 1 = ((c % 2 : Nat) : Int) := by
      have := u32_and_nat c 1 hc (by omega)
      rw [Nat.and_one_is_mod] at this
      exact this
    have e2 : (c : Int) / 2 = ((c / 2 : Nat) : Int) := by omega
    have e3 : Go.bits .xor .u32 ((c / 2 : Nat) : Int) 3988292384 = ((c / 2 ^^^ 3988292384 : Nat) : Int) := u32_xor_nat (c / 2) 3988292384 (by omega) (by omega)
    rw [if_pos (by omega), e1, e2, e3, wi (by omega)]
    have ih' := ih k (crcBit c) (j + 1) (by omega) (crcBit_lt hc)
    by_cases h : c % 2 = 1
    · rw [if_pos (by omega)]
      rw [show crcBit c = c / 2 ^^^ 3988292384 by unfold crcBit; rw [if_pos h]] at ih' ⊢
      exact ih'
    · rw [if_neg (by omega)]
      rw [show crcBit c = c / 2 by unfold crcBit; rw [if_neg h]] at ih' ⊢
      exact ih'
theorem Check_l0 (l : List Int) (hn : l.length ≤ 1048576) (hl : ∀ i, i < l.length → 0 ≤ rd l (i : Int) ∧ rd l (i : Int) ≤ 255) : ∀ (d k i c : Nat), i + d = l.length → 10 * d < k → c < 4294967296 →
    ∃ r : Nat, r < 4294967296 ∧ spec_Check.l0 k l (c : Int) (i : Int) = some (r : Int) ∧ impl_Check.l0 k (c : Int) l (l.length : Int) (i : Int) = some (r : Int) := by
  intro d
  induction d with
  | zero =>
    intro k i c h hk hc
    obtain ⟨k, rfl⟩ : ∃ m, k = m + 1 := ⟨k - 1, by omega⟩
    refine ⟨4294967295 - c, by omega, ?_, ?_⟩
    · simp only [spec_Check.l0]
      rw [if_neg (by omega), w64 (by omega) (by omega)]
      congr 1
      omega
    · simp only [impl_Check.l0]
      have e := u32_xor_nat 4294967295 c (by omega) hc
      rw [not_nat c hc] at e
      rw [if_neg (by omega), show (4294967295 : Int) = ((4294967295 : Nat) : Int) from rfl, e, w64 (by omega) (by omega)]
  | succ d ih =>
    intro k i c h hk hc
    obtain ⟨k, rfl⟩ : ∃ m, k = m + 8 + 1 + 1 := ⟨k - 10, by omega⟩
    obtain ⟨hb0, hb1⟩ := hl i (by omega)
    obtain ⟨b, hb⟩ : ∃ b : Nat, rd l (i : Int) = (b : Int) := ⟨(rd l (i : Int)).toNat, by omega⟩
    have hx : c ^^^ b < 4294967296 := Nat.xor_lt_two_pow (n := 32) (by omega) (by omega)
    obtain ⟨r, hr, h1, h2⟩ := ih k (i + 1) (crcBits 8 (c ^^^ b)) (by omega) (by omega) (crcBits_lt 8 hx)
    refine ⟨r, hr, ?_, ?_⟩
    · simp only [spec_Check.l0]
      rw [if_pos (by omega), if_pos (by omega), hb, w64 (x := (b : Int)) (by omega) (by omega), i64_xor_nat c b hc (by omega)]
      have e := spec_Check_l1 l (i : Int) 8 k (c ^^^ b) 0 rfl hx
      rw [wi (by omega)] at e
      exact e.trans h1
    · simp only [impl_Check.l0]
      rw [if_pos (by omega), if_pos (by omega), if_pos (by omega), hb, show (b : Int) % 4294967296 = (b : Int) by omega, u32_xor_nat c b hc (by omega)]
      have e := impl_Check_l1 l (l.length : Int) (i : Int) 8 k (c ^^^ b) 0 rfl hx
      rw [wi (by omega)] at e
      exact e.trans h2
theorem Check_both {k : Nat} (l : List Int) (hn : l.length ≤ 1048576) (hl : ∀ i, i < l.length → 0 ≤ rd l (i : Int) ∧ rd l (i : Int) ≤ 255) (hk : 10 * l.length < k) :
    ∃ r : Nat, r < 4294967296 ∧ spec_Check.f k l = some (r : Int) ∧ impl_Check.f k l = some (r : Int) :=
  Check_l0 l hn hl l.length k 0 4294967295 (by omega) hk (by omega)
theorem bytes_range {l : List Int} (h : ∀ x ∈ l, (Lit.int .u8 x).wf = true) : ∀ i, i < l.length → 0 ≤ rd l (i : Int) ∧ rd l (i : Int) ≤ 255 := by
  intro i hi
  have e : rd l (i : Int) = l[i] := by simp [rd, List.getD_eq_getElem?_getD, List.getElem?_eq_getElem hi]
  rw [e]
  exact Go.bounds_u8 (h _ (List.getElem_mem hi))

theorem or256 {a b : Int} (h0 : 0 ≤ a) (h1 : a ≤ 4294967295) (h2 : 0 ≤ b) (h3 : b ≤ 255) : Go.bits .or .i64 (a * 256) b = a * 256 + b := by
  obtain ⟨x, rfl⟩ : ∃ x : Nat, a = (x : Int) := ⟨a.toNat, by omega⟩
  obtain ⟨y, rfl⟩ : ∃ y : Nat, b = (y : Int) := ⟨b.toNat, by omega⟩
  have e1 : (BitVec.ofInt 64 ((x : Int) * 256)).toNat = x * 256 := by
    rw [show (x : Int) * 256 = ((x * 256 : Nat) : Int) by omega, BitVec.ofInt_natCast, BitVec.toNat_ofNat]; exact Nat.mod_eq_of_lt (by omega)
  have e2 : (BitVec.ofInt 64 (y : Int)).toNat = y := by
    rw [BitVec.ofInt_natCast, BitVec.toNat_ofNat]; exact Nat.mod_eq_of_lt (by omega)
  have e3 : x * 256 ||| y = x * 256 + y := by
    have := Nat.two_pow_add_eq_or_of_lt (i := 8) (b := y) (by omega) x
    rw [show x * 256 = 2 ^ 8 * x by omega]
    omega
  show IntKind.i64.wrap ((BitVec.ofInt 64 ((x : Int) * 256) ||| BitVec.ofInt 64 (y : Int)).toNat : Int) = _
  rw [BitVec.toNat_or, e1, e2, e3, IntKind.wrap_i64]
  omega
theorem number_step {k : Nat} {l : List Int} {i : Nat} {x y : Int} (hi : i < l.length) (hl : l.length ≤ 100) (hx : 0 ≤ x) (hx2 : x ≤ 4294967295) (hy : rd l (i : Int) = y) (hy0 : 0 ≤ y) (hy1 : y ≤ 255) :
    impl_number.l0 (k + 1) x l (l.length : Int) (i : Int) = impl_number.l0 k (256 * x + y) l (l.length : Int) ((i + 1 : Nat) : Int) := by
  simp only [impl_number.l0]
  rw [if_pos (by omega), if_pos (by omega), if_pos (by omega), hy, wi (by omega), w64 (x := y) (by omega) (by omega), w64 (x := x * 256) (by omega) (by omega), or256 hx hx2 hy0 hy1, show x * 256 + y = 256 * x + y by omega]
theorem number_end {k : Nat} {l : List Int} {x : Int} {i : Nat} (hi : i = l.length) : impl_number.l0 (k + 1) x l (l.length : Int) (i : Int) = some x := by
  simp only [impl_number.l0]
  rw [if_neg (by omega)]
theorem read2 {k : Nat} (hk : 5 ≤ k) {a b : Int} (ha : 0 ≤ a ∧ a ≤ 255) (hb : 0 ≤ b ∧ b ≤ 255) : True ∧ impl_number.f k [a, b] = some (256 * a + b) := by
  obtain ⟨k, rfl⟩ : ∃ m, k = m + 1 + 1 + 1 := ⟨k - 3, by omega⟩
  refine ⟨?_, ?_⟩
  · trivial
  · unfold impl_number.f
    have s1 := number_step (k := k + 1 + 1) (l := [a, b]) (i := 0) (x := 0) (y := a) (by simp) (by simp) (by omega) (by omega) rfl ha.1 ha.2
    have s2 := number_step (k := k + 1) (l := [a, b]) (i := 1) (x := 256 * 0 + a) (y := b) (by simp) (by simp) (by omega) (by omega) rfl hb.1 hb.2
    have s3 := number_end (k := k) (l := [a, b]) (i := 2) (x := 256 * (256 * 0 + a) + b) rfl
    rw [show 256 * a + b = 256 * (256 * 0 + a) + b by omega]
    exact s1.trans (s2.trans s3)
theorem read3 {k : Nat} (hk : 5 ≤ k) {a b c : Int} (ha : 0 ≤ a ∧ a ≤ 255) (hb : 0 ≤ b ∧ b ≤ 255) (hc : 0 ≤ c ∧ c ≤ 255) : True ∧ impl_number.f k [a, b, c] = some (65536 * a + 256 * b + c) := by
  obtain ⟨k, rfl⟩ : ∃ m, k = m + 1 + 1 + 1 + 1 := ⟨k - 4, by omega⟩
  refine ⟨?_, ?_⟩
  · trivial
  · unfold impl_number.f
    have s1 := number_step (k := k + 1 + 1 + 1) (l := [a, b, c]) (i := 0) (x := 0) (y := a) (by simp) (by simp) (by omega) (by omega) rfl ha.1 ha.2
    have s2 := number_step (k := k + 1 + 1) (l := [a, b, c]) (i := 1) (x := 256 * 0 + a) (y := b) (by simp) (by simp) (by omega) (by omega) rfl hb.1 hb.2
    have s3 := number_step (k := k + 1) (l := [a, b, c]) (i := 2) (x := 256 * (256 * 0 + a) + b) (y := c) (by simp) (by simp) (by omega) (by omega) rfl hc.1 hc.2
    have s4 := number_end (k := k) (l := [a, b, c]) (i := 3) (x := 256 * (256 * (256 * 0 + a) + b) + c) rfl
    rw [show 65536 * a + 256 * b + c = 256 * (256 * (256 * 0 + a) + b) + c by omega]
    exact s1.trans (s2.trans (s3.trans s4))

def BytesOk (l : List Int) : Prop := ∀ x ∈ l, 0 ≤ x ∧ x ≤ 255
theorem BytesOk.of_wf {l : List Int} (h : ∀ x ∈ l, (Lit.int .u8 x).wf = true) : BytesOk l := fun x hx => Go.bounds_u8 (h x hx)
theorem BytesOk.rdb {l : List Int} (h : BytesOk l) (i : Nat) : 0 ≤ rd l (i : Int) ∧ rd l (i : Int) ≤ 255 := by
  by_cases hi : i < l.length
  · have e : rd l (i : Int) = l[i] := by simp [rd, List.getD_eq_getElem?_getD, List.getElem?_eq_getElem hi]
    rw [e]
    exact h _ (List.getElem_mem hi)
  · have e : rd l (i : Int) = 0 := by simp [rd, List.getD_eq_getElem?_getD, List.getElem?_eq_none (Nat.le_of_not_lt hi)]
    rw [e]; omega
theorem BytesOk.take {l : List Int} (h : BytesOk l) (n : Nat) : BytesOk (l.take n) := fun x hx => h x (List.mem_of_mem_take hx)
theorem BytesOk.drop {l : List Int} (h : BytesOk l) (n : Nat) : BytesOk (l.drop n) := fun x hx => h x (List.mem_of_mem_drop hx)
theorem BytesOk.append {l m : List Int} (h : BytesOk l) (h2 : BytesOk m) : BytesOk (l ++ m) := fun x hx => (List.mem_append.1 hx).elim (h x) (h2 x)
theorem BytesOk.zeros (n : Nat) : BytesOk (List.replicate n 0) := fun x hx => by rw [List.eq_of_mem_replicate hx]; omega

theorem spec_in_eq (a lo hi : Int) : spec_l01In.f a lo hi = some (decide (lo ≤ a ∧ a ≤ hi)) := by
  unfold spec_l01In.f; by_cases h : lo ≤ a <;> simp [h]

theorem impl_within_eq (a lo hi : Int) : impl_within.f a lo hi = some (decide (lo ≤ a ∧ a ≤ hi)) := by
  unfold impl_within.f; by_cases h : lo ≤ a <;> simp [h]

theorem impl_isKey_eq (a : Int) : impl_isKey.f a = some (decide (0 ≤ a ∧ a ≤ 65535)) := by
  simp only [impl_isKey.f, impl_within_eq, Option.bind_some]

theorem impl_isTime_eq (a : Int) : impl_isTime.f a = some (decide (0 ≤ a ∧ a ≤ 1000000)) := by
  simp only [impl_isTime.f, impl_within_eq, Option.bind_some]

theorem impl_isValue_eq (a : Int) : impl_isValue.f a = some (decide ((-1000000) ≤ a ∧ a ≤ 1000000)) := by
  simp only [impl_isValue.f, impl_within_eq, Option.bind_some]

theorem impl_FrameOk_eq (a b c d : Int) : impl_FrameOk.f a b c d = spec_FrameOk.f a b c d := by
  simp only [impl_FrameOk.f, spec_FrameOk.f, spec_in_eq, impl_isKey_eq, impl_isTime_eq, impl_isValue_eq, Option.bind_some]
  by_cases h1 : a = 1
  · simp [h1]
  · by_cases h2 : a = 2
    · simp [h2]
    · by_cases h3 : a = 3
      · by_cases h4 : b = 0
        · by_cases h5 : c = 0
          · simp [h3, h4, h5]
          · simp [h3, h4, h5]
        · simp [h3, h4]
      · simp [h1, h2, h3]
theorem spec_FrameOk_some (a b c d : Int) : ∃ r, spec_FrameOk.f a b c d = some r := by
  simp only [spec_FrameOk.f, spec_in_eq, Option.bind_some]
  (repeat' split) <;> exact ⟨_, rfl⟩

def frameOkB (a b c d : Int) : Bool :=
  if a = 1 then decide (0 ≤ b ∧ b ≤ 65535) && (decide (0 ≤ c ∧ c ≤ 1000000) && decide (-1000000 ≤ d ∧ d ≤ 1000000))
  else if a = 2 then decide (b = 0) && (decide (0 ≤ c ∧ c ≤ 1000000) && decide (d = 0))
  else if a = 3 then decide (b = 0) && (decide (c = 0) && decide (d = 0)) else false
theorem spec_FrameOk_eq (a b c d : Int) : spec_FrameOk.f a b c d = some (frameOkB a b c d) := by
  simp only [spec_FrameOk.f, spec_in_eq, Option.bind_some, frameOkB]
  by_cases h1 : a = 1
  · rw [if_pos h1, if_pos h1]
    by_cases h2 : 0 ≤ b ∧ b ≤ 65535
    · by_cases h3 : 0 ≤ c ∧ c ≤ 1000000
      · simp [h2, h3]
      · simp [h2, h3]
    · simp [h2]
  · rw [if_neg h1, if_neg h1]
    by_cases h2 : a = 2
    · rw [if_pos h2, if_pos h2]
      by_cases h3 : b = 0
      · by_cases h4 : 0 ≤ c ∧ c ≤ 1000000
        · simp [h3, h4]; rfl
        · simp [h3, h4]
      · simp [h3]
    · rw [if_neg h2, if_neg h2]
      by_cases h3 : a = 3
      · by_cases h4 : b = 0
        · by_cases h5 : c = 0
          · simp [h3, h4, h5]; rfl
          · simp [h3, h4, h5]
        · simp [h3, h4]
      · simp [h3]
theorem frameOkB_kind {a b c d : Int} (h : frameOkB a b c d = true) : (a = 1 ∧ (0 ≤ b ∧ b ≤ 65535) ∧ (0 ≤ c ∧ c ≤ 1000000) ∧ (-1000000 ≤ d ∧ d ≤ 1000000)) ∨ (a = 2 ∧ b = 0 ∧ (0 ≤ c ∧ c ≤ 1000000) ∧ d = 0) ∨ (a = 3 ∧ b = 0 ∧ c = 0 ∧ d = 0) := by
  unfold frameOkB at h
  by_cases h1 : a = 1
  · rw [if_pos h1] at h
    simp at h
    exact .inl ⟨h1, h.1, h.2.1, h.2.2⟩
  · rw [if_neg h1] at h
    by_cases h2 : a = 2
    · rw [if_pos h2] at h
      simp at h
      exact .inr (.inl ⟨h2, h.1, h.2.1, h.2.2⟩)
    · rw [if_neg h2] at h
      by_cases h3 : a = 3
      · rw [if_pos h3] at h
        simp at h
        exact .inr (.inr ⟨h3, h.1, h.2.1, h.2.2⟩)
      · rw [if_neg h3] at h
        cases h

def pf (l : List Int) : Int × Int × Int × Int :=
  if rd l 0 = 1 ∧ l.length = 9 then (1, 256 * rd l 1 + rd l 2, 65536 * rd l 3 + 256 * rd l 4 + rd l 5, 65536 * rd l 6 + 256 * rd l 7 + rd l 8 - 1000000)
  else if rd l 0 = 2 ∧ l.length = 4 then (2, 0, 65536 * rd l 1 + 256 * rd l 2 + rd l 3, 0)
  else if rd l 0 = 3 ∧ l.length = 1 then (3, 0, 0, 0) else (0, 0, 0, 0)
def okF (f : Int × Int × Int × Int) : Bool := frameOkB f.1 f.2.1 f.2.2.1 f.2.2.2
theorem rd0 {x : Int} {l : List Int} : rd (x :: l) 0 = x := rfl
theorem list9 {l : List Int} (h : l.length = 9) : ∃ a b c d e f g i j, l = [a, b, c, d, e, f, g, i, j] := by
  match l, h with
  | [a, b, c, d, e, f, g, i, j], _ => exact ⟨a, b, c, d, e, f, g, i, j, rfl⟩
theorem list4 {l : List Int} (h : l.length = 4) : ∃ a b c d, l = [a, b, c, d] := by
  match l, h with
  | [a, b, c, d], _ => exact ⟨a, b, c, d, rfl⟩
theorem impl_frameOf_eq {k : Nat} (hk : 20 ≤ k) {l : List Int} (hb : BytesOk l) (h0 : 0 < l.length) (h9 : l.length ≤ 9) : impl_frameOf.f k l = some (pf l) := by
  obtain ⟨k, rfl⟩ : ∃ m, k = m + 1 + 1 := ⟨k - 2, by omega⟩
  have hr := hb.rdb 0
  simp only [impl_frameOf.f]
  rw [if_pos (by omega), w64 (x := rd l 0) (by have := hr.1; simp at this; omega) (by have := hr.2; simp at this; omega)]
  by_cases h1 : rd l 0 = 1
  · rw [if_pos h1]
    by_cases h2 : l.length = 9
    · obtain ⟨a, b, c, d, e, f, g, i, j, rfl⟩ := list9 h2
      have hm : ∀ x, x ∈ [a, b, c, d, e, f, g, i, j] → 0 ≤ x ∧ x ≤ 255 := hb
      simp only [List.mem_cons, List.mem_nil_iff, or_false] at hm
      have e1 := (read2 (k := k + 1) (by omega) (hm b (by simp)) (hm c (by simp))).2
      have e2 := (read3 (k := k + 1) (by omega) (hm d (by simp)) (hm e (by simp)) (hm f (by simp))).2
      have e3 := (read3 (k := k + 1) (by omega) (hm g (by simp)) (hm i (by simp)) (hm j (by simp))).2
      have q1 := hm g (by simp); have q2 := hm i (by simp); have q3 := hm j (by simp)
      have ha : a = 1 := h1
      simp only [impl_frameOf.j0, pf, List.take_succ_cons, List.take_zero, List.drop_succ_cons, List.drop_zero, e1, e2, e3, Option.bind_some, List.length_cons, List.length_nil]
      simp [w64 (x := 65536 * g + 256 * i + j - 1000000) (by omega) (by omega), ha, rd]
    · have h3 : (((l.length : Int) == 9) = false) := by simp; omega
      rw [h3]
      have h4 : pf l = (0, 0, 0, 0) := by simp [pf, h1, h2]
      simp [impl_frameOf.j0, impl_frameOf.j1, h1, h4]
  · rw [if_neg h1]
    by_cases h2 : rd l 0 = 2
    · by_cases h3 : l.length = 4
      · obtain ⟨a, b, c, d, rfl⟩ := list4 h3
        have hm : ∀ x, x ∈ [a, b, c, d] → 0 ≤ x ∧ x ≤ 255 := hb
        simp only [List.mem_cons, List.mem_nil_iff, or_false] at hm
        have e1 := (read3 (k := k) (by omega) (hm b (by simp)) (hm c (by simp)) (hm d (by simp))).2
        have ha : a = 2 := h2
        simp only [impl_frameOf.j0, impl_frameOf.j1, pf, List.take_succ_cons, List.take_zero, List.drop_succ_cons, List.drop_zero, e1, Option.bind_some, List.length_cons, List.length_nil]
        simp [ha, rd]
      · have h4 : (((l.length : Int) == 4) = false) := by simp; omega
        have h5 : pf l = (0, 0, 0, 0) := by simp [pf, h2, h3]
        simp [impl_frameOf.j0, impl_frameOf.j1, h2, h4, h5]
    · by_cases h3 : rd l 0 = 3
      · by_cases h4 : l.length = 1
        · have h5 : pf l = (3, 0, 0, 0) := by simp [pf, h3, h4]
          simp [impl_frameOf.j0, impl_frameOf.j1, h3, h4, h5]
        · have h5 : pf l = (0, 0, 0, 0) := by simp [pf, h3, h4]
          have h6 : ¬ (l.length : Int) = 1 := by omega
          simp [impl_frameOf.j0, impl_frameOf.j1, h3, h6, h5]
      · have h5 : pf l = (0, 0, 0, 0) := by simp [pf, h1, h2, h3]
        simp [impl_frameOf.j0, impl_frameOf.j1, h2, h3, h5]
def bodyRes (l : List Int) : Int × Int × Int × Int × Bool := if okF (pf l) = true then ((pf l).1, (pf l).2.1, (pf l).2.2.1, (pf l).2.2.2, true) else (0, 0, 0, 0, false)
theorem okF_kind {l : List Int} (h : okF (pf l) = true) : (rd l 0 = 1 ∧ l.length = 9) ∨ (rd l 0 = 2 ∧ l.length = 4) ∨ (rd l 0 = 3 ∧ l.length = 1) := by
  unfold pf at h
  split at h
  · rename_i h1; exact .inl h1
  · split at h
    · rename_i h1; exact .inr (.inl h1)
    · split at h
      · rename_i h1; exact .inr (.inr h1)
      · simp [okF, frameOkB] at h

def crcV (l : List Int) : Int := (spec_Check.f (10 * l.length + 1) l).getD 0
theorem Check_eq {k : Nat} {l : List Int} (hn : l.length ≤ 1048576) (hl : ∀ i, i < l.length → 0 ≤ rd l (i : Int) ∧ rd l (i : Int) ≤ 255) (hk : 10 * l.length < k) :
    spec_Check.f k l = some (crcV l) ∧ impl_Check.f k l = some (crcV l) ∧ 0 ≤ crcV l ∧ crcV l < 4294967296 := by
  obtain ⟨r, hr, h1, _⟩ := Check_both (k := 10 * l.length + 1) l hn hl (by omega)
  obtain ⟨r', hr', h2, h3⟩ := Check_both (k := k) l hn hl hk
  have e := at_rounds (g := fun k => spec_Check.f k l) (fun k => spec_Check.mono l k) (show 10 * l.length + 1 ≤ k by omega) h1
  have e2 : (r' : Int) = (r : Int) := Option.some.inj (h2.symm.trans e)
  have e3 : crcV l = (r : Int) := by rw [crcV, h1]; rfl
  rw [e3]
  exact ⟨e, by rw [h3, e2], by omega, by omega⟩

theorem shr0 (x : Int) : shr .i64 x 0 = x := by simp [shr]
theorem shr8 (x : Int) : shr .i64 x 8 = x / 256 := by simp [shr, IntKind.bits]
theorem shr16 (x : Int) : shr .i64 x 16 = x / 65536 := by simp [shr, IntKind.bits]
theorem shr24 (x : Int) : shr .i64 x 24 = x / 16777216 := by simp [shr, IntKind.bits]
theorem and255 {x : Int} (h0 : 0 ≤ x) (h1 : x ≤ 1099511627776) : Go.bits .and .i64 x 255 = x % 256 := by
  obtain ⟨a, rfl⟩ : ∃ a : Nat, x = (a : Int) := ⟨x.toNat, by omega⟩
  have e1 : (BitVec.ofInt 64 (a : Int)).toNat = a := by
    rw [BitVec.ofInt_natCast, BitVec.toNat_ofNat]; exact Nat.mod_eq_of_lt (by omega)
  have e2 : (BitVec.ofInt 64 (255 : Int)).toNat = 255 := by decide
  have e3 : a &&& 255 = a % 256 := Nat.and_two_pow_sub_one_eq_mod a 8
  show IntKind.i64.wrap ((BitVec.ofInt 64 (a : Int) &&& BitVec.ofInt 64 255).toNat : Int) = _
  rw [BitVec.toNat_and, e1, e2, e3, IntKind.wrap_i64]
  omega
def wide2 (x : Int) : List Int := [x / 256 % 256, x % 256]
def wide3 (x : Int) : List Int := [x / 65536 % 256, x / 256 % 256, x % 256]
def wide4 (x : Int) : List Int := [x / 16777216 % 256, x / 65536 % 256, x / 256 % 256, x % 256]

theorem spec_l02Wide_step {k : Nat} {x i : Int} {acc : List Int} (h0 : 0 ≤ i) (h1 : i ≤ 3) (hx : 0 ≤ x) (hx2 : x ≤ 1099511627776) (ha : acc.length ≤ 10) {y : Int} (hy : shr .i64 x (8 * i) = y) (hy0 : 0 ≤ y) (hy1 : y ≤ 1099511627776) :
    spec_l02Wide.l0 (k + 1) x acc i = spec_l02Wide.l0 k x (acc ++ [y % 256]) (i - 1) := by
  have e1 : IntKind.u64.wrap (wrap64 (8 * i)) = 8 * i := by
    rw [w64 (by omega) (by omega), IntKind.wrap_u64]; omega
  simp only [spec_l02Wide.l0]
  rw [if_pos (by omega), e1, if_pos (by omega), if_pos (by omega), w64 (x := i - 1) (by omega) (by omega), hy, and255 hy0 hy1]
  congr 3
  omega
theorem spec_l02Wide_end {k : Nat} {x : Int} {acc : List Int} : spec_l02Wide.l0 (k + 1) x acc (-1) = some acc := by
  simp only [spec_l02Wide.l0]
  rw [if_neg (by omega)]
theorem spec_l02Wide2 {k : Nat} (hk : 6 ≤ k) {x : Int} (hx : 0 ≤ x) (hx2 : x ≤ 1099511627776) : spec_l02Wide.f k x 2 = some (wide2 x) := by
  obtain ⟨k, rfl⟩ : ∃ m, k = m + 1 + 1 + 1 := ⟨k - 3, by omega⟩
  unfold spec_l02Wide.f
  rw [w64 (by omega) (by omega), spec_l02Wide_step (y := x / 256) (by omega) (by omega) hx hx2 (by simp) (shr8 x) (by omega) (by omega),
    spec_l02Wide_step (y := x) (by omega) (by omega) hx hx2 (by simp) (shr0 x) (by omega) (by omega)]
  exact spec_l02Wide_end
theorem spec_l02Wide3 {k : Nat} (hk : 6 ≤ k) {x : Int} (hx : 0 ≤ x) (hx2 : x ≤ 1099511627776) : spec_l02Wide.f k x 3 = some (wide3 x) := by
  obtain ⟨k, rfl⟩ : ∃ m, k = m + 1 + 1 + 1 + 1 := ⟨k - 4, by omega⟩
  unfold spec_l02Wide.f
  rw [w64 (by omega) (by omega), spec_l02Wide_step (y := x / 65536) (by omega) (by omega) hx hx2 (by simp) (shr16 x) (by omega) (by omega),
    spec_l02Wide_step (y := x / 256) (by omega) (by omega) hx hx2 (by simp) (shr8 x) (by omega) (by omega),
    spec_l02Wide_step (y := x) (by omega) (by omega) hx hx2 (by simp) (shr0 x) (by omega) (by omega)]
  exact spec_l02Wide_end
theorem spec_l02Wide4 {k : Nat} (hk : 6 ≤ k) {x : Int} (hx : 0 ≤ x) (hx2 : x ≤ 1099511627776) : spec_l02Wide.f k x 4 = some (wide4 x) := by
  obtain ⟨k, rfl⟩ : ∃ m, k = m + 1 + 1 + 1 + 1 + 1 := ⟨k - 5, by omega⟩
  unfold spec_l02Wide.f
  rw [w64 (by omega) (by omega), spec_l02Wide_step (y := x / 16777216) (by omega) (by omega) hx hx2 (by simp) (shr24 x) (by omega) (by omega),
    spec_l02Wide_step (y := x / 65536) (by omega) (by omega) hx hx2 (by simp) (shr16 x) (by omega) (by omega),
    spec_l02Wide_step (y := x / 256) (by omega) (by omega) hx hx2 (by simp) (shr8 x) (by omega) (by omega),
    spec_l02Wide_step (y := x) (by omega) (by omega) hx hx2 (by simp) (shr0 x) (by omega) (by omega)]
  exact spec_l02Wide_end

theorem impl_putNumber_step {k : Nat} {x i : Int} {acc : List Int} (h0 : 0 ≤ i) (h1 : i ≤ 3) (ha : acc.length ≤ 1048590) {y : Int} (hy : shr .i64 x (8 * i) = y) :
    impl_putNumber.l0 (k + 1) acc x i = impl_putNumber.l0 k (acc ++ [y % 256]) x (i - 1) := by
  simp only [impl_putNumber.l0]
  rw [if_pos (by omega), w64 (x := 8 * i) (by omega) (by omega), if_pos (by omega), if_pos (by omega), w64 (x := i - 1) (by omega) (by omega), hy]
theorem impl_putNumber_end {k : Nat} {x : Int} {acc : List Int} : impl_putNumber.l0 (k + 1) acc x (-1) = some acc := by
  simp only [impl_putNumber.l0]
  rw [if_neg (by omega)]
theorem impl_putNumber2 {k : Nat} (hk : 6 ≤ k) {x : Int} {acc : List Int} (ha : acc.length ≤ 1048576) : impl_putNumber.f k acc x 2 = some (acc ++ wide2 x) := by
  obtain ⟨k, rfl⟩ : ∃ m, k = m + 1 + 1 + 1 := ⟨k - 3, by omega⟩
  unfold impl_putNumber.f
  rw [w64 (by omega) (by omega), impl_putNumber_step (y := x / 256) (by omega) (by omega) (by omega) (shr8 x),
    impl_putNumber_step (y := x) (by omega) (by omega) (by simp; omega) (shr0 x), show (2 - 1 - 1 - 1 : Int) = -1 by omega, impl_putNumber_end]
  simp [wide2]
theorem impl_putNumber3 {k : Nat} (hk : 6 ≤ k) {x : Int} {acc : List Int} (ha : acc.length ≤ 1048576) : impl_putNumber.f k acc x 3 = some (acc ++ wide3 x) := by
  obtain ⟨k, rfl⟩ : ∃ m, k = m + 1 + 1 + 1 + 1 := ⟨k - 4, by omega⟩
  unfold impl_putNumber.f
  rw [w64 (by omega) (by omega), impl_putNumber_step (y := x / 65536) (by omega) (by omega) (by omega) (shr16 x), impl_putNumber_step (y := x / 256) (by omega) (by omega) (by simp; omega) (shr8 x),
    impl_putNumber_step (y := x) (by omega) (by omega) (by simp; omega) (shr0 x), show (3 - 1 - 1 - 1 - 1 : Int) = -1 by omega, impl_putNumber_end]
  simp [wide3]
theorem impl_putNumber4 {k : Nat} (hk : 6 ≤ k) {x : Int} {acc : List Int} (ha : acc.length ≤ 1048576) : impl_putNumber.f k acc x 4 = some (acc ++ wide4 x) := by
  obtain ⟨k, rfl⟩ : ∃ m, k = m + 1 + 1 + 1 + 1 + 1 := ⟨k - 5, by omega⟩
  unfold impl_putNumber.f
  rw [w64 (by omega) (by omega), impl_putNumber_step (y := x / 16777216) (by omega) (by omega) (by omega) (shr24 x), impl_putNumber_step (y := x / 65536) (by omega) (by omega) (by simp; omega) (shr16 x), impl_putNumber_step (y := x / 256) (by omega) (by omega) (by simp; omega) (shr8 x),
    impl_putNumber_step (y := x) (by omega) (by omega) (by simp; omega) (shr0 x), show (4 - 1 - 1 - 1 - 1 - 1 : Int) = -1 by omega, impl_putNumber_end]
  simp [wide4]

theorem rd_at {x : List Int} {i : Nat} (h : i < x.length) : x[i]? = some (rd x (i : Int)) := by
  simp [rd, List.getD_eq_getElem?_getD, List.getElem?_eq_getElem h]

theorem spec_l01Bytes_l0 (x0 : List Int) (hn : x0.length ≤ 1048576) : ∀ (d k i : Nat), i + d = x0.length → d < k → spec_l01Bytes.l0 k x0 (x0.take i) (i : Int) = some x0 := by
  intro d
  induction d with
  | zero =>
    intro k i h hk
    obtain ⟨k, rfl⟩ : ∃ m, k = m + 1 := ⟨k - 1, by omega⟩
    simp only [spec_l01Bytes.l0]
    rw [if_neg (by omega), List.take_of_length_le (by omega)]
  | succ d ih =>
    intro k i h hk
    obtain ⟨k, rfl⟩ : ∃ m, k = m + 1 := ⟨k - 1, by omega⟩
    simp only [spec_l01Bytes.l0]
    have e : x0.take i ++ [rd x0 (i : Int)] = x0.take (i + 1) := by
      have h2 := rd_at (x := x0) (i := i) (by omega)
      rw [List.getElem?_eq_getElem (by omega)] at h2
      rw [List.take_succ_eq_append_getElem (by omega), Option.some.inj h2]
    rw [if_pos (by omega), if_pos (by omega), if_pos (by rw [List.length_take]; omega), wi (by omega), e]
    exact ih k (i + 1) (by omega) (by omega)
theorem spec_l01Bytes_eq {k : Nat} {l : List Int} (hn : l.length ≤ 1048576) (hk : l.length < k) : spec_l01Bytes.f k l = some l := by
  have h := spec_l01Bytes_l0 l hn l.length k 0 (by omega) hk
  simpa [spec_l01Bytes.f] using h
theorem spec_l01Join_l0 (l m : List Int) (hl : l.length ≤ 1048576) (hm : m.length ≤ 1048576) : ∀ (d k i : Nat), i + d = m.length → d < k → spec_l01Join.l0 k m (l ++ m.take i) (i : Int) = some (l ++ m) := by
  intro d
  induction d with
  | zero =>
    intro k i h hk
    obtain ⟨k, rfl⟩ : ∃ m, k = m + 1 := ⟨k - 1, by omega⟩
    simp only [spec_l01Join.l0]
    rw [if_neg (by omega), List.take_of_length_le (by omega)]
  | succ d ih =>
    intro k i h hk
    obtain ⟨k, rfl⟩ : ∃ m, k = m + 1 := ⟨k - 1, by omega⟩
    simp only [spec_l01Join.l0]
    have e : l ++ m.take i ++ [rd m (i : Int)] = l ++ m.take (i + 1) := by
      have h2 := rd_at (x := m) (i := i) (by omega)
      rw [List.getElem?_eq_getElem (by omega)] at h2
      rw [List.take_succ_eq_append_getElem (by omega), Option.some.inj h2, List.append_assoc]
    rw [if_pos (by omega), if_pos (by omega), if_pos (by rw [List.length_append, List.length_take]; omega), wi (by omega), e]
    exact ih k (i + 1) (by omega) (by omega)
theorem spec_l01Join_eq {k : Nat} {l m : List Int} (hl : l.length ≤ 1048576) (hm : m.length ≤ 1048576) (hk : l.length + m.length < k) : spec_l01Join.f k l m = some (l ++ m) := by
  have h := spec_l01Join_l0 l m hl hm m.length k 0 (by omega) (by omega)
  simp only [spec_l01Join.f, spec_l01Bytes_eq hl (show l.length < k by omega), Option.bind_some]
  simpa using h

def bodyV (a b c d : Int) : List Int :=
  if a = 1 then [a % 256] ++ wide2 b ++ wide3 c ++ wide3 (d + 1000000) else if a = 2 then [a % 256] ++ wide3 c else [a % 256]
theorem bodyV_length (a b c d : Int) : (bodyV a b c d).length = if a = 1 then 9 else if a = 2 then 4 else 1 := by
  unfold bodyV
  (repeat' split) <;> simp [wide2, wide3]
theorem bodyV_bytes (a b c d : Int) : ∀ x ∈ bodyV a b c d, 0 ≤ x ∧ x ≤ 255 := by
  intro x hx
  unfold bodyV at hx
  split at hx
  · simp [wide2, wide3] at hx
    omega
  · split at hx
    · simp [wide3] at hx
      omega
    · simp at hx
      omega
theorem rd_of_mem {l : List Int} (h : ∀ x ∈ l, 0 ≤ x ∧ x ≤ 255) : ∀ i, i < l.length → 0 ≤ rd l (i : Int) ∧ rd l (i : Int) ≤ 255 := by
  intro i hi
  have e : rd l (i : Int) = l[i] := by simp [rd, List.getD_eq_getElem?_getD, List.getElem?_eq_getElem hi]
  rw [e]
  exact h _ (List.getElem_mem hi)
def putV (a b c d : Int) : List Int :=
  if frameOkB a b c d = true then [((bodyV a b c d).length : Int) % 256] ++ bodyV a b c d ++ wide4 (crcV (bodyV a b c d)) else []
theorem putV_length (a b c d : Int) : (putV a b c d).length ≤ 14 := by
  unfold putV
  split
  · have := bodyV_length a b c d
    simp [wide4]
    (repeat' split at this) <;> omega
  · simp
theorem spec_PutFrame_eq {k : Nat} (hk : 200 ≤ k) (a b c d : Int) : spec_PutFrame.f k a b c d = some (putV a b c d) := by
  obtain ⟨k, rfl⟩ : ∃ m, k = m + 1 + 1 + 1 := ⟨k - 3, by omega⟩
  simp only [spec_PutFrame.f, spec_FrameOk_eq, Option.bind_some, putV]
  by_cases h0 : frameOkB a b c d = true
  · rw [if_pos h0, if_pos h0]
    have hb := bodyV_length a b c d
    obtain ⟨c1, _, c3, c4⟩ := Check_eq (k := k) (l := bodyV a b c d) (by (repeat' split at hb) <;> omega) (rd_of_mem (bodyV_bytes a b c d)) (by (repeat' split at hb) <;> omega)
    have last : spec_PutFrame.j2 (k + 1) (bodyV a b c d) = some ([((bodyV a b c d).length : Int) % 256] ++ bodyV a b c d ++ wide4 (crcV (bodyV a b c d))) := by
      have hl : (bodyV a b c d).length ≤ 9 := by (repeat' split at hb) <;> omega
      simp only [spec_PutFrame.j2]
      rw [spec_l01Join_eq (by simp) (by omega) (by simp; omega), Option.bind_some, c1, Option.bind_some, spec_l02Wide4 (by omega) c3 (by omega), Option.bind_some, spec_l01Join_eq (by simp; omega) (by simp [wide4]) (by simp [wide4]; omega)]
      rfl
    rcases frameOkB_kind h0 with ⟨rfl, h1, h2, h3⟩ | ⟨rfl, rfl, h2, rfl⟩ | ⟨rfl, rfl, rfl, rfl⟩
    · rw [if_pos rfl, spec_l02Wide2 (by omega) (by omega) (by omega), Option.bind_some, spec_l01Join_eq (by simp) (by simp [wide2]) (by simp [wide2]; omega), Option.bind_some]
      simp only [spec_PutFrame.j0]
      rw [if_neg (by omega), spec_l02Wide3 (by omega) (by omega) (by omega), Option.bind_some, spec_l01Join_eq (by simp [wide2]) (by simp [wide3]) (by simp [wide2, wide3]; omega), Option.bind_some]
      simp only [spec_PutFrame.j1]
      rw [if_true, w64 (x := d + 1000000) (by omega) (by omega), spec_l02Wide3 (by omega) (by omega) (by omega), Option.bind_some, spec_l01Join_eq (by simp [wide2, wide3]) (by simp [wide3]) (by simp [wide2, wide3]; omega), Option.bind_some]
      exact last
    · rw [if_neg (by omega)]
      simp only [spec_PutFrame.j0]
      rw [if_neg (by omega), spec_l02Wide3 (by omega) (by omega) (by omega), Option.bind_some, spec_l01Join_eq (by simp) (by simp [wide3]) (by simp [wide3]; omega), Option.bind_some]
      simp only [spec_PutFrame.j1]
      rw [if_neg (by omega)]
      exact last
    · rw [if_neg (by omega)]
      simp only [spec_PutFrame.j0]
      rw [if_true]
      simp only [spec_PutFrame.j1]
      rw [if_neg (by omega)]
      exact last
  · rw [if_neg h0, if_neg h0]
theorem impl_PutFrame_eq {k : Nat} (hk : 200 ≤ k) (a b c d : Int) : impl_PutFrame.f k a b c d = some (putV a b c d) := by
  simp only [impl_PutFrame.f, impl_FrameOk_eq, spec_FrameOk_eq, Option.bind_some, putV]
  by_cases h0 : frameOkB a b c d = true
  · rw [if_pos h0, if_pos h0]
    have hb := bodyV_length a b c d
    have hl : (bodyV a b c d).length ≤ 9 := by (repeat' split at hb) <;> omega
    obtain ⟨_, c2, c3, c4⟩ := Check_eq (k := k) (l := bodyV a b c d) (by omega) (rd_of_mem (bodyV_bytes a b c d)) (by omega)
    have body : impl_bodyOf.f k a b c d = some (bodyV a b c d) := by
      simp only [impl_bodyOf.f, Option.bind_some]
      rcases frameOkB_kind h0 with ⟨rfl, h1, h2, h3⟩ | ⟨rfl, rfl, h2, rfl⟩ | ⟨rfl, rfl, rfl, rfl⟩
      · rw [if_pos rfl, impl_putNumber2 (by omega) (by simp), Option.bind_some, impl_putNumber3 (by omega) (by simp [wide2]), Option.bind_some, w64 (x := d + 1000000) (by omega) (by omega), impl_putNumber3 (by omega) (by simp [wide2, wide3])]
        rfl
      · rw [if_neg (by omega), if_pos rfl, impl_putNumber3 (by omega) (by simp)]
        rfl
      · rw [if_neg (by omega), if_neg (by omega)]
        rfl
    simp only [body, Option.bind_some]
    rw [if_pos (by simp; omega), c2, Option.bind_some, impl_putNumber4 (by omega) (by simp; omega)]
    rfl
  · rw [if_neg h0, if_neg h0]

def samePre (a b : List Int) : Prop := ∀ j : Nat, j < a.length → j < b.length → rd a (j : Int) = rd b (j : Int)
instance (a b : List Int) : Decidable (samePre a b) := by unfold samePre; infer_instance
theorem rd_take {l : List Int} {n j : Nat} (h : j < n) : rd (l.take n) (j : Int) = rd l (j : Int) := by
  simp [rd, List.getD_eq_getElem?_getD, List.getElem?_take, h]
theorem rd_append_left {l m : List Int} {j : Nat} (h : j < l.length) : rd (l ++ m) (j : Int) = rd l (j : Int) := by
  simp [rd, List.getD_eq_getElem?_getD, List.getElem?_append_left h]
theorem Equal_l0 (a b : List Int) (hl : a.length = b.length) (hn : a.length ≤ 1048576) : ∀ (d k i : Nat), i + d = a.length → d < k →
    slices_Equal_byte_byte.l0 k a b (a.length : Int) (i : Int) = some (decide (∀ j : Nat, j < a.length → i ≤ j → rd a (j : Int) = rd b (j : Int))) := by
  intro d
  induction d with
  | zero =>
    intro k i h hk
    obtain ⟨k, rfl⟩ : ∃ m, k = m + 1 := ⟨k - 1, by omega⟩
    simp only [slices_Equal_byte_byte.l0]
    rw [if_neg (by omega)]
    congr 1
    symm
    rw [decide_eq_true_eq]
    intro j h1 h2
    omega
  | succ d ih =>
    intro k i h hk
    obtain ⟨k, rfl⟩ : ∃ m, k = m + 1 := ⟨k - 1, by omega⟩
    simp only [slices_Equal_byte_byte.l0]
    rw [if_pos (by omega), if_pos (by omega), if_pos (by omega), if_pos (by omega), wi (by omega)]
    by_cases e : rd a (i : Int) = rd b (i : Int)
    · rw [if_pos e, ih k (i + 1) (by omega) (by omega)]
      congr 1
      rw [decide_eq_decide]
      constructor
      · intro hh j h1 h2
        by_cases e2 : i = j
        · subst e2; exact e
        · exact hh j h1 (by omega)
      · intro hh j h1 h2
        exact hh j h1 (by omega)
    · rw [if_neg e]
      congr 1
      symm
      rw [decide_eq_false_iff_not]
      intro hh
      exact e (hh i (by omega) (by omega))
theorem Equal_eq {k : Nat} {a b : List Int} (hl : a.length = b.length) (hn : a.length ≤ 1048576) (hk : a.length < k) : slices_Equal_byte_byte.f k a b = some (decide (samePre a b)) := by
  unfold slices_Equal_byte_byte.f
  rw [if_pos (by omega)]
  have e := Equal_l0 a b hl hn a.length k 0 (by omega) hk
  rw [show ((0 : Nat) : Int) = 0 from rfl] at e
  rw [e]
  congr 1
  rw [decide_eq_decide]
  unfold samePre
  constructor
  · intro hh j h1 _
    exact hh j h1 (by omega)
  · intro hh j h1 _
    exact hh j h1 (by omega)

theorem Concat2_eq {k : Nat} {a b : List Int} (ha : a.length ≤ 1000) (hb : b.length ≤ 1000) (hk : 10 ≤ k) : slices_Concat_byte_byte.f k [a, b] = some (a ++ b) := by
  obtain ⟨k, rfl⟩ : ∃ m, k = m + 1 + 1 + 1 + 1 + 1 + 1 := ⟨k - 6, by omega⟩
  have r0 : rd_L2 [a, b] 0 = a := rfl
  have r1 : rd_L2 [a, b] 1 = b := rfl
  have w0 : wrap64 (0 + 1) = 1 := by unfold wrap64; omega
  have w1 : wrap64 (1 + 1) = 2 := by unfold wrap64; omega
  have ln : (([a, b] : List (List Int)).length : Int) = 2 := rfl
  have c2 : (0 : Int) < 2 := by omega
  have c3 : (1 : Int) < 2 := by omega
  have c4 : ¬ (2 : Int) < 2 := by omega
  have c5 : (0 : Int) ≤ 1 := by omega
  have d1 : ¬ ((a.length : Int) < 0) := by omega
  have d2 : ¬ ((a.length : Int) + (b.length : Int) < 0) := by omega
  have d3 : (0 : Int) ≤ (a.length : Int) + (b.length : Int) := by omega
  have d4 : (a.length : Int) + (b.length : Int) < 4398046511104 := by omega
  have d5 : a.length < 140737488355328 := by omega
  have d6 : a.length + b.length < 140737488355328 := by omega
  have z0 : wrap64 (0 + (a.length : Int)) = (a.length : Int) := by rw [w64 (by omega) (by omega)]; omega
  have z1 : wrap64 ((a.length : Int) + (b.length : Int)) = (a.length : Int) + (b.length : Int) := w64 (by omega) (by omega)
  simp only [slices_Concat_byte_byte.f, slices_Concat_byte_byte.l0, slices_Concat_byte_byte.l1, slices_Grow_byte_byte.f, ln, r0, r1, w0, w1, z0, z1, if_pos c2, if_pos c3, if_neg c4, if_pos c5, if_neg d1, if_neg d2, if_pos d3, if_pos d4, Option.bind_some, List.nil_append, List.length_nil, Nat.zero_add, if_pos d5, if_pos d6, Int.le_refl, if_true]

def bdN (l : List Int) (n : Nat) : List Int := (l.take (n + 1)).drop 1
def pdN (l : List Int) (n : Nat) : List Int := bdN l n ++ List.replicate (n - (bdN l n).length) 0
def takeB (l body padded : List Int) (n : Int) : Int × Int × Int × Int × Int :=
  if l.length = 1 then (0, 0, 0, 0, 0)
  else if okF (pf padded) = true then
    (if (body.length : Int) < n then (0, 0, 0, 0, 0)
     else if samePre l (putV (pf body).1 (pf body).2.1 (pf body).2.2.1 (pf body).2.2.2) then
       (if (l.length : Int) < n + 5 then (0, 0, 0, 0, 0)
        else ((pf body).1, (pf body).2.1, (pf body).2.2.1, (pf body).2.2.2, n + 5))
     else (0, 0, 0, 0, -1))
  else (0, 0, 0, 0, -1)
def takeV (l : List Int) : Int × Int × Int × Int × Int :=
  if l.length = 0 then (0, 0, 0, 0, 0)
  else if rd l 0 = 1 ∨ rd l 0 = 4 ∨ rd l 0 = 9 then takeB l (bdN l (rd l 0).toNat) (pdN l (rd l 0).toNat) (rd l 0)
  else (0, 0, 0, 0, -1)
theorem pf_kind {l : List Int} (h : okF (pf l) = true) : (pf l).1 = rd l 0 := by
  rcases okF_kind h with ⟨h1, h2⟩ | ⟨h1, h2⟩ | ⟨h1, h2⟩ <;> simp [pf, h1, h2]
theorem putV_len {l : List Int} (h : okF (pf l) = true) : (putV (pf l).1 (pf l).2.1 (pf l).2.2.1 (pf l).2.2.2).length = l.length + 5 := by
  have hb := bodyV_length (pf l).1 (pf l).2.1 (pf l).2.2.1 (pf l).2.2.2
  have hk := pf_kind h
  have h' : frameOkB (pf l).1 (pf l).2.1 (pf l).2.2.1 (pf l).2.2.2 = true := h
  unfold putV
  rw [if_pos h']
  simp only [List.length_append, List.length_cons, List.length_nil, hb, wide4]
  rcases okF_kind h with ⟨h1, h2⟩ | ⟨h1, h2⟩ | ⟨h1, h2⟩ <;> simp [hk, h1, h2]
theorem body_len {l : List Int} {n : Nat} (h : 1 ≤ l.length) : ((l.take (n + 1)).drop 1).length = min (l.length - 1) n := by
  simp; omega
theorem mn_eq (a b : Int) : mn a b = min a b := by unfold mn; split <;> omega
theorem takeKey {k : Nat} (hk : 290 ≤ k) {l : List Int} (hb : BytesOk l) (hl : l.length ≤ 1048576) (h0 : ¬ l.length = 0) {n : Nat} (hn1 : 1 ≤ n) (hn9 : n ≤ 9) :
    impl_TakeFrame.j0 (k + 1) l (n : Int) = some (takeB l (bdN l n) (pdN l n) (n : Int)) := by
  simp only [impl_TakeFrame.j0, takeB]
  rw [w64 (x := (n : Int) + 1) (by omega) (by omega), mn_eq]
  have etake : l.take (min (l.length : Int) ((n : Int) + 1)).toNat = l.take (n + 1) := by
    by_cases hc : (l.length : Int) ≤ (n : Int) + 1
    · rw [show (min (l.length : Int) ((n : Int) + 1)).toNat = l.length by omega, List.take_of_length_le (Nat.le_refl _), List.take_of_length_le (by omega)]
    · rw [show (min (l.length : Int) ((n : Int) + 1)).toNat = n + 1 by omega]
  rw [if_pos (by omega), if_pos (by omega), etake, Option.bind_some]
  have hlen := body_len (l := l) (n := n) (by omega)
  have hbb : BytesOk ((l.take (n + 1)).drop 1) := (hb.take _).drop _
  show _ = some (if l.length = 1 then _ else if okF (pf (((l.take (n + 1)).drop 1) ++ List.replicate (n - ((l.take (n + 1)).drop 1).length) 0)) = true then _ else _)
  unfold bdN
  generalize hbd : (l.take (n + 1)).drop 1 = body at hlen hbb ⊢
  by_cases h2 : l.length = 1
  · rw [if_pos h2, if_pos (by omega)]
  rw [if_neg h2, if_neg (by omega)]
  rw [w64 (x := (n : Int) - (body.length : Int)) (by omega) (by omega), if_pos (by omega), if_pos (by omega),
    show ((n : Int) - (body.length : Int)).toNat = n - body.length by omega]
  have hpl : (body ++ List.replicate (n - body.length) 0).length = n := by simp; omega
  rw [Concat2_eq (by omega) (by simp; omega) (by omega), Option.bind_some,
    impl_frameOf_eq (by omega) (hbb.append (BytesOk.zeros _)) (by omega) (by omega), Option.bind_some, impl_FrameOk_eq, spec_FrameOk_eq, Option.bind_some]
  show (if okF (pf (body ++ List.replicate (n - body.length) 0)) = true then _ else _) = _
  by_cases h3 : okF (pf (body ++ List.replicate (n - body.length) 0)) = true
  · rw [if_pos h3, if_pos h3]
    by_cases h4 : (body.length : Int) < (n : Int)
    · rw [if_pos h4, if_pos h4]
    · rw [if_neg h4, if_neg h4]
      have hz : n - body.length = 0 := by omega
      rw [hz, List.replicate_zero, List.append_nil] at h3 ⊢
      have hp := putV_len h3
      rw [impl_PutFrame_eq (by omega), Option.bind_some]
      generalize hfull : putV (pf body).1 (pf body).2.1 (pf body).2.2.1 (pf body).2.2.2 = full at hp ⊢
      rw [mn_eq, if_pos (by omega), if_pos (by omega), Option.bind_some]
      have hgl : (l.take (min (l.length : Int) (full.length : Int)).toNat).length = min l.length full.length := by
        rw [List.length_take]; omega
      rw [if_pos (by omega), if_pos (by omega), Equal_eq (by simp only [List.length_take]; omega) (by omega) (by omega), Option.bind_some]
      have hsame : samePre (l.take (min (l.length : Int) (full.length : Int)).toNat) (full.take (((l.take (min (l.length : Int) (full.length : Int)).toNat).length : Int)).toNat) ↔ samePre l full := by
        unfold samePre
        constructor
        · intro hh j h5 h6
          have := hh j (by omega) (by rw [List.length_take]; omega)
          rw [rd_take (by omega), rd_take (by omega)] at this
          exact this
        · intro hh j h5 h6
          rw [rd_take (by omega), rd_take (by omega)]
          exact hh j (by omega) (by rw [List.length_take] at h6; omega)
      by_cases h5 : samePre l full
      · rw [if_pos (decide_eq_true (hsame.2 h5)), if_pos h5]
        by_cases h6 : (l.length : Int) < (n : Int) + 5
        · rw [if_pos h6, if_pos (by omega)]
        · rw [if_neg h6, if_neg (by omega), show (full.length : Int) = (n : Int) + 5 by omega]
      · rw [if_neg (by rw [decide_eq_true_eq]; exact fun hh => h5 (hsame.1 hh)), if_neg h5]
  · rw [if_neg h3, if_neg h3]
theorem impl_TakeFrame_eq {k : Nat} (hk : 300 ≤ k) {l : List Int} (hb : BytesOk l) (hl : l.length ≤ 1048576) : impl_TakeFrame.f k l = some (takeV l) := by
  obtain ⟨k, rfl⟩ : ∃ m, k = m + 1 := ⟨k - 1, by omega⟩
  simp only [impl_TakeFrame.f, takeV]
  by_cases h0 : l.length = 0
  · rw [if_pos (by omega), if_pos h0]
  rw [if_neg (by omega), if_neg h0, if_pos (by omega)]
  have hr := hb.rdb 0
  rw [show ((0 : Nat) : Int) = 0 from rfl] at hr
  rw [w64 (x := rd l 0) (by omega) (by omega)]
  by_cases h1 : rd l 0 = 1 ∨ rd l 0 = 4 ∨ rd l 0 = 9
  · rw [if_pos h1]
    have key := takeKey (k := k) (by omega) hb hl h0 (n := (rd l 0).toNat) (by omega) (by omega)
    rw [show (((rd l 0).toNat : Nat) : Int) = rd l 0 by omega] at key
    rcases h1 with h1 | h1 | h1
    · rw [if_pos h1]; exact key
    · rw [if_neg (by omega), if_pos h1]; exact key
    · rw [if_neg (by omega), if_neg (by omega), if_pos h1]; exact key
  · rw [if_neg h1, if_neg (fun h => h1 (.inl h)), if_neg (fun h => h1 (.inr (.inl h))), if_neg (fun h => h1 (.inr (.inr h)))]

theorem okPad {a b c d : Int} (h : frameOkB a b c d = true) {m : Nat} (h1 : 1 ≤ m) (h2 : m ≤ (bodyV a b c d).length) :
    okF (pf ((bodyV a b c d).take m ++ List.replicate ((bodyV a b c d).length - m) 0)) = true := by
  rcases frameOkB_kind h with ⟨rfl, hb, hc, hd⟩ | ⟨rfl, rfl, hc, rfl⟩ | ⟨rfl, rfl, rfl, rfl⟩
  · have e : bodyV 1 b c d = [1 % 256, b / 256 % 256, b % 256, c / 65536 % 256, c / 256 % 256, c % 256, (d + 1000000) / 65536 % 256, (d + 1000000) / 256 % 256, (d + 1000000) % 256] := by simp [bodyV, wide2, wide3]
    rw [e] at h2 ⊢
    simp only [List.length_cons, List.length_nil] at h2
    obtain rfl | rfl | rfl | rfl | rfl | rfl | rfl | rfl | rfl : m = 1 ∨ m = 2 ∨ m = 3 ∨ m = 4 ∨ m = 5 ∨ m = 6 ∨ m = 7 ∨ m = 8 ∨ m = 9 := by omega
    all_goals
      simp only [List.length_cons, List.length_nil, List.take_succ_cons, List.take_zero, List.replicate, List.cons_append, List.nil_append]
      simp [pf, okF, frameOkB, rd]
      try omega
  · have e : bodyV 2 0 c 0 = [2 % 256, c / 65536 % 256, c / 256 % 256, c % 256] := by simp [bodyV, wide3]
    rw [e] at h2 ⊢
    simp only [List.length_cons, List.length_nil] at h2
    obtain rfl | rfl | rfl | rfl : m = 1 ∨ m = 2 ∨ m = 3 ∨ m = 4 := by omega
    all_goals
      simp only [List.length_cons, List.length_nil, List.take_succ_cons, List.take_zero, List.replicate, List.cons_append, List.nil_append]
      simp [pf, okF, frameOkB, rd]
      try omega
  · have e : bodyV 3 0 0 0 = [3 % 256] := by simp [bodyV]
    rw [e] at h2 ⊢
    simp only [List.length_cons, List.length_nil] at h2
    obtain rfl : m = 1 := by omega
    decide
theorem pfBody {a b c d : Int} (h : frameOkB a b c d = true) : pf (bodyV a b c d) = (a, b, c, d) := by
  rcases frameOkB_kind h with ⟨rfl, hb, hc, hd⟩ | ⟨rfl, rfl, hc, rfl⟩ | ⟨rfl, rfl, rfl, rfl⟩
  · have e : bodyV 1 b c d = [1 % 256, b / 256 % 256, b % 256, c / 65536 % 256, c / 256 % 256, c % 256, (d + 1000000) / 65536 % 256, (d + 1000000) / 256 % 256, (d + 1000000) % 256] := by simp [bodyV, wide2, wide3]
    rw [e]
    simp [pf, rd]
    omega
  · have e : bodyV 2 0 c 0 = [2 % 256, c / 65536 % 256, c / 256 % 256, c % 256] := by simp [bodyV, wide3]
    rw [e]
    simp [pf, rd]
    omega
  · decide
theorem takePut {a b c d : Int} (h : frameOkB a b c d = true) (n : Nat) (hn : n ≤ (putV a b c d).length) :
    takeV ((putV a b c d).take n) = if n = (putV a b c d).length then (a, b, c, d, ((putV a b c d).length : Int)) else (0, 0, 0, 0, 0) := by
  have hlen := bodyV_length a b c d
  have hN : (bodyV a b c d).length = 9 ∨ (bodyV a b c d).length = 4 ∨ (bodyV a b c d).length = 1 := by
    (repeat' split at hlen) <;> omega
  have hF : putV a b c d = ((bodyV a b c d).length : Int) :: (bodyV a b c d ++ wide4 (crcV (bodyV a b c d))) := by
    unfold putV
    rw [if_pos h]
    simp
    omega
  have hpb := pfBody h
  have hpad := @okPad a b c d h
  have hpl : (putV a b c d).length = (bodyV a b c d).length + 5 := by rw [hF]; simp [wide4]
  have hFF : putV (pf (bodyV a b c d)).1 (pf (bodyV a b c d)).2.1 (pf (bodyV a b c d)).2.2.1 (pf (bodyV a b c d)).2.2.2 = putV a b c d := by rw [hpb]
  generalize hF' : putV a b c d = F at hF hpl hn hFF ⊢
  generalize hB : bodyV a b c d = B at hF hpl hN hpb hpad hFF
  by_cases h0 : n = 0
  · subst h0
    rw [if_neg (by omega)]
    simp [takeV]
  have hl : (F.take n).length = n := by rw [List.length_take]; omega
  have hr : rd (F.take n) 0 = (B.length : Int) := by
    rw [show (0 : Int) = ((0 : Nat) : Int) from rfl, rd_take (by omega), hF]; rfl
  unfold takeV
  rw [if_neg (by omega), hr, if_pos (by omega)]
  rw [show ((B.length : Int)).toNat = B.length by omega]
  have hbd : bdN (F.take n) B.length = B.take (n - 1) := by
    unfold bdN
    rw [List.take_take, hF]
    obtain ⟨q, rfl⟩ : ∃ q, n = q + 1 := ⟨n - 1, by omega⟩
    rw [show min (B.length + 1) (q + 1) = min B.length q + 1 by omega, List.take_succ_cons, List.drop_succ_cons, List.drop_zero, List.take_append_of_le_length (by omega), show q + 1 - 1 = q by omega]
    by_cases hq : q ≤ B.length
    · rw [show min B.length q = q by omega]
    · rw [show min B.length q = B.length by omega, List.take_of_length_le (Nat.le_refl _), List.take_of_length_le (by omega)]
  unfold takeB pdN
  rw [hbd, hl, List.length_take]
  by_cases h1 : n = 1
  · rw [if_pos h1, if_neg (by omega)]
  rw [if_neg h1]
  have hok : okF (pf (B.take (n - 1) ++ List.replicate (B.length - min (n - 1) B.length) 0)) = true := by
    by_cases hm : n - 1 ≤ B.length
    · rw [show min (n - 1) B.length = n - 1 by omega]
      exact hpad (by omega) hm
    · have := hpad (m := B.length) (by omega) (Nat.le_refl _)
      rw [List.take_of_length_le (Nat.le_refl _)] at this
      rw [show min (n - 1) B.length = B.length by omega, List.take_of_length_le (by omega)]
      exact this
  rw [if_pos hok]
  by_cases h2 : n - 1 < B.length
  · rw [if_pos (by omega), if_neg (by omega)]
  · rw [if_neg (by omega), List.take_of_length_le (l := B) (by omega), hFF, if_pos (show samePre (F.take n) F from fun j h3 h4 => rd_take (by omega)), hpb]
    by_cases h3 : n = F.length
    · have e : (F.length : Int) = (B.length : Int) + 5 := by omega
      rw [if_neg (by omega), if_pos h3, e]
    · rw [if_pos (by omega), if_neg h3]
theorem takeBegins {l : List Int} {a b c d m : Int} (h : takeV l = (a, b, c, d, m)) (hm : 0 < m) : samePre l (putV a b c d) ∧ (putV a b c d).length ≤ l.length := by
  unfold takeV at h
  split at h
  · simp at h; omega
  split at h
  · rename_i h0 hk
    unfold takeB at h
    split at h
    · simp at h; omega
    split at h
    · rename_i h1 hok
      split at h
      · simp at h; omega
      · rename_i h2
        split at h
        · rename_i hs
          split at h
          · simp at h; omega
          · rename_i h5
            have hlen : (bdN l (rd l 0).toNat).length = min (l.length - 1) (rd l 0).toNat := body_len (by omega)
            have hz : (rd l 0).toNat - (bdN l (rd l 0).toNat).length = 0 := by omega
            have hpd : pdN l (rd l 0).toNat = bdN l (rd l 0).toNat := by unfold pdN; rw [hz]; simp
            rw [hpd] at hok
            have hp := putV_len hok
            generalize bdN l (rd l 0).toNat = bd at h hs hp hlen h2
            simp only [Prod.mk.injEq] at h
            obtain ⟨r1, r2, r3, r4, r5⟩ := h
            rw [r1, r2, r3, r4] at hs hp
            exact ⟨hs, by omega⟩
        · simp at h; omega
    · simp at h; omega
  · simp at h; omega

theorem bits_xor8 (x y : Int) : 0 ≤ Go.bits .xor .u8 x y ∧ Go.bits .xor .u8 x y ≤ 255 := by
  show 0 ≤ IntKind.u8.wrap _ ∧ IntKind.u8.wrap _ ≤ 255
  rw [IntKind.wrap_u8]
  omega
theorem xor8_ne {x q : Int} (hx : 0 ≤ x ∧ x ≤ 255) (hq : 1 ≤ q ∧ q ≤ 255) : Go.bits .xor .u8 x q ≠ x := by
  intro e
  have e1 : Go.bits .xor .u8 x q = IntKind.u8.wrap (((BitVec.ofInt 8 x ^^^ BitVec.ofInt 8 q).toNat : Nat) : Int) := rfl
  rw [e1, IntKind.wrap_u8] at e
  have hlt := (BitVec.ofInt 8 x ^^^ BitVec.ofInt 8 q).isLt
  obtain ⟨a, rfl⟩ : ∃ a : Nat, x = (a : Int) := ⟨x.toNat, by omega⟩
  obtain ⟨b, rfl⟩ : ∃ b : Nat, q = (b : Int) := ⟨q.toNat, by omega⟩
  rw [BitVec.ofInt_natCast, BitVec.ofInt_natCast] at e hlt
  have e2 : BitVec.ofNat 8 a ^^^ BitVec.ofNat 8 b = BitVec.ofNat 8 a := by
    apply BitVec.eq_of_toNat_eq
    rw [BitVec.toNat_ofNat (w := 8) (x := a)]
    omega
  have e3 : BitVec.ofNat 8 b = 0#8 := by
    have : BitVec.ofNat 8 a ^^^ (BitVec.ofNat 8 a ^^^ BitVec.ofNat 8 b) = BitVec.ofNat 8 a ^^^ BitVec.ofNat 8 a := by rw [e2]
    rw [← BitVec.xor_assoc, BitVec.xor_self, BitVec.zero_xor] at this
    exact this
  have e4 := congrArg BitVec.toNat e3
  rw [BitVec.toNat_ofNat] at e4
  simp at e4
  omega

theorem at_some {l : List Int} (hb : BytesOk l) (hl : l.length ≤ 1048576) (a : Nat) (ha : a ≤ 1000000) : ∃ t, laws_at.f l (a : Int) = some t ∧ 0 ≤ t ∧ t ≤ 255 := by
  unfold laws_at.f
  by_cases h : (a : Int) < (l.length : Int)
  · have hr := hb.rdb a
    rw [if_pos h, if_pos (by omega), w64 (x := rd l (a : Int)) (by omega) (by omega)]
    exact ⟨_, rfl, hr⟩
  · rw [if_neg h, w64 (x := (a : Int) * 13) (by omega) (by omega), w64 (x := (l.length : Int) * 5) (by omega) (by omega), w64 (x := (a : Int) * 13 + (l.length : Int) * 5) (by omega) (by omega)]
    have h1 := Int.tmod_nonneg 256 (a := (a : Int) * 13 + (l.length : Int) * 5) (by omega)
    have h2 := Int.tmod_lt_of_pos ((a : Int) * 13 + (l.length : Int) * 5) (b := 256) (by omega)
    exact ⟨_, rfl, h1, by omega⟩

theorem sameBytes_l0 (x : List Int) (hn : x.length ≤ 1048576) : ∀ (d k i : Nat), i + d = x.length → d < k → laws_sameBytes.l0 k x x (i : Int) = some true := by
  intro d
  induction d with
  | zero =>
    intro k i h hk
    obtain ⟨k, rfl⟩ : ∃ m, k = m + 1 := ⟨k - 1, by omega⟩
    simp only [laws_sameBytes.l0]
    rw [if_neg (by omega)]
  | succ d ih =>
    intro k i h hk
    obtain ⟨k, rfl⟩ : ∃ m, k = m + 1 := ⟨k - 1, by omega⟩
    simp only [laws_sameBytes.l0, if_true]
    rw [if_pos (by omega), if_pos (by omega), if_pos (by omega), wi (by omega)]
    exact ih k (i + 1) (by omega) (by omega)
theorem sameBytes_refl {k : Nat} {x : List Int} (hn : x.length ≤ 1048576) (hk : x.length < k) : laws_sameBytes.f k x x = some true := by
  unfold laws_sameBytes.f
  rw [if_pos rfl]
  exact sameBytes_l0 x hn x.length k 0 (by omega) hk

theorem bits255 (x : Int) : 0 ≤ Go.bits .and .i64 x 255 ∧ Go.bits .and .i64 x 255 ≤ 255 := by
  have e2 : (BitVec.ofInt 64 (255 : Int)).toNat = 255 := by decide
  have e : Go.bits .and .i64 x 255 = IntKind.i64.wrap (((BitVec.ofInt 64 x).toNat &&& 255 : Nat) : Int) := by
    show IntKind.i64.wrap ((BitVec.ofInt 64 x &&& BitVec.ofInt 64 255).toNat : Int) = _
    rw [BitVec.toNat_and, e2]
  have h : (BitVec.ofInt 64 x).toNat &&& 255 ≤ 255 := Nat.and_le_right
  rw [e, IntKind.wrap_i64]
  omega
theorem Byte_some {l : List Int} (hl : l.length ≤ 4611686018427387903) (p s : Int) (hp : 0 ≤ p) : ∃ b p' s', spec_l01Byte.f l p s = some (b, p', s') ∧ (0 ≤ b ∧ b ≤ 255) ∧ 0 ≤ p' := by
  unfold spec_l01Byte.f
  by_cases h : p < (l.length : Int)
  · rw [if_pos h, if_pos hp, w64 (x := p + 1) (by omega) (by omega)]
    exact ⟨_, _, _, rfl, bits255 _, by omega⟩
  · rw [if_neg h]
    exact ⟨_, _, _, rfl, bits255 _, hp⟩
theorem tmodB {v a : Int} (h0 : 0 ≤ v) (ha : 0 < a) : 0 ≤ Int.tmod v a ∧ Int.tmod v a < a := ⟨Int.tmod_nonneg _ h0, Int.tmod_lt_of_pos _ ha⟩
theorem Below_some {l : List Int} (hl : l.length ≤ 4611686018427387903) (p s a : Int) (hp : 0 ≤ p) : ∃ v p' s', spec_l01Below.f l p s a = some (v, p', s') ∧ (0 ≤ v ∧ (v < a ∨ v = 0)) ∧ (0 < a → v < a) ∧ 0 ≤ p' := by
  unfold spec_l01Below.f
  by_cases h : a ≤ 0
  · rw [if_pos h]
    exact ⟨_, _, _, rfl, ⟨by omega, .inr rfl⟩, by omega, hp⟩
  · rw [if_neg h]
    by_cases h2 : a ≤ 256
    · rw [if_pos h2]
      obtain ⟨b, p1, s1, e1, hb, hp1⟩ := Byte_some hl p s hp
      rw [e1, Option.bind_some, if_neg (by omega)]
      have := tmodB (v := b) (a := a) hb.1 (by omega)
      exact ⟨_, _, _, rfl, ⟨this.1, .inl this.2⟩, fun _ => this.2, hp1⟩
    · rw [if_neg h2]
      obtain ⟨b, p1, s1, e1, hb, hp1⟩ := Byte_some hl p s hp
      obtain ⟨b2, p2, s2, e2, hb2, hp2⟩ := Byte_some hl p1 s1 hp1
      obtain ⟨b3, p3, s3, e3, hb3, hp3⟩ := Byte_some hl p2 s2 hp2
      rw [e1, Option.bind_some]
      dsimp only
      rw [e2, Option.bind_some]
      dsimp only
      rw [e3, Option.bind_some, if_neg (by omega), w64 (x := b * 65536) (by omega) (by omega), w64 (x := b2 * 256) (by omega) (by omega), w64 (x := b * 65536 + b2 * 256) (by omega) (by omega), w64 (x := b * 65536 + b2 * 256 + b3) (by omega) (by omega)]
      have := tmodB (v := b * 65536 + b2 * 256 + b3) (a := a) (by omega) (by omega)
      exact ⟨_, _, _, rfl, ⟨this.1, .inl this.2⟩, fun _ => this.2, hp3⟩
theorem Once_some {l : List Int} (hl : l.length ≤ 4611686018427387903) (p s a : Int) (hp : 0 ≤ p) : ∃ v p' s', spec_l01Once.f l p s a = some (v, p', s') ∧ 0 ≤ p' := by
  obtain ⟨v, p1, s1, e, _, _, h⟩ := Below_some hl p s a hp
  unfold spec_l01Once.f
  rw [e, Option.bind_some]
  exact ⟨_, _, _, rfl, h⟩
theorem Pick_some {l : List Int} (hl : l.length ≤ 4611686018427387903) (p s : Int) (hp : 0 ≤ p) (c : List Int) (hc : 0 < c.length) : ∃ v p' s', spec_l01PickInt.f l p s c = some (v, p', s') ∧ 0 ≤ p' := by
  obtain ⟨v, p1, s1, e, h1, h2, h⟩ := Below_some hl p s (c.length : Int) hp
  unfold spec_l01PickInt.f
  rw [e, Option.bind_some, if_pos h1.1, if_pos (h2 (by omega))]
  exact ⟨_, _, _, rfl, h⟩
theorem New_l0 (l : List Int) : ∀ (d k i : Nat) (s : Int), i + d = 4000 → d < k → ∃ s', spec_l01New.l0 k l s (i : Int) = some (l, 0, s') := by
  intro d
  induction d with
  | zero =>
    intro k i s h hk
    obtain ⟨k, rfl⟩ : ∃ m, k = m + 1 := ⟨k - 1, by omega⟩
    simp only [spec_l01New.l0]
    rw [if_neg (c := (i : Int) < 4000) (by omega)]
    exact ⟨s, by split <;> rfl⟩
  | succ d ih =>
    intro k i s h hk
    obtain ⟨k, rfl⟩ : ∃ m, k = m + 1 := ⟨k - 1, by omega⟩
    simp only [spec_l01New.l0]
    rw [wi (by omega), if_pos (c := (i : Int) < 4000) (by omega), if_pos (c := 0 ≤ (i : Int)) (by omega)]
    by_cases h1 : (i : Int) < (l.length : Int)
    · rw [if_pos h1]
      exact ih k (i + 1) _ (by omega) (by omega)
    · rw [if_neg h1]
      exact ⟨s, rfl⟩
theorem New_some {k : Nat} (l : List Int) (hk : 4001 ≤ k) : ∃ s, spec_l01New.f k l = some (l, 0, s) := by
  unfold spec_l01New.f
  exact New_l0 l 4000 k 0 _ (by omega) (by omega)

theorem DrawFrame_some {k : Nat} {l : List Int} (hl : l.length ≤ 4611686018427387903) (p s : Int) (hp : 0 ≤ p) : ∃ a b c d p' s', spec_l02DrawFrame.f (k + 1) l p s = some (a, b, c, d, p', s') ∧ 0 ≤ p' := by
  have tail : ∀ (p s a b c d : Int), 0 ≤ p → ∃ a' b' c' d' p' s', spec_l02DrawFrame.j0 (k + 1) l p s a b c d = some (a', b', c', d', p', s') ∧ 0 ≤ p' := by
    intro p s a b c d hp
    simp only [spec_l02DrawFrame.j0]
    split
    · exact ⟨_, _, _, _, _, _, rfl, hp⟩
    · obtain ⟨v1, p1, s1, e1, _, _, hp1⟩ := Below_some hl p s 60 hp
      obtain ⟨v2, p2, s2, e2, _, _, hp2⟩ := Below_some hl p1 s1 60 hp1
      obtain ⟨v3, p3, s3, e3, hp3⟩ := Pick_some hl p2 s2 hp2 [v1, v2, 0, 1000000] (by simp)
      simp only [e1, e2, e3, Option.bind_some]
      exact ⟨_, _, _, _, _, _, rfl, hp3⟩
  unfold spec_l02DrawFrame.f
  obtain ⟨v0, p0, s0, e0, hp0⟩ := Pick_some hl p s hp [1, 1, 1, 1, 2, 3] (by simp)
  simp only [e0, Option.bind_some]
  split
  · obtain ⟨v1, p1, s1, e1, _, _, hp1⟩ := Below_some hl p0 s0 5 hp0
    obtain ⟨v2, p2, s2, e2, _, _, hp2⟩ := Below_some hl p1 s1 5 hp1
    obtain ⟨v3, p3, s3, e3, _, _, hp3⟩ := Below_some hl p2 s2 65536 hp2
    obtain ⟨v4, p4, s4, e4, hp4⟩ := Pick_some hl p3 s3 hp3 [v1, v2, v3, 65535] (by simp)
    obtain ⟨v5, p5, s5, e5, _, _, hp5⟩ := Below_some hl p4 s4 20 hp4
    obtain ⟨v6, p6, s6, e6, _, _, hp6⟩ := Below_some hl p5 s5 20 hp5
    obtain ⟨v7, p7, s7, e7, hp7⟩ := Pick_some hl p6 s6 hp6 [wrap64 (v5 - 5), wrap64 (v6 - 5), 1000000, (-1000000)] (by simp)
    simp only [e1, e2, e3, e4, e5, e6, e7, Option.bind_some]
    exact tail _ _ _ _ _ _ hp7
  · exact tail _ _ _ _ _ _ hp0

theorem DrawLoose_some {k : Nat} {l : List Int} (hl : l.length ≤ 4611686018427387903) (p s : Int) (hp : 0 ≤ p) : ∃ a b c d p' s', spec_l02DrawLoose.f (k + 1) l p s = some (a, b, c, d, p', s') ∧ 0 ≤ p' := by
  unfold spec_l02DrawLoose.f
  obtain ⟨a, b, c, d, p0, s0, e0, hp0⟩ := DrawFrame_some (k := k) hl p s hp
  obtain ⟨v1, p1, s1, e1, hp1⟩ := Once_some hl p0 s0 8 hp0
  simp only [e0, e1, Option.bind_some]
  split
  · obtain ⟨v2, p2, s2, e2, _, _, hp2⟩ := Below_some hl p1 s1 4 hp1
    obtain ⟨u1, q1, r1, f1, hq1⟩ := Pick_some hl p2 s2 hp2 [0, 1, 2, 3, 4] (by simp)
    obtain ⟨u2, q2, r2, f2, hq2⟩ := Pick_some hl p2 s2 hp2 [(-1), 0, 65535, 65536] (by simp)
    obtain ⟨u3, q3, r3, f3, hq3⟩ := Pick_some hl p2 s2 hp2 [(-1), 1, 1000000, 1000001] (by simp)
    obtain ⟨u4, q4, r4, f4, hq4⟩ := Pick_some hl p2 s2 hp2 [1, (-1000001), 1000001] (by simp)
    simp only [e2, f1, f2, f3, f4, Option.bind_some]
    (repeat' split)
    · exact ⟨_, _, _, _, _, _, rfl, hq1⟩
    · exact ⟨_, _, _, _, _, _, rfl, hq2⟩
    · exact ⟨_, _, _, _, _, _, rfl, hq3⟩
    · exact ⟨_, _, _, _, _, _, rfl, hq4⟩
    · exact ⟨_, _, _, _, _, _, rfl, hp2⟩
  · exact ⟨_, _, _, _, _, _, rfl, hp1⟩
theorem DrawPutFrame_some {k : Nat} (l : List Int) (hl : l.length ≤ 4611686018427387903) (hk : 4001 ≤ k) : ∃ a b c d, spec_DrawPutFrame.f k l = some (a, b, c, d) := by
  obtain ⟨k, rfl⟩ : ∃ m, k = m + 1 := ⟨k - 1, by omega⟩
  obtain ⟨s, e⟩ := New_some (k := k + 1) l hk
  obtain ⟨a, b, c, d, p', s', e2, _⟩ := DrawLoose_some (k := k) hl 0 s (by omega)
  unfold spec_DrawPutFrame.f spec_DrawFrameOk.f
  simp only [e, e2, Option.bind_some]
  exact ⟨_, _, _, _, rfl⟩

theorem laws_FnFrames_j0_true {k : Nat} (hk : 300 ≤ k) {l : List Int} {a b c d : Int} (hb : BytesOk l) (hl : l.length ≤ 1048576) (h : frameOkB a b c d = true) :
    laws_FnFrames.j0 (k + 1) l (putV a b c d) false a b c d = some true := by
  have hv := putV_length a b c d
  have hpos : 0 < (putV a b c d).length := by
    unfold putV
    rw [if_pos h]
    simp
  have hbF : BytesOk (putV a b c d) := by
    unfold putV
    rw [if_pos h]
    refine BytesOk.append (BytesOk.append ?_ (bodyV_bytes a b c d)) ?_
    · intro x hx
      simp at hx
      omega
    · intro x hx
      simp [wide4] at hx
      omega
  have htb : ∀ {l : List Int} {m : Int}, takeV l = (a, b, c, d, m) → 0 < m → samePre l (putV a b c d) ∧ (putV a b c d).length ≤ l.length := fun h hm => takeBegins h hm
  generalize putV a b c d = F at hv hpos hbF htb
  obtain ⟨t1, e1, ht1, ht1'⟩ := at_some hb hl 1 (by omega)
  obtain ⟨t2, e2, ht2, ht2'⟩ := at_some hb hl 2 (by omega)
  replace e1 : laws_at.f l 1 = some t1 := e1
  replace e2 : laws_at.f l 2 = some t2 := e2
  have m1 := Int.tmod_nonneg (F.length : Int) (a := t1) (by omega)
  have m2 := Int.tmod_lt_of_pos t1 (b := (F.length : Int)) (by omega)
  have m3 := Int.tmod_nonneg 255 (a := t2) (by omega)
  have m4 := Int.tmod_lt_of_pos t2 (b := 255) (by omega)
  simp only [laws_FnFrames.j0, Option.bind_some, e1, e2, List.nil_append, List.length_nil, Bool.false_eq_true, if_false]
  rw [if_pos (by omega), if_neg (by omega), if_pos m1, if_pos m2, w64 (x := 1 + t2.tmod 255) (by omega) (by omega)]
  obtain ⟨i, hi⟩ : ∃ i : Nat, t1.tmod (F.length : Int) = (i : Int) := ⟨(t1.tmod (F.length : Int)).toNat, by omega⟩
  rw [hi] at m1 m2 ⊢
  have hri := hbF.rdb i
  have hne := xor8_ne (x := rd F (i : Int)) (q := (1 + t2.tmod 255) % 256) hri (by omega)
  have hxb := bits_xor8 (rd F (i : Int)) ((1 + t2.tmod 255) % 256)
  generalize Go.bits .xor .u8 (rd F (i : Int)) ((1 + t2.tmod 255) % 256) = v at hne hxb ⊢
  rw [Int.toNat_natCast, impl_TakeFrame_eq (by omega) (fun x hx => (List.mem_or_eq_of_mem_set hx).elim (hbF x) (fun e => e ▸ hxb)) (by simp; omega), Option.bind_some]
  rcases hg : takeV (F.set i v) with ⟨g1, g2, g3, g4, m⟩
  have hF : ¬ (m ≤ 0) → g1 = a → g2 = b → g3 = c → g4 = d → False := by
    rintro hm rfl rfl rfl rfl
    obtain ⟨hs, _⟩ := htb hg (by omega)
    have := hs i (by simp; omega) (by omega)
    apply hne
    rw [← this]
    simp [rd, List.getD_eq_getElem?_getD, List.getElem?_set, show i < F.length by omega]
  dsimp only
  by_cases hm : m ≤ 0
  · rw [if_pos hm]
  · rw [if_neg hm]
    congr 1
    by_cases q1 : g1 = a
    · by_cases q2 : g2 = b
      · by_cases q3 : g3 = c
        · by_cases q4 : g4 = d
          · exact (hF hm q1 q2 q3 q4).elim
          · simp [q4]
        · simp [q3]
      · simp [q2]
    · simp [q1]
theorem FnFrames : ∀ (l0 : List Int), l0.length ≤ maxLen → (∀ x ∈ l0, (Lit.int .u8 x).wf = true) → ∃ k, laws_FnFrames.f k l0 = some true := by
  intro l _ hw
  refine ⟨5001, ?_⟩
  have hb := BytesOk.of_wf hw
  simp only [laws_FnFrames.f, laws_big.f, Option.bind_some]
  by_cases hl : (l.length : Int) > 1048576
  · rw [if_pos (decide_eq_true hl)]
  rw [if_neg (by simpa using hl)]
  obtain ⟨a, b, c, d, e0⟩ := DrawPutFrame_some (k := 5001) l (by omega) (by omega)
  have hv := putV_length a b c d
  simp only [e0, Option.bind_some, spec_PutFrame_eq (k := 5001) (by omega), impl_PutFrame_eq (k := 5001) (by omega), sameBytes_refl (k := 5001) (x := putV a b c d) (by omega) (by omega), if_true, spec_FrameOk_eq]
  by_cases h : frameOkB a b c d = true
  · rw [if_pos h]
    have hpos : 0 < (putV a b c d).length := by
      unfold putV
      rw [if_pos h]
      simp
    have hbF : BytesOk (putV a b c d) := by
      unfold putV
      rw [if_pos h]
      refine BytesOk.append (BytesOk.append ?_ (bodyV_bytes a b c d)) ?_
      · intro x hx
        simp at hx
        omega
      · intro x hx
        simp [wide4] at hx
        omega
    obtain ⟨t0, e1, ht0, ht0'⟩ := at_some hb (by omega) 0 (by omega)
    replace e1 : laws_at.f l 0 = some t0 := e1
    have m1 := Int.tmod_nonneg ((putV a b c d).length : Int) (a := t0) (by omega)
    have m2 := Int.tmod_lt_of_pos t0 (b := ((putV a b c d).length : Int)) (by omega)
    have hw := takePut h (putV a b c d).length (Nat.le_refl _)
    rw [List.take_of_length_le (Nat.le_refl _), if_pos rfl] at hw
    have hc := takePut h (t0.tmod ((putV a b c d).length : Int)).toNat (by omega)
    rw [if_neg (by omega)] at hc
    have hj := laws_FnFrames_j0_true (k := 5000) (by omega) hb (show l.length ≤ 1048576 by omega) h
    rw [impl_TakeFrame_eq (by omega) hbF (by omega), hw, Option.bind_some, e1, Option.bind_some, if_neg (by omega), if_pos m1, if_pos (by omega), impl_TakeFrame_eq (by omega) (hbF.take _) (by simp; omega), hc, Option.bind_some]
    simp [hj]
  · rw [if_neg h]
    simp [putV, h]

end Go.Proofs.Ytcflalomjehiiaa.Pure
