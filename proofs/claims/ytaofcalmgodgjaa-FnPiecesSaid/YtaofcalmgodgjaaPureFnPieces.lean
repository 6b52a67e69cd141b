/-
  The law FnPieces answers true: however drawn bytes are cut, the decoder tells the frames of AllFrames. No condition.
-/
import Derived.Test.YtaofcalmgodgjaaQFnPiecesx12
import Derived.Laws.BitsAllLaws
import Derived.OpenShut
namespace Go.Proofs.Ytaofcalmgodgjaa.Pure
open Go.RowKit Go.Proofs.Ytaofcalmgodgjaa.QFnPieces Go.Proofs.YtaofcalmgodgjaaW.PrintWords Go.Proofs.YtaofcalmgodgjaaW.PrintLast Go.Proofs.YtaofcalmgodgjaaW.PrintMore
set_option linter.unusedSimpArgs false
set_option linter.unusedVariables false

theorem w64 {x : Int} (h1 : -9223372036854775808 ≤ x) (h2 : x ≤ 9223372036854775807) : wrap64 x = x := by
  unfold wrap64; omega

theorem wi {i : Nat} (h : i < 4611686018427387904) : wrap64 ((i : Int) + 1) = ((i + 1 : Nat) : Int) := by
  unfold wrap64; omega

theorem i64_xor_nat (a b : Nat) (ha : a < 4294967296) (hb : b < 4294967296) : Go.bits .xor .i64 (a : Int) (b : Int) = ((a ^^^ b : Nat) : Int) := by
  have hx : a ^^^ b < 2 ^ 32 := Nat.xor_lt_two_pow (by omega) (by omega)
  have h1 : (BitVec.ofInt 64 (a : Int)).toNat = a := by
    rw [BitVec.ofInt_natCast, BitVec.toNat_ofNat]; exact Nat.mod_eq_of_lt (by omega)
  have h2 : (BitVec.ofInt 64 (b : Int)).toNat = b := by
    rw [BitVec.ofInt_natCast, BitVec.toNat_ofNat]; exact Nat.mod_eq_of_lt (by omega)
  show IntKind.i64.wrap ((BitVec.ofInt 64 (a : Int) ^^^ BitVec.ofInt 64 (b : Int)).toNat : Int) = _
  rw [BitVec.toNat_xor, h1, h2, IntKind.wrap_i64]
  omega
theorem not_nat (c : Nat) (hc : c < 4294967296) : 4294967295 ^^^ c = 4294967295 - c := by
  apply Nat.eq_of_testBit_eq
  intro i
  have e : (4294967295 - c : Nat) = 2 ^ 32 - (c + 1) := by omega
  rw [Nat.testBit_xor, e, Nat.testBit_two_pow_sub_succ (by omega), show (4294967295 : Nat) = 2 ^ 32 - 1 from rfl, Nat.testBit_two_pow_sub_one]
  by_cases h : i < 32
  · simp [h]
  · have h2 : c.testBit i = false := Nat.testBit_lt_two_pow (Nat.lt_of_lt_of_le (show c < 2 ^ 32 by omega) (Nat.pow_le_pow_right (by omega) (by omega)))
    simp [h, h2]
def crcBit (c : Nat) : Nat := if c % 2 = 1 then (c / 2) ^^^ 3988292384 else c / 2
def crcBits : Nat → Nat → Nat
  | 0, c => c
  | n + 1, c => crcBits n (crcBit c)
theorem crcBit_lt {c : Nat} (h : c < 4294967296) : crcBit c < 4294967296 := by
  unfold crcBit
  split
  · exact Nat.xor_lt_two_pow (n := 32) (by omega) (by omega)
  · omega
theorem crcBits_lt (n : Nat) : ∀ {c : Nat}, c < 4294967296 → crcBits n c < 4294967296 := by
  induction n with
  | zero => intro c h; exact h
  | succ n ih => intro c h; exact ih (crcBit_lt h)
theorem spec_Check_l1 (l : List Int) (x4 : Int) : ∀ (n k c j : Nat), j + n = 8 → c < 4294967296 → spec_Check.l1 (k + n + 1) l (c : Int) x4 (j : Int) = spec_Check.l0 k l (crcBits n c : Nat) (wrap64 (x4 + 1)) := by
  intro n
  induction n with
  | zero =>
    intro k c j hj hc
    simp only [spec_Check.l1, crcBits]
    rw [if_neg (by omega)]
  | succ n ih =>
    intro k c j hj hc
    rw [show k + (n + 1) + 1 = (k + n + 1) + 1 by omega]
    simp only [spec_Check.l1, crcBits]
    have e1 : Int.tmod (c : Int) 2 = ((c % 2 : Nat) : Int) := by rw [Int.tmod_eq_emod_of_nonneg (by omega)]; omega
    have e2 : wrap64 (Int.tdiv (c : Int) 2) = ((c / 2 : Nat) : Int) := by rw [Int.tdiv_eq_ediv_of_nonneg (by omega), w64 (by omega) (by omega)]; omega
    have e3 : Go.bits .xor .i64 ((c / 2 : Nat) : Int) 3988292384 = ((c / 2 ^^^ 3988292384 : Nat) : Int) := i64_xor_nat (c / 2) 3988292384 (by omega) (by omega)
    rw [if_pos (by omega), e1, e2, e3, wi (by omega)]
    have ih' := ih k (crcBit c) (j + 1) (by omega) (crcBit_lt hc)
    by_cases h : c % 2 = 1
    · rw [if_pos (by omega)]
      rw [show crcBit c = c / 2 ^^^ 3988292384 by unfold crcBit; rw [if_pos h]] at ih' ⊢
      exact ih'
    · rw [if_neg (by omega)]
      rw [show crcBit c = c / 2 by unfold crcBit; rw [if_neg h]] at ih' ⊢
      exact ih'
theorem impl_Check_l1 (l : List Int) (x7 x8 : Int) : ∀ (n k c j : Nat), j + n = 8 → c < 4294967296 → impl_Check.l1 (k + n + 1) (c : Int) l x7 x8 (j : Int) = impl_Check.l0 k (crcBits n c : Nat) l x7 (wrap64 (x8 + 1)) := by
  intro n
  induction n with
  | zero =>
    intro k c j hj hc
    simp only [impl_Check.l1, crcBits]
    rw [if_neg (by omega)]
  | succ n ih =>
    intro k c j hj hc
    rw [show k + (n + 1) + 1 = (k + n + 1) + 1 by omega]
    simp only [impl_Check.l1, crcBits]
    have e1 : Go.bits .and .u32 (c : Int) 1 = ((c % 2 : Nat) : Int) := by
      have := u32_and_nat c 1 hc (by omega)
      rw [Nat.and_one_is_mod] at this
      exact this
    have e2 : (c : Int) / 2 = ((c / 2 : Nat) : Int) := by omega
    have e3 : Go.bits .xor .u32 ((c / 2 : Nat) : Int) 3988292384 = ((c / 2 ^^^ 3988292384 : Nat) : Int) := u32_xor_nat (c / 2) 3988292384 (by omega) (by omega)
    rw [if_pos (by omega), e1, e2, e3, wi (by omega)]
    have ih' := ih k (crcBit c) (j + 1) (by omega) (crcBit_lt hc)
    by_cases h : c % 2 = 1
    · rw [if_pos (by omega)]
      rw [show crcBit c = c / 2 ^^^ 3988292384 by unfold crcBit; rw [if_pos h]] at ih' ⊢
      exact ih'
    · rw [if_neg (by omega)]
      rw [show crcBit c = c / 2 by unfold crcBit; rw [if_neg h]] at ih' ⊢
      exact ih'
theorem Check_l0 (l : List Int) (hn : l.length ≤ 1048576) (hl : ∀ i, i < l.length → 0 ≤ rd l (i : Int) ∧ rd l (i : Int) ≤ 255) : ∀ (d k i c : Nat), i + d = l.length → 10 * d < k → c < 4294967296 →
    ∃ r : Nat, r < 4294967296 ∧ spec_Check.l0 k l (c : Int) (i : Int) = some (r : Int) ∧ impl_Check.l0 k (c : Int) l (l.length : Int) (i : Int) = some (r : Int) := by
  intro d
  induction d with
  | zero =>
    intro k i c h hk hc
    obtain ⟨k, rfl⟩ : ∃ m, k = m + 1 := ⟨k - 1, by omega⟩
    refine ⟨4294967295 - c, by omega, ?_, ?_⟩
    · simp only [spec_Check.l0]
      rw [if_neg (by omega), w64 (by omega) (by omega)]
      congr 1
      omega
    · simp only [impl_Check.l0]
      have e := u32_xor_nat 4294967295 c (by omega) hc
      rw [not_nat c hc] at e
      rw [if_neg (by omega), show (4294967295 : Int) = ((4294967295 : Nat) : Int) from rfl, e, w64 (by omega) (by omega)]
  | succ d ih =>
    intro k i c h hk hc
    obtain ⟨k, rfl⟩ : ∃ m, k = m + 8 + 1 + 1 := ⟨k - 10, by omega⟩
    obtain ⟨hb0, hb1⟩ := hl i (by omega)
    obtain ⟨b, hb⟩ : ∃ b : Nat, rd l (i : Int) = (b : Int) := ⟨(rd l (i : Int)).toNat, by omega⟩
    have hx : c ^^^ b < 4294967296 := Nat.xor_lt_two_pow (n := 32) (by omega) (by omega)
    obtain ⟨r, hr, h1, h2⟩ := ih k (i + 1) (crcBits 8 (c ^^^ b)) (by omega) (by omega) (crcBits_lt 8 hx)
    refine ⟨r, hr, ?_, ?_⟩
    · simp only [spec_Check.l0]
      rw [if_pos (by omega), if_pos (by omega), hb, w64 (x := (b : Int)) (by omega) (by omega), i64_xor_nat c b hc (by omega)]
      have e := spec_Check_l1 l (i : Int) 8 k (c ^^^ b) 0 rfl hx
      rw [wi (by omega)] at e
      exact e.trans h1
    · simp only [impl_Check.l0]
      rw [if_pos (by omega), if_pos (by omega), if_pos (by omega), hb, show (b : Int) % 4294967296 = (b : Int) by omega, u32_xor_nat c b hc (by omega)]
      have e := impl_Check_l1 l (l.length : Int) (i : Int) 8 k (c ^^^ b) 0 rfl hx
      rw [wi (by omega)] at e
      exact e.trans h2
theorem Check_both {k : Nat} (l : List Int) (hn : l.length ≤ 1048576) (hl : ∀ i, i < l.length → 0 ≤ rd l (i : Int) ∧ rd l (i : Int) ≤ 255) (hk : 10 * l.length < k) :
    ∃ r : Nat, r < 4294967296 ∧ spec_Check.f k l = some (r : Int) ∧ impl_Check.f k l = some (r : Int) :=
  Check_l0 l hn hl l.length k 0 4294967295 (by omega) hk (by omega)
theorem bytes_range {l : List Int} (h : ∀ x ∈ l, (Lit.int .u8 x).wf = true) : ∀ i, i < l.length → 0 ≤ rd l (i : Int) ∧ rd l (i : Int) ≤ 255 := by
  intro i hi
  have e : rd l (i : Int) = l[i] := by simp [rd, List.getD_eq_getElem?_getD, List.getElem?_eq_getElem hi]
  rw [e]
  exact Go.bounds_u8 (h _ (List.getElem_mem hi))

theorem or256 {a b : Int} (h0 : 0 ≤ a) (h1 : a ≤ 4294967295) (h2 : 0 ≤ b) (h3 : b ≤ 255) : Go.bits .or .i64 (a * 256) b = a * 256 + b := by
  obtain ⟨x, rfl⟩ : ∃ x : Nat, a = (x : Int) := ⟨a.toNat, by omega⟩
  obtain ⟨y, rfl⟩ : ∃ y : Nat, b = (y : Int) := ⟨b.toNat, by omega⟩
  have e1 : (BitVec.ofInt 64 ((x : Int) * 256)).toNat = x * 256 := by
    rw [show (x : Int) * 256 = ((x * 256 : Nat) : Int) by omega, BitVec.ofInt_natCast, BitVec.toNat_ofNat]; exact Nat.mod_eq_of_lt (by omega)
  have e2 : (BitVec.ofInt 64 (y : Int)).toNat = y := by
    rw [BitVec.ofInt_natCast, BitVec.toNat_ofNat]; exact Nat.mod_eq_of_lt (by omega)
  have e3 : x * 256 ||| y = x * 256 + y := by
    have := Nat.two_pow_add_eq_or_of_lt (i := 8) (b := y) (by omega) x
    rw [show x * 256 = 2 ^ 8 * x by omega]
    omega
  show IntKind.i64.wrap ((BitVec.ofInt 64 ((x : Int) * 256) ||| BitVec.ofInt 64 (y : Int)).toNat : Int) = _
  rw [BitVec.toNat_or, e1, e2, e3, IntKind.wrap_i64]
  omega
theorem read_step {k : Nat} {l : List Int} {i : Nat} {x y : Int} (hi : i < l.length) (hl : l.length ≤ 100) (hx : 0 ≤ x) (hx2 : x ≤ 4294967295) (hy : rd l (i : Int) = y) (hy0 : 0 ≤ y) (hy1 : y ≤ 255) :
    spec_l02Read.l0 (k + 1) l x (i : Int) = spec_l02Read.l0 k l (256 * x + y) ((i + 1 : Nat) : Int) := by
  simp only [spec_l02Read.l0]
  rw [if_pos (by omega), if_pos (by omega), hy, wi (by omega), w64 (x := y) (by omega) (by omega), w64 (x := 256 * x) (by omega) (by omega), w64 (x := 256 * x + y) (by omega) (by omega)]
theorem read_end {k : Nat} {l : List Int} {x : Int} {i : Nat} (hi : i = l.length) : spec_l02Read.l0 (k + 1) l x (i : Int) = some x := by
  simp only [spec_l02Read.l0]
  rw [if_neg (by omega)]
theorem number_step {k : Nat} {l : List Int} {i : Nat} {x y : Int} (hi : i < l.length) (hl : l.length ≤ 100) (hx : 0 ≤ x) (hx2 : x ≤ 4294967295) (hy : rd l (i : Int) = y) (hy0 : 0 ≤ y) (hy1 : y ≤ 255) :
    impl_number.l0 (k + 1) x l (l.length : Int) (i : Int) = impl_number.l0 k (256 * x + y) l (l.length : Int) ((i + 1 : Nat) : Int) := by
  simp only [impl_number.l0]
  rw [if_pos (by omega), if_pos (by omega), if_pos (by omega), hy, wi (by omega), w64 (x := y) (by omega) (by omega), w64 (x := x * 256) (by omega) (by omega), or256 hx hx2 hy0 hy1, show x * 256 + y = 256 * x + y by omega]
theorem number_end {k : Nat} {l : List Int} {x : Int} {i : Nat} (hi : i = l.length) : impl_number.l0 (k + 1) x l (l.length : Int) (i : Int) = some x := by
  simp only [impl_number.l0]
  rw [if_neg (by omega)]
theorem read2 {k : Nat} (hk : 5 ≤ k) {a b : Int} (ha : 0 ≤ a ∧ a ≤ 255) (hb : 0 ≤ b ∧ b ≤ 255) : spec_l02Read.f k [a, b] = some (256 * a + b) ∧ impl_number.f k [a, b] = some (256 * a + b) := by
  obtain ⟨k, rfl⟩ : ∃ m, k = m + 1 + 1 + 1 := ⟨k - 3, by omega⟩
  refine ⟨?_, ?_⟩
  · unfold spec_l02Read.f
    have s1 := read_step (k := k + 1 + 1) (l := [a, b]) (i := 0) (x := 0) (y := a) (by simp) (by simp) (by omega) (by omega) rfl ha.1 ha.2
    have s2 := read_step (k := k + 1) (l := [a, b]) (i := 1) (x := 256 * 0 + a) (y := b) (by simp) (by simp) (by omega) (by omega) rfl hb.1 hb.2
    have s3 := read_end (k := k) (l := [a, b]) (i := 2) (x := 256 * (256 * 0 + a) + b) rfl
    rw [show 256 * a + b = 256 * (256 * 0 + a) + b by omega]
    exact s1.trans (s2.trans s3)
  · unfold impl_number.f
    have s1 := number_step (k := k + 1 + 1) (l := [a, b]) (i := 0) (x := 0) (y := a) (by simp) (by simp) (by omega) (by omega) rfl ha.1 ha.2
    have s2 := number_step (k := k + 1) (l := [a, b]) (i := 1) (x := 256 * 0 + a) (y := b) (by simp) (by simp) (by omega) (by omega) rfl hb.1 hb.2
    have s3 := number_end (k := k) (l := [a, b]) (i := 2) (x := 256 * (256 * 0 + a) + b) rfl
    rw [show 256 * a + b = 256 * (256 * 0 + a) + b by omega]
    exact s1.trans (s2.trans s3)
theorem read3 {k : Nat} (hk : 5 ≤ k) {a b c : Int} (ha : 0 ≤ a ∧ a ≤ 255) (hb : 0 ≤ b ∧ b ≤ 255) (hc : 0 ≤ c ∧ c ≤ 255) : spec_l02Read.f k [a, b, c] = some (65536 * a + 256 * b + c) ∧ impl_number.f k [a, b, c] = some (65536 * a + 256 * b + c) := by
  obtain ⟨k, rfl⟩ : ∃ m, k = m + 1 + 1 + 1 + 1 := ⟨k - 4, by omega⟩
  refine ⟨?_, ?_⟩
  · unfold spec_l02Read.f
    have s1 := read_step (k := k + 1 + 1 + 1) (l := [a, b, c]) (i := 0) (x := 0) (y := a) (by simp) (by simp) (by omega) (by omega) rfl ha.1 ha.2
    have s2 := read_step (k := k + 1 + 1) (l := [a, b, c]) (i := 1) (x := 256 * 0 + a) (y := b) (by simp) (by simp) (by omega) (by omega) rfl hb.1 hb.2
    have s3 := read_step (k := k + 1) (l := [a, b, c]) (i := 2) (x := 256 * (256 * 0 + a) + b) (y := c) (by simp) (by simp) (by omega) (by omega) rfl hc.1 hc.2
    have s4 := read_end (k := k) (l := [a, b, c]) (i := 3) (x := 256 * (256 * (256 * 0 + a) + b) + c) rfl
    rw [show 65536 * a + 256 * b + c = 256 * (256 * (256 * 0 + a) + b) + c by omega]
    exact s1.trans (s2.trans (s3.trans s4))
  · unfold impl_number.f
    have s1 := number_step (k := k + 1 + 1 + 1) (l := [a, b, c]) (i := 0) (x := 0) (y := a) (by simp) (by simp) (by omega) (by omega) rfl ha.1 ha.2
    have s2 := number_step (k := k + 1 + 1) (l := [a, b, c]) (i := 1) (x := 256 * 0 + a) (y := b) (by simp) (by simp) (by omega) (by omega) rfl hb.1 hb.2
    have s3 := number_step (k := k + 1) (l := [a, b, c]) (i := 2) (x := 256 * (256 * 0 + a) + b) (y := c) (by simp) (by simp) (by omega) (by omega) rfl hc.1 hc.2
    have s4 := number_end (k := k) (l := [a, b, c]) (i := 3) (x := 256 * (256 * (256 * 0 + a) + b) + c) rfl
    rw [show 65536 * a + 256 * b + c = 256 * (256 * (256 * 0 + a) + b) + c by omega]
    exact s1.trans (s2.trans (s3.trans s4))

def BytesOk (l : List Int) : Prop := ∀ x ∈ l, 0 ≤ x ∧ x ≤ 255
theorem BytesOk.of_wf {l : List Int} (h : ∀ x ∈ l, (Lit.int .u8 x).wf = true) : BytesOk l := fun x hx => Go.bounds_u8 (h x hx)
theorem BytesOk.rdb {l : List Int} (h : BytesOk l) (i : Nat) : 0 ≤ rd l (i : Int) ∧ rd l (i : Int) ≤ 255 := by
  by_cases hi : i < l.length
  · have e : rd l (i : Int) = l[i] := by simp [rd, List.getD_eq_getElem?_getD, List.getElem?_eq_getElem hi]
    rw [e]
    exact h _ (List.getElem_mem hi)
  · have e : rd l (i : Int) = 0 := by simp [rd, List.getD_eq_getElem?_getD, List.getElem?_eq_none (Nat.le_of_not_lt hi)]
    rw [e]; omega
theorem BytesOk.take {l : List Int} (h : BytesOk l) (n : Nat) : BytesOk (l.take n) := fun x hx => h x (List.mem_of_mem_take hx)
theorem BytesOk.drop {l : List Int} (h : BytesOk l) (n : Nat) : BytesOk (l.drop n) := fun x hx => h x (List.mem_of_mem_drop hx)
theorem BytesOk.append {l m : List Int} (h : BytesOk l) (h2 : BytesOk m) : BytesOk (l ++ m) := fun x hx => (List.mem_append.1 hx).elim (h x) (h2 x)
theorem BytesOk.zeros (n : Nat) : BytesOk (List.replicate n 0) := fun x hx => by rw [List.eq_of_mem_replicate hx]; omega

theorem spec_in_eq (a lo hi : Int) : spec_l01In.f a lo hi = some (decide (lo ≤ a ∧ a ≤ hi)) := by
  unfold spec_l01In.f; by_cases h : lo ≤ a <;> simp [h]

theorem impl_within_eq (a lo hi : Int) : impl_within.f a lo hi = some (decide (lo ≤ a ∧ a ≤ hi)) := by
  unfold impl_within.f; by_cases h : lo ≤ a <;> simp [h]

theorem impl_isKey_eq (a : Int) : impl_isKey.f a = some (decide (0 ≤ a ∧ a ≤ 65535)) := by
  simp only [impl_isKey.f, impl_within_eq, Option.bind_some]

theorem impl_isTime_eq (a : Int) : impl_isTime.f a = some (decide (0 ≤ a ∧ a ≤ 1000000)) := by
  simp only [impl_isTime.f, impl_within_eq, Option.bind_some]

theorem impl_isValue_eq (a : Int) : impl_isValue.f a = some (decide ((-1000000) ≤ a ∧ a ≤ 1000000)) := by
  simp only [impl_isValue.f, impl_within_eq, Option.bind_some]

theorem impl_FrameOk_eq (a b c d : Int) : impl_FrameOk.f a b c d = spec_FrameOk.f a b c d := by
  simp only [impl_FrameOk.f, spec_FrameOk.f, spec_in_eq, impl_isKey_eq, impl_isTime_eq, impl_isValue_eq, Option.bind_some]
  by_cases h1 : a = 1
  · simp [h1]
  · by_cases h2 : a = 2
    · simp [h2]
    · by_cases h3 : a = 3
      · by_cases h4 : b = 0
        · by_cases h5 : c = 0
          · simp [h3, h4, h5]
          · simp [h3, h4, h5]
        · simp [h3, h4]
      · simp [h1, h2, h3]
theorem spec_FrameOk_some (a b c d : Int) : ∃ r, spec_FrameOk.f a b c d = some r := by
  simp only [spec_FrameOk.f, spec_in_eq, Option.bind_some]
  (repeat' split) <;> exact ⟨_, rfl⟩

def frameOkB (a b c d : Int) : Bool :=
  if a = 1 then decide (0 ≤ b ∧ b ≤ 65535) && (decide (0 ≤ c ∧ c ≤ 1000000) && decide (-1000000 ≤ d ∧ d ≤ 1000000))
  else if a = 2 then decide (b = 0) && (decide (0 ≤ c ∧ c ≤ 1000000) && decide (d = 0))
  else if a = 3 then decide (b = 0) && (decide (c = 0) && decide (d = 0)) else false
theorem spec_FrameOk_eq (a b c d : Int) : spec_FrameOk.f a b c d = some (frameOkB a b c d) := by
  simp only [spec_FrameOk.f, spec_in_eq, Option.bind_some, frameOkB]
  by_cases h1 : a = 1
  · rw [if_pos h1, if_pos h1]
    by_cases h2 : 0 ≤ b ∧ b ≤ 65535
    · by_cases h3 : 0 ≤ c ∧ c ≤ 1000000
      · simp [h2, h3]
      · simp [h2, h3]
    · simp [h2]
  · rw [if_neg h1, if_neg h1]
    by_cases h2 : a = 2
    · rw [if_pos h2, if_pos h2]
      by_cases h3 : b = 0
      · by_cases h4 : 0 ≤ c ∧ c ≤ 1000000
        · simp [h3, h4]; rfl
        · simp [h3, h4]
      · simp [h3]
    · rw [if_neg h2, if_neg h2]
      by_cases h3 : a = 3
      · by_cases h4 : b = 0
        · by_cases h5 : c = 0
          · simp [h3, h4, h5]; rfl
          · simp [h3, h4, h5]
        · simp [h3, h4]
      · simp [h3]
theorem frameOkB_kind {a b c d : Int} (h : frameOkB a b c d = true) : (a = 1 ∧ (0 ≤ b ∧ b ≤ 65535) ∧ (0 ≤ c ∧ c ≤ 1000000) ∧ (-1000000 ≤ d ∧ d ≤ 1000000)) ∨ (a = 2 ∧ b = 0 ∧ (0 ≤ c ∧ c ≤ 1000000) ∧ d = 0) ∨ (a = 3 ∧ b = 0 ∧ c = 0 ∧ d = 0) := by
  unfold frameOkB at h
  by_cases h1 : a = 1
  · rw [if_pos h1] at h
    simp at h
    exact .inl ⟨h1, h.1, h.2.1, h.2.2⟩
  · rw [if_neg h1] at h
    by_cases h2 : a = 2
    · rw [if_pos h2] at h
      simp at h
      exact .inr (.inl ⟨h2, h.1, h.2.1, h.2.2⟩)
    · rw [if_neg h2] at h
      by_cases h3 : a = 3
      · rw [if_pos h3] at h
        simp at h
        exact .inr (.inr ⟨h3, h.1, h.2.1, h.2.2⟩)
      · rw [if_neg h3] at h
        cases h

def pf (l : List Int) : Int × Int × Int × Int :=
  if rd l 0 = 1 ∧ l.length = 9 then (1, 256 * rd l 1 + rd l 2, 65536 * rd l 3 + 256 * rd l 4 + rd l 5, 65536 * rd l 6 + 256 * rd l 7 + rd l 8 - 1000000)
  else if rd l 0 = 2 ∧ l.length = 4 then (2, 0, 65536 * rd l 1 + 256 * rd l 2 + rd l 3, 0)
  else if rd l 0 = 3 ∧ l.length = 1 then (3, 0, 0, 0) else (0, 0, 0, 0)
def okF (f : Int × Int × Int × Int) : Bool := frameOkB f.1 f.2.1 f.2.2.1 f.2.2.2
theorem rd0 {x : Int} {l : List Int} : rd (x :: l) 0 = x := rfl
theorem list9 {l : List Int} (h : l.length = 9) : ∃ a b c d e f g i j, l = [a, b, c, d, e, f, g, i, j] := by
  match l, h with
  | [a, b, c, d, e, f, g, i, j], _ => exact ⟨a, b, c, d, e, f, g, i, j, rfl⟩
theorem list4 {l : List Int} (h : l.length = 4) : ∃ a b c d, l = [a, b, c, d] := by
  match l, h with
  | [a, b, c, d], _ => exact ⟨a, b, c, d, rfl⟩
theorem impl_frameOf_eq {k : Nat} (hk : 20 ≤ k) {l : List Int} (hb : BytesOk l) (h0 : 0 < l.length) (h9 : l.length ≤ 9) : impl_frameOf.f k l = some (pf l) := by
  obtain ⟨k, rfl⟩ : ∃ m, k = m + 1 + 1 := ⟨k - 2, by omega⟩
  have hr := hb.rdb 0
  simp only [impl_frameOf.f]
  rw [if_pos (by omega), w64 (x := rd l 0) (by have := hr.1; simp at this; omega) (by have := hr.2; simp at this; omega)]
  by_cases h1 : rd l 0 = 1
  · rw [if_pos h1]
    by_cases h2 : l.length = 9
    · obtain ⟨a, b, c, d, e, f, g, i, j, rfl⟩ := list9 h2
      have hm : ∀ x, x ∈ [a, b, c, d, e, f, g, i, j] → 0 ≤ x ∧ x ≤ 255 := hb
      simp only [List.mem_cons, List.mem_nil_iff, or_false] at hm
      have e1 := (read2 (k := k + 1) (by omega) (hm b (by simp)) (hm c (by simp))).2
      have e2 := (read3 (k := k + 1) (by omega) (hm d (by simp)) (hm e (by simp)) (hm f (by simp))).2
      have e3 := (read3 (k := k + 1) (by omega) (hm g (by simp)) (hm i (by simp)) (hm j (by simp))).2
      have q1 := hm g (by simp); have q2 := hm i (by simp); have q3 := hm j (by simp)
      have ha : a = 1 := h1
      simp only [impl_frameOf.j0, pf, List.take_succ_cons, List.take_zero, List.drop_succ_cons, List.drop_zero, e1, e2, e3, Option.bind_some, List.length_cons, List.length_nil]
      simp [w64 (x := 65536 * g + 256 * i + j - 1000000) (by omega) (by omega), ha, rd]
    · have h3 : (((l.length : Int) == 9) = false) := by simp; omega
      rw [h3]
      have h4 : pf l = (0, 0, 0, 0) := by simp [pf, h1, h2]
      simp [impl_frameOf.j0, impl_frameOf.j1, h1, h4]
  · rw [if_neg h1]
    by_cases h2 : rd l 0 = 2
    · by_cases h3 : l.length = 4
      · obtain ⟨a, b, c, d, rfl⟩ := list4 h3
        have hm : ∀ x, x ∈ [a, b, c, d] → 0 ≤ x ∧ x ≤ 255 := hb
        simp only [List.mem_cons, List.mem_nil_iff, or_false] at hm
        have e1 := (read3 (k := k) (by omega) (hm b (by simp)) (hm c (by simp)) (hm d (by simp))).2
        have ha : a = 2 := h2
        simp only [impl_frameOf.j0, impl_frameOf.j1, pf, List.take_succ_cons, List.take_zero, List.drop_succ_cons, List.drop_zero, e1, Option.bind_some, List.length_cons, List.length_nil]
        simp [ha, rd]
      · have h4 : (((l.length : Int) == 4) = false) := by simp; omega
        have h5 : pf l = (0, 0, 0, 0) := by simp [pf, h2, h3]
        simp [impl_frameOf.j0, impl_frameOf.j1, h2, h4, h5]
    · by_cases h3 : rd l 0 = 3
      · by_cases h4 : l.length = 1
        · have h5 : pf l = (3, 0, 0, 0) := by simp [pf, h3, h4]
          simp [impl_frameOf.j0, impl_frameOf.j1, h3, h4, h5]
        · have h5 : pf l = (0, 0, 0, 0) := by simp [pf, h3, h4]
          have h6 : ¬ (l.length : Int) = 1 := by omega
          simp [impl_frameOf.j0, impl_frameOf.j1, h3, h6, h5]
      · have h5 : pf l = (0, 0, 0, 0) := by simp [pf, h1, h2, h3]
        simp [impl_frameOf.j0, impl_frameOf.j1, h2, h3, h5]
def bodyRes (l : List Int) : Int × Int × Int × Int × Bool := if okF (pf l) = true then ((pf l).1, (pf l).2.1, (pf l).2.2.1, (pf l).2.2.2, true) else (0, 0, 0, 0, false)
theorem spec_l02Body_eq {k : Nat} (hk : 20 ≤ k) {l : List Int} (hb : BytesOk l) (h0 : 0 < l.length) (h9 : l.length ≤ 9) : spec_l02Body.f k l = some (bodyRes l) := by
  have hr := hb.rdb 0
  simp only [spec_l02Body.f, spec_l02Size.f]
  rw [if_pos (by omega), w64 (x := rd l 0) (by have := hr.1; simp at this; omega) (by have := hr.2; simp at this; omega)]
  by_cases h1 : rd l 0 = 1
  · by_cases h2 : l.length = 9
    · obtain ⟨a, b, c, d, e, f, g, i, j, rfl⟩ := list9 h2
      have hm : ∀ x, x ∈ [a, b, c, d, e, f, g, i, j] → 0 ≤ x ∧ x ≤ 255 := hb
      simp only [List.mem_cons, List.mem_nil_iff, or_false] at hm
      have e1 := (read2 (k := k) (by omega) (hm b (by simp)) (hm c (by simp))).1
      have e2 := (read3 (k := k) (by omega) (hm d (by simp)) (hm e (by simp)) (hm f (by simp))).1
      have e3 := (read3 (k := k) (by omega) (hm g (by simp)) (hm i (by simp)) (hm j (by simp))).1
      have q1 := hm g (by simp); have q2 := hm i (by simp); have q3 := hm j (by simp)
      have ha : a = 1 := h1
      have hp : pf [a, b, c, d, e, f, g, i, j] = (1, 256 * b + c, 65536 * d + 256 * e + f, 65536 * g + 256 * i + j - 1000000) := by simp [pf, ha, rd]
      simp only [List.take_succ_cons, List.take_zero, List.drop_succ_cons, List.drop_zero, e1, e2, e3, Option.bind_some, List.length_cons, List.length_nil, bodyRes, hp, okF, spec_FrameOk_eq]
      simp [w64 (x := 65536 * g + 256 * i + j - 1000000) (by omega) (by omega), ha, rd]
      split <;> rfl
    · have h3 : ¬ (l.length : Int) = 9 := by omega
      have h4 : pf l = (0, 0, 0, 0) := by simp [pf, h1, h2]
      simp [h1, h3, bodyRes, h4, okF, frameOkB]
  · by_cases h2 : rd l 0 = 2
    · by_cases h3 : l.length = 4
      · obtain ⟨a, b, c, d, rfl⟩ := list4 h3
        have hm : ∀ x, x ∈ [a, b, c, d] → 0 ≤ x ∧ x ≤ 255 := hb
        simp only [List.mem_cons, List.mem_nil_iff, or_false] at hm
        have e1 := (read3 (k := k) (by omega) (hm b (by simp)) (hm c (by simp)) (hm d (by simp))).1
        have ha : a = 2 := h2
        have hp : pf [a, b, c, d] = (2, 0, 65536 * b + 256 * c + d, 0) := by simp [pf, ha, rd]
        simp only [List.take_succ_cons, List.take_zero, List.drop_succ_cons, List.drop_zero, e1, Option.bind_some, List.length_cons, List.length_nil, bodyRes, hp, okF, spec_FrameOk_eq]
        simp [ha, rd]
        split <;> rfl
      · have h4 : ¬ (l.length : Int) = 4 := by omega
        have h5 : pf l = (0, 0, 0, 0) := by simp [pf, h2, h3]
        simp [h2, h4, bodyRes, h5, okF, frameOkB]
    · by_cases h3 : rd l 0 = 3
      · by_cases h4 : l.length = 1
        · have h5 : pf l = (3, 0, 0, 0) := by simp [pf, h3, h4]
          simp [h3, h4, bodyRes, h5, okF, frameOkB, spec_FrameOk_eq]
        · have h5 : pf l = (0, 0, 0, 0) := by simp [pf, h3, h4]
          have h6 : ¬ (l.length : Int) = 1 := by omega
          simp [h3, h6, bodyRes, h5, okF, frameOkB]
      · have h5 : pf l = (0, 0, 0, 0) := by simp [pf, h1, h2, h3]
        have h6 : ¬ (l.length : Int) = 0 := by omega
        have h7 : l ≠ [] := by rintro rfl; simp at h0
        simp [h1, h2, h3, h6, h7, bodyRes, h5, okF, frameOkB]
theorem okF_kind {l : List Int} (h : okF (pf l) = true) : (rd l 0 = 1 ∧ l.length = 9) ∨ (rd l 0 = 2 ∧ l.length = 4) ∨ (rd l 0 = 3 ∧ l.length = 1) := by
  unfold pf at h
  split at h
  · rename_i h1; exact .inl h1
  · split at h
    · rename_i h1; exact .inr (.inl h1)
    · split at h
      · rename_i h1; exact .inr (.inr h1)
      · simp [okF, frameOkB] at h

def crcV (l : List Int) : Int := (spec_Check.f (10 * l.length + 1) l).getD 0
theorem Check_eq {k : Nat} {l : List Int} (hn : l.length ≤ 1048576) (hl : ∀ i, i < l.length → 0 ≤ rd l (i : Int) ∧ rd l (i : Int) ≤ 255) (hk : 10 * l.length < k) :
    spec_Check.f k l = some (crcV l) ∧ impl_Check.f k l = some (crcV l) ∧ 0 ≤ crcV l ∧ crcV l < 4294967296 := by
  obtain ⟨r, hr, h1, _⟩ := Check_both (k := 10 * l.length + 1) l hn hl (by omega)
  obtain ⟨r', hr', h2, h3⟩ := Check_both (k := k) l hn hl hk
  have e := at_rounds (g := fun k => spec_Check.f k l) (fun k => spec_Check.mono l k) (show 10 * l.length + 1 ≤ k by omega) h1
  have e2 : (r' : Int) = (r : Int) := Option.some.inj (h2.symm.trans e)
  have e3 : crcV l = (r : Int) := by rw [crcV, h1]; rfl
  rw [e3]
  exact ⟨e, by rw [h3, e2], by omega, by omega⟩

theorem shr0 (x : Int) : shr .i64 x 0 = x := by simp [shr]
theorem shr8 (x : Int) : shr .i64 x 8 = x / 256 := by simp [shr, IntKind.bits]
theorem shr16 (x : Int) : shr .i64 x 16 = x / 65536 := by simp [shr, IntKind.bits]
theorem shr24 (x : Int) : shr .i64 x 24 = x / 16777216 := by simp [shr, IntKind.bits]
theorem and255 {x : Int} (h0 : 0 ≤ x) (h1 : x ≤ 1099511627776) : Go.bits .and .i64 x 255 = x % 256 := by
  obtain ⟨a, rfl⟩ : ∃ a : Nat, x = (a : Int) := ⟨x.toNat, by omega⟩
  have e1 : (BitVec.ofInt 64 (a : Int)).toNat = a := by
    rw [BitVec.ofInt_natCast, BitVec.toNat_ofNat]; exact Nat.mod_eq_of_lt (by omega)
  have e2 : (BitVec.ofInt 64 (255 : Int)).toNat = 255 := by decide
  have e3 : a &&& 255 = a % 256 := Nat.and_two_pow_sub_one_eq_mod a 8
  show IntKind.i64.wrap ((BitVec.ofInt 64 (a : Int) &&& BitVec.ofInt 64 255).toNat : Int) = _
  rw [BitVec.toNat_and, e1, e2, e3, IntKind.wrap_i64]
  omega
def wide2 (x : Int) : List Int := [x / 256 % 256, x % 256]
def wide3 (x : Int) : List Int := [x / 65536 % 256, x / 256 % 256, x % 256]
def wide4 (x : Int) : List Int := [x / 16777216 % 256, x / 65536 % 256, x / 256 % 256, x % 256]

theorem spec_l02Wide_step {k : Nat} {x i : Int} {acc : List Int} (h0 : 0 ≤ i) (h1 : i ≤ 3) (hx : 0 ≤ x) (hx2 : x ≤ 1099511627776) (ha : acc.length ≤ 10) {y : Int} (hy : shr .i64 x (8 * i) = y) (hy0 : 0 ≤ y) (hy1 : y ≤ 1099511627776) :
    spec_l02Wide.l0 (k + 1) x acc i = spec_l02Wide.l0 k x (acc ++ [y % 256]) (i - 1) := by
  have e1 : IntKind.u64.wrap (wrap64 (8 * i)) = 8 * i := by
    rw [w64 (by omega) (by omega), IntKind.wrap_u64]; omega
  simp only [spec_l02Wide.l0]
  rw [if_pos (by omega), e1, if_pos (by omega), if_pos (by omega), w64 (x := i - 1) (by omega) (by omega), hy, and255 hy0 hy1]
  congr 3
  omega
theorem spec_l02Wide_end {k : Nat} {x : Int} {acc : List Int} : spec_l02Wide.l0 (k + 1) x acc (-1) = some acc := by
  simp only [spec_l02Wide.l0]
  rw [if_neg (by omega)]
theorem spec_l02Wide2 {k : Nat} (hk : 6 ≤ k) {x : Int} (hx : 0 ≤ x) (hx2 : x ≤ 1099511627776) : spec_l02Wide.f k x 2 = some (wide2 x) := by
  obtain ⟨k, rfl⟩ : ∃ m, k = m + 1 + 1 + 1 := ⟨k - 3, by omega⟩
  unfold spec_l02Wide.f
  rw [w64 (by omega) (by omega), spec_l02Wide_step (y := x / 256) (by omega) (by omega) hx hx2 (by simp) (shr8 x) (by omega) (by omega),
    spec_l02Wide_step (y := x) (by omega) (by omega) hx hx2 (by simp) (shr0 x) (by omega) (by omega)]
  exact spec_l02Wide_end
theorem spec_l02Wide3 {k : Nat} (hk : 6 ≤ k) {x : Int} (hx : 0 ≤ x) (hx2 : x ≤ 1099511627776) : spec_l02Wide.f k x 3 = some (wide3 x) := by
  obtain ⟨k, rfl⟩ : ∃ m, k = m + 1 + 1 + 1 + 1 := ⟨k - 4, by omega⟩
  unfold spec_l02Wide.f
  rw [w64 (by omega) (by omega), spec_l02Wide_step (y := x / 65536) (by omega) (by omega) hx hx2 (by simp) (shr16 x) (by omega) (by omega),
    spec_l02Wide_step (y := x / 256) (by omega) (by omega) hx hx2 (by simp) (shr8 x) (by omega) (by omega),
    spec_l02Wide_step (y := x) (by omega) (by omega) hx hx2 (by simp) (shr0 x) (by omega) (by omega)]
  exact spec_l02Wide_end
theorem spec_l02Wide4 {k : Nat} (hk : 6 ≤ k) {x : Int} (hx : 0 ≤ x) (hx2 : x ≤ 1099511627776) : spec_l02Wide.f k x 4 = some (wide4 x) := by
  obtain ⟨k, rfl⟩ : ∃ m, k = m + 1 + 1 + 1 + 1 + 1 := ⟨k - 5, by omega⟩
  unfold spec_l02Wide.f
  rw [w64 (by omega) (by omega), spec_l02Wide_step (y := x / 16777216) (by omega) (by omega) hx hx2 (by simp) (shr24 x) (by omega) (by omega),
    spec_l02Wide_step (y := x / 65536) (by omega) (by omega) hx hx2 (by simp) (shr16 x) (by omega) (by omega),
    spec_l02Wide_step (y := x / 256) (by omega) (by omega) hx hx2 (by simp) (shr8 x) (by omega) (by omega),
    spec_l02Wide_step (y := x) (by omega) (by omega) hx hx2 (by simp) (shr0 x) (by omega) (by omega)]
  exact spec_l02Wide_end

theorem impl_putNumber_step {k : Nat} {x i : Int} {acc : List Int} (h0 : 0 ≤ i) (h1 : i ≤ 3) (ha : acc.length ≤ 1048590) {y : Int} (hy : shr .i64 x (8 * i) = y) :
    impl_putNumber.l0 (k + 1) acc x i = impl_putNumber.l0 k (acc ++ [y % 256]) x (i - 1) := by
  simp only [impl_putNumber.l0]
  rw [if_pos (by omega), w64 (x := 8 * i) (by omega) (by omega), if_pos (by omega), if_pos (by omega), w64 (x := i - 1) (by omega) (by omega), hy]
theorem impl_putNumber_end {k : Nat} {x : Int} {acc : List Int} : impl_putNumber.l0 (k + 1) acc x (-1) = some acc := by
  simp only [impl_putNumber.l0]
  rw [if_neg (by omega)]
theorem impl_putNumber2 {k : Nat} (hk : 6 ≤ k) {x : Int} {acc : List Int} (ha : acc.length ≤ 1048576) : impl_putNumber.f k acc x 2 = some (acc ++ wide2 x) := by
  obtain ⟨k, rfl⟩ : ∃ m, k = m + 1 + 1 + 1 := ⟨k - 3, by omega⟩
  unfold impl_putNumber.f
  rw [w64 (by omega) (by omega), impl_putNumber_step (y := x / 256) (by omega) (by omega) (by omega) (shr8 x),
    impl_putNumber_step (y := x) (by omega) (by omega) (by simp; omega) (shr0 x), show (2 - 1 - 1 - 1 : Int) = -1 by omega, impl_putNumber_end]
  simp [wide2]
theorem impl_putNumber3 {k : Nat} (hk : 6 ≤ k) {x : Int} {acc : List Int} (ha : acc.length ≤ 1048576) : impl_putNumber.f k acc x 3 = some (acc ++ wide3 x) := by
  obtain ⟨k, rfl⟩ : ∃ m, k = m + 1 + 1 + 1 + 1 := ⟨k - 4, by omega⟩
  unfold impl_putNumber.f
  rw [w64 (by omega) (by omega), impl_putNumber_step (y := x / 65536) (by omega) (by omega) (by omega) (shr16 x), impl_putNumber_step (y := x / 256) (by omega) (by omega) (by simp; omega) (shr8 x),
    impl_putNumber_step (y := x) (by omega) (by omega) (by simp; omega) (shr0 x), show (3 - 1 - 1 - 1 - 1 : Int) = -1 by omega, impl_putNumber_end]
  simp [wide3]
theorem impl_putNumber4 {k : Nat} (hk : 6 ≤ k) {x : Int} {acc : List Int} (ha : acc.length ≤ 1048576) : impl_putNumber.f k acc x 4 = some (acc ++ wide4 x) := by
  obtain ⟨k, rfl⟩ : ∃ m, k = m + 1 + 1 + 1 + 1 + 1 := ⟨k - 5, by omega⟩
  unfold impl_putNumber.f
  rw [w64 (by omega) (by omega), impl_putNumber_step (y := x / 16777216) (by omega) (by omega) (by omega) (shr24 x), impl_putNumber_step (y := x / 65536) (by omega) (by omega) (by simp; omega) (shr16 x), impl_putNumber_step (y := x / 256) (by omega) (by omega) (by simp; omega) (shr8 x),
    impl_putNumber_step (y := x) (by omega) (by omega) (by simp; omega) (shr0 x), show (4 - 1 - 1 - 1 - 1 - 1 : Int) = -1 by omega, impl_putNumber_end]
  simp [wide4]

theorem rd_at {x : List Int} {i : Nat} (h : i < x.length) : x[i]? = some (rd x (i : Int)) := by
  simp [rd, List.getD_eq_getElem?_getD, List.getElem?_eq_getElem h]

theorem spec_l01Bytes_l0 (x0 : List Int) (hn : x0.length ≤ 1048576) : ∀ (d k i : Nat), i + d = x0.length → d < k → spec_l01Bytes.l0 k x0 (x0.take i) (i : Int) = some x0 := by
  intro d
  induction d with
  | zero =>
    intro k i h hk
    obtain ⟨k, rfl⟩ : ∃ m, k = m + 1 := ⟨k - 1, by omega⟩
    simp only [spec_l01Bytes.l0]
    rw [if_neg (by omega), List.take_of_length_le (by omega)]
  | succ d ih =>
    intro k i h hk
    obtain ⟨k, rfl⟩ : ∃ m, k = m + 1 := ⟨k - 1, by omega⟩
    simp only [spec_l01Bytes.l0]
    have e : x0.take i ++ [rd x0 (i : Int)] = x0.take (i + 1) := by
      have h2 := rd_at (x := x0) (i := i) (by omega)
      rw [List.getElem?_eq_getElem (by omega)] at h2
      rw [List.take_succ_eq_append_getElem (by omega), Option.some.inj h2]
    rw [if_pos (by omega), if_pos (by omega), if_pos (by rw [List.length_take]; omega), wi (by omega), e]
    exact ih k (i + 1) (by omega) (by omega)
theorem spec_l01Bytes_eq {k : Nat} {l : List Int} (hn : l.length ≤ 1048576) (hk : l.length < k) : spec_l01Bytes.f k l = some l := by
  have h := spec_l01Bytes_l0 l hn l.length k 0 (by omega) hk
  simpa [spec_l01Bytes.f] using h
theorem spec_l01Join_l0 (l m : List Int) (hl : l.length ≤ 1048576) (hm : m.length ≤ 1048576) : ∀ (d k i : Nat), i + d = m.length → d < k → spec_l01Join.l0 k m (l ++ m.take i) (i : Int) = some (l ++ m) := by
  intro d
  induction d with
  | zero =>
    intro k i h hk
    obtain ⟨k, rfl⟩ : ∃ m, k = m + 1 := ⟨k - 1, by omega⟩
    simp only [spec_l01Join.l0]
    rw [if_neg (by omega), List.take_of_length_le (by omega)]
  | succ d ih =>
    intro k i h hk
    obtain ⟨k, rfl⟩ : ∃ m, k = m + 1 := ⟨k - 1, by omega⟩
    simp only [spec_l01Join.l0]
    have e : l ++ m.take i ++ [rd m (i : Int)] = l ++ m.take (i + 1) := by
      have h2 := rd_at (x := m) (i := i) (by omega)
      rw [List.getElem?_eq_getElem (by omega)] at h2
      rw [List.take_succ_eq_append_getElem (by omega), Option.some.inj h2, List.append_assoc]
    rw [if_pos (by omega), if_pos (by omega), if_pos (by rw [List.length_append, List.length_take]; omega), wi (by omega), e]
    exact ih k (i + 1) (by omega) (by omega)
theorem spec_l01Join_eq {k : Nat} {l m : List Int} (hl : l.length ≤ 1048576) (hm : m.length ≤ 1048576) (hk : l.length + m.length < k) : spec_l01Join.f k l m = some (l ++ m) := by
  have h := spec_l01Join_l0 l m hl hm m.length k 0 (by omega) (by omega)
  simp only [spec_l01Join.f, spec_l01Bytes_eq hl (show l.length < k by omega), Option.bind_some]
  simpa using h

def bodyV (a b c d : Int) : List Int :=
  if a = 1 then [a % 256] ++ wide2 b ++ wide3 c ++ wide3 (d + 1000000) else if a = 2 then [a % 256] ++ wide3 c else [a % 256]
theorem bodyV_length (a b c d : Int) : (bodyV a b c d).length = if a = 1 then 9 else if a = 2 then 4 else 1 := by
  unfold bodyV
  (repeat' split) <;> simp [wide2, wide3]
theorem bodyV_bytes (a b c d : Int) : ∀ x ∈ bodyV a b c d, 0 ≤ x ∧ x ≤ 255 := by
  intro x hx
  unfold bodyV at hx
  split at hx
  · simp [wide2, wide3] at hx
    omega
  · split at hx
    · simp [wide3] at hx
      omega
    · simp at hx
      omega
theorem rd_of_mem {l : List Int} (h : ∀ x ∈ l, 0 ≤ x ∧ x ≤ 255) : ∀ i, i < l.length → 0 ≤ rd l (i : Int) ∧ rd l (i : Int) ≤ 255 := by
  intro i hi
  have e : rd l (i : Int) = l[i] := by simp [rd, List.getD_eq_getElem?_getD, List.getElem?_eq_getElem hi]
  rw [e]
  exact h _ (List.getElem_mem hi)
def putV (a b c d : Int) : List Int :=
  if frameOkB a b c d = true then [((bodyV a b c d).length : Int) % 256] ++ bodyV a b c d ++ wide4 (crcV (bodyV a b c d)) else []
theorem putV_length (a b c d : Int) : (putV a b c d).length ≤ 14 := by
  unfold putV
  split
  · have := bodyV_length a b c d
    simp [wide4]
    (repeat' split at this) <;> omega
  · simp
theorem spec_PutFrame_eq {k : Nat} (hk : 200 ≤ k) (a b c d : Int) : spec_PutFrame.f k a b c d = some (putV a b c d) := by
  obtain ⟨k, rfl⟩ : ∃ m, k = m + 1 + 1 + 1 := ⟨k - 3, by omega⟩
  simp only [spec_PutFrame.f, spec_FrameOk_eq, Option.bind_some, putV]
  by_cases h0 : frameOkB a b c d = true
  · rw [if_pos h0, if_pos h0]
    have hb := bodyV_length a b c d
    obtain ⟨c1, _, c3, c4⟩ := Check_eq (k := k) (l := bodyV a b c d) (by (repeat' split at hb) <;> omega) (rd_of_mem (bodyV_bytes a b c d)) (by (repeat' split at hb) <;> omega)
    have last : spec_PutFrame.j2 (k + 1) (bodyV a b c d) = some ([((bodyV a b c d).length : Int) % 256] ++ bodyV a b c d ++ wide4 (crcV (bodyV a b c d))) := by
      have hl : (bodyV a b c d).length ≤ 9 := by (repeat' split at hb) <;> omega
      simp only [spec_PutFrame.j2]
      rw [spec_l01Join_eq (by simp) (by omega) (by simp; omega), Option.bind_some, c1, Option.bind_some, spec_l02Wide4 (by omega) c3 (by omega), Option.bind_some, spec_l01Join_eq (by simp; omega) (by simp [wide4]) (by simp [wide4]; omega)]
      rfl
    rcases frameOkB_kind h0 with ⟨rfl, h1, h2, h3⟩ | ⟨rfl, rfl, h2, rfl⟩ | ⟨rfl, rfl, rfl, rfl⟩
    · rw [if_pos rfl, spec_l02Wide2 (by omega) (by omega) (by omega), Option.bind_some, spec_l01Join_eq (by simp) (by simp [wide2]) (by simp [wide2]; omega), Option.bind_some]
      simp only [spec_PutFrame.j0]
      rw [if_neg (by omega), spec_l02Wide3 (by omega) (by omega) (by omega), Option.bind_some, spec_l01Join_eq (by simp [wide2]) (by simp [wide3]) (by simp [wide2, wide3]; omega), Option.bind_some]
      simp only [spec_PutFrame.j1]
      rw [if_true, w64 (x := d + 1000000) (by omega) (by omega), spec_l02Wide3 (by omega) (by omega) (by omega), Option.bind_some, spec_l01Join_eq (by simp [wide2, wide3]) (by simp [wide3]) (by simp [wide2, wide3]; omega), Option.bind_some]
      exact last
    · rw [if_neg (by omega)]
      simp only [spec_PutFrame.j0]
      rw [if_neg (by omega), spec_l02Wide3 (by omega) (by omega) (by omega), Option.bind_some, spec_l01Join_eq (by simp) (by simp [wide3]) (by simp [wide3]; omega), Option.bind_some]
      simp only [spec_PutFrame.j1]
      rw [if_neg (by omega)]
      exact last
    · rw [if_neg (by omega)]
      simp only [spec_PutFrame.j0]
      rw [if_true]
      simp only [spec_PutFrame.j1]
      rw [if_neg (by omega)]
      exact last
  · rw [if_neg h0, if_neg h0]
theorem impl_PutFrame_eq {k : Nat} (hk : 200 ≤ k) (a b c d : Int) : impl_PutFrame.f k a b c d = some (putV a b c d) := by
  simp only [impl_PutFrame.f, impl_FrameOk_eq, spec_FrameOk_eq, Option.bind_some, putV]
  by_cases h0 : frameOkB a b c d = true
  · rw [if_pos h0, if_pos h0]
    have hb := bodyV_length a b c d
    have hl : (bodyV a b c d).length ≤ 9 := by (repeat' split at hb) <;> omega
    obtain ⟨_, c2, c3, c4⟩ := Check_eq (k := k) (l := bodyV a b c d) (by omega) (rd_of_mem (bodyV_bytes a b c d)) (by omega)
    have body : impl_bodyOf.f k a b c d = some (bodyV a b c d) := by
      simp only [impl_bodyOf.f, Option.bind_some]
      rcases frameOkB_kind h0 with ⟨rfl, h1, h2, h3⟩ | ⟨rfl, rfl, h2, rfl⟩ | ⟨rfl, rfl, rfl, rfl⟩
      · rw [if_pos rfl, impl_putNumber2 (by omega) (by simp), Option.bind_some, impl_putNumber3 (by omega) (by simp [wide2]), Option.bind_some, w64 (x := d + 1000000) (by omega) (by omega), impl_putNumber3 (by omega) (by simp [wide2, wide3])]
        rfl
      · rw [if_neg (by omega), if_pos rfl, impl_putNumber3 (by omega) (by simp)]
        rfl
      · rw [if_neg (by omega), if_neg (by omega)]
        rfl
    simp only [body, Option.bind_some]
    rw [if_pos (by simp; omega), c2, Option.bind_some, impl_putNumber4 (by omega) (by simp; omega)]
    rfl
  · rw [if_neg h0, if_neg h0]

def samePre (a b : List Int) : Prop := ∀ j : Nat, j < a.length → j < b.length → rd a (j : Int) = rd b (j : Int)
instance (a b : List Int) : Decidable (samePre a b) := by unfold samePre; infer_instance
theorem rd_take {l : List Int} {n j : Nat} (h : j < n) : rd (l.take n) (j : Int) = rd l (j : Int) := by
  simp [rd, List.getD_eq_getElem?_getD, List.getElem?_take, h]
theorem rd_append_left {l m : List Int} {j : Nat} (h : j < l.length) : rd (l ++ m) (j : Int) = rd l (j : Int) := by
  simp [rd, List.getD_eq_getElem?_getD, List.getElem?_append_left h]
theorem Equal_l0 (a b : List Int) (hl : a.length = b.length) (hn : a.length ≤ 1048576) : ∀ (d k i : Nat), i + d = a.length → d < k →
    slices_Equal_byte_byte.l0 k a b (a.length : Int) (i : Int) = some (decide (∀ j : Nat, j < a.length → i ≤ j → rd a (j : Int) = rd b (j : Int))) := by
  intro d
  induction d with
  | zero =>
    intro k i h hk
    obtain ⟨k, rfl⟩ : ∃ m, k = m + 1 := ⟨k - 1, by omega⟩
    simp only [slices_Equal_byte_byte.l0]
    rw [if_neg (by omega)]
    congr 1
    symm
    rw [decide_eq_true_eq]
    intro j h1 h2
    omega
  | succ d ih =>
    intro k i h hk
    obtain ⟨k, rfl⟩ : ∃ m, k = m + 1 := ⟨k - 1, by omega⟩
    simp only [slices_Equal_byte_byte.l0]
    rw [if_pos (by omega), if_pos (by omega), if_pos (by omega), if_pos (by omega), wi (by omega)]
    by_cases e : rd a (i : Int) = rd b (i : Int)
    · rw [if_pos e, ih k (i + 1) (by omega) (by omega)]
      congr 1
      rw [decide_eq_decide]
      constructor
      · intro hh j h1 h2
        by_cases e2 : i = j
        · subst e2; exact e
        · exact hh j h1 (by omega)
      · intro hh j h1 h2
        exact hh j h1 (by omega)
    · rw [if_neg e]
      congr 1
      symm
      rw [decide_eq_false_iff_not]
      intro hh
      exact e (hh i (by omega) (by omega))
theorem Equal_eq {k : Nat} {a b : List Int} (hl : a.length = b.length) (hn : a.length ≤ 1048576) (hk : a.length < k) : slices_Equal_byte_byte.f k a b = some (decide (samePre a b)) := by
  unfold slices_Equal_byte_byte.f
  rw [if_pos (by omega)]
  have e := Equal_l0 a b hl hn a.length k 0 (by omega) hk
  rw [show ((0 : Nat) : Int) = 0 from rfl] at e
  rw [e]
  congr 1
  rw [decide_eq_decide]
  unfold samePre
  constructor
  · intro hh j h1 _
    exact hh j h1 (by omega)
  · intro hh j h1 _
    exact hh j h1 (by omega)

theorem Concat2_eq {k : Nat} {a b : List Int} (ha : a.length ≤ 1000) (hb : b.length ≤ 1000) (hk : 10 ≤ k) : slices_Concat_byte_byte.f k [a, b] = some (a ++ b) := by
  obtain ⟨k, rfl⟩ : ∃ m, k = m + 1 + 1 + 1 + 1 + 1 + 1 := ⟨k - 6, by omega⟩
  have r0 : rd_L3 [a, b] 0 = a := rfl
  have r1 : rd_L3 [a, b] 1 = b := rfl
  have w0 : wrap64 (0 + 1) = 1 := by unfold wrap64; omega
  have w1 : wrap64 (1 + 1) = 2 := by unfold wrap64; omega
  have ln : (([a, b] : List (List Int)).length : Int) = 2 := rfl
  have c2 : (0 : Int) < 2 := by omega
  have c3 : (1 : Int) < 2 := by omega
  have c4 : ¬ (2 : Int) < 2 := by omega
  have c5 : (0 : Int) ≤ 1 := by omega
  have d1 : ¬ ((a.length : Int) < 0) := by omega
  have d2 : ¬ ((a.length : Int) + (b.length : Int) < 0) := by omega
  have d3 : (0 : Int) ≤ (a.length : Int) + (b.length : Int) := by omega
  have d4 : (a.length : Int) + (b.length : Int) < 4398046511104 := by omega
  have d5 : a.length < 140737488355328 := by omega
  have d6 : a.length + b.length < 140737488355328 := by omega
  have z0 : wrap64 (0 + (a.length : Int)) = (a.length : Int) := by rw [w64 (by omega) (by omega)]; omega
  have z1 : wrap64 ((a.length : Int) + (b.length : Int)) = (a.length : Int) + (b.length : Int) := w64 (by omega) (by omega)
  simp only [slices_Concat_byte_byte.f, slices_Concat_byte_byte.l0, slices_Concat_byte_byte.l1, slices_Grow_byte_byte.f, ln, r0, r1, w0, w1, z0, z1, if_pos c2, if_pos c3, if_neg c4, if_pos c5, if_neg d1, if_neg d2, if_pos d3, if_pos d4, Option.bind_some, List.nil_append, List.length_nil, Nat.zero_add, if_pos d5, if_pos d6, Int.le_refl, if_true]

def bdN (l : List Int) (n : Nat) : List Int := (l.take (n + 1)).drop 1
def pdN (l : List Int) (n : Nat) : List Int := bdN l n ++ List.replicate (n - (bdN l n).length) 0
def takeB (l body padded : List Int) (n : Int) : Int × Int × Int × Int × Int :=
  if l.length = 1 then (0, 0, 0, 0, 0)
  else if okF (pf padded) = true then
    (if (body.length : Int) < n then (0, 0, 0, 0, 0)
     else if samePre l (putV (pf body).1 (pf body).2.1 (pf body).2.2.1 (pf body).2.2.2) then
       (if (l.length : Int) < n + 5 then (0, 0, 0, 0, 0)
        else ((pf body).1, (pf body).2.1, (pf body).2.2.1, (pf body).2.2.2, n + 5))
     else (0, 0, 0, 0, -1))
  else (0, 0, 0, 0, -1)
def takeV (l : List Int) : Int × Int × Int × Int × Int :=
  if l.length = 0 then (0, 0, 0, 0, 0)
  else if rd l 0 = 1 ∨ rd l 0 = 4 ∨ rd l 0 = 9 then takeB l (bdN l (rd l 0).toNat) (pdN l (rd l 0).toNat) (rd l 0)
  else (0, 0, 0, 0, -1)
theorem pf_kind {l : List Int} (h : okF (pf l) = true) : (pf l).1 = rd l 0 := by
  rcases okF_kind h with ⟨h1, h2⟩ | ⟨h1, h2⟩ | ⟨h1, h2⟩ <;> simp [pf, h1, h2]
theorem putV_len {l : List Int} (h : okF (pf l) = true) : (putV (pf l).1 (pf l).2.1 (pf l).2.2.1 (pf l).2.2.2).length = l.length + 5 := by
  have hb := bodyV_length (pf l).1 (pf l).2.1 (pf l).2.2.1 (pf l).2.2.2
  have hk := pf_kind h
  have h' : frameOkB (pf l).1 (pf l).2.1 (pf l).2.2.1 (pf l).2.2.2 = true := h
  unfold putV
  rw [if_pos h']
  simp only [List.length_append, List.length_cons, List.length_nil, hb, wide4]
  rcases okF_kind h with ⟨h1, h2⟩ | ⟨h1, h2⟩ | ⟨h1, h2⟩ <;> simp [hk, h1, h2]
theorem body_len {l : List Int} {n : Nat} (h : 1 ≤ l.length) : ((l.take (n + 1)).drop 1).length = min (l.length - 1) n := by
  simp; omega
theorem mn_eq (a b : Int) : mn a b = min a b := by unfold mn; split <;> omega
theorem takeKey {k : Nat} (hk : 290 ≤ k) {l : List Int} (hb : BytesOk l) (hl : l.length ≤ 1048576) (h0 : ¬ l.length = 0) {n : Nat} (hn1 : 1 ≤ n) (hn9 : n ≤ 9) :
    impl_TakeFrame.j0 (k + 1) l (n : Int) = some (takeB l (bdN l n) (pdN l n) (n : Int)) := by
  simp only [impl_TakeFrame.j0, takeB]
  rw [w64 (x := (n : Int) + 1) (by omega) (by omega), mn_eq]
  have etake : l.take (min (l.length : Int) ((n : Int) + 1)).toNat = l.take (n + 1) := by
    by_cases hc : (l.length : Int) ≤ (n : Int) + 1
    · rw [show (min (l.length : Int) ((n : Int) + 1)).toNat = l.length by omega, List.take_of_length_le (Nat.le_refl _), List.take_of_length_le (by omega)]
    · rw [show (min (l.length : Int) ((n : Int) + 1)).toNat = n + 1 by omega]
  rw [if_pos (by omega), if_pos (by omega), etake, Option.bind_some]
  have hlen := body_len (l := l) (n := n) (by omega)
  have hbb : BytesOk ((l.take (n + 1)).drop 1) := (hb.take _).drop _
  show _ = some (if l.length = 1 then _ else if okF (pf (((l.take (n + 1)).drop 1) ++ List.replicate (n - ((l.take (n + 1)).drop 1).length) 0)) = true then _ else _)
  unfold bdN
  generalize hbd : (l.take (n + 1)).drop 1 = body at hlen hbb ⊢
  by_cases h2 : l.length = 1
  · rw [if_pos h2, if_pos (by omega)]
  rw [if_neg h2, if_neg (by omega)]
  rw [w64 (x := (n : Int) - (body.length : Int)) (by omega) (by omega), if_pos (by omega), if_pos (by omega),
    show ((n : Int) - (body.length : Int)).toNat = n - body.length by omega]
  have hpl : (body ++ List.replicate (n - body.length) 0).length = n := by simp; omega
  rw [Concat2_eq (by omega) (by simp; omega) (by omega), Option.bind_some,
    impl_frameOf_eq (by omega) (hbb.append (BytesOk.zeros _)) (by omega) (by omega), Option.bind_some, impl_FrameOk_eq, spec_FrameOk_eq, Option.bind_some]
  show (if okF (pf (body ++ List.replicate (n - body.length) 0)) = true then _ else _) = _
  by_cases h3 : okF (pf (body ++ List.replicate (n - body.length) 0)) = true
  · rw [if_pos h3, if_pos h3]
    by_cases h4 : (body.length : Int) < (n : Int)
    · rw [if_pos h4, if_pos h4]
    · rw [if_neg h4, if_neg h4]
      have hz : n - body.length = 0 := by omega
      rw [hz, List.replicate_zero, List.append_nil] at h3 ⊢
      have hp := putV_len h3
      rw [impl_PutFrame_eq (by omega), Option.bind_some]
      generalize hfull : putV (pf body).1 (pf body).2.1 (pf body).2.2.1 (pf body).2.2.2 = full at hp ⊢
      rw [mn_eq, if_pos (by omega), if_pos (by omega), Option.bind_some]
      have hgl : (l.take (min (l.length : Int) (full.length : Int)).toNat).length = min l.length full.length := by
        rw [List.length_take]; omega
      rw [if_pos (by omega), if_pos (by omega), Equal_eq (by simp only [List.length_take]; omega) (by omega) (by omega), Option.bind_some]
      have hsame : samePre (l.take (min (l.length : Int) (full.length : Int)).toNat) (full.take (((l.take (min (l.length : Int) (full.length : Int)).toNat).length : Int)).toNat) ↔ samePre l full := by
        unfold samePre
        constructor
        · intro hh j h5 h6
          have := hh j (by omega) (by rw [List.length_take]; omega)
          rw [rd_take (by omega), rd_take (by omega)] at this
          exact this
        · intro hh j h5 h6
          rw [rd_take (by omega), rd_take (by omega)]
          exact hh j (by omega) (by rw [List.length_take] at h6; omega)
      by_cases h5 : samePre l full
      · rw [if_pos (decide_eq_true (hsame.2 h5)), if_pos h5]
        by_cases h6 : (l.length : Int) < (n : Int) + 5
        · rw [if_pos h6, if_pos (by omega)]
        · rw [if_neg h6, if_neg (by omega), show (full.length : Int) = (n : Int) + 5 by omega]
      · rw [if_neg (by rw [decide_eq_true_eq]; exact fun hh => h5 (hsame.1 hh)), if_neg h5]
  · rw [if_neg h3, if_neg h3]
theorem impl_TakeFrame_eq {k : Nat} (hk : 300 ≤ k) {l : List Int} (hb : BytesOk l) (hl : l.length ≤ 1048576) : impl_TakeFrame.f k l = some (takeV l) := by
  obtain ⟨k, rfl⟩ : ∃ m, k = m + 1 := ⟨k - 1, by omega⟩
  simp only [impl_TakeFrame.f, takeV]
  by_cases h0 : l.length = 0
  · rw [if_pos (by omega), if_pos h0]
  rw [if_neg (by omega), if_neg h0, if_pos (by omega)]
  have hr := hb.rdb 0
  rw [show ((0 : Nat) : Int) = 0 from rfl] at hr
  rw [w64 (x := rd l 0) (by omega) (by omega)]
  by_cases h1 : rd l 0 = 1 ∨ rd l 0 = 4 ∨ rd l 0 = 9
  · rw [if_pos h1]
    have key := takeKey (k := k) (by omega) hb hl h0 (n := (rd l 0).toNat) (by omega) (by omega)
    rw [show (((rd l 0).toNat : Nat) : Int) = rd l 0 by omega] at key
    rcases h1 with h1 | h1 | h1
    · rw [if_pos h1]; exact key
    · rw [if_neg (by omega), if_pos h1]; exact key
    · rw [if_neg (by omega), if_neg (by omega), if_pos h1]; exact key
  · rw [if_neg h1, if_neg (fun h => h1 (.inl h)), if_neg (fun h => h1 (.inr (.inl h))), if_neg (fun h => h1 (.inr (.inr h)))]

theorem l2_eq (a b : List Int) (hn : a.length ≤ 1048576) (hb : b.length ≤ 1048576) : ∀ (d k i : Nat), i + d = a.length → 2 * d + 2 < k →
    spec_l02Begins.l2 k a b (i : Int) = some (decide (∀ j : Nat, j < a.length → i ≤ j ∧ j < b.length → rd a (j : Int) = rd b (j : Int))) := by
  intro d
  induction d with
  | zero =>
    intro k i h hk
    obtain ⟨k, rfl⟩ : ∃ m, k = m + 1 + 1 := ⟨k - 2, by omega⟩
    simp only [spec_l02Begins.l2, spec_l02Begins.j5]
    rw [if_neg (by omega), if_neg (by simp)]
    congr 1
    symm
    rw [decide_eq_true_eq]
    intro j h1 h2
    omega
  | succ d ih =>
    intro k i h hk
    obtain ⟨k, rfl⟩ : ∃ m, k = m + 1 + 1 := ⟨k - 2, by omega⟩
    simp only [spec_l02Begins.l2, spec_l02Begins.j5]
    rw [if_pos (by omega)]
    by_cases hlt : i < b.length
    · rw [if_pos (decide_eq_true (by omega)), if_pos (by omega), if_pos (by omega), if_pos (by omega), wi (by omega)]
      by_cases e : rd a (i : Int) = rd b (i : Int)
      · rw [if_pos e, ih k (i + 1) (by omega) (by omega)]
        congr 1
        rw [decide_eq_decide]
        constructor
        · intro hh j h1 h2
          by_cases e2 : i = j
          · subst e2; exact e
          · exact hh j h1 ⟨by omega, h2.2⟩
        · intro hh j h1 h2
          exact hh j h1 ⟨by omega, h2.2⟩
      · rw [if_neg e]
        congr 1
        symm
        rw [decide_eq_false_iff_not]
        intro hh
        exact e (hh i (by omega) ⟨by omega, hlt⟩)
    · rw [if_neg (by rw [decide_eq_true_eq]; omega)]
      congr 1
      symm
      rw [decide_eq_true_eq]
      intro j h1 h2
      omega
theorem l2_all {k : Nat} {a b : List Int} (hn : a.length ≤ 1048576) (hb : b.length ≤ 1048576) (hk : 2 * a.length + 2 < k) : spec_l02Begins.l2 k a b 0 = some (decide (samePre a b)) := by
  have e := l2_eq a b hn hb a.length k 0 (by omega) hk
  rw [show ((0 : Nat) : Int) = 0 from rfl] at e
  rw [e]
  congr 1
  rw [decide_eq_decide]
  unfold samePre
  constructor
  · intro hh j h1 h2
    exact hh j h1 ⟨by omega, h2⟩
  · intro hh j h1 h2
    exact hh j h1 h2.2
theorem l1_eq (l : List Int) (hl : l.length ≤ 1048576) (n : Nat) (hn1 : 1 ≤ n) (hn9 : n ≤ 9) (full : Bool) : ∀ (d k : Nat) (b : List Int), b.length + d = n → BytesOk b → 2 * l.length + 300 + d ≤ k →
    spec_l02Begins.l1 k l (n : Int) b full = some (if okF (pf (b ++ List.replicate d 0)) = true then (if full = true then decide (samePre l (putV (pf (b ++ List.replicate d 0)).1 (pf (b ++ List.replicate d 0)).2.1 (pf (b ++ List.replicate d 0)).2.2.1 (pf (b ++ List.replicate d 0)).2.2.2)) else true) else false) := by
  intro d
  induction d with
  | zero =>
    intro k b h hb hk
    obtain ⟨k, rfl⟩ : ∃ m, k = m + 1 := ⟨k - 1, by omega⟩
    simp only [spec_l02Begins.l1]
    rw [if_neg (by omega), spec_l02Body_eq (by omega) hb (by omega) (by omega), Option.bind_some]
    simp only [List.replicate_zero, List.append_nil]
    unfold bodyRes
    by_cases h3 : okF (pf b) = true
    · simp only [if_pos h3, if_true]
      by_cases h4 : full = true
      · have hp := putV_len h3
        rw [if_pos h4, if_pos h4, spec_PutFrame_eq (by omega), Option.bind_some, l2_all (by omega) (by omega) (by omega)]
      · rw [if_neg h4, if_neg h4]
    · simp only [if_neg h3]
      rw [if_neg (by decide)]
  | succ d ih =>
    intro k b h hb hk
    obtain ⟨k, rfl⟩ : ∃ m, k = m + 1 := ⟨k - 1, by omega⟩
    simp only [spec_l02Begins.l1]
    rw [if_pos (by omega), if_pos (by omega), ih k (b ++ [0]) (by simp; omega) (hb.append (BytesOk.zeros 1)) (by omega)]
    have e : b ++ [0] ++ List.replicate d 0 = b ++ List.replicate (d + 1) 0 := by rw [List.append_assoc, List.replicate_succ]; rfl
    rw [e]
theorem take_snoc {l : List Int} {i : Nat} (h : i < l.length) : (l.take i) ++ [rd l (i : Int)] = l.take (i + 1) := by
  rw [List.take_add_one, List.getElem?_eq_getElem h]
  simp [rd, List.getD_eq_getElem?_getD, List.getElem?_eq_getElem h]
theorem bd_snoc {l : List Int} {i : Nat} (h : i + 1 < l.length) : bdN l i ++ [rd l ((i + 1 : Nat) : Int)] = bdN l (i + 1) := by
  unfold bdN
  rw [← take_snoc h, List.drop_append_of_le_length (by rw [List.length_take]; omega)]
theorem bd_len {l : List Int} {n : Nat} (h : 1 ≤ l.length) : (bdN l n).length = min (l.length - 1) n := body_len h
theorem l0_eq (l : List Int) (hb : BytesOk l) (hl : l.length ≤ 1048576) (h0 : 1 ≤ l.length) (n : Nat) (hn1 : 1 ≤ n) (hn9 : n ≤ 9) : ∀ (d k i : Nat), i + d = min (l.length - 1) n → 2 * l.length + 320 + d ≤ k →
    spec_l02Begins.l0 k l (n : Int) (bdN l i) ((i + 1 : Nat) : Int) = some (if okF (pf (pdN l n)) = true then (if (bdN l n).length = n then decide (samePre l (putV (pf (pdN l n)).1 (pf (pdN l n)).2.1 (pf (pdN l n)).2.2.1 (pf (pdN l n)).2.2.2)) else true) else false) := by
  intro d
  induction d with
  | zero =>
    intro k i h hk
    obtain ⟨k, rfl⟩ : ∃ m, k = m + 1 + 1 := ⟨k - 2, by omega⟩
    have e1 : bdN l i = bdN l n := by
      unfold bdN
      by_cases hc : n ≤ l.length - 1
      · rw [show i = n by omega]
      · rw [List.take_of_length_le (by omega), List.take_of_length_le (by omega)]
    have e2 := bd_len (l := l) (n := n) h0
    have key : spec_l02Begins.j2 (k + 1) l (n : Int) (bdN l n) = some (if okF (pf (pdN l n)) = true then (if (bdN l n).length = n then decide (samePre l (putV (pf (pdN l n)).1 (pf (pdN l n)).2.1 (pf (pdN l n)).2.2.1 (pf (pdN l n)).2.2.2)) else true) else false) := by
      simp only [spec_l02Begins.j2]
      rw [l1_eq l hl n hn1 hn9 _ (n - (bdN l n).length) k (bdN l n) (by omega) ((hb.take _).drop _) (by omega)]
      by_cases hc : (bdN l n).length = n
      · simp [pdN, hc]
      · have : ((((bdN l n).length : Nat) : Int) == (n : Int)) = false := by rw [beq_eq_false_iff_ne]; omega
        rw [this]
        simp [pdN, hc]
    rw [e1]
    simp only [spec_l02Begins.l0]
    by_cases h1 : ((i + 1 : Nat) : Int) < (l.length : Int)
    · rw [if_pos h1, if_neg (by omega)]; exact key
    · rw [if_neg h1]; exact key
  | succ d ih =>
    intro k i h hk
    obtain ⟨k, rfl⟩ : ∃ m, k = m + 1 := ⟨k - 1, by omega⟩
    have e2 := bd_len (l := l) (n := i) h0
    simp only [spec_l02Begins.l0]
    rw [if_pos (by omega), if_pos (by omega), if_pos (by omega), if_pos (by omega), bd_snoc (by omega), wi (by omega), ih k (i + 1) (by omega) (by omega)]
theorem Size_eq (x : Int) : spec_l02Size.f x = some (if x = 1 then 9 else if x = 2 then 4 else if x = 3 then 1 else 0) := by
  unfold spec_l02Size.f
  repeat' split
  all_goals first | rfl | omega
def begV (l : List Int) : Bool := decide ((takeV l).2.2.2.2 ≠ -1)
theorem pd_len {l : List Int} {n : Nat} (h : 1 ≤ l.length) : (pdN l n).length = n := by
  have := bd_len (l := l) (n := n) h
  unfold pdN
  simp; omega
theorem pd_head {l : List Int} {n : Nat} (h : 2 ≤ l.length) (hn : 1 ≤ n) : rd (pdN l n) 0 = rd l 1 := by
  unfold pdN bdN
  match l, h with
  | a :: b :: t, _ =>
    obtain ⟨n, rfl⟩ : ∃ m, n = m + 1 := ⟨n - 1, by omega⟩
    simp [rd]
theorem begKey {k : Nat} {l : List Int} (hk : 2 * l.length + 400 ≤ k) (hb : BytesOk l) (hl : l.length ≤ 1048576) (h0 : ¬ l.length = 0) {n : Nat} (hn : n = 1 ∨ n = 4 ∨ n = 9) :
    spec_l02Begins.j0 k l (n : Int) false = some (decide ((takeB l (bdN l n) (pdN l n) (n : Int)).2.2.2.2 ≠ -1)) := by
  obtain ⟨k, rfl⟩ : ∃ m, k = m + 1 := ⟨k - 1, by omega⟩
  simp only [spec_l02Begins.j0]
  rw [if_neg (by simp)]
  by_cases h1 : l.length = 1
  · rw [if_pos (by omega)]
    simp [takeB, h1]
  rw [if_neg (by omega), if_pos (by omega)]
  have hr := hb.rdb 1
  rw [show ((1 : Nat) : Int) = 1 from rfl] at hr
  rw [w64 (x := rd l 1) (by omega) (by omega), Size_eq, Option.bind_some]
  have hpl := pd_len (l := l) (n := n) (by omega)
  have hph := pd_head (l := l) (n := n) (by omega) (by omega)
  by_cases h2 : (if rd l 1 = 1 then (9 : Int) else if rd l 1 = 2 then 4 else if rd l 1 = 3 then 1 else 0) = (n : Int)
  · rw [if_pos h2]
    have e := l0_eq l hb hl (by omega) n (by omega) (by omega) (min (l.length - 1) n) k 0 (by omega) (by omega)
    have e0 : bdN l 0 = [] := by
      unfold bdN
      match l, h0 with
      | a :: t, _ => rfl
    rw [e0, show ((0 + 1 : Nat) : Int) = 1 from rfl] at e
    rw [e]
    congr 1
    have hbl := bd_len (l := l) (n := n) (by omega)
    unfold takeB
    rw [if_neg h1]
    by_cases h3 : okF (pf (pdN l n)) = true
    · rw [if_pos h3, if_pos h3]
      by_cases h4 : (bdN l n).length = n
      · have e3 : pdN l n = bdN l n := by unfold pdN; rw [h4]; simp
        rw [if_pos h4, if_neg (by omega), e3]
        by_cases h5 : samePre l (putV (pf (bdN l n)).1 (pf (bdN l n)).2.1 (pf (bdN l n)).2.2.1 (pf (bdN l n)).2.2.2)
        · rw [if_pos h5, decide_eq_true h5]
          symm
          rw [decide_eq_true_eq]
          split <;> simp <;> omega
        · rw [if_neg h5, decide_eq_false h5]; rfl
      · rw [if_neg h4, if_pos (by omega)]; rfl
    · rw [if_neg h3, if_neg h3]; rfl
  · rw [if_neg h2]
    have h3 : ¬ okF (pf (pdN l n)) = true := by
      intro h
      have := okF_kind h
      rw [hph, hpl] at this
      apply h2
      rcases this with ⟨a, b⟩ | ⟨a, b⟩ | ⟨a, b⟩ <;> rw [a, b] <;> rfl
    unfold takeB
    rw [if_neg h1, if_neg h3]
    rfl
theorem spec_l02Begins_eq {k : Nat} {l : List Int} (hk : 2 * l.length + 410 ≤ k) (hb : BytesOk l) (hl : l.length ≤ 1048576) : spec_l02Begins.f k l = some (begV l) := by
  unfold spec_l02Begins.f begV takeV
  by_cases h0 : l.length = 0
  · rw [if_pos (by omega), if_pos h0]; rfl
  rw [if_neg (by omega), if_neg h0, if_pos (by omega)]
  have hr := hb.rdb 0
  rw [show ((0 : Nat) : Int) = 0 from rfl] at hr
  rw [w64 (x := rd l 0) (by omega) (by omega)]
  by_cases h1 : rd l 0 = 1 ∨ rd l 0 = 4 ∨ rd l 0 = 9
  · rw [if_pos h1]
    have key := begKey (k := k) (l := l) (by omega) hb hl h0 (n := (rd l 0).toNat) (by omega)
    rw [show (((rd l 0).toNat : Nat) : Int) = rd l 0 by omega] at key
    rcases h1 with h1 | h1 | h1
    · rw [if_neg (by omega), if_neg (by omega), show (rd l 0 != 1) = false by rw [h1]; rfl]; exact key
    · rw [if_neg (by omega), if_pos (by omega)]; exact key
    · rw [if_pos (by omega)]; exact key
  · rw [if_neg h1, if_neg (fun h => h1 (.inr (.inr h))), if_neg (fun h => h1 (.inr (.inl h))), show (rd l 0 != 1) = true by rw [bne_iff_ne]; exact fun h => h1 (.inl h)]
    obtain ⟨k, rfl⟩ : ∃ m, k = m + 1 := ⟨k - 1, by omega⟩
    simp only [spec_l02Begins.j0]
    rw [if_pos trivial]; rfl
theorem spec_TakeFrame_eq {k : Nat} {l : List Int} (hk : 2 * l.length + 410 ≤ k) (hb : BytesOk l) (hl : l.length ≤ 1048576) : spec_TakeFrame.f k l = some (takeV l) := by
  unfold spec_TakeFrame.f
  rw [spec_l02Begins_eq hk hb hl, Option.bind_some]
  unfold begV
  by_cases h0 : l.length = 0
  · have : takeV l = (0, 0, 0, 0, 0) := by unfold takeV; rw [if_pos h0]
    rw [this]
    rw [if_pos (by decide), if_pos (by omega)]
  have hr := hb.rdb 0
  rw [show ((0 : Nat) : Int) = 0 from rfl] at hr
  rw [w64 (x := rd l 0) (by omega) (by omega), w64 (x := rd l 0 + 5) (by omega) (by omega), w64 (x := 1 + rd l 0) (by omega) (by omega)]
  unfold takeV
  rw [if_neg h0]
  by_cases h1 : rd l 0 = 1 ∨ rd l 0 = 4 ∨ rd l 0 = 9
  · rw [if_pos h1]
    have hbl := bd_len (l := l) (n := (rd l 0).toNat) (by omega)
    unfold takeB
    by_cases h2 : l.length = 1
    · rw [if_pos h2, if_pos (by decide), if_neg (by omega), if_pos (by omega), if_pos (by omega)]
    rw [if_neg h2]
    by_cases h3 : okF (pf (pdN l (rd l 0).toNat)) = true
    · rw [if_pos h3]
      by_cases h4 : (((bdN l (rd l 0).toNat).length : Nat) : Int) < rd l 0
      · rw [if_pos h4, if_pos (by decide), if_neg (by omega), if_pos (by omega), if_pos (by omega)]
      · rw [if_neg h4]
        have e3 : pdN l (rd l 0).toNat = bdN l (rd l 0).toNat := by
          unfold pdN
          rw [show (rd l 0).toNat - (bdN l (rd l 0).toNat).length = 0 by omega]; simp
        rw [e3] at h3
        by_cases h5 : samePre l (putV (pf (bdN l (rd l 0).toNat)).1 (pf (bdN l (rd l 0).toNat)).2.1 (pf (bdN l (rd l 0).toNat)).2.2.1 (pf (bdN l (rd l 0).toNat)).2.2.2)
        · rw [if_pos h5]
          by_cases h6 : (l.length : Int) < rd l 0 + 5
          · rw [if_pos h6, if_pos (by decide), if_neg (by omega), if_pos (by omega), if_pos (by omega)]
          · rw [if_neg h6, if_pos (by rw [decide_eq_true_eq]; show rd l 0 + 5 ≠ -1; omega), if_neg (by omega), if_pos (by omega), if_neg (by omega), if_pos (by omega), if_pos (by omega)]
            have e4 : (l.take (1 + rd l 0).toNat).drop 1 = bdN l (rd l 0).toNat := by
              unfold bdN
              rw [show (1 + rd l 0).toNat = (rd l 0).toNat + 1 by omega]
            have hbb : BytesOk (bdN l (rd l 0).toNat) := (hb.take _).drop _
            rw [e4, spec_l02Body_eq (by omega) hbb (by omega) (by omega), Option.bind_some]
            unfold bodyRes
            simp only [if_pos h3]
        · rw [if_neg h5, if_neg (by decide)]
    · rw [if_neg h3, if_neg (by decide)]
  · rw [if_neg h1, if_neg (by decide)]

theorem rdL (l : List Int) (j : Nat) : rd l (j : Int) = l.getD j 0 := by simp [rd]
theorem okMono {p q : List Int} (hp : BytesOk p) (hl : p.length = q.length) (h0 : rd p 0 = rd q 0) (hle : ∀ j : Nat, rd p (j : Int) ≤ rd q (j : Int)) (h : okF (pf q) = true) : okF (pf p) = true := by
  have b1 : 0 ≤ rd p 1 := (hp.rdb 1).1
  have b2 : 0 ≤ rd p 2 := (hp.rdb 2).1
  have b3 : 0 ≤ rd p 3 := (hp.rdb 3).1
  have b4 : 0 ≤ rd p 4 := (hp.rdb 4).1
  have b5 : 0 ≤ rd p 5 := (hp.rdb 5).1
  have b6 : 0 ≤ rd p 6 := (hp.rdb 6).1
  have b7 : 0 ≤ rd p 7 := (hp.rdb 7).1
  have b8 : 0 ≤ rd p 8 := (hp.rdb 8).1
  have e1 : rd p 1 ≤ rd q 1 := hle 1
  have e2 : rd p 2 ≤ rd q 2 := hle 2
  have e3 : rd p 3 ≤ rd q 3 := hle 3
  have e4 : rd p 4 ≤ rd q 4 := hle 4
  have e5 : rd p 5 ≤ rd q 5 := hle 5
  have e6 : rd p 6 ≤ rd q 6 := hle 6
  have e7 : rd p 7 ≤ rd q 7 := hle 7
  have e8 : rd p 8 ≤ rd q 8 := hle 8
  unfold pf at h ⊢
  rw [h0, hl]
  by_cases h1 : rd q 0 = 1 ∧ q.length = 9
  · rw [if_pos h1] at h ⊢
    simp [okF, frameOkB] at h ⊢
    omega
  · rw [if_neg h1] at h ⊢
    by_cases h2 : rd q 0 = 2 ∧ q.length = 4
    · rw [if_pos h2] at h ⊢
      simp [okF, frameOkB] at h ⊢
      omega
    · rw [if_neg h2] at h ⊢
      exact h
theorem bdN_rd (l : List Int) (n j : Nat) : rd (bdN l n) (j : Int) = if j < n then rd l ((j + 1 : Nat) : Int) else 0 := by
  rw [rdL, rdL]
  unfold bdN
  rw [List.getD_eq_getElem?_getD, List.getElem?_drop, List.getElem?_take, List.getD_eq_getElem?_getD]
  by_cases h : j < n
  · rw [if_pos h, if_pos (by omega), show 1 + j = j + 1 by omega]
  · rw [if_neg h, if_neg (by omega)]; rfl
theorem pdN_rd (l : List Int) (n j : Nat) : rd (pdN l n) (j : Int) = if j < n then rd l ((j + 1 : Nat) : Int) else 0 := by
  rw [← bdN_rd]
  unfold pdN
  rw [rdL, rdL, List.getD_eq_getElem?_getD, List.getD_eq_getElem?_getD]
  by_cases h : j < (bdN l n).length
  · rw [List.getElem?_append_left h]
  · rw [List.getElem?_append_right (by omega), List.getElem?_eq_none (Nat.le_of_not_lt h)]
    by_cases h2 : j - (bdN l n).length < n - (bdN l n).length
    · rw [List.getElem?_replicate, if_pos h2]; rfl
    · rw [List.getElem?_eq_none (by rw [List.length_replicate]; omega)]
theorem bdN_len (l : List Int) (n : Nat) : (bdN l n).length = min (l.length - 1) n := by unfold bdN; simp; omega
theorem pdN_len (l : List Int) (n : Nat) : (pdN l n).length = n := by unfold pdN; simp [bdN_len]; omega
theorem bdN_app {l m : List Int} {n : Nat} (h : n + 1 ≤ l.length) : bdN (l ++ m) n = bdN l n := by
  unfold bdN
  rw [List.take_append_of_le_length h]
theorem rd_app_le {l m : List Int} (hb : BytesOk (l ++ m)) (j : Nat) : rd l (j : Int) ≤ rd (l ++ m) (j : Int) := by
  by_cases h : j < l.length
  · rw [rd_append_left h]; exact Int.le_refl _
  · have := (hb.rdb j).1
    rw [rdL l, List.getD_eq_getElem?_getD, List.getElem?_eq_none (by omega)]
    exact this
theorem takeV_app {l m : List Int} (hb : BytesOk (l ++ m)) (h : (takeV l).2.2.2.2 ≠ 0) : takeV (l ++ m) = takeV l := by
  have hbl : BytesOk l := fun x hx => hb x (List.mem_append.2 (.inl hx))
  have h0 : l.length ≠ 0 := by
    intro e
    apply h
    unfold takeV
    rw [if_pos e]
  have hr : rd (l ++ m) 0 = rd l 0 := rd_append_left (j := 0) (by omega)
  unfold takeV at h ⊢
  rw [if_neg h0] at h ⊢
  rw [if_neg (by rw [List.length_append]; omega), hr]
  by_cases h1 : rd l 0 = 1 ∨ rd l 0 = 4 ∨ rd l 0 = 9
  · rw [if_pos h1] at h ⊢
    rw [if_pos h1]
    have hn : 1 ≤ (rd l 0).toNat ∧ (rd l 0).toNat ≤ 9 := by omega
    have hnc : (((rd l 0).toNat : Nat) : Int) = rd l 0 := by omega
    rw [← hnc] at h ⊢
    rw [Int.toNat_natCast] at h ⊢
    generalize (rd l 0).toNat = n at h hn ⊢
    unfold takeB at h ⊢
    have h2 : l.length ≠ 1 := by
      intro e
      apply h
      rw [if_pos e]
    rw [if_neg h2] at h ⊢
    rw [if_neg (show ¬ (l ++ m).length = 1 by rw [List.length_append]; omega)]
    by_cases h3 : n + 1 ≤ l.length
    · have hbd := bdN_app (m := m) h3
      have hpd : pdN (l ++ m) n = pdN l n := by unfold pdN; rw [hbd]
      have hlen := bdN_len l n
      rw [hpd, hbd]
      by_cases h4 : okF (pf (pdN l n)) = true
      · rw [if_pos h4] at h ⊢
        rw [if_pos h4]
        have hcn : ¬ ((bdN l n).length : Int) < (n : Int) := by omega
        rw [if_neg hcn] at h ⊢
        rw [if_neg hcn]
        have hpb : pdN l n = bdN l n := by unfold pdN; rw [show n - (bdN l n).length = 0 by omega]; simp
        rw [hpb] at h4
        have hp := putV_len h4
        generalize putV (pf (bdN l n)).1 (pf (bdN l n)).2.1 (pf (bdN l n)).2.2.1 (pf (bdN l n)).2.2.2 = full at h hp ⊢
        by_cases h5 : samePre l full
        · rw [if_pos h5] at h ⊢
          by_cases h6 : (l.length : Int) < (n : Int) + 5
          · rw [if_pos h6] at h
            exact (h rfl).elim
          · rw [if_neg h6] at h ⊢
            rw [if_pos (show samePre (l ++ m) full from fun j h7 h8 => by rw [rd_append_left (by omega)]; exact h5 j (by omega) h8), if_neg (by rw [List.length_append]; omega)]
        · rw [if_neg h5, if_neg (fun h6 : samePre (l ++ m) full => h5 (fun j h7 h8 => by rw [← h6 j (by rw [List.length_append]; omega) h8, rd_append_left h7]))]
      · rw [if_neg h4, if_neg h4]
    · have hlen := bdN_len l n
      by_cases h4 : okF (pf (pdN l n)) = true
      · rw [if_pos h4, if_pos (by omega)] at h
        exact (h rfl).elim
      · have h5 : ¬ okF (pf (pdN (l ++ m) n)) = true := by
          intro h6
          apply h4
          refine okMono (q := pdN (l ++ m) n) ?_ (by rw [pdN_len, pdN_len]) ?_ ?_ h6
          · unfold pdN
            refine BytesOk.append ?_ (BytesOk.zeros _)
            unfold bdN
            exact (hbl.take _).drop _
          · have e1 := pdN_rd l n 0
            have e2 := pdN_rd (l ++ m) n 0
            rw [if_pos (show 0 < n by omega)] at e1 e2
            exact e1.trans ((rd_append_left (m := m) (j := 0 + 1) (by omega)).symm.trans e2.symm)
          · intro j
            rw [pdN_rd, pdN_rd]
            by_cases h7 : j < n
            · rw [if_pos h7, if_pos h7]; exact rd_app_le hb _
            · rw [if_neg h7, if_neg h7]; exact Int.le_refl _
        rw [if_neg h4, if_neg h5]
  · rw [if_neg h1, if_neg h1]

theorem takeV_last {l : List Int} (hb : BytesOk l) : (takeV l).2.2.2.2 ≤ (l.length : Int) := by
  unfold takeV takeB
  have hr := hb.rdb 0
  rw [show ((0 : Nat) : Int) = 0 from rfl] at hr
  (repeat' split) <;> simp <;> omega
theorem AllFrames_l0 (l : List Int) (hl : l.length ≤ 400) (hb : BytesOk l) : ∀ (d k i : Nat) (x : List S34), i + d = l.length → 2 * l.length + 500 + d ≤ k → x.length ≤ i →
    ∃ r : (List S34) × Int × Bool, spec_AllFrames.l0 k l x (i : Int) = some r ∧ impl_AllFrames.l0 k l x (i : Int) = some r ∧ r.1.length ≤ 400 := by
  intro d
  induction d using Nat.strongRecOn with
  | _ d ih =>
    intro k i x h hk hx
    obtain ⟨k, rfl⟩ : ∃ m, k = m + 1 := ⟨k - 1, by omega⟩
    simp only [spec_AllFrames.l0, impl_AllFrames.l0, Int.toNat_natCast]
    have hb2 : BytesOk (l.drop i) := hb.drop i
    have hlast := takeV_last hb2
    have hle : (l.drop i).length = l.length - i := by simp
    rw [if_pos (by omega), if_pos (by omega), if_pos (by omega), if_pos (by omega), spec_TakeFrame_eq (by omega) hb2 (by omega), impl_TakeFrame_eq (by omega) hb2 (by omega), Option.bind_some, Option.bind_some]
    generalize takeV (l.drop i) = v at hlast ⊢
    by_cases h1 : v.2.2.2.2 < 0
    · rw [if_pos h1, if_pos (by omega), decide_eq_true h1]
      exact ⟨_, rfl, rfl, by show x.length ≤ 400; omega⟩
    · rw [if_neg h1]
      by_cases h2 : v.2.2.2.2 = 0
      · rw [if_pos h2, if_pos (by omega), decide_eq_false h1]
        exact ⟨_, rfl, rfl, by show x.length ≤ 400; omega⟩
      · have hx2 : x.length < 4398046511104 := by omega
        have h3 : ¬ v.2.2.2.2 ≤ 0 := by omega
        rw [if_neg h2, if_neg h3, if_pos hx2, if_pos hx2, w64 (x := (i : Int) + v.2.2.2.2) (by omega) (by omega)]
        have := ih (d - v.2.2.2.2.toNat) (by omega) k (i + v.2.2.2.2.toNat) (x ++ [(⟨v.1, v.2.1, v.2.2.1, v.2.2.2.1⟩ : S34)]) (by omega) (by omega) (by rw [List.length_append, List.length_singleton]; omega)
        rw [show ((i + v.2.2.2.2.toNat : Nat) : Int) = (i : Int) + v.2.2.2.2 by omega] at this
        exact this
theorem AllFrames_both {l : List Int} (hb : BytesOk l) : ∃ r : (List S34) × Int × Bool, (∀ k, 3 * l.length + 500 ≤ k → spec_AllFrames.f k l = some r) ∧ (∀ k, 3 * l.length + 500 ≤ k → impl_AllFrames.f k l = some r) ∧ r.1.length ≤ 400 := by
  suffices hh : ∃ r : (List S34) × Int × Bool, spec_AllFrames.f (3 * l.length + 500) l = some r ∧ impl_AllFrames.f (3 * l.length + 500) l = some r ∧ r.1.length ≤ 400 by
    obtain ⟨r, e1, e2, e3⟩ := hh
    exact ⟨r, fun k hk => at_rounds (fun k => spec_AllFrames.mono l k) hk e1, fun k hk => at_rounds (fun k => impl_AllFrames.mono l k) hk e2, e3⟩
  unfold spec_AllFrames.f impl_AllFrames.f
  by_cases h : (l.length : Int) > 400
  · exact ⟨([], 0, true), by rw [if_pos h], by rw [if_pos h], by simp⟩
  · rw [if_neg h, if_neg h]
    exact AllFrames_l0 l (by omega) hb l.length (3 * l.length + 500) 0 [] (by omega) (by omega) (by simp)

def decOkB (l : List Int) (b : Bool) : Bool := decide ((l.length : Int) ≤ 400) && (!b || decide ((l.length : Int) = 0))
theorem spec_DecoderOk_eq (l : List Int) (b : Bool) : spec_DecoderOk.f l b = some (decOkB l b) := by
  unfold spec_DecoderOk.f decOkB
  by_cases h : (l.length : Int) ≤ 400
  · rw [if_pos h]
    cases b
    · simp [h]
    · simp only [if_true, h, decide_true, Bool.true_and, Bool.not_true, Bool.false_or]
      congr 1
  · rw [if_neg h]; simp [h]
theorem impl_DecoderOk_eq (l : List Int) (b : Bool) : impl_DecoderOk.f l b = some (decOkB l b) := spec_DecoderOk_eq l b

theorem impl_ownDecoder_eq {l : List Int} {b : Bool} (hn : l.length ≤ 1048576) : impl_ownDecoder.f l b = some (l, b) := by
  have e : l.length < 140737488355328 := by omega
  simp [impl_ownDecoder.f, slices_Clone_byte_byte.f, e]

def nextV (l : List Int) (b : Bool) : List Int × Bool × Int × Int × Int × Int × Int :=
  if decOkB l b = true ∧ b = false then
    (if (takeV l).2.2.2.2 < 0 then ([], true, 0, 0, 0, 0, 2)
     else if (takeV l).2.2.2.2 = 0 then (l, b, 0, 0, 0, 0, 1)
     else (l.drop (takeV l).2.2.2.2.toNat, false, (takeV l).1, (takeV l).2.1, (takeV l).2.2.1, (takeV l).2.2.2.1, 0))
  else (l, b, 0, 0, 0, 0, 2)
theorem nextV_length (l : List Int) (b : Bool) : (nextV l b).1.length ≤ l.length := by
  unfold nextV
  (repeat' split) <;> simp
theorem takeV_last2 {l : List Int} (hb : BytesOk l) : -1 ≤ (takeV l).2.2.2.2 ∧ (takeV l).2.2.2.2 ≤ (l.length : Int) := by
  unfold takeV takeB
  have hr := hb.rdb 0
  rw [show ((0 : Nat) : Int) = 0 from rfl] at hr
  (repeat' split) <;> simp <;> omega
theorem impl_TakeNext_eq {k : Nat} {l : List Int} {b : Bool} (hk : 2 * l.length + 500 ≤ k) (hb : BytesOk l) (hl : l.length ≤ 1048576) : impl_TakeNext.f k l b = some (nextV l b) := by
  obtain ⟨k, rfl⟩ : ∃ m, k = m + 1 := ⟨k - 1, by omega⟩
  have hc := impl_ownDecoder_eq (l := l) (b := b) hl
  simp only [impl_TakeNext.f, impl_DecoderOk_eq, Option.bind_some, impl_TakeNext.j0, hc, nextV, if_true]
  by_cases h1 : decOkB l b = true
  · rw [if_pos h1]
    cases b
    · rw [if_neg (by simp), if_pos ⟨h1, rfl⟩, impl_TakeFrame_eq (by omega) hb hl, Option.bind_some]
      have hv := takeV_last2 hb
      by_cases h2 : (takeV l).2.2.2.2 < 0
      · rw [if_pos h2, if_pos (by omega)]
      · rw [if_neg h2, if_neg (by omega)]
        by_cases h3 : (takeV l).2.2.2.2 = 0
        · rw [if_pos h3, if_pos h3]
        · have e : ∀ m : List Int, m.length ≤ 1048576 → slices_Clone_byte_byte.f m = some m := by
            intro m hm
            have e : m.length < 140737488355328 := by omega
            simp [slices_Clone_byte_byte.f, e]
          rw [if_neg h3, if_neg h3, if_pos (by omega), if_pos (by omega), e _ (by simp; omega), Option.bind_some]
    · rw [if_pos rfl, if_neg (by simp)]
  · rw [if_neg h1, if_neg (fun h => h1 h.1)]

def feedV (l : List Int) (b : Bool) (m : List Int) : List Int × Bool × Bool :=
  if decOkB l b = true then (if b = true then (l, b, false) else (if (l.length : Int) + (m.length : Int) > 400 then (l, b, false) else (l ++ m, b, true))) else (l, b, false)
theorem feedV_length (l : List Int) (b : Bool) (m : List Int) : (feedV l b m).1.length ≤ l.length + m.length := by
  unfold feedV
  (repeat' split) <;> simp
theorem decOk_len {l : List Int} {b : Bool} (h : decOkB l b = true) : l.length ≤ 400 := by
  simp [decOkB] at h; omega
theorem impl_FeedBytes_eq {l m : List Int} {b : Bool} (hl : l.length ≤ 1048576) (hm : m.length ≤ 1048576) : impl_FeedBytes.f l b m = some (feedV l b m) := by
  simp only [impl_FeedBytes.f, impl_ownDecoder_eq (b := b) hl, impl_DecoderOk_eq, Option.bind_some, feedV]
  by_cases h0 : decOkB l b = true
  · have h1 := decOk_len h0
    rw [if_pos h0, if_pos h0, w64 (x := (l.length : Int) + (m.length : Int)) (by omega) (by omega), if_pos (show l.length + m.length < 140737488355328 by omega)]
    (repeat' split) <;> rfl
  · rw [if_neg h0, if_neg h0]

def frV (v : Int × Int × Int × Int × Int) : S34 := ⟨v.1, v.2.1, v.2.2.1, v.2.2.2.1⟩
inductive Run : List Int → List S34 → List Int → Bool → Prop
  | bad {l} (h : (takeV l).2.2.2.2 < 0) : Run l [] [] true
  | more {l} (h : (takeV l).2.2.2.2 = 0) : Run l [] l false
  | next {l fs r b} (h : 0 < (takeV l).2.2.2.2) (h2 : Run (l.drop (takeV l).2.2.2.2.toNat) fs r b) : Run l (frV (takeV l) :: fs) r b
theorem Run_ex : ∀ (n : Nat) (l : List Int), l.length ≤ n → BytesOk l → ∃ fs r b, Run l fs r b := by
  intro n
  induction n with
  | zero =>
    intro l hl hb
    have := takeV_last2 hb
    by_cases h : (takeV l).2.2.2.2 < 0
    · exact ⟨_, _, _, .bad h⟩
    · exact ⟨_, _, _, .more (by omega)⟩
  | succ n ih =>
    intro l hl hb
    have := takeV_last2 hb
    by_cases h : (takeV l).2.2.2.2 < 0
    · exact ⟨_, _, _, .bad h⟩
    · by_cases h2 : (takeV l).2.2.2.2 = 0
      · exact ⟨_, _, _, .more h2⟩
      · obtain ⟨fs, r, b, h3⟩ := ih (l.drop (takeV l).2.2.2.2.toNat) (by rw [List.length_drop]; omega) (hb.drop _)
        exact ⟨_, _, _, .next (by omega) h3⟩
theorem Run_fun {l fs r b} (h : Run l fs r b) : ∀ {fs' r' b'}, Run l fs' r' b' → fs = fs' ∧ r = r' ∧ b = b' := by
  induction h with
  | bad h =>
    intro fs' r' b' h'
    cases h' with
    | bad _ => exact ⟨rfl, rfl, rfl⟩
    | more h2 => omega
    | next h2 _ => omega
  | more h =>
    intro fs' r' b' h'
    cases h' with
    | bad _ => omega
    | more h2 => exact ⟨rfl, rfl, rfl⟩
    | next h2 _ => omega
  | next h h2 ih =>
    intro fs' r' b' h'
    cases h' with
    | bad _ => omega
    | more h2 => omega
    | next h3 h4 =>
      obtain ⟨rfl, rfl, rfl⟩ := ih h4
      exact ⟨rfl, rfl, rfl⟩
theorem Run_len {l fs r b} (h : Run l fs r b) : BytesOk l → fs.length + r.length ≤ l.length ∧ BytesOk r ∧ (b = true → r = []) := by
  induction h with
  | bad h => intro hb; exact ⟨by simp, by intro x hx; simp at hx, fun _ => rfl⟩
  | more h => intro hb; exact ⟨by simp, hb, fun h => by simp at h⟩
  | next h h2 ih =>
    intro hb
    have h3 := ih (hb.drop _)
    have h4 := takeV_last2 hb
    rw [List.length_drop] at h3
    exact ⟨by rw [List.length_cons]; omega, h3.2⟩
theorem Run_app {x fs r} {b0 : Bool} (h : Run x fs r b0) : b0 = false → ∀ {y gs r' b}, BytesOk (x ++ y) → Run (r ++ y) gs r' b → Run (x ++ y) (fs ++ gs) r' b := by
  induction h with
  | bad h => intro e; simp at e
  | more h => intro _ y gs r' b _ h2; exact h2
  | @next x fs r b1 h h2 ih =>
    intro e y gs r' b hb h3
    have hbx : BytesOk x := fun z hz => hb z (List.mem_append.2 (.inl hz))
    have h4 := takeV_last2 hbx
    have e1 : takeV (x ++ y) = takeV x := takeV_app hb (by omega)
    have e2 : (x ++ y).drop (takeV x).2.2.2.2.toNat = x.drop (takeV x).2.2.2.2.toNat ++ y := List.drop_append_of_le_length (by omega)
    have h5 := ih e (y := y) (by rw [← e2]; exact hb.drop _) h3
    have h6 := Run.next (l := x ++ y) (fs := fs ++ gs) (r := r') (b := b) (by rw [e1]; exact h) (by rw [e1, e2]; exact h5)
    rw [e1] at h6
    exact h6
theorem Run_bad {x fs r} {b0 : Bool} (h : Run x fs r b0) : b0 = true → ∀ {y}, BytesOk (x ++ y) → Run (x ++ y) fs r true := by
  induction h with
  | bad h =>
    intro _ y hb
    exact .bad (by rw [takeV_app hb (by omega)]; exact h)
  | more h => intro e; simp at e
  | @next x fs r b1 h h2 ih =>
    intro e y hb
    have hbx : BytesOk x := fun z hz => hb z (List.mem_append.2 (.inl hz))
    have h4 := takeV_last2 hbx
    have e1 : takeV (x ++ y) = takeV x := takeV_app hb (by omega)
    have e2 : (x ++ y).drop (takeV x).2.2.2.2.toNat = x.drop (takeV x).2.2.2.2.toNat ++ y := List.drop_append_of_le_length (by omega)
    have h5 := ih e (y := y) (by rw [← e2]; exact hb.drop _)
    have h6 := Run.next (l := x ++ y) (fs := fs) (r := r) (b := true) (by rw [e1]; exact h) (by rw [e1, e2]; exact h5)
    rw [e1] at h6
    exact h6
theorem AllFrames_run {m fs r b} (h : Run m fs r b) : ∀ (l : List Int) (i k : Nat) (x : List S34), l.drop i = m → i ≤ l.length → BytesOk l → l.length ≤ 400 → x.length ≤ i → 300 + m.length + 1 ≤ k →
    ∃ n, impl_AllFrames.l0 k l x (i : Int) = some (x ++ fs, n, b) := by
  induction h with
  | @bad m h =>
    intro l i k x e hi hb hl hx hk
    obtain ⟨k, rfl⟩ : ∃ m, k = m + 1 := ⟨k - 1, by omega⟩
    simp only [impl_AllFrames.l0, Int.toNat_natCast]
    rw [if_pos (by omega), if_pos (by omega), e, impl_TakeFrame_eq (by omega) (e ▸ hb.drop i) (by rw [← e, List.length_drop]; omega), Option.bind_some, if_pos (by omega), decide_eq_true h, List.append_nil]
    exact ⟨_, rfl⟩
  | @more m h =>
    intro l i k x e hi hb hl hx hk
    obtain ⟨k, rfl⟩ : ∃ m, k = m + 1 := ⟨k - 1, by omega⟩
    simp only [impl_AllFrames.l0, Int.toNat_natCast]
    rw [if_pos (by omega), if_pos (by omega), e, impl_TakeFrame_eq (by omega) (e ▸ hb.drop i) (by rw [← e, List.length_drop]; omega), Option.bind_some, if_pos (by omega), decide_eq_false (by omega), List.append_nil]
    exact ⟨_, rfl⟩
  | @next m fs r b h h2 ih =>
    intro l i k x e hi hb hl hx hk
    obtain ⟨k, rfl⟩ : ∃ m, k = m + 1 := ⟨k - 1, by omega⟩
    have hbm : BytesOk m := e ▸ hb.drop i
    have hml : m.length = l.length - i := by rw [← e, List.length_drop]
    have hlast := takeV_last2 hbm
    have h3 := ih l (i + (takeV m).2.2.2.2.toNat) k (x ++ [frV (takeV m)]) (by rw [← e, List.drop_drop]) (by omega) hb hl (by rw [List.length_append, List.length_singleton]; omega) (by rw [List.length_drop]; omega)
    obtain ⟨n, h3⟩ := h3
    simp only [impl_AllFrames.l0, Int.toNat_natCast]
    rw [if_pos (by omega), if_pos (by omega), e, impl_TakeFrame_eq (by omega) hbm (by omega), Option.bind_some, if_neg (by omega), if_pos (by omega), w64 (x := (i : Int) + (takeV m).2.2.2.2) (by omega) (by omega)]
    refine ⟨n, ?_⟩
    rw [show x ++ frV (takeV m) :: fs = x ++ [frV (takeV m)] ++ fs by simp, ← h3]
    congr 1
    omega
theorem l1_run {buf fs r b} (h : Run buf fs r b) : ∀ {x3 : List Int} {x4 : List S34} {x6 : Bool} {got : List S34} {x12 : List Int} {x13 x14 : Int} {K : Nat}, BytesOk buf → buf.length ≤ 400 → got.length + buf.length ≤ 1000000 →
    (∀ k, K ≤ k → laws_FnPieces.l0 k x3 x4 x6 (got ++ fs) x12 x13 (wrap64 (x14 + 1)) r b = some true) →
    ∀ k, K + buf.length + 1400 ≤ k → laws_FnPieces.l1 k x3 x4 x6 got x12 x13 x14 buf false = some true := by
  induction h with
  | @bad l h =>
    intro x3 x4 x6 got x12 x13 x14 K hb hl hg H k hk
    obtain ⟨k, rfl⟩ : ∃ m, k = m + 1 := ⟨k - 1, by omega⟩
    have hd : decOkB l false = true := by simp [decOkB]; omega
    simp only [laws_FnPieces.l1]
    rw [impl_TakeNext_eq (by omega) hb (by omega), Option.bind_some]
    have e : nextV l false = ([], true, 0, 0, 0, 0, 2) := by unfold nextV; rw [if_pos ⟨hd, rfl⟩, if_pos h]
    rw [e]
    have := H k (by omega)
    rw [List.append_nil] at this
    simpa using this
  | @more l h =>
    intro x3 x4 x6 got x12 x13 x14 K hb hl hg H k hk
    obtain ⟨k, rfl⟩ : ∃ m, k = m + 1 := ⟨k - 1, by omega⟩
    have hd : decOkB l false = true := by simp [decOkB]; omega
    simp only [laws_FnPieces.l1]
    rw [impl_TakeNext_eq (by omega) hb (by omega), Option.bind_some]
    have e : nextV l false = (l, false, 0, 0, 0, 0, 1) := by unfold nextV; rw [if_pos ⟨hd, rfl⟩, if_neg (by omega), if_pos h]
    rw [e]
    have := H k (by omega)
    rw [List.append_nil] at this
    simpa using this
  | @next l fs r b h h2 ih =>
    intro x3 x4 x6 got x12 x13 x14 K hb hl hg H k hk
    obtain ⟨k, rfl⟩ : ∃ m, k = m + 1 := ⟨k - 1, by omega⟩
    have hd : decOkB l false = true := by simp [decOkB]; omega
    have hlast := takeV_last2 hb
    have hdl : (l.drop (takeV l).2.2.2.2.toNat).length = l.length - (takeV l).2.2.2.2.toNat := List.length_drop
    simp only [laws_FnPieces.l1]
    rw [impl_TakeNext_eq (by omega) hb (by omega), Option.bind_some]
    have e : nextV l false = (l.drop (takeV l).2.2.2.2.toNat, false, (takeV l).1, (takeV l).2.1, (takeV l).2.2.1, (takeV l).2.2.2.1, 0) := by unfold nextV; rw [if_pos ⟨hd, rfl⟩, if_neg (by omega), if_neg (by omega)]
    rw [e]
    have h3 := ih (x3 := x3) (x4 := x4) (x6 := x6) (got := got ++ [frV (takeV l)]) (x12 := x12) (x13 := x13) (x14 := x14) (K := K) (hb.drop _) (by omega) (by rw [List.length_append, List.length_singleton]; omega) (by rw [List.append_assoc]; exact H) k (by omega)
    simp only [if_true]
    rw [if_pos (show got.length < 4398046511104 by omega)]
    exact h3

theorem sameFrames_l0 (x : List S34) (hn : x.length ≤ 1048576) : ∀ (d k i : Nat), i + d = x.length → d < k → laws_sameFrames.l0 k x x (i : Int) = some true := by
  intro d
  induction d with
  | zero =>
    intro k i h hk
    obtain ⟨k, rfl⟩ : ∃ m, k = m + 1 := ⟨k - 1, by omega⟩
    simp only [laws_sameFrames.l0]
    rw [if_neg (by omega)]
  | succ d ih =>
    intro k i h hk
    obtain ⟨k, rfl⟩ : ∃ m, k = m + 1 := ⟨k - 1, by omega⟩
    have h2 := ih k (i + 1) (by omega) (by omega)
    simp only [laws_sameFrames.l0]
    rw [if_pos (by omega), if_pos (by omega), if_pos (by omega), wi (by omega)]
    simpa using h2
theorem sameFrames_refl {k : Nat} {x : List S34} (hn : x.length ≤ 1048576) (hk : x.length < k) : laws_sameFrames.f k x x = some true := by
  unfold laws_sameFrames.f
  rw [if_pos rfl]
  exact sameFrames_l0 x hn x.length k 0 (by omega) hk

theorem bits255 (x : Int) : 0 ≤ Go.bits .and .i64 x 255 ∧ Go.bits .and .i64 x 255 ≤ 255 := by
  have e2 : (BitVec.ofInt 64 (255 : Int)).toNat = 255 := by decide
  have e : Go.bits .and .i64 x 255 = IntKind.i64.wrap (((BitVec.ofInt 64 x).toNat &&& 255 : Nat) : Int) := by
    show IntKind.i64.wrap ((BitVec.ofInt 64 x &&& BitVec.ofInt 64 255).toNat : Int) = _
    rw [BitVec.toNat_and, e2]
  have h : (BitVec.ofInt 64 x).toNat &&& 255 ≤ 255 := Nat.and_le_right
  rw [e, IntKind.wrap_i64]
  omega
theorem Byte_some {l : List Int} (hl : l.length ≤ 4611686018427387903) (p s : Int) (hp : 0 ≤ p) : ∃ b p' s', spec_l01Byte.f l p s = some (b, p', s') ∧ (0 ≤ b ∧ b ≤ 255) ∧ 0 ≤ p' := by
  unfold spec_l01Byte.f
  by_cases h : p < (l.length : Int)
  · rw [if_pos h, if_pos hp, w64 (x := p + 1) (by omega) (by omega)]
    exact ⟨_, _, _, rfl, bits255 _, by omega⟩
  · rw [if_neg h]
    exact ⟨_, _, _, rfl, bits255 _, hp⟩
theorem tmodB {v a : Int} (h0 : 0 ≤ v) (ha : 0 < a) : 0 ≤ Int.tmod v a ∧ Int.tmod v a < a := ⟨Int.tmod_nonneg _ h0, Int.tmod_lt_of_pos _ ha⟩
theorem Below_some {l : List Int} (hl : l.length ≤ 4611686018427387903) (p s a : Int) (hp : 0 ≤ p) : ∃ v p' s', spec_l01Below.f l p s a = some (v, p', s') ∧ (0 ≤ v ∧ (v < a ∨ v = 0)) ∧ (0 < a → v < a) ∧ 0 ≤ p' := by
  unfold spec_l01Below.f
  by_cases h : a ≤ 0
  · rw [if_pos h]
    exact ⟨_, _, _, rfl, ⟨by omega, .inr rfl⟩, by omega, hp⟩
  · rw [if_neg h]
    by_cases h2 : a ≤ 256
    · rw [if_pos h2]
      obtain ⟨b, p1, s1, e1, hb, hp1⟩ := Byte_some hl p s hp
      rw [e1, Option.bind_some, if_neg (by omega)]
      have := tmodB (v := b) (a := a) hb.1 (by omega)
      exact ⟨_, _, _, rfl, ⟨this.1, .inl this.2⟩, fun _ => this.2, hp1⟩
    · rw [if_neg h2]
      obtain ⟨b, p1, s1, e1, hb, hp1⟩ := Byte_some hl p s hp
      obtain ⟨b2, p2, s2, e2, hb2, hp2⟩ := Byte_some hl p1 s1 hp1
      obtain ⟨b3, p3, s3, e3, hb3, hp3⟩ := Byte_some hl p2 s2 hp2
      rw [e1, Option.bind_some]
      dsimp only
      rw [e2, Option.bind_some]
      dsimp only
      rw [e3, Option.bind_some, if_neg (by omega), w64 (x := b * 65536) (by omega) (by omega), w64 (x := b2 * 256) (by omega) (by omega), w64 (x := b * 65536 + b2 * 256) (by omega) (by omega), w64 (x := b * 65536 + b2 * 256 + b3) (by omega) (by omega)]
      have := tmodB (v := b * 65536 + b2 * 256 + b3) (a := a) (by omega) (by omega)
      exact ⟨_, _, _, rfl, ⟨this.1, .inl this.2⟩, fun _ => this.2, hp3⟩
theorem Once_some {l : List Int} (hl : l.length ≤ 4611686018427387903) (p s a : Int) (hp : 0 ≤ p) : ∃ v p' s', spec_l01Once.f l p s a = some (v, p', s') ∧ 0 ≤ p' := by
  obtain ⟨v, p1, s1, e, _, _, h⟩ := Below_some hl p s a hp
  unfold spec_l01Once.f
  rw [e, Option.bind_some]
  exact ⟨_, _, _, rfl, h⟩
theorem Pick_some {l : List Int} (hl : l.length ≤ 4611686018427387903) (p s : Int) (hp : 0 ≤ p) (c : List Int) (hc : 0 < c.length) : ∃ v p' s', spec_l01PickInt.f l p s c = some (v, p', s') ∧ 0 ≤ p' := by
  obtain ⟨v, p1, s1, e, h1, h2, h⟩ := Below_some hl p s (c.length : Int) hp
  unfold spec_l01PickInt.f
  rw [e, Option.bind_some, if_pos h1.1, if_pos (h2 (by omega))]
  exact ⟨_, _, _, rfl, h⟩
theorem New_l0 (l : List Int) : ∀ (d k i : Nat) (s : Int), i + d = 4000 → d < k → ∃ s', spec_l01New.l0 k l s (i : Int) = some (l, 0, s') := by
  intro d
  induction d with
  | zero =>
    intro k i s h hk
    obtain ⟨k, rfl⟩ : ∃ m, k = m + 1 := ⟨k - 1, by omega⟩
    simp only [spec_l01New.l0]
    rw [if_neg (c := (i : Int) < 4000) (by omega)]
    exact ⟨s, by split <;> rfl⟩
  | succ d ih =>
    intro k i s h hk
    obtain ⟨k, rfl⟩ : ∃ m, k = m + 1 := ⟨k - 1, by omega⟩
    simp only [spec_l01New.l0]
    rw [wi (by omega), if_pos (c := (i : Int) < 4000) (by omega), if_pos (c := 0 ≤ (i : Int)) (by omega)]
    by_cases h1 : (i : Int) < (l.length : Int)
    · rw [if_pos h1]
      exact ih k (i + 1) _ (by omega) (by omega)
    · rw [if_neg h1]
      exact ⟨s, rfl⟩
theorem New_some {k : Nat} (l : List Int) (hk : 4001 ≤ k) : ∃ s, spec_l01New.f k l = some (l, 0, s) := by
  unfold spec_l01New.f
  exact New_l0 l 4000 k 0 _ (by omega) (by omega)

theorem DrawFrame_some {k : Nat} {l : List Int} (hl : l.length ≤ 4611686018427387903) (p s : Int) (hp : 0 ≤ p) : ∃ a b c d p' s', spec_l02DrawFrame.f (k + 1) l p s = some (a, b, c, d, p', s') ∧ 0 ≤ p' := by
  have tail : ∀ (p s a b c d : Int), 0 ≤ p → ∃ a' b' c' d' p' s', spec_l02DrawFrame.j0 (k + 1) l p s a b c d = some (a', b', c', d', p', s') ∧ 0 ≤ p' := by
    intro p s a b c d hp
    simp only [spec_l02DrawFrame.j0]
    split
    · exact ⟨_, _, _, _, _, _, rfl, hp⟩
    · obtain ⟨v1, p1, s1, e1, _, _, hp1⟩ := Below_some hl p s 60 hp
      obtain ⟨v2, p2, s2, e2, _, _, hp2⟩ := Below_some hl p1 s1 60 hp1
      obtain ⟨v3, p3, s3, e3, hp3⟩ := Pick_some hl p2 s2 hp2 [v1, v2, 0, 1000000] (by simp)
      simp only [e1, e2, e3, Option.bind_some]
      exact ⟨_, _, _, _, _, _, rfl, hp3⟩
  unfold spec_l02DrawFrame.f
  obtain ⟨v0, p0, s0, e0, hp0⟩ := Pick_some hl p s hp [1, 1, 1, 1, 2, 3] (by simp)
  simp only [e0, Option.bind_some]
  split
  · obtain ⟨v1, p1, s1, e1, _, _, hp1⟩ := Below_some hl p0 s0 5 hp0
    obtain ⟨v2, p2, s2, e2, _, _, hp2⟩ := Below_some hl p1 s1 5 hp1
    obtain ⟨v3, p3, s3, e3, _, _, hp3⟩ := Below_some hl p2 s2 65536 hp2
    obtain ⟨v4, p4, s4, e4, hp4⟩ := Pick_some hl p3 s3 hp3 [v1, v2, v3, 65535] (by simp)
    obtain ⟨v5, p5, s5, e5, _, _, hp5⟩ := Below_some hl p4 s4 20 hp4
    obtain ⟨v6, p6, s6, e6, _, _, hp6⟩ := Below_some hl p5 s5 20 hp5
    obtain ⟨v7, p7, s7, e7, hp7⟩ := Pick_some hl p6 s6 hp6 [wrap64 (v5 - 5), wrap64 (v6 - 5), 1000000, (-1000000)] (by simp)
    simp only [e1, e2, e3, e4, e5, e6, e7, Option.bind_some]
    exact tail _ _ _ _ _ _ hp7
  · exact tail _ _ _ _ _ _ hp0

theorem bits_xor8 (x y : Int) : 0 ≤ Go.bits .xor .u8 x y ∧ Go.bits .xor .u8 x y ≤ 255 := by
  show 0 ≤ IntKind.u8.wrap _ ∧ IntKind.u8.wrap _ ≤ 255
  rw [IntKind.wrap_u8]
  omega
theorem xor8_ne {x q : Int} (hx : 0 ≤ x ∧ x ≤ 255) (hq : 1 ≤ q ∧ q ≤ 255) : Go.bits .xor .u8 x q ≠ x := by
  intro e
  have e1 : Go.bits .xor .u8 x q = IntKind.u8.wrap (((BitVec.ofInt 8 x ^^^ BitVec.ofInt 8 q).toNat : Nat) : Int) := rfl
  rw [e1, IntKind.wrap_u8] at e
  have hlt := (BitVec.ofInt 8 x ^^^ BitVec.ofInt 8 q).isLt
  obtain ⟨a, rfl⟩ : ∃ a : Nat, x = (a : Int) := ⟨x.toNat, by omega⟩
  obtain ⟨b, rfl⟩ : ∃ b : Nat, q = (b : Int) := ⟨q.toNat, by omega⟩
  rw [BitVec.ofInt_natCast, BitVec.ofInt_natCast] at e hlt
  have e2 : BitVec.ofNat 8 a ^^^ BitVec.ofNat 8 b = BitVec.ofNat 8 a := by
    apply BitVec.eq_of_toNat_eq
    rw [BitVec.toNat_ofNat (w := 8) (x := a)]
    omega
  have e3 : BitVec.ofNat 8 b = 0#8 := by
    have : BitVec.ofNat 8 a ^^^ (BitVec.ofNat 8 a ^^^ BitVec.ofNat 8 b) = BitVec.ofNat 8 a ^^^ BitVec.ofNat 8 a := by rw [e2]
    rw [← BitVec.xor_assoc, BitVec.xor_self, BitVec.zero_xor] at this
    exact this
  have e4 := congrArg BitVec.toNat e3
  rw [BitVec.toNat_ofNat] at e4
  simp at e4
  omega

theorem Size_some (l : List Int) : ∃ v, spec_l01Size.f l 40 = some v ∧ v ≤ 40 := by
  unfold spec_l01Size.f
  split
  · exact ⟨_, rfl, by omega⟩
  · exact ⟨_, rfl, by omega⟩

theorem putV_bytes (a b c d : Int) : BytesOk (putV a b c d) := by
  unfold putV
  split
  · refine BytesOk.append (BytesOk.append ?_ (bodyV_bytes a b c d)) ?_
    · intro x hx
      simp at hx
      omega
    · intro x hx
      simp [wide4] at hx
      omega
  · intro x hx
    simp at hx
theorem DrawStream_l0 {l : List Int} (hl : l.length ≤ 4611686018427387903) (n : Int) (hn : n ≤ 40) : ∀ (d k i : Nat) (acc : List Int) (p s : Int), (i : Int) + d = n → 400 + 15 * n.toNat + d < k → 0 ≤ p → acc.length ≤ 14 * i → BytesOk acc →
    ∃ r p' s', spec_l02DrawStream.l0 k n acc (i : Int) l p s = some (r, p', s') ∧ 0 ≤ p' ∧ r.length ≤ 560 ∧ BytesOk r := by
  intro d
  induction d with
  | zero =>
    intro k i acc p s h hk hp ha hb
    obtain ⟨k, rfl⟩ : ∃ m, k = m + 1 := ⟨k - 1, by omega⟩
    simp only [spec_l02DrawStream.l0]
    rw [if_neg (by omega)]
    exact ⟨_, _, _, rfl, hp, by omega, hb⟩
  | succ d ih =>
    intro k i acc p s h hk hp ha hb
    obtain ⟨k, rfl⟩ : ∃ m, k = m + 1 + 1 := ⟨k - 2, by omega⟩
    obtain ⟨a, b, c, e, p1, s1, e1, hp1⟩ := DrawFrame_some (k := k) hl p s hp
    have hv := putV_length a b c e
    simp only [spec_l02DrawStream.l0]
    rw [if_pos (by omega), e1, Option.bind_some]
    dsimp only
    rw [spec_PutFrame_eq (by omega), Option.bind_some, spec_l01Join_eq (by omega) (by omega) (by omega), Option.bind_some, wi (by omega)]
    exact ih (k + 1) (i + 1) _ _ _ (by omega) (by omega) hp1 (by rw [List.length_append]; omega) (hb.append (putV_bytes _ _ _ _))
theorem BendBytes_some {l b : List Int} (hl : l.length ≤ 4611686018427387903) (p s : Int) (hp : 0 ≤ p) (hb : BytesOk b) (hbl : b.length ≤ 1000) : ∃ r p' s', spec_l02BendBytes.f l p s b = some (r, p', s') ∧ 0 ≤ p' ∧ r.length ≤ 1001 ∧ BytesOk r := by
  unfold spec_l02BendBytes.f
  by_cases h0 : (b.length : Int) = 0
  · obtain ⟨v1, p1, s1, e1, _, _, hp1⟩ := Below_some hl p s 256 hp
    rw [if_pos h0, e1, Option.bind_some]
    exact ⟨_, _, _, rfl, hp1, by simp, by intro x hx; simp at hx; omega⟩
  · obtain ⟨v1, p1, s1, e1, _, _, hp1⟩ := Below_some hl p s 3 hp
    obtain ⟨v2, p2, s2, e2, h2, h2', hp2⟩ := Below_some hl p1 s1 (b.length : Int) hp1
    obtain ⟨v3, p3, s3, e3, _, _, hp3⟩ := Below_some hl p2 s2 255 hp2
    obtain ⟨v4, p4, s4, e4, hp4⟩ := Pick_some hl p1 s1 hp1 [0, 1, 4, 9, 200] (by simp)
    have hv2 := h2' (by omega)
    rw [if_neg h0, e1, Option.bind_some]
    dsimp only
    by_cases g0 : v1 = 0
    · rw [if_pos g0, e2, Option.bind_some]
      dsimp only
      rw [if_pos h2.1, if_pos (show v2 ≤ (b.length : Int) by omega)]
      exact ⟨_, _, _, rfl, hp2, by rw [List.length_take]; omega, hb.take _⟩
    · rw [if_neg g0]
      by_cases g1 : v1 = 1
      · rw [if_pos g1, e2, Option.bind_some]
        dsimp only
        rw [if_pos h2.1, if_pos hv2, e3, Option.bind_some]
        exact ⟨_, _, _, rfl, hp3, by rw [List.length_set]; omega, fun x hx => (List.mem_or_eq_of_mem_set hx).elim (hb x) (fun e => by rw [e]; exact bits_xor8 _ _)⟩
      · rw [if_neg g1]
        by_cases g2 : v1 = 2
        · rw [if_pos g2, e4, Option.bind_some, if_pos (show b.length < 140737488355328 by omega)]
          exact ⟨_, _, _, rfl, hp4, by rw [List.length_append, List.length_singleton]; omega, hb.append (by intro x hx; simp at hx; omega)⟩
        · rw [if_neg g2]
          exact ⟨_, _, _, rfl, hp1, by omega, hb⟩
theorem DrawAllFrames_l0 {l : List Int} (hl : l.length ≤ 4611686018427387903) : ∀ (d k : Nat) (b : List Int) (p s : Int), 402 ≤ b.length + d → d < k → 0 ≤ p → b.length ≤ 1100 → BytesOk b → ∃ r, spec_DrawAllFrames.l0 k b l p s = some r ∧ BytesOk r := by
  intro d
  induction d with
  | zero =>
    intro k b p s h hk hp hbl hb
    obtain ⟨k, rfl⟩ : ∃ m, k = m + 1 := ⟨k - 1, by omega⟩
    obtain ⟨v1, p1, s1, e1, h1, h1', hp1⟩ := Below_some hl p s 3 hp
    simp only [spec_DrawAllFrames.l0]
    rw [e1, Option.bind_some, w64 (x := 399 + v1) (by omega) (by omega), if_neg (by omega)]
    exact ⟨_, rfl, hb⟩
  | succ d ih =>
    intro k b p s h hk hp hbl hb
    obtain ⟨k, rfl⟩ : ∃ m, k = m + 1 := ⟨k - 1, by omega⟩
    obtain ⟨v1, p1, s1, e1, h1, h1', hp1⟩ := Below_some hl p s 3 hp
    simp only [spec_DrawAllFrames.l0]
    rw [e1, Option.bind_some, w64 (x := 399 + v1) (by omega) (by omega)]
    by_cases g : (b.length : Int) < 399 + v1
    · rw [if_pos g, if_pos (by omega)]
      exact ih k (b ++ [0]) _ _ (by rw [List.length_append, List.length_singleton]; omega) (by omega) hp1 (by rw [List.length_append, List.length_singleton]; omega) (hb.append (by intro x hx; simp at hx; omega))
    · rw [if_neg g]
      exact ⟨_, rfl, hb⟩
theorem Size_some12 (l : List Int) : ∃ v, spec_l01Size.f l 12 = some v ∧ v ≤ 12 := by
  unfold spec_l01Size.f
  split
  · exact ⟨_, rfl, by omega⟩
  · exact ⟨_, rfl, by omega⟩
theorem DrawAllFrames_some {k : Nat} (l : List Int) (hl : l.length ≤ 4611686018427387903) (hk : 5000 ≤ k) : ∃ r, spec_DrawAllFrames.f k l = some r ∧ BytesOk r := by
  obtain ⟨k, rfl⟩ : ∃ m, k = m + 1 := ⟨k - 1, by omega⟩
  obtain ⟨s, e0⟩ := New_some (k := k + 1) l (by omega)
  obtain ⟨z, ez, hz⟩ := Size_some12 l
  obtain ⟨n, p1, s1, e1, h1, h1', hp1⟩ := Below_some hl 0 s z (by omega)
  obtain ⟨b, p2, s2, e2, hp2, hb2, hbb⟩ := DrawStream_l0 hl n (by omega) n.toNat (k + 1) 0 [] p1 s1 (by omega) (by omega) hp1 (by simp) (by intro x hx; simp at hx)
  obtain ⟨v3, p3, s3, e3, hp3⟩ := Once_some hl p2 s2 3 hp2
  obtain ⟨b4, p4, s4, e4, hp4, hb4, hbb4⟩ := BendBytes_some (b := b) hl p3 s3 hp3 hbb (by omega)
  have tail : ∀ (b : List Int) (p s : Int), 0 ≤ p → b.length ≤ 1001 → BytesOk b → ∃ r, spec_DrawAllFrames.j0 (k + 1) b l p s = some r ∧ BytesOk r := by
    intro b p s hp hbl hb
    obtain ⟨v, p1, s1, e1, hp1⟩ := Once_some hl p s 25 hp
    simp only [spec_DrawAllFrames.j0]
    rw [e1, Option.bind_some]
    split
    · exact DrawAllFrames_l0 hl 402 k b _ _ (by omega) (by omega) hp1 (by omega) hb
    · exact ⟨_, rfl, hb⟩
  replace e2 : spec_l02DrawStream.l0 (k + 1) n [] 0 l p1 s1 = some (b, p2, s2) := e2
  unfold spec_DrawAllFrames.f spec_l02DrawStream.f
  simp only [e0, ez, e1, e2, e3, Option.bind_some]
  split
  · simp only [e4, Option.bind_some]
    exact tail _ _ _ hp4 hb4 hbb4
  · exact tail _ _ _ hp3 (by omega) hbb

theorem at_some {l : List Int} (hb : BytesOk l) (hl : l.length ≤ 1048576) (a : Nat) (ha : a ≤ 1000000) : ∃ t, laws_at.f l (a : Int) = some t ∧ 0 ≤ t ∧ t ≤ 255 := by
  unfold laws_at.f
  by_cases h : (a : Int) < (l.length : Int)
  · have hr := hb.rdb a
    rw [if_pos h, if_pos (by omega), w64 (x := rd l (a : Int)) (by omega) (by omega)]
    exact ⟨_, rfl, hr⟩
  · rw [if_neg h, w64 (x := (a : Int) * 13) (by omega) (by omega), w64 (x := (l.length : Int) * 5) (by omega) (by omega), w64 (x := (a : Int) * 13 + (l.length : Int) * 5) (by omega) (by omega)]
    have h1 := Int.tmod_nonneg 256 (a := (a : Int) * 13 + (l.length : Int) * 5) (by omega)
    have h2 := Int.tmod_lt_of_pos ((a : Int) * 13 + (l.length : Int) * 5) (b := 256) (by omega)
    exact ⟨_, rfl, h1, by omega⟩

theorem pieces_step {B : List Int} (hB : BytesOk B) (hl : B.length ≤ 400) {want : List S34} {bad0 : Bool} {cut : List Int} {i : Nat} (hi : i < 3) (hc3 : cut.length = 3) {c : Nat} (hc : rd cut (i : Int) = (c : Int)) (hcl : c ≤ B.length)
    {frm : Nat} (hf : frm ≤ B.length) {got : List S34} {buf : List Int} {bad : Bool} (hR : Run (B.take frm) got buf bad) {K : Nat}
    (H : ∀ (f' : Nat) (got' : List S34) (buf' : List Int) (bad' : Bool), f' = max frm c → Run (B.take f') got' buf' bad' → ∀ k, K ≤ k → laws_FnPieces.l0 k B want bad0 got' cut (f' : Int) ((i + 1 : Nat) : Int) buf' bad' = some true) :
    ∀ k, K + 2000 ≤ k → laws_FnPieces.l0 k B want bad0 got cut (frm : Int) (i : Int) buf bad = some true := by
  intro k hk
  obtain ⟨k, rfl⟩ : ∃ m, k = m + 1 + 1 := ⟨k - 2, by omega⟩
  have hw : wrap64 ((i : Int) + 1) = ((i + 1 : Nat) : Int) := by unfold wrap64; omega
  have hlen := Run_len hR (hB.take _)
  rw [List.length_take] at hlen
  simp only [laws_FnPieces.l0]
  rw [if_pos (by omega), if_pos (by omega), if_pos (by omega), hc, hw]
  by_cases h1 : (c : Int) < (frm : Int)
  · rw [if_pos h1]
    exact H frm got buf bad (by omega) hR (k + 1) (by omega)
  · rw [if_neg h1, if_pos (by omega), if_pos (by omega), if_pos (by omega), Int.toNat_natCast, Int.toNat_natCast]
    have hcat : B.take c = B.take frm ++ (B.take c).drop frm := by
      conv => lhs; rw [← List.take_append_drop frm (B.take c)]
      rw [List.take_take, show min frm c = frm by omega]
    have hpl : ((B.take c).drop frm).length = c - frm := by simp; omega
    have hbc : BytesOk (B.take frm ++ (B.take c).drop frm) := hcat ▸ hB.take c
    rw [impl_FeedBytes_eq (by omega) (by omega), Option.bind_some]
    cases bad with
    | true =>
      have hbuf : buf = [] := hlen.2.2 rfl
      subst hbuf
      have e : feedV [] true ((B.take c).drop frm) = ([], true, false) := by simp [feedV]
      rw [e]
      simp only [Bool.false_eq_true, if_false, if_true, laws_FnPieces.j2]
      rw [if_pos (by omega), if_pos (by omega), hc]
      obtain ⟨k, rfl⟩ : ∃ m, k = m + 1 := ⟨k - 1, by omega⟩
      simp only [laws_FnPieces.l1]
      rw [impl_TakeNext_eq (by simp; omega) (by intro x hx; simp at hx) (by simp), Option.bind_some]
      have e2 : nextV [] true = ([], true, 0, 0, 0, 0, 2) := by simp [nextV]
      rw [e2]
      have h2 := H c got [] true (by omega) (by rw [hcat]; exact Run_bad hR rfl hbc) k (by omega)
      rw [hw]
      simpa using h2
    | false =>
      have e : feedV buf false ((B.take c).drop frm) = (buf ++ (B.take c).drop frm, false, true) := by
        unfold feedV
        rw [if_pos (by simp [decOkB]; omega), if_neg (by simp), if_neg (by omega)]
      rw [e]
      simp only [if_true, laws_FnPieces.j2]
      rw [if_pos (by omega), if_pos (by omega), hc]
      have hbb : BytesOk (buf ++ (B.take c).drop frm) := hlen.2.1.append ((hB.take c).drop frm)
      obtain ⟨gs, r', b', h2⟩ := Run_ex _ (buf ++ (B.take c).drop frm) (Nat.le_refl _) hbb
      have h3 := Run_app hR rfl hbc h2
      rw [← hcat] at h3
      refine l1_run h2 (K := K) hbb (by rw [List.length_append]; omega) (by rw [List.length_append]; omega) ?_ k (by rw [List.length_append]; omega)
      rw [hw]
      exact H c (got ++ gs) r' b' (by omega) h3
theorem FnPieces : ∀ (l0 : List Int), l0.length ≤ maxLen → (∀ x ∈ l0, (Lit.int .u8 x).wf = true) → ∃ k, laws_FnPieces.f k l0 = some true := by
  intro l _ hw
  refine ⟨20002, ?_⟩
  have hb := BytesOk.of_wf hw
  simp only [laws_FnPieces.f, laws_big.f, Option.bind_some]
  by_cases hl : (l.length : Int) > 1048576
  · rw [if_pos (decide_eq_true hl)]
  rw [if_neg (by simpa using hl)]
  obtain ⟨B, e0, hB⟩ := DrawAllFrames_some (k := 20002) l (by omega) (by omega)
  rw [e0, Option.bind_some]
  by_cases hB4 : (B.length : Int) > 400
  · rw [if_pos hB4]
  rw [if_neg hB4]
  obtain ⟨fs, r, b, hR⟩ := Run_ex _ B (Nat.le_refl _) hB
  have hlenR := Run_len hR hB
  obtain ⟨v, s1, s2, _⟩ := AllFrames_both hB
  obtain ⟨n, a1⟩ := AllFrames_run hR B 0 20002 [] (by simp) (by omega) hB (by omega) (by simp) (by omega)
  have a2 := s2 20002 (by omega)
  unfold impl_AllFrames.f at a2
  rw [if_neg hB4] at a2
  replace a1 : impl_AllFrames.l0 20002 B [] 0 = some ([] ++ fs, n, b) := a1
  rw [List.nil_append] at a1
  have hv : v = (fs, n, b) := Option.some.inj (a2.symm.trans a1)
  subst hv
  rw [s1 20002 (by omega), Option.bind_some, s2 20002 (by omega), Option.bind_some, sameFrames_refl (k := 20002) (x := fs) (by omega) (by omega), Option.bind_some, if_pos rfl, if_pos rfl, bne_self_eq_false]
  simp only [laws_FnPieces.j0, Bool.false_eq_true, if_false]
  obtain ⟨t0, e1, ht0, ht0'⟩ := at_some hb (show l.length ≤ 1048576 by omega) 0 (by omega)
  obtain ⟨t1, e2, ht1, ht1'⟩ := at_some hb (show l.length ≤ 1048576 by omega) 1 (by omega)
  replace e1 : laws_at.f l 0 = some t0 := e1
  replace e2 : laws_at.f l 1 = some t1 := e2
  have w1 : wrap64 ((B.length : Int) + 1) = (B.length : Int) + 1 := w64 (by omega) (by omega)
  rw [e1, Option.bind_some, w1, if_neg (by omega), e2, Option.bind_some, w64 (x := t0 * 3) (by omega) (by omega), w64 (x := t1 * 3) (by omega) (by omega)]
  have m1 := Int.tmod_nonneg ((B.length : Int) + 1) (a := t0 * 3) (by omega)
  have m2 := Int.tmod_lt_of_pos (t0 * 3) (b := (B.length : Int) + 1) (by omega)
  have m3 := Int.tmod_nonneg ((B.length : Int) + 1) (a := t1 * 3) (by omega)
  have m4 := Int.tmod_lt_of_pos (t1 * 3) (b := (B.length : Int) + 1) (by omega)
  obtain ⟨c0, hc0⟩ : ∃ c : Nat, (t0 * 3).tmod ((B.length : Int) + 1) = (c : Int) := ⟨((t0 * 3).tmod ((B.length : Int) + 1)).toNat, by omega⟩
  obtain ⟨c1, hc1⟩ : ∃ c : Nat, (t1 * 3).tmod ((B.length : Int) + 1) = (c : Int) := ⟨((t1 * 3).tmod ((B.length : Int) + 1)).toNat, by omega⟩
  rw [hc0] at m2 ⊢
  rw [hc1] at m4 ⊢
  have hR0 : Run (B.take 0) [] [] false := .more (by simp [takeV])
  refine pieces_step hB (by omega) (i := 0) (by omega) rfl (c := c0) rfl (by omega) (frm := 0) (by omega) hR0 (K := 10000) ?_ 20001 (by omega)
  intro f1 g1 b1 d1 hf1 hR1
  refine pieces_step hB (by omega) (i := 1) (by omega) rfl (c := c1) rfl (by omega) (frm := f1) (by omega) hR1 (K := 8000) ?_
  intro f2 g2 b2 d2 hf2 hR2
  refine pieces_step hB (by omega) (i := 2) (by omega) rfl (c := B.length) rfl (by omega) (frm := f2) (by omega) hR2 (K := 6000) ?_
  intro f3 g3 b3 d3 hf3 hR3 k hk
  obtain ⟨k, rfl⟩ : ∃ m, k = m + 1 := ⟨k - 1, by omega⟩
  rw [show f3 = B.length by omega, List.take_of_length_le (Nat.le_refl _)] at hR3
  obtain ⟨rfl, rfl, rfl⟩ := Run_fun hR3 hR
  simp only [laws_FnPieces.l0]
  rw [if_neg (by omega), sameFrames_refl (by omega) (by omega), Option.bind_some, if_pos rfl, beq_self_eq_true, if_pos rfl, spec_DecoderOk_eq, Option.bind_some]
  congr 1
  cases d3
  · simp [decOkB]; omega
  · rw [hlenR.2.2 rfl]; rfl

end Go.Proofs.Ytaofcalmgodgjaa.Pure
