/-
  The program's AggText and the reference's give the same text at every Agg. No condition.
-/
import Derived.Test.YtkbgphdepkjccaaDoorQFnExactAggTextx2
namespace Go.Proofs.YtkbgphdepkjccaaDoor.Pure
open Go.RowKit Go.Proofs.YtkbgphdepkjccaaDoor.QFnExactAggText Go.Proofs.YtkbgphdepkjccaaDoorW.PrintWords Go.Proofs.YtkbgphdepkjccaaDoorW.PrintLast Go.Proofs.YtkbgphdepkjccaaDoorW.PrintMore
set_option linter.unusedSimpArgs false
set_option linter.unusedVariables false

theorem spec_in_eq (a lo hi : Int) : spec_l01In.f a lo hi = some (decide (lo ≤ a ∧ a ≤ hi)) := by
  unfold spec_l01In.f; by_cases h : lo ≤ a <;> simp [h]

theorem spec_l05Value_eq (a : Int) : spec_l05Value.f a = some (decide ((-1000000) ≤ a ∧ a ≤ 1000000)) := by
  simp only [spec_l05Value.f, spec_in_eq, Option.bind_some]

theorem impl_within_eq (a lo hi : Int) : impl_within.f a lo hi = some (decide (lo ≤ a ∧ a ≤ hi)) := by
  unfold impl_within.f; by_cases h : lo ≤ a <;> simp [h]

theorem impl_isTime_eq (a : Int) : impl_isTime.f a = some (decide (0 ≤ a ∧ a ≤ 1000000)) := by
  simp only [impl_isTime.f, impl_within_eq, Option.bind_some]

theorem impl_isKey_eq (a : Int) : impl_isKey.f a = some (decide (0 ≤ a ∧ a ≤ 65535)) := by
  simp only [impl_isKey.f, impl_within_eq, Option.bind_some]

theorem impl_isSum_eq (a : Int) : impl_isSum.f a = some (decide ((-1000000000) ≤ a ∧ a ≤ 1000000000)) := by
  simp only [impl_isSum.f, impl_within_eq, Option.bind_some]

theorem impl_isValue_eq (a : Int) : impl_isValue.f a = some (decide ((-1000000) ≤ a ∧ a ≤ 1000000)) := by
  simp only [impl_isValue.f, impl_within_eq, Option.bind_some]

theorem impl_AggOk_eq (a b c d e f : Int) : impl_AggOk.f a b c d e f = spec_AggOk.f a b c d e f := by
  simp only [impl_AggOk.f, spec_AggOk.f, spec_in_eq, spec_l05Value_eq, impl_within_eq, impl_isTime_eq, impl_isKey_eq, impl_isSum_eq, impl_isValue_eq]
theorem spec_AggOk_some (a b c d e f : Int) : ∃ r, spec_AggOk.f a b c d e f = some r := by
  simp only [spec_AggOk.f, spec_in_eq, spec_l05Value_eq, Option.bind_some]
  (repeat' split) <;> exact ⟨_, rfl⟩

def aggOkB (a b c d e f : Int) : Bool :=
  decide (0 ≤ a ∧ a ≤ 1000000) && (decide (0 ≤ b ∧ b ≤ 65535) && (decide (1 ≤ c ∧ c ≤ 1000000000) && (decide (-1000000000 ≤ d ∧ d ≤ 1000000000) && (decide (-1000000 ≤ e ∧ e ≤ 1000000) && (decide (-1000000 ≤ f ∧ f ≤ 1000000) && decide (e ≤ f))))))
theorem spec_AggOk_eq (a b c d e f : Int) : spec_AggOk.f a b c d e f = some (aggOkB a b c d e f) := by
  simp only [spec_AggOk.f, spec_in_eq, spec_l05Value_eq, Option.bind_some, aggOkB]
  by_cases h1 : 0 ≤ a ∧ a ≤ 1000000
  · by_cases h2 : 0 ≤ b ∧ b ≤ 65535
    · by_cases h3 : 1 ≤ c ∧ c ≤ 1000000000
      · by_cases h4 : -1000000000 ≤ d ∧ d ≤ 1000000000
        · by_cases h5 : -1000000 ≤ e ∧ e ≤ 1000000
          · by_cases h6 : -1000000 ≤ f ∧ f ≤ 1000000
            · simp [h1, h2, h3, h4, h5, h6]
            · simp [h1, h2, h3, h4, h5, h6]
          · simp [h1, h2, h3, h4, h5]
        · simp [h1, h2, h3, h4]
      · simp [h1, h2, h3]
    · simp [h1, h2]
  · simp [h1]
theorem aggOkB_iff (a b c d e f : Int) : aggOkB a b c d e f = true ↔ (0 ≤ a ∧ a ≤ 1000000) ∧ (0 ≤ b ∧ b ≤ 65535) ∧ (1 ≤ c ∧ c ≤ 1000000000) ∧ (-1000000000 ≤ d ∧ d ≤ 1000000000) ∧ (-1000000 ≤ e ∧ e ≤ 1000000) ∧ (-1000000 ≤ f ∧ f ≤ 1000000) ∧ e ≤ f := by
  simp [aggOkB]

theorem w64 {x : Int} (h1 : -9223372036854775808 ≤ x) (h2 : x ≤ 9223372036854775807) : wrap64 x = x := by
  unfold wrap64; omega

/-- A string by its bytes. -/
def bs (l : List UInt8) : ByteArray := ⟨l.toArray⟩
theorem bs_size (l : List UInt8) : (bs l).size = l.length := by simp [bs, ByteArray.size]
theorem bs_app (a b : List UInt8) : bs a ++ bs b = bs (a ++ b) := by
  apply ByteArray.ext
  simp [bs]
theorem bs_inj {a b : List UInt8} (h : bs a = bs b) : a = b := by
  have := congrArg (fun x : ByteArray => x.data.toList) h
  simpa [bs] using this
theorem bs_of (s : ByteArray) : s = bs s.data.toList := by cases s; rfl
theorem bs_toList (l : List UInt8) : (bs l).data.toList = l := by simp [bs]
theorem bs_ex (l : List UInt8) (i j : Nat) : (bs l).extract i j = bs ((l.take j).drop i) := by
  apply ByteArray.ext
  simp [bs, List.drop_take]
theorem td10 (x : Int) : (0 ≤ x ∧ Int.tdiv x 10 = x / 10 ∧ Int.tmod x 10 = x % 10) ∨ (x < 0 ∧ Int.tdiv x 10 = -((-x) / 10) ∧ Int.tmod x 10 = -((-x) % 10)) := by
  by_cases h : 0 ≤ x
  · exact .inl ⟨h, Int.tdiv_eq_ediv_of_nonneg h, Int.tmod_eq_emod_of_nonneg h⟩
  · refine .inr ⟨by omega, ?_, ?_⟩
    · have : x = -(-x) := by omega
      rw [this, Int.neg_tdiv, Int.tdiv_eq_ediv_of_nonneg (by omega)]
      simp
    · have : x = -(-x) := by omega
      rw [this, Int.neg_tmod, Int.tmod_eq_emod_of_nonneg (by omega)]
      simp
theorem bs_nums (l : List Int) : strOfNums l = bs (l.map fun n => UInt8.ofNat n.toNat) := rfl

theorem l01Num_l0 : ∀ (d k : Nat) (x : Int) (l : List UInt8) (neg : Bool), x.natAbs < 10 ^ d → d < k → l.length + d ≤ 1000000000 → -9223372036854775808 ≤ x → x ≤ 9223372036854775807 →
    spec_l01Num.l0 k x (bs l) neg = some (bs ((if neg = true then [45] else []) ++ ((if x = 0 then [] else Lib.decDigits x.natAbs) ++ l))) := by
  intro d
  induction d with
  | zero =>
    intro k x l neg hx hk hl h1 h2
    obtain ⟨k, rfl⟩ : ∃ m, k = m + 1 := ⟨k - 1, by omega⟩
    obtain rfl : x = 0 := by simp at hx; omega
    simp only [spec_l01Num.l0]
    rw [if_pos trivial]
    cases neg with
    | true =>
      rw [if_pos rfl, if_pos (by rw [bs_size]; omega)]
      exact congrArg some (bs_app [45] l)
    | false => simp
  | succ d ih =>
    intro k x l neg hx hk hl h1 h2
    obtain ⟨k, rfl⟩ : ∃ m, k = m + 1 := ⟨k - 1, by omega⟩
    by_cases h0 : x = 0
    · subst h0
      simp only [spec_l01Num.l0]
      rw [if_pos trivial]
      cases neg with
      | true =>
        rw [if_pos rfl, if_pos (by rw [bs_size]; omega)]
        exact congrArg some (bs_app [45] l)
      | false => simp
    · have htd := td10 x
      have hq : wrap64 (Int.tdiv x 10) = Int.tdiv x 10 := w64 (by omega) (by omega)
      have hqa : (Int.tdiv x 10).natAbs = x.natAbs / 10 := by omega
      have hstep : ∀ c : Int, c = 48 + ((x.natAbs % 10 : Nat) : Int) → spec_l01Num.l0 k (wrap64 (Int.tdiv x 10)) (strOfNums [c] ++ bs l) neg = some (bs ((if neg = true then [45] else []) ++ ((if x = 0 then [] else Lib.decDigits x.natAbs) ++ l))) := by
        intro c hc
        have e1 : strOfNums [c] ++ bs l = bs (UInt8.ofNat (48 + x.natAbs % 10) :: l) := by
          rw [bs_nums, bs_app, hc]
          congr 1
        rw [e1, hq, ih k _ _ neg (by rw [hqa]; have : 10 ^ (d + 1) = 10 ^ d * 10 := Nat.pow_succ ..; omega) (by omega) (by simp; omega) (by omega) (by omega), hqa, if_neg h0]
        congr 3
        by_cases hs : x.natAbs < 10
        · rw [if_pos (by omega), Lib.decDigits, dif_pos hs, Nat.mod_eq_of_lt hs]
          rfl
        · rw [if_neg (by omega)]
          conv => rhs; rw [Lib.decDigits, dif_neg hs]
          rw [List.append_assoc]
          rfl
      have hsz : ∀ c : Int, (strOfNums [c]).size = 1 := fun c => by simp [strOfNums, ByteArray.size]
      simp only [spec_l01Num.l0]
      rw [if_neg h0]
      by_cases hm : Int.tmod x 10 < 0
      · rw [if_pos hm]
        simp only [Option.bind_some]
        rw [hsz, bs_size, if_pos (by omega)]
        refine hstep _ ?_
        have e2 : wrap64 (-(Int.tmod x 10)) = -(Int.tmod x 10) := w64 (by omega) (by omega)
        rw [e2, w64 (by omega) (by omega)]
        omega
      · rw [if_neg hm]
        simp only [Option.bind_some]
        rw [hsz, bs_size, if_pos (by omega)]
        refine hstep _ ?_
        rw [w64 (by omega) (by omega)]
        omega
theorem l01Num_eq {k : Nat} {x : Int} (hk : 30 ≤ k) (h1 : -9223372036854775808 ≤ x) (h2 : x ≤ 9223372036854775807) : spec_l01Num.f k x = some (bs (Lib.itoa x)) := by
  unfold spec_l01Num.f
  by_cases h0 : x = 0
  · subst h0
    rw [if_pos rfl]
    unfold Lib.itoa
    rw [if_neg (by omega), Lib.decDigits, dif_pos (by decide)]
    rfl
  · rw [if_neg h0]
    have e : (⟨#[]⟩ : ByteArray) = bs [] := rfl
    have e19 : (10 : Nat) ^ 19 = 10000000000000000000 := by decide +kernel
    rw [e, l01Num_l0 19 k x [] _ (by rw [e19]; omega) (by omega) (by simp) h1 h2, if_neg h0]
    unfold Lib.itoa
    by_cases hn : x < 0
    · simp [hn]
    · have : x.natAbs = x.toNat := by omega
      simp [hn, this]

theorem td1000 {x : Int} (h : 0 ≤ x) : Int.tdiv x 1000 = x / 1000 ∧ Int.tmod x 1000 = x % 1000 := ⟨Int.tdiv_eq_ediv_of_nonneg h, Int.tmod_eq_emod_of_nonneg h⟩
theorem td100 {x : Int} (h : 0 ≤ x) : Int.tdiv x 100 = x / 100 := Int.tdiv_eq_ediv_of_nonneg h
theorem td10' {x : Int} (h : 0 ≤ x) : Int.tdiv x 10 = x / 10 ∧ Int.tmod x 10 = x % 10 := ⟨Int.tdiv_eq_ediv_of_nonneg h, Int.tmod_eq_emod_of_nonneg h⟩
theorem nDigits_le : ∀ (d u : Nat), u < 10 ^ d → (Lib.decDigits u).length ≤ d + 1 := by
  intro d
  induction d with
  | zero => intro u h; rw [Lib.decDigits, dif_pos (by simp at h; omega)]; simp
  | succ d ih =>
    intro u h
    by_cases hs : u < 10
    · rw [Lib.decDigits, dif_pos hs]; simp
    · rw [Lib.decDigits, dif_neg hs]
      have := ih (u / 10) (by have : 10 ^ (d + 1) = 10 ^ d * 10 := Nat.pow_succ ..; omega)
      simp; omega
theorem itoa_len {x : Int} (h1 : -9223372036854775808 ≤ x) (h2 : x ≤ 9223372036854775807) : (Lib.itoa x).length ≤ 21 := by
  have e19 : (10 : Nat) ^ 19 = 10000000000000000000 := by decide +kernel
  unfold Lib.itoa
  by_cases hn : x < 0
  · rw [if_pos hn]
    have := nDigits_le 19 x.natAbs (by rw [e19]; omega)
    simp; omega
  · rw [if_neg hn]
    have := nDigits_le 19 x.toNat (by rw [e19]; omega)
    omega

theorem impl_decimal_eq {x : Int} (h1 : -9223372036854775808 ≤ x) (h2 : x ≤ 9223372036854775807) : impl_decimal.f x = some (bs (Lib.itoa x)) := by
  unfold impl_decimal.f
  simp only [strconv_Itoa_37.f, if_pos (And.intro h1 h2), Option.bind_some]
  rfl

/-- An Agg's text. -/
def aggB (a b c d e f : Int) : List UInt8 := if aggOkB a b c d e f = true then Lib.itoa a ++ 47 :: (Lib.itoa b ++ 58 :: (Lib.itoa c ++ 32 :: (Lib.itoa d ++ 32 :: (Lib.itoa e ++ 32 :: Lib.itoa f)))) else []
def Wf64 (x : Int) : Prop := -9223372036854775808 ≤ x ∧ x ≤ 9223372036854775807
theorem wf64_of {x : Int} (h : (Lit.int .i64 x).wf = true) : Wf64 x := by
  have e1 : IntKind.i64.min = -9223372036854775808 := rfl
  have e2 : IntKind.i64.max = 9223372036854775807 := rfl
  simp [Lit.wf, e1, e2] at h
  unfold Wf64
  omega
theorem six_end {ta tb tc td te tf : List UInt8} (ha : ta.length ≤ 21) (hb : tb.length ≤ 21) (hc : tc.length ≤ 21) (hd : td.length ≤ 21) (he : te.length ≤ 21) (hf : tf.length ≤ 21) :
    (ta ++ 47 :: (tb ++ 58 :: (tc ++ 32 :: (td ++ 32 :: (te ++ 32 :: tf))))).length ≤ 200 := by simp; omega
theorem spec_AggText_eq {k : Nat} (hk : 30 ≤ k) {a b c d e f : Int} (ha : Wf64 a) (hb : Wf64 b) (hc : Wf64 c) (hd : Wf64 d) (he : Wf64 e) (hf : Wf64 f) : spec_AggText.f k a b c d e f = some (bs (aggB a b c d e f)) := by
  have la := itoa_len ha.1 ha.2
  have lb := itoa_len hb.1 hb.2
  have lc := itoa_len hc.1 hc.2
  have ld := itoa_len hd.1 hd.2
  have le := itoa_len he.1 he.2
  have lf := itoa_len hf.1 hf.2
  unfold spec_AggText.f aggB
  rw [spec_AggOk_eq]
  simp only [Option.bind_some]
  cases aggOkB a b c d e f with
  | false => rfl
  | true =>
    rw [if_pos rfl, if_pos rfl]
    simp only [l01Num_eq hk ha.1 ha.2, l01Num_eq hk hb.1 hb.2, l01Num_eq hk hc.1 hc.2, l01Num_eq hk hd.1 hd.2, l01Num_eq hk he.1 he.2, l01Num_eq hk hf.1 hf.2, Option.bind_some]
    rw [show (⟨#[47]⟩ : ByteArray) = bs [47] from rfl, show (⟨#[58]⟩ : ByteArray) = bs [58] from rfl, show (⟨#[32]⟩ : ByteArray) = bs [32] from rfl]
    simp only [bs_app, bs_size, List.length_append, List.length_cons, List.length_nil]
    repeat rw [if_pos (by omega)]
    simp only [List.append_assoc, List.cons_append, List.nil_append]
theorem impl_AggText_eq {a b c d e f : Int} (ha : Wf64 a) (hb : Wf64 b) (hc : Wf64 c) (hd : Wf64 d) (he : Wf64 e) (hf : Wf64 f) : impl_AggText.f a b c d e f = some (bs (aggB a b c d e f)) := by
  have la := itoa_len ha.1 ha.2
  have lb := itoa_len hb.1 hb.2
  have lc := itoa_len hc.1 hc.2
  have ld := itoa_len hd.1 hd.2
  have le := itoa_len he.1 he.2
  have lf := itoa_len hf.1 hf.2
  unfold impl_AggText.f aggB
  rw [impl_AggOk_eq, spec_AggOk_eq]
  simp only [Option.bind_some]
  cases aggOkB a b c d e f with
  | false => rfl
  | true =>
    rw [if_pos rfl, if_pos rfl]
    simp only [impl_decimal_eq ha.1 ha.2, impl_decimal_eq hb.1 hb.2, impl_decimal_eq hc.1 hc.2, impl_decimal_eq hd.1 hd.2, impl_decimal_eq he.1 he.2, impl_decimal_eq hf.1 hf.2, Option.bind_some]
    rw [show (⟨#[47]⟩ : ByteArray) = bs [47] from rfl, show (⟨#[58]⟩ : ByteArray) = bs [58] from rfl, show (⟨#[32]⟩ : ByteArray) = bs [32] from rfl]
    simp only [bs_app, bs_size, List.length_append, List.length_cons, List.length_nil]
    repeat rw [if_pos (by omega)]
    simp only [List.append_assoc, List.cons_append, List.nil_append]

theorem FnExactAggText : ∀ (a0_0 : Int) (a0_1 : Int) (a0_2 : Int) (a0_3 : Int) (a0_4 : Int) (a0_5 : Int), (Lit.int .i64 a0_0).wf = true → (Lit.int .i64 a0_1).wf = true → (Lit.int .i64 a0_2).wf = true → (Lit.int .i64 a0_3).wf = true → (Lit.int .i64 a0_4).wf = true → (Lit.int .i64 a0_5).wf = true → ∃ k, laws_FnExactAggText.f k a0_0 a0_1 a0_2 a0_3 a0_4 a0_5 = some true := by
  intro a0 a1 a2 a3 a4 a5 w0 w1 w2 w3 w4 w5
  refine ⟨30, ?_⟩
  simp only [laws_FnExactAggText.f, laws_toAgg.f, Option.bind_some, spec_AggText_eq (Nat.le_refl _) (wf64_of w0) (wf64_of w1) (wf64_of w2) (wf64_of w3) (wf64_of w4) (wf64_of w5), impl_AggText_eq (wf64_of w0) (wf64_of w1) (wf64_of w2) (wf64_of w3) (wf64_of w4) (wf64_of w5), if_true]

end Go.Proofs.YtkbgphdepkjccaaDoor.Pure
