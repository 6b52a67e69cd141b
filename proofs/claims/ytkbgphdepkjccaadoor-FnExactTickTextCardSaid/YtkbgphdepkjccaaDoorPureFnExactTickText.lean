/-
  The program's TickText and the reference's give the same text at every whole number. No condition.
-/
import Derived.Test.YtkbgphdepkjccaaDoorQFnExactTickTextx1
namespace Go.Proofs.YtkbgphdepkjccaaDoor.Pure
open Go.RowKit Go.Proofs.YtkbgphdepkjccaaDoor.QFnExactTickText Go.Proofs.YtkbgphdepkjccaaDoorW.PrintWords Go.Proofs.YtkbgphdepkjccaaDoorW.PrintLast Go.Proofs.YtkbgphdepkjccaaDoorW.PrintMore
set_option linter.unusedSimpArgs false
set_option linter.unusedVariables false

theorem w64 {x : Int} (h1 : -9223372036854775808 ≤ x) (h2 : x ≤ 9223372036854775807) : wrap64 x = x := by
  unfold wrap64; omega

/-- A string by its bytes. -/
def bs (l : List UInt8) : ByteArray := ⟨l.toArray⟩
theorem bs_size (l : List UInt8) : (bs l).size = l.length := by simp [bs, ByteArray.size]
theorem bs_app (a b : List UInt8) : bs a ++ bs b = bs (a ++ b) := by
  apply ByteArray.ext
  simp [bs]
theorem bs_inj {a b : List UInt8} (h : bs a = bs b) : a = b := by
  have := congrArg (fun x : ByteArray => x.data.toList) h
  simpa [bs] using this
theorem bs_of (s : ByteArray) : s = bs s.data.toList := by cases s; rfl
theorem bs_toList (l : List UInt8) : (bs l).data.toList = l := by simp [bs]
theorem bs_ex (l : List UInt8) (i j : Nat) : (bs l).extract i j = bs ((l.take j).drop i) := by
  apply ByteArray.ext
  simp [bs, List.drop_take]
theorem td10 (x : Int) : (0 ≤ x ∧ Int.tdiv x 10 = x / 10 ∧ Int.tmod x 10 = x % 10) ∨ (x < 0 ∧ Int.tdiv x 10 = -((-x) / 10) ∧ Int.tmod x 10 = -((-x) % 10)) := by
  by_cases h : 0 ≤ x
  · exact .inl ⟨h, Int.tdiv_eq_ediv_of_nonneg h, Int.tmod_eq_emod_of_nonneg h⟩
  · refine .inr ⟨by omega, ?_, ?_⟩
    · have : x = -(-x) := by omega
      rw [this, Int.neg_tdiv, Int.tdiv_eq_ediv_of_nonneg (by omega)]
      simp
    · have : x = -(-x) := by omega
      rw [this, Int.neg_tmod, Int.tmod_eq_emod_of_nonneg (by omega)]
      simp
theorem bs_nums (l : List Int) : strOfNums l = bs (l.map fun n => UInt8.ofNat n.toNat) := rfl

theorem l01Num_l0 : ∀ (d k : Nat) (x : Int) (l : List UInt8) (neg : Bool), x.natAbs < 10 ^ d → d < k → l.length + d ≤ 1000000000 → -9223372036854775808 ≤ x → x ≤ 9223372036854775807 →
    spec_l01Num.l0 k x (bs l) neg = some (bs ((if neg = true then [45] else []) ++ ((if x = 0 then [] else Lib.decDigits x.natAbs) ++ l))) := by
  intro d
  induction d with
  | zero =>
    intro k x l neg hx hk hl h1 h2
    obtain ⟨k, rfl⟩ : ∃ m, k = m + 1 := ⟨k - 1, by omega⟩
    obtain rfl : x = 0 := by simp at hx; omega
    simp only [spec_l01Num.l0]
    rw [if_pos trivial]
    cases neg with
    | true =>
      rw [if_pos rfl, if_pos (by rw [bs_size]; omega)]
      exact congrArg some (bs_app [45] l)
    | false => simp
  | succ d ih =>
    intro k x l neg hx hk hl h1 h2
    obtain ⟨k, rfl⟩ : ∃ m, k = m + 1 := ⟨k - 1, by omega⟩
    by_cases h0 : x = 0
    · subst h0
      simp only [spec_l01Num.l0]
      rw [if_pos trivial]
      cases neg with
      | true =>
        rw [if_pos rfl, if_pos (by rw [bs_size]; omega)]
        exact congrArg some (bs_app [45] l)
      | false => simp
    · have htd := td10 x
      have hq : wrap64 (Int.tdiv x 10) = Int.tdiv x 10 := w64 (by omega) (by omega)
      have hqa : (Int.tdiv x 10).natAbs = x.natAbs / 10 := by omega
      have hstep : ∀ c : Int, c = 48 + ((x.natAbs % 10 : Nat) : Int) → spec_l01Num.l0 k (wrap64 (Int.tdiv x 10)) (strOfNums [c] ++ bs l) neg = some (bs ((if neg = true then [45] else []) ++ ((if x = 0 then [] else Lib.decDigits x.natAbs) ++ l))) := by
        intro c hc
        have e1 : strOfNums [c] ++ bs l = bs (UInt8.ofNat (48 + x.natAbs % 10) :: l) := by
          rw [bs_nums, bs_app, hc]
          congr 1
        rw [e1, hq, ih k _ _ neg (by rw [hqa]; have : 10 ^ (d + 1) = 10 ^ d * 10 := Nat.pow_succ ..; omega) (by omega) (by simp; omega) (by omega) (by omega), hqa, if_neg h0]
        congr 3
        by_cases hs : x.natAbs < 10
        · rw [if_pos (by omega), Lib.decDigits, dif_pos hs, Nat.mod_eq_of_lt hs]
          rfl
        · rw [if_neg (by omega)]
          conv => rhs; rw [Lib.decDigits, dif_neg hs]
          rw [List.append_assoc]
          rfl
      have hsz : ∀ c : Int, (strOfNums [c]).size = 1 := fun c => by simp [strOfNums, ByteArray.size]
      simp only [spec_l01Num.l0]
      rw [if_neg h0]
      by_cases hm : Int.tmod x 10 < 0
      · rw [if_pos hm]
        simp only [Option.bind_some]
        rw [hsz, bs_size, if_pos (by omega)]
        refine hstep _ ?_
        have e2 : wrap64 (-(Int.tmod x 10)) = -(Int.tmod x 10) := w64 (by omega) (by omega)
        rw [e2, w64 (by omega) (by omega)]
        omega
      · rw [if_neg hm]
        simp only [Option.bind_some]
        rw [hsz, bs_size, if_pos (by omega)]
        refine hstep _ ?_
        rw [w64 (by omega) (by omega)]
        omega
theorem l01Num_eq {k : Nat} {x : Int} (hk : 30 ≤ k) (h1 : -9223372036854775808 ≤ x) (h2 : x ≤ 9223372036854775807) : spec_l01Num.f k x = some (bs (Lib.itoa x)) := by
  unfold spec_l01Num.f
  by_cases h0 : x = 0
  · subst h0
    rw [if_pos rfl]
    unfold Lib.itoa
    rw [if_neg (by omega), Lib.decDigits, dif_pos (by decide)]
    rfl
  · rw [if_neg h0]
    have e : (⟨#[]⟩ : ByteArray) = bs [] := rfl
    have e19 : (10 : Nat) ^ 19 = 10000000000000000000 := by decide +kernel
    rw [e, l01Num_l0 19 k x [] _ (by rw [e19]; omega) (by omega) (by simp) h1 h2, if_neg h0]
    unfold Lib.itoa
    by_cases hn : x < 0
    · simp [hn]
    · have : x.natAbs = x.toNat := by omega
      simp [hn, this]

theorem td1000 {x : Int} (h : 0 ≤ x) : Int.tdiv x 1000 = x / 1000 ∧ Int.tmod x 1000 = x % 1000 := ⟨Int.tdiv_eq_ediv_of_nonneg h, Int.tmod_eq_emod_of_nonneg h⟩
theorem td100 {x : Int} (h : 0 ≤ x) : Int.tdiv x 100 = x / 100 := Int.tdiv_eq_ediv_of_nonneg h
theorem td10' {x : Int} (h : 0 ≤ x) : Int.tdiv x 10 = x / 10 ∧ Int.tmod x 10 = x % 10 := ⟨Int.tdiv_eq_ediv_of_nonneg h, Int.tmod_eq_emod_of_nonneg h⟩
theorem nDigits_le : ∀ (d u : Nat), u < 10 ^ d → (Lib.decDigits u).length ≤ d + 1 := by
  intro d
  induction d with
  | zero => intro u h; rw [Lib.decDigits, dif_pos (by simp at h; omega)]; simp
  | succ d ih =>
    intro u h
    by_cases hs : u < 10
    · rw [Lib.decDigits, dif_pos hs]; simp
    · rw [Lib.decDigits, dif_neg hs]
      have := ih (u / 10) (by have : 10 ^ (d + 1) = 10 ^ d * 10 := Nat.pow_succ ..; omega)
      simp; omega
theorem itoa_len {x : Int} (h1 : -9223372036854775808 ≤ x) (h2 : x ≤ 9223372036854775807) : (Lib.itoa x).length ≤ 21 := by
  have e19 : (10 : Nat) ^ 19 = 10000000000000000000 := by decide +kernel
  unfold Lib.itoa
  by_cases hn : x < 0
  · rw [if_pos hn]
    have := nDigits_le 19 x.natAbs (by rw [e19]; omega)
    simp; omega
  · rw [if_neg hn]
    have := nDigits_le 19 x.toNat (by rw [e19]; omega)
    omega

/-- The three digits behind the point. -/
def three (r : Nat) : List UInt8 := [UInt8.ofNat (48 + r / 100), UInt8.ofNat (48 + r / 10 % 10), UInt8.ofNat (48 + r % 10)]
theorem itoa_1000 (r : Nat) (h : r < 1000) : Lib.itoa (1000 + (r : Int)) = 49 :: three r := by
  unfold Lib.itoa
  rw [if_neg (by omega), show ((1000 : Int) + (r : Int)).toNat = 1000 + r by omega]
  rw [Lib.decDigits, dif_neg (by omega), Lib.decDigits, dif_neg (by omega), Lib.decDigits, dif_neg (by omega), Lib.decDigits, dif_pos (by omega)]
  have e1 : (1000 + r) / 10 / 10 / 10 = 1 := by omega
  have e2 : (1000 + r) / 10 / 10 % 10 = r / 100 := by omega
  have e3 : (1000 + r) / 10 % 10 = r / 10 % 10 := by omega
  have e4 : (1000 + r) % 10 = r % 10 := by omega
  rw [e1, e2, e3, e4]
  rfl
/-- A tick's text. -/
def tickB (t : Int) : List UInt8 := if 0 ≤ t ∧ t ≤ 1000000000 then Lib.itoa (t / 1000) ++ 46 :: three (t.toNat % 1000) else []

theorem spec_in_eq (a lo hi : Int) : spec_l01In.f a lo hi = some (decide (lo ≤ a ∧ a ≤ hi)) := by
  unfold spec_l01In.f; by_cases h : lo ≤ a <;> simp [h]

theorem spec_TickText_eq {k : Nat} (hk : 30 ≤ k) (t : Int) : spec_TickText.f k t = some (bs (tickB t)) := by
  unfold spec_TickText.f spec_TickOk.f
  rw [spec_in_eq]
  simp only [Option.bind_some]
  by_cases h : 0 ≤ t ∧ t ≤ 1000000000
  · rw [decide_eq_true h, if_pos rfl, (td1000 h.1).1, (td1000 h.1).2, td100 (by omega), (td10' (x := t % 1000) (by omega)).1, (td10' (x := t % 1000) (by omega)).2]
    rw [w64 (by omega) (by omega), l01Num_eq hk (by omega) (by omega)]
    simp only [Option.bind_some]
    have hl := itoa_len (x := t / 1000) (by omega) (by omega)
    rw [bs_size, if_pos (by omega)]
    rw [w64 (x := t % 1000 / 10) (by omega) (by omega), (td10' (x := t % 1000 / 10) (by omega)).2]
    rw [w64 (x := t % 1000 / 100) (by omega) (by omega), w64 (x := 48 + t % 1000 / 100) (by omega) (by omega), w64 (x := 48 + t % 1000 / 10 % 10) (by omega) (by omega), w64 (x := 48 + t % 1000 % 10) (by omega) (by omega)]
    rw [bs_nums, show (⟨#[46]⟩ : ByteArray) = bs [46] from rfl, bs_app, bs_size, bs_size, if_pos (by simp; omega), bs_app]
    unfold tickB three
    rw [if_pos h]
    have e1 : (48 + t % 1000 / 100) % 256 = ((48 + t.toNat % 1000 / 100 : Nat) : Int) := by omega
    have e2 : (48 + t % 1000 / 10 % 10) % 256 = ((48 + t.toNat % 1000 / 10 % 10 : Nat) : Int) := by omega
    have e3 : (48 + t % 1000 % 10) % 256 = ((48 + t.toNat % 1000 % 10 : Nat) : Int) := by omega
    rw [e1, e2, e3]
    simp only [List.map_cons, List.map_nil, Int.toNat_natCast, List.append_assoc, List.cons_append, List.nil_append]
  · rw [decide_eq_false h, if_neg (by simp)]
    unfold tickB
    rw [if_neg h]
    rfl

theorem impl_decimal_eq {x : Int} (h1 : -9223372036854775808 ≤ x) (h2 : x ≤ 9223372036854775807) : impl_decimal.f x = some (bs (Lib.itoa x)) := by
  unfold impl_decimal.f
  simp only [strconv_Itoa_37.f, if_pos (And.intro h1 h2), Option.bind_some]
  rfl

theorem impl_within_eq (a lo hi : Int) : impl_within.f a lo hi = some (decide (lo ≤ a ∧ a ≤ hi)) := by
  unfold impl_within.f; by_cases h : lo ≤ a <;> simp [h]

theorem impl_TickText_eq (t : Int) : impl_TickText.f t = some (bs (tickB t)) := by
  unfold impl_TickText.f impl_TickOk.f
  rw [impl_within_eq]
  simp only [Option.bind_some]
  by_cases h : 0 ≤ t ∧ t ≤ 1000000000
  · rw [decide_eq_true h, if_pos rfl, (td1000 h.1).1, (td1000 h.1).2, w64 (x := t / 1000) (by omega) (by omega), w64 (x := 1000 + t % 1000) (by omega) (by omega), impl_decimal_eq (x := t / 1000) (by omega) (by omega)]
    have e0 : 1000 + t % 1000 = 1000 + ((t.toNat % 1000 : Nat) : Int) := by omega
    rw [e0, impl_decimal_eq (by omega) (by omega), itoa_1000 _ (by omega)]
    simp only [Option.bind_some]
    have hl := itoa_len (x := t / 1000) (by omega) (by omega)
    rw [bs_size, if_pos (by omega), bs_size, if_pos (by simp [three]), bs_ex, show (⟨#[46]⟩ : ByteArray) = bs [46] from rfl, bs_app, bs_size, bs_size, if_pos (by simp [three]; omega), bs_app]
    unfold tickB
    rw [if_pos h]
    simp [three]
  · rw [decide_eq_false h, if_neg (by simp)]
    unfold tickB
    rw [if_neg h]
    rfl

theorem FnExactTickText : ∀ (a0 : Int), (Lit.int .i64 a0).wf = true → ∃ k, laws_FnExactTickText.f k a0 = some true := by
  intro a0 _
  refine ⟨30, ?_⟩
  unfold laws_FnExactTickText.f
  rw [spec_TickText_eq (Nat.le_refl _), impl_TickText_eq]
  simp

end Go.Proofs.YtkbgphdepkjccaaDoor.Pure
