/-
  The program's ParseTick and the reference's give the same tick at every text. No condition.
-/
import Derived.Test.YtkbgphdepkjccaaDoorQFnExactParseTickx3
namespace Go.Proofs.YtkbgphdepkjccaaDoor.Pure
open Go.RowKit Go.Proofs.YtkbgphdepkjccaaDoor.QFnExactParseTick Go.Proofs.YtkbgphdepkjccaaDoorW.PrintWords Go.Proofs.YtkbgphdepkjccaaDoorW.PrintLast Go.Proofs.YtkbgphdepkjccaaDoorW.PrintMore
set_option linter.unusedSimpArgs false
set_option linter.unusedVariables false

theorem w64 {x : Int} (h1 : -9223372036854775808 ≤ x) (h2 : x ≤ 9223372036854775807) : wrap64 x = x := by
  unfold wrap64; omega

/-- A string by its bytes. -/
def bs (l : List UInt8) : ByteArray := ⟨l.toArray⟩
theorem bs_size (l : List UInt8) : (bs l).size = l.length := by simp [bs, ByteArray.size]
theorem bs_app (a b : List UInt8) : bs a ++ bs b = bs (a ++ b) := by
  apply ByteArray.ext
  simp [bs]
theorem bs_inj {a b : List UInt8} (h : bs a = bs b) : a = b := by
  have := congrArg (fun x : ByteArray => x.data.toList) h
  simpa [bs] using this
theorem bs_of (s : ByteArray) : s = bs s.data.toList := by cases s; rfl
theorem bs_toList (l : List UInt8) : (bs l).data.toList = l := by simp [bs]
theorem bs_ex (l : List UInt8) (i j : Nat) : (bs l).extract i j = bs ((l.take j).drop i) := by
  apply ByteArray.ext
  simp [bs, List.drop_take]
theorem td10 (x : Int) : (0 ≤ x ∧ Int.tdiv x 10 = x / 10 ∧ Int.tmod x 10 = x % 10) ∨ (x < 0 ∧ Int.tdiv x 10 = -((-x) / 10) ∧ Int.tmod x 10 = -((-x) % 10)) := by
  by_cases h : 0 ≤ x
  · exact .inl ⟨h, Int.tdiv_eq_ediv_of_nonneg h, Int.tmod_eq_emod_of_nonneg h⟩
  · refine .inr ⟨by omega, ?_, ?_⟩
    · have : x = -(-x) := by omega
      rw [this, Int.neg_tdiv, Int.tdiv_eq_ediv_of_nonneg (by omega)]
      simp
    · have : x = -(-x) := by omega
      rw [this, Int.neg_tmod, Int.tmod_eq_emod_of_nonneg (by omega)]
      simp
theorem bs_nums (l : List Int) : strOfNums l = bs (l.map fun n => UInt8.ofNat n.toNat) := rfl

theorem l01Num_l0 : ∀ (d k : Nat) (x : Int) (l : List UInt8) (neg : Bool), x.natAbs < 10 ^ d → d < k → l.length + d ≤ 1000000000 → -9223372036854775808 ≤ x → x ≤ 9223372036854775807 →
    spec_l01Num.l0 k x (bs l) neg = some (bs ((if neg = true then [45] else []) ++ ((if x = 0 then [] else Lib.decDigits x.natAbs) ++ l))) := by
  intro d
  induction d with
  | zero =>
    intro k x l neg hx hk hl h1 h2
    obtain ⟨k, rfl⟩ : ∃ m, k = m + 1 := ⟨k - 1, by omega⟩
    obtain rfl : x = 0 := by simp at hx; omega
    simp only [spec_l01Num.l0]
    rw [if_pos trivial]
    cases neg with
    | true =>
      rw [if_pos rfl, if_pos (by rw [bs_size]; omega)]
      exact congrArg some (bs_app [45] l)
    | false => simp
  | succ d ih =>
    intro k x l neg hx hk hl h1 h2
    obtain ⟨k, rfl⟩ : ∃ m, k = m + 1 := ⟨k - 1, by omega⟩
    by_cases h0 : x = 0
    · subst h0
      simp only [spec_l01Num.l0]
      rw [if_pos trivial]
      cases neg with
      | true =>
        rw [if_pos rfl, if_pos (by rw [bs_size]; omega)]
        exact congrArg some (bs_app [45] l)
      | false => simp
    · have htd := td10 x
      have hq : wrap64 (Int.tdiv x 10) = Int.tdiv x 10 := w64 (by omega) (by omega)
      have hqa : (Int.tdiv x 10).natAbs = x.natAbs / 10 := by omega
      have hstep : ∀ c : Int, c = 48 + ((x.natAbs % 10 : Nat) : Int) → spec_l01Num.l0 k (wrap64 (Int.tdiv x 10)) (strOfNums [c] ++ bs l) neg = some (bs ((if neg = true then [45] else []) ++ ((if x = 0 then [] else Lib.decDigits x.natAbs) ++ l))) := by
        intro c hc
        have e1 : strOfNums [c] ++ bs l = bs (UInt8.ofNat (48 + x.natAbs % 10) :: l) := by
          rw [bs_nums, bs_app, hc]
          congr 1
        rw [e1, hq, ih k _ _ neg (by rw [hqa]; have : 10 ^ (d + 1) = 10 ^ d * 10 := Nat.pow_succ ..; omega) (by omega) (by simp; omega) (by omega) (by omega), hqa, if_neg h0]
        congr 3
        by_cases hs : x.natAbs < 10
        · rw [if_pos (by omega), Lib.decDigits, dif_pos hs, Nat.mod_eq_of_lt hs]
          rfl
        · rw [if_neg (by omega)]
          conv => rhs; rw [Lib.decDigits, dif_neg hs]
          rw [List.append_assoc]
          rfl
      have hsz : ∀ c : Int, (strOfNums [c]).size = 1 := fun c => by simp [strOfNums, ByteArray.size]
      simp only [spec_l01Num.l0]
      rw [if_neg h0]
      by_cases hm : Int.tmod x 10 < 0
      · rw [if_pos hm]
        simp only [Option.bind_some]
        rw [hsz, bs_size, if_pos (by omega)]
        refine hstep _ ?_
        have e2 : wrap64 (-(Int.tmod x 10)) = -(Int.tmod x 10) := w64 (by omega) (by omega)
        rw [e2, w64 (by omega) (by omega)]
        omega
      · rw [if_neg hm]
        simp only [Option.bind_some]
        rw [hsz, bs_size, if_pos (by omega)]
        refine hstep _ ?_
        rw [w64 (by omega) (by omega)]
        omega
theorem l01Num_eq {k : Nat} {x : Int} (hk : 30 ≤ k) (h1 : -9223372036854775808 ≤ x) (h2 : x ≤ 9223372036854775807) : spec_l01Num.f k x = some (bs (Lib.itoa x)) := by
  unfold spec_l01Num.f
  by_cases h0 : x = 0
  · subst h0
    rw [if_pos rfl]
    unfold Lib.itoa
    rw [if_neg (by omega), Lib.decDigits, dif_pos (by decide)]
    rfl
  · rw [if_neg h0]
    have e : (⟨#[]⟩ : ByteArray) = bs [] := rfl
    have e19 : (10 : Nat) ^ 19 = 10000000000000000000 := by decide +kernel
    rw [e, l01Num_l0 19 k x [] _ (by rw [e19]; omega) (by omega) (by simp) h1 h2, if_neg h0]
    unfold Lib.itoa
    by_cases hn : x < 0
    · simp [hn]
    · have : x.natAbs = x.toNat := by omega
      simp [hn, this]

theorem td1000 {x : Int} (h : 0 ≤ x) : Int.tdiv x 1000 = x / 1000 ∧ Int.tmod x 1000 = x % 1000 := ⟨Int.tdiv_eq_ediv_of_nonneg h, Int.tmod_eq_emod_of_nonneg h⟩
theorem td100 {x : Int} (h : 0 ≤ x) : Int.tdiv x 100 = x / 100 := Int.tdiv_eq_ediv_of_nonneg h
theorem td10' {x : Int} (h : 0 ≤ x) : Int.tdiv x 10 = x / 10 ∧ Int.tmod x 10 = x % 10 := ⟨Int.tdiv_eq_ediv_of_nonneg h, Int.tmod_eq_emod_of_nonneg h⟩
theorem nDigits_le : ∀ (d u : Nat), u < 10 ^ d → (Lib.decDigits u).length ≤ d + 1 := by
  intro d
  induction d with
  | zero => intro u h; rw [Lib.decDigits, dif_pos (by simp at h; omega)]; simp
  | succ d ih =>
    intro u h
    by_cases hs : u < 10
    · rw [Lib.decDigits, dif_pos hs]; simp
    · rw [Lib.decDigits, dif_neg hs]
      have := ih (u / 10) (by have : 10 ^ (d + 1) = 10 ^ d * 10 := Nat.pow_succ ..; omega)
      simp; omega
theorem itoa_len {x : Int} (h1 : -9223372036854775808 ≤ x) (h2 : x ≤ 9223372036854775807) : (Lib.itoa x).length ≤ 21 := by
  have e19 : (10 : Nat) ^ 19 = 10000000000000000000 := by decide +kernel
  unfold Lib.itoa
  by_cases hn : x < 0
  · rw [if_pos hn]
    have := nDigits_le 19 x.natAbs (by rw [e19]; omega)
    simp; omega
  · rw [if_neg hn]
    have := nDigits_le 19 x.toNat (by rw [e19]; omega)
    omega

/-- The three digits behind the point. -/
def three (r : Nat) : List UInt8 := [UInt8.ofNat (48 + r / 100), UInt8.ofNat (48 + r / 10 % 10), UInt8.ofNat (48 + r % 10)]
theorem itoa_1000 (r : Nat) (h : r < 1000) : Lib.itoa (1000 + (r : Int)) = 49 :: three r := by
  unfold Lib.itoa
  rw [if_neg (by omega), show ((1000 : Int) + (r : Int)).toNat = 1000 + r by omega]
  rw [Lib.decDigits, dif_neg (by omega), Lib.decDigits, dif_neg (by omega), Lib.decDigits, dif_neg (by omega), Lib.decDigits, dif_pos (by omega)]
  have e1 : (1000 + r) / 10 / 10 / 10 = 1 := by omega
  have e2 : (1000 + r) / 10 / 10 % 10 = r / 100 := by omega
  have e3 : (1000 + r) / 10 % 10 = r / 10 % 10 := by omega
  have e4 : (1000 + r) % 10 = r % 10 := by omega
  rw [e1, e2, e3, e4]
  rfl
/-- A tick's text. -/
def tickB (t : Int) : List UInt8 := if 0 ≤ t ∧ t ≤ 1000000000 then Lib.itoa (t / 1000) ++ 46 :: three (t.toNat % 1000) else []

theorem spec_in_eq (a lo hi : Int) : spec_l01In.f a lo hi = some (decide (lo ≤ a ∧ a ≤ hi)) := by
  unfold spec_l01In.f; by_cases h : lo ≤ a <;> simp [h]

theorem spec_TickText_eq {k : Nat} (hk : 30 ≤ k) (t : Int) : spec_TickText.f k t = some (bs (tickB t)) := by
  unfold spec_TickText.f spec_TickOk.f
  rw [spec_in_eq]
  simp only [Option.bind_some]
  by_cases h : 0 ≤ t ∧ t ≤ 1000000000
  · rw [decide_eq_true h, if_pos rfl, (td1000 h.1).1, (td1000 h.1).2, td100 (by omega), (td10' (x := t % 1000) (by omega)).1, (td10' (x := t % 1000) (by omega)).2]
    rw [w64 (by omega) (by omega), l01Num_eq hk (by omega) (by omega)]
    simp only [Option.bind_some]
    have hl := itoa_len (x := t / 1000) (by omega) (by omega)
    rw [bs_size, if_pos (by omega)]
    rw [w64 (x := t % 1000 / 10) (by omega) (by omega), (td10' (x := t % 1000 / 10) (by omega)).2]
    rw [w64 (x := t % 1000 / 100) (by omega) (by omega), w64 (x := 48 + t % 1000 / 100) (by omega) (by omega), w64 (x := 48 + t % 1000 / 10 % 10) (by omega) (by omega), w64 (x := 48 + t % 1000 % 10) (by omega) (by omega)]
    rw [bs_nums, show (⟨#[46]⟩ : ByteArray) = bs [46] from rfl, bs_app, bs_size, bs_size, if_pos (by simp; omega), bs_app]
    unfold tickB three
    rw [if_pos h]
    have e1 : (48 + t % 1000 / 100) % 256 = ((48 + t.toNat % 1000 / 100 : Nat) : Int) := by omega
    have e2 : (48 + t % 1000 / 10 % 10) % 256 = ((48 + t.toNat % 1000 / 10 % 10 : Nat) : Int) := by omega
    have e3 : (48 + t % 1000 % 10) % 256 = ((48 + t.toNat % 1000 % 10 : Nat) : Int) := by omega
    rw [e1, e2, e3]
    simp only [List.map_cons, List.map_nil, Int.toNat_natCast, List.append_assoc, List.cons_append, List.nil_append]
  · rw [decide_eq_false h, if_neg (by simp)]
    unfold tickB
    rw [if_neg h]
    rfl

theorem impl_decimal_eq {x : Int} (h1 : -9223372036854775808 ≤ x) (h2 : x ≤ 9223372036854775807) : impl_decimal.f x = some (bs (Lib.itoa x)) := by
  unfold impl_decimal.f
  simp only [strconv_Itoa_37.f, if_pos (And.intro h1 h2), Option.bind_some]
  rfl

theorem impl_within_eq (a lo hi : Int) : impl_within.f a lo hi = some (decide (lo ≤ a ∧ a ≤ hi)) := by
  unfold impl_within.f; by_cases h : lo ≤ a <;> simp [h]

theorem impl_TickText_eq (t : Int) : impl_TickText.f t = some (bs (tickB t)) := by
  unfold impl_TickText.f impl_TickOk.f
  rw [impl_within_eq]
  simp only [Option.bind_some]
  by_cases h : 0 ≤ t ∧ t ≤ 1000000000
  · rw [decide_eq_true h, if_pos rfl, (td1000 h.1).1, (td1000 h.1).2, w64 (x := t / 1000) (by omega) (by omega), w64 (x := 1000 + t % 1000) (by omega) (by omega), impl_decimal_eq (x := t / 1000) (by omega) (by omega)]
    have e0 : 1000 + t % 1000 = 1000 + ((t.toNat % 1000 : Nat) : Int) := by omega
    rw [e0, impl_decimal_eq (by omega) (by omega), itoa_1000 _ (by omega)]
    simp only [Option.bind_some]
    have hl := itoa_len (x := t / 1000) (by omega) (by omega)
    rw [bs_size, if_pos (by omega), bs_size, if_pos (by simp [three]), bs_ex, show (⟨#[46]⟩ : ByteArray) = bs [46] from rfl, bs_app, bs_size, bs_size, if_pos (by simp [three]; omega), bs_app]
    unfold tickB
    rw [if_pos h]
    simp [three]
  · rw [decide_eq_false h, if_neg (by simp)]
    unfold tickB
    rw [if_neg h]
    rfl

/-! #### digits and their value -/
def isD (c : UInt8) : Bool := decide (48 ≤ c.toNat ∧ c.toNat ≤ 57)
def dvL (acc : Int) (l : List UInt8) : Int := l.foldl (fun a c => 10 * a + (c.toNat : Int) - 48) acc
theorem dvL_app (acc : Int) (a b : List UInt8) : dvL acc (a ++ b) = dvL (dvL acc a) b := by simp [dvL]
theorem ofNat_toNat {n : Nat} (h : n < 10) : (UInt8.ofNat (48 + n)).toNat = 48 + n := by
  rw [UInt8.toNat_ofNat']; omega
theorem isD_of {n : Nat} (h : n < 10) : isD (UInt8.ofNat (48 + n)) = true := by
  unfold isD; rw [ofNat_toNat h]; simp; omega
theorem dec_digs : ∀ (d n : Nat), n < 10 ^ d → (Lib.decDigits n).all isD = true ∧ dvL 0 (Lib.decDigits n) = n := by
  intro d
  induction d with
  | zero => intro n h; obtain rfl : n = 0 := by simpa using h
            rw [Lib.decDigits, dif_pos (by omega)]; exact ⟨by decide, by decide⟩
  | succ d ih =>
    intro n h
    by_cases hs : n < 10
    · rw [Lib.decDigits, dif_pos hs]
      refine ⟨by simp only [List.all_cons, List.all_nil, isD_of hs, Bool.and_true], ?_⟩
      simp only [dvL, List.foldl_cons, List.foldl_nil, ofNat_toNat hs]
      omega
    · rw [Lib.decDigits, dif_neg hs]
      obtain ⟨h1, h2⟩ := ih (n / 10) (by have : 10 ^ (d + 1) = 10 ^ d * 10 := Nat.pow_succ ..; omega)
      have hm : n % 10 < 10 := by omega
      refine ⟨by simp only [List.all_append, h1, List.all_cons, List.all_nil, isD_of hm, Bool.and_true], ?_⟩
      rw [dvL_app, h2]
      simp only [dvL, List.foldl_cons, List.foldl_nil, ofNat_toNat hm]
      omega
theorem dvL_bound : ∀ (l : List UInt8) (acc : Int) (e : Nat), l.all isD = true → 0 ≤ acc → acc < 10 ^ e → 0 ≤ dvL acc l ∧ dvL acc l < 10 ^ (e + l.length) := by
  intro l
  induction l with
  | nil => intro acc e _ h1 h2; exact ⟨h1, by simpa [dvL] using h2⟩
  | cons c r ih =>
    intro acc e hd h1 h2
    simp only [List.all_cons, Bool.and_eq_true] at hd
    have hc : 48 ≤ c.toNat ∧ c.toNat ≤ 57 := by simpa [isD] using hd.1
    have hp : (10 : Int) ^ (e + 1) = 10 ^ e * 10 := Int.pow_succ ..
    have := ih (10 * acc + (c.toNat : Int) - 48) (e + 1) hd.2 (by omega) (by rw [hp]; omega)
    rw [show e + 1 + r.length = e + (c :: r).length by simp; omega] at this
    exact this
theorem three_digs {r : Nat} (h : r < 1000) : (three r).all isD = true ∧ ∀ acc : Int, dvL acc (three r) = 1000 * acc + r := by
  have h1 : r / 100 < 10 := by omega
  have h2 : r / 10 % 10 < 10 := by omega
  have h3 : r % 10 < 10 := by omega
  refine ⟨by simp only [three, List.all_cons, List.all_nil, isD_of h1, isD_of h2, isD_of h3, Bool.and_true], fun acc => ?_⟩
  simp only [dvL, three, List.foldl_cons, List.foldl_nil, ofNat_toNat h1, ofNat_toNat h2, ofNat_toNat h3]
  omega
theorem noDot_of {l : List UInt8} (h : l.all isD = true) : ∀ c ∈ l, c ≠ 46 := by
  intro c hc e
  have := List.all_eq_true.1 h c hc
  subst e
  exact absurd this (by decide)
theorem itoa_pos {n : Int} (h : 0 ≤ n) : Lib.itoa n = Lib.decDigits n.toNat := by
  unfold Lib.itoa; rw [if_neg (by omega)]
/-! #### the program's side -/
theorem index_dot : ∀ (a b : List UInt8), (∀ c ∈ a, c ≠ 46) → Lib.index (a ++ 46 :: b) [46] = a.length := by
  intro a
  induction a with
  | nil => intro b _; simp [Lib.index]
  | cons c r ih =>
    intro b h
    have hc : (c : UInt8) ≠ 46 := h c (by simp)
    have e := ih b (fun x hx => h x (by simp [hx]))
    show Lib.index (c :: (r ++ 46 :: b)) [46] = _
    unfold Lib.index
    have hp : ([46] : List UInt8).isPrefixOf (c :: (r ++ 46 :: b)) = false := by
      simp [List.isPrefixOf]
      exact fun e => hc e.symm
    rw [hp, e]
    have : ((r.length : Int) == -1) = false := by simp
    simp [this]
theorem cut_dot {a b : List UInt8} (h : ∀ c ∈ a, c ≠ 46) : Lib.cut (a ++ 46 :: b) [46] = (a, b, true) := by
  unfold Lib.cut
  rw [index_dot a b h, if_pos (by omega)]
  simp
theorem parseUint_digs : ∀ (l : List UInt8) (acc : Nat) (e : Nat), l.all isD = true → acc < 10 ^ e → e + l.length ≤ 18 → ∃ u, Lib.parseUint10 acc l = .ok u ∧ (u : Int) = dvL acc l := by
  intro l
  induction l with
  | nil => intro acc e _ _ _; exact ⟨acc, rfl, rfl⟩
  | cons c r ih =>
    intro acc e hd ha hl
    simp only [List.all_cons, Bool.and_eq_true] at hd
    have hc : 48 ≤ c.toNat ∧ c.toNat ≤ 57 := by simpa [isD] using hd.1
    simp only [List.length_cons] at hl
    have hp : 10 ^ (e + 1) = 10 ^ e * 10 := Nat.pow_succ ..
    have h18 : 10 ^ e ≤ 10 ^ 17 := Nat.pow_le_pow_right (by omega) (by omega)
    have e17 : (10 : Nat) ^ 17 = 100000000000000000 := by decide +kernel
    unfold Lib.parseUint10
    rw [if_pos hc, if_neg (by omega), if_neg (by omega)]
    obtain ⟨u, h1, h2⟩ := ih (acc * 10 + (c.toNat - 48)) (e + 1) hd.2 (by omega) (by omega)
    refine ⟨u, h1, ?_⟩
    rw [h2]
    show dvL _ r = dvL (10 * (acc : Int) + (c.toNat : Int) - 48) r
    congr 1
    omega
theorem atoi_digs {l : List UInt8} (h0 : l ≠ []) (hd : l.all isD = true) (hl : l.length ≤ 18) : Lib.atoiAll l = .ok (dvL 0 l) := by
  cases l with
  | nil => exact absurd rfl h0
  | cons c r =>
    have hc : 48 ≤ c.toNat ∧ c.toNat ≤ 57 := by
      simp only [List.all_cons, Bool.and_eq_true] at hd
      simpa [isD] using hd.1
    obtain ⟨u, h1, h2⟩ := parseUint_digs (c :: r) 0 0 hd (by simp) (by simpa using hl)
    have hb := (dvL_bound (c :: r) 0 0 hd (by omega) (by simp)).2
    have h18 : (10 : Int) ^ (0 + (c :: r).length) ≤ 10 ^ 18 := by
      have : 10 ^ (0 + (c :: r).length) ≤ 10 ^ 18 := Nat.pow_le_pow_right (n := 10) (by omega) (by simpa using hl)
      exact_mod_cast this
    have e18 : (10 : Int) ^ 18 = 1000000000000000000 := by decide +kernel
    have h2' : (u : Int) = dvL 0 (c :: r) := h2
    unfold Lib.atoiAll
    simp only [Lib.parseMag]
    rw [if_neg (show ¬ (c.toNat = 43 ∨ c.toNat = 45) by omega), if_neg (by simp), h1]
    simp only
    rw [if_neg (by omega), if_neg (by omega), if_neg (by omega), h2']
/-- A tick's text, told apart by its parts. -/
theorem tickB_parts {t : Int} (h : 0 ≤ t ∧ t ≤ 1000000000) : tickB t = Lib.itoa (t / 1000) ++ 46 :: three (t.toNat % 1000) := by unfold tickB; rw [if_pos h]
theorem tickB_nil {t : Int} (h : tickB t ≠ []) : 0 ≤ t ∧ t ≤ 1000000000 := by
  by_cases hc : 0 ≤ t ∧ t ≤ 1000000000
  · exact hc
  · unfold tickB at h; rw [if_neg hc] at h; exact absurd rfl h
theorem hi_digs {t : Int} (h : 0 ≤ t ∧ t ≤ 1000000000) : (Lib.itoa (t / 1000)).all isD = true ∧ dvL 0 (Lib.itoa (t / 1000)) = t / 1000 ∧ (Lib.itoa (t / 1000)).length ≤ 8 ∧ Lib.itoa (t / 1000) ≠ [] := by
  rw [itoa_pos (by omega)]
  have e7 : (10 : Nat) ^ 7 = 10000000 := by decide +kernel
  obtain ⟨h1, h2⟩ := dec_digs 7 (t / 1000).toNat (by omega)
  refine ⟨h1, by rw [h2]; omega, nDigits_le 7 _ (by omega), fun e => ?_⟩
  rw [Lib.decDigits] at e
  split at e <;> simp at e
theorem bs_list (l : List UInt8) : (bs l).toList = l := by rw [ByteArray.toList_eq]; exact bs_toList l
/-- What the program answers. -/
theorem impl_Parse_hit {t : Int} (h : 0 ≤ t ∧ t ≤ 1000000000) : impl_ParseTick.f (bs (tickB t)) = some (t, true) := by
  obtain ⟨d1, d2, d3, d4⟩ := hi_digs h
  obtain ⟨r1, r2⟩ := three_digs (r := t.toNat % 1000) (by omega)
  have hl : (tickB t).length ≤ 12 := by rw [tickB_parts h]; simp [three]; omega
  unfold impl_ParseTick.f
  rw [if_pos (by rw [bs_size]; omega), bs_toList, tickB_parts h, cut_dot (noDot_of d1)]
  have ha : Lib.atoiAll (Lib.itoa (t / 1000) ++ three (t.toNat % 1000)) = .ok t := by
    rw [atoi_digs (by simp [d4]) (by simp only [List.all_append, d1, r1, Bool.and_true]) (by simp [three]; omega), dvL_app, d2, r2]
    congr 1
    omega
  simp only [ha, impl_ParseTick.g, impl_TickText_eq, Option.bind_some]
  rw [← tickB_parts h, if_pos rfl]
theorem impl_Parse_any (l : List UInt8) (hl : l.length ≤ 1048576) : impl_ParseTick.f (bs l) = some (0, false) ∨ ∃ t, (0 ≤ t ∧ t ≤ 1000000000) ∧ tickB t = l := by
  unfold impl_ParseTick.f
  rw [if_pos (by rw [bs_size]; omega), bs_toList]
  cases hA : Lib.atoiAll ((Lib.cut l [46]).1 ++ (Lib.cut l [46]).2.1) with
  | «syntax» => exact .inl rfl
  | range => exact .inl rfl
  | ok v =>
    simp only [impl_ParseTick.g, impl_TickText_eq, Option.bind_some]
    by_cases hc : (bs (tickB v)).toList = (bs l).toList
    · rw [bs_list, bs_list] at hc
      refine .inr ⟨v, tickB_nil ?_, hc⟩
      intro e
      rw [e] at hc
      subst hc
      exact absurd hA (by simp [Lib.cut, Lib.index, Lib.atoiAll])
    · rw [if_neg hc]
      exact .inl rfl
/-! #### the reference's side -/
theorem bt_bs (l : List UInt8) (i : Nat) (h : i < l.length) : bt (bs l) (i : Int) = ((l[i]'h).toNat : Int) := by
  unfold bt
  rw [dif_pos (by rw [bs_size]; simpa using h)]
  rfl
def sp (cur : List UInt8) : List UInt8 → List (List UInt8)
  | [] => [cur]
  | c :: r => if c = 46 then cur :: sp [] r else sp (cur ++ [c]) r
theorem sp_noDot : ∀ (a cur : List UInt8), (∀ c ∈ a, c ≠ 46) → sp cur a = [cur ++ a] := by
  intro a
  induction a with
  | nil => intro cur _; simp [sp]
  | cons c r ih =>
    intro cur h
    simp only [sp]
    rw [if_neg (h c (by simp)), ih _ (fun x hx => h x (by simp [hx]))]
    simp
theorem sp_dot : ∀ (a cur b : List UInt8), (∀ c ∈ a, c ≠ 46) → sp cur (a ++ 46 :: b) = (cur ++ a) :: sp [] b := by
  intro a
  induction a with
  | nil => intro cur b _; simp [sp]
  | cons c r ih =>
    intro cur b h
    show sp cur (c :: (r ++ 46 :: b)) = _
    simp only [sp]
    rw [if_neg (h c (by simp)), ih _ _ (fun x hx => h x (by simp [hx]))]
    simp
theorem sp_len : ∀ (l cur : List UInt8), ∀ p ∈ sp cur l, p.length ≤ cur.length + l.length := by
  intro l
  induction l with
  | nil => intro cur p hp; simp [sp] at hp; subst hp; simp
  | cons c r ih =>
    intro cur p hp
    simp only [sp] at hp
    split at hp
    · rcases List.mem_cons.1 hp with e | hp
      · subst e; simp
      · have := ih [] p hp; simp at this ⊢; omega
    · have := ih _ p hp; simp at this ⊢; omega
theorem parts_l0 (l : List UInt8) (hl : l.length ≤ 12) : ∀ (d k i a : Nat) (acc : List ByteArray), i + d = l.length → d + 3 ≤ k → a ≤ i → acc.length + d ≤ 100 →
    spec_l01Parts.l0 k (bs l) 46 acc (a : Int) (i : Int) = some (acc ++ (sp ((l.take i).drop a) (l.drop i)).map bs) := by
  intro d
  induction d with
  | zero =>
    intro k i a acc hi hk ha hc
    obtain ⟨k, rfl⟩ : ∃ m, k = m + 2 := ⟨k - 2, by omega⟩
    obtain rfl : i = l.length := by omega
    simp only [spec_l01Parts.l0, bs_size]
    rw [if_pos (by omega), if_pos trivial, if_pos (by omega), if_pos (by omega), if_pos (by omega), w64 (by omega) (by omega), if_neg (by omega), bs_ex]
    simp [sp]
  | succ d ih =>
    intro k i a acc hi hk ha hc
    obtain ⟨k, rfl⟩ : ∃ m, k = m + 1 := ⟨k - 1, by omega⟩
    have hil : i < l.length := by omega
    have hdr := List.drop_eq_getElem_cons hil
    have e1 : wrap64 ((i : Int) + 1) = ((i + 1 : Nat) : Int) := by rw [w64 (by omega) (by omega)]; omega
    simp only [spec_l01Parts.l0, bs_size]
    rw [if_pos (by omega), if_neg (by omega), if_pos (by omega), if_pos (by omega), bt_bs l i hil, e1]
    by_cases hd : l[i] = 46
    · have h46 : ((l[i].toNat : Nat) : Int) = 46 := by rw [hd]; rfl
      rw [if_pos h46, if_pos (by omega), if_pos (by omega), if_pos (by omega), ih k (i + 1) (i + 1) _ (by omega) (by omega) (Nat.le_refl _) (by simp; omega), bs_ex, hdr]
      simp only [sp]
      rw [if_pos hd]
      simp
    · have h46 : ¬ ((l[i].toNat : Nat) : Int) = 46 := fun e => hd (by apply UInt8.toNat_inj.1; rw [show ((46 : UInt8).toNat) = 46 from rfl]; omega)
      rw [if_neg h46, ih k (i + 1) a _ (by omega) (by omega) (by omega) (by omega), hdr]
      simp only [sp]
      rw [if_neg hd, List.take_succ_eq_append_getElem hil, List.drop_append_of_le_length (by simp; omega)]
theorem parts_eq {k : Nat} (hk : 40 ≤ k) (l : List UInt8) (hl : l.length ≤ 12) : spec_l01Parts.f k (bs l) 46 = some ((sp [] l).map bs) := by
  unfold spec_l01Parts.f
  have := parts_l0 l hl l.length k 0 0 [] (by omega) (by omega) (by omega) (by simp; omega)
  simpa using this
/-- What is told of a word whose digits l4 are: its value, and whether it is written as it would be. -/
def fin4 (w l4 : List UInt8) (x : Int) : Int × Bool := if l4.length < w.length then (-x, Lib.itoa (-x) == w) else (x, Lib.itoa x == w)
theorem read_l0 (w l4 : List UInt8) (h4 : l4.length ≤ 10) : ∀ (d k i : Nat) (acc : Int), i + d = l4.length → d + 40 ≤ k → 0 ≤ acc → acc < 10 ^ i →
    spec_l01Read.l0 k (bs w) (bs l4) acc (i : Int) = some (if (l4.drop i).all isD = true then fin4 w l4 (dvL acc (l4.drop i)) else (0, false)) := by
  intro d
  have e10 : (10 : Int) ^ 10 = 10000000000 := by decide +kernel
  induction d with
  | zero =>
    intro k i acc hi hk h0 h1
    obtain ⟨k, rfl⟩ : ∃ m, k = m + 1 := ⟨k - 1, by omega⟩
    obtain rfl : i = l4.length := by omega
    have hb : acc < 10 ^ 10 := Int.lt_of_lt_of_le h1 (by have : 10 ^ l4.length ≤ 10 ^ 10 := Nat.pow_le_pow_right (n := 10) (by omega) h4; exact_mod_cast this)
    simp only [spec_l01Read.l0, bs_size]
    rw [if_neg (by omega), List.drop_length]
    simp only [List.all_nil, if_true, dvL, List.foldl_nil, fin4]
    by_cases hw : l4.length < w.length
    · rw [if_pos (by omega), if_pos hw, w64 (by omega) (by omega), l01Num_eq (by omega) (by omega) (by omega)]
      simp only [Option.bind_some, bs_list]
    · rw [if_neg (by omega), if_neg hw, l01Num_eq (by omega) (by omega) (by omega)]
      simp only [Option.bind_some, bs_list]
  | succ d ih =>
    intro k i acc hi hk h0 h1
    obtain ⟨k, rfl⟩ : ∃ m, k = m + 1 := ⟨k - 1, by omega⟩
    have hil : i < l4.length := by omega
    have hdr := List.drop_eq_getElem_cons hil
    have hb : acc < 10 ^ 9 := Int.lt_of_lt_of_le h1 (by have : 10 ^ i ≤ 10 ^ 9 := Nat.pow_le_pow_right (n := 10) (by omega) (by omega); exact_mod_cast this)
    have e9 : (10 : Int) ^ 9 = 1000000000 := by decide +kernel
    have hcl := UInt8.toNat_lt l4[i]
    have e1 : wrap64 ((i : Int) + 1) = ((i + 1 : Nat) : Int) := by rw [w64 (by omega) (by omega)]; omega
    simp only [spec_l01Read.l0, bs_size]
    rw [if_pos (by omega), if_pos (by omega), bt_bs l4 i hil, e1, hdr]
    by_cases hlo : (l4[i].toNat : Int) < 48
    · rw [if_pos hlo]
      have : isD l4[i] = false := by unfold isD; simp; omega
      rw [if_neg (by rw [List.all_cons, this]; simp)]
    · rw [if_neg hlo]
      by_cases hhi : (l4[i].toNat : Int) > 57
      · rw [if_pos hhi]
        have : isD l4[i] = false := by unfold isD; simp; omega
        rw [if_neg (by rw [List.all_cons, this]; simp)]
      · rw [if_neg hhi]
        have hd : isD l4[i] = true := by unfold isD; simp; omega
        have ep : (10 : Int) ^ (i + 1) = 10 ^ i * 10 := Int.pow_succ ..
        rw [w64 (x := (l4[i].toNat : Int)) (by omega) (by omega), w64 (x := 10 * acc) (by omega) (by omega), w64 (x := 10 * acc + (l4[i].toNat : Int)) (by omega) (by omega), w64 (x := 10 * acc + (l4[i].toNat : Int) - 48) (by omega) (by omega),
          ih k (i + 1) _ (by omega) (by omega) (by omega) (by rw [ep]; omega)]
        simp only [List.all_cons, hd, Bool.true_and]
        rfl
/-- A word, read. -/
def readV (w : List UInt8) : Int × Bool :=
  if 1 ≤ (if w.head? = some 45 then w.drop 1 else w).length ∧ (if w.head? = some 45 then w.drop 1 else w).length ≤ 10 then
    (if (if w.head? = some 45 then w.drop 1 else w).all isD = true then fin4 w (if w.head? = some 45 then w.drop 1 else w) (dvL 0 (if w.head? = some 45 then w.drop 1 else w)) else (0, false)) else (0, false)
theorem read_j1 {k : Nat} (hk : 60 ≤ k) (w l4 : List UInt8) : spec_l01Read.j1 k (bs w) (bs l4) = some (if 1 ≤ l4.length ∧ l4.length ≤ 10 then (if l4.all isD = true then fin4 w l4 (dvL 0 l4) else (0, false)) else (0, false)) := by
  obtain ⟨k, rfl⟩ : ∃ m, k = m + 1 := ⟨k - 1, by omega⟩
  simp only [spec_l01Read.j1, bs_size, spec_in_eq, Option.bind_some]
  by_cases h : 1 ≤ l4.length ∧ l4.length ≤ 10
  · rw [if_pos h, decide_eq_true (by omega), if_pos rfl]
    have := read_l0 w l4 h.2 l4.length k 0 0 (by omega) (by omega) (by omega) (by simp)
    simpa using this
  · rw [if_neg h, decide_eq_false (by omega), if_neg (by simp)]
theorem read_eq {k : Nat} (hk : 70 ≤ k) (w : List UInt8) : spec_l01Read.f k (bs w) = some (readV w) := by
  obtain ⟨k, rfl⟩ : ∃ m, k = m + 1 := ⟨k - 1, by omega⟩
  unfold spec_l01Read.f readV
  rw [bs_size]
  cases w with
  | nil =>
    rw [if_neg (by simp)]
    simp only [spec_l01Read.j0, Bool.false_eq_true, if_false]
    rw [read_j1 (by omega)]
    simp
  | cons c r =>
    rw [if_pos (by simp), if_pos (by simp)]
    have hb := bt_bs (c :: r) 0 (by simp)
    rw [show ((0 : Nat) : Int) = 0 from rfl] at hb
    rw [hb]
    simp only [spec_l01Read.j0, bs_size, List.getElem_cons_zero]
    by_cases hc : c = 45
    · subst hc
      have e : (((45 : UInt8).toNat : Int) == 45) = true := rfl
      rw [e, if_pos rfl, if_pos (by simp; omega), bs_ex, read_j1 (by omega)]
      simp
    · have e : ((c.toNat : Int) == 45) = false := by
        simp
        intro e
        exact hc (by apply UInt8.toNat_inj.1; rw [show ((45 : UInt8).toNat) = 45 from rfl]; exact Int.ofNat.inj e)
      rw [e, if_neg (by simp), read_j1 (by omega)]
      have e2 : (List.head? (c :: r) = some 45) = False := by simp [hc]
      simp [hc]
theorem readV_bound (w : List UInt8) : -10000000000 < (readV w).1 ∧ (readV w).1 < 10000000000 := by
  unfold readV
  generalize (if w.head? = some 45 then w.drop 1 else w) = l4
  by_cases h : 1 ≤ l4.length ∧ l4.length ≤ 10
  · rw [if_pos h]
    by_cases hd : l4.all isD = true
    · rw [if_pos hd]
      have := dvL_bound l4 0 0 hd (by omega) (by simp)
      have e10 : (10 : Int) ^ 10 = 10000000000 := by decide +kernel
      have hp : (10 : Int) ^ (0 + l4.length) ≤ 10 ^ 10 := by
        have : 10 ^ (0 + l4.length) ≤ 10 ^ 10 := Nat.pow_le_pow_right (n := 10) (by omega) (by omega)
        exact_mod_cast this
      unfold fin4
      split <;> (simp only; omega)
    · rw [if_neg hd]; simp
  · rw [if_neg h]; simp
theorem readV_hi {t : Int} (h : 0 ≤ t ∧ t ≤ 1000000000) : readV (Lib.itoa (t / 1000)) = (t / 1000, true) := by
  obtain ⟨d1, d2, d3, d4⟩ := hi_digs h
  have hh : ¬ (Lib.itoa (t / 1000)).head? = some 45 := by
    intro e
    have : (45 : UInt8) ∈ Lib.itoa (t / 1000) := by
      cases hx : Lib.itoa (t / 1000) with
      | nil => rw [hx] at e; simp at e
      | cons c r => rw [hx] at e; simp at e; simp [e]
    have := List.all_eq_true.1 d1 _ this
    exact absurd this (by decide)
  unfold readV
  rw [if_neg hh, if_pos ⟨by cases hx : Lib.itoa (t / 1000) with | nil => exact absurd hx d4 | cons c r => simp, by omega⟩, if_pos d1, d2]
  unfold fin4
  rw [if_neg (by omega)]
  simp
/-- The tail of a text, its digits read behind hi. -/
theorem parse_l0 {k : Nat} (hk : 60 ≤ k) (l p0 : List UInt8) (rest : List ByteArray) (c0 c1 c2 : UInt8) (hi : Int) (hb : -10000000000 < hi ∧ hi < 10000000000) :
    spec_ParseTick.l0 k (bs l) (bs p0 :: bs [c0, c1, c2] :: rest) hi 0 0 = some (if [c0, c1, c2].all isD = true then (if tickB (1000 * hi + dvL 0 [c0, c1, c2]) = l then (1000 * hi + dvL 0 [c0, c1, c2], true) else (0, false)) else (0, false)) := by
  obtain ⟨k, rfl⟩ : ∃ m, k = m + 4 := ⟨k - 4, by omega⟩
  have h0 := UInt8.toNat_lt c0
  have h1 := UInt8.toNat_lt c1
  have h2 := UInt8.toNat_lt c2
  have er : rdOf ByteArray.empty (bs p0 :: bs [c0, c1, c2] :: rest) 1 = bs [c0, c1, c2] := rfl
  have b0 : bt (bs [c0, c1, c2]) 0 = (c0.toNat : Int) := bt_bs [c0, c1, c2] 0 (by simp)
  have b1 : bt (bs [c0, c1, c2]) 1 = (c1.toNat : Int) := bt_bs [c0, c1, c2] 1 (by simp)
  have b2 : bt (bs [c0, c1, c2]) 2 = (c2.toNat : Int) := bt_bs [c0, c1, c2] 2 (by simp)
  have w1 : wrap64 (0 + 1) = 1 := w64 (by decide) (by decide)
  have w2 : wrap64 (1 + 1) = 2 := w64 (by decide) (by decide)
  have w3 : wrap64 (2 + 1) = 3 := w64 (by decide) (by decide)
  have hlen : (1 : Int) < ((bs p0 :: bs [c0, c1, c2] :: rest).length : Int) := by simp; omega
  have hs3 : (bs [c0, c1, c2]).size = 3 := by rw [bs_size]; rfl
  have dg : ∀ c : UInt8, ¬ (c.toNat : Int) < 48 → ¬ (c.toNat : Int) > 57 → isD c = true := fun c a b => by unfold isD; simp; omega
  have ng : ∀ c : UInt8, (c.toNat : Int) < 48 → isD c = false := fun c a => by unfold isD; simp; omega
  have nl : ∀ c : UInt8, (c.toNat : Int) > 57 → isD c = false := fun c a => by unfold isD; simp; omega
  simp only [spec_ParseTick.l0, er, b0, b1, b2, w1, w2, w3, hs3]
  rw [if_pos (by omega), if_pos hlen, if_pos (by omega), if_pos (by omega)]
  by_cases a0 : (c0.toNat : Int) < 48
  · rw [if_pos a0]; simp [ng c0 a0]
  rw [if_neg a0]
  by_cases z0 : (c0.toNat : Int) > 57
  · rw [if_pos z0]; simp [nl c0 z0]
  rw [if_neg z0, if_pos (by omega), if_pos hlen, if_pos (by omega), if_pos (by omega)]
  by_cases a1 : (c1.toNat : Int) < 48
  · rw [if_pos a1]; simp [ng c1 a1]
  rw [if_neg a1]
  by_cases z1 : (c1.toNat : Int) > 57
  · rw [if_pos z1]; simp [nl c1 z1]
  rw [if_neg z1, if_pos (by omega), if_pos hlen, if_pos (by omega), if_pos (by omega)]
  by_cases a2 : (c2.toNat : Int) < 48
  · rw [if_pos a2]; simp [ng c2 a2]
  rw [if_neg a2]
  by_cases z2 : (c2.toNat : Int) > 57
  · rw [if_pos z2]; simp [nl c2 z2]
  rw [if_neg z2, if_neg (by omega)]
  have hall : [c0, c1, c2].all isD = true := by simp [dg c0 a0 z0, dg c1 a1 z1, dg c2 a2 z2]
  have hv : dvL 0 [c0, c1, c2] = 10 * (10 * ((c0.toNat : Int) - 48) + (c1.toNat : Int) - 48) + (c2.toNat : Int) - 48 := by simp [dvL]
  rw [if_pos hall, hv]
  rw [w64 (x := (c0.toNat : Int)) (by omega) (by omega), w64 (x := (c1.toNat : Int)) (by omega) (by omega), w64 (x := (c2.toNat : Int)) (by omega) (by omega)]
  rw [show wrap64 (10 * 0) = 0 from w64 (by decide) (by decide), w64 (x := 0 + (c0.toNat : Int)) (by omega) (by omega), w64 (x := 0 + (c0.toNat : Int) - 48) (by omega) (by omega)]
  rw [w64 (x := 10 * (0 + (c0.toNat : Int) - 48)) (by omega) (by omega), w64 (x := 10 * (0 + (c0.toNat : Int) - 48) + (c1.toNat : Int)) (by omega) (by omega), w64 (x := 10 * (0 + (c0.toNat : Int) - 48) + (c1.toNat : Int) - 48) (by omega) (by omega)]
  rw [w64 (x := 10 * (10 * (0 + (c0.toNat : Int) - 48) + (c1.toNat : Int) - 48)) (by omega) (by omega), w64 (x := 10 * (10 * (0 + (c0.toNat : Int) - 48) + (c1.toNat : Int) - 48) + (c2.toNat : Int)) (by omega) (by omega), w64 (x := 10 * (10 * (0 + (c0.toNat : Int) - 48) + (c1.toNat : Int) - 48) + (c2.toNat : Int) - 48) (by omega) (by omega)]
  rw [w64 (x := 1000 * hi) (by omega) (by omega), w64 (x := 1000 * hi + _) (by omega) (by omega), spec_TickText_eq (by omega)]
  simp only [Option.bind_some, bs_list, Int.zero_add]
  split <;> rfl
theorem spec_Parse_eq {k : Nat} (hk : 100 ≤ k) (l : List UInt8) (hl : l.length ≤ 12) :
    spec_ParseTick.f k (bs l) = (match sp [] l with
      | [p0, [c0, c1, c2]] => some (if (readV p0).2 = true then (if [c0, c1, c2].all isD = true then (if tickB (1000 * (readV p0).1 + dvL 0 [c0, c1, c2]) = l then (1000 * (readV p0).1 + dvL 0 [c0, c1, c2], true) else (0, false)) else (0, false)) else (0, false))
      | _ => some (0, false)) := by
  obtain ⟨k, rfl⟩ : ∃ m, k = m + 1 := ⟨k - 1, by omega⟩
  unfold spec_ParseTick.f
  rw [bs_size, if_neg (by omega), parts_eq (by omega) l hl]
  simp only [Option.bind_some, List.length_map]
  have hj : ∀ x : List ByteArray, spec_ParseTick.j0 (k + 1) (bs l) x true = some (0, false) := fun x => by simp only [spec_ParseTick.j0]; rfl
  match hs : sp [] l with
  | [] => rw [if_neg (by simp), hj]
  | [p0] => rw [if_neg (by simp), hj]
  | p0 :: p1 :: p2 :: r =>
    rw [if_neg (by simp; omega), hj]
    cases p1 with
    | nil => rfl
    | cons a b => cases b with
      | nil => rfl
      | cons a b => cases b with
        | nil => rfl
        | cons a b => cases b <;> rfl
  | [p0, p1] =>
    have er : rdOf ByteArray.empty (List.map bs [p0, p1]) 1 = bs p1 := rfl
    rw [if_pos (by simp), if_pos (by simp), er, bs_size]
    match p1 with
    | [] => rw [show ((([] : List UInt8).length : Int) != 3) = true from rfl, hj]
    | [_] => rw [show ((([_] : List UInt8).length : Int) != 3) = true from rfl, hj]
    | [_, _] => rw [show ((([_, _] : List UInt8).length : Int) != 3) = true from rfl, hj]
    | _ :: _ :: _ :: _ :: _ =>
      rename_i a b c d e
      have : (((a :: b :: c :: d :: e : List UInt8).length : Int) != 3) = true := by simp; omega
      rw [this, hj]
    | [c0, c1, c2] =>
      rw [show ((([c0, c1, c2] : List UInt8).length : Int) != 3) = false from rfl]
      have e0 : rdOf ByteArray.empty (List.map bs [p0, [c0, c1, c2]]) 0 = bs p0 := rfl
      simp only [spec_ParseTick.j0, Bool.false_eq_true, if_false, e0, read_eq (k := k) (by omega), Option.bind_some]
      rw [if_pos (by simp)]
      by_cases hr : (readV p0).2 = true
      · rw [if_pos hr, if_pos hr]
        exact parse_l0 (by omega) l p0 [] c0 c1 c2 (readV p0).1 (readV_bound p0)
      · rw [if_neg hr, if_neg hr]
theorem spec_Parse_hit {k : Nat} (hk : 100 ≤ k) {t : Int} (h : 0 ≤ t ∧ t ≤ 1000000000) : spec_ParseTick.f k (bs (tickB t)) = some (t, true) := by
  obtain ⟨d1, d2, d3, d4⟩ := hi_digs h
  obtain ⟨r1, r2⟩ := three_digs (r := t.toNat % 1000) (by omega)
  have hl : (tickB t).length ≤ 12 := by rw [tickB_parts h]; simp [three]; omega
  rw [spec_Parse_eq hk _ hl]
  have hs : sp [] (tickB t) = [Lib.itoa (t / 1000), three (t.toNat % 1000)] := by
    rw [tickB_parts h, sp_dot _ _ _ (noDot_of d1), sp_noDot _ _ (noDot_of r1)]
    simp
  have e3 : ∀ x, three x = [UInt8.ofNat (48 + x / 100), UInt8.ofNat (48 + x / 10 % 10), UInt8.ofNat (48 + x % 10)] := fun _ => rfl
  have ht : 1000 * (t / 1000) + dvL 0 (three (t.toNat % 1000)) = t := by rw [r2]; omega
  rw [hs]
  rw [e3] at r1 ht ⊢
  simp only [readV_hi h, r1, if_true, ht]
theorem spec_Parse_any {k : Nat} (hk : 100 ≤ k) (l : List UInt8) : spec_ParseTick.f k (bs l) = some (0, false) ∨ ∃ t, (0 ≤ t ∧ t ≤ 1000000000) ∧ tickB t = l := by
  by_cases hl : l.length ≤ 12
  · rw [spec_Parse_eq hk l hl]
    split
    · rename_i p0 c0 c1 c2 hs
      by_cases hr : (readV p0).2 = true
      · rw [if_pos hr]
        by_cases hd : [c0, c1, c2].all isD = true
        · rw [if_pos hd]
          by_cases ht : tickB (1000 * (readV p0).1 + dvL 0 [c0, c1, c2]) = l
          · refine .inr ⟨_, tickB_nil ?_, ht⟩
            intro e
            rw [e] at ht
            subst ht
            simp [sp] at hs
          · rw [if_neg ht]; exact .inl rfl
        · rw [if_neg hd]; exact .inl rfl
      · rw [if_neg hr]; exact .inl rfl
    · exact .inl rfl
  · unfold spec_ParseTick.f
    rw [bs_size, if_pos (by omega)]
    exact .inl rfl

theorem FnExactParseTick : ∀ (a0 : ByteArray), a0.size ≤ 140737488351232 → ∃ k, laws_FnExactParseTick.f k a0 = some true := by
  intro a0 _
  refine ⟨200, ?_⟩
  unfold laws_FnExactParseTick.f
  by_cases hl : (a0.size : Int) > 1048576
  · rw [if_pos hl]
  · rw [if_neg hl, bs_of a0]
    rcases spec_Parse_any (k := 200) (by omega) a0.data.toList with h1 | ⟨t, ht, e⟩
    · rcases impl_Parse_any a0.data.toList (by rw [data_length]; omega) with h2 | ⟨t, ht, e⟩
      · rw [h1, h2]; rfl
      · rw [← e, spec_Parse_hit (by omega) ht, impl_Parse_hit ht]
        simp
    · rw [← e, spec_Parse_hit (by omega) ht, impl_Parse_hit ht]
      simp

end Go.Proofs.YtkbgphdepkjccaaDoor.Pure
