/-
  The law FnTicks answers true at every code: sums of ticks, what has passed, what is due, a tick's text read back. No condition.
-/
import Derived.Test.YtkbgphdepkjccaaDoorQFnTicksx3
namespace Go.Proofs.YtkbgphdepkjccaaDoor.Pure
open Go.RowKit Go.Proofs.YtkbgphdepkjccaaDoor.QFnTicks Go.Proofs.YtkbgphdepkjccaaDoorW.PrintWords Go.Proofs.YtkbgphdepkjccaaDoorW.PrintLast Go.Proofs.YtkbgphdepkjccaaDoorW.PrintMore
set_option linter.unusedSimpArgs false
set_option linter.unusedVariables false

theorem w64 {x : Int} (h1 : -9223372036854775808 ≤ x) (h2 : x ≤ 9223372036854775807) : wrap64 x = x := by
  unfold wrap64; omega

theorem spec_in_eq (a lo hi : Int) : spec_l01In.f a lo hi = some (decide (lo ≤ a ∧ a ≤ hi)) := by
  unfold spec_l01In.f; by_cases h : lo ≤ a <;> simp [h]

theorem spec_TickOk_eq (a : Int) : spec_TickOk.f a = some (decide (0 ≤ a ∧ a ≤ 1000000000)) := by
  simp only [spec_TickOk.f, spec_in_eq, Option.bind_some]

def addT (a b : Int) : Int :=
  if 0 ≤ a ∧ a ≤ 1000000000 then (if -1000000000 ≤ b ∧ b ≤ 1000000000 then (if a + b > 1000000000 then 1000000000 else if a + b < 0 then 0 else a + b) else -1) else -1

theorem spec_AddTick_eq {k : Nat} (hk : 1 ≤ k) (a b : Int) : spec_AddTick.f k a b = some (addT a b) := by
  obtain ⟨k, rfl⟩ : ∃ m, k = m + 1 := ⟨k - 1, by omega⟩
  unfold addT
  simp only [spec_AddTick.f, spec_TickOk_eq, spec_in_eq, Option.bind_some, spec_AddTick.j0]
  by_cases h1 : 0 ≤ a ∧ a ≤ 1000000000
  · by_cases h2 : -1000000000 ≤ b ∧ b ≤ 1000000000
    · rw [w64 (x := a + b) (by omega) (by omega)]
      simp only [h1, h2, and_self, decide_true, if_true, Bool.not_true, Bool.false_eq_true, if_false]
      by_cases h3 : a + b > 1000000000
      · rw [if_pos h3, if_pos h3]
      · rw [if_neg h3, if_neg h3]
        by_cases h4 : a + b < 0
        · rw [if_pos h4, if_pos h4]
        · rw [if_neg h4, if_neg h4]
    · simp [h1, h2]
  · simp [h1]

theorem impl_within_eq (a lo hi : Int) : impl_within.f a lo hi = some (decide (lo ≤ a ∧ a ≤ hi)) := by
  unfold impl_within.f; by_cases h : lo ≤ a <;> simp [h]

theorem impl_TickOk_eq (a : Int) : impl_TickOk.f a = some (decide (0 ≤ a ∧ a ≤ 1000000000)) := by
  simp only [impl_TickOk.f, impl_within_eq, Option.bind_some]

theorem impl_AddTick_eq (a b : Int) : impl_AddTick.f a b = some (addT a b) := by
  unfold addT
  simp only [impl_AddTick.f, impl_TickOk_eq, impl_within_eq, Option.bind_some]
  by_cases h1 : 0 ≤ a ∧ a ≤ 1000000000
  · by_cases h2 : -1000000000 ≤ b ∧ b ≤ 1000000000
    · rw [w64 (x := a + b) (by omega) (by omega)]
      simp only [h1, h2, and_self, decide_true, if_true]
      congr 1
      unfold mn mx
      (repeat' split) <;> omega
    · simp [h1, h2]
  · simp [h1]

def sinceT (a b : Int) : Int :=
  if 0 ≤ a ∧ a ≤ 1000000000 then (if 0 ≤ b ∧ b ≤ 1000000000 then (if b < a then 0 else b - a) else -1) else -1

theorem impl_Since_eq (a b : Int) : impl_Since.f a b = some (sinceT a b) := by
  unfold sinceT
  simp only [impl_Since.f, impl_TickOk_eq, Option.bind_some]
  by_cases h1 : 0 ≤ a ∧ a ≤ 1000000000
  · by_cases h2 : 0 ≤ b ∧ b ≤ 1000000000
    · rw [w64 (x := b - a) (by omega) (by omega)]
      simp only [h1, h2, and_self, decide_true, if_true]
      congr 1
      unfold mx
      split <;> split <;> omega
    · simp [h1, h2]
  · simp [h1]

def dueT (a b c : Int) : Bool :=
  if 0 ≤ a ∧ a ≤ 1000000000 then (if 0 ≤ b ∧ b ≤ 1000000000 then (if 0 ≤ c ∧ c ≤ 1000000000 then (if b > 0 then decide (addT a b ≤ c) else false) else false) else false) else false

theorem impl_DueAt_eq (a b c : Int) : impl_DueAt.f a b c = some (dueT a b c) := by
  unfold dueT
  simp only [impl_DueAt.f, impl_TickOk_eq, impl_AddTick_eq, Option.bind_some]
  by_cases h1 : 0 ≤ a ∧ a ≤ 1000000000
  · by_cases h2 : 0 ≤ b ∧ b ≤ 1000000000
    · by_cases h3 : 0 ≤ c ∧ c ≤ 1000000000
      · by_cases h4 : b > 0
        · simp [h1, h2, h3, h4]
        · simp [h1, h2, h3, h4]
      · simp [h1, h2, h3]
    · simp [h1, h2]
  · simp [h1]

/-- A string by its bytes. -/
def bs (l : List UInt8) : ByteArray := ⟨l.toArray⟩
theorem bs_size (l : List UInt8) : (bs l).size = l.length := by simp [bs, ByteArray.size]
theorem bs_app (a b : List UInt8) : bs a ++ bs b = bs (a ++ b) := by
  apply ByteArray.ext
  simp [bs]
theorem bs_inj {a b : List UInt8} (h : bs a = bs b) : a = b := by
  have := congrArg (fun x : ByteArray => x.data.toList) h
  simpa [bs] using this
theorem bs_of (s : ByteArray) : s = bs s.data.toList := by cases s; rfl
theorem bs_toList (l : List UInt8) : (bs l).data.toList = l := by simp [bs]
theorem bs_ex (l : List UInt8) (i j : Nat) : (bs l).extract i j = bs ((l.take j).drop i) := by
  apply ByteArray.ext
  simp [bs, List.drop_take]
theorem td10 (x : Int) : (0 ≤ x ∧ Int.tdiv x 10 = x / 10 ∧ Int.tmod x 10 = x % 10) ∨ (x < 0 ∧ Int.tdiv x 10 = -((-x) / 10) ∧ Int.tmod x 10 = -((-x) % 10)) := by
  by_cases h : 0 ≤ x
  · exact .inl ⟨h, Int.tdiv_eq_ediv_of_nonneg h, Int.tmod_eq_emod_of_nonneg h⟩
  · refine .inr ⟨by omega, ?_, ?_⟩
    · have : x = -(-x) := by omega
      rw [this, Int.neg_tdiv, Int.tdiv_eq_ediv_of_nonneg (by omega)]
      simp
    · have : x = -(-x) := by omega
      rw [this, Int.neg_tmod, Int.tmod_eq_emod_of_nonneg (by omega)]
      simp
theorem bs_nums (l : List Int) : strOfNums l = bs (l.map fun n => UInt8.ofNat n.toNat) := rfl

theorem impl_decimal_eq {x : Int} (h1 : -9223372036854775808 ≤ x) (h2 : x ≤ 9223372036854775807) : impl_decimal.f x = some (bs (Lib.itoa x)) := by
  unfold impl_decimal.f
  simp only [strconv_Itoa_37.f, if_pos (And.intro h1 h2), Option.bind_some]
  rfl

theorem td1000 {x : Int} (h : 0 ≤ x) : Int.tdiv x 1000 = x / 1000 ∧ Int.tmod x 1000 = x % 1000 := ⟨Int.tdiv_eq_ediv_of_nonneg h, Int.tmod_eq_emod_of_nonneg h⟩
theorem td100 {x : Int} (h : 0 ≤ x) : Int.tdiv x 100 = x / 100 := Int.tdiv_eq_ediv_of_nonneg h
theorem td10' {x : Int} (h : 0 ≤ x) : Int.tdiv x 10 = x / 10 ∧ Int.tmod x 10 = x % 10 := ⟨Int.tdiv_eq_ediv_of_nonneg h, Int.tmod_eq_emod_of_nonneg h⟩
theorem nDigits_le : ∀ (d u : Nat), u < 10 ^ d → (Lib.decDigits u).length ≤ d + 1 := by
  intro d
  induction d with
  | zero => intro u h; rw [Lib.decDigits, dif_pos (by simp at h; omega)]; simp
  | succ d ih =>
    intro u h
    by_cases hs : u < 10
    · rw [Lib.decDigits, dif_pos hs]; simp
    · rw [Lib.decDigits, dif_neg hs]
      have := ih (u / 10) (by have : 10 ^ (d + 1) = 10 ^ d * 10 := Nat.pow_succ ..; omega)
      simp; omega
theorem itoa_len {x : Int} (h1 : -9223372036854775808 ≤ x) (h2 : x ≤ 9223372036854775807) : (Lib.itoa x).length ≤ 21 := by
  have e19 : (10 : Nat) ^ 19 = 10000000000000000000 := by decide +kernel
  unfold Lib.itoa
  by_cases hn : x < 0
  · rw [if_pos hn]
    have := nDigits_le 19 x.natAbs (by rw [e19]; omega)
    simp; omega
  · rw [if_neg hn]
    have := nDigits_le 19 x.toNat (by rw [e19]; omega)
    omega

/-- The three digits behind the point. -/
def three (r : Nat) : List UInt8 := [UInt8.ofNat (48 + r / 100), UInt8.ofNat (48 + r / 10 % 10), UInt8.ofNat (48 + r % 10)]
theorem itoa_1000 (r : Nat) (h : r < 1000) : Lib.itoa (1000 + (r : Int)) = 49 :: three r := by
  unfold Lib.itoa
  rw [if_neg (by omega), show ((1000 : Int) + (r : Int)).toNat = 1000 + r by omega]
  rw [Lib.decDigits, dif_neg (by omega), Lib.decDigits, dif_neg (by omega), Lib.decDigits, dif_neg (by omega), Lib.decDigits, dif_pos (by omega)]
  have e1 : (1000 + r) / 10 / 10 / 10 = 1 := by omega
  have e2 : (1000 + r) / 10 / 10 % 10 = r / 100 := by omega
  have e3 : (1000 + r) / 10 % 10 = r / 10 % 10 := by omega
  have e4 : (1000 + r) % 10 = r % 10 := by omega
  rw [e1, e2, e3, e4]
  rfl
/-- A tick's text. -/
def tickB (t : Int) : List UInt8 := if 0 ≤ t ∧ t ≤ 1000000000 then Lib.itoa (t / 1000) ++ 46 :: three (t.toNat % 1000) else []

theorem impl_TickText_eq (t : Int) : impl_TickText.f t = some (bs (tickB t)) := by
  unfold impl_TickText.f impl_TickOk.f
  rw [impl_within_eq]
  simp only [Option.bind_some]
  by_cases h : 0 ≤ t ∧ t ≤ 1000000000
  · rw [decide_eq_true h, if_pos rfl, (td1000 h.1).1, (td1000 h.1).2, w64 (x := t / 1000) (by omega) (by omega), w64 (x := 1000 + t % 1000) (by omega) (by omega), impl_decimal_eq (x := t / 1000) (by omega) (by omega)]
    have e0 : 1000 + t % 1000 = 1000 + ((t.toNat % 1000 : Nat) : Int) := by omega
    rw [e0, impl_decimal_eq (by omega) (by omega), itoa_1000 _ (by omega)]
    simp only [Option.bind_some]
    have hl := itoa_len (x := t / 1000) (by omega) (by omega)
    rw [bs_size, if_pos (by omega), bs_size, if_pos (by simp [three]), bs_ex, show (⟨#[46]⟩ : ByteArray) = bs [46] from rfl, bs_app, bs_size, bs_size, if_pos (by simp [three]; omega), bs_app]
    unfold tickB
    rw [if_pos h]
    simp [three]
  · rw [decide_eq_false h, if_neg (by simp)]
    unfold tickB
    rw [if_neg h]
    rfl

/-! #### digits and their value -/
def isD (c : UInt8) : Bool := decide (48 ≤ c.toNat ∧ c.toNat ≤ 57)
def dvL (acc : Int) (l : List UInt8) : Int := l.foldl (fun a c => 10 * a + (c.toNat : Int) - 48) acc
theorem dvL_app (acc : Int) (a b : List UInt8) : dvL acc (a ++ b) = dvL (dvL acc a) b := by simp [dvL]
theorem ofNat_toNat {n : Nat} (h : n < 10) : (UInt8.ofNat (48 + n)).toNat = 48 + n := by
  rw [UInt8.toNat_ofNat']; omega
theorem isD_of {n : Nat} (h : n < 10) : isD (UInt8.ofNat (48 + n)) = true := by
  unfold isD; rw [ofNat_toNat h]; simp; omega
theorem dec_digs : ∀ (d n : Nat), n < 10 ^ d → (Lib.decDigits n).all isD = true ∧ dvL 0 (Lib.decDigits n) = n := by
  intro d
  induction d with
  | zero => intro n h; obtain rfl : n = 0 := by simpa using h
            rw [Lib.decDigits, dif_pos (by omega)]; exact ⟨by decide, by decide⟩
  | succ d ih =>
    intro n h
    by_cases hs : n < 10
    · rw [Lib.decDigits, dif_pos hs]
      refine ⟨by simp only [List.all_cons, List.all_nil, isD_of hs, Bool.and_true], ?_⟩
      simp only [dvL, List.foldl_cons, List.foldl_nil, ofNat_toNat hs]
      omega
    · rw [Lib.decDigits, dif_neg hs]
      obtain ⟨h1, h2⟩ := ih (n / 10) (by have : 10 ^ (d + 1) = 10 ^ d * 10 := Nat.pow_succ ..; omega)
      have hm : n % 10 < 10 := by omega
      refine ⟨by simp only [List.all_append, h1, List.all_cons, List.all_nil, isD_of hm, Bool.and_true], ?_⟩
      rw [dvL_app, h2]
      simp only [dvL, List.foldl_cons, List.foldl_nil, ofNat_toNat hm]
      omega
theorem dvL_bound : ∀ (l : List UInt8) (acc : Int) (e : Nat), l.all isD = true → 0 ≤ acc → acc < 10 ^ e → 0 ≤ dvL acc l ∧ dvL acc l < 10 ^ (e + l.length) := by
  intro l
  induction l with
  | nil => intro acc e _ h1 h2; exact ⟨h1, by simpa [dvL] using h2⟩
  | cons c r ih =>
    intro acc e hd h1 h2
    simp only [List.all_cons, Bool.and_eq_true] at hd
    have hc : 48 ≤ c.toNat ∧ c.toNat ≤ 57 := by simpa [isD] using hd.1
    have hp : (10 : Int) ^ (e + 1) = 10 ^ e * 10 := Int.pow_succ ..
    have := ih (10 * acc + (c.toNat : Int) - 48) (e + 1) hd.2 (by omega) (by rw [hp]; omega)
    rw [show e + 1 + r.length = e + (c :: r).length by simp; omega] at this
    exact this
theorem three_digs {r : Nat} (h : r < 1000) : (three r).all isD = true ∧ ∀ acc : Int, dvL acc (three r) = 1000 * acc + r := by
  have h1 : r / 100 < 10 := by omega
  have h2 : r / 10 % 10 < 10 := by omega
  have h3 : r % 10 < 10 := by omega
  refine ⟨by simp only [three, List.all_cons, List.all_nil, isD_of h1, isD_of h2, isD_of h3, Bool.and_true], fun acc => ?_⟩
  simp only [dvL, three, List.foldl_cons, List.foldl_nil, ofNat_toNat h1, ofNat_toNat h2, ofNat_toNat h3]
  omega
theorem noDot_of {l : List UInt8} (h : l.all isD = true) : ∀ c ∈ l, c ≠ 46 := by
  intro c hc e
  have := List.all_eq_true.1 h c hc
  subst e
  exact absurd this (by decide)
theorem itoa_pos {n : Int} (h : 0 ≤ n) : Lib.itoa n = Lib.decDigits n.toNat := by
  unfold Lib.itoa; rw [if_neg (by omega)]
/-! #### the program's side -/
theorem index_dot : ∀ (a b : List UInt8), (∀ c ∈ a, c ≠ 46) → Lib.index (a ++ 46 :: b) [46] = a.length := by
  intro a
  induction a with
  | nil => intro b _; simp [Lib.index]
  | cons c r ih =>
    intro b h
    have hc : (c : UInt8) ≠ 46 := h c (by simp)
    have e := ih b (fun x hx => h x (by simp [hx]))
    show Lib.index (c :: (r ++ 46 :: b)) [46] = _
    unfold Lib.index
    have hp : ([46] : List UInt8).isPrefixOf (c :: (r ++ 46 :: b)) = false := by
      simp [List.isPrefixOf]
      exact fun e => hc e.symm
    rw [hp, e]
    have : ((r.length : Int) == -1) = false := by simp
    simp [this]
theorem cut_dot {a b : List UInt8} (h : ∀ c ∈ a, c ≠ 46) : Lib.cut (a ++ 46 :: b) [46] = (a, b, true) := by
  unfold Lib.cut
  rw [index_dot a b h, if_pos (by omega)]
  simp
theorem parseUint_digs : ∀ (l : List UInt8) (acc : Nat) (e : Nat), l.all isD = true → acc < 10 ^ e → e + l.length ≤ 18 → ∃ u, Lib.parseUint10 acc l = .ok u ∧ (u : Int) = dvL acc l := by
  intro l
  induction l with
  | nil => intro acc e _ _ _; exact ⟨acc, rfl, rfl⟩
  | cons c r ih =>
    intro acc e hd ha hl
    simp only [List.all_cons, Bool.and_eq_true] at hd
    have hc : 48 ≤ c.toNat ∧ c.toNat ≤ 57 := by simpa [isD] using hd.1
    simp only [List.length_cons] at hl
    have hp : 10 ^ (e + 1) = 10 ^ e * 10 := Nat.pow_succ ..
    have h18 : 10 ^ e ≤ 10 ^ 17 := Nat.pow_le_pow_right (by omega) (by omega)
    have e17 : (10 : Nat) ^ 17 = 100000000000000000 := by decide +kernel
    unfold Lib.parseUint10
    rw [if_pos hc, if_neg (by omega), if_neg (by omega)]
    obtain ⟨u, h1, h2⟩ := ih (acc * 10 + (c.toNat - 48)) (e + 1) hd.2 (by omega) (by omega)
    refine ⟨u, h1, ?_⟩
    rw [h2]
    show dvL _ r = dvL (10 * (acc : Int) + (c.toNat : Int) - 48) r
    congr 1
    omega
theorem atoi_digs {l : List UInt8} (h0 : l ≠ []) (hd : l.all isD = true) (hl : l.length ≤ 18) : Lib.atoiAll l = .ok (dvL 0 l) := by
  cases l with
  | nil => exact absurd rfl h0
  | cons c r =>
    have hc : 48 ≤ c.toNat ∧ c.toNat ≤ 57 := by
      simp only [List.all_cons, Bool.and_eq_true] at hd
      simpa [isD] using hd.1
    obtain ⟨u, h1, h2⟩ := parseUint_digs (c :: r) 0 0 hd (by simp) (by simpa using hl)
    have hb := (dvL_bound (c :: r) 0 0 hd (by omega) (by simp)).2
    have h18 : (10 : Int) ^ (0 + (c :: r).length) ≤ 10 ^ 18 := by
      have : 10 ^ (0 + (c :: r).length) ≤ 10 ^ 18 := Nat.pow_le_pow_right (n := 10) (by omega) (by simpa using hl)
      exact_mod_cast this
    have e18 : (10 : Int) ^ 18 = 1000000000000000000 := by decide +kernel
    have h2' : (u : Int) = dvL 0 (c :: r) := h2
    unfold Lib.atoiAll
    simp only [Lib.parseMag]
    rw [if_neg (show ¬ (c.toNat = 43 ∨ c.toNat = 45) by omega), if_neg (by simp), h1]
    simp only
    rw [if_neg (by omega), if_neg (by omega), if_neg (by omega), h2']
/-- A tick's text, told apart by its parts. -/
theorem tickB_parts {t : Int} (h : 0 ≤ t ∧ t ≤ 1000000000) : tickB t = Lib.itoa (t / 1000) ++ 46 :: three (t.toNat % 1000) := by unfold tickB; rw [if_pos h]
theorem tickB_nil {t : Int} (h : tickB t ≠ []) : 0 ≤ t ∧ t ≤ 1000000000 := by
  by_cases hc : 0 ≤ t ∧ t ≤ 1000000000
  · exact hc
  · unfold tickB at h; rw [if_neg hc] at h; exact absurd rfl h
theorem hi_digs {t : Int} (h : 0 ≤ t ∧ t ≤ 1000000000) : (Lib.itoa (t / 1000)).all isD = true ∧ dvL 0 (Lib.itoa (t / 1000)) = t / 1000 ∧ (Lib.itoa (t / 1000)).length ≤ 8 ∧ Lib.itoa (t / 1000) ≠ [] := by
  rw [itoa_pos (by omega)]
  have e7 : (10 : Nat) ^ 7 = 10000000 := by decide +kernel
  obtain ⟨h1, h2⟩ := dec_digs 7 (t / 1000).toNat (by omega)
  refine ⟨h1, by rw [h2]; omega, nDigits_le 7 _ (by omega), fun e => ?_⟩
  rw [Lib.decDigits] at e
  split at e <;> simp at e
theorem bs_list (l : List UInt8) : (bs l).toList = l := by rw [ByteArray.toList_eq]; exact bs_toList l
/-- What the program answers. -/
theorem impl_Parse_hit {t : Int} (h : 0 ≤ t ∧ t ≤ 1000000000) : impl_ParseTick.f (bs (tickB t)) = some (t, true) := by
  obtain ⟨d1, d2, d3, d4⟩ := hi_digs h
  obtain ⟨r1, r2⟩ := three_digs (r := t.toNat % 1000) (by omega)
  have hl : (tickB t).length ≤ 12 := by rw [tickB_parts h]; simp [three]; omega
  unfold impl_ParseTick.f
  rw [if_pos (by rw [bs_size]; omega), bs_toList, tickB_parts h, cut_dot (noDot_of d1)]
  have ha : Lib.atoiAll (Lib.itoa (t / 1000) ++ three (t.toNat % 1000)) = .ok t := by
    rw [atoi_digs (by simp [d4]) (by simp only [List.all_append, d1, r1, Bool.and_true]) (by simp [three]; omega), dvL_app, d2, r2]
    congr 1
    omega
  simp only [ha, impl_ParseTick.g, impl_TickText_eq, Option.bind_some]
  rw [← tickB_parts h, if_pos rfl]
theorem impl_Parse_any (l : List UInt8) (hl : l.length ≤ 1048576) : impl_ParseTick.f (bs l) = some (0, false) ∨ ∃ t, (0 ≤ t ∧ t ≤ 1000000000) ∧ tickB t = l := by
  unfold impl_ParseTick.f
  rw [if_pos (by rw [bs_size]; omega), bs_toList]
  cases hA : Lib.atoiAll ((Lib.cut l [46]).1 ++ (Lib.cut l [46]).2.1) with
  | «syntax» => exact .inl rfl
  | range => exact .inl rfl
  | ok v =>
    simp only [impl_ParseTick.g, impl_TickText_eq, Option.bind_some]
    by_cases hc : (bs (tickB v)).toList = (bs l).toList
    · rw [bs_list, bs_list] at hc
      refine .inr ⟨v, tickB_nil ?_, hc⟩
      intro e
      rw [e] at hc
      subst hc
      exact absurd hA (by simp [Lib.cut, Lib.index, Lib.atoiAll])
    · rw [if_neg hc]
      exact .inl rfl

theorem wi {i : Nat} (h : i < 4611686018427387904) : wrap64 ((i : Int) + 1) = ((i + 1 : Nat) : Int) := by
  unfold wrap64; omega

theorem bits255 (x : Int) : 0 ≤ Go.bits .and .i64 x 255 ∧ Go.bits .and .i64 x 255 ≤ 255 := by
  have e2 : (BitVec.ofInt 64 (255 : Int)).toNat = 255 := by decide
  have e : Go.bits .and .i64 x 255 = IntKind.i64.wrap (((BitVec.ofInt 64 x).toNat &&& 255 : Nat) : Int) := by
    show IntKind.i64.wrap ((BitVec.ofInt 64 x &&& BitVec.ofInt 64 255).toNat : Int) = _
    rw [BitVec.toNat_and, e2]
  have h : (BitVec.ofInt 64 x).toNat &&& 255 ≤ 255 := Nat.and_le_right
  rw [e, IntKind.wrap_i64]
  omega
theorem Byte_some {l : List Int} (hl : l.length ≤ 4611686018427387903) (p s : Int) (hp : 0 ≤ p) : ∃ b p' s', spec_l01Byte.f l p s = some (b, p', s') ∧ (0 ≤ b ∧ b ≤ 255) ∧ 0 ≤ p' := by
  unfold spec_l01Byte.f
  by_cases h : p < (l.length : Int)
  · rw [if_pos h, if_pos hp, w64 (x := p + 1) (by omega) (by omega)]
    exact ⟨_, _, _, rfl, bits255 _, by omega⟩
  · rw [if_neg h]
    exact ⟨_, _, _, rfl, bits255 _, hp⟩
theorem tmodB {v a : Int} (h0 : 0 ≤ v) (ha : 0 < a) : 0 ≤ Int.tmod v a ∧ Int.tmod v a < a := ⟨Int.tmod_nonneg _ h0, Int.tmod_lt_of_pos _ ha⟩
theorem Below_some {l : List Int} (hl : l.length ≤ 4611686018427387903) (p s a : Int) (hp : 0 ≤ p) : ∃ v p' s', spec_l01Below.f l p s a = some (v, p', s') ∧ (0 ≤ v ∧ (v < a ∨ v = 0)) ∧ (0 < a → v < a) ∧ 0 ≤ p' := by
  unfold spec_l01Below.f
  by_cases h : a ≤ 0
  · rw [if_pos h]
    exact ⟨_, _, _, rfl, ⟨by omega, .inr rfl⟩, by omega, hp⟩
  · rw [if_neg h]
    by_cases h2 : a ≤ 256
    · rw [if_pos h2]
      obtain ⟨b, p1, s1, e1, hb, hp1⟩ := Byte_some hl p s hp
      rw [e1, Option.bind_some, if_neg (by omega)]
      have := tmodB (v := b) (a := a) hb.1 (by omega)
      exact ⟨_, _, _, rfl, ⟨this.1, .inl this.2⟩, fun _ => this.2, hp1⟩
    · rw [if_neg h2]
      obtain ⟨b, p1, s1, e1, hb, hp1⟩ := Byte_some hl p s hp
      obtain ⟨b2, p2, s2, e2, hb2, hp2⟩ := Byte_some hl p1 s1 hp1
      obtain ⟨b3, p3, s3, e3, hb3, hp3⟩ := Byte_some hl p2 s2 hp2
      rw [e1, Option.bind_some]
      dsimp only
      rw [e2, Option.bind_some]
      dsimp only
      rw [e3, Option.bind_some, if_neg (by omega), w64 (x := b * 65536) (by omega) (by omega), w64 (x := b2 * 256) (by omega) (by omega), w64 (x := b * 65536 + b2 * 256) (by omega) (by omega), w64 (x := b * 65536 + b2 * 256 + b3) (by omega) (by omega)]
      have := tmodB (v := b * 65536 + b2 * 256 + b3) (a := a) (by omega) (by omega)
      exact ⟨_, _, _, rfl, ⟨this.1, .inl this.2⟩, fun _ => this.2, hp3⟩
theorem Once_some {l : List Int} (hl : l.length ≤ 4611686018427387903) (p s a : Int) (hp : 0 ≤ p) : ∃ v p' s', spec_l01Once.f l p s a = some (v, p', s') ∧ 0 ≤ p' := by
  obtain ⟨v, p1, s1, e, _, _, h⟩ := Below_some hl p s a hp
  unfold spec_l01Once.f
  rw [e, Option.bind_some]
  exact ⟨_, _, _, rfl, h⟩
theorem Pick_some {l : List Int} (hl : l.length ≤ 4611686018427387903) (p s : Int) (hp : 0 ≤ p) (c : List Int) (hc : 0 < c.length) : ∃ v p' s', spec_l01PickInt.f l p s c = some (v, p', s') ∧ 0 ≤ p' := by
  obtain ⟨v, p1, s1, e, h1, h2, h⟩ := Below_some hl p s (c.length : Int) hp
  unfold spec_l01PickInt.f
  rw [e, Option.bind_some, if_pos h1.1, if_pos (h2 (by omega))]
  exact ⟨_, _, _, rfl, h⟩
theorem New_l0 (l : List Int) : ∀ (d k i : Nat) (s : Int), i + d = 4000 → d < k → ∃ s', spec_l01New.l0 k l s (i : Int) = some (l, 0, s') := by
  intro d
  induction d with
  | zero =>
    intro k i s h hk
    obtain ⟨k, rfl⟩ : ∃ m, k = m + 1 := ⟨k - 1, by omega⟩
    simp only [spec_l01New.l0]
    rw [if_neg (c := (i : Int) < 4000) (by omega)]
    exact ⟨s, by split <;> rfl⟩
  | succ d ih =>
    intro k i s h hk
    obtain ⟨k, rfl⟩ : ∃ m, k = m + 1 := ⟨k - 1, by omega⟩
    simp only [spec_l01New.l0]
    rw [wi (by omega), if_pos (c := (i : Int) < 4000) (by omega), if_pos (c := 0 ≤ (i : Int)) (by omega)]
    by_cases h1 : (i : Int) < (l.length : Int)
    · rw [if_pos h1]
      exact ih k (i + 1) _ (by omega) (by omega)
    · rw [if_neg h1]
      exact ⟨s, rfl⟩
theorem New_some {k : Nat} (l : List Int) (hk : 4001 ≤ k) : ∃ s, spec_l01New.f k l = some (l, 0, s) := by
  unfold spec_l01New.f
  exact New_l0 l 4000 k 0 _ (by omega) (by omega)

theorem DrawTick_some {l : List Int} (hl : l.length ≤ 4611686018427387903) (p s : Int) (hp : 0 ≤ p) : ∃ v p' s', spec_l01DrawTick.f l p s = some (v, p', s') ∧ 0 ≤ p' := by
  obtain ⟨v1, p1, s1, e1, _, _, h1⟩ := Below_some hl p s 5000 hp
  obtain ⟨v2, p2, s2, e2, _, _, h2⟩ := Below_some hl p1 s1 16777216 h1
  obtain ⟨v3, p3, s3, e3, h3⟩ := Pick_some hl p2 s2 h2 [0, 1, 999, 1000, v1, v2, 1000000000, 999999999] (by simp)
  unfold spec_l01DrawTick.f
  simp only [e1, e2, e3, Option.bind_some]
  exact ⟨_, _, _, rfl, h3⟩
theorem DrawAny_some {l : List Int} (hl : l.length ≤ 4611686018427387903) (p s : Int) (hp : 0 ≤ p) : ∃ v p' s', spec_l01DrawAny.f l p s = some (v, p', s') ∧ 0 ≤ p' := by
  obtain ⟨b, p1, s1, e1, h1⟩ := Once_some hl p s 10 hp
  unfold spec_l01DrawAny.f
  rw [e1, Option.bind_some]
  cases b with
  | true =>
    obtain ⟨v3, p3, s3, e3, h3⟩ := Pick_some hl p1 s1 h1 [(-1), 1000000001, (-1000000001), 9223372036854775807, (-9223372036854775808)] (by simp)
    simp only [if_true, e3, Option.bind_some]
    exact ⟨_, _, _, rfl, h3⟩
  | false =>
    obtain ⟨v3, p3, s3, e3, h3⟩ := DrawTick_some hl p1 s1 h1
    simp only [Bool.false_eq_true, if_false, e3, Option.bind_some]
    exact ⟨_, _, _, rfl, h3⟩
theorem DrawSince_some {k : Nat} (l : List Int) (hl : l.length ≤ 4611686018427387903) (hk : 4001 ≤ k) : ∃ a b, spec_DrawSince.f k l = some (a, b) := by
  obtain ⟨s, e⟩ := New_some l hk
  obtain ⟨v1, p1, s1, e1, h1⟩ := DrawAny_some hl 0 s (Int.le_refl _)
  obtain ⟨v2, p2, s2, e2, h2⟩ := DrawAny_some hl p1 s1 h1
  unfold spec_DrawSince.f
  simp only [e, e1, e2, Option.bind_some]
  exact ⟨_, _, rfl⟩

theorem rd3_0 (a b c : Int) : rd [a, b, c] 0 = a := rfl
theorem rd3_1 (a b c : Int) : rd [a, b, c] 1 = b := rfl
theorem rd3_2 (a b c : Int) : rd [a, b, c] 2 = c := rfl
theorem rd2_0 (a b : Int) : rd [a, b] 0 = a := rfl
theorem rd2_1 (a b : Int) : rd [a, b] 1 = b := rfl
theorem wr1 : wrap64 (0 + 1) = 1 := w64 (by decide) (by decide)
theorem wr2 : wrap64 (1 + 1) = 2 := w64 (by decide) (by decide)
theorem wr3 : wrap64 (2 + 1) = 3 := w64 (by decide) (by decide)
theorem sum3 {k : Nat} (hk : 10 ≤ k) {a b : Int} (ha : 0 ≤ a ∧ a ≤ 1000000000) (hb : 0 ≤ b ∧ b ≤ 1000000000) : impl_SumTicks.f k [a, b, 1] = some (addT (addT a b) 1) := by
  obtain ⟨k, rfl⟩ : ∃ m, k = m + 4 := ⟨k - 4, by omega⟩
  have h0 : addT 0 a = a := by unfold addT; rw [if_pos (by omega), if_pos (by omega), if_neg (by omega), if_neg (by omega)]; omega
  unfold impl_SumTicks.f
  rw [show ((([a, b, 1] : List Int).length : Int)) = 3 from rfl, if_neg (by omega)]
  simp only [impl_SumTicks.l0, impl_TickOk_eq, impl_AddTick_eq, Option.bind_some, wr1, wr2, wr3, rd3_0, rd3_1, rd3_2, decide_eq_true ha, decide_eq_true hb, show decide ((0 : Int) ≤ 1 ∧ (1 : Int) ≤ 1000000000) = true from rfl, h0, show ((([a, b, 1] : List Int).length : Int)) = 3 from rfl]
  simp
theorem soon3 {k : Nat} (hk : 10 ≤ k) {a b : Int} (ha : 0 ≤ a ∧ a ≤ 1000000000) (hb : 0 ≤ b ∧ b ≤ 1000000000) : impl_SoonestOf.f k [-1, a, b] = some (if b < a then b else a) := by
  obtain ⟨k, rfl⟩ : ∃ m, k = m + 4 := ⟨k - 4, by omega⟩
  unfold impl_SoonestOf.f
  rw [show ((([-1, a, b] : List Int).length : Int)) = 3 from rfl, if_neg (by omega)]
  have hna : ¬ a < 0 := by omega
  simp only [impl_SoonestOf.l0, impl_TickOk_eq, Option.bind_some, wr1, wr2, wr3, rd3_0, rd3_1, rd3_2, decide_eq_true ha, decide_eq_true hb, show decide ((0 : Int) ≤ -1 ∧ (-1 : Int) ≤ 1000000000) = false from rfl, hna, show ((([-1, a, b] : List Int).length : Int)) = 3 from rfl]
  by_cases h : b < a <;> simp [h]
theorem soon2 {k : Nat} (hk : 10 ≤ k) {a b : Int} (ha : 0 ≤ a ∧ a ≤ 1000000000) (hb : 0 ≤ b ∧ b ≤ 1000000000) : spec_SoonestOf.f k [a, b] = some (if b < a then b else a) := by
  obtain ⟨k, rfl⟩ : ∃ m, k = m + 3 := ⟨k - 3, by omega⟩
  unfold spec_SoonestOf.f
  rw [show ((([a, b] : List Int).length : Int)) = 2 from rfl, if_neg (by omega)]
  have hna : ¬ a < 0 := by omega
  simp only [spec_SoonestOf.l0, spec_TickOk_eq, Option.bind_some, wr1, wr2, rd2_0, rd2_1, decide_eq_true ha, decide_eq_true hb, hna, show ((([a, b] : List Int).length : Int)) = 2 from rfl]
  by_cases h : b < a <;> simp [h]
theorem ticks_j2 {k : Nat} (hk : 20 ≤ k) {a b : Int} (ha : 0 ≤ a ∧ a ≤ 1000000000) (hb : 0 ≤ b ∧ b ≤ 1000000000) : laws_FnTicks.j2 k a b (addT a b) false = some true := by
  obtain ⟨k, rfl⟩ : ∃ m, k = m + 1 := ⟨k - 1, by omega⟩
  simp only [laws_FnTicks.j2, impl_TickText_eq, Option.bind_some, impl_Parse_hit ha, sum3 (k := k) (by omega) ha hb, impl_AddTick_eq, soon3 (k := k) (by omega) ha hb, soon2 (k := k) (by omega) ha hb]
  simp
theorem ticks_main {k : Nat} (hk : 30 ≤ k) {a b : Int} (ha : 0 ≤ a ∧ a ≤ 1000000000) (hb : 0 ≤ b ∧ b ≤ 1000000000) : laws_FnTicks.j0 k a b false = some true := by
  obtain ⟨k, rfl⟩ : ∃ m, k = m + 2 := ⟨k - 2, by omega⟩
  have hx : addT a b = if a + b > 1000000000 then 1000000000 else a + b := by unfold addT; rw [if_pos ha, if_pos (by omega)]; split <;> (try split) <;> omega
  have hxs : addT b a = addT a b := by
    rw [hx]
    unfold addT
    rw [if_pos hb, if_pos (by omega), Int.add_comm b a]
    split
    · rfl
    · rw [if_neg (by omega)]
  have hxr : 0 ≤ addT a b ∧ addT a b ≤ 1000000000 := by rw [hx]; split <;> omega
  have hxa : ¬ addT a b < a := by rw [hx]; split <;> omega
  have hxl : addT a b < 1000000000 → addT a b = a + b := by rw [hx]; split <;> omega
  have hneg : addT a (wrap64 (-b)) = sinceT b a := by
    rw [w64 (by omega) (by omega)]
    unfold addT sinceT
    simp only [ha, hb, and_self, if_true]
    rw [if_pos (by omega)]
    split <;> (try split) <;> (try split) <;> omega
  have hsi : addT a b < 1000000000 → sinceT a (addT a b) = b := fun h => by
    have := hxl h
    unfold sinceT
    simp only [ha, hxr, and_self, if_true]
    split <;> omega
  have hdue : dueT a b (addT a b) = decide (b > 0) := by
    unfold dueT
    simp only [ha, hb, hxr, and_self, if_true]
    split
    · rename_i h; simp [h]
    · rename_i h; simp [h]
  have hdue1 : addT a b > 0 → b > 0 → addT a b < 1000000000 → dueT a b (wrap64 (addT a b - 1)) = false := fun h1 h2 h3 => by
    rw [w64 (by omega) (by omega)]
    unfold dueT
    simp only [ha, hb, and_self, if_true]
    rw [if_pos (by omega), if_pos h2]
    simp
    omega
  have hj := ticks_j2 (k := k) (by omega) ha hb
  simp only [laws_FnTicks.j0, Bool.false_eq_true, if_false, impl_AddTick_eq, impl_TickOk_eq, Option.bind_some, decide_eq_true hxr, if_true, hxs, hxa, hneg, impl_Since_eq, bne_self_eq_false, laws_FnTicks.j1, impl_DueAt_eq, hdue]
  generalize addT a b = x at hx hxr hxa hxl hsi hdue hdue1 hj ⊢
  by_cases h1 : x < 1000000000
  · rw [if_pos h1, hsi h1, if_pos rfl]
    by_cases h2 : x > 0
    · rw [if_pos h2]
      by_cases h3 : b > 0
      · rw [if_pos h3, hdue1 h2 h3 h1]
        exact hj
      · rw [if_neg h3]; exact hj
    · rw [if_neg h2]; exact hj
  · rw [if_neg h1]
    by_cases h2 : x > 0
    · rw [if_pos h2]
      by_cases h3 : b > 0
      · rw [if_pos h3]; exact hj
      · rw [if_neg h3]; exact hj
    · rw [if_neg h2]; exact hj
theorem ticks_bad {k : Nat} (hk : 30 ≤ k) (a b : Int) : laws_FnTicks.j0 k a b true = some true := by
  obtain ⟨k, rfl⟩ : ∃ m, k = m + 1 := ⟨k - 1, by omega⟩
  simp only [laws_FnTicks.j0, if_true, impl_AddTick_eq, spec_AddTick_eq (k := k) (by omega), Option.bind_some, beq_self_eq_true]

theorem FnTicks : ∀ (l0 : List Int), l0.length ≤ maxLen → (∀ x ∈ l0, (Lit.int .u8 x).wf = true) → ∃ k, laws_FnTicks.f k l0 = some true := by
  intro l0 hm hw
  refine ⟨5000, ?_⟩
  unfold laws_FnTicks.f laws_big.f
  simp only [Option.bind_some]
  by_cases hb : (l0.length : Int) > 1048576
  · rw [decide_eq_true hb, if_pos rfl]
  · rw [decide_eq_false hb, if_neg (by simp)]
    obtain ⟨a, b, e⟩ := DrawSince_some (k := 5000) l0 (by omega) (by omega)
    simp only [e, Option.bind_some, spec_TickOk_eq]
    by_cases ha : 0 ≤ a ∧ a ≤ 1000000000
    · rw [decide_eq_true ha, if_pos rfl]
      by_cases hbt : 0 ≤ b ∧ b ≤ 1000000000
      · rw [decide_eq_true hbt]
        exact ticks_main (by omega) ha hbt
      · rw [decide_eq_false hbt]
        exact ticks_bad (by omega) a b
    · rw [decide_eq_false ha, if_neg (by simp)]
      exact ticks_bad (by omega) a b

end Go.Proofs.YtkbgphdepkjccaaDoor.Pure
