/-
  The law FnMarks answers true for all data: what is drawn out of them is played and marked as the reference does it, and the marks never fall. No condition.
-/
import Derived.Test.YtcflalomjehiiaaQFnMarksx10
import Derived.Laws.BitsAllLaws
import Derived.OpenShut
namespace Go.Proofs.Ytcflalomjehiiaa.Pure
open Go.RowKit Go.Proofs.Ytcflalomjehiiaa.QFnMarks Go.Proofs.YtcflalomjehiiaaW.PrintWords Go.Proofs.YtcflalomjehiiaaW.PrintLast Go.Proofs.YtcflalomjehiiaaW.PrintMore
set_option linter.unusedSimpArgs false
set_option linter.unusedVariables false

theorem w64 {x : Int} (h1 : -9223372036854775808 ≤ x) (h2 : x ≤ 9223372036854775807) : wrap64 x = x := by
  unfold wrap64; omega

theorem wi {i : Nat} (h : i < 4611686018427387904) : wrap64 ((i : Int) + 1) = ((i + 1 : Nat) : Int) := by
  unfold wrap64; omega

theorem bits255 (x : Int) : 0 ≤ Go.bits .and .i64 x 255 ∧ Go.bits .and .i64 x 255 ≤ 255 := by
  have e2 : (BitVec.ofInt 64 (255 : Int)).toNat = 255 := by decide
  have e : Go.bits .and .i64 x 255 = IntKind.i64.wrap (((BitVec.ofInt 64 x).toNat &&& 255 : Nat) : Int) := by
    show IntKind.i64.wrap ((BitVec.ofInt 64 x &&& BitVec.ofInt 64 255).toNat : Int) = _
    rw [BitVec.toNat_and, e2]
  have h : (BitVec.ofInt 64 x).toNat &&& 255 ≤ 255 := Nat.and_le_right
  rw [e, IntKind.wrap_i64]
  omega
theorem Byte_some {l : List Int} (hl : l.length ≤ 4611686018427387903) (p s : Int) (hp : 0 ≤ p) : ∃ b p' s', spec_l01Byte.f l p s = some (b, p', s') ∧ (0 ≤ b ∧ b ≤ 255) ∧ 0 ≤ p' := by
  unfold spec_l01Byte.f
  by_cases h : p < (l.length : Int)
  · rw [if_pos h, if_pos hp, w64 (x := p + 1) (by omega) (by omega)]
    exact ⟨_, _, _, rfl, bits255 _, by omega⟩
  · rw [if_neg h]
    exact ⟨_, _, _, rfl, bits255 _, hp⟩
theorem tmodB {v a : Int} (h0 : 0 ≤ v) (ha : 0 < a) : 0 ≤ Int.tmod v a ∧ Int.tmod v a < a := ⟨Int.tmod_nonneg _ h0, Int.tmod_lt_of_pos _ ha⟩
theorem Below_some {l : List Int} (hl : l.length ≤ 4611686018427387903) (p s a : Int) (hp : 0 ≤ p) : ∃ v p' s', spec_l01Below.f l p s a = some (v, p', s') ∧ (0 ≤ v ∧ (v < a ∨ v = 0)) ∧ (0 < a → v < a) ∧ 0 ≤ p' := by
  unfold spec_l01Below.f
  by_cases h : a ≤ 0
  · rw [if_pos h]
    exact ⟨_, _, _, rfl, ⟨by omega, .inr rfl⟩, by omega, hp⟩
  · rw [if_neg h]
    by_cases h2 : a ≤ 256
    · rw [if_pos h2]
      obtain ⟨b, p1, s1, e1, hb, hp1⟩ := Byte_some hl p s hp
      rw [e1, Option.bind_some, if_neg (by omega)]
      have := tmodB (v := b) (a := a) hb.1 (by omega)
      exact ⟨_, _, _, rfl, ⟨this.1, .inl this.2⟩, fun _ => this.2, hp1⟩
    · rw [if_neg h2]
      obtain ⟨b, p1, s1, e1, hb, hp1⟩ := Byte_some hl p s hp
      obtain ⟨b2, p2, s2, e2, hb2, hp2⟩ := Byte_some hl p1 s1 hp1
      obtain ⟨b3, p3, s3, e3, hb3, hp3⟩ := Byte_some hl p2 s2 hp2
      rw [e1, Option.bind_some]
      dsimp only
      rw [e2, Option.bind_some]
      dsimp only
      rw [e3, Option.bind_some, if_neg (by omega), w64 (x := b * 65536) (by omega) (by omega), w64 (x := b2 * 256) (by omega) (by omega), w64 (x := b * 65536 + b2 * 256) (by omega) (by omega), w64 (x := b * 65536 + b2 * 256 + b3) (by omega) (by omega)]
      have := tmodB (v := b * 65536 + b2 * 256 + b3) (a := a) (by omega) (by omega)
      exact ⟨_, _, _, rfl, ⟨this.1, .inl this.2⟩, fun _ => this.2, hp3⟩
theorem Once_some {l : List Int} (hl : l.length ≤ 4611686018427387903) (p s a : Int) (hp : 0 ≤ p) : ∃ v p' s', spec_l01Once.f l p s a = some (v, p', s') ∧ 0 ≤ p' := by
  obtain ⟨v, p1, s1, e, _, _, h⟩ := Below_some hl p s a hp
  unfold spec_l01Once.f
  rw [e, Option.bind_some]
  exact ⟨_, _, _, rfl, h⟩
theorem Pick_some {l : List Int} (hl : l.length ≤ 4611686018427387903) (p s : Int) (hp : 0 ≤ p) (c : List Int) (hc : 0 < c.length) : ∃ v p' s', spec_l01PickInt.f l p s c = some (v, p', s') ∧ 0 ≤ p' := by
  obtain ⟨v, p1, s1, e, h1, h2, h⟩ := Below_some hl p s (c.length : Int) hp
  unfold spec_l01PickInt.f
  rw [e, Option.bind_some, if_pos h1.1, if_pos (h2 (by omega))]
  exact ⟨_, _, _, rfl, h⟩
theorem New_l0 (l : List Int) : ∀ (d k i : Nat) (s : Int), i + d = 4000 → d < k → ∃ s', spec_l01New.l0 k l s (i : Int) = some (l, 0, s') := by
  intro d
  induction d with
  | zero =>
    intro k i s h hk
    obtain ⟨k, rfl⟩ : ∃ m, k = m + 1 := ⟨k - 1, by omega⟩
    simp only [spec_l01New.l0]
    rw [if_neg (c := (i : Int) < 4000) (by omega)]
    exact ⟨s, by split <;> rfl⟩
  | succ d ih =>
    intro k i s h hk
    obtain ⟨k, rfl⟩ : ∃ m, k = m + 1 := ⟨k - 1, by omega⟩
    simp only [spec_l01New.l0]
    rw [wi (by omega), if_pos (c := (i : Int) < 4000) (by omega), if_pos (c := 0 ≤ (i : Int)) (by omega)]
    by_cases h1 : (i : Int) < (l.length : Int)
    · rw [if_pos h1]
      exact ih k (i + 1) _ (by omega) (by omega)
    · rw [if_neg h1]
      exact ⟨s, rfl⟩
theorem New_some {k : Nat} (l : List Int) (hk : 4001 ≤ k) : ∃ s, spec_l01New.f k l = some (l, 0, s) := by
  unfold spec_l01New.f
  exact New_l0 l 4000 k 0 _ (by omega) (by omega)

theorem Size_some (l : List Int) : ∃ v, spec_l01Size.f l 40 = some v ∧ v ≤ 40 := by
  unfold spec_l01Size.f
  split
  · exact ⟨_, rfl, by omega⟩
  · exact ⟨_, rfl, by omega⟩

theorem DrawPlaySource_l0 {l : List Int} (hl : l.length ≤ 4611686018427387903) (n : Int) (hn : n ≤ 400) : ∀ (d k i : Nat) (rows : List (List Int)) (t p s : Int), i + d = 400 → d < k → 0 ≤ p → rows.length = i →
    ∃ r, spec_DrawPlaySource.l0 k rows n t (i : Int) l p s = some r := by
  intro d
  induction d with
  | zero =>
    intro k i rows t p s h hk hp hr
    obtain ⟨k, rfl⟩ : ∃ m, k = m + 1 := ⟨k - 1, by omega⟩
    simp only [spec_DrawPlaySource.l0]
    rw [if_neg (by omega)]
    obtain ⟨v1, p1, s1, e1, hp1⟩ := Pick_some hl p s hp [0, 3, 10, (-1)] (by simp)
    obtain ⟨v2, p2, s2, e2, hp2⟩ := Pick_some hl p1 s1 hp1 [0, 4, 10, (-1)] (by simp)
    simp only [e1, e2, Option.bind_some]
    exact ⟨_, rfl⟩
  | succ d ih =>
    intro k i rows t p s h hk hp hr
    obtain ⟨k, rfl⟩ : ∃ m, k = m + 1 := ⟨k - 1, by omega⟩
    simp only [spec_DrawPlaySource.l0]
    by_cases hlt : (i : Int) < n
    · rw [if_pos hlt]
      have cr : rows.length < 5864062014805 := by omega
      obtain ⟨v1, p1, s1, e1, _, _, hp1⟩ := Below_some hl p s 5 hp
      obtain ⟨v2, p2, s2, e2, hp2⟩ := Pick_some hl p1 s1 hp1 [0, 0, 0, 1, 2, 2] (by simp)
      obtain ⟨v3, p3, s3, e3, _, _, hp3⟩ := Below_some hl p2 s2 40 hp2
      obtain ⟨v4, p4, s4, e4, hp4⟩ := Once_some hl p3 s3 40 hp3
      obtain ⟨v5, p5, s5, e5, _, _, hp5⟩ := Below_some hl p4 s4 4 hp4
      obtain ⟨u1, q1, r1, g1, hq1⟩ := Pick_some hl p5 s5 hp5 [(-1), 3, 4] (by simp)
      obtain ⟨u2, q2, r2, g2, hq2⟩ := Pick_some hl p5 s5 hp5 [(-1), 1000000, 1000001] (by simp)
      obtain ⟨u3, q3, r3, g3, hq3⟩ := Pick_some hl p5 s5 hp5 [(-1), 0, 1000000001] (by simp)
      have step : ∀ (row : List Int) (t' p' s' : Int), 0 ≤ p' → ∃ r, spec_DrawPlaySource.l0 k (rows ++ [row]) n t' ((i + 1 : Nat) : Int) l p' s' = some r :=
        fun row t' p' s' hp' => ih k (i + 1) (rows ++ [row]) t' p' s' (by omega) (by omega) hp' (by rw [List.length_append, List.length_singleton]; omega)
      simp only [e1, e2, e3, e4, e5, g1, g2, g3, Option.bind_some, if_pos cr, wi (show i < 4611686018427387904 by omega), List.length_cons, List.length_nil]
      by_cases b : v4 = true
      · rw [if_pos b]
        (repeat' split) <;> first | (refine step _ _ _ _ ?_; assumption) | omega
      · rw [if_neg b]
        refine step _ _ _ _ ?_; assumption
    · rw [if_neg hlt]
      obtain ⟨v1, p1, s1, e1, hp1⟩ := Pick_some hl p s hp [0, 3, 10, (-1)] (by simp)
      obtain ⟨v2, p2, s2, e2, hp2⟩ := Pick_some hl p1 s1 hp1 [0, 4, 10, (-1)] (by simp)
      simp only [e1, e2, Option.bind_some]
      exact ⟨_, rfl⟩
theorem DrawPlaySource_some {k : Nat} {l : List Int} (hl : l.length ≤ 4611686018427387903) (hk : 4100 ≤ k) : ∃ r, spec_DrawPlaySource.f k l = some r := by
  obtain ⟨k, rfl⟩ : ∃ m, k = m + 1 := ⟨k - 1, by omega⟩
  unfold spec_DrawPlaySource.f
  obtain ⟨s, e0⟩ := New_some (k := k + 1) l (by omega)
  obtain ⟨z, e1, hz⟩ := Size_some l
  obtain ⟨v2, p2, s2, e2, _, _, hp2⟩ := Below_some hl 0 s z (by omega)
  obtain ⟨v3, p3, s3, e3, hp3⟩ := Once_some hl p2 s2 40 hp2
  obtain ⟨v4, p4, s4, e4, hv4, hv4', hp4⟩ := Below_some hl p3 s3 2 hp3
  simp only [e0, e1, e2, e3, e4, Option.bind_some, spec_DrawPlaySource.j0]
  by_cases b : v3 = true
  · rw [if_pos b, w64 (x := 300 + v4) (by have := hv4' (by omega); omega) (by have := hv4' (by omega); omega)]
    exact DrawPlaySource_l0 hl _ (by have := hv4' (by omega); omega) 400 k 0 _ _ _ _ (by omega) (by omega) hp4 rfl
  · rw [if_neg b]
    exact DrawPlaySource_l0 hl _ (by omega) 400 k 0 _ _ _ _ (by omega) (by omega) hp3 rfl

theorem spec_in_eq (a lo hi : Int) : spec_l01In.f a lo hi = some (decide (lo ≤ a ∧ a ≤ hi)) := by
  unfold spec_l01In.f; by_cases h : lo ≤ a <;> simp [h]

theorem spec_l04Mark_eq (a : Int) : spec_l04Mark.f a = some (decide ((-1) ≤ a ∧ a ≤ 1000000)) := by
  simp only [spec_l04Mark.f, spec_in_eq, Option.bind_some]

theorem spec_TickOk_eq (a : Int) : spec_TickOk.f a = some (decide (0 ≤ a ∧ a ≤ 1000000000)) := by
  simp only [spec_TickOk.f, spec_in_eq, Option.bind_some]

theorem impl_within_eq (a lo hi : Int) : impl_within.f a lo hi = some (decide (lo ≤ a ∧ a ≤ hi)) := by
  unfold impl_within.f; by_cases h : lo ≤ a <;> simp [h]

theorem impl_isMark_eq (a : Int) : impl_isMark.f a = some (decide ((-1) ≤ a ∧ a ≤ 1000000)) := by
  simp only [impl_isMark.f, impl_within_eq, Option.bind_some]

theorem impl_TickOk_eq (a : Int) : impl_TickOk.f a = some (decide (0 ≤ a ∧ a ≤ 1000000000)) := by
  simp only [impl_TickOk.f, impl_within_eq, Option.bind_some]

def srcOk (m k n : Int) : Bool := decide (-1 ≤ m ∧ m ≤ 1000000) && (decide (-1 ≤ k ∧ k ≤ 1000000) && decide (0 ≤ n ∧ n ≤ 1000000000))
theorem spec_SourceOk_eq (a b c : Int) (d e : Bool) : spec_SourceOk.f a b c d e = some (srcOk a b c) := by
  simp only [spec_SourceOk.f, spec_l04Mark_eq, spec_TickOk_eq, Option.bind_some, srcOk]
  by_cases h1 : -1 ≤ a ∧ a ≤ 1000000
  · by_cases h2 : -1 ≤ b ∧ b ≤ 1000000
    · simp [h1, h2]
    · simp [h1, h2]
  · simp [h1]
theorem impl_SourceOk_eq (a b c : Int) (d e : Bool) : impl_SourceOk.f a b c d e = some (srcOk a b c) := by
  simp only [impl_SourceOk.f, impl_isMark_eq, impl_TickOk_eq, Option.bind_some, srcOk]
  by_cases h1 : -1 ≤ a ∧ a ≤ 1000000
  · by_cases h2 : -1 ≤ b ∧ b ≤ 1000000
    · simp [h1, h2]
    · simp [h1, h2]
  · simp [h1]
theorem srcOk_iff (m k n : Int) : srcOk m k n = true ↔ (-1 ≤ m ∧ m ≤ 1000000) ∧ (-1 ≤ k ∧ k ≤ 1000000) ∧ 0 ≤ n ∧ n ≤ 1000000000 := by
  simp [srcOk]

theorem impl_isTime_eq (a : Int) : impl_isTime.f a = some (decide (0 ≤ a ∧ a ≤ 1000000)) := by
  simp only [impl_isTime.f, impl_within_eq, Option.bind_some]

def hearsB (a b c : Int) (e : Bool) (x y : Int) : Bool := srcOk a b c && (e && (decide (0 ≤ x ∧ x ≤ 1000000) && decide (c ≤ y ∧ y ≤ 1000000000)))
theorem spec_l04Fine_eq (a b c : Int) (d e : Bool) (x y : Int) : spec_l04Fine.f a b c d e x y = some (hearsB a b c e x y) := by
  simp only [spec_l04Fine.f, spec_SourceOk_eq, spec_in_eq, Option.bind_some, hearsB]
  cases srcOk a b c <;> cases e <;> by_cases h1 : 0 ≤ x ∧ x ≤ 1000000 <;> simp [h1]
theorem impl_hears_eq (a b c : Int) (d e : Bool) (x y : Int) : impl_Source_hears.f a b c d e x y = some (hearsB a b c e x y, a, b, c, d, e) := by
  simp only [impl_Source_hears.f, impl_SourceOk_eq, impl_isTime_eq, impl_TickOk_eq, Option.bind_some, hearsB]
  by_cases h0 : srcOk a b c = true
  · have hb := (srcOk_iff a b c).1 h0
    cases e
    · simp [h0]
    · by_cases h1 : 0 ≤ x ∧ x ≤ 1000000
      · by_cases h2 : 0 ≤ y ∧ y ≤ 1000000000
        · simp [h0, h1, h2]
        · have h3 : ¬ (c ≤ y ∧ y ≤ 1000000000) := by omega
          simp [h0, h1, h2, h3]
      · simp [h0, h1]
  · simp [h0]
theorem spec_l04More_eq (a b : Int) : spec_l04More.f a b = some (mx a b) := by
  unfold spec_l04More.f mx
  by_cases h : b > a
  · rw [if_pos h, if_pos (by omega)]
  · rw [if_neg h, if_neg (by omega)]

def seeMarkV (a b c : Int) (d e : Bool) (x y : Int) : Int × Int × Int × Bool × Bool × Bool :=
  if hearsB a b c e x y = true then (a, mx b x, y, false, e, true) else (a, b, c, d, e, false)
theorem spec_SeeMark_eq (a b c : Int) (d e : Bool) (x y : Int) : spec_SeeMark.f a b c d e x y = some (seeMarkV a b c d e x y) := by
  simp only [spec_SeeMark.f, spec_l04Fine_eq, spec_l04More_eq, Option.bind_some, seeMarkV]
  cases hearsB a b c e x y <;> simp
theorem impl_SeeMark_eq (a b c : Int) (d e : Bool) (x y : Int) : impl_SeeMark.f a b c d e x y = some (seeMarkV a b c d e x y) := by
  simp only [impl_SeeMark.f, impl_hears_eq, Option.bind_some, seeMarkV]
  cases hearsB a b c e x y <;> simp

def seeEventV (a b c : Int) (d e : Bool) (l x y : Int) : Int × Int × Int × Bool × Bool × Bool :=
  if hearsB a b c e x y = true then (if 0 ≤ l ∧ l ≤ 1000000 then (mx a x, mx b (wrap64 (wrap64 (mx a x - l) - 1)), y, false, e, true) else (a, b, c, d, e, false)) else (a, b, c, d, e, false)
theorem spec_SeeEvent_eq {k : Nat} (hk : 1 ≤ k) (a b c : Int) (d e : Bool) (l x y : Int) : spec_SeeEvent.f k a b c d e l x y = some (seeEventV a b c d e l x y) := by
  obtain ⟨k, rfl⟩ : ∃ m, k = m + 1 := ⟨k - 1, by omega⟩
  simp only [spec_SeeEvent.f, spec_l04Fine_eq, spec_in_eq, spec_SeeEvent.j0, spec_l04More_eq, Option.bind_some, seeEventV]
  cases hearsB a b c e x y <;> by_cases h : 0 ≤ l ∧ l ≤ 1000000 <;> simp [h]
theorem impl_SeeEvent_eq (a b c : Int) (d e : Bool) (l x y : Int) : impl_SeeEvent.f a b c d e l x y = some (seeEventV a b c d e l x y) := by
  simp only [impl_SeeEvent.f, impl_hears_eq, impl_isTime_eq, Option.bind_some, seeEventV]
  cases hearsB a b c e x y <;> by_cases h : 0 ≤ l ∧ l ≤ 1000000 <;> simp [h]

def addT (a b : Int) : Int :=
  if 0 ≤ a ∧ a ≤ 1000000000 then (if -1000000000 ≤ b ∧ b ≤ 1000000000 then (if a + b > 1000000000 then 1000000000 else if a + b < 0 then 0 else a + b) else -1) else -1

theorem spec_AddTick_eq {k : Nat} (hk : 1 ≤ k) (a b : Int) : spec_AddTick.f k a b = some (addT a b) := by
  obtain ⟨k, rfl⟩ : ∃ m, k = m + 1 := ⟨k - 1, by omega⟩
  unfold addT
  simp only [spec_AddTick.f, spec_TickOk_eq, spec_in_eq, Option.bind_some, spec_AddTick.j0]
  by_cases h1 : 0 ≤ a ∧ a ≤ 1000000000
  · by_cases h2 : -1000000000 ≤ b ∧ b ≤ 1000000000
    · rw [w64 (x := a + b) (by omega) (by omega)]
      simp only [h1, h2, and_self, decide_true, if_true, Bool.not_true, Bool.false_eq_true, if_false]
      by_cases h3 : a + b > 1000000000
      · rw [if_pos h3, if_pos h3]
      · rw [if_neg h3, if_neg h3]
        by_cases h4 : a + b < 0
        · rw [if_pos h4, if_pos h4]
        · rw [if_neg h4, if_neg h4]
    · simp [h1, h2]
  · simp [h1]

def dueT (a b c : Int) : Bool :=
  if 0 ≤ a ∧ a ≤ 1000000000 then (if 0 ≤ b ∧ b ≤ 1000000000 then (if 0 ≤ c ∧ c ≤ 1000000000 then (if b > 0 then decide (addT a b ≤ c) else false) else false) else false) else false

theorem spec_DueAt_eq {k : Nat} (hk : 1 ≤ k) (a b c : Int) : spec_DueAt.f k a b c = some (dueT a b c) := by
  unfold dueT
  simp only [spec_DueAt.f, spec_TickOk_eq, spec_AddTick_eq hk, Option.bind_some]
  by_cases h1 : 0 ≤ a ∧ a ≤ 1000000000
  · by_cases h2 : 0 ≤ b ∧ b ≤ 1000000000
    · by_cases h3 : 0 ≤ c ∧ c ≤ 1000000000
      · by_cases h4 : b > 0
        · simp [h1, h2, h3, h4]
        · simp [h1, h2, h3, h4]
      · simp [h1, h2, h3]
    · simp [h1, h2]
  · simp [h1]

theorem impl_AddTick_eq (a b : Int) : impl_AddTick.f a b = some (addT a b) := by
  unfold addT
  simp only [impl_AddTick.f, impl_TickOk_eq, impl_within_eq, Option.bind_some]
  by_cases h1 : 0 ≤ a ∧ a ≤ 1000000000
  · by_cases h2 : -1000000000 ≤ b ∧ b ≤ 1000000000
    · rw [w64 (x := a + b) (by omega) (by omega)]
      simp only [h1, h2, and_self, decide_true, if_true]
      congr 1
      unfold mn mx
      (repeat' split) <;> omega
    · simp [h1, h2]
  · simp [h1]

theorem impl_DueAt_eq (a b c : Int) : impl_DueAt.f a b c = some (dueT a b c) := by
  unfold dueT
  simp only [impl_DueAt.f, impl_TickOk_eq, impl_AddTick_eq, Option.bind_some]
  by_cases h1 : 0 ≤ a ∧ a ≤ 1000000000
  · by_cases h2 : 0 ≤ b ∧ b ≤ 1000000000
    · by_cases h3 : 0 ≤ c ∧ c ≤ 1000000000
      · by_cases h4 : b > 0
        · simp [h1, h2, h3, h4]
        · simp [h1, h2, h3, h4]
      · simp [h1, h2, h3]
    · simp [h1, h2]
  · simp [h1]

theorem SeeTick_eq {k : Nat} (hk : 2 ≤ k) (a b c : Int) (d e : Bool) (x y : Int) : spec_SeeTick.f k a b c d e x y = impl_SeeTick.f a b c d e x y := by
  obtain ⟨k, rfl⟩ : ∃ m, k = m + 1 := ⟨k - 1, by omega⟩
  simp only [spec_SeeTick.f, impl_SeeTick.f, spec_SourceOk_eq, impl_SourceOk_eq, spec_TickOk_eq, Option.bind_some, spec_SeeTick.j0, spec_DueAt_eq (show 1 ≤ k by omega), impl_DueAt_eq]
  cases srcOk a b c
  · simp
  · by_cases h1 : 0 ≤ x ∧ x ≤ 1000000000
    · by_cases h2 : 0 ≤ y ∧ y ≤ 1000000000
      · simp [h1, h2]
      · have h3 : dueT c x y = false := by unfold dueT; simp [h1, h2]
        simp [h1, h2, h3]
    · have h3 : dueT c x y = false := by unfold dueT; simp [h1]
      simp [h1, h3]
theorem impl_SeeTick_some (a b c : Int) (d e : Bool) (x y : Int) : ∃ p q r s t u, impl_SeeTick.f a b c d e x y = some (p, q, r, s, t, u) := by
  simp only [impl_SeeTick.f, impl_SourceOk_eq, impl_DueAt_eq, Option.bind_some]
  (repeat' split) <;> exact ⟨_, _, _, _, _, _, rfl⟩

def closeV (a b c : Int) (d e : Bool) : Int × Int × Int × Bool × Bool × Bool := if srcOk a b c = true then (if e = true then (a, b, c, false, false, true) else (a, b, c, d, e, false)) else (a, b, c, d, e, false)
theorem spec_CloseSource_eq (a b c : Int) (d e : Bool) : spec_CloseSource.f a b c d e = some (closeV a b c d e) := by
  simp only [spec_CloseSource.f, spec_SourceOk_eq, Option.bind_some, closeV]
  (repeat' split) <;> rfl
theorem impl_CloseSource_eq (a b c : Int) (d e : Bool) : impl_CloseSource.f a b c d e = some (closeV a b c d e) := by
  simp only [impl_CloseSource.f, impl_SourceOk_eq, Option.bind_some, closeV]
  (repeat' split) <;> rfl

def stepM (o : Option Int) (x : Int) : Option Int := o.bind fun m => if x = -2 then some m else if x < m then none else some x
def seqM (l : List Int) : Option Int := l.foldl stepM (some (-1))
def InvM (l : List Int) (b : Int) : Prop := ∃ m, seqM l = some m ∧ m ≤ b
theorem InvM.skip {l : List Int} {b b' : Int} (h : InvM l b) (hb : b ≤ b') : InvM (l ++ [-2]) b' := by
  obtain ⟨m, e, hm⟩ := h
  exact ⟨m, by simp [seqM, List.foldl_append] at e ⊢; rw [e]; simp [stepM], by omega⟩
theorem InvM.push {l : List Int} {b b' : Int} (h : InvM l b) (hb : b ≤ b') : InvM (l ++ [b']) b' := by
  obtain ⟨m, e, hm⟩ := h
  have e2 : seqM (l ++ [b']) = stepM (some m) b' := by
    simp only [seqM, List.foldl_append, List.foldl_cons, List.foldl_nil] at e ⊢
    rw [e]
  rw [InvM, e2]
  by_cases h2 : b' = -2
  · exact ⟨m, by simp [stepM, h2], by omega⟩
  · exact ⟨b', by simp only [stepM, Option.bind_some]; rw [if_neg h2, if_neg (by omega)], by omega⟩
theorem le_mx (a b : Int) : a ≤ mx a b := by unfold mx; split <;> omega
theorem SeeTick_both (a b c : Int) (d e : Bool) (x y : Int) : ∃ r s t u, (∀ k, 2 ≤ k → spec_SeeTick.f k a b c d e x y = some (a, b, r, s, t, u)) ∧ impl_SeeTick.f a b c d e x y = some (a, b, r, s, t, u) := by
  have h : ∃ r s t u, impl_SeeTick.f a b c d e x y = some (a, b, r, s, t, u) := by
    simp only [impl_SeeTick.f, impl_SourceOk_eq, impl_DueAt_eq, Option.bind_some]
    (repeat' split) <;> exact ⟨_, _, _, _, rfl⟩
  obtain ⟨r, s, t, u, h⟩ := h
  exact ⟨r, s, t, u, fun k hk => by rw [SeeTick_eq hk, h], h⟩
abbrev PlayR := Int × Int × Int × Bool × Bool × List Int
theorem PlaySource_l0 (x y : Int) (rows : List (List Int)) (hn : rows.length ≤ 300) : ∀ (n k i : Nat) (acc : List Int) (a b c : Int) (d e : Bool), i + n = rows.length → 20 + n ≤ k → acc.length = i → InvM acc b →
    ∃ r : PlayR, spec_PlaySource.l0 k x y rows acc (i : Int) a b c d e = some r ∧ impl_PlaySource.l0 k x y acc rows (rows.length : Int) (i : Int) a b c d e = some r ∧ (∃ m, seqM r.2.2.2.2.2 = some m) ∧ r.2.2.2.2.2.length ≤ 300 := by
  intro n
  induction n with
  | zero =>
    intro k i acc a b c d e h hk ha hi
    obtain ⟨k, rfl⟩ : ∃ m, k = m + 1 := ⟨k - 1, by omega⟩
    simp only [spec_PlaySource.l0, impl_PlaySource.l0]
    rw [if_neg (by omega), if_neg (by omega)]
    obtain ⟨m, em, _⟩ := hi
    exact ⟨_, rfl, rfl, ⟨m, em⟩, by show acc.length ≤ 300; omega⟩
  | succ n ih =>
    intro k i acc a b c d e h hk ha hi
    obtain ⟨k, rfl⟩ : ∃ m, k = m + 1 := ⟨k - 1, by omega⟩
    have c1 : (i : Int) < (rows.length : Int) := by omega
    have c2 : 0 ≤ (i : Int) := by omega
    have c3 : acc.length < 17592186044416 := by omega
    generalize hrow : rd_L2 rows (i : Int) = row
    obtain ⟨t1, t2, t3, t4, u1, u2⟩ := SeeTick_both a b c d e y (rd row 2)
    have u1 := u1 k (by omega)
    have step : ∀ (m : Int) (a' b' c' : Int) (d' e' : Bool), InvM (acc ++ [m]) b' → ∃ r : PlayR, spec_PlaySource.l0 k x y rows (acc ++ [m]) ((i + 1 : Nat) : Int) a' b' c' d' e' = some r ∧ impl_PlaySource.l0 k x y (acc ++ [m]) rows (rows.length : Int) ((i + 1 : Nat) : Int) a' b' c' d' e' = some r ∧ (∃ m, seqM r.2.2.2.2.2 = some m) ∧ r.2.2.2.2.2.length ≤ 300 :=
      fun m a' b' c' d' e' hI => ih k (i + 1) (acc ++ [m]) a' b' c' d' e' (by omega) (by omega) (by rw [List.length_append, List.length_singleton]; omega) hI
    have hE : b ≤ (seeEventV a b c d e x (rd row 1) (rd row 2)).2.1 := by
      unfold seeEventV
      (repeat' split) <;> first | exact le_mx _ _ | exact Int.le_refl _
    have hM : b ≤ (seeMarkV a b c d e (rd row 1) (rd row 2)).2.1 := by
      unfold seeMarkV
      (repeat' split) <;> first | exact le_mx _ _ | exact Int.le_refl _
    have hC : b ≤ (closeV a b c d e).2.1 := by
      unfold closeV
      (repeat' split) <;> exact Int.le_refl _
    simp only [spec_PlaySource.l0, impl_PlaySource.l0, hrow, if_pos c1, if_pos c2, if_pos c3, u1, u2, spec_SeeEvent_eq (show 1 ≤ k by omega), impl_SeeEvent_eq, spec_SeeMark_eq, impl_SeeMark_eq, spec_CloseSource_eq, impl_CloseSource_eq, Option.bind_some, wi (show i < 4611686018427387904 by omega)]
    by_cases h3 : (row.length : Int) = 3
    · have l0 : 0 < (row.length : Int) := by omega
      have l1 : 1 < (row.length : Int) := by omega
      have l2 : 2 < (row.length : Int) := by omega
      simp only [if_pos h3, if_pos l0, if_pos l1, if_pos l2]
      by_cases k0 : rd row 0 = 0
      · simp only [if_pos k0]
        by_cases b0 : (seeEventV a b c d e x (rd row 1) (rd row 2)).2.2.2.2.2 = true
        · simp only [if_pos b0]; exact step _ _ _ _ _ _ (hi.push hE)
        · simp only [if_neg b0]; exact step _ _ _ _ _ _ (hi.skip hE)
      · simp only [if_neg k0]
        by_cases k1 : rd row 0 = 1
        · simp only [if_pos k1]
          by_cases b0 : (seeMarkV a b c d e (rd row 1) (rd row 2)).2.2.2.2.2 = true
          · simp only [if_pos b0]; exact step _ _ _ _ _ _ (hi.push hM)
          · simp only [if_neg b0]; exact step _ _ _ _ _ _ (hi.skip hM)
        · simp only [if_neg k1]
          by_cases k2 : rd row 0 = 2
          · simp only [if_pos k2]
            by_cases b0 : t4 = true
            · simp only [if_pos b0]; exact step _ _ _ _ _ _ (hi.push (Int.le_refl _))
            · simp only [if_neg b0]; exact step _ _ _ _ _ _ (hi.skip (Int.le_refl _))
          · simp only [if_neg k2]
            by_cases k3 : rd row 0 = 3
            · simp only [if_pos k3]
              by_cases b0 : (closeV a b c d e).2.2.2.2.2 = true
              · simp only [if_pos b0]; exact step _ _ _ _ _ _ (hi.push hC)
              · simp only [if_neg b0]; exact step _ _ _ _ _ _ (hi.skip hC)
            · simp only [if_neg k3]; exact step _ _ _ _ _ _ (hi.skip (Int.le_refl _))
    · simp only [if_neg h3]; exact step _ _ _ _ _ _ (hi.skip (Int.le_refl _))
theorem PlaySource_both (x y : Int) (rows : List (List Int)) : ∃ r : PlayR, (∀ k, 400 ≤ k → spec_PlaySource.f k x y rows = some r) ∧ (∀ k, 400 ≤ k → impl_PlaySource.f k x y rows = some r) ∧ (∃ m, seqM r.2.2.2.2.2 = some m) ∧ r.2.2.2.2.2.length ≤ 300 := by
  suffices hh : ∃ r : PlayR, spec_PlaySource.f 400 x y rows = some r ∧ impl_PlaySource.f 400 x y rows = some r ∧ (∃ m, seqM r.2.2.2.2.2 = some m) ∧ r.2.2.2.2.2.length ≤ 300 by
    obtain ⟨r, e1, e2, e3⟩ := hh
    exact ⟨r, fun k hk => at_rounds (fun k => spec_PlaySource.mono x y rows k) hk e1, fun k hk => at_rounds (fun k => impl_PlaySource.mono x y rows k) hk e2, e3⟩
  have n1 : spec_NewSource.f 0 = some (-1, -1, 0, false, true, true) := by simp [spec_NewSource.f, spec_TickOk_eq]
  have n2 : impl_NewSource.f 0 = some (-1, -1, 0, false, true, true) := by simp [impl_NewSource.f, impl_TickOk_eq]
  simp only [spec_PlaySource.f, impl_PlaySource.f, n1, n2, Option.bind_some]
  by_cases h : (rows.length : Int) > 300
  · simp only [if_pos h]
    exact ⟨_, rfl, rfl, ⟨-1, rfl⟩, by simp⟩
  · simp only [if_neg h]
    exact PlaySource_l0 x y rows (by omega) rows.length 400 0 [] (-1) (-1) 0 false true (by omega) (by omega) rfl ⟨-1, rfl, by omega⟩

theorem same_l0 (x : List Int) (hn : x.length ≤ 1048576) : ∀ (d k i : Nat), i + d = x.length → d < k → laws_same.l0 k x x (i : Int) = some true := by
  intro d
  induction d with
  | zero =>
    intro k i h hk
    obtain ⟨k, rfl⟩ : ∃ m, k = m + 1 := ⟨k - 1, by omega⟩
    simp only [laws_same.l0]
    rw [if_neg (by omega)]
  | succ d ih =>
    intro k i h hk
    obtain ⟨k, rfl⟩ : ∃ m, k = m + 1 := ⟨k - 1, by omega⟩
    simp only [laws_same.l0, if_true]
    rw [if_pos (by omega), if_pos (by omega), if_pos (by omega), wi (by omega)]
    exact ih k (i + 1) (by omega) (by omega)
theorem same_refl {k : Nat} {x : List Int} (hn : x.length ≤ 1048576) (hk : x.length < k) : laws_same.f k x x = some true := by
  unfold laws_same.f
  rw [if_pos rfl]
  exact same_l0 x hn x.length k 0 (by omega) hk

theorem alt_l0 (x : List Int) : ∀ (d k i : Nat) (acc : List Int), i + d = 3000 → d < k → acc.length ≤ i + 1 → ∃ r, laws_alt.l0 k x acc (i : Int) = some r ∧ r.length ≤ 3001 := by
  intro d
  induction d with
  | zero =>
    intro k i acc h hk ha
    obtain ⟨k, rfl⟩ : ∃ m, k = m + 1 := ⟨k - 1, by omega⟩
    simp only [laws_alt.l0]
    rw [if_neg (c := (i : Int) < 3000) (by omega)]
    exact ⟨acc, by split <;> rfl, by omega⟩
  | succ d ih =>
    intro k i acc h hk ha
    obtain ⟨k, rfl⟩ : ∃ m, k = m + 1 := ⟨k - 1, by omega⟩
    simp only [laws_alt.l0]
    rw [wi (by omega), if_pos (c := (i : Int) < 3000) (by omega), if_pos (c := 0 ≤ (i : Int)) (by omega), if_pos (c := acc.length < _) (by omega)]
    by_cases h1 : (i : Int) < (x.length : Int)
    · rw [if_pos h1]
      exact ih k (i + 1) _ (by omega) (by omega) (by rw [List.length_append, List.length_singleton]; omega)
    · rw [if_neg h1]
      exact ⟨acc, rfl, by omega⟩
theorem alt_some {k : Nat} (x : List Int) (a : Int) (hk : 3001 ≤ k) : ∃ r, laws_alt.f k x a = some r ∧ r.length ≤ 3001 := by
  unfold laws_alt.f
  exact alt_l0 x 3000 k 0 _ (by omega) (by omega) (by simp)

theorem DrawSource_some {k : Nat} {l : List Int} (hl : l.length ≤ 4611686018427387903) (p s : Int) (hp : 0 ≤ p) (hk : 1 ≤ k) : ∃ a b c d e p' s', spec_l04DrawSource.f k l p s = some (a, b, c, d, e, p', s') ∧ 0 ≤ p' := by
  obtain ⟨k, rfl⟩ : ∃ m, k = m + 1 := ⟨k - 1, by omega⟩
  have key : ∀ (a b c : Int) (d e : Bool) (p s : Int), 0 ≤ p → ∃ a' b' c' d' e' p' s', spec_l04DrawSource.j0 (k + 1) l p s a b c d e = some (a', b', c', d', e', p', s') ∧ 0 ≤ p' := by
    intro a b c d e p s hp
    obtain ⟨v1, p1, s1, e1, hp1⟩ := Once_some hl p s 15 hp
    obtain ⟨v2, p2, s2, e2, _, _, hp2⟩ := Below_some hl p1 s1 3 hp1
    obtain ⟨v3, p3, s3, e3, hp3⟩ := Pick_some hl p2 s2 hp2 [(-2), 1000000, 1000001] (by simp)
    obtain ⟨v4, p4, s4, e4, hp4⟩ := Pick_some hl p2 s2 hp2 [(-1), 1000000000, 1000000001] (by simp)
    simp only [spec_l04DrawSource.j0, e1, e2, e3, e4, Option.bind_some]
    (repeat' split) <;> (refine ⟨_, _, _, _, _, _, _, rfl, ?_⟩; assumption)
  unfold spec_l04DrawSource.f
  obtain ⟨v1, p1, s1, e1, _, _, hp1⟩ := Below_some hl p s 60 hp
  obtain ⟨v2, p2, s2, e2, _, _, hp2⟩ := Below_some hl p1 s1 50 hp1
  obtain ⟨v3, p3, s3, e3, hp3⟩ := Once_some hl p2 s2 4 hp2
  obtain ⟨v4, p4, s4, e4, hp4⟩ := Once_some hl p3 s3 6 hp3
  obtain ⟨v5, p5, s5, e5, _, _, hp5⟩ := Below_some hl p4 s4 10 hp4
  simp only [e1, e2, e3, e4, e5, Option.bind_some]
  split <;> exact key _ _ _ _ _ _ _ hp5
theorem DrawAllMarks_l1 {l : List Int} (hl : l.length ≤ 4611686018427387903) : ∀ (d k : Nat) (rows : List S72) (p s : Int), rows.length + d = 302 → d < k → 0 ≤ p → ∃ r, spec_DrawAllMarks.l1 k rows l p s = some r := by
  intro d
  induction d with
  | zero =>
    intro k rows p s h hk hp
    obtain ⟨k, rfl⟩ : ∃ m, k = m + 1 := ⟨k - 1, by omega⟩
    obtain ⟨v1, p1, s1, e1, b1, c1, hp1⟩ := Below_some hl p s 2 hp
    obtain ⟨v2, p2, s2, e2, _, _, hp2⟩ := Below_some hl p1 s1 40 hp1
    obtain ⟨v3, p3, s3, e3, hp3⟩ := Pick_some hl p2 s2 hp2 [(-1), 0, v2, 1000000, 1000001, (-2)] (by simp)
    have c1 := c1 (by omega)
    simp only [spec_DrawAllMarks.l1, e1, e2, e3, Option.bind_some]
    rw [w64 (x := 300 + v1) (by omega) (by omega), if_neg (by omega)]
    exact ⟨_, rfl⟩
  | succ d ih =>
    intro k rows p s h hk hp
    obtain ⟨k, rfl⟩ : ∃ m, k = m + 1 := ⟨k - 1, by omega⟩
    obtain ⟨v1, p1, s1, e1, b1, c1, hp1⟩ := Below_some hl p s 2 hp
    obtain ⟨v2, p2, s2, e2, _, _, hp2⟩ := Below_some hl p1 s1 40 hp1
    obtain ⟨v3, p3, s3, e3, hp3⟩ := Pick_some hl p2 s2 hp2 [(-1), 0, v2, 1000000, 1000001, (-2)] (by simp)
    have c1 := c1 (by omega)
    simp only [spec_DrawAllMarks.l1, e1, e2, e3, Option.bind_some]
    rw [w64 (x := 300 + v1) (by omega) (by omega), if_pos (c := rows.length < _) (by omega)]
    by_cases g : (rows.length : Int) < 300 + v1
    · rw [if_pos g]
      exact ih k _ _ _ (by rw [List.length_append, List.length_singleton]; omega) (by omega) hp1
    · rw [if_neg g]
      exact ⟨_, rfl⟩
theorem DrawAllMarks_l0 {l : List Int} (hl : l.length ≤ 4611686018427387903) : ∀ (d k : Nat) (rows : List S72) (p s : Int), d + 400 ≤ k → 0 ≤ p → rows.length + d ≤ 300 → ∃ r, spec_DrawAllMarks.l0 k rows (d : Int) l p s = some r := by
  intro d
  induction d with
  | zero =>
    intro k rows p s hk hp hr
    obtain ⟨k, rfl⟩ : ∃ m, k = m + 1 := ⟨k - 1, by omega⟩
    obtain ⟨v1, p1, s1, e1, hp1⟩ := Once_some hl p s 40 hp
    obtain ⟨v2, p2, s2, e2, _, _, hp2⟩ := Below_some hl p1 s1 40 hp1
    obtain ⟨v3, p3, s3, e3, hp3⟩ := Pick_some hl p2 s2 hp2 [(-1), 0, v2, 1000000, 1000001, (-2)] (by simp)
    simp only [spec_DrawAllMarks.l0, e1, e2, e3, Option.bind_some]
    rw [if_neg (by omega)]
    split
    · exact DrawAllMarks_l1 hl (302 - rows.length) k rows _ _ (by omega) (by omega) hp1
    · exact ⟨_, rfl⟩
  | succ d ih =>
    intro k rows p s hk hp hr
    obtain ⟨k, rfl⟩ : ∃ m, k = m + 1 := ⟨k - 1, by omega⟩
    obtain ⟨a, b, c, e, f, p1, s1, e1, hp1⟩ := DrawSource_some (k := k) hl p s hp (by omega)
    simp only [spec_DrawAllMarks.l0, e1, Option.bind_some]
    rw [if_pos (by omega), if_pos (c := rows.length < _) (by omega), w64 (x := ((d + 1 : Nat) : Int) - 1) (by omega) (by omega), show ((d + 1 : Nat) : Int) - 1 = (d : Int) by omega]
    exact ih k _ _ _ (by omega) hp1 (by rw [List.length_append, List.length_singleton]; omega)
theorem DrawAllMarks_some {k : Nat} {l : List Int} (hl : l.length ≤ 4611686018427387903) (hk : 5000 ≤ k) : ∃ r, spec_DrawAllMarks.f k l = some r := by
  unfold spec_DrawAllMarks.f
  obtain ⟨s, e0⟩ := New_some (k := k) l (by omega)
  obtain ⟨v, p1, s1, e1, h1, h2, hp1⟩ := Below_some hl 0 s 5 (by omega)
  have h2 := h2 (by omega)
  simp only [e0, e1, Option.bind_some]
  have := DrawAllMarks_l0 hl v.toNat k [] p1 s1 (by omega) hp1 (by simp; omega)
  rw [show ((v.toNat : Nat) : Int) = v by omega] at this
  exact this

theorem AllMarks_l0_eq (l : List S72) (last : Int) : ∀ (k : Nat) (m : Int) (f : Bool) (i : Int), (f = true → m ≤ 1000000) →
    impl_AllMarks.l0 k last m f l (l.length : Int) i = spec_AllMarks.l0 k l last (if f = true then m else 1000001) i := by
  intro k
  induction k with
  | zero => intro m f i h; rfl
  | succ k ih =>
    intro m f i h
    simp only [impl_AllMarks.l0, spec_AllMarks.l0, impl_SourceOk_eq, spec_SourceOk_eq, Option.bind_some]
    by_cases h1 : i < (l.length : Int)
    · by_cases h2 : 0 ≤ i
      · rw [if_pos h1, if_pos h2, if_pos h1, if_pos h1, if_pos h2]
        generalize rd_T72 l i = s
        by_cases h3 : srcOk s.f0 s.f1 s.f2 = true
        · have hs := (srcOk_iff _ _ _).1 h3
          rw [if_pos h3, if_pos h3]
          by_cases h4 : s.f4 = true
          · rw [if_pos h4, if_pos h4]
            by_cases h5 : s.f3 = true
            · rw [if_pos h5, if_pos h5, ih m f _ h]
            · rw [if_neg h5, if_neg h5]
              cases f
              · simp only [Bool.false_eq_true, if_false]
                rw [if_pos (by omega), ih s.f1 true _ (fun _ => by omega), if_pos rfl]
              · simp only [if_true]
                by_cases h6 : s.f1 < m
                · rw [if_pos h6, if_pos h6, ih s.f1 true _ (fun _ => by omega), if_pos rfl]
                · rw [if_neg h6, if_neg h6, ih m true _ h, if_pos rfl]
          · rw [if_neg h4, if_neg h4, ih m f _ h]
        · rw [if_neg h3, if_neg h3]
      · rw [if_pos h1, if_neg h2, if_pos h1, if_neg h2]
    · rw [if_neg h1, if_neg h1]
      cases f
      · simp
      · have hm := h rfl
        simp only [if_true]
        rw [if_neg (by omega)]
        unfold mx
        by_cases h3 : m < last
        · rw [if_pos h3, if_pos h3]
        · rw [if_neg h3, if_neg h3]
theorem spec_AllMarks_l0_some (l : List S72) (last : Int) (hn : l.length ≤ 300) : ∀ (d k i : Nat) (m : Int), i + d = l.length → d < k → ∃ r, spec_AllMarks.l0 k l last m (i : Int) = some r := by
  intro d
  induction d with
  | zero =>
    intro k i m h hk
    obtain ⟨k, rfl⟩ : ∃ m, k = m + 1 := ⟨k - 1, by omega⟩
    simp only [spec_AllMarks.l0]
    rw [if_neg (by omega)]
    (repeat' split) <;> exact ⟨_, rfl⟩
  | succ d ih =>
    intro k i m h hk
    obtain ⟨k, rfl⟩ : ∃ m, k = m + 1 := ⟨k - 1, by omega⟩
    simp only [spec_AllMarks.l0, spec_SourceOk_eq, Option.bind_some]
    rw [if_pos (by omega), if_pos (by omega), wi (by omega)]
    (repeat' split) <;> first | exact ih k (i + 1) _ (by omega) (by omega) | exact ⟨_, rfl⟩
theorem AllMarks_both {k : Nat} (l : List S72) (last : Int) (hk : 400 ≤ k) : ∃ r, spec_AllMarks.f k l last = some r ∧ impl_AllMarks.f k l last = some r := by
  obtain ⟨k, rfl⟩ : ∃ m, k = m + 1 := ⟨k - 1, by omega⟩
  simp only [spec_AllMarks.f, impl_AllMarks.f, spec_l04Mark_eq, impl_isMark_eq, spec_AllMarks.j0, impl_AllMarks.j0, Option.bind_some, AllMarks_l0_eq l last k 0 false 0 (fun h => by cases h)]
  by_cases h1 : -1 ≤ last ∧ last ≤ 1000000
  · by_cases h2 : (l.length : Int) > 300
    · exact ⟨-2, by simp [h1, h2], by simp [h1, h2]⟩
    · obtain ⟨r, hr⟩ := spec_AllMarks_l0_some l last (by omega) l.length k 0 1000001 (by omega) (by omega)
      refine ⟨r, ?_, ?_⟩
      · simp [h1, h2]; exact hr
      · simp [h1, h2]; exact hr
  · exact ⟨-2, by simp [h1], by simp [h1]⟩

def openAt (l : List S72) (r : Int) (i : Nat) : Prop := ∀ j : Nat, i ≤ j → j < l.length → (rd_T72 l (j : Int)).f4 = true → ¬ (rd_T72 l (j : Int)).f3 = true → r ≤ (rd_T72 l (j : Int)).f1
theorem AllMarks_fact (l : List S72) (last : Int) (hn : l.length ≤ 300) : ∀ (d k i : Nat) (m r : Int), i + d = l.length → d < k → spec_AllMarks.l0 k l last m (i : Int) = some r →
    r = -2 ∨ (last ≤ r ∧ (r ≤ last ∨ (r ≤ m ∧ openAt l r i))) := by
  intro d
  induction d with
  | zero =>
    intro k i m r h hk e
    obtain ⟨k, rfl⟩ : ∃ m, k = m + 1 := ⟨k - 1, by omega⟩
    simp only [spec_AllMarks.l0] at e
    rw [if_neg (by omega)] at e
    right
    (repeat' split at e) <;> obtain rfl := Option.some.inj e
    · exact ⟨by omega, .inl (by omega)⟩
    · exact ⟨by omega, .inl (by omega)⟩
    · exact ⟨by omega, .inr ⟨by omega, fun j h1 h2 => by omega⟩⟩
  | succ d ih =>
    intro k i m r h hk e
    obtain ⟨k, rfl⟩ : ∃ m, k = m + 1 := ⟨k - 1, by omega⟩
    simp only [spec_AllMarks.l0, spec_SourceOk_eq, Option.bind_some] at e
    rw [if_pos (by omega), if_pos (by omega), wi (by omega)] at e
    have more : ∀ (m' : Int), spec_AllMarks.l0 k l last m' ((i + 1 : Nat) : Int) = some r → (∀ r', r' ≤ m' → r' ≤ m) → ((rd_T72 l (i : Int)).f4 = true → ¬ (rd_T72 l (i : Int)).f3 = true → m' ≤ (rd_T72 l (i : Int)).f1) → r = -2 ∨ (last ≤ r ∧ (r ≤ last ∨ (r ≤ m ∧ openAt l r i))) := by
      intro m' e' hm hf
      rcases ih k (i + 1) m' r (by omega) (by omega) e' with h1 | ⟨h1, h2 | ⟨h2, h3⟩⟩
      · exact .inl h1
      · exact .inr ⟨h1, .inl h2⟩
      · refine .inr ⟨h1, .inr ⟨hm r h2, ?_⟩⟩
        intro j j1 j2 j3 j4
        by_cases ej : i = j
        · subst ej
          have := hf j3 j4
          omega
        · exact h3 j (by omega) j2 j3 j4
    by_cases g1 : srcOk (rd_T72 l (i : Int)).f0 (rd_T72 l (i : Int)).f1 (rd_T72 l (i : Int)).f2 = true
    · rw [if_pos g1] at e
      by_cases g2 : (rd_T72 l (i : Int)).f4 = true
      · rw [if_pos g2] at e
        by_cases g3 : (rd_T72 l (i : Int)).f3 = true
        · rw [if_pos g3] at e
          exact more m e (fun _ h => h) (fun _ hh => absurd g3 hh)
        · rw [if_neg g3] at e
          by_cases g4 : (rd_T72 l (i : Int)).f1 < m
          · rw [if_pos g4] at e
            exact more _ e (fun _ h => by omega) (fun _ _ => Int.le_refl _)
          · rw [if_neg g4] at e
            exact more _ e (fun _ h => h) (fun _ _ => by omega)
      · rw [if_neg g2] at e
        exact more m e (fun _ h => h) (fun hh => absurd hh g2)
    · rw [if_neg g1] at e
      exact .inl (Option.some.inj e).symm
theorem AllMarks_both2 (l : List S72) (last : Int) : ∃ r, (∀ k, 400 ≤ k → spec_AllMarks.f k l last = some r) ∧ (∀ k, 400 ≤ k → impl_AllMarks.f k l last = some r) ∧ (r = -2 ∨ (l.length ≤ 300 ∧ last ≤ r ∧ (r ≤ last ∨ openAt l r 0))) := by
  obtain ⟨r, e1, e2⟩ := AllMarks_both (k := 400) l last (Nat.le_refl _)
  refine ⟨r, fun k hk => at_rounds (fun k => spec_AllMarks.mono l last k) hk e1, fun k hk => at_rounds (fun k => impl_AllMarks.mono l last k) hk e2, ?_⟩
  simp only [spec_AllMarks.f, spec_l04Mark_eq, spec_AllMarks.j0, Option.bind_some] at e1
  by_cases h1 : -1 ≤ last ∧ last ≤ 1000000
  · by_cases h2 : (l.length : Int) > 300
    · simp [h1, h2] at e1
      exact .inl e1.symm
    · simp [h1, h2] at e1
      rcases AllMarks_fact l last (by omega) l.length 399 0 1000001 r (by omega) (by omega) e1 with h | ⟨h, h3 | ⟨_, h3⟩⟩
      · exact .inl h
      · exact .inr ⟨by omega, h, .inl h3⟩
      · exact .inr ⟨by omega, h, .inr h3⟩
  · simp [h1] at e1
    exact .inl e1.symm

theorem marks_l0 (x o : List Int) (ho : o.length ≤ 300) : ∀ (d k i : Nat) (m e : Int), i + d = o.length → (o.drop i).foldl stepM (some m) = some e →
    laws_FnMarks.l0 (k + d) x o m (i : Int) = laws_FnMarks.l0 k x o e (o.length : Int) := by
  intro d
  induction d with
  | zero =>
    intro k i m e h hf
    obtain rfl : i = o.length := by omega
    rw [List.drop_length] at hf
    obtain rfl := Option.some.inj hf
    rfl
  | succ d ih =>
    intro k i m e h hf
    have hi : i < o.length := by omega
    have hd : o.drop i = rd o (i : Int) :: o.drop (i + 1) := by
      rw [List.drop_eq_getElem_cons hi]
      simp [rd, List.getD_eq_getElem?_getD, List.getElem?_eq_getElem hi]
    rw [hd, List.foldl_cons] at hf
    rw [show k + (d + 1) = (k + d) + 1 by omega]
    conv => lhs; unfold laws_FnMarks.l0
    rw [if_pos (by omega), if_pos (by omega), wi (by omega)]
    simp only [stepM, Option.bind_some] at hf
    by_cases h1 : rd o (i : Int) = -2
    · rw [if_pos h1] at hf
      rw [if_pos h1]
      exact ih k (i + 1) m e (by omega) hf
    · rw [if_neg h1] at hf
      rw [if_neg h1]
      by_cases h2 : rd o (i : Int) < m
      · rw [if_pos h2] at hf
        exfalso
        have : ∀ l : List Int, l.foldl stepM none = none := by
          intro l
          induction l with
          | nil => rfl
          | cons a l ih => simpa [stepM] using ih
        rw [this] at hf
        cases hf
      · rw [if_neg h2] at hf
        rw [if_neg h2]
        exact ih k (i + 1) _ e (by omega) hf
theorem marks_l1 (l : List S72) (last r : Int) (hl : l.length ≤ 300) (h1 : last ≤ r) (h2 : r ≤ last ∨ openAt l r 0) : ∀ (d k i : Nat), i + d = l.length → d < k → laws_FnMarks.l1 k l last r (i : Int) = some true := by
  intro d
  induction d with
  | zero =>
    intro k i h hk
    obtain ⟨k, rfl⟩ : ∃ m, k = m + 1 := ⟨k - 1, by omega⟩
    simp only [laws_FnMarks.l1]
    rw [if_neg (by omega), decide_eq_true (by omega)]
  | succ d ih =>
    intro k i h hk
    obtain ⟨k, rfl⟩ : ∃ m, k = m + 1 := ⟨k - 1, by omega⟩
    have next := ih k (i + 1) (by omega) (by omega)
    simp only [laws_FnMarks.l1]
    rw [if_pos (by omega), if_pos (by omega), wi (by omega)]
    by_cases g1 : (rd_T72 l (i : Int)).f4 = true
    · rw [if_pos g1]
      by_cases g2 : (rd_T72 l (i : Int)).f3 = true
      · rw [if_pos g2]; exact next
      · rw [if_neg g2]
        by_cases g3 : r > (rd_T72 l (i : Int)).f1
        · rw [if_pos g3]
          have : ¬ r > last := by
            intro hh
            rcases h2 with h2 | h2
            · omega
            · have := h2 i (by omega) (by omega) g1 g2
              omega
          rw [if_neg this]; exact next
        · rw [if_neg g3]; exact next
    · rw [if_neg g1]; exact next

theorem FnMarks : ∀ (l0 : List Int), l0.length ≤ maxLen → (∀ x ∈ l0, (Lit.int .u8 x).wf = true) → ∃ k, laws_FnMarks.f k l0 = some true := by
  intro l hm _
  unfold maxLen at hm
  refine ⟨6000 + 1, ?_⟩
  unfold laws_FnMarks.f laws_big.f
  rw [Option.bind_some]
  by_cases hb : (l.length : Int) > 1048576
  · rw [if_pos (decide_eq_true hb)]
  rw [if_neg (by rw [decide_eq_true_eq]; exact hb)]
  obtain ⟨⟨x, y, rows⟩, e1⟩ := DrawPlaySource_some (k := 6000 + 1) (l := l) (by omega) (by omega)
  obtain ⟨⟨a, b, c, d, e, o⟩, f1, f2, ⟨mE, hs⟩, ho⟩ := PlaySource_both x y rows
  replace ho : o.length ≤ 300 := ho
  replace hs : seqM o = some mE := hs
  rw [e1, Option.bind_some]
  dsimp only
  rw [f1 _ (by omega), Option.bind_some, f2 _ (by omega), Option.bind_some]
  rw [if_neg (by simp)]
  dsimp only
  rw [same_refl (by omega) (by omega), Option.bind_some]
  simp only [laws_FnMarks.j0, Bool.not_true, Bool.false_eq_true, if_false]
  have r0 := marks_l0 l o ho o.length (6000 - o.length) 0 (-1) mE (by omega) hs
  rw [show 6000 - o.length + o.length = 6000 by omega, show ((0 : Nat) : Int) = 0 from rfl] at r0
  rw [r0]
  obtain ⟨k, hk⟩ : ∃ k, 6000 - o.length = k + 1 := ⟨6000 - o.length - 1, by omega⟩
  rw [hk]
  conv => lhs; unfold laws_FnMarks.l0
  rw [if_neg (by omega)]
  obtain ⟨l2, g1, hl2⟩ := alt_some (k := k) l 1 (by omega)
  rw [g1, Option.bind_some]
  obtain ⟨⟨rows2, last⟩, g2⟩ := DrawAllMarks_some (k := k) (l := l2) (by omega) (by omega)
  rw [g2, Option.bind_some]
  dsimp only
  obtain ⟨r, h1, h2, h3⟩ := AllMarks_both2 rows2 last
  rw [h2 _ (by omega), Option.bind_some, h1 _ (by omega), Option.bind_some, if_pos rfl]
  by_cases hr : r = -2
  · rw [if_pos hr]
  · rw [if_neg hr]
    rcases h3 with h3 | ⟨h3, h4, h5⟩
    · exact absurd h3 hr
    · exact marks_l1 rows2 last r h3 h4 h5 rows2.length k 0 (by omega) (by omega)

end Go.Proofs.Ytcflalomjehiiaa.Pure
