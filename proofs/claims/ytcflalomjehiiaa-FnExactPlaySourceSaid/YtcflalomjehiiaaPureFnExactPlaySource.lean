/-
  The law FnExactPlaySource answers true: the program's PlaySource is the reference's, in new memory, for all arguments. No condition.
-/
import Derived.Test.YtcflalomjehiiaaQFnExactPlaySourcex8
import Derived.Laws.BitsAllLaws
import Derived.OpenShut
namespace Go.Proofs.Ytcflalomjehiiaa.Pure
open Go.RowKit Go.Proofs.Ytcflalomjehiiaa.QFnExactPlaySource Go.Proofs.YtcflalomjehiiaaW.PrintWords Go.Proofs.YtcflalomjehiiaaW.PrintLast Go.Proofs.YtcflalomjehiiaaW.PrintMore
set_option linter.unusedSimpArgs false
set_option linter.unusedVariables false

theorem spec_in_eq (a lo hi : Int) : spec_l01In.f a lo hi = some (decide (lo ≤ a ∧ a ≤ hi)) := by
  unfold spec_l01In.f; by_cases h : lo ≤ a <;> simp [h]

theorem spec_l04Mark_eq (a : Int) : spec_l04Mark.f a = some (decide ((-1) ≤ a ∧ a ≤ 1000000)) := by
  simp only [spec_l04Mark.f, spec_in_eq, Option.bind_some]

theorem spec_TickOk_eq (a : Int) : spec_TickOk.f a = some (decide (0 ≤ a ∧ a ≤ 1000000000)) := by
  simp only [spec_TickOk.f, spec_in_eq, Option.bind_some]

theorem impl_within_eq (a lo hi : Int) : impl_within.f a lo hi = some (decide (lo ≤ a ∧ a ≤ hi)) := by
  unfold impl_within.f; by_cases h : lo ≤ a <;> simp [h]

theorem impl_isMark_eq (a : Int) : impl_isMark.f a = some (decide ((-1) ≤ a ∧ a ≤ 1000000)) := by
  simp only [impl_isMark.f, impl_within_eq, Option.bind_some]

theorem impl_TickOk_eq (a : Int) : impl_TickOk.f a = some (decide (0 ≤ a ∧ a ≤ 1000000000)) := by
  simp only [impl_TickOk.f, impl_within_eq, Option.bind_some]

def srcOk (m k n : Int) : Bool := decide (-1 ≤ m ∧ m ≤ 1000000) && (decide (-1 ≤ k ∧ k ≤ 1000000) && decide (0 ≤ n ∧ n ≤ 1000000000))
theorem spec_SourceOk_eq (a b c : Int) (d e : Bool) : spec_SourceOk.f a b c d e = some (srcOk a b c) := by
  simp only [spec_SourceOk.f, spec_l04Mark_eq, spec_TickOk_eq, Option.bind_some, srcOk]
  by_cases h1 : -1 ≤ a ∧ a ≤ 1000000
  · by_cases h2 : -1 ≤ b ∧ b ≤ 1000000
    · simp [h1, h2]
    · simp [h1, h2]
  · simp [h1]
theorem impl_SourceOk_eq (a b c : Int) (d e : Bool) : impl_SourceOk.f a b c d e = some (srcOk a b c) := by
  simp only [impl_SourceOk.f, impl_isMark_eq, impl_TickOk_eq, Option.bind_some, srcOk]
  by_cases h1 : -1 ≤ a ∧ a ≤ 1000000
  · by_cases h2 : -1 ≤ b ∧ b ≤ 1000000
    · simp [h1, h2]
    · simp [h1, h2]
  · simp [h1]
theorem srcOk_iff (m k n : Int) : srcOk m k n = true ↔ (-1 ≤ m ∧ m ≤ 1000000) ∧ (-1 ≤ k ∧ k ≤ 1000000) ∧ 0 ≤ n ∧ n ≤ 1000000000 := by
  simp [srcOk]

theorem impl_isTime_eq (a : Int) : impl_isTime.f a = some (decide (0 ≤ a ∧ a ≤ 1000000)) := by
  simp only [impl_isTime.f, impl_within_eq, Option.bind_some]

def hearsB (a b c : Int) (e : Bool) (x y : Int) : Bool := srcOk a b c && (e && (decide (0 ≤ x ∧ x ≤ 1000000) && decide (c ≤ y ∧ y ≤ 1000000000)))
theorem spec_l04Fine_eq (a b c : Int) (d e : Bool) (x y : Int) : spec_l04Fine.f a b c d e x y = some (hearsB a b c e x y) := by
  simp only [spec_l04Fine.f, spec_SourceOk_eq, spec_in_eq, Option.bind_some, hearsB]
  cases srcOk a b c <;> cases e <;> by_cases h1 : 0 ≤ x ∧ x ≤ 1000000 <;> simp [h1]
theorem impl_hears_eq (a b c : Int) (d e : Bool) (x y : Int) : impl_Source_hears.f a b c d e x y = some (hearsB a b c e x y, a, b, c, d, e) := by
  simp only [impl_Source_hears.f, impl_SourceOk_eq, impl_isTime_eq, impl_TickOk_eq, Option.bind_some, hearsB]
  by_cases h0 : srcOk a b c = true
  · have hb := (srcOk_iff a b c).1 h0
    cases e
    · simp [h0]
    · by_cases h1 : 0 ≤ x ∧ x ≤ 1000000
      · by_cases h2 : 0 ≤ y ∧ y ≤ 1000000000
        · simp [h0, h1, h2]
        · have h3 : ¬ (c ≤ y ∧ y ≤ 1000000000) := by omega
          simp [h0, h1, h2, h3]
      · simp [h0, h1]
  · simp [h0]
theorem spec_l04More_eq (a b : Int) : spec_l04More.f a b = some (mx a b) := by
  unfold spec_l04More.f mx
  by_cases h : b > a
  · rw [if_pos h, if_pos (by omega)]
  · rw [if_neg h, if_neg (by omega)]

def seeMarkV (a b c : Int) (d e : Bool) (x y : Int) : Int × Int × Int × Bool × Bool × Bool :=
  if hearsB a b c e x y = true then (a, mx b x, y, false, e, true) else (a, b, c, d, e, false)
theorem spec_SeeMark_eq (a b c : Int) (d e : Bool) (x y : Int) : spec_SeeMark.f a b c d e x y = some (seeMarkV a b c d e x y) := by
  simp only [spec_SeeMark.f, spec_l04Fine_eq, spec_l04More_eq, Option.bind_some, seeMarkV]
  cases hearsB a b c e x y <;> simp
theorem impl_SeeMark_eq (a b c : Int) (d e : Bool) (x y : Int) : impl_SeeMark.f a b c d e x y = some (seeMarkV a b c d e x y) := by
  simp only [impl_SeeMark.f, impl_hears_eq, Option.bind_some, seeMarkV]
  cases hearsB a b c e x y <;> simp

def seeEventV (a b c : Int) (d e : Bool) (l x y : Int) : Int × Int × Int × Bool × Bool × Bool :=
  if hearsB a b c e x y = true then (if 0 ≤ l ∧ l ≤ 1000000 then (mx a x, mx b (wrap64 (wrap64 (mx a x - l) - 1)), y, false, e, true) else (a, b, c, d, e, false)) else (a, b, c, d, e, false)
theorem spec_SeeEvent_eq {k : Nat} (hk : 1 ≤ k) (a b c : Int) (d e : Bool) (l x y : Int) : spec_SeeEvent.f k a b c d e l x y = some (seeEventV a b c d e l x y) := by
  obtain ⟨k, rfl⟩ : ∃ m, k = m + 1 := ⟨k - 1, by omega⟩
  simp only [spec_SeeEvent.f, spec_l04Fine_eq, spec_in_eq, spec_SeeEvent.j0, spec_l04More_eq, Option.bind_some, seeEventV]
  cases hearsB a b c e x y <;> by_cases h : 0 ≤ l ∧ l ≤ 1000000 <;> simp [h]
theorem impl_SeeEvent_eq (a b c : Int) (d e : Bool) (l x y : Int) : impl_SeeEvent.f a b c d e l x y = some (seeEventV a b c d e l x y) := by
  simp only [impl_SeeEvent.f, impl_hears_eq, impl_isTime_eq, Option.bind_some, seeEventV]
  cases hearsB a b c e x y <;> by_cases h : 0 ≤ l ∧ l ≤ 1000000 <;> simp [h]

theorem w64 {x : Int} (h1 : -9223372036854775808 ≤ x) (h2 : x ≤ 9223372036854775807) : wrap64 x = x := by
  unfold wrap64; omega

def addT (a b : Int) : Int :=
  if 0 ≤ a ∧ a ≤ 1000000000 then (if -1000000000 ≤ b ∧ b ≤ 1000000000 then (if a + b > 1000000000 then 1000000000 else if a + b < 0 then 0 else a + b) else -1) else -1

theorem spec_AddTick_eq {k : Nat} (hk : 1 ≤ k) (a b : Int) : spec_AddTick.f k a b = some (addT a b) := by
  obtain ⟨k, rfl⟩ : ∃ m, k = m + 1 := ⟨k - 1, by omega⟩
  unfold addT
  simp only [spec_AddTick.f, spec_TickOk_eq, spec_in_eq, Option.bind_some, spec_AddTick.j0]
  by_cases h1 : 0 ≤ a ∧ a ≤ 1000000000
  · by_cases h2 : -1000000000 ≤ b ∧ b ≤ 1000000000
    · rw [w64 (x := a + b) (by omega) (by omega)]
      simp only [h1, h2, and_self, decide_true, if_true, Bool.not_true, Bool.false_eq_true, if_false]
      by_cases h3 : a + b > 1000000000
      · rw [if_pos h3, if_pos h3]
      · rw [if_neg h3, if_neg h3]
        by_cases h4 : a + b < 0
        · rw [if_pos h4, if_pos h4]
        · rw [if_neg h4, if_neg h4]
    · simp [h1, h2]
  · simp [h1]

def dueT (a b c : Int) : Bool :=
  if 0 ≤ a ∧ a ≤ 1000000000 then (if 0 ≤ b ∧ b ≤ 1000000000 then (if 0 ≤ c ∧ c ≤ 1000000000 then (if b > 0 then decide (addT a b ≤ c) else false) else false) else false) else false

theorem spec_DueAt_eq {k : Nat} (hk : 1 ≤ k) (a b c : Int) : spec_DueAt.f k a b c = some (dueT a b c) := by
  unfold dueT
  simp only [spec_DueAt.f, spec_TickOk_eq, spec_AddTick_eq hk, Option.bind_some]
  by_cases h1 : 0 ≤ a ∧ a ≤ 1000000000
  · by_cases h2 : 0 ≤ b ∧ b ≤ 1000000000
    · by_cases h3 : 0 ≤ c ∧ c ≤ 1000000000
      · by_cases h4 : b > 0
        · simp [h1, h2, h3, h4]
        · simp [h1, h2, h3, h4]
      · simp [h1, h2, h3]
    · simp [h1, h2]
  · simp [h1]

theorem impl_AddTick_eq (a b : Int) : impl_AddTick.f a b = some (addT a b) := by
  unfold addT
  simp only [impl_AddTick.f, impl_TickOk_eq, impl_within_eq, Option.bind_some]
  by_cases h1 : 0 ≤ a ∧ a ≤ 1000000000
  · by_cases h2 : -1000000000 ≤ b ∧ b ≤ 1000000000
    · rw [w64 (x := a + b) (by omega) (by omega)]
      simp only [h1, h2, and_self, decide_true, if_true]
      congr 1
      unfold mn mx
      (repeat' split) <;> omega
    · simp [h1, h2]
  · simp [h1]

theorem impl_DueAt_eq (a b c : Int) : impl_DueAt.f a b c = some (dueT a b c) := by
  unfold dueT
  simp only [impl_DueAt.f, impl_TickOk_eq, impl_AddTick_eq, Option.bind_some]
  by_cases h1 : 0 ≤ a ∧ a ≤ 1000000000
  · by_cases h2 : 0 ≤ b ∧ b ≤ 1000000000
    · by_cases h3 : 0 ≤ c ∧ c ≤ 1000000000
      · by_cases h4 : b > 0
        · simp [h1, h2, h3, h4]
        · simp [h1, h2, h3, h4]
      · simp [h1, h2, h3]
    · simp [h1, h2]
  · simp [h1]

theorem SeeTick_eq {k : Nat} (hk : 2 ≤ k) (a b c : Int) (d e : Bool) (x y : Int) : spec_SeeTick.f k a b c d e x y = impl_SeeTick.f a b c d e x y := by
  obtain ⟨k, rfl⟩ : ∃ m, k = m + 1 := ⟨k - 1, by omega⟩
  simp only [spec_SeeTick.f, impl_SeeTick.f, spec_SourceOk_eq, impl_SourceOk_eq, spec_TickOk_eq, Option.bind_some, spec_SeeTick.j0, spec_DueAt_eq (show 1 ≤ k by omega), impl_DueAt_eq]
  cases srcOk a b c
  · simp
  · by_cases h1 : 0 ≤ x ∧ x ≤ 1000000000
    · by_cases h2 : 0 ≤ y ∧ y ≤ 1000000000
      · simp [h1, h2]
      · have h3 : dueT c x y = false := by unfold dueT; simp [h1, h2]
        simp [h1, h2, h3]
    · have h3 : dueT c x y = false := by unfold dueT; simp [h1]
      simp [h1, h3]
theorem impl_SeeTick_some (a b c : Int) (d e : Bool) (x y : Int) : ∃ p q r s t u, impl_SeeTick.f a b c d e x y = some (p, q, r, s, t, u) := by
  simp only [impl_SeeTick.f, impl_SourceOk_eq, impl_DueAt_eq, Option.bind_some]
  (repeat' split) <;> exact ⟨_, _, _, _, _, _, rfl⟩

def closeV (a b c : Int) (d e : Bool) : Int × Int × Int × Bool × Bool × Bool := if srcOk a b c = true then (if e = true then (a, b, c, false, false, true) else (a, b, c, d, e, false)) else (a, b, c, d, e, false)
theorem spec_CloseSource_eq (a b c : Int) (d e : Bool) : spec_CloseSource.f a b c d e = some (closeV a b c d e) := by
  simp only [spec_CloseSource.f, spec_SourceOk_eq, Option.bind_some, closeV]
  (repeat' split) <;> rfl
theorem impl_CloseSource_eq (a b c : Int) (d e : Bool) : impl_CloseSource.f a b c d e = some (closeV a b c d e) := by
  simp only [impl_CloseSource.f, impl_SourceOk_eq, Option.bind_some, closeV]
  (repeat' split) <;> rfl

theorem wi {i : Nat} (h : i < 4611686018427387904) : wrap64 ((i : Int) + 1) = ((i + 1 : Nat) : Int) := by
  unfold wrap64; omega

def stepM (o : Option Int) (x : Int) : Option Int := o.bind fun m => if x = -2 then some m else if x < m then none else some x
def seqM (l : List Int) : Option Int := l.foldl stepM (some (-1))
def InvM (l : List Int) (b : Int) : Prop := ∃ m, seqM l = some m ∧ m ≤ b
theorem InvM.skip {l : List Int} {b b' : Int} (h : InvM l b) (hb : b ≤ b') : InvM (l ++ [-2]) b' := by
  obtain ⟨m, e, hm⟩ := h
  exact ⟨m, by simp [seqM, List.foldl_append] at e ⊢; rw [e]; simp [stepM], by omega⟩
theorem InvM.push {l : List Int} {b b' : Int} (h : InvM l b) (hb : b ≤ b') : InvM (l ++ [b']) b' := by
  obtain ⟨m, e, hm⟩ := h
  have e2 : seqM (l ++ [b']) = stepM (some m) b' := by
    simp only [seqM, List.foldl_append, List.foldl_cons, List.foldl_nil] at e ⊢
    rw [e]
  rw [InvM, e2]
  by_cases h2 : b' = -2
  · exact ⟨m, by simp [stepM, h2], by omega⟩
  · exact ⟨b', by simp only [stepM, Option.bind_some]; rw [if_neg h2, if_neg (by omega)], by omega⟩
theorem le_mx (a b : Int) : a ≤ mx a b := by unfold mx; split <;> omega
theorem SeeTick_both (a b c : Int) (d e : Bool) (x y : Int) : ∃ r s t u, (∀ k, 2 ≤ k → spec_SeeTick.f k a b c d e x y = some (a, b, r, s, t, u)) ∧ impl_SeeTick.f a b c d e x y = some (a, b, r, s, t, u) := by
  have h : ∃ r s t u, impl_SeeTick.f a b c d e x y = some (a, b, r, s, t, u) := by
    simp only [impl_SeeTick.f, impl_SourceOk_eq, impl_DueAt_eq, Option.bind_some]
    (repeat' split) <;> exact ⟨_, _, _, _, rfl⟩
  obtain ⟨r, s, t, u, h⟩ := h
  exact ⟨r, s, t, u, fun k hk => by rw [SeeTick_eq hk, h], h⟩
abbrev PlayR := Int × Int × Int × Bool × Bool × List Int
theorem PlaySource_l0 (x y : Int) (rows : List (List Int)) (hn : rows.length ≤ 300) : ∀ (n k i : Nat) (acc : List Int) (a b c : Int) (d e : Bool), i + n = rows.length → 20 + n ≤ k → acc.length = i → InvM acc b →
    ∃ r : PlayR, spec_PlaySource.l0 k x y rows acc (i : Int) a b c d e = some r ∧ impl_PlaySource.l0 k x y acc rows (rows.length : Int) (i : Int) a b c d e = some r ∧ (∃ m, seqM r.2.2.2.2.2 = some m) ∧ r.2.2.2.2.2.length ≤ 300 := by
  intro n
  induction n with
  | zero =>
    intro k i acc a b c d e h hk ha hi
    obtain ⟨k, rfl⟩ : ∃ m, k = m + 1 := ⟨k - 1, by omega⟩
    simp only [spec_PlaySource.l0, impl_PlaySource.l0]
    rw [if_neg (by omega), if_neg (by omega)]
    obtain ⟨m, em, _⟩ := hi
    exact ⟨_, rfl, rfl, ⟨m, em⟩, by show acc.length ≤ 300; omega⟩
  | succ n ih =>
    intro k i acc a b c d e h hk ha hi
    obtain ⟨k, rfl⟩ : ∃ m, k = m + 1 := ⟨k - 1, by omega⟩
    have c1 : (i : Int) < (rows.length : Int) := by omega
    have c2 : 0 ≤ (i : Int) := by omega
    have c3 : acc.length < 17592186044416 := by omega
    generalize hrow : rd_L1 rows (i : Int) = row
    obtain ⟨t1, t2, t3, t4, u1, u2⟩ := SeeTick_both a b c d e y (rd row 2)
    have u1 := u1 k (by omega)
    have step : ∀ (m : Int) (a' b' c' : Int) (d' e' : Bool), InvM (acc ++ [m]) b' → ∃ r : PlayR, spec_PlaySource.l0 k x y rows (acc ++ [m]) ((i + 1 : Nat) : Int) a' b' c' d' e' = some r ∧ impl_PlaySource.l0 k x y (acc ++ [m]) rows (rows.length : Int) ((i + 1 : Nat) : Int) a' b' c' d' e' = some r ∧ (∃ m, seqM r.2.2.2.2.2 = some m) ∧ r.2.2.2.2.2.length ≤ 300 :=
      fun m a' b' c' d' e' hI => ih k (i + 1) (acc ++ [m]) a' b' c' d' e' (by omega) (by omega) (by rw [List.length_append, List.length_singleton]; omega) hI
    have hE : b ≤ (seeEventV a b c d e x (rd row 1) (rd row 2)).2.1 := by
      unfold seeEventV
      (repeat' split) <;> first | exact le_mx _ _ | exact Int.le_refl _
    have hM : b ≤ (seeMarkV a b c d e (rd row 1) (rd row 2)).2.1 := by
      unfold seeMarkV
      (repeat' split) <;> first | exact le_mx _ _ | exact Int.le_refl _
    have hC : b ≤ (closeV a b c d e).2.1 := by
      unfold closeV
      (repeat' split) <;> exact Int.le_refl _
    simp only [spec_PlaySource.l0, impl_PlaySource.l0, hrow, if_pos c1, if_pos c2, if_pos c3, u1, u2, spec_SeeEvent_eq (show 1 ≤ k by omega), impl_SeeEvent_eq, spec_SeeMark_eq, impl_SeeMark_eq, spec_CloseSource_eq, impl_CloseSource_eq, Option.bind_some, wi (show i < 4611686018427387904 by omega)]
    by_cases h3 : (row.length : Int) = 3
    · have l0 : 0 < (row.length : Int) := by omega
      have l1 : 1 < (row.length : Int) := by omega
      have l2 : 2 < (row.length : Int) := by omega
      simp only [if_pos h3, if_pos l0, if_pos l1, if_pos l2]
      by_cases k0 : rd row 0 = 0
      · simp only [if_pos k0]
        by_cases b0 : (seeEventV a b c d e x (rd row 1) (rd row 2)).2.2.2.2.2 = true
        · simp only [if_pos b0]; exact step _ _ _ _ _ _ (hi.push hE)
        · simp only [if_neg b0]; exact step _ _ _ _ _ _ (hi.skip hE)
      · simp only [if_neg k0]
        by_cases k1 : rd row 0 = 1
        · simp only [if_pos k1]
          by_cases b0 : (seeMarkV a b c d e (rd row 1) (rd row 2)).2.2.2.2.2 = true
          · simp only [if_pos b0]; exact step _ _ _ _ _ _ (hi.push hM)
          · simp only [if_neg b0]; exact step _ _ _ _ _ _ (hi.skip hM)
        · simp only [if_neg k1]
          by_cases k2 : rd row 0 = 2
          · simp only [if_pos k2]
            by_cases b0 : t4 = true
            · simp only [if_pos b0]; exact step _ _ _ _ _ _ (hi.push (Int.le_refl _))
            · simp only [if_neg b0]; exact step _ _ _ _ _ _ (hi.skip (Int.le_refl _))
          · simp only [if_neg k2]
            by_cases k3 : rd row 0 = 3
            · simp only [if_pos k3]
              by_cases b0 : (closeV a b c d e).2.2.2.2.2 = true
              · simp only [if_pos b0]; exact step _ _ _ _ _ _ (hi.push hC)
              · simp only [if_neg b0]; exact step _ _ _ _ _ _ (hi.skip hC)
            · simp only [if_neg k3]; exact step _ _ _ _ _ _ (hi.skip (Int.le_refl _))
    · simp only [if_neg h3]; exact step _ _ _ _ _ _ (hi.skip (Int.le_refl _))
theorem PlaySource_both (x y : Int) (rows : List (List Int)) : ∃ r : PlayR, (∀ k, 400 ≤ k → spec_PlaySource.f k x y rows = some r) ∧ (∀ k, 400 ≤ k → impl_PlaySource.f k x y rows = some r) ∧ (∃ m, seqM r.2.2.2.2.2 = some m) ∧ r.2.2.2.2.2.length ≤ 300 := by
  suffices hh : ∃ r : PlayR, spec_PlaySource.f 400 x y rows = some r ∧ impl_PlaySource.f 400 x y rows = some r ∧ (∃ m, seqM r.2.2.2.2.2 = some m) ∧ r.2.2.2.2.2.length ≤ 300 by
    obtain ⟨r, e1, e2, e3⟩ := hh
    exact ⟨r, fun k hk => at_rounds (fun k => spec_PlaySource.mono x y rows k) hk e1, fun k hk => at_rounds (fun k => impl_PlaySource.mono x y rows k) hk e2, e3⟩
  have n1 : spec_NewSource.f 0 = some (-1, -1, 0, false, true, true) := by simp [spec_NewSource.f, spec_TickOk_eq]
  have n2 : impl_NewSource.f 0 = some (-1, -1, 0, false, true, true) := by simp [impl_NewSource.f, impl_TickOk_eq]
  simp only [spec_PlaySource.f, impl_PlaySource.f, n1, n2, Option.bind_some]
  by_cases h : (rows.length : Int) > 300
  · simp only [if_pos h]
    exact ⟨_, rfl, rfl, ⟨-1, rfl⟩, by simp⟩
  · simp only [if_neg h]
    exact PlaySource_l0 x y rows (by omega) rows.length 400 0 [] (-1) (-1) 0 false true (by omega) (by omega) rfl ⟨-1, rfl, by omega⟩

theorem rd_at {x : List Int} {i : Nat} (h : i < x.length) : x[i]? = some (rd x (i : Int)) := by
  simp [rd, List.getD_eq_getElem?_getD, List.getElem?_eq_getElem h]

theorem toIntS_l0 (x0 : List Int) (hn : x0.length ≤ 1048576) : ∀ (d k i : Nat) (x3 : List Int), i + d = x0.length → d < k → x3.length = x0.length → (∀ j, j < i → x3[j]? = x0[j]?) →
    laws_toIntS.l0 k x0 x3 (i : Int) = some x0 := by
  intro d
  induction d with
  | zero =>
    intro k i x3 h hk hl hp
    obtain ⟨k, rfl⟩ : ∃ m, k = m + 1 := ⟨k - 1, by omega⟩
    simp only [laws_toIntS.l0]
    rw [if_neg (by omega)]
    congr 1
    apply List.ext_getElem?
    intro j
    by_cases hj : j < i
    · exact hp j hj
    · rw [List.getElem?_eq_none (by omega), List.getElem?_eq_none (by omega)]
  | succ d ih =>
    intro k i x3 h hk hl hp
    obtain ⟨k, rfl⟩ : ∃ m, k = m + 1 := ⟨k - 1, by omega⟩
    simp only [laws_toIntS.l0]
    rw [if_pos (by omega), if_pos (by omega), if_pos (by omega), wi (by omega)]
    refine ih k (i + 1) _ (by omega) (by omega) (by simp [hl]) ?_
    intro j hj
    rw [Int.toNat_natCast, List.getElem?_set]
    by_cases e : i = j
    · subst e
      rw [if_pos rfl, if_pos (by omega), rd_at (by omega)]
    · rw [if_neg e]
      exact hp j (by omega)
theorem toIntS_eq {k : Nat} {l : List Int} (hn : l.length ≤ 1048576) (hk : l.length < k) : laws_toIntS.f k l = some l := by
  unfold laws_toIntS.f
  rw [if_pos (by omega), if_pos (by omega)]
  exact toIntS_l0 l hn l.length k 0 _ (by omega) hk (by simp) (by omega)

theorem eqIntS_l0 (x : List Int) (hn : x.length ≤ 1048576) : ∀ (d k i : Nat), i + d = x.length → d < k → laws_eqIntS.l0 k x x (i : Int) = some true := by
  intro d
  induction d with
  | zero =>
    intro k i h hk
    obtain ⟨k, rfl⟩ : ∃ m, k = m + 1 := ⟨k - 1, by omega⟩
    simp only [laws_eqIntS.l0]
    rw [if_neg (by omega)]
  | succ d ih =>
    intro k i h hk
    obtain ⟨k, rfl⟩ : ∃ m, k = m + 1 := ⟨k - 1, by omega⟩
    simp only [laws_eqIntS.l0]
    rw [if_pos (by omega), if_pos (by omega), if_pos (by omega), wi (by omega)]
    exact ih k (i + 1) (by omega) (by omega)
theorem eqIntS_refl {k : Nat} {x : List Int} (hn : x.length ≤ 1048576) (hk : x.length < k) : laws_eqIntS.f k x x = some true := by
  unfold laws_eqIntS.f
  rw [if_pos rfl]
  exact eqIntS_l0 x hn x.length k 0 (by omega) hk

def markL (c : Int) (n : Nat) : List Int := (List.range n).map fun (j : Nat) => c + (j : Int)
theorem markL_length (c : Int) (n : Nat) : (markL c n).length = n := by simp [markL]
theorem markL_get {c : Int} {n j : Nat} (h : j < n) : (markL c n)[j]? = some (c + (j : Int)) := by
  simp [markL, List.getElem?_range, h]
theorem wc {c : Int} {i : Nat} (h0 : 0 ≤ c) (h1 : c ≤ 1073741824) (h2 : i ≤ 1073741824) : wrap64 (c + (i : Int) + 1) = c + ((i + 1 : Nat) : Int) := by
  unfold wrap64; omega

theorem markIntS_l0 (n : Nat) (hn : n ≤ 1048576) (c : Int) (h0 : 0 ≤ c) (h1 : c ≤ 1073741824) : ∀ (d k i : Nat) (x : List Int), x.length = n → i + d = n → d < k → (∀ j, j < i → x[j]? = some (c + (j : Int))) →
    laws_markIntS.l0 k x (c + (i : Int)) (i : Int) = some (c + (n : Int), markL c n) := by
  intro d
  induction d with
  | zero =>
    intro k i x hx h hk hp
    obtain ⟨k, rfl⟩ : ∃ m, k = m + 1 := ⟨k - 1, by omega⟩
    simp only [laws_markIntS.l0]
    rw [if_neg (by omega)]
    obtain rfl : i = n := by omega
    congr 2
    apply List.ext_getElem?
    intro j
    by_cases hj : j < i
    · rw [hp j hj, markL_get hj]
    · rw [List.getElem?_eq_none (by omega), List.getElem?_eq_none (by rw [markL_length]; omega)]
  | succ d ih =>
    intro k i x hx h hk hp
    obtain ⟨k, rfl⟩ : ∃ m, k = m + 1 := ⟨k - 1, by omega⟩
    simp only [laws_markIntS.l0]
    rw [if_pos (by omega), if_pos (by omega), wi (by omega), wc h0 h1 (by omega)]
    refine ih k (i + 1) _ (by simp [hx]) (by omega) (by omega) ?_
    intro j hj
    rw [Int.toNat_natCast, List.getElem?_set]
    by_cases e : i = j
    · subst e
      rw [if_pos rfl, if_pos (by omega)]
    · rw [if_neg e]
      exact hp j (by omega)
theorem markIntS_eq {k : Nat} {x : List Int} {c : Int} (hn : x.length ≤ 1048576) (h0 : 0 ≤ c) (h1 : c ≤ 1073741824) (hk : x.length < k) :
    laws_markIntS.f k x c = some (c + (x.length : Int), markL c x.length) := by
  unfold laws_markIntS.f
  have h := markIntS_l0 x.length hn c h0 h1 x.length k 0 x rfl (by omega) hk (by omega)
  simpa using h

theorem rdSS_at {x : List (List Int)} {i : Nat} (h : i < x.length) : x[i]? = some (rd_L1 x (i : Int)) := by
  simp [rd_L1, List.getD_eq_getElem?_getD, List.getElem?_eq_getElem h]
theorem rdSS_mem {x : List (List Int)} {i : Nat} (h : i < x.length) : rd_L1 x (i : Int) ∈ x := by
  have := rdSS_at h
  rw [List.getElem?_eq_getElem h] at this
  rw [← Option.some.inj this]
  exact List.getElem_mem h
theorem rdSS_drop {x : List (List Int)} {i : Nat} (h : i < x.length) : x.drop i = rd_L1 x (i : Int) :: x.drop (i + 1) := by
  rw [List.drop_eq_getElem_cons h]
  congr 1
  have := rdSS_at h
  rw [List.getElem?_eq_getElem h] at this
  exact Option.some.inj this
def totL (l : List (List Int)) : Nat := (l.map List.length).sum
theorem totL_cons (x : List Int) (l : List (List Int)) : totL (x :: l) = x.length + totL l := by simp [totL]
theorem totL_mem {l : List (List Int)} {z : List Int} (h : z ∈ l) : z.length ≤ totL l := by
  induction l with
  | nil => simp at h
  | cons x l ih =>
    rw [totL_cons]
    rcases List.mem_cons.1 h with rfl | h
    · omega
    · have := ih h; omega
theorem szIntSS_l0 (l : List (List Int)) (hm : ∀ z ∈ l, z.length ≤ maxLen) (hl : l.length ≤ 1048576) : ∀ (d k i : Nat) (left : Int), i + d = l.length → d < k → 0 ≤ left → left ≤ 1048576 →
    ∃ v, laws_szIntSS.l0 k l left (i : Int) = some v ∧ (v < 0 ∨ (totL (l.drop i) : Int) ≤ left) := by
  intro d
  induction d with
  | zero =>
    intro k i left h hk h0 h1
    obtain ⟨k, rfl⟩ : ∃ m, k = m + 1 := ⟨k - 1, by omega⟩
    simp only [laws_szIntSS.l0]
    rw [if_neg (by omega), List.drop_of_length_le (by omega)]
    exact ⟨_, rfl, .inr (by simpa [totL] using h0)⟩
  | succ d ih =>
    intro k i left h hk h0 h1
    obtain ⟨k, rfl⟩ : ∃ m, k = m + 1 := ⟨k - 1, by omega⟩
    have hz := hm _ (rdSS_mem (x := l) (i := i) (by omega))
    unfold maxLen at hz
    simp only [laws_szIntSS.l0, laws_szIntS.f]
    rw [if_pos (by omega), if_pos (by omega), rdSS_drop (by omega), totL_cons]
    generalize rd_L1 l (i : Int) = z at hz ⊢
    rw [w64 (x := left - (z.length : Int)) (by omega) (by omega), wi (by omega)]
    by_cases g : left - (z.length : Int) < 0
    · rw [if_pos g, Option.bind_some, if_pos (by omega)]
      exact ⟨_, rfl, .inl (by omega)⟩
    · rw [if_neg g, Option.bind_some, if_neg g]
      obtain ⟨v, e1, e2⟩ := ih k (i + 1) (left - (z.length : Int)) (by omega) (by omega) (by omega) (by omega)
      exact ⟨v, e1, e2.imp id (fun h => by omega)⟩
theorem szIntSS_some {k : Nat} {l : List (List Int)} (hm : ∀ z ∈ l, z.length ≤ maxLen) (hl : l.length ≤ maxLen) (hk : 1048577 < k) :
    ∃ v, laws_szIntSS.f k l 1048576 = some v ∧ (v < 0 ∨ (l.length : Int) + (totL l : Int) ≤ 1048576) := by
  have hl2 := hl
  unfold maxLen at hl2
  unfold laws_szIntSS.f
  rw [w64 (x := 1048576 - (l.length : Int)) (by omega) (by omega)]
  by_cases g : 1048576 - (l.length : Int) < 0
  · rw [if_pos g]
    exact ⟨_, rfl, .inl (by omega)⟩
  · rw [if_neg g]
    obtain ⟨v, e1, e2⟩ := szIntSS_l0 l hm (by omega) l.length k 0 (1048576 - (l.length : Int)) (by omega) (by omega) (by omega) (by omega)
    rw [List.drop_zero] at e2
    exact ⟨v, e1, e2.imp id (fun h => by omega)⟩
theorem toIntSS_l0 (x0 : List (List Int)) (hn : x0.length ≤ 1048576) (hz : ∀ z ∈ x0, z.length ≤ 1048576) : ∀ (d k i : Nat) (x3 : List (List Int)), i + d = x0.length → d + 1048577 < k → x3.length = x0.length → (∀ j, j < i → x3[j]? = x0[j]?) →
    laws_toIntSS.l0 k x0 x3 (i : Int) = some x0 := by
  intro d
  induction d with
  | zero =>
    intro k i x3 h hk hl hp
    obtain ⟨k, rfl⟩ : ∃ m, k = m + 1 := ⟨k - 1, by omega⟩
    simp only [laws_toIntSS.l0]
    rw [if_neg (by omega)]
    congr 1
    apply List.ext_getElem?
    intro j
    by_cases hj : j < i
    · exact hp j hj
    · rw [List.getElem?_eq_none (by omega), List.getElem?_eq_none (by omega)]
  | succ d ih =>
    intro k i x3 h hk hl hp
    obtain ⟨k, rfl⟩ : ∃ m, k = m + 1 := ⟨k - 1, by omega⟩
    have hzi := hz _ (rdSS_mem (x := x0) (i := i) (by omega))
    simp only [laws_toIntSS.l0]
    rw [if_pos (by omega), if_pos (by omega), toIntS_eq hzi (by omega), Option.bind_some, if_pos (by omega), wi (by omega)]
    refine ih k (i + 1) _ (by omega) (by omega) (by simp [hl]) ?_
    intro j hj
    rw [Int.toNat_natCast, List.getElem?_set]
    by_cases e : i = j
    · subst e
      rw [if_pos rfl, if_pos (by omega), rdSS_at (by omega)]
    · rw [if_neg e]
      exact hp j (by omega)
theorem toIntSS_eq {k : Nat} {l : List (List Int)} (hn : l.length ≤ 1048576) (hz : ∀ z ∈ l, z.length ≤ 1048576) (hk : l.length + 1048577 < k) : laws_toIntSS.f k l = some l := by
  unfold laws_toIntSS.f
  rw [if_pos (by omega), if_pos (by omega)]
  exact toIntSS_l0 l hn hz l.length k 0 _ (by omega) hk (by simp) (by omega)
theorem eqIntSS_l0 (x : List (List Int)) (hn : x.length ≤ 1048576) (hz : ∀ z ∈ x, z.length ≤ 1048576) : ∀ (d k i : Nat), i + d = x.length → d + 1048577 < k → laws_eqIntSS.l0 k x x (i : Int) = some true := by
  intro d
  induction d with
  | zero =>
    intro k i h hk
    obtain ⟨k, rfl⟩ : ∃ m, k = m + 1 := ⟨k - 1, by omega⟩
    simp only [laws_eqIntSS.l0]
    rw [if_neg (by omega)]
  | succ d ih =>
    intro k i h hk
    obtain ⟨k, rfl⟩ : ∃ m, k = m + 1 := ⟨k - 1, by omega⟩
    have hzi := hz _ (rdSS_mem (x := x) (i := i) (by omega))
    simp only [laws_eqIntSS.l0]
    rw [if_pos (by omega), if_pos (by omega), if_pos (by omega), eqIntS_refl hzi (by omega), Option.bind_some, if_pos rfl, wi (by omega)]
    exact ih k (i + 1) (by omega) (by omega)
theorem eqIntSS_refl {k : Nat} {x : List (List Int)} (hn : x.length ≤ 1048576) (hz : ∀ z ∈ x, z.length ≤ 1048576) (hk : x.length + 1048577 < k) : laws_eqIntSS.f k x x = some true := by
  unfold laws_eqIntSS.f
  rw [if_pos rfl]
  exact eqIntSS_l0 x hn hz x.length k 0 (by omega) hk
theorem markIntSS_l0 : ∀ (d k i : Nat) (x : List (List Int)) (c : Int), x.length ≤ 1048576 → (∀ z ∈ x, z.length ≤ 1048576) → i + d = x.length → d + 1048577 < k → 0 ≤ c → c + (totL (x.drop i) : Int) ≤ 1073741824 →
    ∃ y, laws_markIntSS.l0 k x c (i : Int) = some (c + (totL (x.drop i) : Int), y) := by
  intro d
  induction d with
  | zero =>
    intro k i x c hn hz h hk h0 h1
    obtain ⟨k, rfl⟩ : ∃ m, k = m + 1 := ⟨k - 1, by omega⟩
    simp only [laws_markIntSS.l0]
    rw [if_neg (by omega), List.drop_of_length_le (by omega)]
    exact ⟨x, by simp [totL]⟩
  | succ d ih =>
    intro k i x c hn hz h hk h0 h1
    obtain ⟨k, rfl⟩ : ∃ m, k = m + 1 := ⟨k - 1, by omega⟩
    have hzi := hz _ (rdSS_mem (x := x) (i := i) (by omega))
    rw [rdSS_drop (by omega), totL_cons] at h1 ⊢
    simp only [laws_markIntSS.l0]
    rw [if_pos (by omega), if_pos (by omega), markIntS_eq hzi h0 (by omega) (by omega), Option.bind_some, wi (by omega), Int.toNat_natCast]
    generalize rd_L1 x (i : Int) = z at hzi h1 ⊢
    have hd : (x.set i (markL c z.length)).drop (i + 1) = x.drop (i + 1) := List.drop_set_of_lt (by omega)
    obtain ⟨y, hy⟩ := ih k (i + 1) (x.set i (markL c z.length)) (c + (z.length : Int)) (by rw [List.length_set]; exact hn) (fun q hq => (List.mem_or_eq_of_mem_set hq).elim (hz q) (fun e => by rw [e, markL_length]; exact hzi)) (by rw [List.length_set]; omega) (by omega) (by omega) (by rw [hd]; omega)
    rw [hd] at hy
    exact ⟨y, hy.trans (by congr 2; omega)⟩

theorem heldIntS_l0 (n : Nat) (hn : n ≤ 1048576) (c : Int) (h0 : 0 ≤ c) (h1 : c ≤ 1073741824) : ∀ (d k i : Nat), i + d = n → d < k →
    laws_heldIntS.l0 k (markL c n) (c + (i : Int)) (i : Int) = some (c + (n : Int)) := by
  intro d
  induction d with
  | zero =>
    intro k i h hk
    obtain ⟨k, rfl⟩ : ∃ m, k = m + 1 := ⟨k - 1, by omega⟩
    simp only [laws_heldIntS.l0]
    rw [if_neg (by rw [markL_length]; omega)]
    obtain rfl : i = n := by omega
    rfl
  | succ d ih =>
    intro k i h hk
    obtain ⟨k, rfl⟩ : ∃ m, k = m + 1 := ⟨k - 1, by omega⟩
    have e : rd (markL c n) (i : Int) = c + (i : Int) := by
      have h2 := rd_at (x := markL c n) (i := i) (by rw [markL_length]; omega)
      rw [markL_get (by omega)] at h2
      exact (Option.some.inj h2).symm
    simp only [laws_heldIntS.l0]
    rw [if_pos (by rw [markL_length]; omega), if_pos (by omega), if_pos e, wi (by omega), wc h0 h1 (by omega)]
    exact ih k (i + 1) (by omega) (by omega)
theorem heldIntS_eq {k n : Nat} {c : Int} (hn : n ≤ 1048576) (h0 : 0 ≤ c) (h1 : c ≤ 1073741824) (hk : n < k) :
    laws_heldIntS.f k (markL c n) c = some (c + (n : Int)) := by
  unfold laws_heldIntS.f
  have h := heldIntS_l0 n hn c h0 h1 n k 0 (by omega) hk
  simpa using h

theorem eqSource_refl (a b c : Int) (d e : Bool) : laws_eqSource.f a b c d e a b c d e = some true := by
  simp [laws_eqSource.f]

theorem FnExactPlaySource : ∀ (a0 : Int) (a1 : Int) (l2 : List (List Int)), (Lit.int .i64 a0).wf = true → (Lit.int .i64 a1).wf = true → l2.length ≤ maxLen → (∀ z ∈ l2, z.length ≤ maxLen) → ∃ k, laws_FnExactPlaySource.f k a0 a1 l2 = some true := by
  intro a0 a1 l _ _ hl hm
  refine ⟨4000000, ?_⟩
  obtain ⟨v, hv, hv2⟩ := szIntSS_some (k := 4000000) hm hl (by omega)
  unfold laws_FnExactPlaySource.f
  rw [hv, Option.bind_some]
  by_cases hneg : v < 0
  · rw [if_pos hneg]
  rw [if_neg hneg]
  have ht := hv2.resolve_left hneg
  clear hv2
  have hz : ∀ z ∈ l, z.length ≤ 1048576 := fun z h => by have := totL_mem h; omega
  have t0 : ∀ k, 3000000 ≤ k → laws_toIntSS.f k l = some l := fun k hk => toIntSS_eq (by omega) hz (by omega)
  have q0 : ∀ k, 3000000 ≤ k → laws_eqIntSS.f k l l = some true := fun k hk => eqIntSS_refl (by omega) hz (by omega)
  obtain ⟨y, hy⟩ := markIntSS_l0 l.length 3000000 0 l 1 (by omega) hz (by omega) (by omega) (by omega) (by rw [List.drop_zero]; omega)
  rw [List.drop_zero] at hy
  have m0 : ∀ k, 3000000 ≤ k → laws_markIntSS.f k l 1 = some (1 + (totL l : Int), y) := fun k hk => at_rounds (fun k => laws_markIntSS.mono l 1 k) hk hy
  obtain ⟨⟨a, b, c, d, e, o⟩, e1, e2, _, ho⟩ := PlaySource_both a0 a1 l
  replace ho : o.length ≤ 300 := ho
  (first | rw [t0 _ (by omega), Option.bind_some] | rw [Option.bind_some]); (try dsimp only)
  (first | rw [e1 _ (by omega), Option.bind_some] | rw [Option.bind_some]); (try dsimp only)
  (first | rw [t0 _ (by omega), Option.bind_some] | rw [Option.bind_some]); (try dsimp only)
  (first | rw [e2 _ (by omega), Option.bind_some] | rw [Option.bind_some]); (try dsimp only)
  (first | rw [eqSource_refl, Option.bind_some] | rw [Option.bind_some]); (try dsimp only)
  (first | rw [if_pos rfl] | rw [if_pos trivial]); (try dsimp only)
  (first | rw [eqIntS_refl (by omega) (by omega), Option.bind_some] | rw [Option.bind_some]); (try dsimp only)
  simp only [laws_FnExactPlaySource.j0, bne_self_eq_false, Bool.not_true, Bool.false_eq_true, if_false]
  (first | rw [t0 _ (by omega), Option.bind_some] | rw [Option.bind_some]); (try dsimp only)
  (first | rw [q0 _ (by omega), Option.bind_some] | rw [Option.bind_some]); (try dsimp only)
  (first | rw [if_pos rfl] | rw [if_pos trivial]); (try dsimp only)
  (first | rw [m0 _ (by omega), Option.bind_some] | rw [Option.bind_some]); (try dsimp only)
  rw [if_neg (by omega)]
  (first | rw [eqSource_refl, Option.bind_some] | rw [Option.bind_some]); (try dsimp only)
  (first | rw [if_pos rfl] | rw [if_pos trivial]); (try dsimp only)
  (first | rw [eqIntS_refl (by omega) (by omega), Option.bind_some] | rw [Option.bind_some]); (try dsimp only)
  simp only [laws_FnExactPlaySource.j1, bne_self_eq_false, Bool.not_true, Bool.false_eq_true, if_false]
  (first | rw [markIntS_eq (by omega) (by omega) (by omega) (by omega), Option.bind_some] | rw [Option.bind_some]); (try dsimp only)
  (first | rw [heldIntS_eq (by omega) (by omega) (by omega) (by omega), Option.bind_some] | rw [Option.bind_some]); (try dsimp only)
  rw [if_neg (by omega)]
  (first | rw [if_pos rfl] | rw [if_pos trivial]); (try dsimp only)
  (first | rw [t0 _ (by omega), Option.bind_some] | rw [Option.bind_some]); (try dsimp only)
  (first | rw [e2 _ (by omega), Option.bind_some] | rw [Option.bind_some]); (try dsimp only)
  (first | rw [eqSource_refl, Option.bind_some] | rw [Option.bind_some]); (try dsimp only)
  (first | rw [if_pos rfl] | rw [if_pos trivial]); (try dsimp only)
  (first | rw [eqIntS_refl (by omega) (by omega), Option.bind_some] | rw [Option.bind_some]); (try dsimp only)
  simp only [laws_FnExactPlaySource.j2, bne_self_eq_false, Bool.not_true, Bool.false_eq_true, if_false]
  (first | rw [heldIntS_eq (by omega) (by omega) (by omega) (by omega), Option.bind_some] | rw [Option.bind_some]); (try dsimp only)
  rw [if_neg (by omega)]
  (first | rw [if_pos rfl] | rw [if_pos trivial]); (try dsimp only)

end Go.Proofs.Ytcflalomjehiiaa.Pure
