/-
  The law FnExactAddEvent answers true: the program's AddEvent is the reference's, in new memory, for all arguments. No condition.
-/
import Derived.Test.YtaofcalmgodgjaaQFnExactAddEventx13
namespace Go.Proofs.Ytaofcalmgodgjaa.Pure
open Go.RowKit Go.Proofs.Ytaofcalmgodgjaa.QFnExactAddEvent Go.Proofs.YtaofcalmgodgjaaW.PrintWords Go.Proofs.YtaofcalmgodgjaaW.PrintLast Go.Proofs.YtaofcalmgodgjaaW.PrintMore
set_option linter.unusedSimpArgs false
set_option linter.unusedVariables false

theorem spec_in_eq (a lo hi : Int) : spec_l01In.f a lo hi = some (decide (lo ≤ a ∧ a ≤ hi)) := by
  unfold spec_l01In.f; by_cases h : lo ≤ a <;> simp [h]

theorem spec_l05Value_eq (a : Int) : spec_l05Value.f a = some (decide ((-1000000) ≤ a ∧ a ≤ 1000000)) := by
  simp only [spec_l05Value.f, spec_in_eq, Option.bind_some]

theorem impl_within_eq (a lo hi : Int) : impl_within.f a lo hi = some (decide (lo ≤ a ∧ a ≤ hi)) := by
  unfold impl_within.f; by_cases h : lo ≤ a <;> simp [h]

theorem impl_isTime_eq (a : Int) : impl_isTime.f a = some (decide (0 ≤ a ∧ a ≤ 1000000)) := by
  simp only [impl_isTime.f, impl_within_eq, Option.bind_some]

theorem impl_isKey_eq (a : Int) : impl_isKey.f a = some (decide (0 ≤ a ∧ a ≤ 65535)) := by
  simp only [impl_isKey.f, impl_within_eq, Option.bind_some]

theorem impl_isSum_eq (a : Int) : impl_isSum.f a = some (decide ((-1000000000) ≤ a ∧ a ≤ 1000000000)) := by
  simp only [impl_isSum.f, impl_within_eq, Option.bind_some]

theorem impl_isValue_eq (a : Int) : impl_isValue.f a = some (decide ((-1000000) ≤ a ∧ a ≤ 1000000)) := by
  simp only [impl_isValue.f, impl_within_eq, Option.bind_some]

theorem impl_AggOk_eq (a b c d e f : Int) : impl_AggOk.f a b c d e f = spec_AggOk.f a b c d e f := by
  simp only [impl_AggOk.f, spec_AggOk.f, spec_in_eq, spec_l05Value_eq, impl_within_eq, impl_isTime_eq, impl_isKey_eq, impl_isSum_eq, impl_isValue_eq]
theorem spec_AggOk_some (a b c d e f : Int) : ∃ r, spec_AggOk.f a b c d e f = some r := by
  simp only [spec_AggOk.f, spec_in_eq, spec_l05Value_eq, Option.bind_some]
  (repeat' split) <;> exact ⟨_, rfl⟩

def aggOkB (a b c d e f : Int) : Bool :=
  decide (0 ≤ a ∧ a ≤ 1000000) && (decide (0 ≤ b ∧ b ≤ 65535) && (decide (1 ≤ c ∧ c ≤ 1000000000) && (decide (-1000000000 ≤ d ∧ d ≤ 1000000000) && (decide (-1000000 ≤ e ∧ e ≤ 1000000) && (decide (-1000000 ≤ f ∧ f ≤ 1000000) && decide (e ≤ f))))))
theorem spec_AggOk_eq (a b c d e f : Int) : spec_AggOk.f a b c d e f = some (aggOkB a b c d e f) := by
  simp only [spec_AggOk.f, spec_in_eq, spec_l05Value_eq, Option.bind_some, aggOkB]
  by_cases h1 : 0 ≤ a ∧ a ≤ 1000000
  · by_cases h2 : 0 ≤ b ∧ b ≤ 65535
    · by_cases h3 : 1 ≤ c ∧ c ≤ 1000000000
      · by_cases h4 : -1000000000 ≤ d ∧ d ≤ 1000000000
        · by_cases h5 : -1000000 ≤ e ∧ e ≤ 1000000
          · by_cases h6 : -1000000 ≤ f ∧ f ≤ 1000000
            · simp [h1, h2, h3, h4, h5, h6]
            · simp [h1, h2, h3, h4, h5, h6]
          · simp [h1, h2, h3, h4, h5]
        · simp [h1, h2, h3, h4]
      · simp [h1, h2, h3]
    · simp [h1, h2]
  · simp [h1]
theorem aggOkB_iff (a b c d e f : Int) : aggOkB a b c d e f = true ↔ (0 ≤ a ∧ a ≤ 1000000) ∧ (0 ≤ b ∧ b ≤ 65535) ∧ (1 ≤ c ∧ c ≤ 1000000000) ∧ (-1000000000 ≤ d ∧ d ≤ 1000000000) ∧ (-1000000 ≤ e ∧ e ≤ 1000000) ∧ (-1000000 ≤ f ∧ f ≤ 1000000) ∧ e ≤ f := by
  simp [aggOkB]

def okS (x : S62) : Bool := aggOkB x.f0 x.f1 x.f2 x.f3 x.f4 x.f5
def ahS (x y : S62) : Prop := x.f0 < y.f0 ∨ (x.f0 = y.f0 ∧ x.f1 < y.f1)
instance (x y : S62) : Decidable (ahS x y) := by unfold ahS; infer_instance
theorem spec_l05Ahead_eq (x y : S62) : spec_l05Ahead.f x.f0 x.f1 x.f2 x.f3 x.f4 x.f5 y.f0 y.f1 y.f2 y.f3 y.f4 y.f5 = some (decide (ahS x y)) := by
  unfold spec_l05Ahead.f ahS
  by_cases h1 : x.f0 < y.f0
  · simp [h1]
  · by_cases h2 : x.f0 = y.f0
    · simp [h2]
    · simp [h1, h2]
def AllOk (l : List S62) : Prop := ∀ j : Nat, j < l.length → okS (rd_T62 l (j : Int)) = true
def Srt (l : List S62) : Prop := ∀ j : Nat, j < l.length - 1 → ahS (rd_T62 l (j : Int)) (rd_T62 l ((j + 1 : Nat) : Int))
def ShOk (l : List S62) (m a o : Int) : Prop := l.length ≤ 40 ∧ (-1 ≤ m ∧ m ≤ 1000000) ∧ (0 ≤ a ∧ a ≤ 1000000000) ∧ (0 ≤ o ∧ o ≤ 1000000000) ∧ AllOk l ∧ Srt l
instance (l : List S62) (m a o : Int) : Decidable (ShOk l m a o) := by unfold ShOk AllOk Srt; infer_instance

theorem spec_l04Mark_eq (a : Int) : spec_l04Mark.f a = some (decide ((-1) ≤ a ∧ a ≤ 1000000)) := by
  simp only [spec_l04Mark.f, spec_in_eq, Option.bind_some]

theorem wi {i : Nat} (h : i < 4611686018427387904) : wrap64 ((i : Int) + 1) = ((i + 1 : Nat) : Int) := by
  unfold wrap64; omega

theorem w64 {x : Int} (h1 : -9223372036854775808 ≤ x) (h2 : x ≤ 9223372036854775807) : wrap64 x = x := by
  unfold wrap64; omega

theorem spec_ShardOk_l0 (l : List S62) (hn : l.length ≤ 40) (m a o : Int) : ∀ (d k i : Nat), i + d = l.length → d < k → ∃ b, spec_ShardOk.l0 k (i : Int) l m a o = some b ∧
    (b = true ↔ ∀ j : Nat, i ≤ j → j < l.length → okS (rd_T62 l (j : Int)) = true ∧ (0 < j → ahS (rd_T62 l ((j : Int) - 1)) (rd_T62 l (j : Int)))) := by
  intro d
  induction d with
  | zero =>
    intro k i h hk
    obtain ⟨k, rfl⟩ : ∃ m, k = m + 1 := ⟨k - 1, by omega⟩
    simp only [spec_ShardOk.l0]
    rw [if_neg (by omega)]
    exact ⟨true, rfl, (fun _ j h1 h2 => by omega), fun _ => rfl⟩
  | succ d ih =>
    intro k i h hk
    obtain ⟨k, rfl⟩ : ∃ m, k = m + 1 := ⟨k - 1, by omega⟩
    simp only [spec_ShardOk.l0]
    rw [if_pos (by omega), if_pos (by omega), spec_AggOk_eq, Option.bind_some]
    obtain ⟨b, e1, e2⟩ := ih k (i + 1) (by omega) (by omega)
    have step : (okS (rd_T62 l (i : Int)) = true ∧ (0 < i → ahS (rd_T62 l ((i : Int) - 1)) (rd_T62 l (i : Int)))) → (b = true ↔ ∀ j : Nat, i ≤ j → j < l.length → okS (rd_T62 l (j : Int)) = true ∧ (0 < j → ahS (rd_T62 l ((j : Int) - 1)) (rd_T62 l (j : Int)))) := by
      intro hi
      rw [e2]
      refine ⟨fun H j h1 h2 => ?_, fun H j h1 h2 => H j (by omega) h2⟩
      by_cases e : i = j
      · subst e; exact hi
      · exact H j (by omega) h2
    by_cases h1 : okS (rd_T62 l (i : Int)) = true
    · have h1' : aggOkB (rd_T62 l (i : Int)).f0 (rd_T62 l (i : Int)).f1 (rd_T62 l (i : Int)).f2 (rd_T62 l (i : Int)).f3 (rd_T62 l (i : Int)).f4 (rd_T62 l (i : Int)).f5 = true := h1
      rw [if_pos h1']
      by_cases h2 : (i : Int) > 0
      · rw [if_pos h2, w64 (x := (i : Int) - 1) (by omega) (by omega), if_pos (by omega), if_pos (by omega), spec_l05Ahead_eq, Option.bind_some]
        by_cases h3 : ahS (rd_T62 l ((i : Int) - 1)) (rd_T62 l (i : Int))
        · rw [if_pos (decide_eq_true h3), wi (by omega)]
          exact ⟨b, e1, step ⟨h1, fun _ => h3⟩⟩
        · rw [if_neg (by rw [decide_eq_true_eq]; exact h3)]
          refine ⟨false, rfl, (fun h => by cases h), fun H => absurd ((H i (Nat.le_refl _) (by omega)).2 (by omega)) h3⟩
      · rw [if_neg h2, wi (by omega)]
        exact ⟨b, e1, step ⟨h1, fun h => by omega⟩⟩
    · have h1' : ¬ aggOkB (rd_T62 l (i : Int)).f0 (rd_T62 l (i : Int)).f1 (rd_T62 l (i : Int)).f2 (rd_T62 l (i : Int)).f3 (rd_T62 l (i : Int)).f4 (rd_T62 l (i : Int)).f5 = true := h1
      rw [if_neg h1']
      refine ⟨false, rfl, (fun h => by cases h), fun H => absurd (H i (Nat.le_refl _) (by omega)).1 h1⟩
theorem srt_pred {l : List S62} : Srt l ↔ ∀ j : Nat, j < l.length → 0 < j → ahS (rd_T62 l ((j : Int) - 1)) (rd_T62 l (j : Int)) := by
  unfold Srt
  constructor
  · intro H j h1 h2
    have := H (j - 1) (by omega)
    rw [show ((j - 1 : Nat) : Int) = (j : Int) - 1 by omega, show ((j - 1 + 1 : Nat) : Int) = (j : Int) by omega] at this
    exact this
  · intro H j h1
    have := H (j + 1) (by omega) (by omega)
    rw [show ((j + 1 : Nat) : Int) - 1 = (j : Int) by omega] at this
    exact this
theorem spec_ShardOk_eq {k : Nat} (hk : 100 ≤ k) (l : List S62) (m a o : Int) : spec_ShardOk.f k l m a o = some (decide (ShOk l m a o)) := by
  obtain ⟨k, rfl⟩ : ∃ m, k = m + 1 := ⟨k - 1, by omega⟩
  unfold spec_ShardOk.f
  by_cases h0 : (l.length : Int) > 40
  · rw [if_pos h0]
    simp only [spec_ShardOk.j0, if_true]
    rw [decide_eq_false (fun h => by have := h.1; omega)]
  · rw [if_neg h0, spec_l04Mark_eq, spec_in_eq, spec_in_eq, Option.bind_some, Option.bind_some, Option.bind_some]
    have F : ∀ (P : Prop) [Decidable P], ¬ P → ¬ (decide P = true) := fun P _ h => by rw [decide_eq_true_eq]; exact h
    by_cases h1 : -1 ≤ m ∧ m ≤ 1000000
    · rw [if_pos (decide_eq_true h1)]
      by_cases h2 : 0 ≤ a ∧ a ≤ 1000000000
      · rw [if_pos (decide_eq_true h2)]
        by_cases h3 : 0 ≤ o ∧ o ≤ 1000000000
        · rw [decide_eq_true h3]
          simp only [spec_ShardOk.j0, Bool.not_true, Bool.false_eq_true, if_false]
          obtain ⟨b, e1, e2⟩ := spec_ShardOk_l0 l (by omega) m a o l.length k 0 (by omega) (by omega)
          rw [show ((0 : Nat) : Int) = 0 from rfl] at e1
          rw [e1]
          congr 1
          rw [Bool.eq_iff_iff, decide_eq_true_eq, e2]
          constructor
          · intro H
            exact ⟨by omega, h1, h2, h3, fun j hj => (H j (by omega) hj).1, srt_pred.2 fun j hj h => (H j (by omega) hj).2 h⟩
          · intro H j _ hj
            exact ⟨H.2.2.2.2.1 j hj, srt_pred.1 H.2.2.2.2.2 j hj⟩
        · rw [decide_eq_false h3]
          simp only [spec_ShardOk.j0, Bool.not_false, if_true]
          rw [decide_eq_false (fun h => h3 h.2.2.2.1)]
      · rw [if_neg (F _ h2)]
        simp only [spec_ShardOk.j0, if_true]
        rw [decide_eq_false (fun h => h2 h.2.2.1)]
    · rw [if_neg (F _ h1)]
      simp only [spec_ShardOk.j0, if_true]
      rw [decide_eq_false (fun h => h1 h.2.1)]

theorem impl_isMark_eq (a : Int) : impl_isMark.f a = some (decide ((-1) ≤ a ∧ a ≤ 1000000)) := by
  simp only [impl_isMark.f, impl_within_eq, Option.bind_some]

def cmpV (a b : Int) : Int := if a < b then -1 else if a > b then 1 else 0
theorem cmp_Compare_eq (a b : Int) : cmp_Compare_int.f a b = some (cmpV a b) := by
  simp only [cmp_Compare_int.f, cmp_isNaN_int.f, Option.bind_some, bne_self_eq_false, Bool.false_eq_true, if_false, cmpV]
  (repeat' split) <;> rfl
def ordV (a b c d : Int) : Int := if cmpV a c = 0 then cmpV b d else cmpV a c
theorem cmp_Or_eq {k : Nat} (hk : 3 ≤ k) (a b : Int) : cmp_Or_int.f k [a, b] = some (if a = 0 then b else a) := by
  obtain ⟨k, rfl⟩ : ∃ m, k = m + 1 + 1 + 1 := ⟨k - 3, by omega⟩
  have w0 : wrap64 (0 + 1) = 1 := by unfold wrap64; omega
  have w1 : wrap64 (1 + 1) = 2 := by unfold wrap64; omega
  have r0 : rd [a, b] 0 = a := rfl
  have r1 : rd [a, b] 1 = b := rfl
  simp only [cmp_Or_int.f, cmp_Or_int.l0, List.length_cons, List.length_nil, w0, w1, r0, r1]
  by_cases h1 : a = 0
  · by_cases h2 : b = 0
    · simp [h1, h2]
    · simp [h1, h2]
  · simp [h1]
theorem impl_aggOrder_eq {k : Nat} (hk : 3 ≤ k) (a b c d e f a' b' c' d' e' f' : Int) : impl_aggOrder.f k a b c d e f a' b' c' d' e' f' = some (ordV a b a' b') := by
  simp only [impl_aggOrder.f, cmp_Compare_eq, cmp_Or_eq hk, Option.bind_some, ordV]
theorem cmpV_zero (a b : Int) : cmpV a b = 0 ↔ a = b := by
  unfold cmpV
  split
  · omega
  · split <;> omega
theorem ordV_zero (a b c d : Int) : ordV a b c d = 0 ↔ a = c ∧ b = d := by
  unfold ordV
  by_cases h : cmpV a c = 0
  · rw [if_pos h, cmpV_zero]
    exact ⟨fun h2 => ⟨(cmpV_zero _ _).1 h, h2⟩, fun h2 => h2.2⟩
  · rw [if_neg h]
    exact ⟨fun h2 => absurd h2 h, fun h2 => absurd ((cmpV_zero _ _).2 h2.1) h⟩

theorem rdAL_at {x : List S86} {i : Nat} (h : i < x.length) : x[i]? = some (rd_T86 x (i : Int)) := by
  simp [rd_T86, List.getD_eq_getElem?_getD, List.getElem?_eq_getElem h]
theorem rdAI_at {x : List S62} {i : Nat} (h : i < x.length) : x[i]? = some (rd_T62 x (i : Int)) := by
  simp [rd_T62, List.getD_eq_getElem?_getD, List.getElem?_eq_getElem h]
theorem rdAI_get {x : List S62} {i : Nat} (h : i < x.length) : rd_T62 x (i : Int) = x[i] := by
  simp [rd_T62, List.getD_eq_getElem?_getD, List.getElem?_eq_getElem h]

theorem ordV_ahead (x y : S62) : ordV x.f0 x.f1 y.f0 y.f1 ≥ 0 ↔ ¬ ahS x y := by
  unfold ordV cmpV ahS
  (repeat' split) <;> omega
theorem areAggs_idx (l : List S62) (p : S62 → Option Bool) (hp : ∀ x, p x = some (!(okS x))) : ∀ i : Nat, ∃ r, idx62 p l i = some r ∧ (r ≥ 0 ↔ ¬ ∀ x ∈ l, okS x = true) := by
  induction l with
  | nil => intro i; exact ⟨-1, rfl, by constructor <;> simp⟩
  | cons x xs ih =>
    intro i
    unfold idx62
    rw [hp, Option.bind_some]
    by_cases h : okS x = true
    · rw [h, Bool.not_true, if_neg (by simp)]
      obtain ⟨r, e1, e2⟩ := ih (i + 1)
      refine ⟨r, e1, e2.trans ?_⟩
      simp [h]
    · rw [Bool.eq_false_iff.2 h, Bool.not_false, if_pos rfl]
      refine ⟨_, rfl, fun _ H => h (H x (by simp)), fun _ => by omega⟩
theorem all_at {l : List S62} : (∀ x ∈ l, okS x = true) ↔ AllOk l := by
  unfold AllOk
  constructor
  · intro H j hj
    rw [rdAI_get hj]
    exact H _ (List.getElem_mem hj)
  · intro H x hx
    obtain ⟨j, hj, rfl⟩ := List.getElem_of_mem hx
    rw [← rdAI_get hj]
    exact H j hj
theorem impl_areAggs_eq (l : List S62) : ∃ b, impl_areAggs.f l = some b ∧ (b = true ↔ AllOk l) := by
  obtain ⟨r, e1, e2⟩ := areAggs_idx l (fun x => impl_areAggs_1.f x.f0 x.f1 x.f2 x.f3 x.f4 x.f5) (fun x => by
    simp only [impl_areAggs_1.f, impl_AggOk_eq, spec_AggOk_eq, Option.bind_some]
    rfl) 0
  refine ⟨!(decide (r ≥ 0)), by unfold impl_areAggs.f; rw [e1, Option.bind_some], ?_⟩
  rw [Bool.not_eq_true', decide_eq_false_iff_not, e2, all_at, Classical.not_not]
theorem impl_areSorted_l0 (l : List S62) (hn : l.length ≤ 1048576) : ∀ (d k i : Nat), 1 ≤ i → i + d = max l.length 1 → d + 3 < k → ∃ b, impl_areSorted.l0 k l (i : Int) = some b ∧
    (b = true ↔ ∀ j : Nat, i ≤ j → j < l.length → ahS (rd_T62 l ((j : Int) - 1)) (rd_T62 l (j : Int))) := by
  intro d
  induction d with
  | zero =>
    intro k i hi h hk
    obtain ⟨k, rfl⟩ : ∃ m, k = m + 1 := ⟨k - 1, by omega⟩
    simp only [impl_areSorted.l0]
    rw [if_neg (by omega)]
    exact ⟨true, rfl, (fun _ j h1 h2 => by omega), fun _ => rfl⟩
  | succ d ih =>
    intro k i hi h hk
    obtain ⟨k, rfl⟩ : ∃ m, k = m + 1 := ⟨k - 1, by omega⟩
    simp only [impl_areSorted.l0]
    rw [w64 (x := (i : Int) - 1) (by omega) (by omega), if_pos (by omega), if_pos (by omega), if_pos (by omega), if_pos (by omega), impl_aggOrder_eq (by omega), Option.bind_some]
    by_cases h3 : ahS (rd_T62 l ((i : Int) - 1)) (rd_T62 l (i : Int))
    · rw [if_neg (fun hh => (ordV_ahead _ _).1 hh h3), wi (by omega)]
      obtain ⟨b, e1, e2⟩ := ih k (i + 1) (by omega) (by omega) (by omega)
      refine ⟨b, e1, e2.trans ⟨fun H j h1 h2 => ?_, fun H j h1 h2 => H j (by omega) h2⟩⟩
      by_cases e : i = j
      · subst e; exact h3
      · exact H j (by omega) h2
    · rw [if_pos ((ordV_ahead _ _).2 h3)]
      refine ⟨false, rfl, (fun h => by cases h), fun H => absurd (H i (Nat.le_refl _) (by omega)) h3⟩
theorem impl_isMany_eq (n : Int) : impl_isMany.f n = some (decide (0 ≤ n ∧ n ≤ 1000000000)) := by
  simp only [impl_isMany.f, impl_within_eq, Option.bind_some]
theorem impl_ShardOk_eq {k : Nat} (hk : 100 ≤ k) (l : List S62) (m a o : Int) : impl_ShardOk.f k l m a o = some (decide (ShOk l m a o)) := by
  have F : ∀ (P : Prop) [Decidable P], ¬ P → ¬ (decide P = true) := fun P _ h => by rw [decide_eq_true_eq]; exact h
  unfold impl_ShardOk.f
  by_cases h0 : (l.length : Int) ≤ 40
  · rw [if_pos h0]
    obtain ⟨b, e1, e2⟩ := impl_areAggs_eq l
    rw [e1, Option.bind_some]
    by_cases h1 : b = true
    · rw [if_pos h1]
      obtain ⟨s, f1, f2⟩ := impl_areSorted_l0 l (by omega) (max l.length 1 - 1) k 1 (by omega) (by omega) (by omega)
      unfold impl_areSorted.f
      rw [show ((1 : Nat) : Int) = 1 from rfl] at f1
      rw [f1, Option.bind_some, impl_isMark_eq, impl_isMany_eq, impl_isMany_eq, Option.bind_some, Option.bind_some, Option.bind_some]
      have f3 : s = true ↔ Srt l := f2.trans (Iff.trans ⟨fun H j h1 h2 => H j h2 h1, fun H j h1 h2 => H j h2 h1⟩ srt_pred.symm)
      by_cases g1 : s = true
      · rw [if_pos g1]
        by_cases g2 : -1 ≤ m ∧ m ≤ 1000000
        · rw [if_pos (decide_eq_true g2)]
          by_cases g3 : 0 ≤ a ∧ a ≤ 1000000000
          · rw [if_pos (decide_eq_true g3)]
            congr 1
            rw [Bool.eq_iff_iff, decide_eq_true_eq, decide_eq_true_eq]
            exact ⟨fun g4 => ⟨by omega, g2, g3, g4, e2.1 h1, f3.1 g1⟩, fun g => g.2.2.2.1⟩
          · rw [if_neg (F _ g3), decide_eq_false (fun h => g3 h.2.2.1)]
        · rw [if_neg (F _ g2), decide_eq_false (fun h => g2 h.2.1)]
      · rw [if_neg g1, decide_eq_false (fun h => g1 (f3.2 h.2.2.2.2.2))]
    · rw [if_neg h1, decide_eq_false (fun h => h1 (e2.2 h.2.2.2.2.1))]
  · rw [if_neg h0, decide_eq_false (fun h => by have := h.1; omega)]

theorem spec_l05Copy_l0 (x0 : List S62) (hn : x0.length ≤ 1048576) (m a o : Int) : ∀ (d k i : Nat), i + d = x0.length → d < k → spec_l05Copy.l0 k (i : Int) x0 m a o (x0.take i) m a o = some (x0, m, a, o) := by
  intro d
  induction d with
  | zero =>
    intro k i h hk
    obtain ⟨k, rfl⟩ : ∃ m, k = m + 1 := ⟨k - 1, by omega⟩
    simp only [spec_l05Copy.l0]
    rw [if_neg (by omega), List.take_of_length_le (by omega)]
  | succ d ih =>
    intro k i h hk
    obtain ⟨k, rfl⟩ : ∃ m, k = m + 1 := ⟨k - 1, by omega⟩
    simp only [spec_l05Copy.l0]
    have e : x0.take i ++ [rd_T62 x0 (i : Int)] = x0.take (i + 1) := by
      rw [List.take_succ_eq_append_getElem (by omega), rdAI_get (by omega)]
    rw [if_pos (by omega), if_pos (by omega), if_pos (by rw [List.length_take]; omega), wi (by omega)]
    rw [show x0.take i ++ [(⟨(rd_T62 x0 (i : Int)).f0, (rd_T62 x0 (i : Int)).f1, (rd_T62 x0 (i : Int)).f2, (rd_T62 x0 (i : Int)).f3, (rd_T62 x0 (i : Int)).f4, (rd_T62 x0 (i : Int)).f5⟩ : S62)] = x0.take (i + 1) from e]
    exact ih k (i + 1) (by omega) (by omega)
theorem spec_l05Copy_eq {k : Nat} {l : List S62} {m a o : Int} (hn : l.length ≤ 1048576) (hk : l.length < k) : spec_l05Copy.f k l m a o = some (l, m, a, o) := by
  have h := spec_l05Copy_l0 l hn m a o l.length k 0 (by omega) hk
  simpa [spec_l05Copy.f] using h
theorem impl_ownShard_eq {l : List S62} {m a o : Int} (hn : l.length ≤ 1048576) : impl_ownShard.f l m a o = some (l, m, a, o) := by
  have e : l.length < 2932031007402 := by omega
  simp [impl_ownShard.f, slices_Clone_impl_Agg_impl_Agg.f, e]

def capV (x : Int) : Int := if x > 1000000000 then 1000000000 else if x < -1000000000 then -1000000000 else x
theorem spec_l05Cap_eq (x : Int) : spec_l05Cap.f x = some (capV x) := by
  unfold spec_l05Cap.f capV
  (repeat' split) <;> rfl
def sumV (a b c d e f c' d' e' f' : Int) : Int × Int × Int × Int × Int × Int := (a, b, capV (c + c'), capV (d + d'), mn e e', mx f f')
theorem spec_l05Sum_eq {a b c d e f a' b' c' d' e' f' : Int} (h1 : -1000000000 ≤ c ∧ c ≤ 1000000000) (h2 : -1000000000 ≤ c' ∧ c' ≤ 1000000000) (h3 : -1000000000 ≤ d ∧ d ≤ 1000000000) (h4 : -1000000000 ≤ d' ∧ d' ≤ 1000000000) :
    spec_l05Sum.f a b c d e f a' b' c' d' e' f' = some (sumV a b c d e f c' d' e' f') := by
  simp only [spec_l05Sum.f, spec_l05Cap_eq, w64 (x := c + c') (by omega) (by omega), w64 (x := d + d') (by omega) (by omega), Option.bind_some, sumV, mn, mx]
  by_cases h5 : e' < e
  · by_cases h6 : f' > f
    · rw [if_pos h5, if_pos h6, if_pos h5, if_pos (by omega)]
    · rw [if_pos h5, if_neg h6, if_pos h5, if_neg (by omega)]
  · by_cases h6 : f' > f
    · rw [if_neg h5, if_pos h6, if_neg h5, if_pos (by omega)]
    · rw [if_neg h5, if_neg h6, if_neg h5, if_neg (by omega)]
theorem impl_merged_eq {a b c d e f a' b' c' d' e' f' : Int} (h1 : 1 ≤ c ∧ c ≤ 1000000000) (h2 : 1 ≤ c' ∧ c' ≤ 1000000000) (h3 : -1000000000 ≤ d ∧ d ≤ 1000000000) (h4 : -1000000000 ≤ d' ∧ d' ≤ 1000000000) :
    impl_merged.f a b c d e f a' b' c' d' e' f' = some (sumV a b c d e f c' d' e' f') := by
  have e1 : mn (c + c') 1000000000 = capV (c + c') := by
    unfold mn capV; (repeat' split) <;> omega
  have e2 : mn (mx (d + d') (-1000000000)) 1000000000 = capV (d + d') := by
    unfold mn mx capV; (repeat' split) <;> omega
  simp only [impl_merged.f, impl_sumOf.f, w64 (x := c + c') (by omega) (by omega), w64 (x := d + d') (by omega) (by omega), Option.bind_some, sumV, e1, e2]

theorem impl_FrameOk_eq (a b c d : Int) : impl_FrameOk.f a b c d = spec_FrameOk.f a b c d := by
  simp only [impl_FrameOk.f, spec_FrameOk.f, spec_in_eq, impl_isKey_eq, impl_isTime_eq, impl_isValue_eq, Option.bind_some]
  by_cases h1 : a = 1
  · simp [h1]
  · by_cases h2 : a = 2
    · simp [h2]
    · by_cases h3 : a = 3
      · by_cases h4 : b = 0
        · by_cases h5 : c = 0
          · simp [h3, h4, h5]
          · simp [h3, h4, h5]
        · simp [h3, h4]
      · simp [h1, h2, h3]
theorem spec_FrameOk_some (a b c d : Int) : ∃ r, spec_FrameOk.f a b c d = some r := by
  simp only [spec_FrameOk.f, spec_in_eq, Option.bind_some]
  (repeat' split) <;> exact ⟨_, rfl⟩

def frameOkB (a b c d : Int) : Bool :=
  if a = 1 then decide (0 ≤ b ∧ b ≤ 65535) && (decide (0 ≤ c ∧ c ≤ 1000000) && decide (-1000000 ≤ d ∧ d ≤ 1000000))
  else if a = 2 then decide (b = 0) && (decide (0 ≤ c ∧ c ≤ 1000000) && decide (d = 0))
  else if a = 3 then decide (b = 0) && (decide (c = 0) && decide (d = 0)) else false
theorem spec_FrameOk_eq (a b c d : Int) : spec_FrameOk.f a b c d = some (frameOkB a b c d) := by
  simp only [spec_FrameOk.f, spec_in_eq, Option.bind_some, frameOkB]
  by_cases h1 : a = 1
  · rw [if_pos h1, if_pos h1]
    by_cases h2 : 0 ≤ b ∧ b ≤ 65535
    · by_cases h3 : 0 ≤ c ∧ c ≤ 1000000
      · simp [h2, h3]
      · simp [h2, h3]
    · simp [h2]
  · rw [if_neg h1, if_neg h1]
    by_cases h2 : a = 2
    · rw [if_pos h2, if_pos h2]
      by_cases h3 : b = 0
      · by_cases h4 : 0 ≤ c ∧ c ≤ 1000000
        · simp [h3, h4]; rfl
        · simp [h3, h4]
      · simp [h3]
    · rw [if_neg h2, if_neg h2]
      by_cases h3 : a = 3
      · by_cases h4 : b = 0
        · by_cases h5 : c = 0
          · simp [h3, h4, h5]; rfl
          · simp [h3, h4, h5]
        · simp [h3, h4]
      · simp [h3]
theorem frameOkB_kind {a b c d : Int} (h : frameOkB a b c d = true) : (a = 1 ∧ (0 ≤ b ∧ b ≤ 65535) ∧ (0 ≤ c ∧ c ≤ 1000000) ∧ (-1000000 ≤ d ∧ d ≤ 1000000)) ∨ (a = 2 ∧ b = 0 ∧ (0 ≤ c ∧ c ≤ 1000000) ∧ d = 0) ∨ (a = 3 ∧ b = 0 ∧ c = 0 ∧ d = 0) := by
  unfold frameOkB at h
  by_cases h1 : a = 1
  · rw [if_pos h1] at h
    simp at h
    exact .inl ⟨h1, h.1, h.2.1, h.2.2⟩
  · rw [if_neg h1] at h
    by_cases h2 : a = 2
    · rw [if_pos h2] at h
      simp at h
      exact .inr (.inl ⟨h2, h.1, h.2.1, h.2.2⟩)
    · rw [if_neg h2] at h
      by_cases h3 : a = 3
      · rw [if_pos h3] at h
        simp at h
        exact .inr (.inr ⟨h3, h.1, h.2.1, h.2.2⟩)
      · rw [if_neg h3] at h
        cases h

def endV (w s : Int) : Int := if (0 ≤ w ∧ w ≤ 1000000) ∧ (1 ≤ s ∧ s ≤ 1000000) then wrap64 ((wrap64 ((wrap64 (w + 1)) * s)) - 1) else -1
theorem endV_val {w s : Int} (h0 : 0 ≤ w) (h1 : w ≤ 1000000) (h2 : 1 ≤ s) (h3 : s ≤ 1000000) : endV w s = (w + 1) * s - 1 := by
  unfold endV
  have a1 : (w + 1) * s ≤ 1000001 * 1000000 := Int.mul_le_mul (by omega) (by omega) (by omega) (by omega)
  have a2 : 0 ≤ (w + 1) * s := Int.mul_nonneg (by omega) (by omega)
  rw [if_pos ⟨⟨h0, h1⟩, h2, h3⟩, w64 (x := w + 1) (by omega) (by omega), w64 (x := (w + 1) * s) (by omega) (by omega), w64 (x := (w + 1) * s - 1) (by omega) (by omega)]
theorem endV_mono {w w' s : Int} (h0 : 0 ≤ w) (h : w ≤ w') (h1 : w' ≤ 1000000) (h2 : 1 ≤ s) (h3 : s ≤ 1000000) : endV w s ≤ endV w' s := by
  rw [endV_val h0 (by omega) h2 h3, endV_val (by omega) h1 h2 h3]
  have : (w + 1) * s ≤ (w' + 1) * s := Int.mul_le_mul_of_nonneg_right (by omega) (by omega)
  omega
theorem spec_WindowEnd_eq (w s : Int) : spec_WindowEnd.f w s = some (endV w s) := by
  simp only [spec_WindowEnd.f, spec_in_eq, Option.bind_some, endV]
  by_cases h1 : 0 ≤ w ∧ w ≤ 1000000
  · by_cases h2 : 1 ≤ s ∧ s ≤ 1000000
    · simp [h1, h2]
    · simp [h1, h2]
  · simp [h1]
theorem impl_isSize_eq (s : Int) : impl_isSize.f s = some (decide (1 ≤ s ∧ s ≤ 1000000)) := by
  simp only [impl_isSize.f, impl_within_eq, Option.bind_some]
theorem impl_WindowEnd_eq (w s : Int) : impl_WindowEnd.f w s = some (endV w s) := by
  simp only [impl_WindowEnd.f, impl_isTime_eq, impl_isSize_eq, Option.bind_some, endV]
  by_cases h1 : 0 ≤ w ∧ w ≤ 1000000
  · by_cases h2 : 1 ≤ s ∧ s ≤ 1000000
    · simp [h1, h2]
    · simp [h1, h2]
  · simp [h1]
def clos (m s : Int) (x : S62) : Bool := decide (endV x.f0 s ≤ m)

theorem ahS_trans {x y z : S62} (h1 : ahS x y) (h2 : ahS y z) : ahS x z := by
  unfold ahS at *
  omega
theorem srt_lt {l : List S62} (h : Srt l) : ∀ d i : Nat, i + d + 1 < l.length → ahS (rd_T62 l (i : Int)) (rd_T62 l ((i + d + 1 : Nat) : Int)) := by
  intro d
  induction d with
  | zero => intro i hi; exact h i (by omega)
  | succ d ih =>
    intro i hi
    exact ahS_trans (ih i (by omega)) (h (i + d + 1) (by omega))
theorem exF {l : List S62} (hs : Srt l) (x : S62) : ∃ F : Nat, F ≤ l.length ∧ (∀ j : Nat, j < F → ahS (rd_T62 l (j : Int)) x) ∧ (∀ j : Nat, F ≤ j → j < l.length → ¬ ahS (rd_T62 l (j : Int)) x) := by
  have key : ∀ n : Nat, n ≤ l.length → (∀ j : Nat, j < n → ahS (rd_T62 l (j : Int)) x) ∨ ∃ F : Nat, F < n ∧ (∀ j : Nat, j < F → ahS (rd_T62 l (j : Int)) x) ∧ ¬ ahS (rd_T62 l (F : Int)) x := by
    intro n
    induction n with
    | zero => intro _; exact .inl (fun j hj => by omega)
    | succ n ih =>
      intro hn
      rcases ih (by omega) with h | ⟨F, h1, h2, h3⟩
      · by_cases h4 : ahS (rd_T62 l (n : Int)) x
        · refine .inl (fun j hj => ?_)
          by_cases e : j = n
          · subst e; exact h4
          · exact h j (by omega)
        · exact .inr ⟨n, by omega, h, h4⟩
      · exact .inr ⟨F, by omega, h2, h3⟩
  rcases key l.length (Nat.le_refl _) with h | ⟨F, h1, h2, h3⟩
  · exact ⟨l.length, Nat.le_refl _, h, fun j h1 h2 => by omega⟩
  · refine ⟨F, by omega, h2, fun j h4 h5 h6 => h3 ?_⟩
    by_cases e : j = F
    · subst e; exact h6
    · have := srt_lt hs (j - F - 1) F (by omega)
      rw [show F + (j - F - 1) + 1 = j by omega] at this
      exact ahS_trans this h6
def sumS (y x : S62) : S62 := ⟨y.f0, y.f1, capV (y.f2 + x.f2), capV (y.f3 + x.f3), mn y.f4 x.f4, mx y.f5 x.f5⟩
theorem okS_range {x : S62} (h : okS x = true) : (1 ≤ x.f2 ∧ x.f2 ≤ 1000000000) ∧ (-1000000000 ≤ x.f3 ∧ x.f3 ≤ 1000000000) := by
  have := (aggOkB_iff _ _ _ _ _ _).1 h
  exact ⟨this.2.2.1, this.2.2.2.1⟩
theorem spec_Add_found {l : List S62} (hl : l.length ≤ 40) (hok : AllOk l) (x : S62) (hx : okS x = true) (m a o room : Int) {F : Nat} (hF : F < l.length) (hb : ∀ j : Nat, j < F → ahS (rd_T62 l (j : Int)) x)
    (h0 : (rd_T62 l (F : Int)).f0 = x.f0) (h1 : (rd_T62 l (F : Int)).f1 = x.f1) : ∀ (d k i : Nat), i + d = F → d < k →
    spec_AddEvent.l0 k room (i : Int) l m a o l m a o x.f0 x.f1 x.f2 x.f3 x.f4 x.f5 = some (l.set F (sumS (rd_T62 l (F : Int)) x), m, a, o, 0) := by
  intro d
  induction d with
  | zero =>
    intro k i h hk
    obtain ⟨k, rfl⟩ : ∃ m, k = m + 1 := ⟨k - 1, by omega⟩
    obtain rfl : i = F := by omega
    have r1 := okS_range (hok i hF)
    have r2 := okS_range hx
    simp only [spec_AddEvent.l0]
    rw [if_pos (by omega), if_pos (by omega), if_pos h0, if_pos h1, spec_l05Sum_eq (by omega) (by omega) (by omega) (by omega), Option.bind_some, if_pos (by omega), Int.toNat_natCast]
    rfl
  | succ d ih =>
    intro k i h hk
    obtain ⟨k, rfl⟩ : ∃ m, k = m + 1 := ⟨k - 1, by omega⟩
    have hi := hb i (by omega)
    have rest := ih k (i + 1) (by omega) (by omega)
    simp only [spec_AddEvent.l0]
    rw [if_pos (by omega), if_pos (by omega), wi (by omega)]
    by_cases g0 : (rd_T62 l (i : Int)).f0 = x.f0
    · rw [if_pos g0, if_neg (by unfold ahS at hi; omega)]
      exact rest
    · rw [if_neg g0]
      exact rest
theorem spec_Add_true {l : List S62} (hl : l.length ≤ 40) (x : S62) (m a o : Int) : ∀ (d k i : Nat) (acc : List S62), i + d = l.length → d < k → acc.length ≤ 1000 + i →
    spec_AddEvent.l1 k acc true (i : Int) l m a o l m a o x.f0 x.f1 x.f2 x.f3 x.f4 x.f5 = some (acc ++ l.drop i, m, a, o, 0) := by
  intro d
  induction d with
  | zero =>
    intro k i acc h hk ha
    obtain ⟨k, rfl⟩ : ∃ m, k = m + 1 := ⟨k - 1, by omega⟩
    simp only [spec_AddEvent.l1, if_true]
    rw [if_neg (by omega), List.drop_of_length_le (by omega), List.append_nil]
  | succ d ih =>
    intro k i acc h hk ha
    obtain ⟨k, rfl⟩ : ∃ m, k = m + 1 := ⟨k - 1, by omega⟩
    have hd : l.drop i = rd_T62 l (i : Int) :: l.drop (i + 1) := by
      rw [List.drop_eq_getElem_cons (by omega), rdAI_get (by omega)]
    have rest := ih k (i + 1) (acc ++ [rd_T62 l (i : Int)]) (by omega) (by omega) (by rw [List.length_append, List.length_singleton]; omega)
    rw [List.append_assoc, List.singleton_append, ← hd] at rest
    simp only [spec_AddEvent.l1, if_true]
    rw [if_pos (by omega), if_pos (by omega), if_pos (by omega), wi (by omega)]
    exact rest
theorem spec_Add_false {l : List S62} (hl : l.length ≤ 40) (x : S62) (m a o : Int) {F : Nat} (hF : F ≤ l.length) (hb : ∀ j : Nat, j < F → ahS (rd_T62 l (j : Int)) x) (ha : F < l.length → ahS x (rd_T62 l (F : Int))) : ∀ (d k i : Nat), i + d = F → l.length - i < k →
    spec_AddEvent.l1 k (l.take i) false (i : Int) l m a o l m a o x.f0 x.f1 x.f2 x.f3 x.f4 x.f5 = some (l.take F ++ x :: l.drop F, m, a, o, 0) := by
  intro d
  induction d with
  | zero =>
    intro k i h hk
    obtain ⟨k, rfl⟩ : ∃ m, k = m + 1 := ⟨k - 1, by omega⟩
    obtain rfl : i = F := by omega
    have hlt : (l.take i).length ≤ 40 := by rw [List.length_take]; omega
    simp only [spec_AddEvent.l1, Bool.false_eq_true, if_false]
    by_cases g : i < l.length
    · have hd : l.drop i = rd_T62 l (i : Int) :: l.drop (i + 1) := by
        rw [List.drop_eq_getElem_cons (by omega), rdAI_get (by omega)]
      rw [if_pos (by omega), if_pos (by omega), spec_l05Ahead_eq, Option.bind_some, if_pos (decide_eq_true (ha g)), if_pos (by omega), Option.bind_some, if_pos (by rw [List.length_append, List.length_singleton]; omega), wi (by omega)]
      have rest := spec_Add_true hl x m a o (l.length - (i + 1)) k (i + 1) (l.take i ++ [x] ++ [rd_T62 l (i : Int)]) (by omega) (by omega) (by rw [List.length_append, List.length_append, List.length_singleton, List.length_singleton]; omega)
      rw [show l.take i ++ x :: l.drop i = l.take i ++ [x] ++ [rd_T62 l (i : Int)] ++ l.drop (i + 1) by rw [hd]; simp]
      exact rest
    · rw [if_neg (by omega), if_pos (by omega), List.drop_of_length_le (by omega)]
  | succ d ih =>
    intro k i h hk
    obtain ⟨k, rfl⟩ : ∃ m, k = m + 1 := ⟨k - 1, by omega⟩
    have hi := hb i (by omega)
    have hlt : (l.take i).length ≤ 40 := by rw [List.length_take]; omega
    have e : l.take i ++ [rd_T62 l (i : Int)] = l.take (i + 1) := by
      rw [List.take_succ_eq_append_getElem (by omega), rdAI_get (by omega)]
    have rest := ih k (i + 1) (by omega) (by omega)
    rw [← e] at rest
    simp only [spec_AddEvent.l1, Bool.false_eq_true, if_false]
    rw [if_pos (by omega), if_pos (by omega), spec_l05Ahead_eq, Option.bind_some, if_neg (by rw [decide_eq_true_eq]; unfold ahS at hi ⊢; omega), if_pos (by omega), wi (by omega)]
    exact rest
theorem spec_Add_none {l : List S62} (hl : l.length ≤ 40) (x : S62) (m a o room : Int) (ho : 0 ≤ o ∧ o ≤ 1000000000) {F : Nat} (hF : F ≤ l.length) (hb : ∀ j : Nat, j < F → ahS (rd_T62 l (j : Int)) x) (ha : F < l.length → ahS x (rd_T62 l (F : Int)))
    (hno : ∀ j : Nat, j < l.length → ¬ ((rd_T62 l (j : Int)).f0 = x.f0 ∧ (rd_T62 l (j : Int)).f1 = x.f1)) : ∀ (d k i : Nat), i + d = l.length → d + 60 < k →
    spec_AddEvent.l0 k room (i : Int) l m a o l m a o x.f0 x.f1 x.f2 x.f3 x.f4 x.f5 = some (if (l.length : Int) ≥ room then (l, m, a, capV (o + 1), 2) else (l.take F ++ x :: l.drop F, m, a, o, 0)) := by
  intro d
  induction d with
  | zero =>
    intro k i h hk
    obtain ⟨k, rfl⟩ : ∃ m, k = m + 1 := ⟨k - 1, by omega⟩
    simp only [spec_AddEvent.l0]
    rw [if_neg (by omega), w64 (x := o + 1) (by omega) (by omega), spec_l05Cap_eq, Option.bind_some]
    by_cases g : (l.length : Int) ≥ room
    · rw [if_pos g, if_pos g]
    · rw [if_neg g, if_neg g]
      have := spec_Add_false hl x m a o hF hb ha F k 0 (by omega) (by omega)
      rw [List.take_zero] at this
      exact this
  | succ d ih =>
    intro k i h hk
    obtain ⟨k, rfl⟩ : ∃ m, k = m + 1 := ⟨k - 1, by omega⟩
    have hi := hno i (by omega)
    have rest := ih k (i + 1) (by omega) (by omega)
    simp only [spec_AddEvent.l0]
    rw [if_pos (by omega), if_pos (by omega), wi (by omega)]
    by_cases g0 : (rd_T62 l (i : Int)).f0 = x.f0
    · rw [if_pos g0, if_neg (fun g1 => hi ⟨g0, g1⟩)]
      exact rest
    · rw [if_neg g0]
      exact rest
theorem ord_some (y x : S62) : ord62 y x = some (ordV y.f0 y.f1 x.f0 x.f1) := impl_aggOrder_eq (by omega) _ _ _ _ _ _ _ _ _ _ _ _
theorem bs_eq {l : List S62} (x : S62) {F : Nat} (hb : ∀ j : Nat, j < F → ahS (rd_T62 l (j : Int)) x) (ha : ∀ j : Nat, F ≤ j → j < l.length → ¬ ahS (rd_T62 l (j : Int)) x) : ∀ (k i j : Nat), i ≤ F → F ≤ j → j ≤ l.length → j - i < k →
    bs62 (fun y => ord62 y x) l k i j = some F := by
  intro k
  induction k with
  | zero => intro i j h1 h2 h3 h4; omega
  | succ k ih =>
    intro i j h1 h2 h3 h4
    simp only [bs62]
    by_cases g : i < j
    · rw [if_pos g, ord_some, Option.bind_some]
      by_cases g2 : (i + j) / 2 < F
      · have := hb _ g2
        rw [if_pos (Int.not_le.1 (fun hh => (ordV_ahead _ _).1 hh this))]
        exact ih _ _ (by omega) h2 h3 (by omega)
      · have := ha ((i + j) / 2) (by omega) (by omega)
        rw [if_neg (Int.not_lt.2 ((ordV_ahead _ _).2 this))]
        exact ih _ _ h1 (by omega) (by omega) (by omega)
    · rw [if_neg g, show i = F by omega]
theorem bsf_eq {l : List S62} (x : S62) {F : Nat} (hF : F ≤ l.length) (hb : ∀ j : Nat, j < F → ahS (rd_T62 l (j : Int)) x) (ha : ∀ j : Nat, F ≤ j → j < l.length → ¬ ahS (rd_T62 l (j : Int)) x) :
    bsf62 l x ord62 = some ((F : Int), decide (F < l.length ∧ (rd_T62 l (F : Int)).f0 = x.f0 ∧ (rd_T62 l (F : Int)).f1 = x.f1)) := by
  unfold bsf62
  rw [bs_eq x hb ha _ _ _ (by omega) hF (Nat.le_refl _) (by omega), Option.bind_some]
  by_cases g : F < l.length
  · rw [if_pos g, ord_some, Option.bind_some]
    congr 2
    rw [decide_eq_decide, ordV_zero]
    exact ⟨fun h => ⟨g, h⟩, fun h => h.2⟩
  · rw [if_neg g, decide_eq_false (fun h => g h.1)]
theorem impl_put_found {l : List S62} (hl : l.length ≤ 40) (hok : AllOk l) (x : S62) (hx : okS x = true) {F : Nat} (hF : F < l.length) (hb : ∀ j : Nat, j < F → ahS (rd_T62 l (j : Int)) x) (ha : ∀ j : Nat, F ≤ j → j < l.length → ¬ ahS (rd_T62 l (j : Int)) x)
    (h0 : (rd_T62 l (F : Int)).f0 = x.f0) (h1 : (rd_T62 l (F : Int)).f1 = x.f1) : impl_put.f l x.f0 x.f1 x.f2 x.f3 x.f4 x.f5 = some (l.set F (sumS (rd_T62 l (F : Int)) x)) := by
  have e := bsf_eq x (Nat.le_of_lt hF) hb ha
  have r1 := okS_range (hok F hF)
  have r2 := okS_range hx
  rw [decide_eq_true ⟨hF, h0, h1⟩] at e
  unfold impl_put.f slices_BinarySearchFunc_impl_Agg_impl_Agg_impl_Agg.f
  rw [show bsf62 l ⟨x.f0, x.f1, x.f2, x.f3, x.f4, x.f5⟩ ord62 = _ from e, Option.bind_some]
  dsimp only
  rw [if_pos rfl, if_pos (by omega), if_pos (by omega), impl_merged_eq r1.1 r2.1 r1.2 r2.2, Option.bind_some, Int.toNat_natCast]
  rfl
theorem impl_put_none {l : List S62} (hl : l.length ≤ 40) (x : S62) {F : Nat} (hF : F ≤ l.length) (hb : ∀ j : Nat, j < F → ahS (rd_T62 l (j : Int)) x) (ha : ∀ j : Nat, F ≤ j → j < l.length → ¬ ahS (rd_T62 l (j : Int)) x)
    (hno : ∀ j : Nat, j < l.length → ¬ ((rd_T62 l (j : Int)).f0 = x.f0 ∧ (rd_T62 l (j : Int)).f1 = x.f1)) : impl_put.f l x.f0 x.f1 x.f2 x.f3 x.f4 x.f5 = some (l.take F ++ x :: l.drop F) := by
  have e := bsf_eq x hF hb ha
  rw [decide_eq_false (fun h => hno F h.1 h.2)] at e
  unfold impl_put.f slices_BinarySearchFunc_impl_Agg_impl_Agg_impl_Agg.f
  rw [show bsf62 l ⟨x.f0, x.f1, x.f2, x.f3, x.f4, x.f5⟩ ord62 = _ from e, Option.bind_some]
  dsimp only
  rw [if_neg (by simp)]
  unfold slices_Insert_impl_Agg_impl_Agg.f
  rw [if_pos ⟨by omega, by omega, rfl, by omega⟩, Option.bind_some, Int.toNat_natCast]
  simp
theorem win_range {t s : Int} (h0 : 0 ≤ t) (h1 : t ≤ 1000000) (h2 : 1 ≤ s) : 0 ≤ Int.tdiv t s ∧ Int.tdiv t s ≤ 1000000 := by
  have a1 := Int.tdiv_nonneg h0 (show 0 ≤ s by omega)
  have a2 : Int.tdiv t s ≤ t := Int.tdiv_le_self _ h0
  exact ⟨a1, by omega⟩
theorem more_eq {a : Int} (h : 0 ≤ a ∧ a ≤ 1000000000) : impl_more.f a = some (capV (a + 1)) := by
  unfold impl_more.f
  rw [w64 (x := a + 1) (by omega) (by omega)]
  congr 1
  unfold mn capV
  (repeat' split) <;> omega
theorem Add_good {l : List S62} {m a o sz room b c d : Int} (hS : ShOk l m a o) (h1 : 1 ≤ sz ∧ sz ≤ 1000000) (h2 : 1 ≤ room ∧ room ≤ 40) (hb : 0 ≤ b ∧ b ≤ 65535) (hc : 0 ≤ c ∧ c ≤ 1000000) (hd : -1000000 ≤ d ∧ d ≤ 1000000) :
    ∃ v : (List S62) × Int × Int × Int × Int, (∀ k, 200 ≤ k → spec_AddEvent.j0 (k + 1) sz room false l m a o 1 b c d l m a o = some v) ∧ (∀ k, 200 ≤ k → impl_AddEvent.j0 (k + 1) sz room false l m a o 1 b c d l m a o = some v) ∧ v.1.length ≤ 41 := by
  obtain ⟨hl, hm, ha, ho, hok, hs⟩ := hS
  have hw := win_range hc.1 hc.2 h1.1
  have ew : wrap64 (Int.tdiv c sz) = Int.tdiv c sz := w64 (by omega) (by omega)
  have s0 : spec_WindowOf.f c sz = some (Int.tdiv c sz) := by
    simp only [spec_WindowOf.f, spec_in_eq, Option.bind_some]
    rw [if_pos (decide_eq_true hc), if_pos (decide_eq_true h1), if_neg (by omega), ew]
  have i0 : impl_WindowOf.f c sz = some (Int.tdiv c sz) := by
    simp only [impl_WindowOf.f, impl_isTime_eq, impl_isSize_eq, Option.bind_some]
    rw [if_pos (decide_eq_true hc), if_pos (decide_eq_true h1), if_neg (by omega), ew]
  generalize Int.tdiv c sz = w at hw s0 i0
  simp only [spec_AddEvent.j0, impl_AddEvent.j0, s0, i0, spec_WindowEnd_eq, impl_WindowEnd_eq, impl_aggOf.f, Option.bind_some, Bool.false_eq_true, if_false, slices_BinarySearchFunc_impl_Agg_impl_Agg_impl_Agg.f]
  have hx : okS (⟨w, b, 1, d, d, d⟩ : S62) = true := (aggOkB_iff _ _ _ _ _ _).2 ⟨hw, hb, (show (1 : Int) ≤ 1 ∧ (1 : Int) ≤ 1000000000 by omega), (show -1000000000 ≤ d ∧ d ≤ 1000000000 by omega), hd, hd, Int.le_refl _⟩
  obtain ⟨F, hF, hlo, hhi⟩ := exF hs (⟨w, b, 1, d, d, d⟩ : S62)
  have hbs := bsf_eq _ hF hlo hhi
  rw [hbs]
  simp only [Option.bind_some]
  by_cases g0 : endV w sz ≤ m
  · refine ⟨(l, m, capV (a + 1), o, 1), fun k hk => ?_, fun k hk => ?_, by show l.length ≤ 41; omega⟩
    · rw [if_pos g0, w64 (x := a + 1) (by omega) (by omega), spec_l05Cap_eq, Option.bind_some]
    · rw [if_pos g0, more_eq ha, Option.bind_some]
  · simp only [if_neg g0]
    by_cases g1 : F < l.length ∧ (rd_T62 l (F : Int)).f0 = w ∧ (rd_T62 l (F : Int)).f1 = b
    · refine ⟨(l.set F (sumS (rd_T62 l (F : Int)) ⟨w, b, 1, d, d, d⟩), m, a, o, 0), fun k hk => ?_, fun k hk => ?_, by show (l.set F _).length ≤ 41; rw [List.length_set]; omega⟩
      · exact spec_Add_found hl hok ⟨w, b, 1, d, d, d⟩ hx m a o room g1.1 hlo g1.2.1 g1.2.2 F k 0 (by omega) (by omega)
      · obtain ⟨k, rfl⟩ : ∃ n, k = n + 1 := ⟨k - 1, by omega⟩
        rw [if_pos (decide_eq_true g1)]
        simp only [impl_AddEvent.j1, Bool.false_eq_true, if_false]
        have e := impl_put_found hl hok ⟨w, b, 1, d, d, d⟩ hx g1.1 hlo hhi g1.2.1 g1.2.2
        dsimp only at e
        rw [e, Option.bind_some]
    · have hno : ∀ j : Nat, j < l.length → ¬ ((rd_T62 l (j : Int)).f0 = w ∧ (rd_T62 l (j : Int)).f1 = b) := by
        intro j hj hh
        by_cases q1 : j < F
        · have := hlo j q1
          unfold ahS at this
          dsimp only at this
          omega
        · by_cases q2 : j = F
          · subst q2; exact g1 ⟨hj, hh⟩
          · have := srt_lt hs (j - F - 1) F (by omega)
            rw [show F + (j - F - 1) + 1 = j by omega] at this
            have q3 := hhi F (Nat.le_refl _) (by omega)
            unfold ahS at this q3
            dsimp only at q3
            omega
      have hah : F < l.length → ahS (⟨w, b, 1, d, d, d⟩ : S62) (rd_T62 l (F : Int)) := by
        intro q
        have q1 := hhi F (Nat.le_refl _) q
        have q2 := hno F q
        unfold ahS at q1 ⊢
        dsimp only at q1 ⊢
        omega
      refine ⟨if (l.length : Int) ≥ room then (l, m, a, capV (o + 1), 2) else (l.take F ++ ⟨w, b, 1, d, d, d⟩ :: l.drop F, m, a, o, 0), fun k hk => ?_, fun k hk => ?_, ?_⟩
      · exact spec_Add_none hl ⟨w, b, 1, d, d, d⟩ m a o room ho hF hlo hah hno l.length k 0 (by omega) (by omega)
      · obtain ⟨k, rfl⟩ : ∃ n, k = n + 1 := ⟨k - 1, by omega⟩
        rw [if_neg (by rw [decide_eq_true_eq]; exact g1)]
        simp only [impl_AddEvent.j1, decide_eq_true_eq]
        by_cases g2 : (l.length : Int) ≥ room
        · rw [if_pos g2, if_pos g2, more_eq ho, Option.bind_some]
        · have e := impl_put_none hl ⟨w, b, 1, d, d, d⟩ hF hlo hhi hno
          dsimp only at e
          rw [if_neg g2, if_neg g2, e, Option.bind_some]
      · split
        · show l.length ≤ 41; omega
        · show (l.take F ++ _ :: l.drop F).length ≤ 41
          rw [List.length_append, List.length_cons, List.length_take, List.length_drop]
          omega
theorem Add_both {l : List S62} (m a o sz room fk b c d : Int) (hn : l.length ≤ 1048576) :
    ∃ v : (List S62) × Int × Int × Int × Int, (∀ k, l.length + 300 ≤ k → spec_AddEvent.f k l m a o sz room fk b c d = some v) ∧ (∀ k, l.length + 300 ≤ k → impl_AddEvent.f k l m a o sz room fk b c d = some v) ∧ v.1.length ≤ 1048576 := by
  have F : ∀ (P : Prop) [Decidable P], ¬ P → ¬ (decide P = true) := fun P _ h => by rw [decide_eq_true_eq]; exact h
  have bad : ∀ k, spec_AddEvent.j0 (k + 1) sz room true l m a o fk b c d l m a o = some (l, m, a, o, 3) ∧ impl_AddEvent.j0 (k + 1) sz room true l m a o fk b c d l m a o = some (l, m, a, o, 3) := fun k => ⟨rfl, rfl⟩
  have sf : ∀ k, l.length + 300 ≤ k → spec_AddEvent.f k l m a o sz room fk b c d = if ShOk l m a o then (if 1 ≤ sz ∧ sz ≤ 1000000 then (if 1 ≤ room ∧ room ≤ 40 then (if fk = 1 then spec_AddEvent.j0 k sz room (!(frameOkB fk b c d)) l m a o fk b c d l m a o else some (l, m, a, o, 3)) else some (l, m, a, o, 3)) else some (l, m, a, o, 3)) else some (l, m, a, o, 3) := by
    intro k hk
    obtain ⟨k, rfl⟩ : ∃ n, k = n + 1 := ⟨k - 1, by omega⟩
    unfold spec_AddEvent.f
    simp only [spec_l05Copy_eq (m := m) (a := a) (o := o) hn (show l.length < k + 1 by omega), spec_ShardOk_eq (show 100 ≤ k + 1 by omega), spec_in_eq, spec_FrameOk_eq, Option.bind_some, decide_eq_true_eq, (bad k).1]
  have hf : ∀ k, l.length + 300 ≤ k → impl_AddEvent.f k l m a o sz room fk b c d = if ShOk l m a o then (if 1 ≤ sz ∧ sz ≤ 1000000 then (if 1 ≤ room ∧ room ≤ 40 then (if fk = 1 then impl_AddEvent.j0 k sz room (!(frameOkB fk b c d)) l m a o fk b c d l m a o else some (l, m, a, o, 3)) else some (l, m, a, o, 3)) else some (l, m, a, o, 3)) else some (l, m, a, o, 3) := by
    intro k hk
    obtain ⟨k, rfl⟩ : ∃ n, k = n + 1 := ⟨k - 1, by omega⟩
    unfold impl_AddEvent.f
    simp only [impl_ownShard_eq (m := m) (a := a) (o := o) hn, impl_ShardOk_eq (show 100 ≤ k + 1 by omega), impl_isSize_eq, impl_within_eq, impl_isEvent.f, impl_FrameOk_eq, spec_FrameOk_eq, Option.bind_some, decide_eq_true_eq, (bad k).2]
    by_cases g : fk = 1
    · simp only [if_pos g, Option.bind_some]
    · simp only [if_neg g, Option.bind_some, Bool.not_false, (bad k).2]
  by_cases g1 : ShOk l m a o
  · by_cases g2 : 1 ≤ sz ∧ sz ≤ 1000000
    · by_cases g3 : 1 ≤ room ∧ room ≤ 40
      · by_cases g4 : fk = 1
        · by_cases g5 : frameOkB fk b c d = true
          · subst g4
            rcases frameOkB_kind g5 with ⟨_, hb, hc, hd⟩ | ⟨h, _⟩ | ⟨h, _⟩
            · obtain ⟨v, v1, v2, v3⟩ := Add_good g1 g2 g3 hb hc hd
              refine ⟨v, fun k hk => ?_, fun k hk => ?_, by omega⟩
              · obtain ⟨k, rfl⟩ : ∃ n, k = n + 1 := ⟨k - 1, by omega⟩
                rw [sf _ hk, if_pos g1, if_pos g2, if_pos g3, if_pos rfl, g5]
                exact v1 k (by omega)
              · obtain ⟨k, rfl⟩ : ∃ n, k = n + 1 := ⟨k - 1, by omega⟩
                rw [hf _ hk, if_pos g1, if_pos g2, if_pos g3, if_pos rfl, g5]
                exact v2 k (by omega)
            · omega
            · omega
          · refine ⟨(l, m, a, o, 3), fun k hk => ?_, fun k hk => ?_, hn⟩
            · obtain ⟨k, rfl⟩ : ∃ n, k = n + 1 := ⟨k - 1, by omega⟩
              rw [sf _ hk, if_pos g1, if_pos g2, if_pos g3, if_pos g4, Bool.eq_false_iff.2 g5]
              exact (bad k).1
            · obtain ⟨k, rfl⟩ : ∃ n, k = n + 1 := ⟨k - 1, by omega⟩
              rw [hf _ hk, if_pos g1, if_pos g2, if_pos g3, if_pos g4, Bool.eq_false_iff.2 g5]
              exact (bad k).2
        · exact ⟨(l, m, a, o, 3), fun k hk => by rw [sf _ hk, if_pos g1, if_pos g2, if_pos g3, if_neg g4], fun k hk => by rw [hf _ hk, if_pos g1, if_pos g2, if_pos g3, if_neg g4], hn⟩
      · exact ⟨(l, m, a, o, 3), fun k hk => by rw [sf _ hk, if_pos g1, if_pos g2, if_neg g3], fun k hk => by rw [hf _ hk, if_pos g1, if_pos g2, if_neg g3], hn⟩
    · exact ⟨(l, m, a, o, 3), fun k hk => by rw [sf _ hk, if_pos g1, if_neg g2], fun k hk => by rw [hf _ hk, if_pos g1, if_neg g2], hn⟩
  · exact ⟨(l, m, a, o, 3), fun k hk => by rw [sf _ hk, if_neg g1], fun k hk => by rw [hf _ hk, if_neg g1], hn⟩

theorem eqAgg_refl (a b c d e f : Int) : laws_eqAgg.f a b c d e f a b c d e f = some true := by simp [laws_eqAgg.f]

theorem rdSAgg_at {x : List S62} {i : Nat} (h : i < x.length) : x[i]? = some (rd_T62 x (i : Int)) := by
  simp [rd_T62, List.getD_eq_getElem?_getD, List.getElem?_eq_getElem h]
theorem eqAggS_l0 (x : List S62) (hn : x.length ≤ 1048576) : ∀ (d k i : Nat), i + d = x.length → d < k → laws_eqAggS.l0 k x x (i : Int) = some true := by
  intro d
  induction d with
  | zero =>
    intro k i h hk
    obtain ⟨k, rfl⟩ : ∃ m, k = m + 1 := ⟨k - 1, by omega⟩
    simp only [laws_eqAggS.l0]
    rw [if_neg (by omega)]
  | succ d ih =>
    intro k i h hk
    obtain ⟨k, rfl⟩ : ∃ m, k = m + 1 := ⟨k - 1, by omega⟩
    simp only [laws_eqAggS.l0, eqAgg_refl, Option.bind_some, if_true]
    rw [if_pos (by omega), if_pos (by omega), if_pos (by omega), wi (by omega)]
    exact ih k (i + 1) (by omega) (by omega)
theorem eqAggS_refl {k : Nat} {x : List S62} (hn : x.length ≤ 1048576) (hk : x.length < k) : laws_eqAggS.f k x x = some true := by
  unfold laws_eqAggS.f
  rw [if_pos rfl]
  exact eqAggS_l0 x hn x.length k 0 (by omega) hk

def aggConv (s : S86) : S62 := ⟨s.f0, s.f1, s.f2, s.f3, s.f4, s.f5⟩
theorem toAggS_l0 (x0 : List S86) (hn : x0.length ≤ 1048576) : ∀ (d k i : Nat) (x3 : List S62), i + d = x0.length → d < k → x3.length = x0.length → (∀ j, j < i → x3[j]? = (x0.map aggConv)[j]?) →
    laws_toAggS.l0 k x0 x3 (i : Int) = some (x0.map aggConv) := by
  intro d
  induction d with
  | zero =>
    intro k i x3 h hk hl hp
    obtain ⟨k, rfl⟩ : ∃ m, k = m + 1 := ⟨k - 1, by omega⟩
    simp only [laws_toAggS.l0]
    rw [if_neg (by omega)]
    congr 1
    apply List.ext_getElem?
    intro j
    by_cases hj : j < i
    · exact hp j hj
    · rw [List.getElem?_eq_none (by omega), List.getElem?_eq_none (by rw [List.length_map]; omega)]
  | succ d ih =>
    intro k i x3 h hk hl hp
    obtain ⟨k, rfl⟩ : ∃ m, k = m + 1 := ⟨k - 1, by omega⟩
    simp only [laws_toAggS.l0, laws_toAgg.f, Option.bind_some]
    rw [if_pos (by omega), if_pos (by omega), if_pos (by omega), wi (by omega)]
    refine ih k (i + 1) _ (by omega) (by omega) (by simp [hl]) ?_
    intro j hj
    rw [Int.toNat_natCast, List.getElem?_set]
    by_cases e : i = j
    · subst e
      rw [if_pos rfl, if_pos (by omega), List.getElem?_map, rdAL_at (by omega)]
      rfl
    · rw [if_neg e]
      exact hp j (by omega)
theorem toAggS_eq {k : Nat} {l : List S86} (hn : l.length ≤ 1048576) (hk : l.length < k) : laws_toAggS.f k l = some (l.map aggConv) := by
  unfold laws_toAggS.f
  rw [if_pos (by omega), if_pos (by omega)]
  exact toAggS_l0 l hn l.length k 0 _ (by omega) hk (by simp) (by omega)

theorem szAggS_eq {l : List S86} {c : Int} (hm : l.length ≤ maxLen) (h0 : 0 ≤ c) (h1 : c ≤ 1048576) : laws_szAggS.f l c = some (if (l.length : Int) ≤ c then c - (l.length : Int) else -1) := by
  unfold maxLen at hm
  unfold laws_szAggS.f
  rw [w64 (x := c - (l.length : Int)) (by omega) (by omega)]
  by_cases h : (l.length : Int) ≤ c
  · rw [if_neg (by omega), if_pos h]
  · rw [if_pos (by omega), if_neg h]

theorem eqShard_refl {k : Nat} {x : List S62} {a b c : Int} (hn : x.length ≤ 1048576) (hk : x.length < k) : laws_eqShard.f k x a b c x a b c = some true := by
  simp [laws_eqShard.f, eqAggS_refl hn hk]
theorem toShard_eq {k : Nat} {l : List S86} {a b c : Int} (hn : l.length ≤ 1048576) (hk : l.length < k) : laws_toShard.f k l a b c = some (l.map aggConv, a, b, c) := by
  simp [laws_toShard.f, toAggS_eq hn hk]
theorem szShard_eq {l : List S86} {a b d c : Int} (hm : l.length ≤ maxLen) (h0 : 0 ≤ c) (h1 : c ≤ 1048576) : laws_szShard.f l a b d c = some (if (l.length : Int) ≤ c then c - (l.length : Int) else -1) := by
  unfold laws_szShard.f
  rw [szAggS_eq hm h0 h1, Option.bind_some]
  by_cases h : (l.length : Int) ≤ c
  · rw [if_pos h, if_neg (by omega)]
  · rw [if_neg h, if_pos (by omega)]

def mkAgg (c : Int) (j : Nat) : S62 := ⟨c + 6 * (j : Int) + 0, c + 6 * (j : Int) + 1, c + 6 * (j : Int) + 2, c + 6 * (j : Int) + 3, c + 6 * (j : Int) + 4, c + 6 * (j : Int) + 5⟩
def mLAgg (c : Int) (n : Nat) : List S62 := (List.range n).map fun (j : Nat) => mkAgg c j
theorem mLAgg_length (c : Int) (n : Nat) : (mLAgg c n).length = n := by simp [mLAgg]
theorem mLAgg_get {c : Int} {n j : Nat} (h : j < n) : (mLAgg c n)[j]? = some (mkAgg c j) := by
  simp [mLAgg, List.getElem?_range, h]
theorem rdSAgg_set {x : List S62} {i : Nat} {v : S62} (h : i < x.length) : rd_T62 (x.set i v) (i : Int) = v := by
  have e := rdSAgg_at (x := x.set i v) (i := i) (by simp; omega)
  rw [List.getElem?_set, if_pos rfl, if_pos h] at e
  exact (Option.some.inj e).symm
theorem markAggS_l0 (n : Nat) (hn : n ≤ 1048576) (c : Int) (h0 : 0 ≤ c) (h1 : c ≤ 1073741824) : ∀ (d k i : Nat) (x : List S62), x.length = n → i + d = n → d < k → (∀ j, j < i → x[j]? = some (mkAgg c j)) →
    laws_markAggS.l0 k x (c + 6 * (i : Int) + 0) (i : Int) = some (c + 6 * (n : Int), mLAgg c n) := by
  intro d
  induction d with
  | zero =>
    intro k i x hx h hk hp
    obtain ⟨k, rfl⟩ : ∃ m, k = m + 1 := ⟨k - 1, by omega⟩
    simp only [laws_markAggS.l0]
    rw [if_neg (by omega)]
    obtain rfl : i = n := by omega
    have e : x = mLAgg c i := by
      apply List.ext_getElem?
      intro j
      by_cases hj : j < i
      · rw [hp j hj, mLAgg_get hj]
      · rw [List.getElem?_eq_none (by omega), List.getElem?_eq_none (by rw [mLAgg_length]; omega)]
    rw [e]
    simp
  | succ d ih =>
    intro k i x hx h hk hp
    obtain ⟨k, rfl⟩ : ∃ m, k = m + 1 := ⟨k - 1, by omega⟩
    have q0 : wrap64 (c + 6 * (i : Int) + 0 + 1) = c + 6 * (i : Int) + 1 := by unfold wrap64; omega
    have q1 : wrap64 (c + 6 * (i : Int) + 1 + 1) = c + 6 * (i : Int) + 2 := by unfold wrap64; omega
    have q2 : wrap64 (c + 6 * (i : Int) + 2 + 1) = c + 6 * (i : Int) + 3 := by unfold wrap64; omega
    have q3 : wrap64 (c + 6 * (i : Int) + 3 + 1) = c + 6 * (i : Int) + 4 := by unfold wrap64; omega
    have q4 : wrap64 (c + 6 * (i : Int) + 4 + 1) = c + 6 * (i : Int) + 5 := by unfold wrap64; omega
    have q5 : wrap64 (c + 6 * (i : Int) + 5 + 1) = c + 6 * (i : Int) + 6 := by unfold wrap64; omega
    simp only [laws_markAggS.l0, Int.toNat_natCast, Option.bind_some, q0, q1, q2, q3, q4, q5]
    rw [if_pos (by omega), if_pos (by omega), wi (by omega)]
    simp only [rdSAgg_set (x := x) (i := i) (by omega), List.set_set]
    have hs := ih k (i + 1) (x.set i (mkAgg c i)) (by simp [hx]) (by omega) (by omega) (by
      intro j hj
      rw [List.getElem?_set]
      by_cases e : i = j
      · subst e
        rw [if_pos rfl, if_pos (by omega)]
      · rw [if_neg e]
        exact hp j (by omega))
    rw [show c + 6 * ((i + 1 : Nat) : Int) + 0 = c + 6 * (i : Int) + 6 by omega] at hs
    exact hs
theorem markAggS_eq {k : Nat} {x : List S62} {c : Int} (hn : x.length ≤ 1048576) (h0 : 0 ≤ c) (h1 : c ≤ 1073741824) (hk : x.length < k) :
    laws_markAggS.f k x c = some (c + 6 * (x.length : Int), mLAgg c x.length) := by
  unfold laws_markAggS.f
  have h := markAggS_l0 x.length hn c h0 h1 x.length k 0 x rfl (by omega) hk (by omega)
  simpa using h
theorem heldAggS_l0 (n : Nat) (hn : n ≤ 1048576) (c : Int) (h0 : 0 ≤ c) (h1 : c ≤ 1073741824) : ∀ (d k i : Nat), i + d = n → d < k →
    laws_heldAggS.l0 k (mLAgg c n) (c + 6 * (i : Int) + 0) (i : Int) = some (c + 6 * (n : Int)) := by
  intro d
  induction d with
  | zero =>
    intro k i h hk
    obtain ⟨k, rfl⟩ : ∃ m, k = m + 1 := ⟨k - 1, by omega⟩
    simp only [laws_heldAggS.l0]
    rw [if_neg (by rw [mLAgg_length]; omega)]
    obtain rfl : i = n := by omega
    simp
  | succ d ih =>
    intro k i h hk
    obtain ⟨k, rfl⟩ : ∃ m, k = m + 1 := ⟨k - 1, by omega⟩
    have q0 : wrap64 (c + 6 * (i : Int) + 0 + 1) = c + 6 * (i : Int) + 1 := by unfold wrap64; omega
    have q1 : wrap64 (c + 6 * (i : Int) + 1 + 1) = c + 6 * (i : Int) + 2 := by unfold wrap64; omega
    have q2 : wrap64 (c + 6 * (i : Int) + 2 + 1) = c + 6 * (i : Int) + 3 := by unfold wrap64; omega
    have q3 : wrap64 (c + 6 * (i : Int) + 3 + 1) = c + 6 * (i : Int) + 4 := by unfold wrap64; omega
    have q4 : wrap64 (c + 6 * (i : Int) + 4 + 1) = c + 6 * (i : Int) + 5 := by unfold wrap64; omega
    have q5 : wrap64 (c + 6 * (i : Int) + 5 + 1) = c + 6 * (i : Int) + 6 := by unfold wrap64; omega
    have e : rd_T62 (mLAgg c n) (i : Int) = mkAgg c i := by
      have h2 := rdSAgg_at (x := mLAgg c n) (i := i) (by rw [mLAgg_length]; omega)
      rw [mLAgg_get (by omega)] at h2
      exact (Option.some.inj h2).symm
    have hs := ih k (i + 1) (by omega) (by omega)
    rw [show c + 6 * ((i + 1 : Nat) : Int) + 0 = c + 6 * (i : Int) + 6 by omega] at hs
    simp only [laws_heldAggS.l0, e, mkAgg, q0, q1, q2, q3, q4, q5, if_true]
    rw [if_pos (by rw [mLAgg_length]; omega), if_pos (by omega), wi (by omega)]
    exact hs
theorem heldAggS_eq {k n : Nat} {c : Int} (hn : n ≤ 1048576) (h0 : 0 ≤ c) (h1 : c ≤ 1073741824) (hk : n < k) :
    laws_heldAggS.f k (mLAgg c n) c = some (c + 6 * (n : Int)) := by
  unfold laws_heldAggS.f
  have h := heldAggS_l0 n hn c h0 h1 n k 0 (by omega) hk
  simpa using h

theorem markShard_eq {k : Nat} {x : List S62} {a b d c : Int} (hn : x.length ≤ 1048576) (h0 : 0 ≤ c) (h1 : c ≤ 1073741824) (hk : x.length < k) :
    laws_markShard.f k x a b d c = some (c + 6 * (x.length : Int), mLAgg c x.length) := by
  simp [laws_markShard.f, markAggS_eq hn h0 h1 hk]
theorem heldShard_eq {k n : Nat} {a b d c : Int} (hn : n ≤ 1048576) (h0 : 0 ≤ c) (h1 : c ≤ 1073741824) (hk : n < k) :
    laws_heldShard.f k (mLAgg c n) a b d c = some (c + 6 * (n : Int)) := by
  simp only [laws_heldShard.f, heldAggS_eq hn h0 h1 hk, Option.bind_some]
  rw [if_neg (by omega)]

theorem FnExactAddEvent : ∀ (l0_0 : List S86) (a0_1 : Int) (a0_2 : Int) (a0_3 : Int) (a1 : Int) (a2 : Int) (a3_0 : Int) (a3_1 : Int) (a3_2 : Int) (a3_3 : Int), l0_0.length ≤ maxLen → (∀ x ∈ l0_0, (Lit.int .i64 x.f0).wf = true ∧ (Lit.int .i64 x.f1).wf = true ∧ (Lit.int .i64 x.f2).wf = true ∧ (Lit.int .i64 x.f3).wf = true ∧ (Lit.int .i64 x.f4).wf = true ∧ (Lit.int .i64 x.f5).wf = true) → (Lit.int .i64 a0_1).wf = true → (Lit.int .i64 a0_2).wf = true → (Lit.int .i64 a0_3).wf = true → (Lit.int .i64 a1).wf = true → (Lit.int .i64 a2).wf = true → (Lit.int .i64 a3_0).wf = true → (Lit.int .i64 a3_1).wf = true → (Lit.int .i64 a3_2).wf = true → (Lit.int .i64 a3_3).wf = true → ∃ k, laws_FnExactAddEvent.f k l0_0 a0_1 a0_2 a0_3 a1 a2 a3_0 a3_1 a3_2 a3_3 = some true := by
  intro l0 m a o sz room fk b c d hm _ _ _ _ _ _ _ _ _ _
  refine ⟨1048576 + 500, ?_⟩
  simp only [laws_FnExactAddEvent.f, szShard_eq (c := 1048576) hm (by omega) (by omega), Option.bind_some, laws_toFrame.f]
  by_cases hl : (l0.length : Int) ≤ 1048576
  · rw [if_pos hl, if_neg (by omega)]
    have hll : (l0.map aggConv).length = l0.length := by simp
    have t0 : ∀ k, 1048576 + 100 ≤ k → laws_toShard.f k l0 m a o = some (l0.map aggConv, m, a, o) := fun k hk => toShard_eq (by omega) (by omega)
    generalize l0.map aggConv = l at t0 hll
    obtain ⟨v, e1', e2', hv⟩ := Add_both (l := l) m a o sz room fk b c d (by omega)
    have e1 : ∀ k, 1048576 + 300 ≤ k → spec_AddEvent.f k l m a o sz room fk b c d = some v := fun k hk => e1' k (by omega)
    have e2 : ∀ k, 1048576 + 300 ≤ k → impl_AddEvent.f k l m a o sz room fk b c d = some v := fun k hk => e2' k (by omega)
    clear e1' e2'
    have tf : laws_toFrame.f fk b c d = some (fk, b, c, d) := rfl
    obtain ⟨l', m', a', o', b'⟩ := v
    replace hv : l'.length ≤ 1048576 := hv
    (first | rw [t0 _ (by omega), Option.bind_some] | rw [Option.bind_some]); (try dsimp only)
    (first | rw [e1 _ (by omega), Option.bind_some] | rw [Option.bind_some]); (try dsimp only)
    (first | rw [t0 _ (by omega), Option.bind_some] | rw [Option.bind_some]); (try dsimp only)
    (first | rw [e2 _ (by omega), Option.bind_some] | rw [Option.bind_some]); (try dsimp only)
    (first | rw [eqShard_refl (by omega) (by omega), Option.bind_some] | rw [Option.bind_some]); (try dsimp only)
    (first | rw [if_pos rfl] | rw [if_pos trivial]); (try dsimp only)
    simp only [laws_FnExactAddEvent.j0, bne_self_eq_false, Bool.not_true, Bool.false_eq_true, if_false]
    (first | rw [t0 _ (by omega), Option.bind_some] | rw [Option.bind_some]); (try dsimp only)
    (first | rw [eqShard_refl (by omega) (by omega), Option.bind_some] | rw [Option.bind_some]); (try dsimp only)
    (first | rw [if_pos rfl] | rw [if_pos trivial]); (try dsimp only)
    (first | rw [markShard_eq (by omega) (by omega) (by omega) (by omega), Option.bind_some] | rw [Option.bind_some]); (try dsimp only)
    rw [if_neg (by omega)]
    (first | rw [eqShard_refl (by omega) (by omega), Option.bind_some] | rw [Option.bind_some]); (try dsimp only)
    (first | rw [if_pos rfl] | rw [if_pos trivial]); (try dsimp only)
    simp only [laws_FnExactAddEvent.j1, bne_self_eq_false, Bool.not_true, Bool.false_eq_true, if_false]
    (first | rw [markShard_eq (by omega) (by omega) (by omega) (by omega), Option.bind_some] | rw [Option.bind_some]); (try dsimp only)
    (first | rw [heldShard_eq (by omega) (by omega) (by omega) (by omega), Option.bind_some] | rw [Option.bind_some]); (try dsimp only)
    rw [if_neg (by omega)]
    (first | rw [if_pos rfl] | rw [if_pos trivial]); (try dsimp only)
    (first | rw [t0 _ (by omega), Option.bind_some] | rw [Option.bind_some]); (try dsimp only)
    (first | rw [tf, Option.bind_some] | rw [Option.bind_some]); (try dsimp only)
    (first | rw [e2 _ (by omega), Option.bind_some] | rw [Option.bind_some]); (try dsimp only)
    (first | rw [eqShard_refl (by omega) (by omega), Option.bind_some] | rw [Option.bind_some]); (try dsimp only)
    (first | rw [if_pos rfl] | rw [if_pos trivial]); (try dsimp only)
    simp only [laws_FnExactAddEvent.j2, bne_self_eq_false, Bool.not_true, Bool.false_eq_true, if_false]
    (first | rw [heldShard_eq (by omega) (by omega) (by omega) (by omega), Option.bind_some] | rw [Option.bind_some]); (try dsimp only)
    rw [if_neg (by omega)]
    (first | rw [if_pos rfl] | rw [if_pos trivial]); (try dsimp only)
  · rw [if_neg hl, if_pos (by omega)]

end Go.Proofs.Ytaofcalmgodgjaa.Pure
