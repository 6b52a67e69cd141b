/-
  The law FnExactClosedOf answers true: the program's ClosedOf is the reference's, in new memory, for all arguments. No condition.
-/
import Derived.Test.YtcflalomjehiiaaQFnExactClosedOfx7
namespace Go.Proofs.Ytcflalomjehiiaa.Pure
open Go.RowKit Go.Proofs.Ytcflalomjehiiaa.QFnExactClosedOf Go.Proofs.YtcflalomjehiiaaW.PrintWords Go.Proofs.YtcflalomjehiiaaW.PrintLast Go.Proofs.YtcflalomjehiiaaW.PrintMore
set_option linter.unusedSimpArgs false
set_option linter.unusedVariables false

theorem spec_in_eq (a lo hi : Int) : spec_l01In.f a lo hi = some (decide (lo ≤ a ∧ a ≤ hi)) := by
  unfold spec_l01In.f; by_cases h : lo ≤ a <;> simp [h]

theorem spec_l05Value_eq (a : Int) : spec_l05Value.f a = some (decide ((-1000000) ≤ a ∧ a ≤ 1000000)) := by
  simp only [spec_l05Value.f, spec_in_eq, Option.bind_some]

theorem impl_within_eq (a lo hi : Int) : impl_within.f a lo hi = some (decide (lo ≤ a ∧ a ≤ hi)) := by
  unfold impl_within.f; by_cases h : lo ≤ a <;> simp [h]

theorem impl_isTime_eq (a : Int) : impl_isTime.f a = some (decide (0 ≤ a ∧ a ≤ 1000000)) := by
  simp only [impl_isTime.f, impl_within_eq, Option.bind_some]

theorem impl_isKey_eq (a : Int) : impl_isKey.f a = some (decide (0 ≤ a ∧ a ≤ 65535)) := by
  simp only [impl_isKey.f, impl_within_eq, Option.bind_some]

theorem impl_isSum_eq (a : Int) : impl_isSum.f a = some (decide ((-1000000000) ≤ a ∧ a ≤ 1000000000)) := by
  simp only [impl_isSum.f, impl_within_eq, Option.bind_some]

theorem impl_isValue_eq (a : Int) : impl_isValue.f a = some (decide ((-1000000) ≤ a ∧ a ≤ 1000000)) := by
  simp only [impl_isValue.f, impl_within_eq, Option.bind_some]

theorem impl_AggOk_eq (a b c d e f : Int) : impl_AggOk.f a b c d e f = spec_AggOk.f a b c d e f := by
  simp only [impl_AggOk.f, spec_AggOk.f, spec_in_eq, spec_l05Value_eq, impl_within_eq, impl_isTime_eq, impl_isKey_eq, impl_isSum_eq, impl_isValue_eq]
theorem spec_AggOk_some (a b c d e f : Int) : ∃ r, spec_AggOk.f a b c d e f = some r := by
  simp only [spec_AggOk.f, spec_in_eq, spec_l05Value_eq, Option.bind_some]
  (repeat' split) <;> exact ⟨_, rfl⟩

def aggOkB (a b c d e f : Int) : Bool :=
  decide (0 ≤ a ∧ a ≤ 1000000) && (decide (0 ≤ b ∧ b ≤ 65535) && (decide (1 ≤ c ∧ c ≤ 1000000000) && (decide (-1000000000 ≤ d ∧ d ≤ 1000000000) && (decide (-1000000 ≤ e ∧ e ≤ 1000000) && (decide (-1000000 ≤ f ∧ f ≤ 1000000) && decide (e ≤ f))))))
theorem spec_AggOk_eq (a b c d e f : Int) : spec_AggOk.f a b c d e f = some (aggOkB a b c d e f) := by
  simp only [spec_AggOk.f, spec_in_eq, spec_l05Value_eq, Option.bind_some, aggOkB]
  by_cases h1 : 0 ≤ a ∧ a ≤ 1000000
  · by_cases h2 : 0 ≤ b ∧ b ≤ 65535
    · by_cases h3 : 1 ≤ c ∧ c ≤ 1000000000
      · by_cases h4 : -1000000000 ≤ d ∧ d ≤ 1000000000
        · by_cases h5 : -1000000 ≤ e ∧ e ≤ 1000000
          · by_cases h6 : -1000000 ≤ f ∧ f ≤ 1000000
            · simp [h1, h2, h3, h4, h5, h6]
            · simp [h1, h2, h3, h4, h5, h6]
          · simp [h1, h2, h3, h4, h5]
        · simp [h1, h2, h3, h4]
      · simp [h1, h2, h3]
    · simp [h1, h2]
  · simp [h1]
theorem aggOkB_iff (a b c d e f : Int) : aggOkB a b c d e f = true ↔ (0 ≤ a ∧ a ≤ 1000000) ∧ (0 ≤ b ∧ b ≤ 65535) ∧ (1 ≤ c ∧ c ≤ 1000000000) ∧ (-1000000000 ≤ d ∧ d ≤ 1000000000) ∧ (-1000000 ≤ e ∧ e ≤ 1000000) ∧ (-1000000 ≤ f ∧ f ≤ 1000000) ∧ e ≤ f := by
  simp [aggOkB]

def okS (x : S80) : Bool := aggOkB x.f0 x.f1 x.f2 x.f3 x.f4 x.f5
def ahS (x y : S80) : Prop := x.f0 < y.f0 ∨ (x.f0 = y.f0 ∧ x.f1 < y.f1)
instance (x y : S80) : Decidable (ahS x y) := by unfold ahS; infer_instance
theorem spec_l05Ahead_eq (x y : S80) : spec_l05Ahead.f x.f0 x.f1 x.f2 x.f3 x.f4 x.f5 y.f0 y.f1 y.f2 y.f3 y.f4 y.f5 = some (decide (ahS x y)) := by
  unfold spec_l05Ahead.f ahS
  by_cases h1 : x.f0 < y.f0
  · simp [h1]
  · by_cases h2 : x.f0 = y.f0
    · simp [h2]
    · simp [h1, h2]
def AllOk (l : List S80) : Prop := ∀ j : Nat, j < l.length → okS (rd_T80 l (j : Int)) = true
def Srt (l : List S80) : Prop := ∀ j : Nat, j < l.length - 1 → ahS (rd_T80 l (j : Int)) (rd_T80 l ((j + 1 : Nat) : Int))
def ShOk (l : List S80) (m a o : Int) : Prop := l.length ≤ 40 ∧ (-1 ≤ m ∧ m ≤ 1000000) ∧ (0 ≤ a ∧ a ≤ 1000000000) ∧ (0 ≤ o ∧ o ≤ 1000000000) ∧ AllOk l ∧ Srt l
instance (l : List S80) (m a o : Int) : Decidable (ShOk l m a o) := by unfold ShOk AllOk Srt; infer_instance

theorem w64 {x : Int} (h1 : -9223372036854775808 ≤ x) (h2 : x ≤ 9223372036854775807) : wrap64 x = x := by
  unfold wrap64; omega

def endV (w s : Int) : Int := if (0 ≤ w ∧ w ≤ 1000000) ∧ (1 ≤ s ∧ s ≤ 1000000) then wrap64 ((wrap64 ((wrap64 (w + 1)) * s)) - 1) else -1
theorem endV_val {w s : Int} (h0 : 0 ≤ w) (h1 : w ≤ 1000000) (h2 : 1 ≤ s) (h3 : s ≤ 1000000) : endV w s = (w + 1) * s - 1 := by
  unfold endV
  have a1 : (w + 1) * s ≤ 1000001 * 1000000 := Int.mul_le_mul (by omega) (by omega) (by omega) (by omega)
  have a2 : 0 ≤ (w + 1) * s := Int.mul_nonneg (by omega) (by omega)
  rw [if_pos ⟨⟨h0, h1⟩, h2, h3⟩, w64 (x := w + 1) (by omega) (by omega), w64 (x := (w + 1) * s) (by omega) (by omega), w64 (x := (w + 1) * s - 1) (by omega) (by omega)]
theorem endV_mono {w w' s : Int} (h0 : 0 ≤ w) (h : w ≤ w') (h1 : w' ≤ 1000000) (h2 : 1 ≤ s) (h3 : s ≤ 1000000) : endV w s ≤ endV w' s := by
  rw [endV_val h0 (by omega) h2 h3, endV_val (by omega) h1 h2 h3]
  have : (w + 1) * s ≤ (w' + 1) * s := Int.mul_le_mul_of_nonneg_right (by omega) (by omega)
  omega
theorem spec_WindowEnd_eq (w s : Int) : spec_WindowEnd.f w s = some (endV w s) := by
  simp only [spec_WindowEnd.f, spec_in_eq, Option.bind_some, endV]
  by_cases h1 : 0 ≤ w ∧ w ≤ 1000000
  · by_cases h2 : 1 ≤ s ∧ s ≤ 1000000
    · simp [h1, h2]
    · simp [h1, h2]
  · simp [h1]
theorem impl_isSize_eq (s : Int) : impl_isSize.f s = some (decide (1 ≤ s ∧ s ≤ 1000000)) := by
  simp only [impl_isSize.f, impl_within_eq, Option.bind_some]
theorem impl_WindowEnd_eq (w s : Int) : impl_WindowEnd.f w s = some (endV w s) := by
  simp only [impl_WindowEnd.f, impl_isTime_eq, impl_isSize_eq, Option.bind_some, endV]
  by_cases h1 : 0 ≤ w ∧ w ≤ 1000000
  · by_cases h2 : 1 ≤ s ∧ s ≤ 1000000
    · simp [h1, h2]
    · simp [h1, h2]
  · simp [h1]
def clos (m s : Int) (x : S80) : Bool := decide (endV x.f0 s ≤ m)

theorem spec_l04Mark_eq (a : Int) : spec_l04Mark.f a = some (decide ((-1) ≤ a ∧ a ≤ 1000000)) := by
  simp only [spec_l04Mark.f, spec_in_eq, Option.bind_some]

theorem wi {i : Nat} (h : i < 4611686018427387904) : wrap64 ((i : Int) + 1) = ((i + 1 : Nat) : Int) := by
  unfold wrap64; omega

theorem spec_ShardOk_l0 (l : List S80) (hn : l.length ≤ 40) (m a o : Int) : ∀ (d k i : Nat), i + d = l.length → d < k → ∃ b, spec_ShardOk.l0 k (i : Int) l m a o = some b ∧
    (b = true ↔ ∀ j : Nat, i ≤ j → j < l.length → okS (rd_T80 l (j : Int)) = true ∧ (0 < j → ahS (rd_T80 l ((j : Int) - 1)) (rd_T80 l (j : Int)))) := by
  intro d
  induction d with
  | zero =>
    intro k i h hk
    obtain ⟨k, rfl⟩ : ∃ m, k = m + 1 := ⟨k - 1, by omega⟩
    simp only [spec_ShardOk.l0]
    rw [if_neg (by omega)]
    exact ⟨true, rfl, (fun _ j h1 h2 => by omega), fun _ => rfl⟩
  | succ d ih =>
    intro k i h hk
    obtain ⟨k, rfl⟩ : ∃ m, k = m + 1 := ⟨k - 1, by omega⟩
    simp only [spec_ShardOk.l0]
    rw [if_pos (by omega), if_pos (by omega), spec_AggOk_eq, Option.bind_some]
    obtain ⟨b, e1, e2⟩ := ih k (i + 1) (by omega) (by omega)
    have step : (okS (rd_T80 l (i : Int)) = true ∧ (0 < i → ahS (rd_T80 l ((i : Int) - 1)) (rd_T80 l (i : Int)))) → (b = true ↔ ∀ j : Nat, i ≤ j → j < l.length → okS (rd_T80 l (j : Int)) = true ∧ (0 < j → ahS (rd_T80 l ((j : Int) - 1)) (rd_T80 l (j : Int)))) := by
      intro hi
      rw [e2]
      refine ⟨fun H j h1 h2 => ?_, fun H j h1 h2 => H j (by omega) h2⟩
      by_cases e : i = j
      · subst e; exact hi
      · exact H j (by omega) h2
    by_cases h1 : okS (rd_T80 l (i : Int)) = true
    · have h1' : aggOkB (rd_T80 l (i : Int)).f0 (rd_T80 l (i : Int)).f1 (rd_T80 l (i : Int)).f2 (rd_T80 l (i : Int)).f3 (rd_T80 l (i : Int)).f4 (rd_T80 l (i : Int)).f5 = true := h1
      rw [if_pos h1']
      by_cases h2 : (i : Int) > 0
      · rw [if_pos h2, w64 (x := (i : Int) - 1) (by omega) (by omega), if_pos (by omega), if_pos (by omega), spec_l05Ahead_eq, Option.bind_some]
        by_cases h3 : ahS (rd_T80 l ((i : Int) - 1)) (rd_T80 l (i : Int))
        · rw [if_pos (decide_eq_true h3), wi (by omega)]
          exact ⟨b, e1, step ⟨h1, fun _ => h3⟩⟩
        · rw [if_neg (by rw [decide_eq_true_eq]; exact h3)]
          refine ⟨false, rfl, (fun h => by cases h), fun H => absurd ((H i (Nat.le_refl _) (by omega)).2 (by omega)) h3⟩
      · rw [if_neg h2, wi (by omega)]
        exact ⟨b, e1, step ⟨h1, fun h => by omega⟩⟩
    · have h1' : ¬ aggOkB (rd_T80 l (i : Int)).f0 (rd_T80 l (i : Int)).f1 (rd_T80 l (i : Int)).f2 (rd_T80 l (i : Int)).f3 (rd_T80 l (i : Int)).f4 (rd_T80 l (i : Int)).f5 = true := h1
      rw [if_neg h1']
      refine ⟨false, rfl, (fun h => by cases h), fun H => absurd (H i (Nat.le_refl _) (by omega)).1 h1⟩
theorem srt_pred {l : List S80} : Srt l ↔ ∀ j : Nat, j < l.length → 0 < j → ahS (rd_T80 l ((j : Int) - 1)) (rd_T80 l (j : Int)) := by
  unfold Srt
  constructor
  · intro H j h1 h2
    have := H (j - 1) (by omega)
    rw [show ((j - 1 : Nat) : Int) = (j : Int) - 1 by omega, show ((j - 1 + 1 : Nat) : Int) = (j : Int) by omega] at this
    exact this
  · intro H j h1
    have := H (j + 1) (by omega) (by omega)
    rw [show ((j + 1 : Nat) : Int) - 1 = (j : Int) by omega] at this
    exact this
theorem spec_ShardOk_eq {k : Nat} (hk : 100 ≤ k) (l : List S80) (m a o : Int) : spec_ShardOk.f k l m a o = some (decide (ShOk l m a o)) := by
  obtain ⟨k, rfl⟩ : ∃ m, k = m + 1 := ⟨k - 1, by omega⟩
  unfold spec_ShardOk.f
  by_cases h0 : (l.length : Int) > 40
  · rw [if_pos h0]
    simp only [spec_ShardOk.j0, if_true]
    rw [decide_eq_false (fun h => by have := h.1; omega)]
  · rw [if_neg h0, spec_l04Mark_eq, spec_in_eq, spec_in_eq, Option.bind_some, Option.bind_some, Option.bind_some]
    have F : ∀ (P : Prop) [Decidable P], ¬ P → ¬ (decide P = true) := fun P _ h => by rw [decide_eq_true_eq]; exact h
    by_cases h1 : -1 ≤ m ∧ m ≤ 1000000
    · rw [if_pos (decide_eq_true h1)]
      by_cases h2 : 0 ≤ a ∧ a ≤ 1000000000
      · rw [if_pos (decide_eq_true h2)]
        by_cases h3 : 0 ≤ o ∧ o ≤ 1000000000
        · rw [decide_eq_true h3]
          simp only [spec_ShardOk.j0, Bool.not_true, Bool.false_eq_true, if_false]
          obtain ⟨b, e1, e2⟩ := spec_ShardOk_l0 l (by omega) m a o l.length k 0 (by omega) (by omega)
          rw [show ((0 : Nat) : Int) = 0 from rfl] at e1
          rw [e1]
          congr 1
          rw [Bool.eq_iff_iff, decide_eq_true_eq, e2]
          constructor
          · intro H
            exact ⟨by omega, h1, h2, h3, fun j hj => (H j (by omega) hj).1, srt_pred.2 fun j hj h => (H j (by omega) hj).2 h⟩
          · intro H j _ hj
            exact ⟨H.2.2.2.2.1 j hj, srt_pred.1 H.2.2.2.2.2 j hj⟩
        · rw [decide_eq_false h3]
          simp only [spec_ShardOk.j0, Bool.not_false, if_true]
          rw [decide_eq_false (fun h => h3 h.2.2.2.1)]
      · rw [if_neg (F _ h2)]
        simp only [spec_ShardOk.j0, if_true]
        rw [decide_eq_false (fun h => h2 h.2.2.1)]
    · rw [if_neg (F _ h1)]
      simp only [spec_ShardOk.j0, if_true]
      rw [decide_eq_false (fun h => h1 h.2.1)]

theorem rdAL_at {x : List S152} {i : Nat} (h : i < x.length) : x[i]? = some (rd_T152 x (i : Int)) := by
  simp [rd_T152, List.getD_eq_getElem?_getD, List.getElem?_eq_getElem h]
theorem rdAI_at {x : List S80} {i : Nat} (h : i < x.length) : x[i]? = some (rd_T80 x (i : Int)) := by
  simp [rd_T80, List.getD_eq_getElem?_getD, List.getElem?_eq_getElem h]
theorem rdAI_get {x : List S80} {i : Nat} (h : i < x.length) : rd_T80 x (i : Int) = x[i] := by
  simp [rd_T80, List.getD_eq_getElem?_getD, List.getElem?_eq_getElem h]

theorem spec_ClosedOf_l0 (l : List S80) (hn : l.length ≤ 40) (m a o s : Int) : ∀ (d k i : Nat) (acc : List S80), i + d = l.length → d < k → acc.length ≤ i → spec_ClosedOf.l0 k s acc (i : Int) l m a o = some (acc ++ (l.drop i).filter (clos m s)) := by
  intro d
  induction d with
  | zero =>
    intro k i acc h hk ha
    obtain ⟨k, rfl⟩ : ∃ m, k = m + 1 := ⟨k - 1, by omega⟩
    simp only [spec_ClosedOf.l0]
    rw [if_neg (by omega), List.drop_of_length_le (by omega), List.filter_nil, List.append_nil]
  | succ d ih =>
    intro k i acc h hk ha
    obtain ⟨k, rfl⟩ : ∃ m, k = m + 1 := ⟨k - 1, by omega⟩
    simp only [spec_ClosedOf.l0, spec_WindowEnd_eq, Option.bind_some]
    have hd : l.drop i = rd_T80 l (i : Int) :: l.drop (i + 1) := by
      rw [List.drop_eq_getElem_cons (by omega), rdAI_get (by omega)]
    rw [if_pos (by omega), if_pos (by omega), wi (by omega), hd, List.filter_cons]
    by_cases h1 : endV (rd_T80 l (i : Int)).f0 s ≤ m
    · have hc : clos m s (rd_T80 l (i : Int)) = true := decide_eq_true h1
      rw [if_pos h1, if_pos (by omega), if_pos hc]
      have := ih k (i + 1) (acc ++ [rd_T80 l (i : Int)]) (by omega) (by omega) (by rw [List.length_append, List.length_singleton]; omega)
      rw [List.append_assoc] at this
      exact this
    · have hc : ¬ clos m s (rd_T80 l (i : Int)) = true := by unfold clos; rw [decide_eq_true_eq]; exact h1
      rw [if_neg h1, if_neg hc]
      exact ih k (i + 1) acc (by omega) (by omega) (by omega)
def closedV (l : List S80) (m a o s : Int) : List S80 := if ShOk l m a o ∧ (1 ≤ s ∧ s ≤ 1000000) then l.filter (clos m s) else []
theorem spec_ClosedOf_eq {k : Nat} (hk : 200 ≤ k) (l : List S80) (m a o s : Int) : spec_ClosedOf.f k l m a o s = some (closedV l m a o s) := by
  obtain ⟨k, rfl⟩ : ∃ m, k = m + 1 := ⟨k - 1, by omega⟩
  simp only [spec_ClosedOf.f, spec_ShardOk_eq (show 100 ≤ k + 1 by omega), spec_in_eq, Option.bind_some, closedV, decide_eq_true_eq]
  by_cases h1 : ShOk l m a o
  · rw [if_pos h1]
    by_cases h2 : 1 ≤ s ∧ s ≤ 1000000
    · rw [if_pos ⟨h1, h2⟩, decide_eq_true h2]
      simp only [spec_ClosedOf.j0, Bool.not_true, Bool.false_eq_true, if_false]
      have := spec_ClosedOf_l0 l h1.1 m a o s l.length k 0 [] (by omega) (by have := h1.1; omega) (by simp)
      simpa using this
    · rw [if_neg (fun h => h2 h.2), decide_eq_false h2]
      simp only [spec_ClosedOf.j0, Bool.not_false, if_true]
  · rw [if_neg h1, if_neg (fun h => h1 h.1)]
    simp only [spec_ClosedOf.j0, if_true]

theorem impl_isMark_eq (a : Int) : impl_isMark.f a = some (decide ((-1) ≤ a ∧ a ≤ 1000000)) := by
  simp only [impl_isMark.f, impl_within_eq, Option.bind_some]

def cmpV (a b : Int) : Int := if a < b then -1 else if a > b then 1 else 0
theorem cmp_Compare_eq (a b : Int) : cmp_Compare_int.f a b = some (cmpV a b) := by
  simp only [cmp_Compare_int.f, cmp_isNaN_int.f, Option.bind_some, bne_self_eq_false, Bool.false_eq_true, if_false, cmpV]
  (repeat' split) <;> rfl
def ordV (a b c d : Int) : Int := if cmpV a c = 0 then cmpV b d else cmpV a c
theorem cmp_Or_eq {k : Nat} (hk : 3 ≤ k) (a b : Int) : cmp_Or_int.f k [a, b] = some (if a = 0 then b else a) := by
  obtain ⟨k, rfl⟩ : ∃ m, k = m + 1 + 1 + 1 := ⟨k - 3, by omega⟩
  have w0 : wrap64 (0 + 1) = 1 := by unfold wrap64; omega
  have w1 : wrap64 (1 + 1) = 2 := by unfold wrap64; omega
  have r0 : rd [a, b] 0 = a := rfl
  have r1 : rd [a, b] 1 = b := rfl
  simp only [cmp_Or_int.f, cmp_Or_int.l0, List.length_cons, List.length_nil, w0, w1, r0, r1]
  by_cases h1 : a = 0
  · by_cases h2 : b = 0
    · simp [h1, h2]
    · simp [h1, h2]
  · simp [h1]
theorem impl_aggOrder_eq {k : Nat} (hk : 3 ≤ k) (a b c d e f a' b' c' d' e' f' : Int) : impl_aggOrder.f k a b c d e f a' b' c' d' e' f' = some (ordV a b a' b') := by
  simp only [impl_aggOrder.f, cmp_Compare_eq, cmp_Or_eq hk, Option.bind_some, ordV]
theorem cmpV_zero (a b : Int) : cmpV a b = 0 ↔ a = b := by
  unfold cmpV
  split
  · omega
  · split <;> omega
theorem ordV_zero (a b c d : Int) : ordV a b c d = 0 ↔ a = c ∧ b = d := by
  unfold ordV
  by_cases h : cmpV a c = 0
  · rw [if_pos h, cmpV_zero]
    exact ⟨fun h2 => ⟨(cmpV_zero _ _).1 h, h2⟩, fun h2 => h2.2⟩
  · rw [if_neg h]
    exact ⟨fun h2 => absurd h2 h, fun h2 => absurd ((cmpV_zero _ _).2 h2.1) h⟩

theorem ordV_ahead (x y : S80) : ordV x.f0 x.f1 y.f0 y.f1 ≥ 0 ↔ ¬ ahS x y := by
  unfold ordV cmpV ahS
  (repeat' split) <;> omega
theorem areAggs_idx (l : List S80) (p : S80 → Option Bool) (hp : ∀ x, p x = some (!(okS x))) : ∀ i : Nat, ∃ r, idx80 p l i = some r ∧ (r ≥ 0 ↔ ¬ ∀ x ∈ l, okS x = true) := by
  induction l with
  | nil => intro i; exact ⟨-1, rfl, by constructor <;> simp⟩
  | cons x xs ih =>
    intro i
    unfold idx80
    rw [hp, Option.bind_some]
    by_cases h : okS x = true
    · rw [h, Bool.not_true, if_neg (by simp)]
      obtain ⟨r, e1, e2⟩ := ih (i + 1)
      refine ⟨r, e1, e2.trans ?_⟩
      simp [h]
    · rw [Bool.eq_false_iff.2 h, Bool.not_false, if_pos rfl]
      refine ⟨_, rfl, fun _ H => h (H x (by simp)), fun _ => by omega⟩
theorem all_at {l : List S80} : (∀ x ∈ l, okS x = true) ↔ AllOk l := by
  unfold AllOk
  constructor
  · intro H j hj
    rw [rdAI_get hj]
    exact H _ (List.getElem_mem hj)
  · intro H x hx
    obtain ⟨j, hj, rfl⟩ := List.getElem_of_mem hx
    rw [← rdAI_get hj]
    exact H j hj
theorem impl_areAggs_eq (l : List S80) : ∃ b, impl_areAggs.f l = some b ∧ (b = true ↔ AllOk l) := by
  obtain ⟨r, e1, e2⟩ := areAggs_idx l (fun x => impl_areAggs_1.f x.f0 x.f1 x.f2 x.f3 x.f4 x.f5) (fun x => by
    simp only [impl_areAggs_1.f, impl_AggOk_eq, spec_AggOk_eq, Option.bind_some]
    rfl) 0
  refine ⟨!(decide (r ≥ 0)), by unfold impl_areAggs.f; rw [e1, Option.bind_some], ?_⟩
  rw [Bool.not_eq_true', decide_eq_false_iff_not, e2, all_at, Classical.not_not]
theorem impl_areSorted_l0 (l : List S80) (hn : l.length ≤ 1048576) : ∀ (d k i : Nat), 1 ≤ i → i + d = max l.length 1 → d + 3 < k → ∃ b, impl_areSorted.l0 k l (i : Int) = some b ∧
    (b = true ↔ ∀ j : Nat, i ≤ j → j < l.length → ahS (rd_T80 l ((j : Int) - 1)) (rd_T80 l (j : Int))) := by
  intro d
  induction d with
  | zero =>
    intro k i hi h hk
    obtain ⟨k, rfl⟩ : ∃ m, k = m + 1 := ⟨k - 1, by omega⟩
    simp only [impl_areSorted.l0]
    rw [if_neg (by omega)]
    exact ⟨true, rfl, (fun _ j h1 h2 => by omega), fun _ => rfl⟩
  | succ d ih =>
    intro k i hi h hk
    obtain ⟨k, rfl⟩ : ∃ m, k = m + 1 := ⟨k - 1, by omega⟩
    simp only [impl_areSorted.l0]
    rw [w64 (x := (i : Int) - 1) (by omega) (by omega), if_pos (by omega), if_pos (by omega), if_pos (by omega), if_pos (by omega), impl_aggOrder_eq (by omega), Option.bind_some]
    by_cases h3 : ahS (rd_T80 l ((i : Int) - 1)) (rd_T80 l (i : Int))
    · rw [if_neg (fun hh => (ordV_ahead _ _).1 hh h3), wi (by omega)]
      obtain ⟨b, e1, e2⟩ := ih k (i + 1) (by omega) (by omega) (by omega)
      refine ⟨b, e1, e2.trans ⟨fun H j h1 h2 => ?_, fun H j h1 h2 => H j (by omega) h2⟩⟩
      by_cases e : i = j
      · subst e; exact h3
      · exact H j (by omega) h2
    · rw [if_pos ((ordV_ahead _ _).2 h3)]
      refine ⟨false, rfl, (fun h => by cases h), fun H => absurd (H i (Nat.le_refl _) (by omega)) h3⟩
theorem impl_isMany_eq (n : Int) : impl_isMany.f n = some (decide (0 ≤ n ∧ n ≤ 1000000000)) := by
  simp only [impl_isMany.f, impl_within_eq, Option.bind_some]
theorem impl_ShardOk_eq {k : Nat} (hk : 100 ≤ k) (l : List S80) (m a o : Int) : impl_ShardOk.f k l m a o = some (decide (ShOk l m a o)) := by
  have F : ∀ (P : Prop) [Decidable P], ¬ P → ¬ (decide P = true) := fun P _ h => by rw [decide_eq_true_eq]; exact h
  unfold impl_ShardOk.f
  by_cases h0 : (l.length : Int) ≤ 40
  · rw [if_pos h0]
    obtain ⟨b, e1, e2⟩ := impl_areAggs_eq l
    rw [e1, Option.bind_some]
    by_cases h1 : b = true
    · rw [if_pos h1]
      obtain ⟨s, f1, f2⟩ := impl_areSorted_l0 l (by omega) (max l.length 1 - 1) k 1 (by omega) (by omega) (by omega)
      unfold impl_areSorted.f
      rw [show ((1 : Nat) : Int) = 1 from rfl] at f1
      rw [f1, Option.bind_some, impl_isMark_eq, impl_isMany_eq, impl_isMany_eq, Option.bind_some, Option.bind_some, Option.bind_some]
      have f3 : s = true ↔ Srt l := f2.trans (Iff.trans ⟨fun H j h1 h2 => H j h2 h1, fun H j h1 h2 => H j h2 h1⟩ srt_pred.symm)
      by_cases g1 : s = true
      · rw [if_pos g1]
        by_cases g2 : -1 ≤ m ∧ m ≤ 1000000
        · rw [if_pos (decide_eq_true g2)]
          by_cases g3 : 0 ≤ a ∧ a ≤ 1000000000
          · rw [if_pos (decide_eq_true g3)]
            congr 1
            rw [Bool.eq_iff_iff, decide_eq_true_eq, decide_eq_true_eq]
            exact ⟨fun g4 => ⟨by omega, g2, g3, g4, e2.1 h1, f3.1 g1⟩, fun g => g.2.2.2.1⟩
          · rw [if_neg (F _ g3), decide_eq_false (fun h => g3 h.2.2.1)]
        · rw [if_neg (F _ g2), decide_eq_false (fun h => g2 h.2.1)]
      · rw [if_neg g1, decide_eq_false (fun h => g1 (f3.2 h.2.2.2.2.2))]
    · rw [if_neg h1, decide_eq_false (fun h => h1 (e2.2 h.2.2.2.2.1))]
  · rw [if_neg h0, decide_eq_false (fun h => by have := h.1; omega)]

theorem impl_ClosedOf_1_eq (m s : Int) (x : S80) : impl_ClosedOf_1.f m s x.f0 x.f1 x.f2 x.f3 x.f4 x.f5 = some (!(clos m s x)) := by
  unfold impl_ClosedOf_1.f
  rw [impl_WindowEnd_eq, Option.bind_some]
  rfl
theorem delf_clos (l : List S80) (m s : Int) : slices_DeleteFunc_impl_Agg_impl_Agg.f l (fun x => impl_ClosedOf_1.f m s x.f0 x.f1 x.f2 x.f3 x.f4 x.f5) = some (l.filter (clos m s)) := by
  have hp : (fun x : S80 => impl_ClosedOf_1.f m s x.f0 x.f1 x.f2 x.f3 x.f4 x.f5) = fun x => some (!(clos m s x)) := funext fun x => impl_ClosedOf_1_eq m s x
  unfold slices_DeleteFunc_impl_Agg_impl_Agg.f delf80
  rw [hp, if_pos (by simp)]
  congr 1
  apply List.filter_congr
  intro x _
  simp [sure80]
theorem impl_ClosedOf_eq {k : Nat} {l : List S80} {m a o s : Int} (hn : l.length ≤ 1048576) (hk : 200 ≤ k) : impl_ClosedOf.f k l m a o s = some (closedV l m a o s) := by
  obtain ⟨k, rfl⟩ : ∃ m, k = m + 1 := ⟨k - 1, by omega⟩
  have e : l.length < 2932031007402 := by omega
  have ec : slices_Clone_impl_Agg_impl_Agg.f l = some l := by simp [slices_Clone_impl_Agg_impl_Agg.f, e]
  simp only [impl_ClosedOf.f, impl_ShardOk_eq (show 100 ≤ k + 1 by omega), impl_isSize_eq, Option.bind_some, closedV, decide_eq_true_eq, impl_ClosedOf.j0, ec, delf_clos]
  by_cases h1 : ShOk l m a o
  · by_cases h2 : 1 ≤ s ∧ s ≤ 1000000
    · simp [h1, h2]
    · simp [h1, h2]
  · simp [h1]
theorem closedV_len (l : List S80) (m a o s : Int) : (closedV l m a o s).length ≤ l.length := by
  unfold closedV
  split
  · exact List.length_filter_le _ _
  · exact Nat.zero_le _

theorem eqAgg_refl (a b c d e f : Int) : laws_eqAgg.f a b c d e f a b c d e f = some true := by simp [laws_eqAgg.f]

theorem rdSAgg_at {x : List S80} {i : Nat} (h : i < x.length) : x[i]? = some (rd_T80 x (i : Int)) := by
  simp [rd_T80, List.getD_eq_getElem?_getD, List.getElem?_eq_getElem h]
theorem eqAggS_l0 (x : List S80) (hn : x.length ≤ 1048576) : ∀ (d k i : Nat), i + d = x.length → d < k → laws_eqAggS.l0 k x x (i : Int) = some true := by
  intro d
  induction d with
  | zero =>
    intro k i h hk
    obtain ⟨k, rfl⟩ : ∃ m, k = m + 1 := ⟨k - 1, by omega⟩
    simp only [laws_eqAggS.l0]
    rw [if_neg (by omega)]
  | succ d ih =>
    intro k i h hk
    obtain ⟨k, rfl⟩ : ∃ m, k = m + 1 := ⟨k - 1, by omega⟩
    simp only [laws_eqAggS.l0, eqAgg_refl, Option.bind_some, if_true]
    rw [if_pos (by omega), if_pos (by omega), if_pos (by omega), wi (by omega)]
    exact ih k (i + 1) (by omega) (by omega)
theorem eqAggS_refl {k : Nat} {x : List S80} (hn : x.length ≤ 1048576) (hk : x.length < k) : laws_eqAggS.f k x x = some true := by
  unfold laws_eqAggS.f
  rw [if_pos rfl]
  exact eqAggS_l0 x hn x.length k 0 (by omega) hk

def aggConv (s : S152) : S80 := ⟨s.f0, s.f1, s.f2, s.f3, s.f4, s.f5⟩
theorem toAggS_l0 (x0 : List S152) (hn : x0.length ≤ 1048576) : ∀ (d k i : Nat) (x3 : List S80), i + d = x0.length → d < k → x3.length = x0.length → (∀ j, j < i → x3[j]? = (x0.map aggConv)[j]?) →
    laws_toAggS.l0 k x0 x3 (i : Int) = some (x0.map aggConv) := by
  intro d
  induction d with
  | zero =>
    intro k i x3 h hk hl hp
    obtain ⟨k, rfl⟩ : ∃ m, k = m + 1 := ⟨k - 1, by omega⟩
    simp only [laws_toAggS.l0]
    rw [if_neg (by omega)]
    congr 1
    apply List.ext_getElem?
    intro j
    by_cases hj : j < i
    · exact hp j hj
    · rw [List.getElem?_eq_none (by omega), List.getElem?_eq_none (by rw [List.length_map]; omega)]
  | succ d ih =>
    intro k i x3 h hk hl hp
    obtain ⟨k, rfl⟩ : ∃ m, k = m + 1 := ⟨k - 1, by omega⟩
    simp only [laws_toAggS.l0, laws_toAgg.f, Option.bind_some]
    rw [if_pos (by omega), if_pos (by omega), if_pos (by omega), wi (by omega)]
    refine ih k (i + 1) _ (by omega) (by omega) (by simp [hl]) ?_
    intro j hj
    rw [Int.toNat_natCast, List.getElem?_set]
    by_cases e : i = j
    · subst e
      rw [if_pos rfl, if_pos (by omega), List.getElem?_map, rdAL_at (by omega)]
      rfl
    · rw [if_neg e]
      exact hp j (by omega)
theorem toAggS_eq {k : Nat} {l : List S152} (hn : l.length ≤ 1048576) (hk : l.length < k) : laws_toAggS.f k l = some (l.map aggConv) := by
  unfold laws_toAggS.f
  rw [if_pos (by omega), if_pos (by omega)]
  exact toAggS_l0 l hn l.length k 0 _ (by omega) hk (by simp) (by omega)

theorem szAggS_eq {l : List S152} {c : Int} (hm : l.length ≤ maxLen) (h0 : 0 ≤ c) (h1 : c ≤ 1048576) : laws_szAggS.f l c = some (if (l.length : Int) ≤ c then c - (l.length : Int) else -1) := by
  unfold maxLen at hm
  unfold laws_szAggS.f
  rw [w64 (x := c - (l.length : Int)) (by omega) (by omega)]
  by_cases h : (l.length : Int) ≤ c
  · rw [if_neg (by omega), if_pos h]
  · rw [if_pos (by omega), if_neg h]

theorem eqShard_refl {k : Nat} {x : List S80} {a b c : Int} (hn : x.length ≤ 1048576) (hk : x.length < k) : laws_eqShard.f k x a b c x a b c = some true := by
  simp [laws_eqShard.f, eqAggS_refl hn hk]
theorem toShard_eq {k : Nat} {l : List S152} {a b c : Int} (hn : l.length ≤ 1048576) (hk : l.length < k) : laws_toShard.f k l a b c = some (l.map aggConv, a, b, c) := by
  simp [laws_toShard.f, toAggS_eq hn hk]
theorem szShard_eq {l : List S152} {a b d c : Int} (hm : l.length ≤ maxLen) (h0 : 0 ≤ c) (h1 : c ≤ 1048576) : laws_szShard.f l a b d c = some (if (l.length : Int) ≤ c then c - (l.length : Int) else -1) := by
  unfold laws_szShard.f
  rw [szAggS_eq hm h0 h1, Option.bind_some]
  by_cases h : (l.length : Int) ≤ c
  · rw [if_pos h, if_neg (by omega)]
  · rw [if_neg h, if_pos (by omega)]

def mkAgg (c : Int) (j : Nat) : S80 := ⟨c + 6 * (j : Int) + 0, c + 6 * (j : Int) + 1, c + 6 * (j : Int) + 2, c + 6 * (j : Int) + 3, c + 6 * (j : Int) + 4, c + 6 * (j : Int) + 5⟩
def mLAgg (c : Int) (n : Nat) : List S80 := (List.range n).map fun (j : Nat) => mkAgg c j
theorem mLAgg_length (c : Int) (n : Nat) : (mLAgg c n).length = n := by simp [mLAgg]
theorem mLAgg_get {c : Int} {n j : Nat} (h : j < n) : (mLAgg c n)[j]? = some (mkAgg c j) := by
  simp [mLAgg, List.getElem?_range, h]
theorem rdSAgg_set {x : List S80} {i : Nat} {v : S80} (h : i < x.length) : rd_T80 (x.set i v) (i : Int) = v := by
  have e := rdSAgg_at (x := x.set i v) (i := i) (by simp; omega)
  rw [List.getElem?_set, if_pos rfl, if_pos h] at e
  exact (Option.some.inj e).symm
theorem markAggS_l0 (n : Nat) (hn : n ≤ 1048576) (c : Int) (h0 : 0 ≤ c) (h1 : c ≤ 1073741824) : ∀ (d k i : Nat) (x : List S80), x.length = n → i + d = n → d < k → (∀ j, j < i → x[j]? = some (mkAgg c j)) →
    laws_markAggS.l0 k x (c + 6 * (i : Int) + 0) (i : Int) = some (c + 6 * (n : Int), mLAgg c n) := by
  intro d
  induction d with
  | zero =>
    intro k i x hx h hk hp
    obtain ⟨k, rfl⟩ : ∃ m, k = m + 1 := ⟨k - 1, by omega⟩
    simp only [laws_markAggS.l0]
    rw [if_neg (by omega)]
    obtain rfl : i = n := by omega
    have e : x = mLAgg c i := by
      apply List.ext_getElem?
      intro j
      by_cases hj : j < i
      · rw [hp j hj, mLAgg_get hj]
      · rw [List.getElem?_eq_none (by omega), List.getElem?_eq_none (by rw [mLAgg_length]; omega)]
    rw [e]
    simp
  | succ d ih =>
    intro k i x hx h hk hp
    obtain ⟨k, rfl⟩ : ∃ m, k = m + 1 := ⟨k - 1, by omega⟩
    have q0 : wrap64 (c + 6 * (i : Int) + 0 + 1) = c + 6 * (i : Int) + 1 := by unfold wrap64; omega
    have q1 : wrap64 (c + 6 * (i : Int) + 1 + 1) = c + 6 * (i : Int) + 2 := by unfold wrap64; omega
    have q2 : wrap64 (c + 6 * (i : Int) + 2 + 1) = c + 6 * (i : Int) + 3 := by unfold wrap64; omega
    have q3 : wrap64 (c + 6 * (i : Int) + 3 + 1) = c + 6 * (i : Int) + 4 := by unfold wrap64; omega
    have q4 : wrap64 (c + 6 * (i : Int) + 4 + 1) = c + 6 * (i : Int) + 5 := by unfold wrap64; omega
    have q5 : wrap64 (c + 6 * (i : Int) + 5 + 1) = c + 6 * (i : Int) + 6 := by unfold wrap64; omega
    simp only [laws_markAggS.l0, Int.toNat_natCast, Option.bind_some, q0, q1, q2, q3, q4, q5]
    rw [if_pos (by omega), if_pos (by omega), wi (by omega)]
    simp only [rdSAgg_set (x := x) (i := i) (by omega), List.set_set]
    have hs := ih k (i + 1) (x.set i (mkAgg c i)) (by simp [hx]) (by omega) (by omega) (by
      intro j hj
      rw [List.getElem?_set]
      by_cases e : i = j
      · subst e
        rw [if_pos rfl, if_pos (by omega)]
      · rw [if_neg e]
        exact hp j (by omega))
    rw [show c + 6 * ((i + 1 : Nat) : Int) + 0 = c + 6 * (i : Int) + 6 by omega] at hs
    exact hs
theorem markAggS_eq {k : Nat} {x : List S80} {c : Int} (hn : x.length ≤ 1048576) (h0 : 0 ≤ c) (h1 : c ≤ 1073741824) (hk : x.length < k) :
    laws_markAggS.f k x c = some (c + 6 * (x.length : Int), mLAgg c x.length) := by
  unfold laws_markAggS.f
  have h := markAggS_l0 x.length hn c h0 h1 x.length k 0 x rfl (by omega) hk (by omega)
  simpa using h
theorem heldAggS_l0 (n : Nat) (hn : n ≤ 1048576) (c : Int) (h0 : 0 ≤ c) (h1 : c ≤ 1073741824) : ∀ (d k i : Nat), i + d = n → d < k →
    laws_heldAggS.l0 k (mLAgg c n) (c + 6 * (i : Int) + 0) (i : Int) = some (c + 6 * (n : Int)) := by
  intro d
  induction d with
  | zero =>
    intro k i h hk
    obtain ⟨k, rfl⟩ : ∃ m, k = m + 1 := ⟨k - 1, by omega⟩
    simp only [laws_heldAggS.l0]
    rw [if_neg (by rw [mLAgg_length]; omega)]
    obtain rfl : i = n := by omega
    simp
  | succ d ih =>
    intro k i h hk
    obtain ⟨k, rfl⟩ : ∃ m, k = m + 1 := ⟨k - 1, by omega⟩
    have q0 : wrap64 (c + 6 * (i : Int) + 0 + 1) = c + 6 * (i : Int) + 1 := by unfold wrap64; omega
    have q1 : wrap64 (c + 6 * (i : Int) + 1 + 1) = c + 6 * (i : Int) + 2 := by unfold wrap64; omega
    have q2 : wrap64 (c + 6 * (i : Int) + 2 + 1) = c + 6 * (i : Int) + 3 := by unfold wrap64; omega
    have q3 : wrap64 (c + 6 * (i : Int) + 3 + 1) = c + 6 * (i : Int) + 4 := by unfold wrap64; omega
    have q4 : wrap64 (c + 6 * (i : Int) + 4 + 1) = c + 6 * (i : Int) + 5 := by unfold wrap64; omega
    have q5 : wrap64 (c + 6 * (i : Int) + 5 + 1) = c + 6 * (i : Int) + 6 := by unfold wrap64; omega
    have e : rd_T80 (mLAgg c n) (i : Int) = mkAgg c i := by
      have h2 := rdSAgg_at (x := mLAgg c n) (i := i) (by rw [mLAgg_length]; omega)
      rw [mLAgg_get (by omega)] at h2
      exact (Option.some.inj h2).symm
    have hs := ih k (i + 1) (by omega) (by omega)
    rw [show c + 6 * ((i + 1 : Nat) : Int) + 0 = c + 6 * (i : Int) + 6 by omega] at hs
    simp only [laws_heldAggS.l0, e, mkAgg, q0, q1, q2, q3, q4, q5, if_true]
    rw [if_pos (by rw [mLAgg_length]; omega), if_pos (by omega), wi (by omega)]
    exact hs
theorem heldAggS_eq {k n : Nat} {c : Int} (hn : n ≤ 1048576) (h0 : 0 ≤ c) (h1 : c ≤ 1073741824) (hk : n < k) :
    laws_heldAggS.f k (mLAgg c n) c = some (c + 6 * (n : Int)) := by
  unfold laws_heldAggS.f
  have h := heldAggS_l0 n hn c h0 h1 n k 0 (by omega) hk
  simpa using h

theorem markShard_eq {k : Nat} {x : List S80} {a b d c : Int} (hn : x.length ≤ 1048576) (h0 : 0 ≤ c) (h1 : c ≤ 1073741824) (hk : x.length < k) :
    laws_markShard.f k x a b d c = some (c + 6 * (x.length : Int), mLAgg c x.length) := by
  simp [laws_markShard.f, markAggS_eq hn h0 h1 hk]

theorem FnExactClosedOf : ∀ (l0_0 : List S152) (a0_1 : Int) (a0_2 : Int) (a0_3 : Int) (a1 : Int), l0_0.length ≤ maxLen → (∀ x ∈ l0_0, (Lit.int .i64 x.f0).wf = true ∧ (Lit.int .i64 x.f1).wf = true ∧ (Lit.int .i64 x.f2).wf = true ∧ (Lit.int .i64 x.f3).wf = true ∧ (Lit.int .i64 x.f4).wf = true ∧ (Lit.int .i64 x.f5).wf = true) → (Lit.int .i64 a0_1).wf = true → (Lit.int .i64 a0_2).wf = true → (Lit.int .i64 a0_3).wf = true → (Lit.int .i64 a1).wf = true → ∃ k, laws_FnExactClosedOf.f k l0_0 a0_1 a0_2 a0_3 a1 = some true := by
  intro l0 m a o s hm _ _ _ _ _
  refine ⟨l0.length + 400, ?_⟩
  simp only [laws_FnExactClosedOf.f, szShard_eq (c := 1048576) hm (by omega) (by omega), Option.bind_some]
  by_cases hl : (l0.length : Int) ≤ 1048576
  · rw [if_pos hl, if_neg (by omega)]
    have hll : (l0.map aggConv).length = l0.length := by simp
    have t0 : ∀ k, l0.length + 100 ≤ k → laws_toShard.f k l0 m a o = some (l0.map aggConv, m, a, o) := fun k hk => toShard_eq (by omega) (by omega)
    generalize l0.map aggConv = l at t0 hll
    have e1 : ∀ k, l0.length + 200 ≤ k → spec_ClosedOf.f k l m a o s = some (closedV l m a o s) := fun k hk => spec_ClosedOf_eq (by omega) l m a o s
    have e2 : ∀ k, l0.length + 200 ≤ k → impl_ClosedOf.f k l m a o s = some (closedV l m a o s) := fun k hk => impl_ClosedOf_eq (by omega) (by omega)
    have hv : (closedV l m a o s).length ≤ l0.length := by have := closedV_len l m a o s; omega
    generalize closedV l m a o s = v at e1 e2 hv
    (first | rw [t0 _ (by omega), Option.bind_some] | rw [Option.bind_some]); (try dsimp only)
    (first | rw [e1 _ (by omega), Option.bind_some] | rw [Option.bind_some]); (try dsimp only)
    (first | rw [t0 _ (by omega), Option.bind_some] | rw [Option.bind_some]); (try dsimp only)
    (first | rw [e2 _ (by omega), Option.bind_some] | rw [Option.bind_some]); (try dsimp only)
    (first | rw [eqAggS_refl (by omega) (by omega), Option.bind_some] | rw [Option.bind_some]); (try dsimp only)
    (first | rw [if_pos rfl] | rw [if_pos trivial]); (try dsimp only)
    (first | rw [t0 _ (by omega), Option.bind_some] | rw [Option.bind_some]); (try dsimp only)
    (first | rw [eqShard_refl (by omega) (by omega), Option.bind_some] | rw [Option.bind_some]); (try dsimp only)
    (first | rw [if_pos rfl] | rw [if_pos trivial]); (try dsimp only)
    (first | rw [markShard_eq (by omega) (by omega) (by omega) (by omega), Option.bind_some] | rw [Option.bind_some]); (try dsimp only)
    rw [if_neg (by omega)]
    (first | rw [eqAggS_refl (by omega) (by omega), Option.bind_some] | rw [Option.bind_some]); (try dsimp only)
    simp only [laws_FnExactClosedOf.j0, bne_self_eq_false, Bool.not_true, Bool.false_eq_true, if_false]
    (first | rw [markAggS_eq (by omega) (by omega) (by omega) (by omega), Option.bind_some] | rw [Option.bind_some]); (try dsimp only)
    (first | rw [heldAggS_eq (by omega) (by omega) (by omega) (by omega), Option.bind_some] | rw [Option.bind_some]); (try dsimp only)
    rw [if_neg (by omega)]
    (first | rw [if_pos rfl] | rw [if_pos trivial]); (try dsimp only)
    (first | rw [t0 _ (by omega), Option.bind_some] | rw [Option.bind_some]); (try dsimp only)
    (first | rw [e2 _ (by omega), Option.bind_some] | rw [Option.bind_some]); (try dsimp only)
    (first | rw [eqAggS_refl (by omega) (by omega), Option.bind_some] | rw [Option.bind_some]); (try dsimp only)
    (first | rw [if_pos rfl] | rw [if_pos trivial]); (try dsimp only)
    (first | rw [heldAggS_eq (by omega) (by omega) (by omega) (by omega), Option.bind_some] | rw [Option.bind_some]); (try dsimp only)
    rw [if_neg (by omega)]
    (first | rw [if_pos rfl] | rw [if_pos trivial]); (try dsimp only)
  · rw [if_neg hl, if_pos (by omega)]

end Go.Proofs.Ytcflalomjehiiaa.Pure
