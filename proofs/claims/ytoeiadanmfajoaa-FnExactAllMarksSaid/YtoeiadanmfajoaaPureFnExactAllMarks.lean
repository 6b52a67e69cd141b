/-
  The law FnExactAllMarks answers true: the program's AllMarks is the reference's, for all arguments. No condition.
-/
import Derived.Test.YtoeiadanmfajoaaQFnExactAllMarksx3
namespace Go.Proofs.Ytoeiadanmfajoaa.Pure
open Go.RowKit Go.Proofs.Ytoeiadanmfajoaa.QFnExactAllMarks Go.Proofs.YtoeiadanmfajoaaW.PrintWords Go.Proofs.YtoeiadanmfajoaaW.PrintLast Go.Proofs.YtoeiadanmfajoaaW.PrintMore
set_option linter.unusedSimpArgs false
set_option linter.unusedVariables false

theorem spec_in_eq (a lo hi : Int) : spec_l01In.f a lo hi = some (decide (lo ≤ a ∧ a ≤ hi)) := by
  unfold spec_l01In.f; by_cases h : lo ≤ a <;> simp [h]

theorem spec_l04Mark_eq (a : Int) : spec_l04Mark.f a = some (decide ((-1) ≤ a ∧ a ≤ 1000000)) := by
  simp only [spec_l04Mark.f, spec_in_eq, Option.bind_some]

theorem spec_TickOk_eq (a : Int) : spec_TickOk.f a = some (decide (0 ≤ a ∧ a ≤ 1000000000)) := by
  simp only [spec_TickOk.f, spec_in_eq, Option.bind_some]

theorem impl_within_eq (a lo hi : Int) : impl_within.f a lo hi = some (decide (lo ≤ a ∧ a ≤ hi)) := by
  unfold impl_within.f; by_cases h : lo ≤ a <;> simp [h]

theorem impl_isMark_eq (a : Int) : impl_isMark.f a = some (decide ((-1) ≤ a ∧ a ≤ 1000000)) := by
  simp only [impl_isMark.f, impl_within_eq, Option.bind_some]

theorem impl_TickOk_eq (a : Int) : impl_TickOk.f a = some (decide (0 ≤ a ∧ a ≤ 1000000000)) := by
  simp only [impl_TickOk.f, impl_within_eq, Option.bind_some]

def srcOk (m k n : Int) : Bool := decide (-1 ≤ m ∧ m ≤ 1000000) && (decide (-1 ≤ k ∧ k ≤ 1000000) && decide (0 ≤ n ∧ n ≤ 1000000000))
theorem spec_SourceOk_eq (a b c : Int) (d e : Bool) : spec_SourceOk.f a b c d e = some (srcOk a b c) := by
  simp only [spec_SourceOk.f, spec_l04Mark_eq, spec_TickOk_eq, Option.bind_some, srcOk]
  by_cases h1 : -1 ≤ a ∧ a ≤ 1000000
  · by_cases h2 : -1 ≤ b ∧ b ≤ 1000000
    · simp [h1, h2]
    · simp [h1, h2]
  · simp [h1]
theorem impl_SourceOk_eq (a b c : Int) (d e : Bool) : impl_SourceOk.f a b c d e = some (srcOk a b c) := by
  simp only [impl_SourceOk.f, impl_isMark_eq, impl_TickOk_eq, Option.bind_some, srcOk]
  by_cases h1 : -1 ≤ a ∧ a ≤ 1000000
  · by_cases h2 : -1 ≤ b ∧ b ≤ 1000000
    · simp [h1, h2]
    · simp [h1, h2]
  · simp [h1]
theorem srcOk_iff (m k n : Int) : srcOk m k n = true ↔ (-1 ≤ m ∧ m ≤ 1000000) ∧ (-1 ≤ k ∧ k ≤ 1000000) ∧ 0 ≤ n ∧ n ≤ 1000000000 := by
  simp [srcOk]

theorem wi {i : Nat} (h : i < 4611686018427387904) : wrap64 ((i : Int) + 1) = ((i + 1 : Nat) : Int) := by
  unfold wrap64; omega

theorem w64 {x : Int} (h1 : -9223372036854775808 ≤ x) (h2 : x ≤ 9223372036854775807) : wrap64 x = x := by
  unfold wrap64; omega

theorem AllMarks_l0_eq (l : List S100) (last : Int) : ∀ (k : Nat) (m : Int) (f : Bool) (i : Int), (f = true → m ≤ 1000000) →
    impl_AllMarks.l0 k last m f l (l.length : Int) i = spec_AllMarks.l0 k l last (if f = true then m else 1000001) i := by
  intro k
  induction k with
  | zero => intro m f i h; rfl
  | succ k ih =>
    intro m f i h
    simp only [impl_AllMarks.l0, spec_AllMarks.l0, impl_SourceOk_eq, spec_SourceOk_eq, Option.bind_some]
    by_cases h1 : i < (l.length : Int)
    · by_cases h2 : 0 ≤ i
      · rw [if_pos h1, if_pos h2, if_pos h1, if_pos h1, if_pos h2]
        generalize rd_T100 l i = s
        by_cases h3 : srcOk s.f0 s.f1 s.f2 = true
        · have hs := (srcOk_iff _ _ _).1 h3
          rw [if_pos h3, if_pos h3]
          by_cases h4 : s.f4 = true
          · rw [if_pos h4, if_pos h4]
            by_cases h5 : s.f3 = true
            · rw [if_pos h5, if_pos h5, ih m f _ h]
            · rw [if_neg h5, if_neg h5]
              cases f
              · simp only [Bool.false_eq_true, if_false]
                rw [if_pos (by omega), ih s.f1 true _ (fun _ => by omega), if_pos rfl]
              · simp only [if_true]
                by_cases h6 : s.f1 < m
                · rw [if_pos h6, if_pos h6, ih s.f1 true _ (fun _ => by omega), if_pos rfl]
                · rw [if_neg h6, if_neg h6, ih m true _ h, if_pos rfl]
          · rw [if_neg h4, if_neg h4, ih m f _ h]
        · rw [if_neg h3, if_neg h3]
      · rw [if_pos h1, if_neg h2, if_pos h1, if_neg h2]
    · rw [if_neg h1, if_neg h1]
      cases f
      · simp
      · have hm := h rfl
        simp only [if_true]
        rw [if_neg (by omega)]
        unfold mx
        by_cases h3 : m < last
        · rw [if_pos h3, if_pos h3]
        · rw [if_neg h3, if_neg h3]
theorem spec_AllMarks_l0_some (l : List S100) (last : Int) (hn : l.length ≤ 300) : ∀ (d k i : Nat) (m : Int), i + d = l.length → d < k → ∃ r, spec_AllMarks.l0 k l last m (i : Int) = some r := by
  intro d
  induction d with
  | zero =>
    intro k i m h hk
    obtain ⟨k, rfl⟩ : ∃ m, k = m + 1 := ⟨k - 1, by omega⟩
    simp only [spec_AllMarks.l0]
    rw [if_neg (by omega)]
    (repeat' split) <;> exact ⟨_, rfl⟩
  | succ d ih =>
    intro k i m h hk
    obtain ⟨k, rfl⟩ : ∃ m, k = m + 1 := ⟨k - 1, by omega⟩
    simp only [spec_AllMarks.l0, spec_SourceOk_eq, Option.bind_some]
    rw [if_pos (by omega), if_pos (by omega), wi (by omega)]
    (repeat' split) <;> first | exact ih k (i + 1) _ (by omega) (by omega) | exact ⟨_, rfl⟩
theorem AllMarks_both {k : Nat} (l : List S100) (last : Int) (hk : 400 ≤ k) : ∃ r, spec_AllMarks.f k l last = some r ∧ impl_AllMarks.f k l last = some r := by
  obtain ⟨k, rfl⟩ : ∃ m, k = m + 1 := ⟨k - 1, by omega⟩
  simp only [spec_AllMarks.f, impl_AllMarks.f, spec_l04Mark_eq, impl_isMark_eq, spec_AllMarks.j0, impl_AllMarks.j0, Option.bind_some, AllMarks_l0_eq l last k 0 false 0 (fun h => by cases h)]
  by_cases h1 : -1 ≤ last ∧ last ≤ 1000000
  · by_cases h2 : (l.length : Int) > 300
    · exact ⟨-2, by simp [h1, h2], by simp [h1, h2]⟩
    · obtain ⟨r, hr⟩ := spec_AllMarks_l0_some l last (by omega) l.length k 0 1000001 (by omega) (by omega)
      refine ⟨r, ?_, ?_⟩
      · simp [h1, h2]; exact hr
      · simp [h1, h2]; exact hr
  · exact ⟨-2, by simp [h1], by simp [h1]⟩

theorem rdSL_at {x : List S102} {i : Nat} (h : i < x.length) : x[i]? = some (rd_T102 x (i : Int)) := by
  simp [rd_T102, List.getD_eq_getElem?_getD, List.getElem?_eq_getElem h]
theorem rdSI_at {x : List S100} {i : Nat} (h : i < x.length) : x[i]? = some (rd_T100 x (i : Int)) := by
  simp [rd_T100, List.getD_eq_getElem?_getD, List.getElem?_eq_getElem h]

def srcConv (s : S102) : S100 := ⟨s.f0, s.f1, s.f2, s.f3, s.f4⟩
theorem toSourceS_l0 (x0 : List S102) (hn : x0.length ≤ 1048576) : ∀ (d k i : Nat) (x3 : List S100), i + d = x0.length → d < k → x3.length = x0.length → (∀ j, j < i → x3[j]? = (x0.map srcConv)[j]?) →
    laws_toSourceS.l0 k x0 x3 (i : Int) = some (x0.map srcConv) := by
  intro d
  induction d with
  | zero =>
    intro k i x3 h hk hl hp
    obtain ⟨k, rfl⟩ : ∃ m, k = m + 1 := ⟨k - 1, by omega⟩
    simp only [laws_toSourceS.l0]
    rw [if_neg (by omega)]
    congr 1
    apply List.ext_getElem?
    intro j
    by_cases hj : j < i
    · exact hp j hj
    · rw [List.getElem?_eq_none (by omega), List.getElem?_eq_none (by rw [List.length_map]; omega)]
  | succ d ih =>
    intro k i x3 h hk hl hp
    obtain ⟨k, rfl⟩ : ∃ m, k = m + 1 := ⟨k - 1, by omega⟩
    simp only [laws_toSourceS.l0, laws_toSource.f, Option.bind_some]
    rw [if_pos (by omega), if_pos (by omega), if_pos (by omega), wi (by omega)]
    refine ih k (i + 1) _ (by omega) (by omega) (by simp [hl]) ?_
    intro j hj
    rw [Int.toNat_natCast, List.getElem?_set]
    by_cases e : i = j
    · subst e
      rw [if_pos rfl, if_pos (by omega), List.getElem?_map, rdSL_at (by omega)]
      rfl
    · rw [if_neg e]
      exact hp j (by omega)
theorem toSourceS_eq {k : Nat} {l : List S102} (hn : l.length ≤ 1048576) (hk : l.length < k) : laws_toSourceS.f k l = some (l.map srcConv) := by
  unfold laws_toSourceS.f
  rw [if_pos (by omega), if_pos (by omega)]
  exact toSourceS_l0 l hn l.length k 0 _ (by omega) hk (by simp) (by omega)

theorem eqSource_refl (a b c : Int) (d e : Bool) : laws_eqSource.f a b c d e a b c d e = some true := by
  simp [laws_eqSource.f]

theorem eqSourceS_l0 (x : List S100) (hn : x.length ≤ 1048576) : ∀ (d k i : Nat), i + d = x.length → d < k → laws_eqSourceS.l0 k x x (i : Int) = some true := by
  intro d
  induction d with
  | zero =>
    intro k i h hk
    obtain ⟨k, rfl⟩ : ∃ m, k = m + 1 := ⟨k - 1, by omega⟩
    simp only [laws_eqSourceS.l0]
    rw [if_neg (by omega)]
  | succ d ih =>
    intro k i h hk
    obtain ⟨k, rfl⟩ : ∃ m, k = m + 1 := ⟨k - 1, by omega⟩
    simp only [laws_eqSourceS.l0, eqSource_refl, Option.bind_some, if_true]
    rw [if_pos (by omega), if_pos (by omega), if_pos (by omega), wi (by omega)]
    exact ih k (i + 1) (by omega) (by omega)
theorem eqSourceS_refl {k : Nat} {x : List S100} (hn : x.length ≤ 1048576) (hk : x.length < k) : laws_eqSourceS.f k x x = some true := by
  unfold laws_eqSourceS.f
  rw [if_pos rfl]
  exact eqSourceS_l0 x hn x.length k 0 (by omega) hk

theorem szSourceS_eq {l : List S102} {c : Int} (hm : l.length ≤ maxLen) (h0 : 0 ≤ c) (h1 : c ≤ 1048576) : laws_szSourceS.f l c = some (if (l.length : Int) ≤ c then c - (l.length : Int) else -1) := by
  unfold maxLen at hm
  unfold laws_szSourceS.f
  rw [w64 (x := c - (l.length : Int)) (by omega) (by omega)]
  by_cases h : (l.length : Int) ≤ c
  · rw [if_neg (by omega), if_pos h]
  · rw [if_pos (by omega), if_neg h]

theorem FnExactAllMarks : ∀ (l0 : List S102) (a1 : Int), l0.length ≤ maxLen → (∀ x ∈ l0, (Lit.int .i64 x.f0).wf = true ∧ (Lit.int .i64 x.f1).wf = true ∧ (Lit.int .i64 x.f2).wf = true) → (Lit.int .i64 a1).wf = true → ∃ k, laws_FnExactAllMarks.f k l0 a1 = some true := by
  intro l a hm _ _
  refine ⟨l.length + 500, ?_⟩
  simp only [laws_FnExactAllMarks.f, szSourceS_eq (c := 1048576) hm (by omega) (by omega), Option.bind_some]
  by_cases hl : (l.length : Int) ≤ 1048576
  · rw [if_pos hl, if_neg (by omega)]
    obtain ⟨r, e1, e2⟩ := AllMarks_both (k := l.length + 500) (l.map srcConv) a (by omega)
    have hl2 : (l.map srcConv).length ≤ 1048576 := by rw [List.length_map]; omega
    have hl3 : (l.map srcConv).length < l.length + 500 := by rw [List.length_map]; omega
    simp only [toSourceS_eq (k := l.length + 500) (l := l) (by omega) (by omega), e1, e2, eqSourceS_refl hl2 hl3, Option.bind_some, if_true]
  · rw [if_neg hl, if_pos (by omega)]

end Go.Proofs.Ytoeiadanmfajoaa.Pure
