/-
  The law FnExactFeedBytes answers true: the program's FeedBytes is the reference's, in new memory, for all arguments. No condition.
-/
import Derived.Test.YtoeiadanmfajoaaQFnExactFeedBytesx4
namespace Go.Proofs.Ytoeiadanmfajoaa.Pure
open Go.RowKit Go.Proofs.Ytoeiadanmfajoaa.QFnExactFeedBytes Go.Proofs.YtoeiadanmfajoaaW.PrintWords Go.Proofs.YtoeiadanmfajoaaW.PrintLast Go.Proofs.YtoeiadanmfajoaaW.PrintMore
set_option linter.unusedSimpArgs false
set_option linter.unusedVariables false

def decOkB (l : List Int) (b : Bool) : Bool := decide ((l.length : Int) ≤ 400) && (!b || decide ((l.length : Int) = 0))
theorem spec_DecoderOk_eq (l : List Int) (b : Bool) : spec_DecoderOk.f l b = some (decOkB l b) := by
  unfold spec_DecoderOk.f decOkB
  by_cases h : (l.length : Int) ≤ 400
  · rw [if_pos h]
    cases b
    · simp [h]
    · simp only [if_true, h, decide_true, Bool.true_and, Bool.not_true, Bool.false_or]
      congr 1
  · rw [if_neg h]; simp [h]
theorem impl_DecoderOk_eq (l : List Int) (b : Bool) : impl_DecoderOk.f l b = some (decOkB l b) := spec_DecoderOk_eq l b

theorem wi {i : Nat} (h : i < 4611686018427387904) : wrap64 ((i : Int) + 1) = ((i + 1 : Nat) : Int) := by
  unfold wrap64; omega

theorem rd_at {x : List Int} {i : Nat} (h : i < x.length) : x[i]? = some (rd x (i : Int)) := by
  simp [rd, List.getD_eq_getElem?_getD, List.getElem?_eq_getElem h]

theorem spec_l02Bytes_l0 (x0 : List Int) (hn : x0.length ≤ 1048576) : ∀ (d k i : Nat), i + d = x0.length → d < k → spec_l02Bytes.l0 k x0 (x0.take i) (i : Int) = some x0 := by
  intro d
  induction d with
  | zero =>
    intro k i h hk
    obtain ⟨k, rfl⟩ : ∃ m, k = m + 1 := ⟨k - 1, by omega⟩
    simp only [spec_l02Bytes.l0]
    rw [if_neg (by omega), List.take_of_length_le (by omega)]
  | succ d ih =>
    intro k i h hk
    obtain ⟨k, rfl⟩ : ∃ m, k = m + 1 := ⟨k - 1, by omega⟩
    simp only [spec_l02Bytes.l0]
    have e : x0.take i ++ [rd x0 (i : Int)] = x0.take (i + 1) := by
      have h2 := rd_at (x := x0) (i := i) (by omega)
      rw [List.getElem?_eq_getElem (by omega)] at h2
      rw [List.take_succ_eq_append_getElem (by omega), Option.some.inj h2]
    rw [if_pos (by omega), if_pos (by omega), if_pos (by rw [List.length_take]; omega), wi (by omega), e]
    exact ih k (i + 1) (by omega) (by omega)
theorem spec_l02Bytes_eq {k : Nat} {l : List Int} (hn : l.length ≤ 1048576) (hk : l.length < k) : spec_l02Bytes.f k l = some l := by
  have h := spec_l02Bytes_l0 l hn l.length k 0 (by omega) hk
  simpa [spec_l02Bytes.f] using h
theorem spec_l02Copy_eq {k : Nat} {l : List Int} {b : Bool} (hn : l.length ≤ 1048576) (hk : l.length < k) : spec_l02Copy.f k l b = some (l, b) := by
  simp [spec_l02Copy.f, spec_l02Bytes_eq hn hk]
theorem impl_ownDecoder_eq {l : List Int} {b : Bool} (hn : l.length ≤ 1048576) : impl_ownDecoder.f l b = some (l, b) := by
  have e : l.length < 140737488355328 := by omega
  simp [impl_ownDecoder.f, slices_Clone_byte_byte.f, e]

theorem w64 {x : Int} (h1 : -9223372036854775808 ≤ x) (h2 : x ≤ 9223372036854775807) : wrap64 x = x := by
  unfold wrap64; omega

def feedV (l : List Int) (b : Bool) (m : List Int) : List Int × Bool × Bool :=
  if decOkB l b = true then (if b = true then (l, b, false) else (if (l.length : Int) + (m.length : Int) > 400 then (l, b, false) else (l ++ m, b, true))) else (l, b, false)
theorem feedV_length (l : List Int) (b : Bool) (m : List Int) : (feedV l b m).1.length ≤ l.length + m.length := by
  unfold feedV
  (repeat' split) <;> simp
theorem decOk_len {l : List Int} {b : Bool} (h : decOkB l b = true) : l.length ≤ 400 := by
  simp [decOkB] at h; omega
theorem spec_FeedBytes_l0 (l : List Int) (b : Bool) (m : List Int) (hm : l.length + m.length ≤ 400) : ∀ (d k i : Nat), i + d = m.length → d < k →
    spec_FeedBytes.l0 k m (i : Int) (l ++ m.take i) b = some (l ++ m, b, true) := by
  intro d
  induction d with
  | zero =>
    intro k i h hk
    obtain ⟨k, rfl⟩ : ∃ m, k = m + 1 := ⟨k - 1, by omega⟩
    simp only [spec_FeedBytes.l0]
    rw [if_neg (by omega), List.take_of_length_le (by omega)]
  | succ d ih =>
    intro k i h hk
    obtain ⟨k, rfl⟩ : ∃ m, k = m + 1 := ⟨k - 1, by omega⟩
    simp only [spec_FeedBytes.l0]
    have e : l ++ m.take i ++ [rd m (i : Int)] = l ++ m.take (i + 1) := by
      have h2 := rd_at (x := m) (i := i) (by omega)
      rw [List.getElem?_eq_getElem (by omega)] at h2
      rw [List.take_succ_eq_append_getElem (by omega), Option.some.inj h2, List.append_assoc]
    rw [if_pos (by omega), if_pos (by omega), if_pos (by rw [List.length_append, List.length_take]; omega), wi (by omega), e]
    exact ih k (i + 1) (by omega) (by omega)
theorem spec_FeedBytes_eq {k : Nat} {l m : List Int} {b : Bool} (hl : l.length ≤ 1048576) (hm : m.length ≤ 1048576) (hk : l.length + m.length + 100 ≤ k) : spec_FeedBytes.f k l b m = some (feedV l b m) := by
  obtain ⟨k, rfl⟩ : ∃ n, k = n + 1 := ⟨k - 1, by omega⟩
  simp only [spec_FeedBytes.f, spec_l02Copy_eq (b := b) hl (show l.length < k + 1 by omega), spec_DecoderOk_eq, Option.bind_some, feedV, spec_FeedBytes.j0]
  by_cases h0 : decOkB l b = true
  · have h1 := decOk_len h0
    rw [if_pos h0, if_pos h0]
    cases b
    · simp only [Bool.false_eq_true, if_false]
      rw [w64 (x := 400 - (l.length : Int)) (by omega) (by omega)]
      by_cases h2 : (l.length : Int) + (m.length : Int) > 400
      · rw [if_pos h2, if_pos (by rw [decide_eq_true_eq]; omega)]
      · rw [if_neg h2, if_neg (by rw [decide_eq_true_eq]; omega)]
        have e := spec_FeedBytes_l0 l false m (by omega) m.length k 0 (by omega) (by omega)
        simpa using e
    · simp
  · rw [if_neg h0, if_neg h0]
    simp
theorem impl_FeedBytes_eq {l m : List Int} {b : Bool} (hl : l.length ≤ 1048576) (hm : m.length ≤ 1048576) : impl_FeedBytes.f l b m = some (feedV l b m) := by
  simp only [impl_FeedBytes.f, impl_ownDecoder_eq (b := b) hl, impl_DecoderOk_eq, Option.bind_some, feedV]
  by_cases h0 : decOkB l b = true
  · have h1 := decOk_len h0
    rw [if_pos h0, if_pos h0, w64 (x := (l.length : Int) + (m.length : Int)) (by omega) (by omega), if_pos (show l.length + m.length < 140737488355328 by omega)]
    (repeat' split) <;> rfl
  · rw [if_neg h0, if_neg h0]

theorem toByteS_l0 (x0 : List Int) (hn : x0.length ≤ 1048576) : ∀ (d k i : Nat) (x3 : List Int), i + d = x0.length → d < k → x3.length = x0.length → (∀ j, j < i → x3[j]? = x0[j]?) →
    laws_toByteS.l0 k x0 x3 (i : Int) = some x0 := by
  intro d
  induction d with
  | zero =>
    intro k i x3 h hk hl hp
    obtain ⟨k, rfl⟩ : ∃ m, k = m + 1 := ⟨k - 1, by omega⟩
    simp only [laws_toByteS.l0]
    rw [if_neg (by omega)]
    congr 1
    apply List.ext_getElem?
    intro j
    by_cases hj : j < i
    · exact hp j hj
    · rw [List.getElem?_eq_none (by omega), List.getElem?_eq_none (by omega)]
  | succ d ih =>
    intro k i x3 h hk hl hp
    obtain ⟨k, rfl⟩ : ∃ m, k = m + 1 := ⟨k - 1, by omega⟩
    simp only [laws_toByteS.l0]
    rw [if_pos (by omega), if_pos (by omega), if_pos (by omega), wi (by omega)]
    refine ih k (i + 1) _ (by omega) (by omega) (by simp [hl]) ?_
    intro j hj
    rw [Int.toNat_natCast, List.getElem?_set]
    by_cases e : i = j
    · subst e
      rw [if_pos rfl, if_pos (by omega), rd_at (by omega)]
    · rw [if_neg e]
      exact hp j (by omega)
theorem toByteS_eq {k : Nat} {l : List Int} (hn : l.length ≤ 1048576) (hk : l.length < k) : laws_toByteS.f k l = some l := by
  unfold laws_toByteS.f
  rw [if_pos (by omega), if_pos (by omega)]
  exact toByteS_l0 l hn l.length k 0 _ (by omega) hk (by simp) (by omega)

theorem eqByteS_l0 (x : List Int) (hn : x.length ≤ 1048576) : ∀ (d k i : Nat), i + d = x.length → d < k → laws_eqByteS.l0 k x x (i : Int) = some true := by
  intro d
  induction d with
  | zero =>
    intro k i h hk
    obtain ⟨k, rfl⟩ : ∃ m, k = m + 1 := ⟨k - 1, by omega⟩
    simp only [laws_eqByteS.l0]
    rw [if_neg (by omega)]
  | succ d ih =>
    intro k i h hk
    obtain ⟨k, rfl⟩ : ∃ m, k = m + 1 := ⟨k - 1, by omega⟩
    simp only [laws_eqByteS.l0]
    rw [if_pos (by omega), if_pos (by omega), if_pos (by omega), wi (by omega)]
    exact ih k (i + 1) (by omega) (by omega)
theorem eqByteS_refl {k : Nat} {x : List Int} (hn : x.length ≤ 1048576) (hk : x.length < k) : laws_eqByteS.f k x x = some true := by
  unfold laws_eqByteS.f
  rw [if_pos rfl]
  exact eqByteS_l0 x hn x.length k 0 (by omega) hk

theorem szByteS_eq {l : List Int} {c : Int} (hm : l.length ≤ maxLen) (h0 : 0 ≤ c) (h1 : c ≤ 1048576) : laws_szByteS.f l c = some (if (l.length : Int) ≤ c then c - (l.length : Int) else -1) := by
  unfold maxLen at hm
  unfold laws_szByteS.f
  rw [w64 (x := c - (l.length : Int)) (by omega) (by omega)]
  by_cases h : (l.length : Int) ≤ c
  · rw [if_neg (by omega), if_pos h]
  · rw [if_pos (by omega), if_neg h]

theorem szDecoder_eq {l : List Int} {b : Bool} {c : Int} (hm : l.length ≤ maxLen) (h0 : 0 ≤ c) (h1 : c ≤ 1048576) : laws_szDecoder.f l b c = some (if (l.length : Int) ≤ c then c - (l.length : Int) else -1) := by
  unfold laws_szDecoder.f
  rw [szByteS_eq hm h0 h1, Option.bind_some]
  by_cases h : (l.length : Int) ≤ c
  · rw [if_pos h, if_neg (by omega)]
  · rw [if_neg h, if_pos (by omega)]

theorem toDecoder_eq {k : Nat} {l : List Int} {b : Bool} (hn : l.length ≤ 1048576) (hk : l.length < k) : laws_toDecoder.f k l b = some (l, b) := by
  simp [laws_toDecoder.f, toByteS_eq hn hk]
theorem eqDecoder_refl {k : Nat} {l : List Int} {b : Bool} (hn : l.length ≤ 1048576) (hk : l.length < k) : laws_eqDecoder.f k l b l b = some true := by
  simp [laws_eqDecoder.f, eqByteS_refl hn hk]

def markB (c : Int) (n : Nat) : List Int := (List.range n).map fun (j : Nat) => (c + (j : Int)) % 256
theorem markB_length (c : Int) (n : Nat) : (markB c n).length = n := by simp [markB]
theorem markB_get {c : Int} {n j : Nat} (h : j < n) : (markB c n)[j]? = some ((c + (j : Int)) % 256) := by
  simp [markB, List.getElem?_range, h]
theorem wcb {c : Int} {i : Nat} (h0 : 0 ≤ c) (h1 : c ≤ 1073741824) (h2 : i ≤ 1073741824) : wrap64 (c + (i : Int) + 1) = c + ((i + 1 : Nat) : Int) := by
  unfold wrap64; omega

theorem markByteS_l0 (n : Nat) (hn : n ≤ 1048576) (c : Int) (h0 : 0 ≤ c) (h1 : c ≤ 1073741824) : ∀ (d k i : Nat) (x : List Int), x.length = n → i + d = n → d < k → (∀ j, j < i → x[j]? = some ((c + (j : Int)) % 256)) →
    laws_markByteS.l0 k x (c + (i : Int)) (i : Int) = some (c + (n : Int), markB c n) := by
  intro d
  induction d with
  | zero =>
    intro k i x hx h hk hp
    obtain ⟨k, rfl⟩ : ∃ m, k = m + 1 := ⟨k - 1, by omega⟩
    simp only [laws_markByteS.l0]
    rw [if_neg (by omega)]
    obtain rfl : i = n := by omega
    congr 2
    apply List.ext_getElem?
    intro j
    by_cases hj : j < i
    · rw [hp j hj, markB_get hj]
    · rw [List.getElem?_eq_none (by omega), List.getElem?_eq_none (by rw [markB_length]; omega)]
  | succ d ih =>
    intro k i x hx h hk hp
    obtain ⟨k, rfl⟩ : ∃ m, k = m + 1 := ⟨k - 1, by omega⟩
    simp only [laws_markByteS.l0]
    rw [if_pos (by omega), if_pos (by omega), wi (by omega), wcb h0 h1 (by omega)]
    refine ih k (i + 1) _ (by simp [hx]) (by omega) (by omega) ?_
    intro j hj
    rw [Int.toNat_natCast, List.getElem?_set]
    by_cases e : i = j
    · subst e
      rw [if_pos rfl, if_pos (by omega)]
    · rw [if_neg e]
      exact hp j (by omega)
theorem markByteS_eq {k : Nat} {x : List Int} {c : Int} (hn : x.length ≤ 1048576) (h0 : 0 ≤ c) (h1 : c ≤ 1073741824) (hk : x.length < k) :
    laws_markByteS.f k x c = some (c + (x.length : Int), markB c x.length) := by
  unfold laws_markByteS.f
  have h := markByteS_l0 x.length hn c h0 h1 x.length k 0 x rfl (by omega) hk (by omega)
  simpa using h

theorem markDecoder_eq {k : Nat} {x : List Int} {b : Bool} {c : Int} (hn : x.length ≤ 1048576) (h0 : 0 ≤ c) (h1 : c ≤ 1073741824) (hk : x.length < k) :
    laws_markDecoder.f k x b c = some (c + (x.length : Int), markB c x.length) := by
  simp [laws_markDecoder.f, markByteS_eq hn h0 h1 hk]

theorem heldByteS_l0 (n : Nat) (hn : n ≤ 1048576) (c : Int) (h0 : 0 ≤ c) (h1 : c ≤ 1073741824) : ∀ (d k i : Nat), i + d = n → d < k →
    laws_heldByteS.l0 k (markB c n) (c + (i : Int)) (i : Int) = some (c + (n : Int)) := by
  intro d
  induction d with
  | zero =>
    intro k i h hk
    obtain ⟨k, rfl⟩ : ∃ m, k = m + 1 := ⟨k - 1, by omega⟩
    simp only [laws_heldByteS.l0]
    rw [if_neg (by rw [markB_length]; omega)]
    obtain rfl : i = n := by omega
    rfl
  | succ d ih =>
    intro k i h hk
    obtain ⟨k, rfl⟩ : ∃ m, k = m + 1 := ⟨k - 1, by omega⟩
    have e : rd (markB c n) (i : Int) = (c + (i : Int)) % 256 := by
      have h2 := rd_at (x := markB c n) (i := i) (by rw [markB_length]; omega)
      rw [markB_get (by omega)] at h2
      exact (Option.some.inj h2).symm
    simp only [laws_heldByteS.l0]
    rw [if_pos (by rw [markB_length]; omega), if_pos (by omega), if_pos e, wi (by omega), wcb h0 h1 (by omega)]
    exact ih k (i + 1) (by omega) (by omega)
theorem heldByteS_eq {k n : Nat} {c : Int} (hn : n ≤ 1048576) (h0 : 0 ≤ c) (h1 : c ≤ 1073741824) (hk : n < k) :
    laws_heldByteS.f k (markB c n) c = some (c + (n : Int)) := by
  unfold laws_heldByteS.f
  have h := heldByteS_l0 n hn c h0 h1 n k 0 (by omega) hk
  simpa using h

theorem heldDecoder_eq {k n : Nat} {b : Bool} {c : Int} (hn : n ≤ 1048576) (h0 : 0 ≤ c) (h1 : c ≤ 1073741824) (hk : n < k) :
    laws_heldDecoder.f k (markB c n) b c = some (c + (n : Int)) := by
  simp only [laws_heldDecoder.f, heldByteS_eq hn h0 h1 hk, Option.bind_some]
  rw [if_neg (by omega)]

theorem FnExactFeedBytes : ∀ (l0_0 : List Int) (a0_1 : Bool) (l1 : List Int), l0_0.length ≤ maxLen → (∀ x ∈ l0_0, (Lit.int .u8 x).wf = true) → l1.length ≤ maxLen → (∀ x ∈ l1, (Lit.int .u8 x).wf = true) → ∃ k, laws_FnExactFeedBytes.f k l0_0 a0_1 l1 = some true := by
  intro l b m hm _ hm2 _
  refine ⟨l.length + m.length + 300, ?_⟩
  unfold laws_FnExactFeedBytes.f
  by_cases hm3 : (m.length : Int) > 1048576
  · rw [if_pos hm3]
  rw [if_neg hm3]
  simp only [szDecoder_eq (c := 1048576) hm (by omega) (by omega), Option.bind_some]
  by_cases hl : (l.length : Int) ≤ 1048576
  · rw [if_pos hl, if_neg (by omega)]
    have e1 : ∀ k, l.length + m.length + 100 ≤ k → spec_FeedBytes.f k l b m = some (feedV l b m) := fun k hk => spec_FeedBytes_eq (by omega) (by omega) (by omega)
    have e2 : impl_FeedBytes.f l b m = some (feedV l b m) := impl_FeedBytes_eq (by omega) (by omega)
    have hv := feedV_length l b m
    have hv2 : (feedV l b m).1.length ≤ 1048576 := by
      unfold feedV
      (repeat' split) <;> simp <;> omega
    generalize feedV l b m = v at e1 e2 hv hv2
    obtain ⟨l', b', c'⟩ := v
    replace hv : l'.length ≤ l.length + m.length := hv
    replace hv2 : l'.length ≤ 1048576 := hv2
    (first | rw [toDecoder_eq (by omega) (by omega), Option.bind_some] | rw [Option.bind_some]); (try dsimp only)
    (first | rw [toByteS_eq (by omega) (by omega), Option.bind_some] | rw [Option.bind_some]); (try dsimp only)
    (first | rw [e1 _ (by omega), Option.bind_some] | rw [Option.bind_some]); (try dsimp only)
    (first | rw [toDecoder_eq (by omega) (by omega), Option.bind_some] | rw [Option.bind_some]); (try dsimp only)
    (first | rw [toByteS_eq (by omega) (by omega), Option.bind_some] | rw [Option.bind_some]); (try dsimp only)
    (first | rw [e2, Option.bind_some] | rw [Option.bind_some]); (try dsimp only)
    (first | rw [eqDecoder_refl (by omega) (by omega), Option.bind_some] | rw [Option.bind_some]); (try dsimp only)
    (first | rw [if_pos rfl] | rw [if_pos trivial]); (try dsimp only)
    simp only [laws_FnExactFeedBytes.j0, bne_self_eq_false, Bool.not_true, Bool.false_eq_true, if_false]
    (first | rw [toDecoder_eq (by omega) (by omega), Option.bind_some] | rw [Option.bind_some]); (try dsimp only)
    (first | rw [eqDecoder_refl (by omega) (by omega), Option.bind_some] | rw [Option.bind_some]); (try dsimp only)
    (first | rw [if_pos rfl] | rw [if_pos trivial]); (try dsimp only)
    (first | rw [toByteS_eq (by omega) (by omega), Option.bind_some] | rw [Option.bind_some]); (try dsimp only)
    (first | rw [eqByteS_refl (by omega) (by omega), Option.bind_some] | rw [Option.bind_some]); (try dsimp only)
    (first | rw [if_pos rfl] | rw [if_pos trivial]); (try dsimp only)
    (first | rw [markDecoder_eq (by omega) (by omega) (by omega) (by omega), Option.bind_some] | rw [Option.bind_some]); (try dsimp only)
    (first | rw [markByteS_eq (by omega) (by omega) (by omega) (by omega), Option.bind_some] | rw [Option.bind_some]); (try dsimp only)
    rw [if_neg (by omega)]
    (first | rw [eqDecoder_refl (by omega) (by omega), Option.bind_some] | rw [Option.bind_some]); (try dsimp only)
    (first | rw [if_pos rfl] | rw [if_pos trivial]); (try dsimp only)
    simp only [laws_FnExactFeedBytes.j1, bne_self_eq_false, Bool.not_true, Bool.false_eq_true, if_false]
    (first | rw [markDecoder_eq (by omega) (by omega) (by omega) (by omega), Option.bind_some] | rw [Option.bind_some]); (try dsimp only)
    (first | rw [heldDecoder_eq (by omega) (by omega) (by omega) (by omega), Option.bind_some] | rw [Option.bind_some]); (try dsimp only)
    rw [if_neg (by omega)]
    (first | rw [if_pos rfl] | rw [if_pos trivial]); (try dsimp only)
    (first | rw [toDecoder_eq (by omega) (by omega), Option.bind_some] | rw [Option.bind_some]); (try dsimp only)
    (first | rw [toByteS_eq (by omega) (by omega), Option.bind_some] | rw [Option.bind_some]); (try dsimp only)
    (first | rw [e2, Option.bind_some] | rw [Option.bind_some]); (try dsimp only)
    (first | rw [eqDecoder_refl (by omega) (by omega), Option.bind_some] | rw [Option.bind_some]); (try dsimp only)
    (first | rw [if_pos rfl] | rw [if_pos trivial]); (try dsimp only)
    simp only [laws_FnExactFeedBytes.j2, bne_self_eq_false, Bool.not_true, Bool.false_eq_true, if_false]
    (first | rw [heldDecoder_eq (by omega) (by omega) (by omega) (by omega), Option.bind_some] | rw [Option.bind_some]); (try dsimp only)
    rw [if_neg (by omega)]
    (first | rw [if_pos rfl] | rw [if_pos trivial]); (try dsimp only)
  · rw [if_neg hl, if_pos (by omega)]

end Go.Proofs.Ytoeiadanmfajoaa.Pure
