/-
  The law FnExactDecoderOk answers true: the program's DecoderOk is the reference's, for all arguments. No condition.
-/
import Derived.Test.YtphlobfbokcglaaPFnExactDecoderOkx2
namespace Go.Proofs.Ytphlobfbokcglaa.Pure
open Go.RowKit Go.Proofs.Ytphlobfbokcglaa.PFnExactDecoderOk Go.Proofs.YtphlobfbokcglaaW.PrintWords Go.Proofs.YtphlobfbokcglaaW.PrintLast Go.Proofs.YtphlobfbokcglaaW.PrintMore
set_option linter.unusedSimpArgs false
set_option linter.unusedVariables false

theorem wi {i : Nat} (h : i < 4611686018427387904) : wrap64 ((i : Int) + 1) = ((i + 1 : Nat) : Int) := by
  unfold wrap64; omega

theorem rd_at {x : List Int} {i : Nat} (h : i < x.length) : x[i]? = some (rd x (i : Int)) := by
  simp [rd, List.getD_eq_getElem?_getD, List.getElem?_eq_getElem h]

theorem toByteS_l0 (x0 : List Int) (hn : x0.length ≤ 1048576) : ∀ (d k i : Nat) (x3 : List Int), i + d = x0.length → d < k → x3.length = x0.length → (∀ j, j < i → x3[j]? = x0[j]?) →
    laws_toByteS.l0 k x0 x3 (i : Int) = some x0 := by
  intro d
  induction d with
  | zero =>
    intro k i x3 h hk hl hp
    obtain ⟨k, rfl⟩ : ∃ m, k = m + 1 := ⟨k - 1, by omega⟩
    simp only [laws_toByteS.l0]
    rw [if_neg (by omega)]
    congr 1
    apply List.ext_getElem?
    intro j
    by_cases hj : j < i
    · exact hp j hj
    · rw [List.getElem?_eq_none (by omega), List.getElem?_eq_none (by omega)]
  | succ d ih =>
    intro k i x3 h hk hl hp
    obtain ⟨k, rfl⟩ : ∃ m, k = m + 1 := ⟨k - 1, by omega⟩
    simp only [laws_toByteS.l0]
    rw [if_pos (by omega), if_pos (by omega), if_pos (by omega), wi (by omega)]
    refine ih k (i + 1) _ (by omega) (by omega) (by simp [hl]) ?_
    intro j hj
    rw [Int.toNat_natCast, List.getElem?_set]
    by_cases e : i = j
    · subst e
      rw [if_pos rfl, if_pos (by omega), rd_at (by omega)]
    · rw [if_neg e]
      exact hp j (by omega)
theorem toByteS_eq {k : Nat} {l : List Int} (hn : l.length ≤ 1048576) (hk : l.length < k) : laws_toByteS.f k l = some l := by
  unfold laws_toByteS.f
  rw [if_pos (by omega), if_pos (by omega)]
  exact toByteS_l0 l hn l.length k 0 _ (by omega) hk (by simp) (by omega)

theorem eqByteS_l0 (x : List Int) (hn : x.length ≤ 1048576) : ∀ (d k i : Nat), i + d = x.length → d < k → laws_eqByteS.l0 k x x (i : Int) = some true := by
  intro d
  induction d with
  | zero =>
    intro k i h hk
    obtain ⟨k, rfl⟩ : ∃ m, k = m + 1 := ⟨k - 1, by omega⟩
    simp only [laws_eqByteS.l0]
    rw [if_neg (by omega)]
  | succ d ih =>
    intro k i h hk
    obtain ⟨k, rfl⟩ : ∃ m, k = m + 1 := ⟨k - 1, by omega⟩
    simp only [laws_eqByteS.l0]
    rw [if_pos (by omega), if_pos (by omega), if_pos (by omega), wi (by omega)]
    exact ih k (i + 1) (by omega) (by omega)
theorem eqByteS_refl {k : Nat} {x : List Int} (hn : x.length ≤ 1048576) (hk : x.length < k) : laws_eqByteS.f k x x = some true := by
  unfold laws_eqByteS.f
  rw [if_pos rfl]
  exact eqByteS_l0 x hn x.length k 0 (by omega) hk

theorem w64 {x : Int} (h1 : -9223372036854775808 ≤ x) (h2 : x ≤ 9223372036854775807) : wrap64 x = x := by
  unfold wrap64; omega

theorem szByteS_eq {l : List Int} {c : Int} (hm : l.length ≤ maxLen) (h0 : 0 ≤ c) (h1 : c ≤ 1048576) : laws_szByteS.f l c = some (if (l.length : Int) ≤ c then c - (l.length : Int) else -1) := by
  unfold maxLen at hm
  unfold laws_szByteS.f
  rw [w64 (x := c - (l.length : Int)) (by omega) (by omega)]
  by_cases h : (l.length : Int) ≤ c
  · rw [if_neg (by omega), if_pos h]
  · rw [if_pos (by omega), if_neg h]

theorem szDecoder_eq {l : List Int} {b : Bool} {c : Int} (hm : l.length ≤ maxLen) (h0 : 0 ≤ c) (h1 : c ≤ 1048576) : laws_szDecoder.f l b c = some (if (l.length : Int) ≤ c then c - (l.length : Int) else -1) := by
  unfold laws_szDecoder.f
  rw [szByteS_eq hm h0 h1, Option.bind_some]
  by_cases h : (l.length : Int) ≤ c
  · rw [if_pos h, if_neg (by omega)]
  · rw [if_neg h, if_pos (by omega)]

theorem toDecoder_eq {k : Nat} {l : List Int} {b : Bool} (hn : l.length ≤ 1048576) (hk : l.length < k) : laws_toDecoder.f k l b = some (l, b) := by
  simp [laws_toDecoder.f, toByteS_eq hn hk]
theorem eqDecoder_refl {k : Nat} {l : List Int} {b : Bool} (hn : l.length ≤ 1048576) (hk : l.length < k) : laws_eqDecoder.f k l b l b = some true := by
  simp [laws_eqDecoder.f, eqByteS_refl hn hk]

theorem FnExactDecoderOk : ∀ (l0_0 : List Int) (a0_1 : Bool), l0_0.length ≤ maxLen → (∀ x ∈ l0_0, (Lit.int .u8 x).wf = true) → ∃ k, laws_FnExactDecoderOk.f k l0_0 a0_1 = some true := by
  intro l b hm _
  refine ⟨l.length + 100, ?_⟩
  simp only [laws_FnExactDecoderOk.f, szDecoder_eq (c := 1048576) hm (by omega) (by omega), Option.bind_some]
  by_cases hl : (l.length : Int) ≤ 1048576
  · rw [if_pos hl, if_neg (by omega)]
    have e : ∃ r, spec_DecoderOk.f l b = some r := by
      unfold spec_DecoderOk.f
      (repeat' split) <;> exact ⟨_, rfl⟩
    have e2 : impl_DecoderOk.f l b = spec_DecoderOk.f l b := rfl
    obtain ⟨r, hr⟩ := e
    simp (discharger := omega) only [toDecoder_eq, e2, hr, eqDecoder_refl, Option.bind_some, bne_self_eq_false, Bool.false_eq_true, if_false, if_true]
  · rw [if_neg hl, if_pos (by omega)]

end Go.Proofs.Ytphlobfbokcglaa.Pure
