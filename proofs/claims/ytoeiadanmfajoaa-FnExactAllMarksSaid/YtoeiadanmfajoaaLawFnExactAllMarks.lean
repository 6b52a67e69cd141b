/-
  The row of the law FnExactAllMarks: for every input the Go function returns true and leaves its arguments as they were, by the printed walk and the pure statement. No condition.
-/
import Derived.Test.YtoeiadanmfajoaaRows
import Derived.Test.YtoeiadanmfajoaaQFnExactAllMarksx3
import Derived.Test.YtoeiadanmfajoaaPureFnExactAllMarks
import Derived.Test.YtoeiadanmfajoaaOpen
import Derived.WalkKit
import Derived.ProofKit
import Derived.OpenShut
import Derived.ShutString
import Derived.ChangeOld
import Derived.Below
import Derived.SizedLaws
namespace Go.Proofs.Ytoeiadanmfajoaa.fnExactAllMarks
open Go.ChangeShapes Go.WideShapes Go.ChangeAt Go.RowKit Go.Proofs.YtoeiadanmfajoaaW.PrintWords Go.Proofs.YtoeiadanmfajoaaW.PrintMore
open Go.ChangeMaps (open_string shut_string)
set_option linter.unusedVariables false
theorem own : ownKnob Try.prog.godebug = none := by kernel_rfl
theorem laidOut : laidOutB Try.prog = true := by kernel_rfl
set_option maxRecDepth 100000 in
theorem lifted (os : Os) (started : os.Started) (H : Type) (enc : TypeId × Value → H) :
    ReturnsInHanded {} Try.checked os 4 .any (Rows.fnExactAllMarksSpec.pre6 enc Try.prog Try.f4 Rows.fnExactAllMarksRow.domain false) (Rows.fnExactAllMarksSpec.post enc Try.prog Try.f4 false true false false) := by
  refine returnsInHanded_of_change_sized (C := Try.checked) own started (by kernel_rfl) Try.func4
    (ChangeSpec.witness6 (enc := enc) (C := Try.checked) false ⟨#[], #[.slice none 0 0, .int .i64 0], []⟩ 8 (by kernel_rfl) (by kernel_rfl) (by kernel_rfl) (by kernel_rfl)) ?_
  intro W base args ds gs before hval0 hW hcnd hsz0 _
  have hval : ∀ (j : Nat) t v, Try.f4.params[j]? = some t → args[j]? = some v → Value.okWide Try.prog W .any base t v := hval0
  have hW' := hW
  obtain ⟨p, q, hA0, hV, rfl, hfz, hnd⟩ := hW
  have hA : DataW.TrodAll enc Try.prog W 0 (fun _ => true) true Try.f4.params.toList args.toList ds p := hA0
  rw [Try.params4] at hA hval
  obtain ⟨v0, vs0, d0, ds0, p0, q0, hargs, rfl, rfl, h0, r0⟩ := trodAll_cons hA
  obtain ⟨v1, vs1, d1, ds1, p1, q1, rfl, rfl, rfl, h1, r1⟩ := trodAll_cons r0
  obtain ⟨rfl, rfl, rfl⟩ := trodAll_nil r1
  obtain rfl : args = #[v0, v1] := by cases args; simp_all
  obtain ⟨rfl, rfl⟩ := trodVars_none hV
  have k0 := h0
  have lt0 := Open.lt_of h0
  obtain ⟨_, _, t0⟩ := Open.slice_cell Try.underlying35 (hval 0 35 v0 rfl rfl) h0
  obtain ⟨A0, m0, c0_, e0, hc0, hm0, hn0, hr0⟩ := Open.rows_at (v := v0) Try.underlying35 Try.underlying102 (by kernel_rfl) (by kernel_rfl) t0
  subst e0
  have hp0 : ∀ i, i < m0 → ∃ x : QFnExactAllMarks.S102, ((Lit.int .i64 x.f0).wf = true ∧ (Lit.int .i64 x.f1).wf = true ∧ (Lit.int .i64 x.f2).wf = true) ∧ ∀ a, A0 = some a → ∀ (j : Nat) (u : Value), ([.int .i64 x.f0, .int .i64 x.f1, .int .i64 x.f2, .bool x.f3, .bool x.f4] : List Value)[j]? = some u → W.cell? (a.add (i * 5 + j)) = some u := by
    intro i hi
    obtain ⟨a, ha⟩ : ∃ a, A0 = some a := by cases hA_ : A0 with | none => exact absurd (hn0 hA_) (by omega) | some a => exact ⟨a, rfl⟩
    obtain ⟨u0, _, _, g0, t0⟩ := hr0 a ha i hi 0 _ rfl
    obtain ⟨x0, e0, w0⟩ := Open.int_at (k := .i64) (v := u0) Try.underlying3 t0
    subst e0
    obtain ⟨u1, _, _, g1, t1⟩ := hr0 a ha i hi 1 _ rfl
    obtain ⟨x1, e1, w1⟩ := Open.int_at (k := .i64) (v := u1) Try.underlying3 t1
    subst e1
    obtain ⟨u2, _, _, g2, t2⟩ := hr0 a ha i hi 2 _ rfl
    obtain ⟨x2, e2, w2⟩ := Open.int_at (k := .i64) (v := u2) Try.underlying3 t2
    subst e2
    obtain ⟨u3, _, _, g3, t3⟩ := hr0 a ha i hi 3 _ rfl
    obtain ⟨x3, e3⟩ := Open.bool_at (v := u3) Try.underlying4 t3
    subst e3
    obtain ⟨u4, _, _, g4, t4⟩ := hr0 a ha i hi 4 _ rfl
    obtain ⟨x4, e4⟩ := Open.bool_at (v := u4) Try.underlying4 t4
    subst e4
    refine ⟨⟨x0, x1, x2, x3, x4⟩, ⟨w0, w1, w2⟩, fun a' ha' j u hu => ?_⟩
    obtain rfl : a = a' := Option.some.inj (ha.symm.trans ha')
    match j, hu with
    | 0, hu => simp at hu; subst hu; exact g0
    | 1, hu => simp at hu; subst hu; exact g1
    | 2, hu => simp at hu; subst hu; exact g2
    | 3, hu => simp at hu; subst hu; exact g3
    | 4, hu => simp at hu; subst hu; exact g4
    | n + 5, hu => simp at hu
  obtain ⟨l0, hl0, hq0⟩ := Open.list_of _ m0 hp0
  have hK0 : Kd.C QFnExactAllMarks.k102 W A0 l0.length l0 := Open.C_of_rows QFnExactAllMarks.k102 hl0 hm0 hn0 (fun a ha i x hx => ⟨_, QFnExactAllMarks.k102_mk W x, (hq0 i x hx).2 a ha⟩)
  have hw0 : ∀ x ∈ l0, (Lit.int .i64 x.f0).wf = true ∧ (Lit.int .i64 x.f1).wf = true ∧ (Lit.int .i64 x.f2).wf = true := by intro x hx; obtain ⟨i, hi⟩ := List.getElem?_of_mem hx; exact (hq0 i x hi).1
  subst hl0
  obtain ⟨a1, rfl, rfl, rfl, w1⟩ := open_int Try.underlying3 (hval 1 3 v1 rfl rfl) h1
  obtain ⟨k, hp⟩ := Pure.FnExactAllMarks l0 a1 hm0 hw0 w1
  clear hA0 hval0 hsz0
  refine (QFnExactAllMarks.laws_FnExactAllMarks.calls k _ _ l0 a1 true W hK0 hc0 (Aside0.mk rfl) hp).mono fun e W' ⟨he, bel⟩ => ?_
  subst he
  exact ⟨_, rfl, _, _, _, [], _, [], hW', trodAll_mk1 (shut_bool Try.underlying4 _), (trodAll_cons_mk (Below.trod laidOut (by kernel_rfl) (of_decide_eq_true (by kernel_rfl)) k0 bel lt0) (trodAll_cons_mk (shut_int Try.underlying3 w1) trodAll_mk0)), rfl, bel.frame _, fun h => by cases h⟩
theorem over : Rows.fnExactAllMarksRow.holds Try.pinned (OpenSpec.ofChange Rows.fnExactAllMarksSpec) :=
  OpenClaim.holds_of_wide 4 Try.f4 rfl rfl rfl rfl rfl rfl rfl ⟨rfl, rfl, rfl, rfl, rfl⟩ rfl rfl rfl rfl rfl (by kernel_rfl) Try.func4 (by kernel_rfl)
    (of_decide_eq_true (by kernel_rfl)) (by unfold Func.isWrapper; first | (rw [if_pos (by decide +kernel)]; kernel_rfl) | (rw [if_neg (by decide +kernel)]; exact ⟨rfl, rfl⟩))
    (fun os started H enc _ => lifted os started H enc)
theorem proved : Rows.FnExactAllMarksSaid := over
#print axioms proved
end Go.Proofs.Ytoeiadanmfajoaa.fnExactAllMarks
namespace Go.Proofs.Ytoeiadanmfajoaa
/-- The row, under a short name, for the claim. -/
theorem fnExactAllMarks_holds : Rows.FnExactAllMarksSaid := fnExactAllMarks.proved
end Go.Proofs.Ytoeiadanmfajoaa
