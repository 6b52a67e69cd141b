/-
  The row of the law FnExactMergeAggs: for every input the Go function returns true and leaves its arguments as they were, by the printed walk and the pure statement. No condition.
-/
import Derived.Test.YtoeiadanmfajoaaRows
import Derived.Test.YtoeiadanmfajoaaQFnExactMergeAggsx4
import Derived.Test.YtoeiadanmfajoaaPureFnExactMergeAggs
import Derived.Test.YtoeiadanmfajoaaOpen
import Derived.WalkKit
import Derived.ProofKit
import Derived.OpenShut
import Derived.ShutString
import Derived.ChangeOld
import Derived.Below
import Derived.SizedLaws
namespace Go.Proofs.Ytoeiadanmfajoaa.fnExactMergeAggs
open Go.ChangeShapes Go.WideShapes Go.ChangeAt Go.RowKit Go.Proofs.YtoeiadanmfajoaaW.PrintWords Go.Proofs.YtoeiadanmfajoaaW.PrintMore
open Go.ChangeMaps (open_string shut_string)
set_option linter.unusedVariables false
theorem own : ownKnob Try.prog.godebug = none := by kernel_rfl
theorem laidOut : laidOutB Try.prog = true := by kernel_rfl
set_option maxRecDepth 100000 in
theorem lifted (os : Os) (started : os.Started) (H : Type) (enc : TypeId × Value → H) :
    ReturnsInHanded {} Try.checked os 8 .any (Rows.fnExactMergeAggsSpec.pre6 enc Try.prog Try.f8 Rows.fnExactMergeAggsRow.domain false) (Rows.fnExactMergeAggsSpec.post enc Try.prog Try.f8 false true false false) := by
  refine returnsInHanded_of_change_sized (C := Try.checked) own started (by kernel_rfl) Try.func8
    (ChangeSpec.witness6 (enc := enc) (C := Try.checked) false ⟨#[], #[.agg #[.int .i64 0, .int .i64 0, .int .i64 0, .int .i64 0, .int .i64 0, .int .i64 0], .agg #[.int .i64 0, .int .i64 0, .int .i64 0, .int .i64 0, .int .i64 0, .int .i64 0]], []⟩ 8 (by kernel_rfl) (by kernel_rfl) (by kernel_rfl) (by kernel_rfl)) ?_
  intro W base args ds gs before hval0 hW hcnd hsz0 _
  have hval : ∀ (j : Nat) t v, Try.f8.params[j]? = some t → args[j]? = some v → Value.okWide Try.prog W .any base t v := hval0
  have hW' := hW
  obtain ⟨p, q, hA0, hV, rfl, hfz, hnd⟩ := hW
  have hA : DataW.TrodAll enc Try.prog W 0 (fun _ => true) true Try.f8.params.toList args.toList ds p := hA0
  rw [Try.params8] at hA hval
  obtain ⟨v0, vs0, d0, ds0, p0, q0, hargs, rfl, rfl, h0, r0⟩ := trodAll_cons hA
  obtain ⟨v1, vs1, d1, ds1, p1, q1, rfl, rfl, rfl, h1, r1⟩ := trodAll_cons r0
  obtain ⟨rfl, rfl, rfl⟩ := trodAll_nil r1
  obtain rfl : args = #[v0, v1] := by cases args; simp_all
  obtain ⟨rfl, rfl⟩ := trodVars_none hV
  have k0 := h0
  have lt0 := Open.lt_of h0
  obtain ⟨c0_0, c0_1, c0_2, c0_3, c0_4, c0_5, rfl, hf0⟩ := Open.open_st6 Try.underlying69 (by kernel_rfl) (by kernel_rfl) rfl (hval 0 69 v0 rfl rfl) h0
  obtain ⟨_, _, t0_0⟩ := hf0 0 _ rfl
  obtain ⟨a0_0, e0_0, w0_0⟩ := Open.int_at (k := .i64) (v := c0_0) Try.underlying3 t0_0
  subst e0_0
  obtain ⟨_, _, t0_1⟩ := hf0 1 _ rfl
  obtain ⟨a0_1, e0_1, w0_1⟩ := Open.int_at (k := .i64) (v := c0_1) Try.underlying3 t0_1
  subst e0_1
  obtain ⟨_, _, t0_2⟩ := hf0 2 _ rfl
  obtain ⟨a0_2, e0_2, w0_2⟩ := Open.int_at (k := .i64) (v := c0_2) Try.underlying3 t0_2
  subst e0_2
  obtain ⟨_, _, t0_3⟩ := hf0 3 _ rfl
  obtain ⟨a0_3, e0_3, w0_3⟩ := Open.int_at (k := .i64) (v := c0_3) Try.underlying3 t0_3
  subst e0_3
  obtain ⟨_, _, t0_4⟩ := hf0 4 _ rfl
  obtain ⟨a0_4, e0_4, w0_4⟩ := Open.int_at (k := .i64) (v := c0_4) Try.underlying3 t0_4
  subst e0_4
  obtain ⟨_, _, t0_5⟩ := hf0 5 _ rfl
  obtain ⟨a0_5, e0_5, w0_5⟩ := Open.int_at (k := .i64) (v := c0_5) Try.underlying3 t0_5
  subst e0_5
  have k1 := h1
  have lt1 := Open.lt_of h1
  obtain ⟨c1_0, c1_1, c1_2, c1_3, c1_4, c1_5, rfl, hf1⟩ := Open.open_st6 Try.underlying69 (by kernel_rfl) (by kernel_rfl) rfl (hval 1 69 v1 rfl rfl) h1
  obtain ⟨_, _, t1_0⟩ := hf1 0 _ rfl
  obtain ⟨a1_0, e1_0, w1_0⟩ := Open.int_at (k := .i64) (v := c1_0) Try.underlying3 t1_0
  subst e1_0
  obtain ⟨_, _, t1_1⟩ := hf1 1 _ rfl
  obtain ⟨a1_1, e1_1, w1_1⟩ := Open.int_at (k := .i64) (v := c1_1) Try.underlying3 t1_1
  subst e1_1
  obtain ⟨_, _, t1_2⟩ := hf1 2 _ rfl
  obtain ⟨a1_2, e1_2, w1_2⟩ := Open.int_at (k := .i64) (v := c1_2) Try.underlying3 t1_2
  subst e1_2
  obtain ⟨_, _, t1_3⟩ := hf1 3 _ rfl
  obtain ⟨a1_3, e1_3, w1_3⟩ := Open.int_at (k := .i64) (v := c1_3) Try.underlying3 t1_3
  subst e1_3
  obtain ⟨_, _, t1_4⟩ := hf1 4 _ rfl
  obtain ⟨a1_4, e1_4, w1_4⟩ := Open.int_at (k := .i64) (v := c1_4) Try.underlying3 t1_4
  subst e1_4
  obtain ⟨_, _, t1_5⟩ := hf1 5 _ rfl
  obtain ⟨a1_5, e1_5, w1_5⟩ := Open.int_at (k := .i64) (v := c1_5) Try.underlying3 t1_5
  subst e1_5
  obtain ⟨k, hp⟩ := Pure.FnExactMergeAggs a0_0 a0_1 a0_2 a0_3 a0_4 a0_5 a1_0 a1_1 a1_2 a1_3 a1_4 a1_5 w0_0 w0_1 w0_2 w0_3 w0_4 w0_5 w1_0 w1_1 w1_2 w1_3 w1_4 w1_5
  clear hA0 hval0 hsz0
  refine (QFnExactMergeAggs.laws_FnExactMergeAggs.calls k a0_0 a0_1 a0_2 a0_3 a0_4 a0_5 a1_0 a1_1 a1_2 a1_3 a1_4 a1_5 true W  (Aside0.mk rfl) hp).mono fun e W' ⟨he, bel⟩ => ?_
  subst he
  exact ⟨_, rfl, _, _, _, [], _, [], hW', trodAll_mk1 (shut_bool Try.underlying4 _), (trodAll_cons_mk (Below.trod laidOut (by kernel_rfl) (of_decide_eq_true (by kernel_rfl)) k0 bel lt0) (trodAll_cons_mk (Below.trod laidOut (by kernel_rfl) (of_decide_eq_true (by kernel_rfl)) k1 bel lt1) trodAll_mk0)), rfl, bel.frame _, fun h => by cases h⟩
theorem over : Rows.fnExactMergeAggsRow.holds Try.pinned (OpenSpec.ofChange Rows.fnExactMergeAggsSpec) :=
  OpenClaim.holds_of_wide 8 Try.f8 rfl rfl rfl rfl rfl rfl rfl ⟨rfl, rfl, rfl, rfl, rfl⟩ rfl rfl rfl rfl rfl (by kernel_rfl) Try.func8 (by kernel_rfl)
    (of_decide_eq_true (by kernel_rfl)) (by unfold Func.isWrapper; first | (rw [if_pos (by decide +kernel)]; kernel_rfl) | (rw [if_neg (by decide +kernel)]; exact ⟨rfl, rfl⟩))
    (fun os started H enc _ => lifted os started H enc)
theorem proved : Rows.FnExactMergeAggsSaid := over
#print axioms proved
end Go.Proofs.Ytoeiadanmfajoaa.fnExactMergeAggs
namespace Go.Proofs.Ytoeiadanmfajoaa
/-- The row, under a short name, for the claim. -/
theorem fnExactMergeAggs_holds : Rows.FnExactMergeAggsSaid := fnExactMergeAggs.proved
end Go.Proofs.Ytoeiadanmfajoaa
