/-
  The row of the law FnExactPutFrame: for every input the Go function returns true and leaves its arguments as they were, by the printed walk and the pure statement. No condition.
-/
import Derived.Test.YtoeiadanmfajoaaRows
import Derived.Test.YtoeiadanmfajoaaQFnExactPutFramex5
import Derived.Test.YtoeiadanmfajoaaPureFnExactPutFrame
import Derived.Test.YtoeiadanmfajoaaOpen
import Derived.WalkKit
import Derived.ProofKit
import Derived.OpenShut
import Derived.ShutString
import Derived.ChangeOld
import Derived.Below
import Derived.SizedLaws
namespace Go.Proofs.Ytoeiadanmfajoaa.fnExactPutFrame
open Go.ChangeShapes Go.WideShapes Go.ChangeAt Go.RowKit Go.Proofs.YtoeiadanmfajoaaW.PrintWords Go.Proofs.YtoeiadanmfajoaaW.PrintMore
open Go.ChangeMaps (open_string shut_string)
set_option linter.unusedVariables false
theorem own : ownKnob Try.prog.godebug = none := by kernel_rfl
theorem laidOut : laidOutB Try.prog = true := by kernel_rfl
set_option maxRecDepth 100000 in
theorem lifted (os : Os) (started : os.Started) (H : Type) (enc : TypeId × Value → H) :
    ReturnsInHanded {} Try.checked os 11 .any (Rows.fnExactPutFrameSpec.pre6 enc Try.prog Try.f11 Rows.fnExactPutFrameRow.domain false) (Rows.fnExactPutFrameSpec.post enc Try.prog Try.f11 false true false false) := by
  refine returnsInHanded_of_change_sized (C := Try.checked) own started (by kernel_rfl) Try.func11
    (ChangeSpec.witness6 (enc := enc) (C := Try.checked) false ⟨#[], #[.agg #[.int .i64 0, .int .i64 0, .int .i64 0, .int .i64 0]], []⟩ 8 (by kernel_rfl) (by kernel_rfl) (by kernel_rfl) (by kernel_rfl)) ?_
  intro W base args ds gs before hval0 hW hcnd hsz0 _
  have hval : ∀ (j : Nat) t v, Try.f11.params[j]? = some t → args[j]? = some v → Value.okWide Try.prog W .any base t v := hval0
  have hW' := hW
  obtain ⟨p, q, hA0, hV, rfl, hfz, hnd⟩ := hW
  have hA : DataW.TrodAll enc Try.prog W 0 (fun _ => true) true Try.f11.params.toList args.toList ds p := hA0
  rw [Try.params11] at hA hval
  obtain ⟨v0, vs0, d0, ds0, p0, q0, hargs, rfl, rfl, h0, r0⟩ := trodAll_cons hA
  obtain ⟨rfl, rfl, rfl⟩ := trodAll_nil r0
  obtain rfl : args = #[v0] := by cases args; simp_all
  obtain ⟨rfl, rfl⟩ := trodVars_none hV
  have k0 := h0
  have lt0 := Open.lt_of h0
  obtain ⟨c0_0, c0_1, c0_2, c0_3, rfl, hf0⟩ := Open.open_st4 Try.underlying82 (by kernel_rfl) (by kernel_rfl) rfl (hval 0 82 v0 rfl rfl) h0
  obtain ⟨_, _, t0_0⟩ := hf0 0 _ rfl
  obtain ⟨a0_0, e0_0, w0_0⟩ := Open.int_at (k := .i64) (v := c0_0) Try.underlying3 t0_0
  subst e0_0
  obtain ⟨_, _, t0_1⟩ := hf0 1 _ rfl
  obtain ⟨a0_1, e0_1, w0_1⟩ := Open.int_at (k := .i64) (v := c0_1) Try.underlying3 t0_1
  subst e0_1
  obtain ⟨_, _, t0_2⟩ := hf0 2 _ rfl
  obtain ⟨a0_2, e0_2, w0_2⟩ := Open.int_at (k := .i64) (v := c0_2) Try.underlying3 t0_2
  subst e0_2
  obtain ⟨_, _, t0_3⟩ := hf0 3 _ rfl
  obtain ⟨a0_3, e0_3, w0_3⟩ := Open.int_at (k := .i64) (v := c0_3) Try.underlying3 t0_3
  subst e0_3
  obtain ⟨k, hp⟩ := Pure.FnExactPutFrame a0_0 a0_1 a0_2 a0_3 w0_0 w0_1 w0_2 w0_3
  clear hA0 hval0 hsz0
  refine (QFnExactPutFrame.laws_FnExactPutFrame.calls k a0_0 a0_1 a0_2 a0_3 true W  (Aside0.mk rfl) hp).mono fun e W' ⟨he, bel⟩ => ?_
  subst he
  exact ⟨_, rfl, _, _, _, [], _, [], hW', trodAll_mk1 (shut_bool Try.underlying4 _), (trodAll_cons_mk (Below.trod laidOut (by kernel_rfl) (of_decide_eq_true (by kernel_rfl)) k0 bel lt0) trodAll_mk0), rfl, bel.frame _, fun h => by cases h⟩
theorem over : Rows.fnExactPutFrameRow.holds Try.pinned (OpenSpec.ofChange Rows.fnExactPutFrameSpec) :=
  OpenClaim.holds_of_wide 11 Try.f11 rfl rfl rfl rfl rfl rfl rfl ⟨rfl, rfl, rfl, rfl, rfl⟩ rfl rfl rfl rfl rfl (by kernel_rfl) Try.func11 (by kernel_rfl)
    (of_decide_eq_true (by kernel_rfl)) (by unfold Func.isWrapper; first | (rw [if_pos (by decide +kernel)]; kernel_rfl) | (rw [if_neg (by decide +kernel)]; exact ⟨rfl, rfl⟩))
    (fun os started H enc _ => lifted os started H enc)
theorem proved : Rows.FnExactPutFrameSaid := over
#print axioms proved
end Go.Proofs.Ytoeiadanmfajoaa.fnExactPutFrame
namespace Go.Proofs.Ytoeiadanmfajoaa
/-- The row, under a short name, for the claim. -/
theorem fnExactPutFrame_holds : Rows.FnExactPutFrameSaid := fnExactPutFrame.proved
end Go.Proofs.Ytoeiadanmfajoaa
