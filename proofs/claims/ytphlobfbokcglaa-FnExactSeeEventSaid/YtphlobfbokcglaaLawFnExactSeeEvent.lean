/-
  The row of the law FnExactSeeEvent: for every input the Go function returns true and leaves its arguments as they were, by the printed walk and the pure statement. No condition.
-/
import Derived.Test.YtphlobfbokcglaaRows
import Derived.Test.YtphlobfbokcglaaQFnExactSeeEventx2
import Derived.Test.YtphlobfbokcglaaPureFnExactSeeEvent
import Derived.Test.YtphlobfbokcglaaOpen
import Derived.WalkKit
import Derived.ProofKit
import Derived.OpenShut
import Derived.ShutString
import Derived.ChangeOld
import Derived.Below
import Derived.SizedLaws
namespace Go.Proofs.Ytphlobfbokcglaa.fnExactSeeEvent
open Go.ChangeShapes Go.WideShapes Go.ChangeAt Go.RowKit Go.Proofs.YtphlobfbokcglaaW.PrintWords Go.Proofs.YtphlobfbokcglaaW.PrintMore
open Go.ChangeMaps (open_string shut_string)
set_option linter.unusedVariables false
theorem own : ownKnob Try.prog.godebug = none := by kernel_rfl
theorem laidOut : laidOutB Try.prog = true := by kernel_rfl
set_option maxRecDepth 100000 in
theorem lifted (os : Os) (started : os.Started) (H : Type) (enc : TypeId × Value → H) :
    ReturnsInHanded {} Try.checked os 12 .any (Rows.fnExactSeeEventSpec.pre6 enc Try.prog Try.f12 Rows.fnExactSeeEventRow.domain false) (Rows.fnExactSeeEventSpec.post enc Try.prog Try.f12 false true false false) := by
  refine returnsInHanded_of_change_sized (C := Try.checked) own started (by kernel_rfl) Try.func12
    (ChangeSpec.witness6 (enc := enc) (C := Try.checked) false ⟨#[], #[.agg #[.int .i64 0, .int .i64 0, .int .i64 0, .bool false, .bool false], .int .i64 0, .int .i64 0, .int .i64 0], []⟩ 8 (by kernel_rfl) (by kernel_rfl) (by kernel_rfl) (by kernel_rfl)) ?_
  intro W base args ds gs before hval0 hW hcnd hsz0 _
  have hval : ∀ (j : Nat) t v, Try.f12.params[j]? = some t → args[j]? = some v → Value.okWide Try.prog W .any base t v := hval0
  have hW' := hW
  obtain ⟨p, q, hA0, hV, rfl, hfz, hnd⟩ := hW
  have hA : DataW.TrodAll enc Try.prog W 0 (fun _ => true) true Try.f12.params.toList args.toList ds p := hA0
  rw [Try.params12] at hA hval
  obtain ⟨v0, vs0, d0, ds0, p0, q0, hargs, rfl, rfl, h0, r0⟩ := trodAll_cons hA
  obtain ⟨v1, vs1, d1, ds1, p1, q1, rfl, rfl, rfl, h1, r1⟩ := trodAll_cons r0
  obtain ⟨v2, vs2, d2, ds2, p2, q2, rfl, rfl, rfl, h2, r2⟩ := trodAll_cons r1
  obtain ⟨v3, vs3, d3, ds3, p3, q3, rfl, rfl, rfl, h3, r3⟩ := trodAll_cons r2
  obtain ⟨rfl, rfl, rfl⟩ := trodAll_nil r3
  obtain rfl : args = #[v0, v1, v2, v3] := by cases args; simp_all
  obtain ⟨rfl, rfl⟩ := trodVars_none hV
  have k0 := h0
  have lt0 := Open.lt_of h0
  obtain ⟨c0_0, c0_1, c0_2, c0_3, c0_4, rfl, hf0⟩ := Open.open_st5 Try.underlying49 (by kernel_rfl) (by kernel_rfl) rfl (hval 0 49 v0 rfl rfl) h0
  obtain ⟨_, _, t0_0⟩ := hf0 0 _ rfl
  obtain ⟨a0_0, e0_0, w0_0⟩ := Open.int_at (k := .i64) (v := c0_0) Try.underlying3 t0_0
  subst e0_0
  obtain ⟨_, _, t0_1⟩ := hf0 1 _ rfl
  obtain ⟨a0_1, e0_1, w0_1⟩ := Open.int_at (k := .i64) (v := c0_1) Try.underlying3 t0_1
  subst e0_1
  obtain ⟨_, _, t0_2⟩ := hf0 2 _ rfl
  obtain ⟨a0_2, e0_2, w0_2⟩ := Open.int_at (k := .i64) (v := c0_2) Try.underlying3 t0_2
  subst e0_2
  obtain ⟨_, _, t0_3⟩ := hf0 3 _ rfl
  obtain ⟨a0_3, e0_3⟩ := Open.bool_at (v := c0_3) Try.underlying4 t0_3
  subst e0_3
  obtain ⟨_, _, t0_4⟩ := hf0 4 _ rfl
  obtain ⟨a0_4, e0_4⟩ := Open.bool_at (v := c0_4) Try.underlying4 t0_4
  subst e0_4
  obtain ⟨a1, rfl, rfl, rfl, w1⟩ := open_int Try.underlying3 (hval 1 3 v1 rfl rfl) h1
  obtain ⟨a2, rfl, rfl, rfl, w2⟩ := open_int Try.underlying3 (hval 2 3 v2 rfl rfl) h2
  obtain ⟨a3, rfl, rfl, rfl, w3⟩ := open_int Try.underlying3 (hval 3 3 v3 rfl rfl) h3
  obtain ⟨k, hp⟩ := Pure.FnExactSeeEvent a0_0 a0_1 a0_2 a0_3 a0_4 a1 a2 a3 w0_0 w0_1 w0_2 w1 w2 w3
  clear hA0 hval0 hsz0
  refine (QFnExactSeeEvent.laws_FnExactSeeEvent.calls k a0_0 a0_1 a0_2 a0_3 a0_4 a1 a2 a3 true W  (Aside0.mk rfl) hp).mono fun e W' ⟨he, bel⟩ => ?_
  subst he
  exact ⟨_, rfl, _, _, _, [], _, [], hW', trodAll_mk1 (shut_bool Try.underlying4 _), (trodAll_cons_mk (Below.trod laidOut (by kernel_rfl) (of_decide_eq_true (by kernel_rfl)) k0 bel lt0) (trodAll_cons_mk (shut_int Try.underlying3 w1) (trodAll_cons_mk (shut_int Try.underlying3 w2) (trodAll_cons_mk (shut_int Try.underlying3 w3) trodAll_mk0)))), rfl, bel.frame _, fun h => by cases h⟩
theorem over : Rows.fnExactSeeEventRow.holds Try.pinned (OpenSpec.ofChange Rows.fnExactSeeEventSpec) :=
  OpenClaim.holds_of_wide 12 Try.f12 rfl rfl rfl rfl rfl rfl rfl ⟨rfl, rfl, rfl, rfl, rfl⟩ rfl rfl rfl rfl rfl (by kernel_rfl) Try.func12 (by kernel_rfl)
    (of_decide_eq_true (by kernel_rfl)) (by unfold Func.isWrapper; first | (rw [if_pos (by decide +kernel)]; kernel_rfl) | (rw [if_neg (by decide +kernel)]; exact ⟨rfl, rfl⟩))
    (fun os started H enc _ => lifted os started H enc)
theorem proved : Rows.FnExactSeeEventSaid := over
#print axioms proved
end Go.Proofs.Ytphlobfbokcglaa.fnExactSeeEvent
namespace Go.Proofs.Ytphlobfbokcglaa
/-- The row, under a short name, for the claim. -/
theorem fnExactSeeEvent_holds : Rows.FnExactSeeEventSaid := fnExactSeeEvent.proved
end Go.Proofs.Ytphlobfbokcglaa
