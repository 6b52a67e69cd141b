/-
  The row of the law FnExactGrowRing: for every input the Go function returns true and leaves its arguments as they were, by the printed walk and the pure statement. No condition.
-/
import Derived.Test.YtoeiadanmfajoaaRows
import Derived.Test.YtoeiadanmfajoaaQFnExactGrowRingx7
import Derived.Test.YtoeiadanmfajoaaPureFnExactGrowRing
import Derived.Test.YtoeiadanmfajoaaUFnExactGrowRingo
import Derived.WalkKit
import Derived.ProofKit
import Derived.OpenShut
import Derived.ShutString
import Derived.ChangeOld
import Derived.Below
import Derived.SizedLaws
namespace Go.Proofs.Ytoeiadanmfajoaa.fnExactGrowRing
open Go.ChangeShapes Go.WideShapes Go.ChangeAt Go.RowKit Go.Proofs.YtoeiadanmfajoaaW.PrintWords Go.Proofs.YtoeiadanmfajoaaW.PrintMore
open Go.ChangeMaps (open_string shut_string)
set_option linter.unusedVariables false
theorem own : ownKnob Try.prog.godebug = none := by kernel_rfl
theorem laidOut : laidOutB Try.prog = true := by kernel_rfl
set_option maxRecDepth 100000 in
theorem lifted (os : Os) (started : os.Started) (H : Type) (enc : TypeId × Value → H) :
    ReturnsInHanded {} Try.checked os 13 .any (Rows.fnExactGrowRingSpec.pre6 enc Try.prog Try.f13 Rows.fnExactGrowRingRow.domain false) (Rows.fnExactGrowRingSpec.post enc Try.prog Try.f13 false true false false) := by
  refine returnsInHanded_of_change_sized (C := Try.checked) own started (by kernel_rfl) Try.func13
    (ChangeSpec.witness6 (enc := enc) (C := Try.checked) false ⟨#[], #[.agg #[.slice none 0 0, .int .i64 0, .int .i64 0], .int .i64 0], []⟩ 8 (by kernel_rfl) (by kernel_rfl) (by kernel_rfl) (by kernel_rfl)) ?_
  intro W base args ds gs before hval0 hW hcnd hsz0 _
  have hval : ∀ (j : Nat) t v, Try.f13.params[j]? = some t → args[j]? = some v → Value.okWide Try.prog W .any base t v := hval0
  have hW' := hW
  obtain ⟨p, q, hA0, hV, rfl, hfz, hnd⟩ := hW
  have hA : DataW.TrodAll enc Try.prog W 0 (fun _ => true) true Try.f13.params.toList args.toList ds p := hA0
  rw [Try.params13] at hA hval
  obtain ⟨v0, vs0, d0, ds0, p0, q0, hargs, rfl, rfl, h0, r0⟩ := trodAll_cons hA
  obtain ⟨v1, vs1, d1, ds1, p1, q1, rfl, rfl, rfl, h1, r1⟩ := trodAll_cons r0
  obtain ⟨rfl, rfl, rfl⟩ := trodAll_nil r1
  obtain rfl : args = #[v0, v1] := by cases args; simp_all
  obtain ⟨rfl, rfl⟩ := trodVars_none hV
  have k0 := h0
  have lt0 := Open.lt_of h0
  obtain ⟨c0_0, c0_1, c0_2, rfl, hf0⟩ := Open.open_st3 Try.underlying24 (by kernel_rfl) (by kernel_rfl) rfl (hval 0 24 v0 rfl rfl) h0
  obtain ⟨_, _, t0_0⟩ := hf0 0 _ rfl
  obtain ⟨A0_0, m0_0, l0_0, e0_0, hr0_0, hc0_0, hm0_0, hw0_0⟩ := Open.ints_at (k := .i64) (v := c0_0) Try.underlying22 Try.underlying3 (by kernel_rfl) t0_0
  subst e0_0
  obtain ⟨_, _, t0_1⟩ := hf0 1 _ rfl
  obtain ⟨a0_1, e0_1, w0_1⟩ := Open.int_at (k := .i64) (v := c0_1) Try.underlying3 t0_1
  subst e0_1
  obtain ⟨_, _, t0_2⟩ := hf0 2 _ rfl
  obtain ⟨a0_2, e0_2, w0_2⟩ := Open.int_at (k := .i64) (v := c0_2) Try.underlying3 t0_2
  subst e0_2
  obtain ⟨a1, rfl, rfl, rfl, w1⟩ := open_int Try.underlying3 (hval 1 3 v1 rfl rfl) h1
  obtain ⟨k, hp⟩ := Pure.FnExactGrowRing l0_0 a0_1 a0_2 a1 hm0_0 hw0_0 w0_1 w0_2 w1
  clear hA0 hval0 hsz0
  refine (QFnExactGrowRing.laws_FnExactGrowRing.calls k _ _ l0_0 a0_1 a0_2 a1 true W (Kd.C_of_reads (d := (0 : Int)) (h1 := fun _ => rfl) hr0_0) hc0_0 (Aside0.mk rfl) hp).mono fun e W' ⟨he, bel⟩ => ?_
  subst he
  exact ⟨_, rfl, _, _, _, [], _, [], hW', trodAll_mk1 (shut_bool Try.underlying4 _), (trodAll_cons_mk (Below.trod laidOut (by kernel_rfl) (of_decide_eq_true (by kernel_rfl)) k0 bel lt0) (trodAll_cons_mk (shut_int Try.underlying3 w1) trodAll_mk0)), rfl, bel.frame _, fun h => by cases h⟩
theorem over : Rows.fnExactGrowRingRow.holds Try.pinned (OpenSpec.ofChange Rows.fnExactGrowRingSpec) :=
  OpenClaim.holds_of_wide 13 Try.f13 rfl rfl rfl rfl rfl rfl rfl ⟨rfl, rfl, rfl, rfl, rfl⟩ rfl rfl rfl rfl rfl (by kernel_rfl) Try.func13 (by kernel_rfl)
    (of_decide_eq_true (by kernel_rfl)) (by unfold Func.isWrapper; first | (rw [if_pos (by decide +kernel)]; kernel_rfl) | (rw [if_neg (by decide +kernel)]; exact ⟨rfl, rfl⟩))
    (fun os started H enc _ => lifted os started H enc)
theorem proved : Rows.FnExactGrowRingSaid := over
#print axioms proved
end Go.Proofs.Ytoeiadanmfajoaa.fnExactGrowRing
namespace Go.Proofs.Ytoeiadanmfajoaa
/-- The row, under a short name, for the claim. -/
theorem fnExactGrowRing_holds : Rows.FnExactGrowRingSaid := fnExactGrowRing.proved
end Go.Proofs.Ytoeiadanmfajoaa
