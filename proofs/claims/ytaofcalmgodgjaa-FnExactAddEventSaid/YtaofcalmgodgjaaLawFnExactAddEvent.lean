/-
  The row of the law FnExactAddEvent: for every input the Go function returns true and leaves its arguments as they were, by the printed walk and the pure statement. No condition.
-/
import Derived.Test.YtaofcalmgodgjaaRows
import Derived.Test.YtaofcalmgodgjaaQFnExactAddEventx13
import Derived.Test.YtaofcalmgodgjaaPureFnExactAddEvent
import Derived.Test.YtaofcalmgodgjaaUFnExactAddEvento
import Derived.WalkKit
import Derived.ProofKit
import Derived.OpenShut
import Derived.ShutString
import Derived.ChangeOld
import Derived.Below
import Derived.SizedLaws
namespace Go.Proofs.Ytaofcalmgodgjaa.fnExactAddEvent
open Go.ChangeShapes Go.WideShapes Go.ChangeAt Go.RowKit Go.Proofs.YtaofcalmgodgjaaW.PrintWords Go.Proofs.YtaofcalmgodgjaaW.PrintMore
open Go.ChangeMaps (open_string shut_string)
set_option linter.unusedVariables false
theorem own : ownKnob Try.prog.godebug = none := by kernel_rfl
theorem laidOut : laidOutB Try.prog = true := by kernel_rfl
set_option maxRecDepth 100000 in
theorem lifted (os : Os) (started : os.Started) (H : Type) (enc : TypeId × Value → H) :
    ReturnsInHanded {} Try.checked os 3 .any (Rows.fnExactAddEventSpec.pre6 enc Try.prog Try.f3 Rows.fnExactAddEventRow.domain false) (Rows.fnExactAddEventSpec.post enc Try.prog Try.f3 false true false false) := by
  refine returnsInHanded_of_change_sized (C := Try.checked) own started (by kernel_rfl) Try.func3
    (ChangeSpec.witness6 (enc := enc) (C := Try.checked) false ⟨#[], #[.agg #[.slice none 0 0, .int .i64 0, .int .i64 0, .int .i64 0], .int .i64 0, .int .i64 0, .agg #[.int .i64 0, .int .i64 0, .int .i64 0, .int .i64 0]], []⟩ 8 (by kernel_rfl) (by kernel_rfl) (by kernel_rfl) (by kernel_rfl)) ?_
  intro W base args ds gs before hval0 hW hcnd hsz0 _
  have hval : ∀ (j : Nat) t v, Try.f3.params[j]? = some t → args[j]? = some v → Value.okWide Try.prog W .any base t v := hval0
  have hW' := hW
  obtain ⟨p, q, hA0, hV, rfl, hfz, hnd⟩ := hW
  have hA : DataW.TrodAll enc Try.prog W 0 (fun _ => true) true Try.f3.params.toList args.toList ds p := hA0
  rw [Try.params3] at hA hval
  obtain ⟨v0, vs0, d0, ds0, p0, q0, hargs, rfl, rfl, h0, r0⟩ := trodAll_cons hA
  obtain ⟨v1, vs1, d1, ds1, p1, q1, rfl, rfl, rfl, h1, r1⟩ := trodAll_cons r0
  obtain ⟨v2, vs2, d2, ds2, p2, q2, rfl, rfl, rfl, h2, r2⟩ := trodAll_cons r1
  obtain ⟨v3, vs3, d3, ds3, p3, q3, rfl, rfl, rfl, h3, r3⟩ := trodAll_cons r2
  obtain ⟨rfl, rfl, rfl⟩ := trodAll_nil r3
  obtain rfl : args = #[v0, v1, v2, v3] := by cases args; simp_all
  obtain ⟨rfl, rfl⟩ := trodVars_none hV
  have k0 := h0
  have lt0 := Open.lt_of h0
  obtain ⟨c0_0, c0_1, c0_2, c0_3, rfl, hf0⟩ := Open.open_st4 Try.underlying24 (by kernel_rfl) (by kernel_rfl) rfl (hval 0 24 v0 rfl rfl) h0
  obtain ⟨_, _, t0_0⟩ := hf0 0 _ rfl
  obtain ⟨A0_0, m0_0, c0_0_, e0_0, hc0_0, hm0_0, hn0_0, hr0_0⟩ := Open.rows_at (v := c0_0) Try.underlying22 Try.underlying86 (by kernel_rfl) (by kernel_rfl) t0_0
  subst e0_0
  have hp0_0 : ∀ i, i < m0_0 → ∃ x : QFnExactAddEvent.S86, ((Lit.int .i64 x.f0).wf = true ∧ (Lit.int .i64 x.f1).wf = true ∧ (Lit.int .i64 x.f2).wf = true ∧ (Lit.int .i64 x.f3).wf = true ∧ (Lit.int .i64 x.f4).wf = true ∧ (Lit.int .i64 x.f5).wf = true) ∧ ∀ a, A0_0 = some a → ∀ (j : Nat) (u : Value), ([.int .i64 x.f0, .int .i64 x.f1, .int .i64 x.f2, .int .i64 x.f3, .int .i64 x.f4, .int .i64 x.f5] : List Value)[j]? = some u → W.cell? (a.add (i * 6 + j)) = some u := by
    intro i hi
    obtain ⟨a, ha⟩ : ∃ a, A0_0 = some a := by cases hA_ : A0_0 with | none => exact absurd (hn0_0 hA_) (by omega) | some a => exact ⟨a, rfl⟩
    obtain ⟨u0, _, _, g0, t0⟩ := hr0_0 a ha i hi 0 _ rfl
    obtain ⟨x0, e0, w0⟩ := Open.int_at (k := .i64) (v := u0) Try.underlying3 t0
    subst e0
    obtain ⟨u1, _, _, g1, t1⟩ := hr0_0 a ha i hi 1 _ rfl
    obtain ⟨x1, e1, w1⟩ := Open.int_at (k := .i64) (v := u1) Try.underlying3 t1
    subst e1
    obtain ⟨u2, _, _, g2, t2⟩ := hr0_0 a ha i hi 2 _ rfl
    obtain ⟨x2, e2, w2⟩ := Open.int_at (k := .i64) (v := u2) Try.underlying3 t2
    subst e2
    obtain ⟨u3, _, _, g3, t3⟩ := hr0_0 a ha i hi 3 _ rfl
    obtain ⟨x3, e3, w3⟩ := Open.int_at (k := .i64) (v := u3) Try.underlying3 t3
    subst e3
    obtain ⟨u4, _, _, g4, t4⟩ := hr0_0 a ha i hi 4 _ rfl
    obtain ⟨x4, e4, w4⟩ := Open.int_at (k := .i64) (v := u4) Try.underlying3 t4
    subst e4
    obtain ⟨u5, _, _, g5, t5⟩ := hr0_0 a ha i hi 5 _ rfl
    obtain ⟨x5, e5, w5⟩ := Open.int_at (k := .i64) (v := u5) Try.underlying3 t5
    subst e5
    refine ⟨⟨x0, x1, x2, x3, x4, x5⟩, ⟨w0, w1, w2, w3, w4, w5⟩, fun a' ha' j u hu => ?_⟩
    obtain rfl : a = a' := Option.some.inj (ha.symm.trans ha')
    match j, hu with
    | 0, hu => simp at hu; subst hu; exact g0
    | 1, hu => simp at hu; subst hu; exact g1
    | 2, hu => simp at hu; subst hu; exact g2
    | 3, hu => simp at hu; subst hu; exact g3
    | 4, hu => simp at hu; subst hu; exact g4
    | 5, hu => simp at hu; subst hu; exact g5
    | n + 6, hu => simp at hu
  obtain ⟨l0_0, hl0_0, hq0_0⟩ := Open.list_of _ m0_0 hp0_0
  have hK0_0 : Kd.C QFnExactAddEvent.k86 W A0_0 l0_0.length l0_0 := Open.C_of_rows QFnExactAddEvent.k86 hl0_0 hm0_0 hn0_0 (fun a ha i x hx => ⟨_, QFnExactAddEvent.k86_mk W x, (hq0_0 i x hx).2 a ha⟩)
  have hw0_0 : ∀ x ∈ l0_0, (Lit.int .i64 x.f0).wf = true ∧ (Lit.int .i64 x.f1).wf = true ∧ (Lit.int .i64 x.f2).wf = true ∧ (Lit.int .i64 x.f3).wf = true ∧ (Lit.int .i64 x.f4).wf = true ∧ (Lit.int .i64 x.f5).wf = true := by intro x hx; obtain ⟨i, hi⟩ := List.getElem?_of_mem hx; exact (hq0_0 i x hi).1
  subst hl0_0
  obtain ⟨_, _, t0_1⟩ := hf0 1 _ rfl
  obtain ⟨a0_1, e0_1, w0_1⟩ := Open.int_at (k := .i64) (v := c0_1) Try.underlying3 t0_1
  subst e0_1
  obtain ⟨_, _, t0_2⟩ := hf0 2 _ rfl
  obtain ⟨a0_2, e0_2, w0_2⟩ := Open.int_at (k := .i64) (v := c0_2) Try.underlying3 t0_2
  subst e0_2
  obtain ⟨_, _, t0_3⟩ := hf0 3 _ rfl
  obtain ⟨a0_3, e0_3, w0_3⟩ := Open.int_at (k := .i64) (v := c0_3) Try.underlying3 t0_3
  subst e0_3
  obtain ⟨a1, rfl, rfl, rfl, w1⟩ := open_int Try.underlying3 (hval 1 3 v1 rfl rfl) h1
  obtain ⟨a2, rfl, rfl, rfl, w2⟩ := open_int Try.underlying3 (hval 2 3 v2 rfl rfl) h2
  have k3 := h3
  have lt3 := Open.lt_of h3
  obtain ⟨c3_0, c3_1, c3_2, c3_3, rfl, hf3⟩ := Open.open_st4 Try.underlying26 (by kernel_rfl) (by kernel_rfl) rfl (hval 3 26 v3 rfl rfl) h3
  obtain ⟨_, _, t3_0⟩ := hf3 0 _ rfl
  obtain ⟨a3_0, e3_0, w3_0⟩ := Open.int_at (k := .i64) (v := c3_0) Try.underlying3 t3_0
  subst e3_0
  obtain ⟨_, _, t3_1⟩ := hf3 1 _ rfl
  obtain ⟨a3_1, e3_1, w3_1⟩ := Open.int_at (k := .i64) (v := c3_1) Try.underlying3 t3_1
  subst e3_1
  obtain ⟨_, _, t3_2⟩ := hf3 2 _ rfl
  obtain ⟨a3_2, e3_2, w3_2⟩ := Open.int_at (k := .i64) (v := c3_2) Try.underlying3 t3_2
  subst e3_2
  obtain ⟨_, _, t3_3⟩ := hf3 3 _ rfl
  obtain ⟨a3_3, e3_3, w3_3⟩ := Open.int_at (k := .i64) (v := c3_3) Try.underlying3 t3_3
  subst e3_3
  obtain ⟨k, hp⟩ := Pure.FnExactAddEvent l0_0 a0_1 a0_2 a0_3 a1 a2 a3_0 a3_1 a3_2 a3_3 hm0_0 hw0_0 w0_1 w0_2 w0_3 w1 w2 w3_0 w3_1 w3_2 w3_3
  clear hA0 hval0 hsz0
  refine (QFnExactAddEvent.laws_FnExactAddEvent.calls k _ _ l0_0 a0_1 a0_2 a0_3 a1 a2 a3_0 a3_1 a3_2 a3_3 true W hK0_0 hc0_0 (Aside0.mk rfl) hp).mono fun e W' ⟨he, bel⟩ => ?_
  subst he
  exact ⟨_, rfl, _, _, _, [], _, [], hW', trodAll_mk1 (shut_bool Try.underlying4 _), (trodAll_cons_mk (Below.trod laidOut (by kernel_rfl) (of_decide_eq_true (by kernel_rfl)) k0 bel lt0) (trodAll_cons_mk (shut_int Try.underlying3 w1) (trodAll_cons_mk (shut_int Try.underlying3 w2) (trodAll_cons_mk (Below.trod laidOut (by kernel_rfl) (of_decide_eq_true (by kernel_rfl)) k3 bel lt3) trodAll_mk0)))), rfl, bel.frame _, fun h => by cases h⟩
theorem over : Rows.fnExactAddEventRow.holds Try.pinned (OpenSpec.ofChange Rows.fnExactAddEventSpec) :=
  OpenClaim.holds_of_wide 3 Try.f3 rfl rfl rfl rfl rfl rfl rfl ⟨rfl, rfl, rfl, rfl, rfl⟩ rfl rfl rfl rfl rfl (by kernel_rfl) Try.func3 (by kernel_rfl)
    (of_decide_eq_true (by kernel_rfl)) (by unfold Func.isWrapper; first | (rw [if_pos (by decide +kernel)]; kernel_rfl) | (rw [if_neg (by decide +kernel)]; exact ⟨rfl, rfl⟩))
    (fun os started H enc _ => lifted os started H enc)
theorem proved : Rows.FnExactAddEventSaid := over
#print axioms proved
end Go.Proofs.Ytaofcalmgodgjaa.fnExactAddEvent
namespace Go.Proofs.Ytaofcalmgodgjaa
/-- The row, under a short name, for the claim. -/
theorem fnExactAddEvent_holds : Rows.FnExactAddEventSaid := fnExactAddEvent.proved
end Go.Proofs.Ytaofcalmgodgjaa
