/-
  The row of the law FnExactPlaySource: for every input the Go function returns true and leaves its arguments as they were, by the printed walk and the pure statement. No condition.
-/
import Derived.Test.YtcflalomjehiiaaRows
import Derived.Test.YtcflalomjehiiaaQFnExactPlaySourcex8
import Derived.Test.YtcflalomjehiiaaPureFnExactPlaySource
import Derived.Test.YtcflalomjehiiaaUFnExactPlaySourceo
import Derived.WalkKit
import Derived.ProofKit
import Derived.OpenShut
import Derived.ShutString
import Derived.ChangeOld
import Derived.Below
import Derived.SizedLaws
namespace Go.Proofs.Ytcflalomjehiiaa.fnExactPlaySource
open Go.ChangeShapes Go.WideShapes Go.ChangeAt Go.RowKit Go.Proofs.YtcflalomjehiiaaW.PrintWords Go.Proofs.YtcflalomjehiiaaW.PrintMore
open Go.ChangeMaps (open_string shut_string)
set_option linter.unusedVariables false
theorem own : ownKnob Try.prog.godebug = none := by kernel_rfl
theorem laidOut : laidOutB Try.prog = true := by kernel_rfl
set_option maxRecDepth 100000 in
theorem lifted (os : Os) (started : os.Started) (H : Type) (enc : TypeId × Value → H) :
    ReturnsInHanded {} Try.checked os 8 .any (Rows.fnExactPlaySourceSpec.pre6 enc Try.prog Try.f8 Rows.fnExactPlaySourceRow.domain false) (Rows.fnExactPlaySourceSpec.post enc Try.prog Try.f8 false true false false) := by
  refine returnsInHanded_of_change_sized (C := Try.checked) own started (by kernel_rfl) Try.func8
    (ChangeSpec.witness6 (enc := enc) (C := Try.checked) false ⟨#[], #[.int .i64 0, .int .i64 0, .slice none 0 0], []⟩ 8 (by kernel_rfl) (by kernel_rfl) (by kernel_rfl) (by kernel_rfl)) ?_
  intro W base args ds gs before hval0 hW hcnd hsz0 _
  have hval : ∀ (j : Nat) t v, Try.f8.params[j]? = some t → args[j]? = some v → Value.okWide Try.prog W .any base t v := hval0
  have hW' := hW
  obtain ⟨p, q, hA0, hV, rfl, hfz, hnd⟩ := hW
  have hA : DataW.TrodAll enc Try.prog W 0 (fun _ => true) true Try.f8.params.toList args.toList ds p := hA0
  rw [Try.params8] at hA hval
  obtain ⟨v0, vs0, d0, ds0, p0, q0, hargs, rfl, rfl, h0, r0⟩ := trodAll_cons hA
  obtain ⟨v1, vs1, d1, ds1, p1, q1, rfl, rfl, rfl, h1, r1⟩ := trodAll_cons r0
  obtain ⟨v2, vs2, d2, ds2, p2, q2, rfl, rfl, rfl, h2, r2⟩ := trodAll_cons r1
  obtain ⟨rfl, rfl, rfl⟩ := trodAll_nil r2
  obtain rfl : args = #[v0, v1, v2] := by cases args; simp_all
  obtain ⟨rfl, rfl⟩ := trodVars_none hV
  obtain ⟨a0, rfl, rfl, rfl, w0⟩ := open_int Try.underlying3 (hval 0 3 v0 rfl rfl) h0
  obtain ⟨a1, rfl, rfl, rfl, w1⟩ := open_int Try.underlying3 (hval 1 3 v1 rfl rfl) h1
  have k2 := h2
  have lt2 := Open.lt_of h2
  obtain ⟨_, _, t2⟩ := Open.slice_cell Try.underlying69 (hval 2 69 v2 rfl rfl) h2
  obtain ⟨A2, m2, c2_, e2, hc2, hm2, hn2, hr2⟩ := Open.cells_at (v := v2) Try.underlying69 (by kernel_rfl) t2
  subst e2
  have hp2 : ∀ i, i < m2 → ∃ x : List Int, (x.length ≤ maxLen ∧ ∀ z ∈ x, (Lit.int .i64 z).wf = true) ∧ ∀ a, A2 = some a → ∃ B cap, W.cell? (a.add i) = some (.slice B x.length cap) ∧ x.length ≤ cap ∧ Kd.C (Kd.int .i64) W B x.length x := by
    intro i hi
    obtain ⟨a, ha⟩ : ∃ a, A2 = some a := by cases hA_ : A2 with | none => exact absurd (hn2 hA_) (by omega) | some a => exact ⟨a, rfl⟩
    obtain ⟨u, _, _, g, tt⟩ := hr2 a ha i hi
    obtain ⟨B, cap, x, eu, hR, hcap, hmx, hw⟩ := Open.ints_at (k := .i64) (v := u) Try.underlying22 Try.underlying3 (by kernel_rfl) tt
    subst eu
    refine ⟨x, ⟨hmx, hw⟩, fun a' ha' => ?_⟩
    obtain rfl : a = a' := Option.some.inj (ha.symm.trans ha')
    exact ⟨B, cap, g, hcap, Kd.C_of_reads (d := (0 : Int)) (h1 := fun _ => rfl) hR⟩
  obtain ⟨l2, hl2, hq2⟩ := Open.list_of _ m2 hp2
  have hK2 : Kd.C (Kd.slice 3 (Kd.int .i64)) W A2 l2.length l2 := Open.C_of_rows (Kd.slice 3 (Kd.int .i64)) hl2 hm2 hn2 (fun a ha i x hx => by
    obtain ⟨B, cap, g, hcap, hC⟩ := (hq2 i x hx).2 a ha
    refine ⟨[.slice B x.length cap], ⟨B, cap, rfl, hcap, hC⟩, fun j u hj => ?_⟩
    match j, hj with
    | 0, hu => simp at hu; subst hu; show W.cell? (a.add (i * 1 + 0)) = _; rw [Nat.mul_one, Nat.add_zero]; exact g
    | n + 1, hu => simp at hu)
  have hw2 : ∀ z ∈ l2, z.length ≤ maxLen := by intro x hx; obtain ⟨i, hi⟩ := List.getElem?_of_mem hx; exact (hq2 i x hi).1.1
  subst hl2
  obtain ⟨k, hp⟩ := Pure.FnExactPlaySource a0 a1 l2 w0 w1 hm2 hw2
  clear hA0 hval0 hsz0
  refine (QFnExactPlaySource.laws_FnExactPlaySource.calls k a0 a1 _ _ l2 true W hK2 hc2 (Aside0.mk rfl) hp).mono fun e W' ⟨he, bel⟩ => ?_
  subst he
  exact ⟨_, rfl, _, _, _, [], _, [], hW', trodAll_mk1 (shut_bool Try.underlying4 _), (trodAll_cons_mk (shut_int Try.underlying3 w0) (trodAll_cons_mk (shut_int Try.underlying3 w1) (trodAll_cons_mk (Below.trod laidOut (by kernel_rfl) (of_decide_eq_true (by kernel_rfl)) k2 bel lt2) trodAll_mk0))), rfl, bel.frame _, fun h => by cases h⟩
theorem over : Rows.fnExactPlaySourceRow.holds Try.pinned (OpenSpec.ofChange Rows.fnExactPlaySourceSpec) :=
  OpenClaim.holds_of_wide 8 Try.f8 rfl rfl rfl rfl rfl rfl rfl ⟨rfl, rfl, rfl, rfl, rfl⟩ rfl rfl rfl rfl rfl (by kernel_rfl) Try.func8 (by kernel_rfl)
    (of_decide_eq_true (by kernel_rfl)) (by unfold Func.isWrapper; first | (rw [if_pos (by decide +kernel)]; kernel_rfl) | (rw [if_neg (by decide +kernel)]; exact ⟨rfl, rfl⟩))
    (fun os started H enc _ => lifted os started H enc)
theorem proved : Rows.FnExactPlaySourceSaid := over
#print axioms proved
end Go.Proofs.Ytcflalomjehiiaa.fnExactPlaySource
namespace Go.Proofs.Ytcflalomjehiiaa
/-- The row, under a short name, for the claim. -/
theorem fnExactPlaySource_holds : Rows.FnExactPlaySourceSaid := fnExactPlaySource.proved
end Go.Proofs.Ytcflalomjehiiaa
