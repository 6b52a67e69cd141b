/-
  The row of the law FnExactAggText: for every input the Go function returns true and leaves its arguments as they were, by the printed walk and the pure statement. No condition.
-/
import Derived.Test.YtkbgphdepkjccaaDoorRows
import Derived.Test.YtkbgphdepkjccaaDoorCards
import Derived.Test.YtkbgphdepkjccaaDoorTie
import Derived.Test.YtkbgphdepkjccaaDoorLaid
import Derived.Test.YtkbgphdepkjccaaDoorQFnExactAggTextx2
import Derived.Test.YtkbgphdepkjccaaDoorPureFnExactAggText
import Derived.Test.YtkbgphdepkjccaaDoorOpen
import Derived.WalkKit
import Derived.ProofKit
import Derived.OpenShut
import Derived.ShutString
import Derived.ChangeOld
import Derived.Below
import Derived.SizedLaws
import Derived.LaidMore
import Derived.LaidLaws
import Derived.MakeChecks
import Derived.Lib.LaidTab
import Derived.Stop.LaidErr
import Derived.SevenTiedAt
namespace Go.Proofs.YtkbgphdepkjccaaDoor.fnExactAggText
open Go.ChangeShapes Go.WideShapes Go.ChangeAt Go.RowKit Go.Proofs.YtkbgphdepkjccaaDoorW.PrintWords Go.Proofs.YtkbgphdepkjccaaDoorW.PrintMore
open Go.ChangeMaps (open_string shut_string)
set_option linter.unusedVariables false
theorem own : ownKnob Tryd.prog.godebug = none := by kernel_rfl
theorem laidOut : laidOutB Tryd.prog = true := by kernel_rfl
theorem door_met (os : Os) (args : Array Value) : laidMetH Tryd.prog Rows.fnExactAggTextRow.laid ((World.doorLaid Tryd.prog 62 os).forCall (fun _ _ => 0) ⟨#[], args, []⟩).memory :=
  laidMetH_of_parts3 (fuel := 8) (laidMet_of_run' 8 (by kernel_rfl) (by kernel_rfl)) (by kernel_rfl) (by kernel_rfl)
theorem of_laid {W : World} (hs : W.ShapedOpen Tryd.prog) (h0 : laidMetH Tryd.prog Rows.fnExactAggTextRow.laid W) : LaidT W := by
  rw [MakeChecks.laidMetH_plain _ _ _ (by kernel_rfl)] at h0
  exact Lib.tabIs_of_head (g := 3) (t := 91) (e := 70) (n := 20) (by kernel_rfl) (by kernel_rfl) (by kernel_rfl) (by kernel_rfl) (by kernel_rfl) (by kernel_rfl) (show laidMet Tryd.prog (("internal/strconv.uint64pow10", Lib.tabData .u64 Lib.pow10Tab) :: _) W from h0.tail.tail)
set_option maxRecDepth 100000 in
theorem lifted (os : Os) (started : os.Started) (H : Type) (enc : TypeId × Value → H) :
    ReturnsInHanded {} Tryd.checked os 4 .any (fun w args => (Rows.fnExactAggTextSpec.pre enc Tryd.prog Tryd.f4 Rows.fnExactAggTextRow.domain false w args ∧ laidMetH Tryd.prog Rows.fnExactAggTextRow.laid w) ∧ sizedMet enc Tryd.prog Tryd.f4 (OpenSpec.ofChange Rows.fnExactAggTextSpec) false w args) (Rows.fnExactAggTextSpec.post enc Tryd.prog Tryd.f4 false true false false) := by
  refine handed_laid (C := Tryd.checked) (X := fun w _ => laidMetH Tryd.prog Rows.fnExactAggTextRow.laid w) (fun _ _ _ hh h => h.of_heap hh) own started (by kernel_rfl) Tryd.func4
    (ChangeSpec.witness_shaped (enc := enc) (C := Tryd.checked) (os := os) (X := fun w _ => laidMetH Tryd.prog Rows.fnExactAggTextRow.laid w) false (World.doorLaid Tryd.prog 62 os) #[.agg #[.int .i64 0, .int .i64 0, .int .i64 0, .int .i64 0, .int .i64 0, .int .i64 0]] 8 rfl (World.shaped_of_RefB (by kernel_rfl) (by kernel_rfl)) (by kernel_rfl) (by kernel_rfl) (by kernel_rfl) (door_met os _)) ?_
  intro W base args ds gs before hval0 hW hcnd hsz0 hshp hlaid _
  have hL := of_laid hshp hlaid
  have hval : ∀ (j : Nat) t v, Tryd.f4.params[j]? = some t → args[j]? = some v → Value.okWide Tryd.prog W .any base t v := hval0
  have hW' := hW
  obtain ⟨p, q, hA0, hV, rfl, hfz, hnd⟩ := hW
  have hA : DataW.TrodAll enc Tryd.prog W 0 (fun _ => true) true Tryd.f4.params.toList args.toList ds p := hA0
  rw [Tryd.params4] at hA hval
  obtain ⟨v0, vs0, d0, ds0, p0, q0, hargs, rfl, rfl, h0, r0⟩ := trodAll_cons hA
  obtain ⟨rfl, rfl, rfl⟩ := trodAll_nil r0
  obtain rfl : args = #[v0] := by cases args; simp_all
  obtain ⟨rfl, rfl⟩ := trodVars_none hV
  have k0 := h0
  have lt0 := Open.lt_of h0
  obtain ⟨c0_0, c0_1, c0_2, c0_3, c0_4, c0_5, rfl, hf0⟩ := Open.open_st6 Tryd.underlying25 (by kernel_rfl) (by kernel_rfl) rfl (hval 0 25 v0 rfl rfl) h0
  obtain ⟨_, _, t0_0⟩ := hf0 0 _ rfl
  obtain ⟨a0_0, e0_0, w0_0⟩ := Open.int_at (k := .i64) (v := c0_0) Tryd.underlying3 t0_0
  subst e0_0
  obtain ⟨_, _, t0_1⟩ := hf0 1 _ rfl
  obtain ⟨a0_1, e0_1, w0_1⟩ := Open.int_at (k := .i64) (v := c0_1) Tryd.underlying3 t0_1
  subst e0_1
  obtain ⟨_, _, t0_2⟩ := hf0 2 _ rfl
  obtain ⟨a0_2, e0_2, w0_2⟩ := Open.int_at (k := .i64) (v := c0_2) Tryd.underlying3 t0_2
  subst e0_2
  obtain ⟨_, _, t0_3⟩ := hf0 3 _ rfl
  obtain ⟨a0_3, e0_3, w0_3⟩ := Open.int_at (k := .i64) (v := c0_3) Tryd.underlying3 t0_3
  subst e0_3
  obtain ⟨_, _, t0_4⟩ := hf0 4 _ rfl
  obtain ⟨a0_4, e0_4, w0_4⟩ := Open.int_at (k := .i64) (v := c0_4) Tryd.underlying3 t0_4
  subst e0_4
  obtain ⟨_, _, t0_5⟩ := hf0 5 _ rfl
  obtain ⟨a0_5, e0_5, w0_5⟩ := Open.int_at (k := .i64) (v := c0_5) Tryd.underlying3 t0_5
  subst e0_5
  obtain ⟨k, hp⟩ := Pure.FnExactAggText a0_0 a0_1 a0_2 a0_3 a0_4 a0_5 w0_0 w0_1 w0_2 w0_3 w0_4 w0_5
  clear hA0 hval0 hsz0
  refine (QFnExactAggText.laws_FnExactAggText.calls k a0_0 a0_1 a0_2 a0_3 a0_4 a0_5 true W  (Aside0.mk rfl) hp hL).mono fun e W' ⟨he, bel⟩ => ?_
  subst he
  exact ⟨_, rfl, _, _, _, [], _, [], hW', trodAll_mk1 (shut_bool Tryd.underlying4 _), (trodAll_cons_mk (Below.trod laidOut (by kernel_rfl) (of_decide_eq_true (by kernel_rfl)) k0 bel lt0) trodAll_mk0), rfl, bel.frame _, fun h => by cases h⟩
theorem over : Rows.fnExactAggTextRow.holds Tryd.pinned (OpenSpec.ofChange Rows.fnExactAggTextSpec) :=
  OpenClaim.holds_of_wide 4 Tryd.f4 rfl rfl rfl rfl rfl rfl rfl ⟨rfl, rfl, rfl, rfl, rfl⟩ rfl rfl rfl rfl rfl (by kernel_rfl) Tryd.func4 (by kernel_rfl)
    (of_decide_eq_true (by kernel_rfl)) (by unfold Func.isWrapper; first | (rw [if_pos (by decide +kernel)]; kernel_rfl) | (rw [if_neg (by decide +kernel)]; exact ⟨rfl, rfl⟩))
    (fun os started H enc _ => lifted os started H enc)
theorem card : Rows.FnExactAggTextCardSaid :=
  Claim7.holds_tied_plain_at .later [] [.data, .data, .data] true (true, "d2528eeb47620cbd3313f88b3c0138ae525310e0d11148deb22903094d72be03") true
    over (fun _ h => by cases h) (by kernel_rfl) (fun _ h => by cases h) fnExactAggText_row_tie rfl ⟨rfl, rfl⟩ (by kernel_rfl) rfl
    (fun f fn hf hfn => by
      obtain rfl : f = 4 := Option.some.inj ((show Tryd.prog.funcNamed "loop.example/g00728/laws.FnExactAggText" = some 4 by kernel_rfl).symm.trans hf) |>.symm
      obtain rfl : fn = Tryd.f4 := (Option.some.inj (Tryd.func4.symm.trans hfn)).symm
      exact ⟨by kernel_rfl, fun j t ht => by
        rw [Tryd.params4] at ht
        match j, ht with
        | 0, ht =>
          obtain rfl : 25 = t := by simpa using ht
          exact (show Tryd.prog.wantsStandIn 25 = false by kernel_rfl)
        | j + 1, ht => simp at ht⟩)
    (by kernel_rfl)
#print axioms card
end Go.Proofs.YtkbgphdepkjccaaDoor.fnExactAggText
namespace Go.Proofs.YtkbgphdepkjccaaDoor
/-- The card, under a short name, for the claim. -/
theorem fnExactAggText_holds : Rows.FnExactAggTextCardSaid := fnExactAggText.card
end Go.Proofs.YtkbgphdepkjccaaDoor
