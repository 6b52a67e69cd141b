/-
  The law FnExactIsLateFor answers true: the program's IsLateFor is the reference's, for all arguments. No condition.
-/
import Derived.Test.YtnejoikjcdjneaaPFnExactIsLateForx1
namespace Go.Proofs.Ytnejoikjcdjneaa.Pure
open Go.RowKit Go.Proofs.Ytnejoikjcdjneaa.PFnExactIsLateFor Go.Proofs.YtnejoikjcdjneaaW.PrintWords Go.Proofs.YtnejoikjcdjneaaW.PrintLast Go.Proofs.YtnejoikjcdjneaaW.PrintMore
set_option linter.unusedSimpArgs false
set_option linter.unusedVariables false

theorem FnExactIsLateFor : laws_FnExactIsLateFor.Pure := by
  intro a0 a1 w0 w1
  simp [laws_FnExactIsLateFor.f, spec_IsLateFor.f, impl_IsLateFor.f]

end Go.Proofs.Ytnejoikjcdjneaa.Pure
