/-
  The law FnExactConstants answers true: each constant of the program is the document's. No condition.
-/
import Derived.Test.YtnejoikjcdjneaaPFnExactConstantsx1
namespace Go.Proofs.Ytnejoikjcdjneaa.Pure
open Go.RowKit Go.Proofs.Ytnejoikjcdjneaa.PFnExactConstants Go.Proofs.YtnejoikjcdjneaaW.PrintWords Go.Proofs.YtnejoikjcdjneaaW.PrintLast Go.Proofs.YtnejoikjcdjneaaW.PrintMore
set_option linter.unusedSimpArgs false
set_option linter.unusedVariables false

theorem FnExactConstants : laws_FnExactConstants.Pure := rfl

end Go.Proofs.Ytnejoikjcdjneaa.Pure
