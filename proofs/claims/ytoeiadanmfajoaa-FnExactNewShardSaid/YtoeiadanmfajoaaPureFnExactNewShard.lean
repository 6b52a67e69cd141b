/-
  The law FnExactNewShard answers true: the program's NewShard is the reference's, in new memory. No condition.
-/
import Derived.Test.YtoeiadanmfajoaaQFnExactNewShardx2
namespace Go.Proofs.Ytoeiadanmfajoaa.Pure
open Go.RowKit Go.Proofs.Ytoeiadanmfajoaa.QFnExactNewShard Go.Proofs.YtoeiadanmfajoaaW.PrintWords Go.Proofs.YtoeiadanmfajoaaW.PrintLast Go.Proofs.YtoeiadanmfajoaaW.PrintMore
set_option linter.unusedSimpArgs false
set_option linter.unusedVariables false

theorem FnExactNewShard : laws_FnExactNewShard.Pure := ⟨5, rfl⟩

end Go.Proofs.Ytoeiadanmfajoaa.Pure
