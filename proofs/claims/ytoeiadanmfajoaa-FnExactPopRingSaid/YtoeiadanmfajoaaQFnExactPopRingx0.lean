/- The machine side of a law: Lean functions with the Go functions' answers and the walks that show it. No condition. -/
import Derived.Test.YtoeiadanmfajoaaProg
import Derived.Below
import Derived.Deep.Draws
import Derived.Deep.AppendLies
import Derived.Maps.AppendAt
import Derived.OwnWalk
import Derived.Laws.BytesArg
import Derived.Laws.MakeOwn
import Derived.Laws.OwnMore
import Derived.Deep.OwnRows
import Derived.Tactics
import Derived.Lib.ConvBytes
import Derived.Laws.Slices
import Derived.WalkKit
import Derived.KernelRfl
import Derived.RowKit3
import Derived.Deep.LoopGhost
import Derived.Deep.QuietTactic
import Derived.BigQuiet
import Derived.WideLaws
import Derived.Deep.DeepCutAuto
import Derived.Deep.CutBlock
import Derived.Deep.RegionHeld3
import Derived.Laws.Rows
import Derived.Lib.AppendStr
import Derived.ArgAppend
import Derived.Laws.IdiomCopy
import Derived.OrdersHeld
import Derived.Laws.BitsLemmas
import Derived.RowKit
import Derived.Lib.SliceRun
import Derived.Test.YtoeiadanmfajoaaWWords
import Derived.Test.YtoeiadanmfajoaaWLast
import Derived.Test.YtoeiadanmfajoaaWTab
import Derived.Test.YtoeiadanmfajoaaWFour
import Derived.Test.YtoeiadanmfajoaaWQPut
import Derived.Test.YtoeiadanmfajoaaWApart
import Derived.Test.YtoeiadanmfajoaaWArr
import Derived.Test.YtoeiadanmfajoaaWZeros
import Derived.Test.YtoeiadanmfajoaaWFoot
import Derived.Test.YtoeiadanmfajoaaWKept
import Derived.Test.YtoeiadanmfajoaaWShare
import Derived.Test.YtoeiadanmfajoaaWN
import Derived.Test.YtoeiadanmfajoaaWFootNe
import Derived.Test.YtoeiadanmfajoaaWAt
import Derived.Test.YtoeiadanmfajoaaWEqStruct
import Derived.Test.YtoeiadanmfajoaaWRepsOne
import Derived.Test.YtoeiadanmfajoaaWInv
import Derived.Test.YtoeiadanmfajoaaWInvWords
import Derived.Test.YtoeiadanmfajoaaWGuard
import Derived.Test.YtoeiadanmfajoaaWNEv
import Derived.Test.YtoeiadanmfajoaaWMore
namespace Go.Proofs.Ytoeiadanmfajoaa.QFnExactPopRing
open Go.RowKit Go.Proofs.YtoeiadanmfajoaaW.PrintWords Go.Proofs.YtoeiadanmfajoaaW.PrintLast Go.Proofs.YtoeiadanmfajoaaW.PrintMore
attribute [local go_sem] max2_int min2_int max_two min_two max_three min_three max_four min_four   -- for this text's walks alone
set_option linter.unusedVariables false
set_option linter.unusedSimpArgs false



def errW : Option Int → Value
  | none => .nilIface
  | some c => .iface 0 (.int .i64 c)
theorem errW_none : errW none = .nilIface := rfl
theorem errW_some (c : Int) : errW (some c) = .iface 0 (.int .i64 c) := rfl

theorem info3 : (Try.prog.info? 3).map (fun i => (i.zero, i.size, i.bytes)) = some (some (.int .i64 0), 1, 8) := by kernel_rfl
-- the values' own types

end Go.Proofs.Ytoeiadanmfajoaa.QFnExactPopRing
