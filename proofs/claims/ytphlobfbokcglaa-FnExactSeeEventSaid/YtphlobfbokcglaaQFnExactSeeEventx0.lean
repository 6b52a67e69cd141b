/- The machine side of a law: Lean functions with the Go functions' answers and the walks that show it. No condition. -/
import Derived.Test.YtphlobfbokcglaaProg
import Derived.Below
import Derived.Deep.Draws
import Derived.Deep.AppendLies
import Derived.Maps.AppendAt
import Derived.OwnWalk
import Derived.Laws.BytesArg
import Derived.Laws.MakeOwn
import Derived.Laws.OwnMore
import Derived.Deep.OwnRows
import Derived.Tactics
import Derived.Lib.ConvBytes
import Derived.Laws.Slices
import Derived.WalkKit
import Derived.KernelRfl
import Derived.RowKit3
import Derived.Deep.LoopGhost
import Derived.Deep.QuietTactic
import Derived.BigQuiet
import Derived.WideLaws
import Derived.Deep.DeepCutAuto
import Derived.Deep.CutBlock
import Derived.Deep.RegionHeld3
import Derived.Laws.Rows
import Derived.Lib.AppendStr
import Derived.ArgAppend
import Derived.Laws.IdiomCopy
import Derived.OrdersHeld
import Derived.Laws.BitsLemmas
import Derived.RowKit
import Derived.Lib.SliceRun
import Derived.Test.YtphlobfbokcglaaWWords
import Derived.Test.YtphlobfbokcglaaWLast
import Derived.Test.YtphlobfbokcglaaWTab
import Derived.Test.YtphlobfbokcglaaWFour
import Derived.Test.YtphlobfbokcglaaWQPut
import Derived.Test.YtphlobfbokcglaaWApart
import Derived.Test.YtphlobfbokcglaaWArr
import Derived.Test.YtphlobfbokcglaaWZeros
import Derived.Test.YtphlobfbokcglaaWFoot
import Derived.Test.YtphlobfbokcglaaWKept
import Derived.Test.YtphlobfbokcglaaWShare
import Derived.Test.YtphlobfbokcglaaWN
import Derived.Test.YtphlobfbokcglaaWFootNe
import Derived.Test.YtphlobfbokcglaaWAt
import Derived.Test.YtphlobfbokcglaaWEqStruct
import Derived.Test.YtphlobfbokcglaaWRepsOne
import Derived.Test.YtphlobfbokcglaaWInv
import Derived.Test.YtphlobfbokcglaaWInvWords
import Derived.Test.YtphlobfbokcglaaWGuard
import Derived.Test.YtphlobfbokcglaaWNEv
import Derived.Test.YtphlobfbokcglaaWMore
namespace Go.Proofs.Ytphlobfbokcglaa.QFnExactSeeEvent
open Go.RowKit Go.Proofs.YtphlobfbokcglaaW.PrintWords Go.Proofs.YtphlobfbokcglaaW.PrintLast Go.Proofs.YtphlobfbokcglaaW.PrintMore
attribute [local go_sem] max2_int min2_int max_two min_two max_three min_three max_four min_four   -- for this text's walks alone
set_option linter.unusedVariables false
set_option linter.unusedSimpArgs false



def errW : Option Int → Value
  | none => .nilIface
  | some c => .iface 0 (.int .i64 c)
theorem errW_none : errW none = .nilIface := rfl
theorem errW_some (c : Int) : errW (some c) = .iface 0 (.int .i64 c) := rfl

-- the values' own types

end Go.Proofs.Ytphlobfbokcglaa.QFnExactSeeEvent
