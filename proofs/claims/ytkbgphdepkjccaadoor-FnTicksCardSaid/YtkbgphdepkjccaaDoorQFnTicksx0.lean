/- The machine side of a law: Lean functions with the Go functions' answers and the walks that show it. No condition. -/
import Derived.Test.YtkbgphdepkjccaaDoorProg
import Derived.Test.YtkbgphdepkjccaaDoorLaid
import Derived.Below
import Derived.Deep.Draws
import Derived.Deep.AppendLies
import Derived.Maps.AppendAt
import Derived.OwnWalk
import Derived.Laws.BytesArg
import Derived.Laws.MakeOwn
import Derived.Laws.OwnMore
import Derived.Deep.OwnRows
import Derived.Tactics
import Derived.Lib.ConvBytes
import Derived.Laws.Slices
import Derived.WalkKit
import Derived.KernelRfl
import Derived.RowKit3
import Derived.Deep.LoopGhost
import Derived.Deep.QuietTactic
import Derived.BigQuiet
import Derived.WideLaws
import Derived.Deep.DeepCutAuto
import Derived.Deep.CutBlock
import Derived.Deep.RegionHeld3
import Derived.Laws.Rows
import Derived.Lib.AppendStr
import Derived.ArgAppend
import Derived.Laws.IdiomCopy
import Derived.OrdersHeld
import Derived.Laws.BitsLemmas
import Derived.RowKit
import Derived.Lib.SliceRun
import Derived.Shelf.Abstract
import Derived.Deep.RegionLaw
import Derived.Laws.CopyRow
import Derived.Test.YtkbgphdepkjccaaDoorWWords
import Derived.Test.YtkbgphdepkjccaaDoorWLast
import Derived.Test.YtkbgphdepkjccaaDoorWTab
import Derived.Test.YtkbgphdepkjccaaDoorWFour
import Derived.Test.YtkbgphdepkjccaaDoorWQPut
import Derived.Test.YtkbgphdepkjccaaDoorWApart
import Derived.Test.YtkbgphdepkjccaaDoorWArr
import Derived.Test.YtkbgphdepkjccaaDoorWZeros
import Derived.Test.YtkbgphdepkjccaaDoorWFoot
import Derived.Test.YtkbgphdepkjccaaDoorWKept
import Derived.Test.YtkbgphdepkjccaaDoorWShare
import Derived.Test.YtkbgphdepkjccaaDoorWN
import Derived.Test.YtkbgphdepkjccaaDoorWFootNe
import Derived.Test.YtkbgphdepkjccaaDoorWAt
import Derived.Test.YtkbgphdepkjccaaDoorWEqStruct
import Derived.Test.YtkbgphdepkjccaaDoorWRepsOne
import Derived.Test.YtkbgphdepkjccaaDoorWInv
import Derived.Test.YtkbgphdepkjccaaDoorWInvWords
import Derived.Test.YtkbgphdepkjccaaDoorWGuard
import Derived.Test.YtkbgphdepkjccaaDoorWNEv
import Derived.Test.YtkbgphdepkjccaaDoorWMore
namespace Go.Proofs.YtkbgphdepkjccaaDoor.QFnTicks
open Go.RowKit Go.Proofs.YtkbgphdepkjccaaDoorW.PrintWords Go.Proofs.YtkbgphdepkjccaaDoorW.PrintLast Go.Proofs.YtkbgphdepkjccaaDoorW.PrintMore
attribute [local go_sem] max2_int min2_int max_two min_two max_three min_three max_four min_four   -- for this text's walks alone
set_option linter.unusedVariables false
set_option linter.unusedSimpArgs false



def errW : Option Int → Value
  | none => .nilIface
  | some c => .iface 0 (.int .i64 c)
theorem errW_none : errW none = .nilIface := rfl
theorem errW_some (c : Int) : errW (some c) = .iface 0 (.int .i64 c) := rfl

theorem info3 : (Tryd.prog.info? 3).map (fun i => (i.zero, i.size, i.bytes)) = some (some (.int .i64 0), 1, 8) := by kernel_rfl
-- the values' own types

end Go.Proofs.YtkbgphdepkjccaaDoor.QFnTicks
