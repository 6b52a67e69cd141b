/-
  No cell of these rows narrows 'for every input' (looked for: loops, veiled, ifaces, maps, wideKeys, modest, calm, conditions, laid).
  DERIVED. THE GIVEN ROWS OF THIS SEAT. 12 by the template 'for every input the law returns true; each argument reads behind the call as it read before'; 0 by the template 'total and deterministic' (their statements: YtnejoikjcdjneaaTotals.lean).
  GIVEN WITH THE SEED: the statements are not yours to turn. If you find one false, say at which input.
  Laid BY PROGRAM, IN A SANDBOX (cutbox-rows.mjs): the forced cells as the released guide's own fill.sh prints them over the translation de2b8f6d3e25c721… (all of the seat's roots in one cut). By AI agents, Wed Nov 11 2026. No macro, syntax, notation, axiom, sorry.
-/
import Derived.Test.YtnejoikjcdjneaaChecked
import GoSem.Claim
import GoSem.ClaimJoined
import GoSem.ClaimMapViews
import Derived.JoinedTies
import Derived.KernelRfl
namespace Go.Proofs.Ytnejoikjcdjneaa
/- THE CELL 'sum', in the pinned program and in every row, IS THE sha256 OF THE DUMP (.gsa) THAT YtnejoikjcdjneaaProg.lean LOADS. Nothing in Lean hashes anything: it is a label: what it is worth is what the hold of that sum in a sandbox is worth. -/
noncomputable def Try.pinned : Pinned := { name := "ytnejoikjcdjneaa", sum := "de2b8f6d3e25c72163b1955752a3608b24ee62d71fa634d994f251490974e72b", checked := Try.checked }
namespace Rows
def none {H : Type} : Left H := { results := [], args := [] }

/-- 'laws.FnExactConstants': WHATEVER THE INPUT: true; the input reads as it did. -/
def fnExactConstantsSpec : ChangeSpec := { name := "fnExactConstants", fn := fun _ => fun
  | [] => { results := [.lit (.bool true)], args := [] }
  | _ => none }
def fnExactConstantsRow : OpenClaim := { program := "ytnejoikjcdjneaa", sum := "de2b8f6d3e25c72163b1955752a3608b24ee62d71fa634d994f251490974e72b", func := "loop.example/g00728/laws.FnExactConstants", spec := "fnExactConstants", apart := false }
def FnExactConstantsSaid : Prop := fnExactConstantsRow.holds Try.pinned (OpenSpec.ofChange fnExactConstantsSpec)

/-- ITS FALSE NEIGHBOUR: 'it returns false'. Refute it at one input. -/
def fnExactConstantsWrong : ChangeSpec := { name := "fnExactConstants", fn := fun _ => fun
  | [] => { results := [.lit (.bool false)], args := [] }
  | _ => none }
def FnExactConstantsWrongFalsely : Prop := fnExactConstantsRow.holds Try.pinned (OpenSpec.ofChange fnExactConstantsWrong)

/-- 'laws.FnExactIsLateFor': WHATEVER THE INPUT: true; the input reads as it did. -/
def fnExactIsLateForSpec : ChangeSpec := { name := "fnExactIsLateFor", fn := fun _ => fun
  | [d1, d2] => { results := [.lit (.bool true)], args := [d1, d2] }
  | _ => none }
def fnExactIsLateForRow : OpenClaim := { program := "ytnejoikjcdjneaa", sum := "de2b8f6d3e25c72163b1955752a3608b24ee62d71fa634d994f251490974e72b", func := "loop.example/g00728/laws.FnExactIsLateFor", spec := "fnExactIsLateFor", apart := false }
def FnExactIsLateForSaid : Prop := fnExactIsLateForRow.holds Try.pinned (OpenSpec.ofChange fnExactIsLateForSpec)

/-- ITS FALSE NEIGHBOUR: 'it returns false'. Refute it at one input. -/
def fnExactIsLateForWrong : ChangeSpec := { name := "fnExactIsLateFor", fn := fun _ => fun
  | [d1, d2] => { results := [.lit (.bool false)], args := [d1, d2] }
  | _ => none }
def FnExactIsLateForWrongFalsely : Prop := fnExactIsLateForRow.holds Try.pinned (OpenSpec.ofChange fnExactIsLateForWrong)

/-- 'laws.FnExactTickOk': WHATEVER THE INPUT: true; the input reads as it did. -/
def fnExactTickOkSpec : ChangeSpec := { name := "fnExactTickOk", fn := fun _ => fun
  | [d] => { results := [.lit (.bool true)], args := [d] }
  | _ => none }
def fnExactTickOkRow : OpenClaim := { program := "ytnejoikjcdjneaa", sum := "de2b8f6d3e25c72163b1955752a3608b24ee62d71fa634d994f251490974e72b", func := "loop.example/g00728/laws.FnExactTickOk", spec := "fnExactTickOk", apart := false }
def FnExactTickOkSaid : Prop := fnExactTickOkRow.holds Try.pinned (OpenSpec.ofChange fnExactTickOkSpec)

/-- ITS FALSE NEIGHBOUR: 'it returns false'. Refute it at one input. -/
def fnExactTickOkWrong : ChangeSpec := { name := "fnExactTickOk", fn := fun _ => fun
  | [d] => { results := [.lit (.bool false)], args := [d] }
  | _ => none }
def FnExactTickOkWrongFalsely : Prop := fnExactTickOkRow.holds Try.pinned (OpenSpec.ofChange fnExactTickOkWrong)

/-- 'laws.FnExactWindowEnd': WHATEVER THE INPUT: true; the input reads as it did. -/
def fnExactWindowEndSpec : ChangeSpec := { name := "fnExactWindowEnd", fn := fun _ => fun
  | [d1, d2] => { results := [.lit (.bool true)], args := [d1, d2] }
  | _ => none }
def fnExactWindowEndRow : OpenClaim := { program := "ytnejoikjcdjneaa", sum := "de2b8f6d3e25c72163b1955752a3608b24ee62d71fa634d994f251490974e72b", func := "loop.example/g00728/laws.FnExactWindowEnd", spec := "fnExactWindowEnd", apart := false }
def FnExactWindowEndSaid : Prop := fnExactWindowEndRow.holds Try.pinned (OpenSpec.ofChange fnExactWindowEndSpec)

/-- ITS FALSE NEIGHBOUR: 'it returns false'. Refute it at one input. -/
def fnExactWindowEndWrong : ChangeSpec := { name := "fnExactWindowEnd", fn := fun _ => fun
  | [d1, d2] => { results := [.lit (.bool false)], args := [d1, d2] }
  | _ => none }
def FnExactWindowEndWrongFalsely : Prop := fnExactWindowEndRow.holds Try.pinned (OpenSpec.ofChange fnExactWindowEndWrong)

/-- 'laws.FnExactWindowOf': WHATEVER THE INPUT: true; the input reads as it did. -/
def fnExactWindowOfSpec : ChangeSpec := { name := "fnExactWindowOf", fn := fun _ => fun
  | [d1, d2] => { results := [.lit (.bool true)], args := [d1, d2] }
  | _ => none }
def fnExactWindowOfRow : OpenClaim := { program := "ytnejoikjcdjneaa", sum := "de2b8f6d3e25c72163b1955752a3608b24ee62d71fa634d994f251490974e72b", func := "loop.example/g00728/laws.FnExactWindowOf", spec := "fnExactWindowOf", apart := false }
def FnExactWindowOfSaid : Prop := fnExactWindowOfRow.holds Try.pinned (OpenSpec.ofChange fnExactWindowOfSpec)

/-- ITS FALSE NEIGHBOUR: 'it returns false'. Refute it at one input. -/
def fnExactWindowOfWrong : ChangeSpec := { name := "fnExactWindowOf", fn := fun _ => fun
  | [d1, d2] => { results := [.lit (.bool false)], args := [d1, d2] }
  | _ => none }
def FnExactWindowOfWrongFalsely : Prop := fnExactWindowOfRow.holds Try.pinned (OpenSpec.ofChange fnExactWindowOfWrong)

/-- 'laws.FnExactSourceOk': WHATEVER THE INPUT: true; the input reads as it did. -/
def fnExactSourceOkSpec : ChangeSpec := { name := "fnExactSourceOk", fn := fun _ => fun
  | [d] => { results := [.lit (.bool true)], args := [d] }
  | _ => none }
def fnExactSourceOkRow : OpenClaim := { program := "ytnejoikjcdjneaa", sum := "de2b8f6d3e25c72163b1955752a3608b24ee62d71fa634d994f251490974e72b", func := "loop.example/g00728/laws.FnExactSourceOk", spec := "fnExactSourceOk", apart := false }
def FnExactSourceOkSaid : Prop := fnExactSourceOkRow.holds Try.pinned (OpenSpec.ofChange fnExactSourceOkSpec)

/-- ITS FALSE NEIGHBOUR: 'it returns false'. Refute it at one input. -/
def fnExactSourceOkWrong : ChangeSpec := { name := "fnExactSourceOk", fn := fun _ => fun
  | [d] => { results := [.lit (.bool false)], args := [d] }
  | _ => none }
def FnExactSourceOkWrongFalsely : Prop := fnExactSourceOkRow.holds Try.pinned (OpenSpec.ofChange fnExactSourceOkWrong)

/-- 'laws.FnExactSince': WHATEVER THE INPUT: true; the input reads as it did. -/
def fnExactSinceSpec : ChangeSpec := { name := "fnExactSince", fn := fun _ => fun
  | [d1, d2] => { results := [.lit (.bool true)], args := [d1, d2] }
  | _ => none }
def fnExactSinceRow : OpenClaim := { program := "ytnejoikjcdjneaa", sum := "de2b8f6d3e25c72163b1955752a3608b24ee62d71fa634d994f251490974e72b", func := "loop.example/g00728/laws.FnExactSince", spec := "fnExactSince", apart := false }
def FnExactSinceSaid : Prop := fnExactSinceRow.holds Try.pinned (OpenSpec.ofChange fnExactSinceSpec)

/-- ITS FALSE NEIGHBOUR: 'it returns false'. Refute it at one input. -/
def fnExactSinceWrong : ChangeSpec := { name := "fnExactSince", fn := fun _ => fun
  | [d1, d2] => { results := [.lit (.bool false)], args := [d1, d2] }
  | _ => none }
def FnExactSinceWrongFalsely : Prop := fnExactSinceRow.holds Try.pinned (OpenSpec.ofChange fnExactSinceWrong)

/-- 'laws.FnExactAddTick': WHATEVER THE INPUT: true; the input reads as it did. -/
def fnExactAddTickSpec : ChangeSpec := { name := "fnExactAddTick", fn := fun _ => fun
  | [d1, d2] => { results := [.lit (.bool true)], args := [d1, d2] }
  | _ => none }
def fnExactAddTickRow : OpenClaim := { program := "ytnejoikjcdjneaa", sum := "de2b8f6d3e25c72163b1955752a3608b24ee62d71fa634d994f251490974e72b", func := "loop.example/g00728/laws.FnExactAddTick", spec := "fnExactAddTick", apart := false }
def FnExactAddTickSaid : Prop := fnExactAddTickRow.holds Try.pinned (OpenSpec.ofChange fnExactAddTickSpec)

/-- ITS FALSE NEIGHBOUR: 'it returns false'. Refute it at one input. -/
def fnExactAddTickWrong : ChangeSpec := { name := "fnExactAddTick", fn := fun _ => fun
  | [d1, d2] => { results := [.lit (.bool false)], args := [d1, d2] }
  | _ => none }
def FnExactAddTickWrongFalsely : Prop := fnExactAddTickRow.holds Try.pinned (OpenSpec.ofChange fnExactAddTickWrong)

/-- 'laws.FnExactAggOk': WHATEVER THE INPUT: true; the input reads as it did. -/
def fnExactAggOkSpec : ChangeSpec := { name := "fnExactAggOk", fn := fun _ => fun
  | [d] => { results := [.lit (.bool true)], args := [d] }
  | _ => none }
def fnExactAggOkRow : OpenClaim := { program := "ytnejoikjcdjneaa", sum := "de2b8f6d3e25c72163b1955752a3608b24ee62d71fa634d994f251490974e72b", func := "loop.example/g00728/laws.FnExactAggOk", spec := "fnExactAggOk", apart := false }
def FnExactAggOkSaid : Prop := fnExactAggOkRow.holds Try.pinned (OpenSpec.ofChange fnExactAggOkSpec)

/-- ITS FALSE NEIGHBOUR: 'it returns false'. Refute it at one input. -/
def fnExactAggOkWrong : ChangeSpec := { name := "fnExactAggOk", fn := fun _ => fun
  | [d] => { results := [.lit (.bool false)], args := [d] }
  | _ => none }
def FnExactAggOkWrongFalsely : Prop := fnExactAggOkRow.holds Try.pinned (OpenSpec.ofChange fnExactAggOkWrong)

/-- 'laws.FnExactDueAt': WHATEVER THE INPUT: true; the input reads as it did. -/
def fnExactDueAtSpec : ChangeSpec := { name := "fnExactDueAt", fn := fun _ => fun
  | [d1, d2, d3] => { results := [.lit (.bool true)], args := [d1, d2, d3] }
  | _ => none }
def fnExactDueAtRow : OpenClaim := { program := "ytnejoikjcdjneaa", sum := "de2b8f6d3e25c72163b1955752a3608b24ee62d71fa634d994f251490974e72b", func := "loop.example/g00728/laws.FnExactDueAt", spec := "fnExactDueAt", apart := false }
def FnExactDueAtSaid : Prop := fnExactDueAtRow.holds Try.pinned (OpenSpec.ofChange fnExactDueAtSpec)

/-- ITS FALSE NEIGHBOUR: 'it returns false'. Refute it at one input. -/
def fnExactDueAtWrong : ChangeSpec := { name := "fnExactDueAt", fn := fun _ => fun
  | [d1, d2, d3] => { results := [.lit (.bool false)], args := [d1, d2, d3] }
  | _ => none }
def FnExactDueAtWrongFalsely : Prop := fnExactDueAtRow.holds Try.pinned (OpenSpec.ofChange fnExactDueAtWrong)

/-- 'laws.FnExactFrameOk': WHATEVER THE INPUT: true; the input reads as it did. -/
def fnExactFrameOkSpec : ChangeSpec := { name := "fnExactFrameOk", fn := fun _ => fun
  | [d] => { results := [.lit (.bool true)], args := [d] }
  | _ => none }
def fnExactFrameOkRow : OpenClaim := { program := "ytnejoikjcdjneaa", sum := "de2b8f6d3e25c72163b1955752a3608b24ee62d71fa634d994f251490974e72b", func := "loop.example/g00728/laws.FnExactFrameOk", spec := "fnExactFrameOk", apart := false }
def FnExactFrameOkSaid : Prop := fnExactFrameOkRow.holds Try.pinned (OpenSpec.ofChange fnExactFrameOkSpec)

/-- ITS FALSE NEIGHBOUR: 'it returns false'. Refute it at one input. -/
def fnExactFrameOkWrong : ChangeSpec := { name := "fnExactFrameOk", fn := fun _ => fun
  | [d] => { results := [.lit (.bool false)], args := [d] }
  | _ => none }
def FnExactFrameOkWrongFalsely : Prop := fnExactFrameOkRow.holds Try.pinned (OpenSpec.ofChange fnExactFrameOkWrong)

/-- 'laws.FnExactNewSource': WHATEVER THE INPUT: true; the input reads as it did. -/
def fnExactNewSourceSpec : ChangeSpec := { name := "fnExactNewSource", fn := fun _ => fun
  | [d] => { results := [.lit (.bool true)], args := [d] }
  | _ => none }
def fnExactNewSourceRow : OpenClaim := { program := "ytnejoikjcdjneaa", sum := "de2b8f6d3e25c72163b1955752a3608b24ee62d71fa634d994f251490974e72b", func := "loop.example/g00728/laws.FnExactNewSource", spec := "fnExactNewSource", apart := false }
def FnExactNewSourceSaid : Prop := fnExactNewSourceRow.holds Try.pinned (OpenSpec.ofChange fnExactNewSourceSpec)

/-- ITS FALSE NEIGHBOUR: 'it returns false'. Refute it at one input. -/
def fnExactNewSourceWrong : ChangeSpec := { name := "fnExactNewSource", fn := fun _ => fun
  | [d] => { results := [.lit (.bool false)], args := [d] }
  | _ => none }
def FnExactNewSourceWrongFalsely : Prop := fnExactNewSourceRow.holds Try.pinned (OpenSpec.ofChange fnExactNewSourceWrong)

/- THE SECOND FORM. 'bulk': how many values and letters a reading holds, each counted each time it is reached (what is shared counts as often as it is met; a slice's spare places count too). A statement '..UptoSaid' is the law's where the arguments, and the package variables that the reading takes, are together of bulk at most 1048576: NARROWER than '..Said'. Prove '..Said' where nothing that the law and all that it calls make is longer than what came in: it says more and counts as full. Else prove '..UptoSaid'. A law counts once. -/
mutual
def uptoBulk {H : Type} : DataW H → Nat
  | .lit (.string bytes) => bytes.length + 1
  | .lit _ => 1
  | .nil => 1
  | .ptr d => uptoBulk d + 1
  | .slice elems spare => uptoBulkAll elems + uptoBulkAll spare + 1
  | .agg parts => uptoBulkAll parts + 1
  | .iface _ d => uptoBulk d + 1
  | .map entries => uptoBulkEntries entries + 1
  | .held _ => 1
def uptoBulkAll {H : Type} : List (DataW H) → Nat
  | [] => 0
  | d :: r => uptoBulk d + uptoBulkAll r
def uptoBulkEntries {H : Type} : List (Lit × DataW H) → Nat
  | [] => 0
  | x :: r => uptoBulkEntry x + uptoBulkEntries r
def uptoBulkEntry {H : Type} : Lit × DataW H → Nat
  | (.string bytes, d) => bytes.length + uptoBulk d + 1
  | (_, d) => uptoBulk d + 1
 end
def uptoSmall : (H : Type) → List (DataW H) → Bool := fun _ ds => decide (uptoBulkAll ds ≤ 1048576)
def OpenSpec.upto (s : _root_.Go.ChangeSpec) : _root_.Go.OpenSpec := { _root_.Go.OpenSpec.ofChange s with cond := some uptoSmall }

/-- 'laws.FnExactConstants', WHERE WHAT IT READS IS OF BULK AT MOST 1048576: true; the input reads as it did. -/
def fnExactConstantsUptoRow : OpenClaim := { program := "ytnejoikjcdjneaa", sum := "de2b8f6d3e25c72163b1955752a3608b24ee62d71fa634d994f251490974e72b", func := "loop.example/g00728/laws.FnExactConstants", spec := "fnExactConstants", apart := false, narrowed := true }
def FnExactConstantsUptoSaid : Prop := fnExactConstantsUptoRow.holds Try.pinned (OpenSpec.upto fnExactConstantsSpec)

/-- 'laws.FnExactIsLateFor', WHERE WHAT IT READS IS OF BULK AT MOST 1048576: true; the input reads as it did. -/
def fnExactIsLateForUptoRow : OpenClaim := { program := "ytnejoikjcdjneaa", sum := "de2b8f6d3e25c72163b1955752a3608b24ee62d71fa634d994f251490974e72b", func := "loop.example/g00728/laws.FnExactIsLateFor", spec := "fnExactIsLateFor", apart := false, narrowed := true }
def FnExactIsLateForUptoSaid : Prop := fnExactIsLateForUptoRow.holds Try.pinned (OpenSpec.upto fnExactIsLateForSpec)

/-- 'laws.FnExactTickOk', WHERE WHAT IT READS IS OF BULK AT MOST 1048576: true; the input reads as it did. -/
def fnExactTickOkUptoRow : OpenClaim := { program := "ytnejoikjcdjneaa", sum := "de2b8f6d3e25c72163b1955752a3608b24ee62d71fa634d994f251490974e72b", func := "loop.example/g00728/laws.FnExactTickOk", spec := "fnExactTickOk", apart := false, narrowed := true }
def FnExactTickOkUptoSaid : Prop := fnExactTickOkUptoRow.holds Try.pinned (OpenSpec.upto fnExactTickOkSpec)

/-- 'laws.FnExactWindowEnd', WHERE WHAT IT READS IS OF BULK AT MOST 1048576: true; the input reads as it did. -/
def fnExactWindowEndUptoRow : OpenClaim := { program := "ytnejoikjcdjneaa", sum := "de2b8f6d3e25c72163b1955752a3608b24ee62d71fa634d994f251490974e72b", func := "loop.example/g00728/laws.FnExactWindowEnd", spec := "fnExactWindowEnd", apart := false, narrowed := true }
def FnExactWindowEndUptoSaid : Prop := fnExactWindowEndUptoRow.holds Try.pinned (OpenSpec.upto fnExactWindowEndSpec)

/-- 'laws.FnExactWindowOf', WHERE WHAT IT READS IS OF BULK AT MOST 1048576: true; the input reads as it did. -/
def fnExactWindowOfUptoRow : OpenClaim := { program := "ytnejoikjcdjneaa", sum := "de2b8f6d3e25c72163b1955752a3608b24ee62d71fa634d994f251490974e72b", func := "loop.example/g00728/laws.FnExactWindowOf", spec := "fnExactWindowOf", apart := false, narrowed := true }
def FnExactWindowOfUptoSaid : Prop := fnExactWindowOfUptoRow.holds Try.pinned (OpenSpec.upto fnExactWindowOfSpec)

/-- 'laws.FnExactSourceOk', WHERE WHAT IT READS IS OF BULK AT MOST 1048576: true; the input reads as it did. -/
def fnExactSourceOkUptoRow : OpenClaim := { program := "ytnejoikjcdjneaa", sum := "de2b8f6d3e25c72163b1955752a3608b24ee62d71fa634d994f251490974e72b", func := "loop.example/g00728/laws.FnExactSourceOk", spec := "fnExactSourceOk", apart := false, narrowed := true }
def FnExactSourceOkUptoSaid : Prop := fnExactSourceOkUptoRow.holds Try.pinned (OpenSpec.upto fnExactSourceOkSpec)

/-- 'laws.FnExactSince', WHERE WHAT IT READS IS OF BULK AT MOST 1048576: true; the input reads as it did. -/
def fnExactSinceUptoRow : OpenClaim := { program := "ytnejoikjcdjneaa", sum := "de2b8f6d3e25c72163b1955752a3608b24ee62d71fa634d994f251490974e72b", func := "loop.example/g00728/laws.FnExactSince", spec := "fnExactSince", apart := false, narrowed := true }
def FnExactSinceUptoSaid : Prop := fnExactSinceUptoRow.holds Try.pinned (OpenSpec.upto fnExactSinceSpec)

/-- 'laws.FnExactAddTick', WHERE WHAT IT READS IS OF BULK AT MOST 1048576: true; the input reads as it did. -/
def fnExactAddTickUptoRow : OpenClaim := { program := "ytnejoikjcdjneaa", sum := "de2b8f6d3e25c72163b1955752a3608b24ee62d71fa634d994f251490974e72b", func := "loop.example/g00728/laws.FnExactAddTick", spec := "fnExactAddTick", apart := false, narrowed := true }
def FnExactAddTickUptoSaid : Prop := fnExactAddTickUptoRow.holds Try.pinned (OpenSpec.upto fnExactAddTickSpec)

/-- 'laws.FnExactAggOk', WHERE WHAT IT READS IS OF BULK AT MOST 1048576: true; the input reads as it did. -/
def fnExactAggOkUptoRow : OpenClaim := { program := "ytnejoikjcdjneaa", sum := "de2b8f6d3e25c72163b1955752a3608b24ee62d71fa634d994f251490974e72b", func := "loop.example/g00728/laws.FnExactAggOk", spec := "fnExactAggOk", apart := false, narrowed := true }
def FnExactAggOkUptoSaid : Prop := fnExactAggOkUptoRow.holds Try.pinned (OpenSpec.upto fnExactAggOkSpec)

/-- 'laws.FnExactDueAt', WHERE WHAT IT READS IS OF BULK AT MOST 1048576: true; the input reads as it did. -/
def fnExactDueAtUptoRow : OpenClaim := { program := "ytnejoikjcdjneaa", sum := "de2b8f6d3e25c72163b1955752a3608b24ee62d71fa634d994f251490974e72b", func := "loop.example/g00728/laws.FnExactDueAt", spec := "fnExactDueAt", apart := false, narrowed := true }
def FnExactDueAtUptoSaid : Prop := fnExactDueAtUptoRow.holds Try.pinned (OpenSpec.upto fnExactDueAtSpec)

/-- 'laws.FnExactFrameOk', WHERE WHAT IT READS IS OF BULK AT MOST 1048576: true; the input reads as it did. -/
def fnExactFrameOkUptoRow : OpenClaim := { program := "ytnejoikjcdjneaa", sum := "de2b8f6d3e25c72163b1955752a3608b24ee62d71fa634d994f251490974e72b", func := "loop.example/g00728/laws.FnExactFrameOk", spec := "fnExactFrameOk", apart := false, narrowed := true }
def FnExactFrameOkUptoSaid : Prop := fnExactFrameOkUptoRow.holds Try.pinned (OpenSpec.upto fnExactFrameOkSpec)

/-- 'laws.FnExactNewSource', WHERE WHAT IT READS IS OF BULK AT MOST 1048576: true; the input reads as it did. -/
def fnExactNewSourceUptoRow : OpenClaim := { program := "ytnejoikjcdjneaa", sum := "de2b8f6d3e25c72163b1955752a3608b24ee62d71fa634d994f251490974e72b", func := "loop.example/g00728/laws.FnExactNewSource", spec := "fnExactNewSource", apart := false, narrowed := true }
def FnExactNewSourceUptoSaid : Prop := fnExactNewSourceUptoRow.holds Try.pinned (OpenSpec.upto fnExactNewSourceSpec)

end Rows
end Go.Proofs.Ytnejoikjcdjneaa
