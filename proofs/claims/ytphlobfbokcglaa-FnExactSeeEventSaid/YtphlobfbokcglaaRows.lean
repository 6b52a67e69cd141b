/-
  No cell of these rows narrows 'for every input' (looked for: loops, veiled, ifaces, maps, wideKeys, modest, calm, conditions, laid).
  DERIVED. THE GIVEN ROWS OF THIS SEAT. 12 by the template 'for every input the law returns true; each argument reads behind the call as it read before'; 0 by the template 'total and deterministic' (their statements: YtphlobfbokcglaaTotals.lean).
  GIVEN WITH THE SEED: the statements are not yours to turn. If you find one false, say at which input.
  Laid BY PROGRAM, IN A SANDBOX (cutbox-rows.mjs): the forced cells as the released guide's own fill.sh prints them over the translation 279a3be24600f4ed… (all of the seat's roots in one cut). By AI agents, Wed Nov 11 2026. No macro, syntax, notation, axiom, sorry.
-/
import Derived.Test.YtphlobfbokcglaaChecked
import GoSem.Claim
import GoSem.ClaimJoined
import GoSem.ClaimMapViews
import Derived.JoinedTies
import Derived.KernelRfl
namespace Go.Proofs.Ytphlobfbokcglaa
/- THE CELL 'sum', in the pinned program and in every row, IS THE sha256 OF THE DUMP (.gsa) THAT YtphlobfbokcglaaProg.lean LOADS. Nothing in Lean hashes anything: it is a label: what it is worth is what the hold of that sum in a sandbox is worth. -/
noncomputable def Try.pinned : Pinned := { name := "ytphlobfbokcglaa", sum := "279a3be24600f4edd36e7d96213c9edbf6dbfa1a497f4fec3d025e07ef4ac0a7", checked := Try.checked }
namespace Rows
def none {H : Type} : Left H := { results := [], args := [] }

/-- 'laws.FnExactReturnCredit': WHATEVER THE INPUT: true; the input reads as it did. -/
def fnExactReturnCreditSpec : ChangeSpec := { name := "fnExactReturnCredit", fn := fun _ => fun
  | [d] => { results := [.lit (.bool true)], args := [d] }
  | _ => none }
def fnExactReturnCreditRow : OpenClaim := { program := "ytphlobfbokcglaa", sum := "279a3be24600f4edd36e7d96213c9edbf6dbfa1a497f4fec3d025e07ef4ac0a7", func := "loop.example/g00728/laws.FnExactReturnCredit", spec := "fnExactReturnCredit", apart := false }
def FnExactReturnCreditSaid : Prop := fnExactReturnCreditRow.holds Try.pinned (OpenSpec.ofChange fnExactReturnCreditSpec)

/-- ITS FALSE NEIGHBOUR: 'it returns false'. Refute it at one input. -/
def fnExactReturnCreditWrong : ChangeSpec := { name := "fnExactReturnCredit", fn := fun _ => fun
  | [d] => { results := [.lit (.bool false)], args := [d] }
  | _ => none }
def FnExactReturnCreditWrongFalsely : Prop := fnExactReturnCreditRow.holds Try.pinned (OpenSpec.ofChange fnExactReturnCreditWrong)

/-- 'laws.FnExactSpendCredit': WHATEVER THE INPUT: true; the input reads as it did. -/
def fnExactSpendCreditSpec : ChangeSpec := { name := "fnExactSpendCredit", fn := fun _ => fun
  | [d] => { results := [.lit (.bool true)], args := [d] }
  | _ => none }
def fnExactSpendCreditRow : OpenClaim := { program := "ytphlobfbokcglaa", sum := "279a3be24600f4edd36e7d96213c9edbf6dbfa1a497f4fec3d025e07ef4ac0a7", func := "loop.example/g00728/laws.FnExactSpendCredit", spec := "fnExactSpendCredit", apart := false }
def FnExactSpendCreditSaid : Prop := fnExactSpendCreditRow.holds Try.pinned (OpenSpec.ofChange fnExactSpendCreditSpec)

/-- ITS FALSE NEIGHBOUR: 'it returns false'. Refute it at one input. -/
def fnExactSpendCreditWrong : ChangeSpec := { name := "fnExactSpendCredit", fn := fun _ => fun
  | [d] => { results := [.lit (.bool false)], args := [d] }
  | _ => none }
def FnExactSpendCreditWrongFalsely : Prop := fnExactSpendCreditRow.holds Try.pinned (OpenSpec.ofChange fnExactSpendCreditWrong)

/-- 'laws.FnExactCheck': WHATEVER THE INPUT: true; the input reads as it did. -/
def fnExactCheckSpec : ChangeSpec := { name := "fnExactCheck", fn := fun _ => fun
  | [d] => { results := [.lit (.bool true)], args := [d] }
  | _ => none }
def fnExactCheckRow : OpenClaim := { program := "ytphlobfbokcglaa", sum := "279a3be24600f4edd36e7d96213c9edbf6dbfa1a497f4fec3d025e07ef4ac0a7", func := "loop.example/g00728/laws.FnExactCheck", spec := "fnExactCheck", apart := false }
def FnExactCheckSaid : Prop := fnExactCheckRow.holds Try.pinned (OpenSpec.ofChange fnExactCheckSpec)

/-- ITS FALSE NEIGHBOUR: 'it returns false'. Refute it at one input. -/
def fnExactCheckWrong : ChangeSpec := { name := "fnExactCheck", fn := fun _ => fun
  | [d] => { results := [.lit (.bool false)], args := [d] }
  | _ => none }
def FnExactCheckWrongFalsely : Prop := fnExactCheckRow.holds Try.pinned (OpenSpec.ofChange fnExactCheckWrong)

/-- 'laws.FnExactSoonestOf': WHATEVER THE INPUT: true; the input reads as it did. -/
def fnExactSoonestOfSpec : ChangeSpec := { name := "fnExactSoonestOf", fn := fun _ => fun
  | [d] => { results := [.lit (.bool true)], args := [d] }
  | _ => none }
def fnExactSoonestOfRow : OpenClaim := { program := "ytphlobfbokcglaa", sum := "279a3be24600f4edd36e7d96213c9edbf6dbfa1a497f4fec3d025e07ef4ac0a7", func := "loop.example/g00728/laws.FnExactSoonestOf", spec := "fnExactSoonestOf", apart := false }
def FnExactSoonestOfSaid : Prop := fnExactSoonestOfRow.holds Try.pinned (OpenSpec.ofChange fnExactSoonestOfSpec)

/-- ITS FALSE NEIGHBOUR: 'it returns false'. Refute it at one input. -/
def fnExactSoonestOfWrong : ChangeSpec := { name := "fnExactSoonestOf", fn := fun _ => fun
  | [d] => { results := [.lit (.bool false)], args := [d] }
  | _ => none }
def FnExactSoonestOfWrongFalsely : Prop := fnExactSoonestOfRow.holds Try.pinned (OpenSpec.ofChange fnExactSoonestOfWrong)

/-- 'laws.FnExactDecoderOk': WHATEVER THE INPUT: true; the input reads as it did. -/
def fnExactDecoderOkSpec : ChangeSpec := { name := "fnExactDecoderOk", fn := fun _ => fun
  | [d] => { results := [.lit (.bool true)], args := [d] }
  | _ => none }
def fnExactDecoderOkRow : OpenClaim := { program := "ytphlobfbokcglaa", sum := "279a3be24600f4edd36e7d96213c9edbf6dbfa1a497f4fec3d025e07ef4ac0a7", func := "loop.example/g00728/laws.FnExactDecoderOk", spec := "fnExactDecoderOk", apart := false }
def FnExactDecoderOkSaid : Prop := fnExactDecoderOkRow.holds Try.pinned (OpenSpec.ofChange fnExactDecoderOkSpec)

/-- ITS FALSE NEIGHBOUR: 'it returns false'. Refute it at one input. -/
def fnExactDecoderOkWrong : ChangeSpec := { name := "fnExactDecoderOk", fn := fun _ => fun
  | [d] => { results := [.lit (.bool false)], args := [d] }
  | _ => none }
def FnExactDecoderOkWrongFalsely : Prop := fnExactDecoderOkRow.holds Try.pinned (OpenSpec.ofChange fnExactDecoderOkWrong)

/-- 'laws.FnExactCloseSource': WHATEVER THE INPUT: true; the input reads as it did. -/
def fnExactCloseSourceSpec : ChangeSpec := { name := "fnExactCloseSource", fn := fun _ => fun
  | [d] => { results := [.lit (.bool true)], args := [d] }
  | _ => none }
def fnExactCloseSourceRow : OpenClaim := { program := "ytphlobfbokcglaa", sum := "279a3be24600f4edd36e7d96213c9edbf6dbfa1a497f4fec3d025e07ef4ac0a7", func := "loop.example/g00728/laws.FnExactCloseSource", spec := "fnExactCloseSource", apart := false }
def FnExactCloseSourceSaid : Prop := fnExactCloseSourceRow.holds Try.pinned (OpenSpec.ofChange fnExactCloseSourceSpec)

/-- ITS FALSE NEIGHBOUR: 'it returns false'. Refute it at one input. -/
def fnExactCloseSourceWrong : ChangeSpec := { name := "fnExactCloseSource", fn := fun _ => fun
  | [d] => { results := [.lit (.bool false)], args := [d] }
  | _ => none }
def FnExactCloseSourceWrongFalsely : Prop := fnExactCloseSourceRow.holds Try.pinned (OpenSpec.ofChange fnExactCloseSourceWrong)

/-- 'laws.FnExactNewRing': WHATEVER THE INPUT: true; the input reads as it did. -/
def fnExactNewRingSpec : ChangeSpec := { name := "fnExactNewRing", fn := fun _ => fun
  | [d] => { results := [.lit (.bool true)], args := [d] }
  | _ => none }
def fnExactNewRingRow : OpenClaim := { program := "ytphlobfbokcglaa", sum := "279a3be24600f4edd36e7d96213c9edbf6dbfa1a497f4fec3d025e07ef4ac0a7", func := "loop.example/g00728/laws.FnExactNewRing", spec := "fnExactNewRing", apart := false }
def FnExactNewRingSaid : Prop := fnExactNewRingRow.holds Try.pinned (OpenSpec.ofChange fnExactNewRingSpec)

/-- ITS FALSE NEIGHBOUR: 'it returns false'. Refute it at one input. -/
def fnExactNewRingWrong : ChangeSpec := { name := "fnExactNewRing", fn := fun _ => fun
  | [d] => { results := [.lit (.bool false)], args := [d] }
  | _ => none }
def FnExactNewRingWrongFalsely : Prop := fnExactNewRingRow.holds Try.pinned (OpenSpec.ofChange fnExactNewRingWrong)

/-- 'laws.FnExactSumTicks': WHATEVER THE INPUT: true; the input reads as it did. -/
def fnExactSumTicksSpec : ChangeSpec := { name := "fnExactSumTicks", fn := fun _ => fun
  | [d] => { results := [.lit (.bool true)], args := [d] }
  | _ => none }
def fnExactSumTicksRow : OpenClaim := { program := "ytphlobfbokcglaa", sum := "279a3be24600f4edd36e7d96213c9edbf6dbfa1a497f4fec3d025e07ef4ac0a7", func := "loop.example/g00728/laws.FnExactSumTicks", spec := "fnExactSumTicks", apart := false }
def FnExactSumTicksSaid : Prop := fnExactSumTicksRow.holds Try.pinned (OpenSpec.ofChange fnExactSumTicksSpec)

/-- ITS FALSE NEIGHBOUR: 'it returns false'. Refute it at one input. -/
def fnExactSumTicksWrong : ChangeSpec := { name := "fnExactSumTicks", fn := fun _ => fun
  | [d] => { results := [.lit (.bool false)], args := [d] }
  | _ => none }
def FnExactSumTicksWrongFalsely : Prop := fnExactSumTicksRow.holds Try.pinned (OpenSpec.ofChange fnExactSumTicksWrong)

/-- 'laws.FnExactSeeMark': WHATEVER THE INPUT: true; the input reads as it did. -/
def fnExactSeeMarkSpec : ChangeSpec := { name := "fnExactSeeMark", fn := fun _ => fun
  | [d1, d2, d3] => { results := [.lit (.bool true)], args := [d1, d2, d3] }
  | _ => none }
def fnExactSeeMarkRow : OpenClaim := { program := "ytphlobfbokcglaa", sum := "279a3be24600f4edd36e7d96213c9edbf6dbfa1a497f4fec3d025e07ef4ac0a7", func := "loop.example/g00728/laws.FnExactSeeMark", spec := "fnExactSeeMark", apart := false }
def FnExactSeeMarkSaid : Prop := fnExactSeeMarkRow.holds Try.pinned (OpenSpec.ofChange fnExactSeeMarkSpec)

/-- ITS FALSE NEIGHBOUR: 'it returns false'. Refute it at one input. -/
def fnExactSeeMarkWrong : ChangeSpec := { name := "fnExactSeeMark", fn := fun _ => fun
  | [d1, d2, d3] => { results := [.lit (.bool false)], args := [d1, d2, d3] }
  | _ => none }
def FnExactSeeMarkWrongFalsely : Prop := fnExactSeeMarkRow.holds Try.pinned (OpenSpec.ofChange fnExactSeeMarkWrong)

/-- 'laws.FnExactSeeEvent': WHATEVER THE INPUT: true; the input reads as it did. -/
def fnExactSeeEventSpec : ChangeSpec := { name := "fnExactSeeEvent", fn := fun _ => fun
  | [d1, d2, d3, d4] => { results := [.lit (.bool true)], args := [d1, d2, d3, d4] }
  | _ => none }
def fnExactSeeEventRow : OpenClaim := { program := "ytphlobfbokcglaa", sum := "279a3be24600f4edd36e7d96213c9edbf6dbfa1a497f4fec3d025e07ef4ac0a7", func := "loop.example/g00728/laws.FnExactSeeEvent", spec := "fnExactSeeEvent", apart := false }
def FnExactSeeEventSaid : Prop := fnExactSeeEventRow.holds Try.pinned (OpenSpec.ofChange fnExactSeeEventSpec)

/-- ITS FALSE NEIGHBOUR: 'it returns false'. Refute it at one input. -/
def fnExactSeeEventWrong : ChangeSpec := { name := "fnExactSeeEvent", fn := fun _ => fun
  | [d1, d2, d3, d4] => { results := [.lit (.bool false)], args := [d1, d2, d3, d4] }
  | _ => none }
def FnExactSeeEventWrongFalsely : Prop := fnExactSeeEventRow.holds Try.pinned (OpenSpec.ofChange fnExactSeeEventWrong)

/-- 'laws.FnExactRingOk': WHATEVER THE INPUT: true; the input reads as it did. -/
def fnExactRingOkSpec : ChangeSpec := { name := "fnExactRingOk", fn := fun _ => fun
  | [d] => { results := [.lit (.bool true)], args := [d] }
  | _ => none }
def fnExactRingOkRow : OpenClaim := { program := "ytphlobfbokcglaa", sum := "279a3be24600f4edd36e7d96213c9edbf6dbfa1a497f4fec3d025e07ef4ac0a7", func := "loop.example/g00728/laws.FnExactRingOk", spec := "fnExactRingOk", apart := false }
def FnExactRingOkSaid : Prop := fnExactRingOkRow.holds Try.pinned (OpenSpec.ofChange fnExactRingOkSpec)

/-- ITS FALSE NEIGHBOUR: 'it returns false'. Refute it at one input. -/
def fnExactRingOkWrong : ChangeSpec := { name := "fnExactRingOk", fn := fun _ => fun
  | [d] => { results := [.lit (.bool false)], args := [d] }
  | _ => none }
def FnExactRingOkWrongFalsely : Prop := fnExactRingOkRow.holds Try.pinned (OpenSpec.ofChange fnExactRingOkWrong)

/-- 'laws.FnExactSeeTick': WHATEVER THE INPUT: true; the input reads as it did. -/
def fnExactSeeTickSpec : ChangeSpec := { name := "fnExactSeeTick", fn := fun _ => fun
  | [d1, d2, d3] => { results := [.lit (.bool true)], args := [d1, d2, d3] }
  | _ => none }
def fnExactSeeTickRow : OpenClaim := { program := "ytphlobfbokcglaa", sum := "279a3be24600f4edd36e7d96213c9edbf6dbfa1a497f4fec3d025e07ef4ac0a7", func := "loop.example/g00728/laws.FnExactSeeTick", spec := "fnExactSeeTick", apart := false }
def FnExactSeeTickSaid : Prop := fnExactSeeTickRow.holds Try.pinned (OpenSpec.ofChange fnExactSeeTickSpec)

/-- ITS FALSE NEIGHBOUR: 'it returns false'. Refute it at one input. -/
def fnExactSeeTickWrong : ChangeSpec := { name := "fnExactSeeTick", fn := fun _ => fun
  | [d1, d2, d3] => { results := [.lit (.bool false)], args := [d1, d2, d3] }
  | _ => none }
def FnExactSeeTickWrongFalsely : Prop := fnExactSeeTickRow.holds Try.pinned (OpenSpec.ofChange fnExactSeeTickWrong)

/- THE SECOND FORM. 'bulk': how many values and letters a reading holds, each counted each time it is reached (what is shared counts as often as it is met; a slice's spare places count too). A statement '..UptoSaid' is the law's where the arguments, and the package variables that the reading takes, are together of bulk at most 1048576: NARROWER than '..Said'. Prove '..Said' where nothing that the law and all that it calls make is longer than what came in: it says more and counts as full. Else prove '..UptoSaid'. A law counts once. -/
mutual
def uptoBulk {H : Type} : DataW H → Nat
  | .lit (.string bytes) => bytes.length + 1
  | .lit _ => 1
  | .nil => 1
  | .ptr d => uptoBulk d + 1
  | .slice elems spare => uptoBulkAll elems + uptoBulkAll spare + 1
  | .agg parts => uptoBulkAll parts + 1
  | .iface _ d => uptoBulk d + 1
  | .map entries => uptoBulkEntries entries + 1
  | .held _ => 1
def uptoBulkAll {H : Type} : List (DataW H) → Nat
  | [] => 0
  | d :: r => uptoBulk d + uptoBulkAll r
def uptoBulkEntries {H : Type} : List (Lit × DataW H) → Nat
  | [] => 0
  | x :: r => uptoBulkEntry x + uptoBulkEntries r
def uptoBulkEntry {H : Type} : Lit × DataW H → Nat
  | (.string bytes, d) => bytes.length + uptoBulk d + 1
  | (_, d) => uptoBulk d + 1
 end
def uptoSmall : (H : Type) → List (DataW H) → Bool := fun _ ds => decide (uptoBulkAll ds ≤ 1048576)
def OpenSpec.upto (s : _root_.Go.ChangeSpec) : _root_.Go.OpenSpec := { _root_.Go.OpenSpec.ofChange s with cond := some uptoSmall }

/-- 'laws.FnExactReturnCredit', WHERE WHAT IT READS IS OF BULK AT MOST 1048576: true; the input reads as it did. -/
def fnExactReturnCreditUptoRow : OpenClaim := { program := "ytphlobfbokcglaa", sum := "279a3be24600f4edd36e7d96213c9edbf6dbfa1a497f4fec3d025e07ef4ac0a7", func := "loop.example/g00728/laws.FnExactReturnCredit", spec := "fnExactReturnCredit", apart := false, narrowed := true }
def FnExactReturnCreditUptoSaid : Prop := fnExactReturnCreditUptoRow.holds Try.pinned (OpenSpec.upto fnExactReturnCreditSpec)

/-- 'laws.FnExactSpendCredit', WHERE WHAT IT READS IS OF BULK AT MOST 1048576: true; the input reads as it did. -/
def fnExactSpendCreditUptoRow : OpenClaim := { program := "ytphlobfbokcglaa", sum := "279a3be24600f4edd36e7d96213c9edbf6dbfa1a497f4fec3d025e07ef4ac0a7", func := "loop.example/g00728/laws.FnExactSpendCredit", spec := "fnExactSpendCredit", apart := false, narrowed := true }
def FnExactSpendCreditUptoSaid : Prop := fnExactSpendCreditUptoRow.holds Try.pinned (OpenSpec.upto fnExactSpendCreditSpec)

/-- 'laws.FnExactCheck', WHERE WHAT IT READS IS OF BULK AT MOST 1048576: true; the input reads as it did. -/
def fnExactCheckUptoRow : OpenClaim := { program := "ytphlobfbokcglaa", sum := "279a3be24600f4edd36e7d96213c9edbf6dbfa1a497f4fec3d025e07ef4ac0a7", func := "loop.example/g00728/laws.FnExactCheck", spec := "fnExactCheck", apart := false, narrowed := true }
def FnExactCheckUptoSaid : Prop := fnExactCheckUptoRow.holds Try.pinned (OpenSpec.upto fnExactCheckSpec)

/-- 'laws.FnExactSoonestOf', WHERE WHAT IT READS IS OF BULK AT MOST 1048576: true; the input reads as it did. -/
def fnExactSoonestOfUptoRow : OpenClaim := { program := "ytphlobfbokcglaa", sum := "279a3be24600f4edd36e7d96213c9edbf6dbfa1a497f4fec3d025e07ef4ac0a7", func := "loop.example/g00728/laws.FnExactSoonestOf", spec := "fnExactSoonestOf", apart := false, narrowed := true }
def FnExactSoonestOfUptoSaid : Prop := fnExactSoonestOfUptoRow.holds Try.pinned (OpenSpec.upto fnExactSoonestOfSpec)

/-- 'laws.FnExactDecoderOk', WHERE WHAT IT READS IS OF BULK AT MOST 1048576: true; the input reads as it did. -/
def fnExactDecoderOkUptoRow : OpenClaim := { program := "ytphlobfbokcglaa", sum := "279a3be24600f4edd36e7d96213c9edbf6dbfa1a497f4fec3d025e07ef4ac0a7", func := "loop.example/g00728/laws.FnExactDecoderOk", spec := "fnExactDecoderOk", apart := false, narrowed := true }
def FnExactDecoderOkUptoSaid : Prop := fnExactDecoderOkUptoRow.holds Try.pinned (OpenSpec.upto fnExactDecoderOkSpec)

/-- 'laws.FnExactCloseSource', WHERE WHAT IT READS IS OF BULK AT MOST 1048576: true; the input reads as it did. -/
def fnExactCloseSourceUptoRow : OpenClaim := { program := "ytphlobfbokcglaa", sum := "279a3be24600f4edd36e7d96213c9edbf6dbfa1a497f4fec3d025e07ef4ac0a7", func := "loop.example/g00728/laws.FnExactCloseSource", spec := "fnExactCloseSource", apart := false, narrowed := true }
def FnExactCloseSourceUptoSaid : Prop := fnExactCloseSourceUptoRow.holds Try.pinned (OpenSpec.upto fnExactCloseSourceSpec)

/-- 'laws.FnExactNewRing', WHERE WHAT IT READS IS OF BULK AT MOST 1048576: true; the input reads as it did. -/
def fnExactNewRingUptoRow : OpenClaim := { program := "ytphlobfbokcglaa", sum := "279a3be24600f4edd36e7d96213c9edbf6dbfa1a497f4fec3d025e07ef4ac0a7", func := "loop.example/g00728/laws.FnExactNewRing", spec := "fnExactNewRing", apart := false, narrowed := true }
def FnExactNewRingUptoSaid : Prop := fnExactNewRingUptoRow.holds Try.pinned (OpenSpec.upto fnExactNewRingSpec)

/-- 'laws.FnExactSumTicks', WHERE WHAT IT READS IS OF BULK AT MOST 1048576: true; the input reads as it did. -/
def fnExactSumTicksUptoRow : OpenClaim := { program := "ytphlobfbokcglaa", sum := "279a3be24600f4edd36e7d96213c9edbf6dbfa1a497f4fec3d025e07ef4ac0a7", func := "loop.example/g00728/laws.FnExactSumTicks", spec := "fnExactSumTicks", apart := false, narrowed := true }
def FnExactSumTicksUptoSaid : Prop := fnExactSumTicksUptoRow.holds Try.pinned (OpenSpec.upto fnExactSumTicksSpec)

/-- 'laws.FnExactSeeMark', WHERE WHAT IT READS IS OF BULK AT MOST 1048576: true; the input reads as it did. -/
def fnExactSeeMarkUptoRow : OpenClaim := { program := "ytphlobfbokcglaa", sum := "279a3be24600f4edd36e7d96213c9edbf6dbfa1a497f4fec3d025e07ef4ac0a7", func := "loop.example/g00728/laws.FnExactSeeMark", spec := "fnExactSeeMark", apart := false, narrowed := true }
def FnExactSeeMarkUptoSaid : Prop := fnExactSeeMarkUptoRow.holds Try.pinned (OpenSpec.upto fnExactSeeMarkSpec)

/-- 'laws.FnExactSeeEvent', WHERE WHAT IT READS IS OF BULK AT MOST 1048576: true; the input reads as it did. -/
def fnExactSeeEventUptoRow : OpenClaim := { program := "ytphlobfbokcglaa", sum := "279a3be24600f4edd36e7d96213c9edbf6dbfa1a497f4fec3d025e07ef4ac0a7", func := "loop.example/g00728/laws.FnExactSeeEvent", spec := "fnExactSeeEvent", apart := false, narrowed := true }
def FnExactSeeEventUptoSaid : Prop := fnExactSeeEventUptoRow.holds Try.pinned (OpenSpec.upto fnExactSeeEventSpec)

/-- 'laws.FnExactRingOk', WHERE WHAT IT READS IS OF BULK AT MOST 1048576: true; the input reads as it did. -/
def fnExactRingOkUptoRow : OpenClaim := { program := "ytphlobfbokcglaa", sum := "279a3be24600f4edd36e7d96213c9edbf6dbfa1a497f4fec3d025e07ef4ac0a7", func := "loop.example/g00728/laws.FnExactRingOk", spec := "fnExactRingOk", apart := false, narrowed := true }
def FnExactRingOkUptoSaid : Prop := fnExactRingOkUptoRow.holds Try.pinned (OpenSpec.upto fnExactRingOkSpec)

/-- 'laws.FnExactSeeTick', WHERE WHAT IT READS IS OF BULK AT MOST 1048576: true; the input reads as it did. -/
def fnExactSeeTickUptoRow : OpenClaim := { program := "ytphlobfbokcglaa", sum := "279a3be24600f4edd36e7d96213c9edbf6dbfa1a497f4fec3d025e07ef4ac0a7", func := "loop.example/g00728/laws.FnExactSeeTick", spec := "fnExactSeeTick", apart := false, narrowed := true }
def FnExactSeeTickUptoSaid : Prop := fnExactSeeTickUptoRow.holds Try.pinned (OpenSpec.upto fnExactSeeTickSpec)

end Rows
end Go.Proofs.Ytphlobfbokcglaa
