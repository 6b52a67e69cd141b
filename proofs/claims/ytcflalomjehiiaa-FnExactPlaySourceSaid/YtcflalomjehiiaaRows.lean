/-
  No cell of these rows narrows 'for every input' (looked for: loops, veiled, ifaces, maps, wideKeys, modest, calm, conditions, laid).
  DERIVED. THE GIVEN ROWS OF THIS SEAT. 11 by the template 'for every input the law returns true; each argument reads behind the call as it read before'; 0 by the template 'total and deterministic' (their statements: YtcflalomjehiiaaTotals.lean).
  GIVEN WITH THE SEED: the statements are not yours to turn. If you find one false, say at which input.
  Laid BY PROGRAM, IN A SANDBOX (cutbox-rows.mjs): the forced cells as the released guide's own fill.sh prints them over the translation 4eb53ad5bd163649… (all of the seat's roots in one cut). By AI agents, Wed Nov 11 2026. No macro, syntax, notation, axiom, sorry.
-/
import Derived.Test.YtcflalomjehiiaaChecked
import GoSem.Claim
import GoSem.ClaimJoined
import GoSem.ClaimMapViews
import Derived.JoinedTies
import Derived.KernelRfl
namespace Go.Proofs.Ytcflalomjehiiaa
/- THE CELL 'sum', in the pinned program and in every row, IS THE sha256 OF THE DUMP (.gsa) THAT YtcflalomjehiiaaProg.lean LOADS. Nothing in Lean hashes anything: it is a label: what it is worth is what the hold of that sum in a sandbox is worth. -/
noncomputable def Try.pinned : Pinned := { name := "ytcflalomjehiiaa", sum := "4eb53ad5bd163649f7cfe1e0f75e90074c8b7c01e670643d71bc03bf7b9ce0a9", checked := Try.checked }
namespace Rows
def none {H : Type} : Left H := { results := [], args := [] }

/-- 'laws.FnExactPlayLink': WHATEVER THE INPUT: true; the input reads as it did. -/
def fnExactPlayLinkSpec : ChangeSpec := { name := "fnExactPlayLink", fn := fun _ => fun
  | [d1, d2] => { results := [.lit (.bool true)], args := [d1, d2] }
  | _ => none }
def fnExactPlayLinkRow : OpenClaim := { program := "ytcflalomjehiiaa", sum := "4eb53ad5bd163649f7cfe1e0f75e90074c8b7c01e670643d71bc03bf7b9ce0a9", func := "loop.example/g00728/laws.FnExactPlayLink", spec := "fnExactPlayLink", apart := false }
def FnExactPlayLinkSaid : Prop := fnExactPlayLinkRow.holds Try.pinned (OpenSpec.ofChange fnExactPlayLinkSpec)

/-- ITS FALSE NEIGHBOUR: 'it returns false'. Refute it at one input. -/
def fnExactPlayLinkWrong : ChangeSpec := { name := "fnExactPlayLink", fn := fun _ => fun
  | [d1, d2] => { results := [.lit (.bool false)], args := [d1, d2] }
  | _ => none }
def FnExactPlayLinkWrongFalsely : Prop := fnExactPlayLinkRow.holds Try.pinned (OpenSpec.ofChange fnExactPlayLinkWrong)

/-- 'laws.FnExactRaiseMark': WHATEVER THE INPUT: true; the input reads as it did. -/
def fnExactRaiseMarkSpec : ChangeSpec := { name := "fnExactRaiseMark", fn := fun _ => fun
  | [d1, d2] => { results := [.lit (.bool true)], args := [d1, d2] }
  | _ => none }
def fnExactRaiseMarkRow : OpenClaim := { program := "ytcflalomjehiiaa", sum := "4eb53ad5bd163649f7cfe1e0f75e90074c8b7c01e670643d71bc03bf7b9ce0a9", func := "loop.example/g00728/laws.FnExactRaiseMark", spec := "fnExactRaiseMark", unfollowed := true, recurses := true, apart := false }
def FnExactRaiseMarkSaid : Prop := fnExactRaiseMarkRow.holds Try.pinned (OpenSpec.ofChange fnExactRaiseMarkSpec)

/-- ITS FALSE NEIGHBOUR: 'it returns false'. Refute it at one input. -/
def fnExactRaiseMarkWrong : ChangeSpec := { name := "fnExactRaiseMark", fn := fun _ => fun
  | [d1, d2] => { results := [.lit (.bool false)], args := [d1, d2] }
  | _ => none }
def FnExactRaiseMarkWrongFalsely : Prop := fnExactRaiseMarkRow.holds Try.pinned (OpenSpec.ofChange fnExactRaiseMarkWrong)

/-- 'laws.FnRings': WHATEVER THE INPUT: true; the input reads as it did. -/
def fnRingsSpec : ChangeSpec := { name := "fnRings", fn := fun _ => fun
  | [d] => { results := [.lit (.bool true)], args := [d] }
  | _ => none }
def fnRingsRow : OpenClaim := { program := "ytcflalomjehiiaa", sum := "4eb53ad5bd163649f7cfe1e0f75e90074c8b7c01e670643d71bc03bf7b9ce0a9", func := "loop.example/g00728/laws.FnRings", spec := "fnRings", apart := false }
def FnRingsSaid : Prop := fnRingsRow.holds Try.pinned (OpenSpec.ofChange fnRingsSpec)

/-- ITS FALSE NEIGHBOUR: 'it returns false'. Refute it at one input. -/
def fnRingsWrong : ChangeSpec := { name := "fnRings", fn := fun _ => fun
  | [d] => { results := [.lit (.bool false)], args := [d] }
  | _ => none }
def FnRingsWrongFalsely : Prop := fnRingsRow.holds Try.pinned (OpenSpec.ofChange fnRingsWrong)

/-- 'laws.FnExactClosedOf': WHATEVER THE INPUT: true; the input reads as it did. -/
def fnExactClosedOfSpec : ChangeSpec := { name := "fnExactClosedOf", fn := fun _ => fun
  | [d1, d2] => { results := [.lit (.bool true)], args := [d1, d2] }
  | _ => none }
def fnExactClosedOfRow : OpenClaim := { program := "ytcflalomjehiiaa", sum := "4eb53ad5bd163649f7cfe1e0f75e90074c8b7c01e670643d71bc03bf7b9ce0a9", func := "loop.example/g00728/laws.FnExactClosedOf", spec := "fnExactClosedOf", unfollowed := true, recurses := true, apart := false }
def FnExactClosedOfSaid : Prop := fnExactClosedOfRow.holds Try.pinned (OpenSpec.ofChange fnExactClosedOfSpec)

/-- ITS FALSE NEIGHBOUR: 'it returns false'. Refute it at one input. -/
def fnExactClosedOfWrong : ChangeSpec := { name := "fnExactClosedOf", fn := fun _ => fun
  | [d1, d2] => { results := [.lit (.bool false)], args := [d1, d2] }
  | _ => none }
def FnExactClosedOfWrongFalsely : Prop := fnExactClosedOfRow.holds Try.pinned (OpenSpec.ofChange fnExactClosedOfWrong)

/-- 'laws.FnFrames': WHATEVER THE INPUT: true; the input reads as it did. -/
def fnFramesSpec : ChangeSpec := { name := "fnFrames", fn := fun _ => fun
  | [d] => { results := [.lit (.bool true)], args := [d] }
  | _ => none }
def fnFramesRow : OpenClaim := { program := "ytcflalomjehiiaa", sum := "4eb53ad5bd163649f7cfe1e0f75e90074c8b7c01e670643d71bc03bf7b9ce0a9", func := "loop.example/g00728/laws.FnFrames", spec := "fnFrames", apart := false }
def FnFramesSaid : Prop := fnFramesRow.holds Try.pinned (OpenSpec.ofChange fnFramesSpec)

/-- ITS FALSE NEIGHBOUR: 'it returns false'. Refute it at one input. -/
def fnFramesWrong : ChangeSpec := { name := "fnFrames", fn := fun _ => fun
  | [d] => { results := [.lit (.bool false)], args := [d] }
  | _ => none }
def FnFramesWrongFalsely : Prop := fnFramesRow.holds Try.pinned (OpenSpec.ofChange fnFramesWrong)

/-- 'laws.FnExactPlaySource': WHATEVER THE INPUT: true; the input reads as it did. -/
def fnExactPlaySourceSpec : ChangeSpec := { name := "fnExactPlaySource", fn := fun _ => fun
  | [d1, d2, d3] => { results := [.lit (.bool true)], args := [d1, d2, d3] }
  | _ => none }
def fnExactPlaySourceRow : OpenClaim := { program := "ytcflalomjehiiaa", sum := "4eb53ad5bd163649f7cfe1e0f75e90074c8b7c01e670643d71bc03bf7b9ce0a9", func := "loop.example/g00728/laws.FnExactPlaySource", spec := "fnExactPlaySource", apart := false }
def FnExactPlaySourceSaid : Prop := fnExactPlaySourceRow.holds Try.pinned (OpenSpec.ofChange fnExactPlaySourceSpec)

/-- ITS FALSE NEIGHBOUR: 'it returns false'. Refute it at one input. -/
def fnExactPlaySourceWrong : ChangeSpec := { name := "fnExactPlaySource", fn := fun _ => fun
  | [d1, d2, d3] => { results := [.lit (.bool false)], args := [d1, d2, d3] }
  | _ => none }
def FnExactPlaySourceWrongFalsely : Prop := fnExactPlaySourceRow.holds Try.pinned (OpenSpec.ofChange fnExactPlaySourceWrong)

/-- 'laws.FnExactTakeClosed': WHATEVER THE INPUT: true; the input reads as it did. -/
def fnExactTakeClosedSpec : ChangeSpec := { name := "fnExactTakeClosed", fn := fun _ => fun
  | [d1, d2, d3] => { results := [.lit (.bool true)], args := [d1, d2, d3] }
  | _ => none }
def fnExactTakeClosedRow : OpenClaim := { program := "ytcflalomjehiiaa", sum := "4eb53ad5bd163649f7cfe1e0f75e90074c8b7c01e670643d71bc03bf7b9ce0a9", func := "loop.example/g00728/laws.FnExactTakeClosed", spec := "fnExactTakeClosed", unfollowed := true, recurses := true, apart := false }
def FnExactTakeClosedSaid : Prop := fnExactTakeClosedRow.holds Try.pinned (OpenSpec.ofChange fnExactTakeClosedSpec)

/-- ITS FALSE NEIGHBOUR: 'it returns false'. Refute it at one input. -/
def fnExactTakeClosedWrong : ChangeSpec := { name := "fnExactTakeClosed", fn := fun _ => fun
  | [d1, d2, d3] => { results := [.lit (.bool false)], args := [d1, d2, d3] }
  | _ => none }
def FnExactTakeClosedWrongFalsely : Prop := fnExactTakeClosedRow.holds Try.pinned (OpenSpec.ofChange fnExactTakeClosedWrong)

/-- 'laws.FnExactTakeFrame': WHATEVER THE INPUT: true; the input reads as it did. -/
def fnExactTakeFrameSpec : ChangeSpec := { name := "fnExactTakeFrame", fn := fun _ => fun
  | [d] => { results := [.lit (.bool true)], args := [d] }
  | _ => none }
def fnExactTakeFrameRow : OpenClaim := { program := "ytcflalomjehiiaa", sum := "4eb53ad5bd163649f7cfe1e0f75e90074c8b7c01e670643d71bc03bf7b9ce0a9", func := "loop.example/g00728/laws.FnExactTakeFrame", spec := "fnExactTakeFrame", apart := false }
def FnExactTakeFrameSaid : Prop := fnExactTakeFrameRow.holds Try.pinned (OpenSpec.ofChange fnExactTakeFrameSpec)

/-- ITS FALSE NEIGHBOUR: 'it returns false'. Refute it at one input. -/
def fnExactTakeFrameWrong : ChangeSpec := { name := "fnExactTakeFrame", fn := fun _ => fun
  | [d] => { results := [.lit (.bool false)], args := [d] }
  | _ => none }
def FnExactTakeFrameWrongFalsely : Prop := fnExactTakeFrameRow.holds Try.pinned (OpenSpec.ofChange fnExactTakeFrameWrong)

/-- 'laws.FnMarks': WHATEVER THE INPUT: true; the input reads as it did. -/
def fnMarksSpec : ChangeSpec := { name := "fnMarks", fn := fun _ => fun
  | [d] => { results := [.lit (.bool true)], args := [d] }
  | _ => none }
def fnMarksRow : OpenClaim := { program := "ytcflalomjehiiaa", sum := "4eb53ad5bd163649f7cfe1e0f75e90074c8b7c01e670643d71bc03bf7b9ce0a9", func := "loop.example/g00728/laws.FnMarks", spec := "fnMarks", apart := false }
def FnMarksSaid : Prop := fnMarksRow.holds Try.pinned (OpenSpec.ofChange fnMarksSpec)

/-- ITS FALSE NEIGHBOUR: 'it returns false'. Refute it at one input. -/
def fnMarksWrong : ChangeSpec := { name := "fnMarks", fn := fun _ => fun
  | [d] => { results := [.lit (.bool false)], args := [d] }
  | _ => none }
def FnMarksWrongFalsely : Prop := fnMarksRow.holds Try.pinned (OpenSpec.ofChange fnMarksWrong)

/-- 'laws.FnExactAllFrames': WHATEVER THE INPUT: true; the input reads as it did. -/
def fnExactAllFramesSpec : ChangeSpec := { name := "fnExactAllFrames", fn := fun _ => fun
  | [d] => { results := [.lit (.bool true)], args := [d] }
  | _ => none }
def fnExactAllFramesRow : OpenClaim := { program := "ytcflalomjehiiaa", sum := "4eb53ad5bd163649f7cfe1e0f75e90074c8b7c01e670643d71bc03bf7b9ce0a9", func := "loop.example/g00728/laws.FnExactAllFrames", spec := "fnExactAllFrames", apart := false }
def FnExactAllFramesSaid : Prop := fnExactAllFramesRow.holds Try.pinned (OpenSpec.ofChange fnExactAllFramesSpec)

/-- ITS FALSE NEIGHBOUR: 'it returns false'. Refute it at one input. -/
def fnExactAllFramesWrong : ChangeSpec := { name := "fnExactAllFrames", fn := fun _ => fun
  | [d] => { results := [.lit (.bool false)], args := [d] }
  | _ => none }
def FnExactAllFramesWrongFalsely : Prop := fnExactAllFramesRow.holds Try.pinned (OpenSpec.ofChange fnExactAllFramesWrong)

/-- 'laws.FnExactTakeNext': WHATEVER THE INPUT: true; the input reads as it did. -/
def fnExactTakeNextSpec : ChangeSpec := { name := "fnExactTakeNext", fn := fun _ => fun
  | [d] => { results := [.lit (.bool true)], args := [d] }
  | _ => none }
def fnExactTakeNextRow : OpenClaim := { program := "ytcflalomjehiiaa", sum := "4eb53ad5bd163649f7cfe1e0f75e90074c8b7c01e670643d71bc03bf7b9ce0a9", func := "loop.example/g00728/laws.FnExactTakeNext", spec := "fnExactTakeNext", apart := false }
def FnExactTakeNextSaid : Prop := fnExactTakeNextRow.holds Try.pinned (OpenSpec.ofChange fnExactTakeNextSpec)

/-- ITS FALSE NEIGHBOUR: 'it returns false'. Refute it at one input. -/
def fnExactTakeNextWrong : ChangeSpec := { name := "fnExactTakeNext", fn := fun _ => fun
  | [d] => { results := [.lit (.bool false)], args := [d] }
  | _ => none }
def FnExactTakeNextWrongFalsely : Prop := fnExactTakeNextRow.holds Try.pinned (OpenSpec.ofChange fnExactTakeNextWrong)

/- THE SECOND FORM. 'bulk': how many values and letters a reading holds, each counted each time it is reached (what is shared counts as often as it is met; a slice's spare places count too). A statement '..UptoSaid' is the law's where the arguments, and the package variables that the reading takes, are together of bulk at most 1048576: NARROWER than '..Said'. Prove '..Said' where nothing that the law and all that it calls make is longer than what came in: it says more and counts as full. Else prove '..UptoSaid'. A law counts once. -/
mutual
def uptoBulk {H : Type} : DataW H → Nat
  | .lit (.string bytes) => bytes.length + 1
  | .lit _ => 1
  | .nil => 1
  | .ptr d => uptoBulk d + 1
  | .slice elems spare => uptoBulkAll elems + uptoBulkAll spare + 1
  | .agg parts => uptoBulkAll parts + 1
  | .iface _ d => uptoBulk d + 1
  | .map entries => uptoBulkEntries entries + 1
  | .held _ => 1
def uptoBulkAll {H : Type} : List (DataW H) → Nat
  | [] => 0
  | d :: r => uptoBulk d + uptoBulkAll r
def uptoBulkEntries {H : Type} : List (Lit × DataW H) → Nat
  | [] => 0
  | x :: r => uptoBulkEntry x + uptoBulkEntries r
def uptoBulkEntry {H : Type} : Lit × DataW H → Nat
  | (.string bytes, d) => bytes.length + uptoBulk d + 1
  | (_, d) => uptoBulk d + 1
 end
def uptoSmall : (H : Type) → List (DataW H) → Bool := fun _ ds => decide (uptoBulkAll ds ≤ 1048576)
def OpenSpec.upto (s : _root_.Go.ChangeSpec) : _root_.Go.OpenSpec := { _root_.Go.OpenSpec.ofChange s with cond := some uptoSmall }

/-- 'laws.FnExactPlayLink', WHERE WHAT IT READS IS OF BULK AT MOST 1048576: true; the input reads as it did. -/
def fnExactPlayLinkUptoRow : OpenClaim := { program := "ytcflalomjehiiaa", sum := "4eb53ad5bd163649f7cfe1e0f75e90074c8b7c01e670643d71bc03bf7b9ce0a9", func := "loop.example/g00728/laws.FnExactPlayLink", spec := "fnExactPlayLink", apart := false, narrowed := true }
def FnExactPlayLinkUptoSaid : Prop := fnExactPlayLinkUptoRow.holds Try.pinned (OpenSpec.upto fnExactPlayLinkSpec)

/-- 'laws.FnExactRaiseMark', WHERE WHAT IT READS IS OF BULK AT MOST 1048576: true; the input reads as it did. -/
def fnExactRaiseMarkUptoRow : OpenClaim := { program := "ytcflalomjehiiaa", sum := "4eb53ad5bd163649f7cfe1e0f75e90074c8b7c01e670643d71bc03bf7b9ce0a9", func := "loop.example/g00728/laws.FnExactRaiseMark", spec := "fnExactRaiseMark", unfollowed := true, recurses := true, apart := false, narrowed := true }
def FnExactRaiseMarkUptoSaid : Prop := fnExactRaiseMarkUptoRow.holds Try.pinned (OpenSpec.upto fnExactRaiseMarkSpec)

/-- 'laws.FnRings', WHERE WHAT IT READS IS OF BULK AT MOST 1048576: true; the input reads as it did. -/
def fnRingsUptoRow : OpenClaim := { program := "ytcflalomjehiiaa", sum := "4eb53ad5bd163649f7cfe1e0f75e90074c8b7c01e670643d71bc03bf7b9ce0a9", func := "loop.example/g00728/laws.FnRings", spec := "fnRings", apart := false, narrowed := true }
def FnRingsUptoSaid : Prop := fnRingsUptoRow.holds Try.pinned (OpenSpec.upto fnRingsSpec)

/-- 'laws.FnExactClosedOf', WHERE WHAT IT READS IS OF BULK AT MOST 1048576: true; the input reads as it did. -/
def fnExactClosedOfUptoRow : OpenClaim := { program := "ytcflalomjehiiaa", sum := "4eb53ad5bd163649f7cfe1e0f75e90074c8b7c01e670643d71bc03bf7b9ce0a9", func := "loop.example/g00728/laws.FnExactClosedOf", spec := "fnExactClosedOf", unfollowed := true, recurses := true, apart := false, narrowed := true }
def FnExactClosedOfUptoSaid : Prop := fnExactClosedOfUptoRow.holds Try.pinned (OpenSpec.upto fnExactClosedOfSpec)

/-- 'laws.FnFrames', WHERE WHAT IT READS IS OF BULK AT MOST 1048576: true; the input reads as it did. -/
def fnFramesUptoRow : OpenClaim := { program := "ytcflalomjehiiaa", sum := "4eb53ad5bd163649f7cfe1e0f75e90074c8b7c01e670643d71bc03bf7b9ce0a9", func := "loop.example/g00728/laws.FnFrames", spec := "fnFrames", apart := false, narrowed := true }
def FnFramesUptoSaid : Prop := fnFramesUptoRow.holds Try.pinned (OpenSpec.upto fnFramesSpec)

/-- 'laws.FnExactPlaySource', WHERE WHAT IT READS IS OF BULK AT MOST 1048576: true; the input reads as it did. -/
def fnExactPlaySourceUptoRow : OpenClaim := { program := "ytcflalomjehiiaa", sum := "4eb53ad5bd163649f7cfe1e0f75e90074c8b7c01e670643d71bc03bf7b9ce0a9", func := "loop.example/g00728/laws.FnExactPlaySource", spec := "fnExactPlaySource", apart := false, narrowed := true }
def FnExactPlaySourceUptoSaid : Prop := fnExactPlaySourceUptoRow.holds Try.pinned (OpenSpec.upto fnExactPlaySourceSpec)

/-- 'laws.FnExactTakeClosed', WHERE WHAT IT READS IS OF BULK AT MOST 1048576: true; the input reads as it did. -/
def fnExactTakeClosedUptoRow : OpenClaim := { program := "ytcflalomjehiiaa", sum := "4eb53ad5bd163649f7cfe1e0f75e90074c8b7c01e670643d71bc03bf7b9ce0a9", func := "loop.example/g00728/laws.FnExactTakeClosed", spec := "fnExactTakeClosed", unfollowed := true, recurses := true, apart := false, narrowed := true }
def FnExactTakeClosedUptoSaid : Prop := fnExactTakeClosedUptoRow.holds Try.pinned (OpenSpec.upto fnExactTakeClosedSpec)

/-- 'laws.FnExactTakeFrame', WHERE WHAT IT READS IS OF BULK AT MOST 1048576: true; the input reads as it did. -/
def fnExactTakeFrameUptoRow : OpenClaim := { program := "ytcflalomjehiiaa", sum := "4eb53ad5bd163649f7cfe1e0f75e90074c8b7c01e670643d71bc03bf7b9ce0a9", func := "loop.example/g00728/laws.FnExactTakeFrame", spec := "fnExactTakeFrame", apart := false, narrowed := true }
def FnExactTakeFrameUptoSaid : Prop := fnExactTakeFrameUptoRow.holds Try.pinned (OpenSpec.upto fnExactTakeFrameSpec)

/-- 'laws.FnMarks', WHERE WHAT IT READS IS OF BULK AT MOST 1048576: true; the input reads as it did. -/
def fnMarksUptoRow : OpenClaim := { program := "ytcflalomjehiiaa", sum := "4eb53ad5bd163649f7cfe1e0f75e90074c8b7c01e670643d71bc03bf7b9ce0a9", func := "loop.example/g00728/laws.FnMarks", spec := "fnMarks", apart := false, narrowed := true }
def FnMarksUptoSaid : Prop := fnMarksUptoRow.holds Try.pinned (OpenSpec.upto fnMarksSpec)

/-- 'laws.FnExactAllFrames', WHERE WHAT IT READS IS OF BULK AT MOST 1048576: true; the input reads as it did. -/
def fnExactAllFramesUptoRow : OpenClaim := { program := "ytcflalomjehiiaa", sum := "4eb53ad5bd163649f7cfe1e0f75e90074c8b7c01e670643d71bc03bf7b9ce0a9", func := "loop.example/g00728/laws.FnExactAllFrames", spec := "fnExactAllFrames", apart := false, narrowed := true }
def FnExactAllFramesUptoSaid : Prop := fnExactAllFramesUptoRow.holds Try.pinned (OpenSpec.upto fnExactAllFramesSpec)

/-- 'laws.FnExactTakeNext', WHERE WHAT IT READS IS OF BULK AT MOST 1048576: true; the input reads as it did. -/
def fnExactTakeNextUptoRow : OpenClaim := { program := "ytcflalomjehiiaa", sum := "4eb53ad5bd163649f7cfe1e0f75e90074c8b7c01e670643d71bc03bf7b9ce0a9", func := "loop.example/g00728/laws.FnExactTakeNext", spec := "fnExactTakeNext", apart := false, narrowed := true }
def FnExactTakeNextUptoSaid : Prop := fnExactTakeNextUptoRow.holds Try.pinned (OpenSpec.upto fnExactTakeNextSpec)

end Rows
end Go.Proofs.Ytcflalomjehiiaa
