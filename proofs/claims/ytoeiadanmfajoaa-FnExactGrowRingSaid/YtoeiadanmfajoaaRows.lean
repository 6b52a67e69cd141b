/-
  No cell of these rows narrows 'for every input' (looked for: loops, veiled, ifaces, maps, wideKeys, modest, calm, conditions, laid).
  DERIVED. THE GIVEN ROWS OF THIS SEAT. 11 by the template 'for every input the law returns true; each argument reads behind the call as it read before'; 0 by the template 'total and deterministic' (their statements: YtoeiadanmfajoaaTotals.lean).
  GIVEN WITH THE SEED: the statements are not yours to turn. If you find one false, say at which input.
  Laid BY PROGRAM, IN A SANDBOX (cutbox-rows.mjs): the forced cells as the released guide's own fill.sh prints them over the translation e03465260ec7be2b… (all of the seat's roots in one cut). By AI agents, Wed Nov 11 2026. No macro, syntax, notation, axiom, sorry.
-/
import Derived.Test.YtoeiadanmfajoaaChecked
import GoSem.Claim
import GoSem.ClaimJoined
import GoSem.ClaimMapViews
import Derived.JoinedTies
import Derived.KernelRfl
namespace Go.Proofs.Ytoeiadanmfajoaa
/- THE CELL 'sum', in the pinned program and in every row, IS THE sha256 OF THE DUMP (.gsa) THAT YtoeiadanmfajoaaProg.lean LOADS. Nothing in Lean hashes anything: it is a label: what it is worth is what the hold of that sum in a sandbox is worth. -/
noncomputable def Try.pinned : Pinned := { name := "ytoeiadanmfajoaa", sum := "e03465260ec7be2ba7e51cbcb1299d9f95a303b2459fd22b295c74a51c416378", checked := Try.checked }
namespace Rows
def none {H : Type} : Left H := { results := [], args := [] }

/-- 'laws.FnExactLinkOk': WHATEVER THE INPUT: true; the input reads as it did. -/
def fnExactLinkOkSpec : ChangeSpec := { name := "fnExactLinkOk", fn := fun _ => fun
  | [d1, d2] => { results := [.lit (.bool true)], args := [d1, d2] }
  | _ => none }
def fnExactLinkOkRow : OpenClaim := { program := "ytoeiadanmfajoaa", sum := "e03465260ec7be2ba7e51cbcb1299d9f95a303b2459fd22b295c74a51c416378", func := "loop.example/g00728/laws.FnExactLinkOk", spec := "fnExactLinkOk", apart := false }
def FnExactLinkOkSaid : Prop := fnExactLinkOkRow.holds Try.pinned (OpenSpec.ofChange fnExactLinkOkSpec)

/-- ITS FALSE NEIGHBOUR: 'it returns false'. Refute it at one input. -/
def fnExactLinkOkWrong : ChangeSpec := { name := "fnExactLinkOk", fn := fun _ => fun
  | [d1, d2] => { results := [.lit (.bool false)], args := [d1, d2] }
  | _ => none }
def FnExactLinkOkWrongFalsely : Prop := fnExactLinkOkRow.holds Try.pinned (OpenSpec.ofChange fnExactLinkOkWrong)

/-- 'laws.FnExactAllMarks': WHATEVER THE INPUT: true; the input reads as it did. -/
def fnExactAllMarksSpec : ChangeSpec := { name := "fnExactAllMarks", fn := fun _ => fun
  | [d1, d2] => { results := [.lit (.bool true)], args := [d1, d2] }
  | _ => none }
def fnExactAllMarksRow : OpenClaim := { program := "ytoeiadanmfajoaa", sum := "e03465260ec7be2ba7e51cbcb1299d9f95a303b2459fd22b295c74a51c416378", func := "loop.example/g00728/laws.FnExactAllMarks", spec := "fnExactAllMarks", apart := false }
def FnExactAllMarksSaid : Prop := fnExactAllMarksRow.holds Try.pinned (OpenSpec.ofChange fnExactAllMarksSpec)

/-- ITS FALSE NEIGHBOUR: 'it returns false'. Refute it at one input. -/
def fnExactAllMarksWrong : ChangeSpec := { name := "fnExactAllMarks", fn := fun _ => fun
  | [d1, d2] => { results := [.lit (.bool false)], args := [d1, d2] }
  | _ => none }
def FnExactAllMarksWrongFalsely : Prop := fnExactAllMarksRow.holds Try.pinned (OpenSpec.ofChange fnExactAllMarksWrong)

/-- 'laws.FnExactNewShard': WHATEVER THE INPUT: true; the input reads as it did. -/
def fnExactNewShardSpec : ChangeSpec := { name := "fnExactNewShard", fn := fun _ => fun
  | [] => { results := [.lit (.bool true)], args := [] }
  | _ => none }
def fnExactNewShardRow : OpenClaim := { program := "ytoeiadanmfajoaa", sum := "e03465260ec7be2ba7e51cbcb1299d9f95a303b2459fd22b295c74a51c416378", func := "loop.example/g00728/laws.FnExactNewShard", spec := "fnExactNewShard", apart := false }
def FnExactNewShardSaid : Prop := fnExactNewShardRow.holds Try.pinned (OpenSpec.ofChange fnExactNewShardSpec)

/-- ITS FALSE NEIGHBOUR: 'it returns false'. Refute it at one input. -/
def fnExactNewShardWrong : ChangeSpec := { name := "fnExactNewShard", fn := fun _ => fun
  | [] => { results := [.lit (.bool false)], args := [] }
  | _ => none }
def FnExactNewShardWrongFalsely : Prop := fnExactNewShardRow.holds Try.pinned (OpenSpec.ofChange fnExactNewShardWrong)

/-- 'laws.FnExactFeedBytes': WHATEVER THE INPUT: true; the input reads as it did. -/
def fnExactFeedBytesSpec : ChangeSpec := { name := "fnExactFeedBytes", fn := fun _ => fun
  | [d1, d2] => { results := [.lit (.bool true)], args := [d1, d2] }
  | _ => none }
def fnExactFeedBytesRow : OpenClaim := { program := "ytoeiadanmfajoaa", sum := "e03465260ec7be2ba7e51cbcb1299d9f95a303b2459fd22b295c74a51c416378", func := "loop.example/g00728/laws.FnExactFeedBytes", spec := "fnExactFeedBytes", apart := false }
def FnExactFeedBytesSaid : Prop := fnExactFeedBytesRow.holds Try.pinned (OpenSpec.ofChange fnExactFeedBytesSpec)

/-- ITS FALSE NEIGHBOUR: 'it returns false'. Refute it at one input. -/
def fnExactFeedBytesWrong : ChangeSpec := { name := "fnExactFeedBytes", fn := fun _ => fun
  | [d1, d2] => { results := [.lit (.bool false)], args := [d1, d2] }
  | _ => none }
def FnExactFeedBytesWrongFalsely : Prop := fnExactFeedBytesRow.holds Try.pinned (OpenSpec.ofChange fnExactFeedBytesWrong)

/-- 'laws.FnExactListRing': WHATEVER THE INPUT: true; the input reads as it did. -/
def fnExactListRingSpec : ChangeSpec := { name := "fnExactListRing", fn := fun _ => fun
  | [d] => { results := [.lit (.bool true)], args := [d] }
  | _ => none }
def fnExactListRingRow : OpenClaim := { program := "ytoeiadanmfajoaa", sum := "e03465260ec7be2ba7e51cbcb1299d9f95a303b2459fd22b295c74a51c416378", func := "loop.example/g00728/laws.FnExactListRing", spec := "fnExactListRing", apart := false }
def FnExactListRingSaid : Prop := fnExactListRingRow.holds Try.pinned (OpenSpec.ofChange fnExactListRingSpec)

/-- ITS FALSE NEIGHBOUR: 'it returns false'. Refute it at one input. -/
def fnExactListRingWrong : ChangeSpec := { name := "fnExactListRing", fn := fun _ => fun
  | [d] => { results := [.lit (.bool false)], args := [d] }
  | _ => none }
def FnExactListRingWrongFalsely : Prop := fnExactListRingRow.holds Try.pinned (OpenSpec.ofChange fnExactListRingWrong)

/-- 'laws.FnExactMergeAggs': WHATEVER THE INPUT: true; the input reads as it did. -/
def fnExactMergeAggsSpec : ChangeSpec := { name := "fnExactMergeAggs", fn := fun _ => fun
  | [d1, d2] => { results := [.lit (.bool true)], args := [d1, d2] }
  | _ => none }
def fnExactMergeAggsRow : OpenClaim := { program := "ytoeiadanmfajoaa", sum := "e03465260ec7be2ba7e51cbcb1299d9f95a303b2459fd22b295c74a51c416378", func := "loop.example/g00728/laws.FnExactMergeAggs", spec := "fnExactMergeAggs", apart := false }
def FnExactMergeAggsSaid : Prop := fnExactMergeAggsRow.holds Try.pinned (OpenSpec.ofChange fnExactMergeAggsSpec)

/-- ITS FALSE NEIGHBOUR: 'it returns false'. Refute it at one input. -/
def fnExactMergeAggsWrong : ChangeSpec := { name := "fnExactMergeAggs", fn := fun _ => fun
  | [d1, d2] => { results := [.lit (.bool false)], args := [d1, d2] }
  | _ => none }
def FnExactMergeAggsWrongFalsely : Prop := fnExactMergeAggsRow.holds Try.pinned (OpenSpec.ofChange fnExactMergeAggsWrong)

/-- 'laws.FnExactPushRing': WHATEVER THE INPUT: true; the input reads as it did. -/
def fnExactPushRingSpec : ChangeSpec := { name := "fnExactPushRing", fn := fun _ => fun
  | [d1, d2] => { results := [.lit (.bool true)], args := [d1, d2] }
  | _ => none }
def fnExactPushRingRow : OpenClaim := { program := "ytoeiadanmfajoaa", sum := "e03465260ec7be2ba7e51cbcb1299d9f95a303b2459fd22b295c74a51c416378", func := "loop.example/g00728/laws.FnExactPushRing", spec := "fnExactPushRing", apart := false }
def FnExactPushRingSaid : Prop := fnExactPushRingRow.holds Try.pinned (OpenSpec.ofChange fnExactPushRingSpec)

/-- ITS FALSE NEIGHBOUR: 'it returns false'. Refute it at one input. -/
def fnExactPushRingWrong : ChangeSpec := { name := "fnExactPushRing", fn := fun _ => fun
  | [d1, d2] => { results := [.lit (.bool false)], args := [d1, d2] }
  | _ => none }
def FnExactPushRingWrongFalsely : Prop := fnExactPushRingRow.holds Try.pinned (OpenSpec.ofChange fnExactPushRingWrong)

/-- 'laws.FnExactPopRing': WHATEVER THE INPUT: true; the input reads as it did. -/
def fnExactPopRingSpec : ChangeSpec := { name := "fnExactPopRing", fn := fun _ => fun
  | [d] => { results := [.lit (.bool true)], args := [d] }
  | _ => none }
def fnExactPopRingRow : OpenClaim := { program := "ytoeiadanmfajoaa", sum := "e03465260ec7be2ba7e51cbcb1299d9f95a303b2459fd22b295c74a51c416378", func := "loop.example/g00728/laws.FnExactPopRing", spec := "fnExactPopRing", apart := false }
def FnExactPopRingSaid : Prop := fnExactPopRingRow.holds Try.pinned (OpenSpec.ofChange fnExactPopRingSpec)

/-- ITS FALSE NEIGHBOUR: 'it returns false'. Refute it at one input. -/
def fnExactPopRingWrong : ChangeSpec := { name := "fnExactPopRing", fn := fun _ => fun
  | [d] => { results := [.lit (.bool false)], args := [d] }
  | _ => none }
def FnExactPopRingWrongFalsely : Prop := fnExactPopRingRow.holds Try.pinned (OpenSpec.ofChange fnExactPopRingWrong)

/-- 'laws.FnExactPutFrame': WHATEVER THE INPUT: true; the input reads as it did. -/
def fnExactPutFrameSpec : ChangeSpec := { name := "fnExactPutFrame", fn := fun _ => fun
  | [d] => { results := [.lit (.bool true)], args := [d] }
  | _ => none }
def fnExactPutFrameRow : OpenClaim := { program := "ytoeiadanmfajoaa", sum := "e03465260ec7be2ba7e51cbcb1299d9f95a303b2459fd22b295c74a51c416378", func := "loop.example/g00728/laws.FnExactPutFrame", spec := "fnExactPutFrame", apart := false }
def FnExactPutFrameSaid : Prop := fnExactPutFrameRow.holds Try.pinned (OpenSpec.ofChange fnExactPutFrameSpec)

/-- ITS FALSE NEIGHBOUR: 'it returns false'. Refute it at one input. -/
def fnExactPutFrameWrong : ChangeSpec := { name := "fnExactPutFrame", fn := fun _ => fun
  | [d] => { results := [.lit (.bool false)], args := [d] }
  | _ => none }
def FnExactPutFrameWrongFalsely : Prop := fnExactPutFrameRow.holds Try.pinned (OpenSpec.ofChange fnExactPutFrameWrong)

/-- 'laws.FnExactShardOk': WHATEVER THE INPUT: true; the input reads as it did. -/
def fnExactShardOkSpec : ChangeSpec := { name := "fnExactShardOk", fn := fun _ => fun
  | [d] => { results := [.lit (.bool true)], args := [d] }
  | _ => none }
def fnExactShardOkRow : OpenClaim := { program := "ytoeiadanmfajoaa", sum := "e03465260ec7be2ba7e51cbcb1299d9f95a303b2459fd22b295c74a51c416378", func := "loop.example/g00728/laws.FnExactShardOk", spec := "fnExactShardOk", unfollowed := true, recurses := true, apart := false }
def FnExactShardOkSaid : Prop := fnExactShardOkRow.holds Try.pinned (OpenSpec.ofChange fnExactShardOkSpec)

/-- ITS FALSE NEIGHBOUR: 'it returns false'. Refute it at one input. -/
def fnExactShardOkWrong : ChangeSpec := { name := "fnExactShardOk", fn := fun _ => fun
  | [d] => { results := [.lit (.bool false)], args := [d] }
  | _ => none }
def FnExactShardOkWrongFalsely : Prop := fnExactShardOkRow.holds Try.pinned (OpenSpec.ofChange fnExactShardOkWrong)

/-- 'laws.FnExactGrowRing': WHATEVER THE INPUT: true; the input reads as it did. -/
def fnExactGrowRingSpec : ChangeSpec := { name := "fnExactGrowRing", fn := fun _ => fun
  | [d1, d2] => { results := [.lit (.bool true)], args := [d1, d2] }
  | _ => none }
def fnExactGrowRingRow : OpenClaim := { program := "ytoeiadanmfajoaa", sum := "e03465260ec7be2ba7e51cbcb1299d9f95a303b2459fd22b295c74a51c416378", func := "loop.example/g00728/laws.FnExactGrowRing", spec := "fnExactGrowRing", apart := false }
def FnExactGrowRingSaid : Prop := fnExactGrowRingRow.holds Try.pinned (OpenSpec.ofChange fnExactGrowRingSpec)

/-- ITS FALSE NEIGHBOUR: 'it returns false'. Refute it at one input. -/
def fnExactGrowRingWrong : ChangeSpec := { name := "fnExactGrowRing", fn := fun _ => fun
  | [d1, d2] => { results := [.lit (.bool false)], args := [d1, d2] }
  | _ => none }
def FnExactGrowRingWrongFalsely : Prop := fnExactGrowRingRow.holds Try.pinned (OpenSpec.ofChange fnExactGrowRingWrong)

/- THE SECOND FORM. 'bulk': how many values and letters a reading holds, each counted each time it is reached (what is shared counts as often as it is met; a slice's spare places count too). A statement '..UptoSaid' is the law's where the arguments, and the package variables that the reading takes, are together of bulk at most 1048576: NARROWER than '..Said'. Prove '..Said' where nothing that the law and all that it calls make is longer than what came in: it says more and counts as full. Else prove '..UptoSaid'. A law counts once. -/
mutual
def uptoBulk {H : Type} : DataW H → Nat
  | .lit (.string bytes) => bytes.length + 1
  | .lit _ => 1
  | .nil => 1
  | .ptr d => uptoBulk d + 1
  | .slice elems spare => uptoBulkAll elems + uptoBulkAll spare + 1
  | .agg parts => uptoBulkAll parts + 1
  | .iface _ d => uptoBulk d + 1
  | .map entries => uptoBulkEntries entries + 1
  | .held _ => 1
def uptoBulkAll {H : Type} : List (DataW H) → Nat
  | [] => 0
  | d :: r => uptoBulk d + uptoBulkAll r
def uptoBulkEntries {H : Type} : List (Lit × DataW H) → Nat
  | [] => 0
  | x :: r => uptoBulkEntry x + uptoBulkEntries r
def uptoBulkEntry {H : Type} : Lit × DataW H → Nat
  | (.string bytes, d) => bytes.length + uptoBulk d + 1
  | (_, d) => uptoBulk d + 1
 end
def uptoSmall : (H : Type) → List (DataW H) → Bool := fun _ ds => decide (uptoBulkAll ds ≤ 1048576)
def OpenSpec.upto (s : _root_.Go.ChangeSpec) : _root_.Go.OpenSpec := { _root_.Go.OpenSpec.ofChange s with cond := some uptoSmall }

/-- 'laws.FnExactLinkOk', WHERE WHAT IT READS IS OF BULK AT MOST 1048576: true; the input reads as it did. -/
def fnExactLinkOkUptoRow : OpenClaim := { program := "ytoeiadanmfajoaa", sum := "e03465260ec7be2ba7e51cbcb1299d9f95a303b2459fd22b295c74a51c416378", func := "loop.example/g00728/laws.FnExactLinkOk", spec := "fnExactLinkOk", apart := false, narrowed := true }
def FnExactLinkOkUptoSaid : Prop := fnExactLinkOkUptoRow.holds Try.pinned (OpenSpec.upto fnExactLinkOkSpec)

/-- 'laws.FnExactAllMarks', WHERE WHAT IT READS IS OF BULK AT MOST 1048576: true; the input reads as it did. -/
def fnExactAllMarksUptoRow : OpenClaim := { program := "ytoeiadanmfajoaa", sum := "e03465260ec7be2ba7e51cbcb1299d9f95a303b2459fd22b295c74a51c416378", func := "loop.example/g00728/laws.FnExactAllMarks", spec := "fnExactAllMarks", apart := false, narrowed := true }
def FnExactAllMarksUptoSaid : Prop := fnExactAllMarksUptoRow.holds Try.pinned (OpenSpec.upto fnExactAllMarksSpec)

/-- 'laws.FnExactNewShard', WHERE WHAT IT READS IS OF BULK AT MOST 1048576: true; the input reads as it did. -/
def fnExactNewShardUptoRow : OpenClaim := { program := "ytoeiadanmfajoaa", sum := "e03465260ec7be2ba7e51cbcb1299d9f95a303b2459fd22b295c74a51c416378", func := "loop.example/g00728/laws.FnExactNewShard", spec := "fnExactNewShard", apart := false, narrowed := true }
def FnExactNewShardUptoSaid : Prop := fnExactNewShardUptoRow.holds Try.pinned (OpenSpec.upto fnExactNewShardSpec)

/-- 'laws.FnExactFeedBytes', WHERE WHAT IT READS IS OF BULK AT MOST 1048576: true; the input reads as it did. -/
def fnExactFeedBytesUptoRow : OpenClaim := { program := "ytoeiadanmfajoaa", sum := "e03465260ec7be2ba7e51cbcb1299d9f95a303b2459fd22b295c74a51c416378", func := "loop.example/g00728/laws.FnExactFeedBytes", spec := "fnExactFeedBytes", apart := false, narrowed := true }
def FnExactFeedBytesUptoSaid : Prop := fnExactFeedBytesUptoRow.holds Try.pinned (OpenSpec.upto fnExactFeedBytesSpec)

/-- 'laws.FnExactListRing', WHERE WHAT IT READS IS OF BULK AT MOST 1048576: true; the input reads as it did. -/
def fnExactListRingUptoRow : OpenClaim := { program := "ytoeiadanmfajoaa", sum := "e03465260ec7be2ba7e51cbcb1299d9f95a303b2459fd22b295c74a51c416378", func := "loop.example/g00728/laws.FnExactListRing", spec := "fnExactListRing", apart := false, narrowed := true }
def FnExactListRingUptoSaid : Prop := fnExactListRingUptoRow.holds Try.pinned (OpenSpec.upto fnExactListRingSpec)

/-- 'laws.FnExactMergeAggs', WHERE WHAT IT READS IS OF BULK AT MOST 1048576: true; the input reads as it did. -/
def fnExactMergeAggsUptoRow : OpenClaim := { program := "ytoeiadanmfajoaa", sum := "e03465260ec7be2ba7e51cbcb1299d9f95a303b2459fd22b295c74a51c416378", func := "loop.example/g00728/laws.FnExactMergeAggs", spec := "fnExactMergeAggs", apart := false, narrowed := true }
def FnExactMergeAggsUptoSaid : Prop := fnExactMergeAggsUptoRow.holds Try.pinned (OpenSpec.upto fnExactMergeAggsSpec)

/-- 'laws.FnExactPushRing', WHERE WHAT IT READS IS OF BULK AT MOST 1048576: true; the input reads as it did. -/
def fnExactPushRingUptoRow : OpenClaim := { program := "ytoeiadanmfajoaa", sum := "e03465260ec7be2ba7e51cbcb1299d9f95a303b2459fd22b295c74a51c416378", func := "loop.example/g00728/laws.FnExactPushRing", spec := "fnExactPushRing", apart := false, narrowed := true }
def FnExactPushRingUptoSaid : Prop := fnExactPushRingUptoRow.holds Try.pinned (OpenSpec.upto fnExactPushRingSpec)

/-- 'laws.FnExactPopRing', WHERE WHAT IT READS IS OF BULK AT MOST 1048576: true; the input reads as it did. -/
def fnExactPopRingUptoRow : OpenClaim := { program := "ytoeiadanmfajoaa", sum := "e03465260ec7be2ba7e51cbcb1299d9f95a303b2459fd22b295c74a51c416378", func := "loop.example/g00728/laws.FnExactPopRing", spec := "fnExactPopRing", apart := false, narrowed := true }
def FnExactPopRingUptoSaid : Prop := fnExactPopRingUptoRow.holds Try.pinned (OpenSpec.upto fnExactPopRingSpec)

/-- 'laws.FnExactPutFrame', WHERE WHAT IT READS IS OF BULK AT MOST 1048576: true; the input reads as it did. -/
def fnExactPutFrameUptoRow : OpenClaim := { program := "ytoeiadanmfajoaa", sum := "e03465260ec7be2ba7e51cbcb1299d9f95a303b2459fd22b295c74a51c416378", func := "loop.example/g00728/laws.FnExactPutFrame", spec := "fnExactPutFrame", apart := false, narrowed := true }
def FnExactPutFrameUptoSaid : Prop := fnExactPutFrameUptoRow.holds Try.pinned (OpenSpec.upto fnExactPutFrameSpec)

/-- 'laws.FnExactShardOk', WHERE WHAT IT READS IS OF BULK AT MOST 1048576: true; the input reads as it did. -/
def fnExactShardOkUptoRow : OpenClaim := { program := "ytoeiadanmfajoaa", sum := "e03465260ec7be2ba7e51cbcb1299d9f95a303b2459fd22b295c74a51c416378", func := "loop.example/g00728/laws.FnExactShardOk", spec := "fnExactShardOk", unfollowed := true, recurses := true, apart := false, narrowed := true }
def FnExactShardOkUptoSaid : Prop := fnExactShardOkUptoRow.holds Try.pinned (OpenSpec.upto fnExactShardOkSpec)

/-- 'laws.FnExactGrowRing', WHERE WHAT IT READS IS OF BULK AT MOST 1048576: true; the input reads as it did. -/
def fnExactGrowRingUptoRow : OpenClaim := { program := "ytoeiadanmfajoaa", sum := "e03465260ec7be2ba7e51cbcb1299d9f95a303b2459fd22b295c74a51c416378", func := "loop.example/g00728/laws.FnExactGrowRing", spec := "fnExactGrowRing", apart := false, narrowed := true }
def FnExactGrowRingUptoSaid : Prop := fnExactGrowRingUptoRow.holds Try.pinned (OpenSpec.upto fnExactGrowRingSpec)

end Rows
end Go.Proofs.Ytoeiadanmfajoaa
