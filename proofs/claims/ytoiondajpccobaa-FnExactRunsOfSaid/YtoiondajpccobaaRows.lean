/-
  No cell of these rows narrows 'for every input' (looked for: loops, veiled, ifaces, maps, wideKeys, modest, calm, conditions, laid).
  DERIVED. THE GIVEN ROWS OF THIS SEAT. 12 by the template 'for every input the law returns true; each argument reads behind the call as it read before'; 0 by the template 'total and deterministic' (their statements: YtoiondajpccobaaTotals.lean).
  GIVEN WITH THE SEED: the statements are not yours to turn. If you find one false, say at which input.
  Laid BY PROGRAM, IN A SANDBOX (cutbox-rows.mjs): the forced cells as the released guide's own fill.sh prints them over the translation fbac5725115f8138… (all of the seat's roots in one cut). By AI agents, Wed Nov 11 2026. No macro, syntax, notation, axiom, sorry.
-/
import Derived.Test.YtoiondajpccobaaChecked
import GoSem.Claim
import GoSem.ClaimJoined
import GoSem.ClaimMapViews
import Derived.JoinedTies
import Derived.KernelRfl
namespace Go.Proofs.Ytoiondajpccobaa
/- THE CELL 'sum', in the pinned program and in every row, IS THE sha256 OF THE DUMP (.gsa) THAT YtoiondajpccobaaProg.lean LOADS. Nothing in Lean hashes anything: it is a label: what it is worth is what the hold of that sum in a sandbox is worth. -/
noncomputable def Try.pinned : Pinned := { name := "ytoiondajpccobaa", sum := "fbac5725115f8138951aa6a11f646229ea72987fe2ee9a300ac3d90b23324ecb", checked := Try.checked }
namespace Rows
def none {H : Type} : Left H := { results := [], args := [] }

/-- 'laws.FnExactIsFence': WHATEVER THE INPUT: true; the input reads as it did. -/
def fnExactIsFenceSpec : ChangeSpec := { name := "fnExactIsFence", fn := fun _ => fun
  | [d] => { results := [.lit (.bool true)], args := [d] }
  | _ => none }
def fnExactIsFenceRow : OpenClaim := { program := "ytoiondajpccobaa", sum := "fbac5725115f8138951aa6a11f646229ea72987fe2ee9a300ac3d90b23324ecb", func := "loop.example/g01373/laws.FnExactIsFence", spec := "fnExactIsFence", inPlace := ["internal/bytealg.IndexByteString"], unfollowed := true, recurses := true, apart := false }
def FnExactIsFenceSaid : Prop := fnExactIsFenceRow.holds Try.pinned (OpenSpec.ofChange fnExactIsFenceSpec)

/-- ITS FALSE NEIGHBOUR: 'it returns false'. Refute it at one input. -/
def fnExactIsFenceWrong : ChangeSpec := { name := "fnExactIsFence", fn := fun _ => fun
  | [d] => { results := [.lit (.bool false)], args := [d] }
  | _ => none }
def FnExactIsFenceWrongFalsely : Prop := fnExactIsFenceRow.holds Try.pinned (OpenSpec.ofChange fnExactIsFenceWrong)

/-- 'laws.FnExactJoinFences': WHATEVER THE INPUT: true; the input reads as it did. -/
def fnExactJoinFencesSpec : ChangeSpec := { name := "fnExactJoinFences", fn := fun _ => fun
  | [d1, d2] => { results := [.lit (.bool true)], args := [d1, d2] }
  | _ => none }
def fnExactJoinFencesRow : OpenClaim := { program := "ytoiondajpccobaa", sum := "fbac5725115f8138951aa6a11f646229ea72987fe2ee9a300ac3d90b23324ecb", func := "loop.example/g01373/laws.FnExactJoinFences", spec := "fnExactJoinFences", inPlace := ["internal/bytealg.IndexByteString"], unfollowed := true, recurses := true, apart := false }
def FnExactJoinFencesSaid : Prop := fnExactJoinFencesRow.holds Try.pinned (OpenSpec.ofChange fnExactJoinFencesSpec)

/-- ITS FALSE NEIGHBOUR: 'it returns false'. Refute it at one input. -/
def fnExactJoinFencesWrong : ChangeSpec := { name := "fnExactJoinFences", fn := fun _ => fun
  | [d1, d2] => { results := [.lit (.bool false)], args := [d1, d2] }
  | _ => none }
def FnExactJoinFencesWrongFalsely : Prop := fnExactJoinFencesRow.holds Try.pinned (OpenSpec.ofChange fnExactJoinFencesWrong)

/-- 'laws.FnExactMirrorFence': WHATEVER THE INPUT: true; the input reads as it did. -/
def fnExactMirrorFenceSpec : ChangeSpec := { name := "fnExactMirrorFence", fn := fun _ => fun
  | [d] => { results := [.lit (.bool true)], args := [d] }
  | _ => none }
def fnExactMirrorFenceRow : OpenClaim := { program := "ytoiondajpccobaa", sum := "fbac5725115f8138951aa6a11f646229ea72987fe2ee9a300ac3d90b23324ecb", func := "loop.example/g01373/laws.FnExactMirrorFence", spec := "fnExactMirrorFence", inPlace := ["internal/bytealg.IndexByteString"], unfollowed := true, recurses := true, apart := false }
def FnExactMirrorFenceSaid : Prop := fnExactMirrorFenceRow.holds Try.pinned (OpenSpec.ofChange fnExactMirrorFenceSpec)

/-- ITS FALSE NEIGHBOUR: 'it returns false'. Refute it at one input. -/
def fnExactMirrorFenceWrong : ChangeSpec := { name := "fnExactMirrorFence", fn := fun _ => fun
  | [d] => { results := [.lit (.bool false)], args := [d] }
  | _ => none }
def FnExactMirrorFenceWrongFalsely : Prop := fnExactMirrorFenceRow.holds Try.pinned (OpenSpec.ofChange fnExactMirrorFenceWrong)

/-- 'laws.FnExactCountRuns': WHATEVER THE INPUT: true; the input reads as it did. -/
def fnExactCountRunsSpec : ChangeSpec := { name := "fnExactCountRuns", fn := fun _ => fun
  | [d] => { results := [.lit (.bool true)], args := [d] }
  | _ => none }
def fnExactCountRunsRow : OpenClaim := { program := "ytoiondajpccobaa", sum := "fbac5725115f8138951aa6a11f646229ea72987fe2ee9a300ac3d90b23324ecb", func := "loop.example/g01373/laws.FnExactCountRuns", spec := "fnExactCountRuns", inPlace := ["internal/bytealg.IndexByteString"], unfollowed := true, recurses := true, apart := false }
def FnExactCountRunsSaid : Prop := fnExactCountRunsRow.holds Try.pinned (OpenSpec.ofChange fnExactCountRunsSpec)

/-- ITS FALSE NEIGHBOUR: 'it returns false'. Refute it at one input. -/
def fnExactCountRunsWrong : ChangeSpec := { name := "fnExactCountRuns", fn := fun _ => fun
  | [d] => { results := [.lit (.bool false)], args := [d] }
  | _ => none }
def FnExactCountRunsWrongFalsely : Prop := fnExactCountRunsRow.holds Try.pinned (OpenSpec.ofChange fnExactCountRunsWrong)

/-- 'laws.FnExactLongestRun': WHATEVER THE INPUT: true; the input reads as it did. -/
def fnExactLongestRunSpec : ChangeSpec := { name := "fnExactLongestRun", fn := fun _ => fun
  | [d] => { results := [.lit (.bool true)], args := [d] }
  | _ => none }
def fnExactLongestRunRow : OpenClaim := { program := "ytoiondajpccobaa", sum := "fbac5725115f8138951aa6a11f646229ea72987fe2ee9a300ac3d90b23324ecb", func := "loop.example/g01373/laws.FnExactLongestRun", spec := "fnExactLongestRun", inPlace := ["internal/bytealg.IndexByteString"], unfollowed := true, recurses := true, apart := false }
def FnExactLongestRunSaid : Prop := fnExactLongestRunRow.holds Try.pinned (OpenSpec.ofChange fnExactLongestRunSpec)

/-- ITS FALSE NEIGHBOUR: 'it returns false'. Refute it at one input. -/
def fnExactLongestRunWrong : ChangeSpec := { name := "fnExactLongestRun", fn := fun _ => fun
  | [d] => { results := [.lit (.bool false)], args := [d] }
  | _ => none }
def FnExactLongestRunWrongFalsely : Prop := fnExactLongestRunRow.holds Try.pinned (OpenSpec.ofChange fnExactLongestRunWrong)

/-- 'laws.FnExactColoursOf': WHATEVER THE INPUT: true; the input reads as it did. -/
def fnExactColoursOfSpec : ChangeSpec := { name := "fnExactColoursOf", fn := fun _ => fun
  | [d] => { results := [.lit (.bool true)], args := [d] }
  | _ => none }
def fnExactColoursOfRow : OpenClaim := { program := "ytoiondajpccobaa", sum := "fbac5725115f8138951aa6a11f646229ea72987fe2ee9a300ac3d90b23324ecb", func := "loop.example/g01373/laws.FnExactColoursOf", spec := "fnExactColoursOf", inPlace := ["internal/bytealg.IndexByteString", "internal/bytealg.IndexString"], unfollowed := true, recurses := true, named := ["internal/bytealg.MaxLen"], apart := false }
def FnExactColoursOfSaid : Prop := fnExactColoursOfRow.holds Try.pinned (OpenSpec.ofChange fnExactColoursOfSpec)

/-- ITS FALSE NEIGHBOUR: 'it returns false'. Refute it at one input. -/
def fnExactColoursOfWrong : ChangeSpec := { name := "fnExactColoursOf", fn := fun _ => fun
  | [d] => { results := [.lit (.bool false)], args := [d] }
  | _ => none }
def FnExactColoursOfWrongFalsely : Prop := fnExactColoursOfRow.holds Try.pinned (OpenSpec.ofChange fnExactColoursOfWrong)

/-- 'laws.FnExactBareFence': WHATEVER THE INPUT: true; the input reads as it did. -/
def fnExactBareFenceSpec : ChangeSpec := { name := "fnExactBareFence", fn := fun _ => fun
  | [d] => { results := [.lit (.bool true)], args := [d] }
  | _ => none }
def fnExactBareFenceRow : OpenClaim := { program := "ytoiondajpccobaa", sum := "fbac5725115f8138951aa6a11f646229ea72987fe2ee9a300ac3d90b23324ecb", func := "loop.example/g01373/laws.FnExactBareFence", spec := "fnExactBareFence", inPlace := ["internal/abi.NoEscape", "internal/bytealg.MakeNoZero"], apart := false }
def FnExactBareFenceSaid : Prop := fnExactBareFenceRow.holds Try.pinned (OpenSpec.ofChange fnExactBareFenceSpec)

/-- ITS FALSE NEIGHBOUR: 'it returns false'. Refute it at one input. -/
def fnExactBareFenceWrong : ChangeSpec := { name := "fnExactBareFence", fn := fun _ => fun
  | [d] => { results := [.lit (.bool false)], args := [d] }
  | _ => none }
def FnExactBareFenceWrongFalsely : Prop := fnExactBareFenceRow.holds Try.pinned (OpenSpec.ofChange fnExactBareFenceWrong)

/-- 'laws.FnExactRunsOf': WHATEVER THE INPUT: true; the input reads as it did. -/
def fnExactRunsOfSpec : ChangeSpec := { name := "fnExactRunsOf", fn := fun _ => fun
  | [d] => { results := [.lit (.bool true)], args := [d] }
  | _ => none }
def fnExactRunsOfRow : OpenClaim := { program := "ytoiondajpccobaa", sum := "fbac5725115f8138951aa6a11f646229ea72987fe2ee9a300ac3d90b23324ecb", func := "loop.example/g01373/laws.FnExactRunsOf", spec := "fnExactRunsOf", inPlace := ["internal/bytealg.IndexByteString"], unfollowed := true, recurses := true, apart := false }
def FnExactRunsOfSaid : Prop := fnExactRunsOfRow.holds Try.pinned (OpenSpec.ofChange fnExactRunsOfSpec)

/-- ITS FALSE NEIGHBOUR: 'it returns false'. Refute it at one input. -/
def fnExactRunsOfWrong : ChangeSpec := { name := "fnExactRunsOf", fn := fun _ => fun
  | [d] => { results := [.lit (.bool false)], args := [d] }
  | _ => none }
def FnExactRunsOfWrongFalsely : Prop := fnExactRunsOfRow.holds Try.pinned (OpenSpec.ofChange fnExactRunsOfWrong)

/-- 'laws.FnExactFewestOver': WHATEVER THE INPUT: true; the input reads as it did. -/
def fnExactFewestOverSpec : ChangeSpec := { name := "fnExactFewestOver", fn := fun _ => fun
  | [d1, d2] => { results := [.lit (.bool true)], args := [d1, d2] }
  | _ => none }
def fnExactFewestOverRow : OpenClaim := { program := "ytoiondajpccobaa", sum := "fbac5725115f8138951aa6a11f646229ea72987fe2ee9a300ac3d90b23324ecb", func := "loop.example/g01373/laws.FnExactFewestOver", spec := "fnExactFewestOver", inPlace := ["internal/bytealg.IndexByteString"], unfollowed := true, recurses := true, apart := false }
def FnExactFewestOverSaid : Prop := fnExactFewestOverRow.holds Try.pinned (OpenSpec.ofChange fnExactFewestOverSpec)

/-- ITS FALSE NEIGHBOUR: 'it returns false'. Refute it at one input. -/
def fnExactFewestOverWrong : ChangeSpec := { name := "fnExactFewestOver", fn := fun _ => fun
  | [d1, d2] => { results := [.lit (.bool false)], args := [d1, d2] }
  | _ => none }
def FnExactFewestOverWrongFalsely : Prop := fnExactFewestOverRow.holds Try.pinned (OpenSpec.ofChange fnExactFewestOverWrong)

/-- 'laws.FnExactFewestStrokes': WHATEVER THE INPUT: true; the input reads as it did. -/
def fnExactFewestStrokesSpec : ChangeSpec := { name := "fnExactFewestStrokes", fn := fun _ => fun
  | [d] => { results := [.lit (.bool true)], args := [d] }
  | _ => none }
def fnExactFewestStrokesRow : OpenClaim := { program := "ytoiondajpccobaa", sum := "fbac5725115f8138951aa6a11f646229ea72987fe2ee9a300ac3d90b23324ecb", func := "loop.example/g01373/laws.FnExactFewestStrokes", spec := "fnExactFewestStrokes", inPlace := ["internal/bytealg.IndexByteString", "internal/abi.NoEscape", "internal/bytealg.MakeNoZero"], unfollowed := true, recurses := true, apart := false }
def FnExactFewestStrokesSaid : Prop := fnExactFewestStrokesRow.holds Try.pinned (OpenSpec.ofChange fnExactFewestStrokesSpec)

/-- ITS FALSE NEIGHBOUR: 'it returns false'. Refute it at one input. -/
def fnExactFewestStrokesWrong : ChangeSpec := { name := "fnExactFewestStrokes", fn := fun _ => fun
  | [d] => { results := [.lit (.bool false)], args := [d] }
  | _ => none }
def FnExactFewestStrokesWrongFalsely : Prop := fnExactFewestStrokesRow.holds Try.pinned (OpenSpec.ofChange fnExactFewestStrokesWrong)

/-- 'laws.FnExactFirstOver': WHATEVER THE INPUT: true; the input reads as it did. -/
def fnExactFirstOverSpec : ChangeSpec := { name := "fnExactFirstOver", fn := fun _ => fun
  | [d1, d2] => { results := [.lit (.bool true)], args := [d1, d2] }
  | _ => none }
def fnExactFirstOverRow : OpenClaim := { program := "ytoiondajpccobaa", sum := "fbac5725115f8138951aa6a11f646229ea72987fe2ee9a300ac3d90b23324ecb", func := "loop.example/g01373/laws.FnExactFirstOver", spec := "fnExactFirstOver", inPlace := ["internal/bytealg.IndexByteString", "internal/abi.NoEscape", "internal/bytealg.MakeNoZero"], unfollowed := true, recurses := true, apart := false }
def FnExactFirstOverSaid : Prop := fnExactFirstOverRow.holds Try.pinned (OpenSpec.ofChange fnExactFirstOverSpec)

/-- ITS FALSE NEIGHBOUR: 'it returns false'. Refute it at one input. -/
def fnExactFirstOverWrong : ChangeSpec := { name := "fnExactFirstOver", fn := fun _ => fun
  | [d1, d2] => { results := [.lit (.bool false)], args := [d1, d2] }
  | _ => none }
def FnExactFirstOverWrongFalsely : Prop := fnExactFirstOverRow.holds Try.pinned (OpenSpec.ofChange fnExactFirstOverWrong)

/-- 'laws.FnExactKeptBoards': WHATEVER THE INPUT: true; the input reads as it did. -/
def fnExactKeptBoardsSpec : ChangeSpec := { name := "fnExactKeptBoards", fn := fun _ => fun
  | [d1, d2] => { results := [.lit (.bool true)], args := [d1, d2] }
  | _ => none }
def fnExactKeptBoardsRow : OpenClaim := { program := "ytoiondajpccobaa", sum := "fbac5725115f8138951aa6a11f646229ea72987fe2ee9a300ac3d90b23324ecb", func := "loop.example/g01373/laws.FnExactKeptBoards", spec := "fnExactKeptBoards", inPlace := ["internal/bytealg.IndexByteString", "internal/abi.NoEscape", "internal/bytealg.MakeNoZero"], unfollowed := true, recurses := true, apart := false }
def FnExactKeptBoardsSaid : Prop := fnExactKeptBoardsRow.holds Try.pinned (OpenSpec.ofChange fnExactKeptBoardsSpec)

/-- ITS FALSE NEIGHBOUR: 'it returns false'. Refute it at one input. -/
def fnExactKeptBoardsWrong : ChangeSpec := { name := "fnExactKeptBoards", fn := fun _ => fun
  | [d1, d2] => { results := [.lit (.bool false)], args := [d1, d2] }
  | _ => none }
def FnExactKeptBoardsWrongFalsely : Prop := fnExactKeptBoardsRow.holds Try.pinned (OpenSpec.ofChange fnExactKeptBoardsWrong)

/- THE SECOND FORM. 'bulk': how many values and letters a reading holds, each counted each time it is reached (what is shared counts as often as it is met; a slice's spare places count too). A statement '..UptoSaid' is the law's where the arguments, and the package variables that the reading takes, are together of bulk at most 1048576: NARROWER than '..Said'. Prove '..Said' where nothing that the law and all that it calls make is longer than what came in: it says more and counts as full. Else prove '..UptoSaid'. A law counts once. -/
mutual
def uptoBulk {H : Type} : DataW H → Nat
  | .lit (.string bytes) => bytes.length + 1
  | .lit _ => 1
  | .nil => 1
  | .ptr d => uptoBulk d + 1
  | .slice elems spare => uptoBulkAll elems + uptoBulkAll spare + 1
  | .agg parts => uptoBulkAll parts + 1
  | .iface _ d => uptoBulk d + 1
  | .map entries => uptoBulkEntries entries + 1
  | .held _ => 1
def uptoBulkAll {H : Type} : List (DataW H) → Nat
  | [] => 0
  | d :: r => uptoBulk d + uptoBulkAll r
def uptoBulkEntries {H : Type} : List (Lit × DataW H) → Nat
  | [] => 0
  | x :: r => uptoBulkEntry x + uptoBulkEntries r
def uptoBulkEntry {H : Type} : Lit × DataW H → Nat
  | (.string bytes, d) => bytes.length + uptoBulk d + 1
  | (_, d) => uptoBulk d + 1
 end
def uptoSmall : (H : Type) → List (DataW H) → Bool := fun _ ds => decide (uptoBulkAll ds ≤ 1048576)
def OpenSpec.upto (s : _root_.Go.ChangeSpec) : _root_.Go.OpenSpec := { _root_.Go.OpenSpec.ofChange s with cond := some uptoSmall }

/-- 'laws.FnExactIsFence', WHERE WHAT IT READS IS OF BULK AT MOST 1048576: true; the input reads as it did. -/
def fnExactIsFenceUptoRow : OpenClaim := { program := "ytoiondajpccobaa", sum := "fbac5725115f8138951aa6a11f646229ea72987fe2ee9a300ac3d90b23324ecb", func := "loop.example/g01373/laws.FnExactIsFence", spec := "fnExactIsFence", inPlace := ["internal/bytealg.IndexByteString"], unfollowed := true, recurses := true, apart := false, narrowed := true }
def FnExactIsFenceUptoSaid : Prop := fnExactIsFenceUptoRow.holds Try.pinned (OpenSpec.upto fnExactIsFenceSpec)

/-- 'laws.FnExactJoinFences', WHERE WHAT IT READS IS OF BULK AT MOST 1048576: true; the input reads as it did. -/
def fnExactJoinFencesUptoRow : OpenClaim := { program := "ytoiondajpccobaa", sum := "fbac5725115f8138951aa6a11f646229ea72987fe2ee9a300ac3d90b23324ecb", func := "loop.example/g01373/laws.FnExactJoinFences", spec := "fnExactJoinFences", inPlace := ["internal/bytealg.IndexByteString"], unfollowed := true, recurses := true, apart := false, narrowed := true }
def FnExactJoinFencesUptoSaid : Prop := fnExactJoinFencesUptoRow.holds Try.pinned (OpenSpec.upto fnExactJoinFencesSpec)

/-- 'laws.FnExactMirrorFence', WHERE WHAT IT READS IS OF BULK AT MOST 1048576: true; the input reads as it did. -/
def fnExactMirrorFenceUptoRow : OpenClaim := { program := "ytoiondajpccobaa", sum := "fbac5725115f8138951aa6a11f646229ea72987fe2ee9a300ac3d90b23324ecb", func := "loop.example/g01373/laws.FnExactMirrorFence", spec := "fnExactMirrorFence", inPlace := ["internal/bytealg.IndexByteString"], unfollowed := true, recurses := true, apart := false, narrowed := true }
def FnExactMirrorFenceUptoSaid : Prop := fnExactMirrorFenceUptoRow.holds Try.pinned (OpenSpec.upto fnExactMirrorFenceSpec)

/-- 'laws.FnExactCountRuns', WHERE WHAT IT READS IS OF BULK AT MOST 1048576: true; the input reads as it did. -/
def fnExactCountRunsUptoRow : OpenClaim := { program := "ytoiondajpccobaa", sum := "fbac5725115f8138951aa6a11f646229ea72987fe2ee9a300ac3d90b23324ecb", func := "loop.example/g01373/laws.FnExactCountRuns", spec := "fnExactCountRuns", inPlace := ["internal/bytealg.IndexByteString"], unfollowed := true, recurses := true, apart := false, narrowed := true }
def FnExactCountRunsUptoSaid : Prop := fnExactCountRunsUptoRow.holds Try.pinned (OpenSpec.upto fnExactCountRunsSpec)

/-- 'laws.FnExactLongestRun', WHERE WHAT IT READS IS OF BULK AT MOST 1048576: true; the input reads as it did. -/
def fnExactLongestRunUptoRow : OpenClaim := { program := "ytoiondajpccobaa", sum := "fbac5725115f8138951aa6a11f646229ea72987fe2ee9a300ac3d90b23324ecb", func := "loop.example/g01373/laws.FnExactLongestRun", spec := "fnExactLongestRun", inPlace := ["internal/bytealg.IndexByteString"], unfollowed := true, recurses := true, apart := false, narrowed := true }
def FnExactLongestRunUptoSaid : Prop := fnExactLongestRunUptoRow.holds Try.pinned (OpenSpec.upto fnExactLongestRunSpec)

/-- 'laws.FnExactColoursOf', WHERE WHAT IT READS IS OF BULK AT MOST 1048576: true; the input reads as it did. -/
def fnExactColoursOfUptoRow : OpenClaim := { program := "ytoiondajpccobaa", sum := "fbac5725115f8138951aa6a11f646229ea72987fe2ee9a300ac3d90b23324ecb", func := "loop.example/g01373/laws.FnExactColoursOf", spec := "fnExactColoursOf", inPlace := ["internal/bytealg.IndexByteString", "internal/bytealg.IndexString"], unfollowed := true, recurses := true, named := ["internal/bytealg.MaxLen"], apart := false, narrowed := true }
def FnExactColoursOfUptoSaid : Prop := fnExactColoursOfUptoRow.holds Try.pinned (OpenSpec.upto fnExactColoursOfSpec)

/-- 'laws.FnExactBareFence', WHERE WHAT IT READS IS OF BULK AT MOST 1048576: true; the input reads as it did. -/
def fnExactBareFenceUptoRow : OpenClaim := { program := "ytoiondajpccobaa", sum := "fbac5725115f8138951aa6a11f646229ea72987fe2ee9a300ac3d90b23324ecb", func := "loop.example/g01373/laws.FnExactBareFence", spec := "fnExactBareFence", inPlace := ["internal/abi.NoEscape", "internal/bytealg.MakeNoZero"], apart := false, narrowed := true }
def FnExactBareFenceUptoSaid : Prop := fnExactBareFenceUptoRow.holds Try.pinned (OpenSpec.upto fnExactBareFenceSpec)

/-- 'laws.FnExactRunsOf', WHERE WHAT IT READS IS OF BULK AT MOST 1048576: true; the input reads as it did. -/
def fnExactRunsOfUptoRow : OpenClaim := { program := "ytoiondajpccobaa", sum := "fbac5725115f8138951aa6a11f646229ea72987fe2ee9a300ac3d90b23324ecb", func := "loop.example/g01373/laws.FnExactRunsOf", spec := "fnExactRunsOf", inPlace := ["internal/bytealg.IndexByteString"], unfollowed := true, recurses := true, apart := false, narrowed := true }
def FnExactRunsOfUptoSaid : Prop := fnExactRunsOfUptoRow.holds Try.pinned (OpenSpec.upto fnExactRunsOfSpec)

/-- 'laws.FnExactFewestOver', WHERE WHAT IT READS IS OF BULK AT MOST 1048576: true; the input reads as it did. -/
def fnExactFewestOverUptoRow : OpenClaim := { program := "ytoiondajpccobaa", sum := "fbac5725115f8138951aa6a11f646229ea72987fe2ee9a300ac3d90b23324ecb", func := "loop.example/g01373/laws.FnExactFewestOver", spec := "fnExactFewestOver", inPlace := ["internal/bytealg.IndexByteString"], unfollowed := true, recurses := true, apart := false, narrowed := true }
def FnExactFewestOverUptoSaid : Prop := fnExactFewestOverUptoRow.holds Try.pinned (OpenSpec.upto fnExactFewestOverSpec)

/-- 'laws.FnExactFewestStrokes', WHERE WHAT IT READS IS OF BULK AT MOST 1048576: true; the input reads as it did. -/
def fnExactFewestStrokesUptoRow : OpenClaim := { program := "ytoiondajpccobaa", sum := "fbac5725115f8138951aa6a11f646229ea72987fe2ee9a300ac3d90b23324ecb", func := "loop.example/g01373/laws.FnExactFewestStrokes", spec := "fnExactFewestStrokes", inPlace := ["internal/bytealg.IndexByteString", "internal/abi.NoEscape", "internal/bytealg.MakeNoZero"], unfollowed := true, recurses := true, apart := false, narrowed := true }
def FnExactFewestStrokesUptoSaid : Prop := fnExactFewestStrokesUptoRow.holds Try.pinned (OpenSpec.upto fnExactFewestStrokesSpec)

/-- 'laws.FnExactFirstOver', WHERE WHAT IT READS IS OF BULK AT MOST 1048576: true; the input reads as it did. -/
def fnExactFirstOverUptoRow : OpenClaim := { program := "ytoiondajpccobaa", sum := "fbac5725115f8138951aa6a11f646229ea72987fe2ee9a300ac3d90b23324ecb", func := "loop.example/g01373/laws.FnExactFirstOver", spec := "fnExactFirstOver", inPlace := ["internal/bytealg.IndexByteString", "internal/abi.NoEscape", "internal/bytealg.MakeNoZero"], unfollowed := true, recurses := true, apart := false, narrowed := true }
def FnExactFirstOverUptoSaid : Prop := fnExactFirstOverUptoRow.holds Try.pinned (OpenSpec.upto fnExactFirstOverSpec)

/-- 'laws.FnExactKeptBoards', WHERE WHAT IT READS IS OF BULK AT MOST 1048576: true; the input reads as it did. -/
def fnExactKeptBoardsUptoRow : OpenClaim := { program := "ytoiondajpccobaa", sum := "fbac5725115f8138951aa6a11f646229ea72987fe2ee9a300ac3d90b23324ecb", func := "loop.example/g01373/laws.FnExactKeptBoards", spec := "fnExactKeptBoards", inPlace := ["internal/bytealg.IndexByteString", "internal/abi.NoEscape", "internal/bytealg.MakeNoZero"], unfollowed := true, recurses := true, apart := false, narrowed := true }
def FnExactKeptBoardsUptoSaid : Prop := fnExactKeptBoardsUptoRow.holds Try.pinned (OpenSpec.upto fnExactKeptBoardsSpec)

end Rows
end Go.Proofs.Ytoiondajpccobaa
