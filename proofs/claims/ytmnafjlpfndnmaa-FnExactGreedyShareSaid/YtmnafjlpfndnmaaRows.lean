/-
  No cell of these rows narrows 'for every input' (looked for: loops, veiled, ifaces, maps, wideKeys, modest, calm, conditions, laid).
  DERIVED. THE GIVEN ROWS OF THIS SEAT. 12 by the template 'for every input the law returns true; each argument reads behind the call as it read before'; 0 by the template 'total and deterministic' (their statements: YtmnafjlpfndnmaaTotals.lean).
  GIVEN WITH THE SEED: the statements are not yours to turn. If you find one false, say at which input.
  Laid BY PROGRAM, IN A SANDBOX (cutbox-rows.mjs): the forced cells as the released guide's own fill.sh prints them over the translation 7cfce47d92990f4b… (all of the seat's roots in one cut). By AI agents, Wed Nov 11 2026. No macro, syntax, notation, axiom, sorry.
-/
import Derived.Test.YtmnafjlpfndnmaaChecked
import GoSem.Claim
import GoSem.ClaimJoined
import GoSem.ClaimMapViews
import Derived.JoinedTies
import Derived.KernelRfl
namespace Go.Proofs.Ytmnafjlpfndnmaa
/- THE CELL 'sum', in the pinned program and in every row, IS THE sha256 OF THE DUMP (.gsa) THAT YtmnafjlpfndnmaaProg.lean LOADS. Nothing in Lean hashes anything: it is a label: what it is worth is what the hold of that sum in a sandbox is worth. -/
noncomputable def Try.pinned : Pinned := { name := "ytmnafjlpfndnmaa", sum := "7cfce47d92990f4b8f9e781f3b968b11776f84bd5743c5876cff25a9aac1a1ee", checked := Try.checked }
namespace Rows
def none {H : Type} : Left H := { results := [], args := [] }

/-- 'laws.FnExactAreRates': WHATEVER THE INPUT: true; the input reads as it did. -/
def fnExactAreRatesSpec : ChangeSpec := { name := "fnExactAreRates", fn := fun _ => fun
  | [d] => { results := [.lit (.bool true)], args := [d] }
  | _ => none }
def fnExactAreRatesRow : OpenClaim := { program := "ytmnafjlpfndnmaa", sum := "7cfce47d92990f4b8f9e781f3b968b11776f84bd5743c5876cff25a9aac1a1ee", func := "loop.example/g01373/laws.FnExactAreRates", spec := "fnExactAreRates", unfollowed := true, recurses := true, apart := false }
def FnExactAreRatesSaid : Prop := fnExactAreRatesRow.holds Try.pinned (OpenSpec.ofChange fnExactAreRatesSpec)

/-- ITS FALSE NEIGHBOUR: 'it returns false'. Refute it at one input. -/
def fnExactAreRatesWrong : ChangeSpec := { name := "fnExactAreRates", fn := fun _ => fun
  | [d] => { results := [.lit (.bool false)], args := [d] }
  | _ => none }
def FnExactAreRatesWrongFalsely : Prop := fnExactAreRatesRow.holds Try.pinned (OpenSpec.ofChange fnExactAreRatesWrong)

/-- 'laws.FnExactAreWidths': WHATEVER THE INPUT: true; the input reads as it did. -/
def fnExactAreWidthsSpec : ChangeSpec := { name := "fnExactAreWidths", fn := fun _ => fun
  | [d] => { results := [.lit (.bool true)], args := [d] }
  | _ => none }
def fnExactAreWidthsRow : OpenClaim := { program := "ytmnafjlpfndnmaa", sum := "7cfce47d92990f4b8f9e781f3b968b11776f84bd5743c5876cff25a9aac1a1ee", func := "loop.example/g01373/laws.FnExactAreWidths", spec := "fnExactAreWidths", unfollowed := true, recurses := true, apart := false }
def FnExactAreWidthsSaid : Prop := fnExactAreWidthsRow.holds Try.pinned (OpenSpec.ofChange fnExactAreWidthsSpec)

/-- ITS FALSE NEIGHBOUR: 'it returns false'. Refute it at one input. -/
def fnExactAreWidthsWrong : ChangeSpec := { name := "fnExactAreWidths", fn := fun _ => fun
  | [d] => { results := [.lit (.bool false)], args := [d] }
  | _ => none }
def FnExactAreWidthsWrongFalsely : Prop := fnExactAreWidthsRow.holds Try.pinned (OpenSpec.ofChange fnExactAreWidthsWrong)

/-- 'laws.FnExactIsShare': WHATEVER THE INPUT: true; the input reads as it did. -/
def fnExactIsShareSpec : ChangeSpec := { name := "fnExactIsShare", fn := fun _ => fun
  | [d1, d2, d3] => { results := [.lit (.bool true)], args := [d1, d2, d3] }
  | _ => none }
def fnExactIsShareRow : OpenClaim := { program := "ytmnafjlpfndnmaa", sum := "7cfce47d92990f4b8f9e781f3b968b11776f84bd5743c5876cff25a9aac1a1ee", func := "loop.example/g01373/laws.FnExactIsShare", spec := "fnExactIsShare", unfollowed := true, recurses := true, apart := false }
def FnExactIsShareSaid : Prop := fnExactIsShareRow.holds Try.pinned (OpenSpec.ofChange fnExactIsShareSpec)

/-- ITS FALSE NEIGHBOUR: 'it returns false'. Refute it at one input. -/
def fnExactIsShareWrong : ChangeSpec := { name := "fnExactIsShare", fn := fun _ => fun
  | [d1, d2, d3] => { results := [.lit (.bool false)], args := [d1, d2, d3] }
  | _ => none }
def FnExactIsShareWrongFalsely : Prop := fnExactIsShareRow.holds Try.pinned (OpenSpec.ofChange fnExactIsShareWrong)

/-- 'laws.FnExactMeetPlace': WHATEVER THE INPUT: true; the input reads as it did. -/
def fnExactMeetPlaceSpec : ChangeSpec := { name := "fnExactMeetPlace", fn := fun _ => fun
  | [d1, d2, d3] => { results := [.lit (.bool true)], args := [d1, d2, d3] }
  | _ => none }
def fnExactMeetPlaceRow : OpenClaim := { program := "ytmnafjlpfndnmaa", sum := "7cfce47d92990f4b8f9e781f3b968b11776f84bd5743c5876cff25a9aac1a1ee", func := "loop.example/g01373/laws.FnExactMeetPlace", spec := "fnExactMeetPlace", unfollowed := true, recurses := true, apart := false }
def FnExactMeetPlaceSaid : Prop := fnExactMeetPlaceRow.holds Try.pinned (OpenSpec.ofChange fnExactMeetPlaceSpec)

/-- ITS FALSE NEIGHBOUR: 'it returns false'. Refute it at one input. -/
def fnExactMeetPlaceWrong : ChangeSpec := { name := "fnExactMeetPlace", fn := fun _ => fun
  | [d1, d2, d3] => { results := [.lit (.bool false)], args := [d1, d2, d3] }
  | _ => none }
def FnExactMeetPlaceWrongFalsely : Prop := fnExactMeetPlaceRow.holds Try.pinned (OpenSpec.ofChange fnExactMeetPlaceWrong)

/-- 'laws.FnExactMeetTime': WHATEVER THE INPUT: true; the input reads as it did. -/
def fnExactMeetTimeSpec : ChangeSpec := { name := "fnExactMeetTime", fn := fun _ => fun
  | [d1, d2, d3] => { results := [.lit (.bool true)], args := [d1, d2, d3] }
  | _ => none }
def fnExactMeetTimeRow : OpenClaim := { program := "ytmnafjlpfndnmaa", sum := "7cfce47d92990f4b8f9e781f3b968b11776f84bd5743c5876cff25a9aac1a1ee", func := "loop.example/g01373/laws.FnExactMeetTime", spec := "fnExactMeetTime", unfollowed := true, recurses := true, apart := false }
def FnExactMeetTimeSaid : Prop := fnExactMeetTimeRow.holds Try.pinned (OpenSpec.ofChange fnExactMeetTimeSpec)

/-- ITS FALSE NEIGHBOUR: 'it returns false'. Refute it at one input. -/
def fnExactMeetTimeWrong : ChangeSpec := { name := "fnExactMeetTime", fn := fun _ => fun
  | [d1, d2, d3] => { results := [.lit (.bool false)], args := [d1, d2, d3] }
  | _ => none }
def FnExactMeetTimeWrongFalsely : Prop := fnExactMeetTimeRow.holds Try.pinned (OpenSpec.ofChange fnExactMeetTimeWrong)

/-- 'laws.FnExactPartOfPainter': WHATEVER THE INPUT: true; the input reads as it did. -/
def fnExactPartOfPainterSpec : ChangeSpec := { name := "fnExactPartOfPainter", fn := fun _ => fun
  | [d1, d2, d3] => { results := [.lit (.bool true)], args := [d1, d2, d3] }
  | _ => none }
def fnExactPartOfPainterRow : OpenClaim := { program := "ytmnafjlpfndnmaa", sum := "7cfce47d92990f4b8f9e781f3b968b11776f84bd5743c5876cff25a9aac1a1ee", func := "loop.example/g01373/laws.FnExactPartOfPainter", spec := "fnExactPartOfPainter", unfollowed := true, recurses := true, apart := false }
def FnExactPartOfPainterSaid : Prop := fnExactPartOfPainterRow.holds Try.pinned (OpenSpec.ofChange fnExactPartOfPainterSpec)

/-- ITS FALSE NEIGHBOUR: 'it returns false'. Refute it at one input. -/
def fnExactPartOfPainterWrong : ChangeSpec := { name := "fnExactPartOfPainter", fn := fun _ => fun
  | [d1, d2, d3] => { results := [.lit (.bool false)], args := [d1, d2, d3] }
  | _ => none }
def FnExactPartOfPainterWrongFalsely : Prop := fnExactPartOfPainterRow.holds Try.pinned (OpenSpec.ofChange fnExactPartOfPainterWrong)

/-- 'laws.FnExactTogetherTime': WHATEVER THE INPUT: true; the input reads as it did. -/
def fnExactTogetherTimeSpec : ChangeSpec := { name := "fnExactTogetherTime", fn := fun _ => fun
  | [d1, d2] => { results := [.lit (.bool true)], args := [d1, d2] }
  | _ => none }
def fnExactTogetherTimeRow : OpenClaim := { program := "ytmnafjlpfndnmaa", sum := "7cfce47d92990f4b8f9e781f3b968b11776f84bd5743c5876cff25a9aac1a1ee", func := "loop.example/g01373/laws.FnExactTogetherTime", spec := "fnExactTogetherTime", unfollowed := true, recurses := true, apart := false }
def FnExactTogetherTimeSaid : Prop := fnExactTogetherTimeRow.holds Try.pinned (OpenSpec.ofChange fnExactTogetherTimeSpec)

/-- ITS FALSE NEIGHBOUR: 'it returns false'. Refute it at one input. -/
def fnExactTogetherTimeWrong : ChangeSpec := { name := "fnExactTogetherTime", fn := fun _ => fun
  | [d1, d2] => { results := [.lit (.bool false)], args := [d1, d2] }
  | _ => none }
def FnExactTogetherTimeWrongFalsely : Prop := fnExactTogetherTimeRow.holds Try.pinned (OpenSpec.ofChange fnExactTogetherTimeWrong)

/-- 'laws.FnExactWorkOf': WHATEVER THE INPUT: true; the input reads as it did. -/
def fnExactWorkOfSpec : ChangeSpec := { name := "fnExactWorkOf", fn := fun _ => fun
  | [d1, d2, d3] => { results := [.lit (.bool true)], args := [d1, d2, d3] }
  | _ => none }
def fnExactWorkOfRow : OpenClaim := { program := "ytmnafjlpfndnmaa", sum := "7cfce47d92990f4b8f9e781f3b968b11776f84bd5743c5876cff25a9aac1a1ee", func := "loop.example/g01373/laws.FnExactWorkOf", spec := "fnExactWorkOf", unfollowed := true, recurses := true, apart := false }
def FnExactWorkOfSaid : Prop := fnExactWorkOfRow.holds Try.pinned (OpenSpec.ofChange fnExactWorkOfSpec)

/-- ITS FALSE NEIGHBOUR: 'it returns false'. Refute it at one input. -/
def fnExactWorkOfWrong : ChangeSpec := { name := "fnExactWorkOf", fn := fun _ => fun
  | [d1, d2, d3] => { results := [.lit (.bool false)], args := [d1, d2, d3] }
  | _ => none }
def FnExactWorkOfWrongFalsely : Prop := fnExactWorkOfRow.holds Try.pinned (OpenSpec.ofChange fnExactWorkOfWrong)

/-- 'laws.FnExactTimesOf': WHATEVER THE INPUT: true; the input reads as it did. -/
def fnExactTimesOfSpec : ChangeSpec := { name := "fnExactTimesOf", fn := fun _ => fun
  | [d1, d2, d3] => { results := [.lit (.bool true)], args := [d1, d2, d3] }
  | _ => none }
def fnExactTimesOfRow : OpenClaim := { program := "ytmnafjlpfndnmaa", sum := "7cfce47d92990f4b8f9e781f3b968b11776f84bd5743c5876cff25a9aac1a1ee", func := "loop.example/g01373/laws.FnExactTimesOf", spec := "fnExactTimesOf", unfollowed := true, recurses := true, apart := false }
def FnExactTimesOfSaid : Prop := fnExactTimesOfRow.holds Try.pinned (OpenSpec.ofChange fnExactTimesOfSpec)

/-- ITS FALSE NEIGHBOUR: 'it returns false'. Refute it at one input. -/
def fnExactTimesOfWrong : ChangeSpec := { name := "fnExactTimesOf", fn := fun _ => fun
  | [d1, d2, d3] => { results := [.lit (.bool false)], args := [d1, d2, d3] }
  | _ => none }
def FnExactTimesOfWrongFalsely : Prop := fnExactTimesOfRow.holds Try.pinned (OpenSpec.ofChange fnExactTimesOfWrong)

/-- 'laws.FnExactWidestBoards': WHATEVER THE INPUT: true; the input reads as it did. -/
def fnExactWidestBoardsSpec : ChangeSpec := { name := "fnExactWidestBoards", fn := fun _ => fun
  | [d] => { results := [.lit (.bool true)], args := [d] }
  | _ => none }
def fnExactWidestBoardsRow : OpenClaim := { program := "ytmnafjlpfndnmaa", sum := "7cfce47d92990f4b8f9e781f3b968b11776f84bd5743c5876cff25a9aac1a1ee", func := "loop.example/g01373/laws.FnExactWidestBoards", spec := "fnExactWidestBoards", unfollowed := true, recurses := true, apart := false }
def FnExactWidestBoardsSaid : Prop := fnExactWidestBoardsRow.holds Try.pinned (OpenSpec.ofChange fnExactWidestBoardsSpec)

/-- ITS FALSE NEIGHBOUR: 'it returns false'. Refute it at one input. -/
def fnExactWidestBoardsWrong : ChangeSpec := { name := "fnExactWidestBoards", fn := fun _ => fun
  | [d] => { results := [.lit (.bool false)], args := [d] }
  | _ => none }
def FnExactWidestBoardsWrongFalsely : Prop := fnExactWidestBoardsRow.holds Try.pinned (OpenSpec.ofChange fnExactWidestBoardsWrong)

/-- 'laws.FnExactFewestPainters': WHATEVER THE INPUT: true; the input reads as it did. -/
def fnExactFewestPaintersSpec : ChangeSpec := { name := "fnExactFewestPainters", fn := fun _ => fun
  | [d1, d2] => { results := [.lit (.bool true)], args := [d1, d2] }
  | _ => none }
def fnExactFewestPaintersRow : OpenClaim := { program := "ytmnafjlpfndnmaa", sum := "7cfce47d92990f4b8f9e781f3b968b11776f84bd5743c5876cff25a9aac1a1ee", func := "loop.example/g01373/laws.FnExactFewestPainters", spec := "fnExactFewestPainters", unfollowed := true, recurses := true, apart := false }
def FnExactFewestPaintersSaid : Prop := fnExactFewestPaintersRow.holds Try.pinned (OpenSpec.ofChange fnExactFewestPaintersSpec)

/-- ITS FALSE NEIGHBOUR: 'it returns false'. Refute it at one input. -/
def fnExactFewestPaintersWrong : ChangeSpec := { name := "fnExactFewestPainters", fn := fun _ => fun
  | [d1, d2] => { results := [.lit (.bool false)], args := [d1, d2] }
  | _ => none }
def FnExactFewestPaintersWrongFalsely : Prop := fnExactFewestPaintersRow.holds Try.pinned (OpenSpec.ofChange fnExactFewestPaintersWrong)

/-- 'laws.FnExactGreedyShare': WHATEVER THE INPUT: true; the input reads as it did. -/
def fnExactGreedyShareSpec : ChangeSpec := { name := "fnExactGreedyShare", fn := fun _ => fun
  | [d1, d2] => { results := [.lit (.bool true)], args := [d1, d2] }
  | _ => none }
def fnExactGreedyShareRow : OpenClaim := { program := "ytmnafjlpfndnmaa", sum := "7cfce47d92990f4b8f9e781f3b968b11776f84bd5743c5876cff25a9aac1a1ee", func := "loop.example/g01373/laws.FnExactGreedyShare", spec := "fnExactGreedyShare", unfollowed := true, recurses := true, apart := false }
def FnExactGreedyShareSaid : Prop := fnExactGreedyShareRow.holds Try.pinned (OpenSpec.ofChange fnExactGreedyShareSpec)

/-- ITS FALSE NEIGHBOUR: 'it returns false'. Refute it at one input. -/
def fnExactGreedyShareWrong : ChangeSpec := { name := "fnExactGreedyShare", fn := fun _ => fun
  | [d1, d2] => { results := [.lit (.bool false)], args := [d1, d2] }
  | _ => none }
def FnExactGreedyShareWrongFalsely : Prop := fnExactGreedyShareRow.holds Try.pinned (OpenSpec.ofChange fnExactGreedyShareWrong)

/- THE SECOND FORM. 'bulk': how many values and letters a reading holds, each counted each time it is reached (what is shared counts as often as it is met; a slice's spare places count too). A statement '..UptoSaid' is the law's where the arguments, and the package variables that the reading takes, are together of bulk at most 1048576: NARROWER than '..Said'. Prove '..Said' where nothing that the law and all that it calls make is longer than what came in: it says more and counts as full. Else prove '..UptoSaid'. A law counts once. -/
mutual
def uptoBulk {H : Type} : DataW H → Nat
  | .lit (.string bytes) => bytes.length + 1
  | .lit _ => 1
  | .nil => 1
  | .ptr d => uptoBulk d + 1
  | .slice elems spare => uptoBulkAll elems + uptoBulkAll spare + 1
  | .agg parts => uptoBulkAll parts + 1
  | .iface _ d => uptoBulk d + 1
  | .map entries => uptoBulkEntries entries + 1
  | .held _ => 1
def uptoBulkAll {H : Type} : List (DataW H) → Nat
  | [] => 0
  | d :: r => uptoBulk d + uptoBulkAll r
def uptoBulkEntries {H : Type} : List (Lit × DataW H) → Nat
  | [] => 0
  | x :: r => uptoBulkEntry x + uptoBulkEntries r
def uptoBulkEntry {H : Type} : Lit × DataW H → Nat
  | (.string bytes, d) => bytes.length + uptoBulk d + 1
  | (_, d) => uptoBulk d + 1
 end
def uptoSmall : (H : Type) → List (DataW H) → Bool := fun _ ds => decide (uptoBulkAll ds ≤ 1048576)
def OpenSpec.upto (s : _root_.Go.ChangeSpec) : _root_.Go.OpenSpec := { _root_.Go.OpenSpec.ofChange s with cond := some uptoSmall }

/-- 'laws.FnExactAreRates', WHERE WHAT IT READS IS OF BULK AT MOST 1048576: true; the input reads as it did. -/
def fnExactAreRatesUptoRow : OpenClaim := { program := "ytmnafjlpfndnmaa", sum := "7cfce47d92990f4b8f9e781f3b968b11776f84bd5743c5876cff25a9aac1a1ee", func := "loop.example/g01373/laws.FnExactAreRates", spec := "fnExactAreRates", unfollowed := true, recurses := true, apart := false, narrowed := true }
def FnExactAreRatesUptoSaid : Prop := fnExactAreRatesUptoRow.holds Try.pinned (OpenSpec.upto fnExactAreRatesSpec)

/-- 'laws.FnExactAreWidths', WHERE WHAT IT READS IS OF BULK AT MOST 1048576: true; the input reads as it did. -/
def fnExactAreWidthsUptoRow : OpenClaim := { program := "ytmnafjlpfndnmaa", sum := "7cfce47d92990f4b8f9e781f3b968b11776f84bd5743c5876cff25a9aac1a1ee", func := "loop.example/g01373/laws.FnExactAreWidths", spec := "fnExactAreWidths", unfollowed := true, recurses := true, apart := false, narrowed := true }
def FnExactAreWidthsUptoSaid : Prop := fnExactAreWidthsUptoRow.holds Try.pinned (OpenSpec.upto fnExactAreWidthsSpec)

/-- 'laws.FnExactIsShare', WHERE WHAT IT READS IS OF BULK AT MOST 1048576: true; the input reads as it did. -/
def fnExactIsShareUptoRow : OpenClaim := { program := "ytmnafjlpfndnmaa", sum := "7cfce47d92990f4b8f9e781f3b968b11776f84bd5743c5876cff25a9aac1a1ee", func := "loop.example/g01373/laws.FnExactIsShare", spec := "fnExactIsShare", unfollowed := true, recurses := true, apart := false, narrowed := true }
def FnExactIsShareUptoSaid : Prop := fnExactIsShareUptoRow.holds Try.pinned (OpenSpec.upto fnExactIsShareSpec)

/-- 'laws.FnExactMeetPlace', WHERE WHAT IT READS IS OF BULK AT MOST 1048576: true; the input reads as it did. -/
def fnExactMeetPlaceUptoRow : OpenClaim := { program := "ytmnafjlpfndnmaa", sum := "7cfce47d92990f4b8f9e781f3b968b11776f84bd5743c5876cff25a9aac1a1ee", func := "loop.example/g01373/laws.FnExactMeetPlace", spec := "fnExactMeetPlace", unfollowed := true, recurses := true, apart := false, narrowed := true }
def FnExactMeetPlaceUptoSaid : Prop := fnExactMeetPlaceUptoRow.holds Try.pinned (OpenSpec.upto fnExactMeetPlaceSpec)

/-- 'laws.FnExactMeetTime', WHERE WHAT IT READS IS OF BULK AT MOST 1048576: true; the input reads as it did. -/
def fnExactMeetTimeUptoRow : OpenClaim := { program := "ytmnafjlpfndnmaa", sum := "7cfce47d92990f4b8f9e781f3b968b11776f84bd5743c5876cff25a9aac1a1ee", func := "loop.example/g01373/laws.FnExactMeetTime", spec := "fnExactMeetTime", unfollowed := true, recurses := true, apart := false, narrowed := true }
def FnExactMeetTimeUptoSaid : Prop := fnExactMeetTimeUptoRow.holds Try.pinned (OpenSpec.upto fnExactMeetTimeSpec)

/-- 'laws.FnExactPartOfPainter', WHERE WHAT IT READS IS OF BULK AT MOST 1048576: true; the input reads as it did. -/
def fnExactPartOfPainterUptoRow : OpenClaim := { program := "ytmnafjlpfndnmaa", sum := "7cfce47d92990f4b8f9e781f3b968b11776f84bd5743c5876cff25a9aac1a1ee", func := "loop.example/g01373/laws.FnExactPartOfPainter", spec := "fnExactPartOfPainter", unfollowed := true, recurses := true, apart := false, narrowed := true }
def FnExactPartOfPainterUptoSaid : Prop := fnExactPartOfPainterUptoRow.holds Try.pinned (OpenSpec.upto fnExactPartOfPainterSpec)

/-- 'laws.FnExactTogetherTime', WHERE WHAT IT READS IS OF BULK AT MOST 1048576: true; the input reads as it did. -/
def fnExactTogetherTimeUptoRow : OpenClaim := { program := "ytmnafjlpfndnmaa", sum := "7cfce47d92990f4b8f9e781f3b968b11776f84bd5743c5876cff25a9aac1a1ee", func := "loop.example/g01373/laws.FnExactTogetherTime", spec := "fnExactTogetherTime", unfollowed := true, recurses := true, apart := false, narrowed := true }
def FnExactTogetherTimeUptoSaid : Prop := fnExactTogetherTimeUptoRow.holds Try.pinned (OpenSpec.upto fnExactTogetherTimeSpec)

/-- 'laws.FnExactWorkOf', WHERE WHAT IT READS IS OF BULK AT MOST 1048576: true; the input reads as it did. -/
def fnExactWorkOfUptoRow : OpenClaim := { program := "ytmnafjlpfndnmaa", sum := "7cfce47d92990f4b8f9e781f3b968b11776f84bd5743c5876cff25a9aac1a1ee", func := "loop.example/g01373/laws.FnExactWorkOf", spec := "fnExactWorkOf", unfollowed := true, recurses := true, apart := false, narrowed := true }
def FnExactWorkOfUptoSaid : Prop := fnExactWorkOfUptoRow.holds Try.pinned (OpenSpec.upto fnExactWorkOfSpec)

/-- 'laws.FnExactTimesOf', WHERE WHAT IT READS IS OF BULK AT MOST 1048576: true; the input reads as it did. -/
def fnExactTimesOfUptoRow : OpenClaim := { program := "ytmnafjlpfndnmaa", sum := "7cfce47d92990f4b8f9e781f3b968b11776f84bd5743c5876cff25a9aac1a1ee", func := "loop.example/g01373/laws.FnExactTimesOf", spec := "fnExactTimesOf", unfollowed := true, recurses := true, apart := false, narrowed := true }
def FnExactTimesOfUptoSaid : Prop := fnExactTimesOfUptoRow.holds Try.pinned (OpenSpec.upto fnExactTimesOfSpec)

/-- 'laws.FnExactWidestBoards', WHERE WHAT IT READS IS OF BULK AT MOST 1048576: true; the input reads as it did. -/
def fnExactWidestBoardsUptoRow : OpenClaim := { program := "ytmnafjlpfndnmaa", sum := "7cfce47d92990f4b8f9e781f3b968b11776f84bd5743c5876cff25a9aac1a1ee", func := "loop.example/g01373/laws.FnExactWidestBoards", spec := "fnExactWidestBoards", unfollowed := true, recurses := true, apart := false, narrowed := true }
def FnExactWidestBoardsUptoSaid : Prop := fnExactWidestBoardsUptoRow.holds Try.pinned (OpenSpec.upto fnExactWidestBoardsSpec)

/-- 'laws.FnExactFewestPainters', WHERE WHAT IT READS IS OF BULK AT MOST 1048576: true; the input reads as it did. -/
def fnExactFewestPaintersUptoRow : OpenClaim := { program := "ytmnafjlpfndnmaa", sum := "7cfce47d92990f4b8f9e781f3b968b11776f84bd5743c5876cff25a9aac1a1ee", func := "loop.example/g01373/laws.FnExactFewestPainters", spec := "fnExactFewestPainters", unfollowed := true, recurses := true, apart := false, narrowed := true }
def FnExactFewestPaintersUptoSaid : Prop := fnExactFewestPaintersUptoRow.holds Try.pinned (OpenSpec.upto fnExactFewestPaintersSpec)

/-- 'laws.FnExactGreedyShare', WHERE WHAT IT READS IS OF BULK AT MOST 1048576: true; the input reads as it did. -/
def fnExactGreedyShareUptoRow : OpenClaim := { program := "ytmnafjlpfndnmaa", sum := "7cfce47d92990f4b8f9e781f3b968b11776f84bd5743c5876cff25a9aac1a1ee", func := "loop.example/g01373/laws.FnExactGreedyShare", spec := "fnExactGreedyShare", unfollowed := true, recurses := true, apart := false, narrowed := true }
def FnExactGreedyShareUptoSaid : Prop := fnExactGreedyShareUptoRow.holds Try.pinned (OpenSpec.upto fnExactGreedyShareSpec)

end Rows
end Go.Proofs.Ytmnafjlpfndnmaa
