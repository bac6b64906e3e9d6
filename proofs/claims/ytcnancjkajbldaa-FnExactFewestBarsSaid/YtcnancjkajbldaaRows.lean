/-
  No cell of these rows narrows 'for every input' (looked for: loops, veiled, ifaces, maps, wideKeys, modest, calm, conditions, laid).
  DERIVED. THE GIVEN ROWS OF THIS SEAT. 8 by the template 'for every input the law returns true; each argument reads behind the call as it read before'; 0 by the template 'total and deterministic' (their statements: YtcnancjkajbldaaTotals.lean).
  GIVEN WITH THE SEED: the statements are not yours to turn. If you find one false, say at which input.
  Laid BY PROGRAM, IN A SANDBOX (cutbox-rows.mjs): the forced cells as the released guide's own fill.sh prints them over the translation f8539900d604db45… (all of the seat's roots in one cut). By AI agents, Wed Nov 11 2026. No macro, syntax, notation, axiom, sorry.
-/
import Derived.Test.YtcnancjkajbldaaChecked
import GoSem.Claim
import GoSem.ClaimJoined
import GoSem.ClaimMapViews
import Derived.JoinedTies
import Derived.KernelRfl
namespace Go.Proofs.Ytcnancjkajbldaa
/- THE CELL 'sum', in the pinned program and in every row, IS THE sha256 OF THE DUMP (.gsa) THAT YtcnancjkajbldaaProg.lean LOADS. Nothing in Lean hashes anything: it is a label: what it is worth is what the hold of that sum in a sandbox is worth. -/
noncomputable def Try.pinned : Pinned := { name := "ytcnancjkajbldaa", sum := "f8539900d604db45f379863d9e19a9e4b274a3a08795f1484c71b1f727a8843a", checked := Try.checked }
namespace Rows
def none {H : Type} : Left H := { results := [], args := [] }

/-- 'laws.FnExactLeastTime': WHATEVER THE INPUT: true; the input reads as it did. -/
def fnExactLeastTimeSpec : ChangeSpec := { name := "fnExactLeastTime", fn := fun _ => fun
  | [d1, d2] => { results := [.lit (.bool true)], args := [d1, d2] }
  | _ => none }
def fnExactLeastTimeRow : OpenClaim := { program := "ytcnancjkajbldaa", sum := "f8539900d604db45f379863d9e19a9e4b274a3a08795f1484c71b1f727a8843a", func := "loop.example/g01373/laws.FnExactLeastTime", spec := "fnExactLeastTime", unfollowed := true, recurses := true, apart := false }
def FnExactLeastTimeSaid : Prop := fnExactLeastTimeRow.holds Try.pinned (OpenSpec.ofChange fnExactLeastTimeSpec)

/-- ITS FALSE NEIGHBOUR: 'it returns false'. Refute it at one input. -/
def fnExactLeastTimeWrong : ChangeSpec := { name := "fnExactLeastTime", fn := fun _ => fun
  | [d1, d2] => { results := [.lit (.bool false)], args := [d1, d2] }
  | _ => none }
def FnExactLeastTimeWrongFalsely : Prop := fnExactLeastTimeRow.holds Try.pinned (OpenSpec.ofChange fnExactLeastTimeWrong)

/-- 'laws.FnExactFirstRated': WHATEVER THE INPUT: true; the input reads as it did. -/
def fnExactFirstRatedSpec : ChangeSpec := { name := "fnExactFirstRated", fn := fun _ => fun
  | [d1, d2] => { results := [.lit (.bool true)], args := [d1, d2] }
  | _ => none }
def fnExactFirstRatedRow : OpenClaim := { program := "ytcnancjkajbldaa", sum := "f8539900d604db45f379863d9e19a9e4b274a3a08795f1484c71b1f727a8843a", func := "loop.example/g01373/laws.FnExactFirstRated", spec := "fnExactFirstRated", unfollowed := true, recurses := true, apart := false }
def FnExactFirstRatedSaid : Prop := fnExactFirstRatedRow.holds Try.pinned (OpenSpec.ofChange fnExactFirstRatedSpec)

/-- ITS FALSE NEIGHBOUR: 'it returns false'. Refute it at one input. -/
def fnExactFirstRatedWrong : ChangeSpec := { name := "fnExactFirstRated", fn := fun _ => fun
  | [d1, d2] => { results := [.lit (.bool false)], args := [d1, d2] }
  | _ => none }
def FnExactFirstRatedWrongFalsely : Prop := fnExactFirstRatedRow.holds Try.pinned (OpenSpec.ofChange fnExactFirstRatedWrong)

/-- 'laws.FnExactLeastWork': WHATEVER THE INPUT: true; the input reads as it did. -/
def fnExactLeastWorkSpec : ChangeSpec := { name := "fnExactLeastWork", fn := fun _ => fun
  | [d1, d2] => { results := [.lit (.bool true)], args := [d1, d2] }
  | _ => none }
def fnExactLeastWorkRow : OpenClaim := { program := "ytcnancjkajbldaa", sum := "f8539900d604db45f379863d9e19a9e4b274a3a08795f1484c71b1f727a8843a", func := "loop.example/g01373/laws.FnExactLeastWork", spec := "fnExactLeastWork", unfollowed := true, recurses := true, apart := false }
def FnExactLeastWorkSaid : Prop := fnExactLeastWorkRow.holds Try.pinned (OpenSpec.ofChange fnExactLeastWorkSpec)

/-- ITS FALSE NEIGHBOUR: 'it returns false'. Refute it at one input. -/
def fnExactLeastWorkWrong : ChangeSpec := { name := "fnExactLeastWork", fn := fun _ => fun
  | [d1, d2] => { results := [.lit (.bool false)], args := [d1, d2] }
  | _ => none }
def FnExactLeastWorkWrongFalsely : Prop := fnExactLeastWorkRow.holds Try.pinned (OpenSpec.ofChange fnExactLeastWorkWrong)

/-- 'laws.FnExactCountShares': WHATEVER THE INPUT: true; the input reads as it did. -/
def fnExactCountSharesSpec : ChangeSpec := { name := "fnExactCountShares", fn := fun _ => fun
  | [d1, d2] => { results := [.lit (.bool true)], args := [d1, d2] }
  | _ => none }
def fnExactCountSharesRow : OpenClaim := { program := "ytcnancjkajbldaa", sum := "f8539900d604db45f379863d9e19a9e4b274a3a08795f1484c71b1f727a8843a", func := "loop.example/g01373/laws.FnExactCountShares", spec := "fnExactCountShares", unfollowed := true, recurses := true, apart := false }
def FnExactCountSharesSaid : Prop := fnExactCountSharesRow.holds Try.pinned (OpenSpec.ofChange fnExactCountSharesSpec)

/-- ITS FALSE NEIGHBOUR: 'it returns false'. Refute it at one input. -/
def fnExactCountSharesWrong : ChangeSpec := { name := "fnExactCountShares", fn := fun _ => fun
  | [d1, d2] => { results := [.lit (.bool false)], args := [d1, d2] }
  | _ => none }
def FnExactCountSharesWrongFalsely : Prop := fnExactCountSharesRow.holds Try.pinned (OpenSpec.ofChange fnExactCountSharesWrong)

/-- 'laws.FnExactBestOrder': WHATEVER THE INPUT: true; the input reads as it did. -/
def fnExactBestOrderSpec : ChangeSpec := { name := "fnExactBestOrder", fn := fun _ => fun
  | [d1, d2] => { results := [.lit (.bool true)], args := [d1, d2] }
  | _ => none }
def fnExactBestOrderRow : OpenClaim := { program := "ytcnancjkajbldaa", sum := "f8539900d604db45f379863d9e19a9e4b274a3a08795f1484c71b1f727a8843a", func := "loop.example/g01373/laws.FnExactBestOrder", spec := "fnExactBestOrder", unfollowed := true, recurses := true, apart := false }
def FnExactBestOrderSaid : Prop := fnExactBestOrderRow.holds Try.pinned (OpenSpec.ofChange fnExactBestOrderSpec)

/-- ITS FALSE NEIGHBOUR: 'it returns false'. Refute it at one input. -/
def fnExactBestOrderWrong : ChangeSpec := { name := "fnExactBestOrder", fn := fun _ => fun
  | [d1, d2] => { results := [.lit (.bool false)], args := [d1, d2] }
  | _ => none }
def FnExactBestOrderWrongFalsely : Prop := fnExactBestOrderRow.holds Try.pinned (OpenSpec.ofChange fnExactBestOrderWrong)

/-- 'laws.FnExactFirstShare': WHATEVER THE INPUT: true; the input reads as it did. -/
def fnExactFirstShareSpec : ChangeSpec := { name := "fnExactFirstShare", fn := fun _ => fun
  | [d1, d2] => { results := [.lit (.bool true)], args := [d1, d2] }
  | _ => none }
def fnExactFirstShareRow : OpenClaim := { program := "ytcnancjkajbldaa", sum := "f8539900d604db45f379863d9e19a9e4b274a3a08795f1484c71b1f727a8843a", func := "loop.example/g01373/laws.FnExactFirstShare", spec := "fnExactFirstShare", unfollowed := true, recurses := true, apart := false }
def FnExactFirstShareSaid : Prop := fnExactFirstShareRow.holds Try.pinned (OpenSpec.ofChange fnExactFirstShareSpec)

/-- ITS FALSE NEIGHBOUR: 'it returns false'. Refute it at one input. -/
def fnExactFirstShareWrong : ChangeSpec := { name := "fnExactFirstShare", fn := fun _ => fun
  | [d1, d2] => { results := [.lit (.bool false)], args := [d1, d2] }
  | _ => none }
def FnExactFirstShareWrongFalsely : Prop := fnExactFirstShareRow.holds Try.pinned (OpenSpec.ofChange fnExactFirstShareWrong)

/-- 'laws.FnExactFirstFit': WHATEVER THE INPUT: true; the input reads as it did. -/
def fnExactFirstFitSpec : ChangeSpec := { name := "fnExactFirstFit", fn := fun _ => fun
  | [d1, d2] => { results := [.lit (.bool true)], args := [d1, d2] }
  | _ => none }
def fnExactFirstFitRow : OpenClaim := { program := "ytcnancjkajbldaa", sum := "f8539900d604db45f379863d9e19a9e4b274a3a08795f1484c71b1f727a8843a", func := "loop.example/g01373/laws.FnExactFirstFit", spec := "fnExactFirstFit", unfollowed := true, recurses := true, apart := false }
def FnExactFirstFitSaid : Prop := fnExactFirstFitRow.holds Try.pinned (OpenSpec.ofChange fnExactFirstFitSpec)

/-- ITS FALSE NEIGHBOUR: 'it returns false'. Refute it at one input. -/
def fnExactFirstFitWrong : ChangeSpec := { name := "fnExactFirstFit", fn := fun _ => fun
  | [d1, d2] => { results := [.lit (.bool false)], args := [d1, d2] }
  | _ => none }
def FnExactFirstFitWrongFalsely : Prop := fnExactFirstFitRow.holds Try.pinned (OpenSpec.ofChange fnExactFirstFitWrong)

/-- 'laws.FnExactFewestBars': WHATEVER THE INPUT: true; the input reads as it did. -/
def fnExactFewestBarsSpec : ChangeSpec := { name := "fnExactFewestBars", fn := fun _ => fun
  | [d1, d2] => { results := [.lit (.bool true)], args := [d1, d2] }
  | _ => none }
def fnExactFewestBarsRow : OpenClaim := { program := "ytcnancjkajbldaa", sum := "f8539900d604db45f379863d9e19a9e4b274a3a08795f1484c71b1f727a8843a", func := "loop.example/g01373/laws.FnExactFewestBars", spec := "fnExactFewestBars", unfollowed := true, recurses := true, apart := false }
def FnExactFewestBarsSaid : Prop := fnExactFewestBarsRow.holds Try.pinned (OpenSpec.ofChange fnExactFewestBarsSpec)

/-- ITS FALSE NEIGHBOUR: 'it returns false'. Refute it at one input. -/
def fnExactFewestBarsWrong : ChangeSpec := { name := "fnExactFewestBars", fn := fun _ => fun
  | [d1, d2] => { results := [.lit (.bool false)], args := [d1, d2] }
  | _ => none }
def FnExactFewestBarsWrongFalsely : Prop := fnExactFewestBarsRow.holds Try.pinned (OpenSpec.ofChange fnExactFewestBarsWrong)

/- THE SECOND FORM. 'bulk': how many values and letters a reading holds, each counted each time it is reached (what is shared counts as often as it is met; a slice's spare places count too). A statement '..UptoSaid' is the law's where the arguments, and the package variables that the reading takes, are together of bulk at most 1048576: NARROWER than '..Said'. Prove '..Said' where nothing that the law and all that it calls make is longer than what came in: it says more and counts as full. Else prove '..UptoSaid'. A law counts once. -/
mutual
def uptoBulk {H : Type} : DataW H → Nat
  | .lit (.string bytes) => bytes.length + 1
  | .lit _ => 1
  | .nil => 1
  | .ptr d => uptoBulk d + 1
  | .slice elems spare => uptoBulkAll elems + uptoBulkAll spare + 1
  | .agg parts => uptoBulkAll parts + 1
  | .iface _ d => uptoBulk d + 1
  | .map entries => uptoBulkEntries entries + 1
  | .held _ => 1
def uptoBulkAll {H : Type} : List (DataW H) → Nat
  | [] => 0
  | d :: r => uptoBulk d + uptoBulkAll r
def uptoBulkEntries {H : Type} : List (Lit × DataW H) → Nat
  | [] => 0
  | x :: r => uptoBulkEntry x + uptoBulkEntries r
def uptoBulkEntry {H : Type} : Lit × DataW H → Nat
  | (.string bytes, d) => bytes.length + uptoBulk d + 1
  | (_, d) => uptoBulk d + 1
 end
def uptoSmall : (H : Type) → List (DataW H) → Bool := fun _ ds => decide (uptoBulkAll ds ≤ 1048576)
def OpenSpec.upto (s : _root_.Go.ChangeSpec) : _root_.Go.OpenSpec := { _root_.Go.OpenSpec.ofChange s with cond := some uptoSmall }

/-- 'laws.FnExactLeastTime', WHERE WHAT IT READS IS OF BULK AT MOST 1048576: true; the input reads as it did. -/
def fnExactLeastTimeUptoRow : OpenClaim := { program := "ytcnancjkajbldaa", sum := "f8539900d604db45f379863d9e19a9e4b274a3a08795f1484c71b1f727a8843a", func := "loop.example/g01373/laws.FnExactLeastTime", spec := "fnExactLeastTime", unfollowed := true, recurses := true, apart := false, narrowed := true }
def FnExactLeastTimeUptoSaid : Prop := fnExactLeastTimeUptoRow.holds Try.pinned (OpenSpec.upto fnExactLeastTimeSpec)

/-- 'laws.FnExactFirstRated', WHERE WHAT IT READS IS OF BULK AT MOST 1048576: true; the input reads as it did. -/
def fnExactFirstRatedUptoRow : OpenClaim := { program := "ytcnancjkajbldaa", sum := "f8539900d604db45f379863d9e19a9e4b274a3a08795f1484c71b1f727a8843a", func := "loop.example/g01373/laws.FnExactFirstRated", spec := "fnExactFirstRated", unfollowed := true, recurses := true, apart := false, narrowed := true }
def FnExactFirstRatedUptoSaid : Prop := fnExactFirstRatedUptoRow.holds Try.pinned (OpenSpec.upto fnExactFirstRatedSpec)

/-- 'laws.FnExactLeastWork', WHERE WHAT IT READS IS OF BULK AT MOST 1048576: true; the input reads as it did. -/
def fnExactLeastWorkUptoRow : OpenClaim := { program := "ytcnancjkajbldaa", sum := "f8539900d604db45f379863d9e19a9e4b274a3a08795f1484c71b1f727a8843a", func := "loop.example/g01373/laws.FnExactLeastWork", spec := "fnExactLeastWork", unfollowed := true, recurses := true, apart := false, narrowed := true }
def FnExactLeastWorkUptoSaid : Prop := fnExactLeastWorkUptoRow.holds Try.pinned (OpenSpec.upto fnExactLeastWorkSpec)

/-- 'laws.FnExactCountShares', WHERE WHAT IT READS IS OF BULK AT MOST 1048576: true; the input reads as it did. -/
def fnExactCountSharesUptoRow : OpenClaim := { program := "ytcnancjkajbldaa", sum := "f8539900d604db45f379863d9e19a9e4b274a3a08795f1484c71b1f727a8843a", func := "loop.example/g01373/laws.FnExactCountShares", spec := "fnExactCountShares", unfollowed := true, recurses := true, apart := false, narrowed := true }
def FnExactCountSharesUptoSaid : Prop := fnExactCountSharesUptoRow.holds Try.pinned (OpenSpec.upto fnExactCountSharesSpec)

/-- 'laws.FnExactBestOrder', WHERE WHAT IT READS IS OF BULK AT MOST 1048576: true; the input reads as it did. -/
def fnExactBestOrderUptoRow : OpenClaim := { program := "ytcnancjkajbldaa", sum := "f8539900d604db45f379863d9e19a9e4b274a3a08795f1484c71b1f727a8843a", func := "loop.example/g01373/laws.FnExactBestOrder", spec := "fnExactBestOrder", unfollowed := true, recurses := true, apart := false, narrowed := true }
def FnExactBestOrderUptoSaid : Prop := fnExactBestOrderUptoRow.holds Try.pinned (OpenSpec.upto fnExactBestOrderSpec)

/-- 'laws.FnExactFirstShare', WHERE WHAT IT READS IS OF BULK AT MOST 1048576: true; the input reads as it did. -/
def fnExactFirstShareUptoRow : OpenClaim := { program := "ytcnancjkajbldaa", sum := "f8539900d604db45f379863d9e19a9e4b274a3a08795f1484c71b1f727a8843a", func := "loop.example/g01373/laws.FnExactFirstShare", spec := "fnExactFirstShare", unfollowed := true, recurses := true, apart := false, narrowed := true }
def FnExactFirstShareUptoSaid : Prop := fnExactFirstShareUptoRow.holds Try.pinned (OpenSpec.upto fnExactFirstShareSpec)

/-- 'laws.FnExactFirstFit', WHERE WHAT IT READS IS OF BULK AT MOST 1048576: true; the input reads as it did. -/
def fnExactFirstFitUptoRow : OpenClaim := { program := "ytcnancjkajbldaa", sum := "f8539900d604db45f379863d9e19a9e4b274a3a08795f1484c71b1f727a8843a", func := "loop.example/g01373/laws.FnExactFirstFit", spec := "fnExactFirstFit", unfollowed := true, recurses := true, apart := false, narrowed := true }
def FnExactFirstFitUptoSaid : Prop := fnExactFirstFitUptoRow.holds Try.pinned (OpenSpec.upto fnExactFirstFitSpec)

/-- 'laws.FnExactFewestBars', WHERE WHAT IT READS IS OF BULK AT MOST 1048576: true; the input reads as it did. -/
def fnExactFewestBarsUptoRow : OpenClaim := { program := "ytcnancjkajbldaa", sum := "f8539900d604db45f379863d9e19a9e4b274a3a08795f1484c71b1f727a8843a", func := "loop.example/g01373/laws.FnExactFewestBars", spec := "fnExactFewestBars", unfollowed := true, recurses := true, apart := false, narrowed := true }
def FnExactFewestBarsUptoSaid : Prop := fnExactFewestBarsUptoRow.holds Try.pinned (OpenSpec.upto fnExactFewestBarsSpec)

end Rows
end Go.Proofs.Ytcnancjkajbldaa
