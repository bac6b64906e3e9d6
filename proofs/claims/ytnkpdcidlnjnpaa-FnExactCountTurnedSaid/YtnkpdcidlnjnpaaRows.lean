/-
  No cell of these rows narrows 'for every input' (looked for: loops, veiled, ifaces, maps, wideKeys, modest, calm, conditions, laid).
  DERIVED. THE GIVEN ROWS OF THIS SEAT. 6 by the template 'for every input the law returns true; each argument reads behind the call as it read before'; 0 by the template 'total and deterministic' (their statements: YtnkpdcidlnjnpaaTotals.lean).
  GIVEN WITH THE SEED: the statements are not yours to turn. If you find one false, say at which input.
  Laid BY PROGRAM, IN A SANDBOX (cutbox-rows.mjs): the forced cells as the released guide's own fill.sh prints them over the translation 3b244a2d2d003f13… (all of the seat's roots in one cut). By AI agents, Wed Nov 11 2026. No macro, syntax, notation, axiom, sorry.
-/
import Derived.Test.YtnkpdcidlnjnpaaChecked
import GoSem.Claim
import GoSem.ClaimJoined
import GoSem.ClaimMapViews
import Derived.JoinedTies
import Derived.KernelRfl
namespace Go.Proofs.Ytnkpdcidlnjnpaa
/- THE CELL 'sum', in the pinned program and in every row, IS THE sha256 OF THE DUMP (.gsa) THAT YtnkpdcidlnjnpaaProg.lean LOADS. Nothing in Lean hashes anything: it is a label: what it is worth is what the hold of that sum in a sandbox is worth. -/
noncomputable def Try.pinned : Pinned := { name := "ytnkpdcidlnjnpaa", sum := "3b244a2d2d003f135ed9969f34195f89a59d7ddc5b20ceba281dbf86da4b50be", checked := Try.checked }
namespace Rows
def none {H : Type} : Left H := { results := [], args := [] }

/-- 'laws.FnExactConstants': WHATEVER THE INPUT: true; the input reads as it did. -/
def fnExactConstantsSpec : ChangeSpec := { name := "fnExactConstants", fn := fun _ => fun
  | [] => { results := [.lit (.bool true)], args := [] }
  | _ => none }
def fnExactConstantsRow : OpenClaim := { program := "ytnkpdcidlnjnpaa", sum := "3b244a2d2d003f135ed9969f34195f89a59d7ddc5b20ceba281dbf86da4b50be", func := "loop.example/g01373/laws.FnExactConstants", spec := "fnExactConstants", apart := false }
def FnExactConstantsSaid : Prop := fnExactConstantsRow.holds Try.pinned (OpenSpec.ofChange fnExactConstantsSpec)

/-- ITS FALSE NEIGHBOUR: 'it returns false'. Refute it at one input. -/
def fnExactConstantsWrong : ChangeSpec := { name := "fnExactConstants", fn := fun _ => fun
  | [] => { results := [.lit (.bool false)], args := [] }
  | _ => none }
def FnExactConstantsWrongFalsely : Prop := fnExactConstantsRow.holds Try.pinned (OpenSpec.ofChange fnExactConstantsWrong)

/-- 'laws.FnExactTurnFence': WHATEVER THE INPUT: true; the input reads as it did. -/
def fnExactTurnFenceSpec : ChangeSpec := { name := "fnExactTurnFence", fn := fun _ => fun
  | [d1, d2] => { results := [.lit (.bool true)], args := [d1, d2] }
  | _ => none }
def fnExactTurnFenceRow : OpenClaim := { program := "ytnkpdcidlnjnpaa", sum := "3b244a2d2d003f135ed9969f34195f89a59d7ddc5b20ceba281dbf86da4b50be", func := "loop.example/g01373/laws.FnExactTurnFence", spec := "fnExactTurnFence", inPlace := ["internal/bytealg.IndexByteString"], unfollowed := true, recurses := true, apart := false }
def FnExactTurnFenceSaid : Prop := fnExactTurnFenceRow.holds Try.pinned (OpenSpec.ofChange fnExactTurnFenceSpec)

/-- ITS FALSE NEIGHBOUR: 'it returns false'. Refute it at one input. -/
def fnExactTurnFenceWrong : ChangeSpec := { name := "fnExactTurnFence", fn := fun _ => fun
  | [d1, d2] => { results := [.lit (.bool false)], args := [d1, d2] }
  | _ => none }
def FnExactTurnFenceWrongFalsely : Prop := fnExactTurnFenceRow.holds Try.pinned (OpenSpec.ofChange fnExactTurnFenceWrong)

/-- 'laws.FnExactLeastTurn': WHATEVER THE INPUT: true; the input reads as it did. -/
def fnExactLeastTurnSpec : ChangeSpec := { name := "fnExactLeastTurn", fn := fun _ => fun
  | [d] => { results := [.lit (.bool true)], args := [d] }
  | _ => none }
def fnExactLeastTurnRow : OpenClaim := { program := "ytnkpdcidlnjnpaa", sum := "3b244a2d2d003f135ed9969f34195f89a59d7ddc5b20ceba281dbf86da4b50be", func := "loop.example/g01373/laws.FnExactLeastTurn", spec := "fnExactLeastTurn", inPlace := ["internal/bytealg.IndexByteString"], unfollowed := true, recurses := true, apart := false }
def FnExactLeastTurnSaid : Prop := fnExactLeastTurnRow.holds Try.pinned (OpenSpec.ofChange fnExactLeastTurnSpec)

/-- ITS FALSE NEIGHBOUR: 'it returns false'. Refute it at one input. -/
def fnExactLeastTurnWrong : ChangeSpec := { name := "fnExactLeastTurn", fn := fun _ => fun
  | [d] => { results := [.lit (.bool false)], args := [d] }
  | _ => none }
def FnExactLeastTurnWrongFalsely : Prop := fnExactLeastTurnRow.holds Try.pinned (OpenSpec.ofChange fnExactLeastTurnWrong)

/-- 'laws.FnExactIsProper': WHATEVER THE INPUT: true; the input reads as it did. -/
def fnExactIsProperSpec : ChangeSpec := { name := "fnExactIsProper", fn := fun _ => fun
  | [d1, d2] => { results := [.lit (.bool true)], args := [d1, d2] }
  | _ => none }
def fnExactIsProperRow : OpenClaim := { program := "ytnkpdcidlnjnpaa", sum := "3b244a2d2d003f135ed9969f34195f89a59d7ddc5b20ceba281dbf86da4b50be", func := "loop.example/g01373/laws.FnExactIsProper", spec := "fnExactIsProper", inPlace := ["internal/bytealg.IndexByteString"], unfollowed := true, recurses := true, apart := false }
def FnExactIsProperSaid : Prop := fnExactIsProperRow.holds Try.pinned (OpenSpec.ofChange fnExactIsProperSpec)

/-- ITS FALSE NEIGHBOUR: 'it returns false'. Refute it at one input. -/
def fnExactIsProperWrong : ChangeSpec := { name := "fnExactIsProper", fn := fun _ => fun
  | [d1, d2] => { results := [.lit (.bool false)], args := [d1, d2] }
  | _ => none }
def FnExactIsProperWrongFalsely : Prop := fnExactIsProperRow.holds Try.pinned (OpenSpec.ofChange fnExactIsProperWrong)

/-- 'laws.FnExactLongestProper': WHATEVER THE INPUT: true; the input reads as it did. -/
def fnExactLongestProperSpec : ChangeSpec := { name := "fnExactLongestProper", fn := fun _ => fun
  | [d] => { results := [.lit (.bool true)], args := [d] }
  | _ => none }
def fnExactLongestProperRow : OpenClaim := { program := "ytnkpdcidlnjnpaa", sum := "3b244a2d2d003f135ed9969f34195f89a59d7ddc5b20ceba281dbf86da4b50be", func := "loop.example/g01373/laws.FnExactLongestProper", spec := "fnExactLongestProper", inPlace := ["internal/bytealg.IndexByteString"], unfollowed := true, recurses := true, apart := false }
def FnExactLongestProperSaid : Prop := fnExactLongestProperRow.holds Try.pinned (OpenSpec.ofChange fnExactLongestProperSpec)

/-- ITS FALSE NEIGHBOUR: 'it returns false'. Refute it at one input. -/
def fnExactLongestProperWrong : ChangeSpec := { name := "fnExactLongestProper", fn := fun _ => fun
  | [d] => { results := [.lit (.bool false)], args := [d] }
  | _ => none }
def FnExactLongestProperWrongFalsely : Prop := fnExactLongestProperRow.holds Try.pinned (OpenSpec.ofChange fnExactLongestProperWrong)

/-- 'laws.FnExactCountTurned': WHATEVER THE INPUT: true; the input reads as it did. -/
def fnExactCountTurnedSpec : ChangeSpec := { name := "fnExactCountTurned", fn := fun _ => fun
  | [d1, d2] => { results := [.lit (.bool true)], args := [d1, d2] }
  | _ => none }
def fnExactCountTurnedRow : OpenClaim := { program := "ytnkpdcidlnjnpaa", sum := "3b244a2d2d003f135ed9969f34195f89a59d7ddc5b20ceba281dbf86da4b50be", func := "loop.example/g01373/laws.FnExactCountTurned", spec := "fnExactCountTurned", apart := false }
def FnExactCountTurnedSaid : Prop := fnExactCountTurnedRow.holds Try.pinned (OpenSpec.ofChange fnExactCountTurnedSpec)

/-- ITS FALSE NEIGHBOUR: 'it returns false'. Refute it at one input. -/
def fnExactCountTurnedWrong : ChangeSpec := { name := "fnExactCountTurned", fn := fun _ => fun
  | [d1, d2] => { results := [.lit (.bool false)], args := [d1, d2] }
  | _ => none }
def FnExactCountTurnedWrongFalsely : Prop := fnExactCountTurnedRow.holds Try.pinned (OpenSpec.ofChange fnExactCountTurnedWrong)

/- THE SECOND FORM. 'bulk': how many values and letters a reading holds, each counted each time it is reached (what is shared counts as often as it is met; a slice's spare places count too). A statement '..UptoSaid' is the law's where the arguments, and the package variables that the reading takes, are together of bulk at most 1048576: NARROWER than '..Said'. Prove '..Said' where nothing that the law and all that it calls make is longer than what came in: it says more and counts as full. Else prove '..UptoSaid'. A law counts once. -/
mutual
def uptoBulk {H : Type} : DataW H → Nat
  | .lit (.string bytes) => bytes.length + 1
  | .lit _ => 1
  | .nil => 1
  | .ptr d => uptoBulk d + 1
  | .slice elems spare => uptoBulkAll elems + uptoBulkAll spare + 1
  | .agg parts => uptoBulkAll parts + 1
  | .iface _ d => uptoBulk d + 1
  | .map entries => uptoBulkEntries entries + 1
  | .held _ => 1
def uptoBulkAll {H : Type} : List (DataW H) → Nat
  | [] => 0
  | d :: r => uptoBulk d + uptoBulkAll r
def uptoBulkEntries {H : Type} : List (Lit × DataW H) → Nat
  | [] => 0
  | x :: r => uptoBulkEntry x + uptoBulkEntries r
def uptoBulkEntry {H : Type} : Lit × DataW H → Nat
  | (.string bytes, d) => bytes.length + uptoBulk d + 1
  | (_, d) => uptoBulk d + 1
 end
def uptoSmall : (H : Type) → List (DataW H) → Bool := fun _ ds => decide (uptoBulkAll ds ≤ 1048576)
def OpenSpec.upto (s : _root_.Go.ChangeSpec) : _root_.Go.OpenSpec := { _root_.Go.OpenSpec.ofChange s with cond := some uptoSmall }

/-- 'laws.FnExactConstants', WHERE WHAT IT READS IS OF BULK AT MOST 1048576: true; the input reads as it did. -/
def fnExactConstantsUptoRow : OpenClaim := { program := "ytnkpdcidlnjnpaa", sum := "3b244a2d2d003f135ed9969f34195f89a59d7ddc5b20ceba281dbf86da4b50be", func := "loop.example/g01373/laws.FnExactConstants", spec := "fnExactConstants", apart := false, narrowed := true }
def FnExactConstantsUptoSaid : Prop := fnExactConstantsUptoRow.holds Try.pinned (OpenSpec.upto fnExactConstantsSpec)

/-- 'laws.FnExactTurnFence', WHERE WHAT IT READS IS OF BULK AT MOST 1048576: true; the input reads as it did. -/
def fnExactTurnFenceUptoRow : OpenClaim := { program := "ytnkpdcidlnjnpaa", sum := "3b244a2d2d003f135ed9969f34195f89a59d7ddc5b20ceba281dbf86da4b50be", func := "loop.example/g01373/laws.FnExactTurnFence", spec := "fnExactTurnFence", inPlace := ["internal/bytealg.IndexByteString"], unfollowed := true, recurses := true, apart := false, narrowed := true }
def FnExactTurnFenceUptoSaid : Prop := fnExactTurnFenceUptoRow.holds Try.pinned (OpenSpec.upto fnExactTurnFenceSpec)

/-- 'laws.FnExactLeastTurn', WHERE WHAT IT READS IS OF BULK AT MOST 1048576: true; the input reads as it did. -/
def fnExactLeastTurnUptoRow : OpenClaim := { program := "ytnkpdcidlnjnpaa", sum := "3b244a2d2d003f135ed9969f34195f89a59d7ddc5b20ceba281dbf86da4b50be", func := "loop.example/g01373/laws.FnExactLeastTurn", spec := "fnExactLeastTurn", inPlace := ["internal/bytealg.IndexByteString"], unfollowed := true, recurses := true, apart := false, narrowed := true }
def FnExactLeastTurnUptoSaid : Prop := fnExactLeastTurnUptoRow.holds Try.pinned (OpenSpec.upto fnExactLeastTurnSpec)

/-- 'laws.FnExactIsProper', WHERE WHAT IT READS IS OF BULK AT MOST 1048576: true; the input reads as it did. -/
def fnExactIsProperUptoRow : OpenClaim := { program := "ytnkpdcidlnjnpaa", sum := "3b244a2d2d003f135ed9969f34195f89a59d7ddc5b20ceba281dbf86da4b50be", func := "loop.example/g01373/laws.FnExactIsProper", spec := "fnExactIsProper", inPlace := ["internal/bytealg.IndexByteString"], unfollowed := true, recurses := true, apart := false, narrowed := true }
def FnExactIsProperUptoSaid : Prop := fnExactIsProperUptoRow.holds Try.pinned (OpenSpec.upto fnExactIsProperSpec)

/-- 'laws.FnExactLongestProper', WHERE WHAT IT READS IS OF BULK AT MOST 1048576: true; the input reads as it did. -/
def fnExactLongestProperUptoRow : OpenClaim := { program := "ytnkpdcidlnjnpaa", sum := "3b244a2d2d003f135ed9969f34195f89a59d7ddc5b20ceba281dbf86da4b50be", func := "loop.example/g01373/laws.FnExactLongestProper", spec := "fnExactLongestProper", inPlace := ["internal/bytealg.IndexByteString"], unfollowed := true, recurses := true, apart := false, narrowed := true }
def FnExactLongestProperUptoSaid : Prop := fnExactLongestProperUptoRow.holds Try.pinned (OpenSpec.upto fnExactLongestProperSpec)

/-- 'laws.FnExactCountTurned', WHERE WHAT IT READS IS OF BULK AT MOST 1048576: true; the input reads as it did. -/
def fnExactCountTurnedUptoRow : OpenClaim := { program := "ytnkpdcidlnjnpaa", sum := "3b244a2d2d003f135ed9969f34195f89a59d7ddc5b20ceba281dbf86da4b50be", func := "loop.example/g01373/laws.FnExactCountTurned", spec := "fnExactCountTurned", apart := false, narrowed := true }
def FnExactCountTurnedUptoSaid : Prop := fnExactCountTurnedUptoRow.holds Try.pinned (OpenSpec.upto fnExactCountTurnedSpec)

end Rows
end Go.Proofs.Ytnkpdcidlnjnpaa
