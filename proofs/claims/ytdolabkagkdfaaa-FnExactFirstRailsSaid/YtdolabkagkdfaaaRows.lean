/-
  No cell of these rows narrows 'for every input' (looked for: loops, veiled, ifaces, maps, wideKeys, modest, calm, conditions, laid).
  DERIVED. THE GIVEN ROWS OF THIS SEAT. 12 by the template 'for every input the law returns true; each argument reads behind the call as it read before'; 0 by the template 'total and deterministic' (their statements: YtdolabkagkdfaaaTotals.lean).
  GIVEN WITH THE SEED: the statements are not yours to turn. If you find one false, say at which input.
  Laid BY PROGRAM, IN A SANDBOX (cutbox-rows.mjs): the forced cells as the released guide's own fill.sh prints them over the translation 98d5d1123993578f… (all of the seat's roots in one cut). By AI agents, Wed Nov 11 2026. No macro, syntax, notation, axiom, sorry.
-/
import Derived.Test.YtdolabkagkdfaaaChecked
import GoSem.Claim
import GoSem.ClaimJoined
import GoSem.ClaimMapViews
import Derived.JoinedTies
import Derived.KernelRfl
namespace Go.Proofs.Ytdolabkagkdfaaa
/- THE CELL 'sum', in the pinned program and in every row, IS THE sha256 OF THE DUMP (.gsa) THAT YtdolabkagkdfaaaProg.lean LOADS. Nothing in Lean hashes anything: it is a label: what it is worth is what the hold of that sum in a sandbox is worth. -/
noncomputable def Try.pinned : Pinned := { name := "ytdolabkagkdfaaa", sum := "98d5d1123993578f437b17769691809342b6a6d9af0351e691f01c4786d8150e", checked := Try.checked }
namespace Rows
def none {H : Type} : Left H := { results := [], args := [] }

/-- 'laws.FnExactFewestPosts': WHATEVER THE INPUT: true; the input reads as it did. -/
def fnExactFewestPostsSpec : ChangeSpec := { name := "fnExactFewestPosts", fn := fun _ => fun
  | [d1, d2] => { results := [.lit (.bool true)], args := [d1, d2] }
  | _ => none }
def fnExactFewestPostsRow : OpenClaim := { program := "ytdolabkagkdfaaa", sum := "98d5d1123993578f437b17769691809342b6a6d9af0351e691f01c4786d8150e", func := "loop.example/g01373/laws.FnExactFewestPosts", spec := "fnExactFewestPosts", unfollowed := true, recurses := true, apart := false }
def FnExactFewestPostsSaid : Prop := fnExactFewestPostsRow.holds Try.pinned (OpenSpec.ofChange fnExactFewestPostsSpec)

/-- ITS FALSE NEIGHBOUR: 'it returns false'. Refute it at one input. -/
def fnExactFewestPostsWrong : ChangeSpec := { name := "fnExactFewestPosts", fn := fun _ => fun
  | [d1, d2] => { results := [.lit (.bool false)], args := [d1, d2] }
  | _ => none }
def FnExactFewestPostsWrongFalsely : Prop := fnExactFewestPostsRow.holds Try.pinned (OpenSpec.ofChange fnExactFewestPostsWrong)

/-- 'laws.FnExactPostsAround': WHATEVER THE INPUT: true; the input reads as it did. -/
def fnExactPostsAroundSpec : ChangeSpec := { name := "fnExactPostsAround", fn := fun _ => fun
  | [d1, d2, d3] => { results := [.lit (.bool true)], args := [d1, d2, d3] }
  | _ => none }
def fnExactPostsAroundRow : OpenClaim := { program := "ytdolabkagkdfaaa", sum := "98d5d1123993578f437b17769691809342b6a6d9af0351e691f01c4786d8150e", func := "loop.example/g01373/laws.FnExactPostsAround", spec := "fnExactPostsAround", unfollowed := true, recurses := true, apart := false }
def FnExactPostsAroundSaid : Prop := fnExactPostsAroundRow.holds Try.pinned (OpenSpec.ofChange fnExactPostsAroundSpec)

/-- ITS FALSE NEIGHBOUR: 'it returns false'. Refute it at one input. -/
def fnExactPostsAroundWrong : ChangeSpec := { name := "fnExactPostsAround", fn := fun _ => fun
  | [d1, d2, d3] => { results := [.lit (.bool false)], args := [d1, d2, d3] }
  | _ => none }
def FnExactPostsAroundWrongFalsely : Prop := fnExactPostsAroundRow.holds Try.pinned (OpenSpec.ofChange fnExactPostsAroundWrong)

/-- 'laws.FnExactGapAround': WHATEVER THE INPUT: true; the input reads as it did. -/
def fnExactGapAroundSpec : ChangeSpec := { name := "fnExactGapAround", fn := fun _ => fun
  | [d1, d2] => { results := [.lit (.bool true)], args := [d1, d2] }
  | _ => none }
def fnExactGapAroundRow : OpenClaim := { program := "ytdolabkagkdfaaa", sum := "98d5d1123993578f437b17769691809342b6a6d9af0351e691f01c4786d8150e", func := "loop.example/g01373/laws.FnExactGapAround", spec := "fnExactGapAround", unfollowed := true, recurses := true, apart := false }
def FnExactGapAroundSaid : Prop := fnExactGapAroundRow.holds Try.pinned (OpenSpec.ofChange fnExactGapAroundSpec)

/-- ITS FALSE NEIGHBOUR: 'it returns false'. Refute it at one input. -/
def fnExactGapAroundWrong : ChangeSpec := { name := "fnExactGapAround", fn := fun _ => fun
  | [d1, d2] => { results := [.lit (.bool false)], args := [d1, d2] }
  | _ => none }
def FnExactGapAroundWrongFalsely : Prop := fnExactGapAroundRow.holds Try.pinned (OpenSpec.ofChange fnExactGapAroundWrong)

/-- 'laws.FnExactEvenGap': WHATEVER THE INPUT: true; the input reads as it did. -/
def fnExactEvenGapSpec : ChangeSpec := { name := "fnExactEvenGap", fn := fun _ => fun
  | [d1, d2] => { results := [.lit (.bool true)], args := [d1, d2] }
  | _ => none }
def fnExactEvenGapRow : OpenClaim := { program := "ytdolabkagkdfaaa", sum := "98d5d1123993578f437b17769691809342b6a6d9af0351e691f01c4786d8150e", func := "loop.example/g01373/laws.FnExactEvenGap", spec := "fnExactEvenGap", unfollowed := true, recurses := true, apart := false }
def FnExactEvenGapSaid : Prop := fnExactEvenGapRow.holds Try.pinned (OpenSpec.ofChange fnExactEvenGapSpec)

/-- ITS FALSE NEIGHBOUR: 'it returns false'. Refute it at one input. -/
def fnExactEvenGapWrong : ChangeSpec := { name := "fnExactEvenGap", fn := fun _ => fun
  | [d1, d2] => { results := [.lit (.bool false)], args := [d1, d2] }
  | _ => none }
def FnExactEvenGapWrongFalsely : Prop := fnExactEvenGapRow.holds Try.pinned (OpenSpec.ofChange fnExactEvenGapWrong)

/-- 'laws.FnExactPlacesOfPosts': WHATEVER THE INPUT: true; the input reads as it did. -/
def fnExactPlacesOfPostsSpec : ChangeSpec := { name := "fnExactPlacesOfPosts", fn := fun _ => fun
  | [d1, d2] => { results := [.lit (.bool true)], args := [d1, d2] }
  | _ => none }
def fnExactPlacesOfPostsRow : OpenClaim := { program := "ytdolabkagkdfaaa", sum := "98d5d1123993578f437b17769691809342b6a6d9af0351e691f01c4786d8150e", func := "loop.example/g01373/laws.FnExactPlacesOfPosts", spec := "fnExactPlacesOfPosts", unfollowed := true, recurses := true, apart := false }
def FnExactPlacesOfPostsSaid : Prop := fnExactPlacesOfPostsRow.holds Try.pinned (OpenSpec.ofChange fnExactPlacesOfPostsSpec)

/-- ITS FALSE NEIGHBOUR: 'it returns false'. Refute it at one input. -/
def fnExactPlacesOfPostsWrong : ChangeSpec := { name := "fnExactPlacesOfPosts", fn := fun _ => fun
  | [d1, d2] => { results := [.lit (.bool false)], args := [d1, d2] }
  | _ => none }
def FnExactPlacesOfPostsWrongFalsely : Prop := fnExactPlacesOfPostsRow.holds Try.pinned (OpenSpec.ofChange fnExactPlacesOfPostsWrong)

/-- 'laws.FnExactWholePlaces': WHATEVER THE INPUT: true; the input reads as it did. -/
def fnExactWholePlacesSpec : ChangeSpec := { name := "fnExactWholePlaces", fn := fun _ => fun
  | [d1, d2] => { results := [.lit (.bool true)], args := [d1, d2] }
  | _ => none }
def fnExactWholePlacesRow : OpenClaim := { program := "ytdolabkagkdfaaa", sum := "98d5d1123993578f437b17769691809342b6a6d9af0351e691f01c4786d8150e", func := "loop.example/g01373/laws.FnExactWholePlaces", spec := "fnExactWholePlaces", unfollowed := true, recurses := true, apart := false }
def FnExactWholePlacesSaid : Prop := fnExactWholePlacesRow.holds Try.pinned (OpenSpec.ofChange fnExactWholePlacesSpec)

/-- ITS FALSE NEIGHBOUR: 'it returns false'. Refute it at one input. -/
def fnExactWholePlacesWrong : ChangeSpec := { name := "fnExactWholePlaces", fn := fun _ => fun
  | [d1, d2] => { results := [.lit (.bool false)], args := [d1, d2] }
  | _ => none }
def FnExactWholePlacesWrongFalsely : Prop := fnExactWholePlacesRow.holds Try.pinned (OpenSpec.ofChange fnExactWholePlacesWrong)

/-- 'laws.FnExactSharedHoles': WHATEVER THE INPUT: true; the input reads as it did. -/
def fnExactSharedHolesSpec : ChangeSpec := { name := "fnExactSharedHoles", fn := fun _ => fun
  | [d1, d2, d3] => { results := [.lit (.bool true)], args := [d1, d2, d3] }
  | _ => none }
def fnExactSharedHolesRow : OpenClaim := { program := "ytdolabkagkdfaaa", sum := "98d5d1123993578f437b17769691809342b6a6d9af0351e691f01c4786d8150e", func := "loop.example/g01373/laws.FnExactSharedHoles", spec := "fnExactSharedHoles", unfollowed := true, recurses := true, apart := false }
def FnExactSharedHolesSaid : Prop := fnExactSharedHolesRow.holds Try.pinned (OpenSpec.ofChange fnExactSharedHolesSpec)

/-- ITS FALSE NEIGHBOUR: 'it returns false'. Refute it at one input. -/
def fnExactSharedHolesWrong : ChangeSpec := { name := "fnExactSharedHoles", fn := fun _ => fun
  | [d1, d2, d3] => { results := [.lit (.bool false)], args := [d1, d2, d3] }
  | _ => none }
def FnExactSharedHolesWrongFalsely : Prop := fnExactSharedHolesRow.holds Try.pinned (OpenSpec.ofChange fnExactSharedHolesWrong)

/-- 'laws.FnExactCountHoles': WHATEVER THE INPUT: true; the input reads as it did. -/
def fnExactCountHolesSpec : ChangeSpec := { name := "fnExactCountHoles", fn := fun _ => fun
  | [d1, d2, d3] => { results := [.lit (.bool true)], args := [d1, d2, d3] }
  | _ => none }
def fnExactCountHolesRow : OpenClaim := { program := "ytdolabkagkdfaaa", sum := "98d5d1123993578f437b17769691809342b6a6d9af0351e691f01c4786d8150e", func := "loop.example/g01373/laws.FnExactCountHoles", spec := "fnExactCountHoles", unfollowed := true, recurses := true, apart := false }
def FnExactCountHolesSaid : Prop := fnExactCountHolesRow.holds Try.pinned (OpenSpec.ofChange fnExactCountHolesSpec)

/-- ITS FALSE NEIGHBOUR: 'it returns false'. Refute it at one input. -/
def fnExactCountHolesWrong : ChangeSpec := { name := "fnExactCountHoles", fn := fun _ => fun
  | [d1, d2, d3] => { results := [.lit (.bool false)], args := [d1, d2, d3] }
  | _ => none }
def FnExactCountHolesWrongFalsely : Prop := fnExactCountHolesRow.holds Try.pinned (OpenSpec.ofChange fnExactCountHolesWrong)

/-- 'laws.FnExactAreRails': WHATEVER THE INPUT: true; the input reads as it did. -/
def fnExactAreRailsSpec : ChangeSpec := { name := "fnExactAreRails", fn := fun _ => fun
  | [d] => { results := [.lit (.bool true)], args := [d] }
  | _ => none }
def fnExactAreRailsRow : OpenClaim := { program := "ytdolabkagkdfaaa", sum := "98d5d1123993578f437b17769691809342b6a6d9af0351e691f01c4786d8150e", func := "loop.example/g01373/laws.FnExactAreRails", spec := "fnExactAreRails", unfollowed := true, recurses := true, apart := false }
def FnExactAreRailsSaid : Prop := fnExactAreRailsRow.holds Try.pinned (OpenSpec.ofChange fnExactAreRailsSpec)

/-- ITS FALSE NEIGHBOUR: 'it returns false'. Refute it at one input. -/
def fnExactAreRailsWrong : ChangeSpec := { name := "fnExactAreRails", fn := fun _ => fun
  | [d] => { results := [.lit (.bool false)], args := [d] }
  | _ => none }
def FnExactAreRailsWrongFalsely : Prop := fnExactAreRailsRow.holds Try.pinned (OpenSpec.ofChange fnExactAreRailsWrong)

/-- 'laws.FnExactSquaresOfRails': WHATEVER THE INPUT: true; the input reads as it did. -/
def fnExactSquaresOfRailsSpec : ChangeSpec := { name := "fnExactSquaresOfRails", fn := fun _ => fun
  | [d1, d2] => { results := [.lit (.bool true)], args := [d1, d2] }
  | _ => none }
def fnExactSquaresOfRailsRow : OpenClaim := { program := "ytdolabkagkdfaaa", sum := "98d5d1123993578f437b17769691809342b6a6d9af0351e691f01c4786d8150e", func := "loop.example/g01373/laws.FnExactSquaresOfRails", spec := "fnExactSquaresOfRails", unfollowed := true, recurses := true, apart := false }
def FnExactSquaresOfRailsSaid : Prop := fnExactSquaresOfRailsRow.holds Try.pinned (OpenSpec.ofChange fnExactSquaresOfRailsSpec)

/-- ITS FALSE NEIGHBOUR: 'it returns false'. Refute it at one input. -/
def fnExactSquaresOfRailsWrong : ChangeSpec := { name := "fnExactSquaresOfRails", fn := fun _ => fun
  | [d1, d2] => { results := [.lit (.bool false)], args := [d1, d2] }
  | _ => none }
def FnExactSquaresOfRailsWrongFalsely : Prop := fnExactSquaresOfRailsRow.holds Try.pinned (OpenSpec.ofChange fnExactSquaresOfRailsWrong)

/-- 'laws.FnExactWholeRails': WHATEVER THE INPUT: true; the input reads as it did. -/
def fnExactWholeRailsSpec : ChangeSpec := { name := "fnExactWholeRails", fn := fun _ => fun
  | [d1, d2] => { results := [.lit (.bool true)], args := [d1, d2] }
  | _ => none }
def fnExactWholeRailsRow : OpenClaim := { program := "ytdolabkagkdfaaa", sum := "98d5d1123993578f437b17769691809342b6a6d9af0351e691f01c4786d8150e", func := "loop.example/g01373/laws.FnExactWholeRails", spec := "fnExactWholeRails", unfollowed := true, recurses := true, apart := false }
def FnExactWholeRailsSaid : Prop := fnExactWholeRailsRow.holds Try.pinned (OpenSpec.ofChange fnExactWholeRailsSpec)

/-- ITS FALSE NEIGHBOUR: 'it returns false'. Refute it at one input. -/
def fnExactWholeRailsWrong : ChangeSpec := { name := "fnExactWholeRails", fn := fun _ => fun
  | [d1, d2] => { results := [.lit (.bool false)], args := [d1, d2] }
  | _ => none }
def FnExactWholeRailsWrongFalsely : Prop := fnExactWholeRailsRow.holds Try.pinned (OpenSpec.ofChange fnExactWholeRailsWrong)

/-- 'laws.FnExactFirstRails': WHATEVER THE INPUT: true; the input reads as it did. -/
def fnExactFirstRailsSpec : ChangeSpec := { name := "fnExactFirstRails", fn := fun _ => fun
  | [d] => { results := [.lit (.bool true)], args := [d] }
  | _ => none }
def fnExactFirstRailsRow : OpenClaim := { program := "ytdolabkagkdfaaa", sum := "98d5d1123993578f437b17769691809342b6a6d9af0351e691f01c4786d8150e", func := "loop.example/g01373/laws.FnExactFirstRails", spec := "fnExactFirstRails", unfollowed := true, recurses := true, apart := false }
def FnExactFirstRailsSaid : Prop := fnExactFirstRailsRow.holds Try.pinned (OpenSpec.ofChange fnExactFirstRailsSpec)

/-- ITS FALSE NEIGHBOUR: 'it returns false'. Refute it at one input. -/
def fnExactFirstRailsWrong : ChangeSpec := { name := "fnExactFirstRails", fn := fun _ => fun
  | [d] => { results := [.lit (.bool false)], args := [d] }
  | _ => none }
def FnExactFirstRailsWrongFalsely : Prop := fnExactFirstRailsRow.holds Try.pinned (OpenSpec.ofChange fnExactFirstRailsWrong)

/- THE SECOND FORM. 'bulk': how many values and letters a reading holds, each counted each time it is reached (what is shared counts as often as it is met; a slice's spare places count too). A statement '..UptoSaid' is the law's where the arguments, and the package variables that the reading takes, are together of bulk at most 1048576: NARROWER than '..Said'. Prove '..Said' where nothing that the law and all that it calls make is longer than what came in: it says more and counts as full. Else prove '..UptoSaid'. A law counts once. -/
mutual
def uptoBulk {H : Type} : DataW H → Nat
  | .lit (.string bytes) => bytes.length + 1
  | .lit _ => 1
  | .nil => 1
  | .ptr d => uptoBulk d + 1
  | .slice elems spare => uptoBulkAll elems + uptoBulkAll spare + 1
  | .agg parts => uptoBulkAll parts + 1
  | .iface _ d => uptoBulk d + 1
  | .map entries => uptoBulkEntries entries + 1
  | .held _ => 1
def uptoBulkAll {H : Type} : List (DataW H) → Nat
  | [] => 0
  | d :: r => uptoBulk d + uptoBulkAll r
def uptoBulkEntries {H : Type} : List (Lit × DataW H) → Nat
  | [] => 0
  | x :: r => uptoBulkEntry x + uptoBulkEntries r
def uptoBulkEntry {H : Type} : Lit × DataW H → Nat
  | (.string bytes, d) => bytes.length + uptoBulk d + 1
  | (_, d) => uptoBulk d + 1
 end
def uptoSmall : (H : Type) → List (DataW H) → Bool := fun _ ds => decide (uptoBulkAll ds ≤ 1048576)
def OpenSpec.upto (s : _root_.Go.ChangeSpec) : _root_.Go.OpenSpec := { _root_.Go.OpenSpec.ofChange s with cond := some uptoSmall }

/-- 'laws.FnExactFewestPosts', WHERE WHAT IT READS IS OF BULK AT MOST 1048576: true; the input reads as it did. -/
def fnExactFewestPostsUptoRow : OpenClaim := { program := "ytdolabkagkdfaaa", sum := "98d5d1123993578f437b17769691809342b6a6d9af0351e691f01c4786d8150e", func := "loop.example/g01373/laws.FnExactFewestPosts", spec := "fnExactFewestPosts", unfollowed := true, recurses := true, apart := false, narrowed := true }
def FnExactFewestPostsUptoSaid : Prop := fnExactFewestPostsUptoRow.holds Try.pinned (OpenSpec.upto fnExactFewestPostsSpec)

/-- 'laws.FnExactPostsAround', WHERE WHAT IT READS IS OF BULK AT MOST 1048576: true; the input reads as it did. -/
def fnExactPostsAroundUptoRow : OpenClaim := { program := "ytdolabkagkdfaaa", sum := "98d5d1123993578f437b17769691809342b6a6d9af0351e691f01c4786d8150e", func := "loop.example/g01373/laws.FnExactPostsAround", spec := "fnExactPostsAround", unfollowed := true, recurses := true, apart := false, narrowed := true }
def FnExactPostsAroundUptoSaid : Prop := fnExactPostsAroundUptoRow.holds Try.pinned (OpenSpec.upto fnExactPostsAroundSpec)

/-- 'laws.FnExactGapAround', WHERE WHAT IT READS IS OF BULK AT MOST 1048576: true; the input reads as it did. -/
def fnExactGapAroundUptoRow : OpenClaim := { program := "ytdolabkagkdfaaa", sum := "98d5d1123993578f437b17769691809342b6a6d9af0351e691f01c4786d8150e", func := "loop.example/g01373/laws.FnExactGapAround", spec := "fnExactGapAround", unfollowed := true, recurses := true, apart := false, narrowed := true }
def FnExactGapAroundUptoSaid : Prop := fnExactGapAroundUptoRow.holds Try.pinned (OpenSpec.upto fnExactGapAroundSpec)

/-- 'laws.FnExactEvenGap', WHERE WHAT IT READS IS OF BULK AT MOST 1048576: true; the input reads as it did. -/
def fnExactEvenGapUptoRow : OpenClaim := { program := "ytdolabkagkdfaaa", sum := "98d5d1123993578f437b17769691809342b6a6d9af0351e691f01c4786d8150e", func := "loop.example/g01373/laws.FnExactEvenGap", spec := "fnExactEvenGap", unfollowed := true, recurses := true, apart := false, narrowed := true }
def FnExactEvenGapUptoSaid : Prop := fnExactEvenGapUptoRow.holds Try.pinned (OpenSpec.upto fnExactEvenGapSpec)

/-- 'laws.FnExactPlacesOfPosts', WHERE WHAT IT READS IS OF BULK AT MOST 1048576: true; the input reads as it did. -/
def fnExactPlacesOfPostsUptoRow : OpenClaim := { program := "ytdolabkagkdfaaa", sum := "98d5d1123993578f437b17769691809342b6a6d9af0351e691f01c4786d8150e", func := "loop.example/g01373/laws.FnExactPlacesOfPosts", spec := "fnExactPlacesOfPosts", unfollowed := true, recurses := true, apart := false, narrowed := true }
def FnExactPlacesOfPostsUptoSaid : Prop := fnExactPlacesOfPostsUptoRow.holds Try.pinned (OpenSpec.upto fnExactPlacesOfPostsSpec)

/-- 'laws.FnExactWholePlaces', WHERE WHAT IT READS IS OF BULK AT MOST 1048576: true; the input reads as it did. -/
def fnExactWholePlacesUptoRow : OpenClaim := { program := "ytdolabkagkdfaaa", sum := "98d5d1123993578f437b17769691809342b6a6d9af0351e691f01c4786d8150e", func := "loop.example/g01373/laws.FnExactWholePlaces", spec := "fnExactWholePlaces", unfollowed := true, recurses := true, apart := false, narrowed := true }
def FnExactWholePlacesUptoSaid : Prop := fnExactWholePlacesUptoRow.holds Try.pinned (OpenSpec.upto fnExactWholePlacesSpec)

/-- 'laws.FnExactSharedHoles', WHERE WHAT IT READS IS OF BULK AT MOST 1048576: true; the input reads as it did. -/
def fnExactSharedHolesUptoRow : OpenClaim := { program := "ytdolabkagkdfaaa", sum := "98d5d1123993578f437b17769691809342b6a6d9af0351e691f01c4786d8150e", func := "loop.example/g01373/laws.FnExactSharedHoles", spec := "fnExactSharedHoles", unfollowed := true, recurses := true, apart := false, narrowed := true }
def FnExactSharedHolesUptoSaid : Prop := fnExactSharedHolesUptoRow.holds Try.pinned (OpenSpec.upto fnExactSharedHolesSpec)

/-- 'laws.FnExactCountHoles', WHERE WHAT IT READS IS OF BULK AT MOST 1048576: true; the input reads as it did. -/
def fnExactCountHolesUptoRow : OpenClaim := { program := "ytdolabkagkdfaaa", sum := "98d5d1123993578f437b17769691809342b6a6d9af0351e691f01c4786d8150e", func := "loop.example/g01373/laws.FnExactCountHoles", spec := "fnExactCountHoles", unfollowed := true, recurses := true, apart := false, narrowed := true }
def FnExactCountHolesUptoSaid : Prop := fnExactCountHolesUptoRow.holds Try.pinned (OpenSpec.upto fnExactCountHolesSpec)

/-- 'laws.FnExactAreRails', WHERE WHAT IT READS IS OF BULK AT MOST 1048576: true; the input reads as it did. -/
def fnExactAreRailsUptoRow : OpenClaim := { program := "ytdolabkagkdfaaa", sum := "98d5d1123993578f437b17769691809342b6a6d9af0351e691f01c4786d8150e", func := "loop.example/g01373/laws.FnExactAreRails", spec := "fnExactAreRails", unfollowed := true, recurses := true, apart := false, narrowed := true }
def FnExactAreRailsUptoSaid : Prop := fnExactAreRailsUptoRow.holds Try.pinned (OpenSpec.upto fnExactAreRailsSpec)

/-- 'laws.FnExactSquaresOfRails', WHERE WHAT IT READS IS OF BULK AT MOST 1048576: true; the input reads as it did. -/
def fnExactSquaresOfRailsUptoRow : OpenClaim := { program := "ytdolabkagkdfaaa", sum := "98d5d1123993578f437b17769691809342b6a6d9af0351e691f01c4786d8150e", func := "loop.example/g01373/laws.FnExactSquaresOfRails", spec := "fnExactSquaresOfRails", unfollowed := true, recurses := true, apart := false, narrowed := true }
def FnExactSquaresOfRailsUptoSaid : Prop := fnExactSquaresOfRailsUptoRow.holds Try.pinned (OpenSpec.upto fnExactSquaresOfRailsSpec)

/-- 'laws.FnExactWholeRails', WHERE WHAT IT READS IS OF BULK AT MOST 1048576: true; the input reads as it did. -/
def fnExactWholeRailsUptoRow : OpenClaim := { program := "ytdolabkagkdfaaa", sum := "98d5d1123993578f437b17769691809342b6a6d9af0351e691f01c4786d8150e", func := "loop.example/g01373/laws.FnExactWholeRails", spec := "fnExactWholeRails", unfollowed := true, recurses := true, apart := false, narrowed := true }
def FnExactWholeRailsUptoSaid : Prop := fnExactWholeRailsUptoRow.holds Try.pinned (OpenSpec.upto fnExactWholeRailsSpec)

/-- 'laws.FnExactFirstRails', WHERE WHAT IT READS IS OF BULK AT MOST 1048576: true; the input reads as it did. -/
def fnExactFirstRailsUptoRow : OpenClaim := { program := "ytdolabkagkdfaaa", sum := "98d5d1123993578f437b17769691809342b6a6d9af0351e691f01c4786d8150e", func := "loop.example/g01373/laws.FnExactFirstRails", spec := "fnExactFirstRails", unfollowed := true, recurses := true, apart := false, narrowed := true }
def FnExactFirstRailsUptoSaid : Prop := fnExactFirstRailsUptoRow.holds Try.pinned (OpenSpec.upto fnExactFirstRailsSpec)

end Rows
end Go.Proofs.Ytdolabkagkdfaaa
