-- Printed by wip/pp.py of this claim's session (the kit's print over functions that are given by hand). Not trusted: Lean checks it.
import Derived.Test.YtnkpdcidlnjnpaaProg
import Derived.Below
import Derived.Deep.Draws
import Derived.Deep.AppendLies
import Derived.Maps.AppendAt
import Derived.OwnWalk
import Derived.Laws.BytesArg
import Derived.Laws.MakeOwn
import Derived.Laws.OwnMore
import Derived.Deep.OwnRows
import Derived.Tactics
import Derived.Lib.ConvBytes
import Derived.Laws.Slices
import Derived.WalkKit
import Derived.KernelRfl
import Derived.RowKit3
import Derived.Deep.LoopGhost
import Derived.Deep.QuietTactic
import Derived.BigQuiet
import Derived.WideLaws
import Derived.Deep.DeepCutAuto
import Derived.Deep.CutBlock
import Derived.Deep.RegionHeld3
import Derived.Laws.Rows
import Derived.Lib.AppendStr
import Derived.ArgAppend
import Derived.Laws.IdiomCopy
import Derived.OrdersHeld
import Derived.Laws.BitsLemmas
import Derived.RowKit
import Derived.Shelf.Abstract
import Derived.Lib.Bytealg
import Derived.Lib.OthersKept
import Derived.Test.YtnkpdcidlnjnpaaWWords
import Derived.Test.YtnkpdcidlnjnpaaWLast
import Derived.Test.YtnkpdcidlnjnpaaWTab
import Derived.Test.YtnkpdcidlnjnpaaWFour
import Derived.Test.YtnkpdcidlnjnpaaWQPut
import Derived.Test.YtnkpdcidlnjnpaaWApart
import Derived.Test.YtnkpdcidlnjnpaaWArr
import Derived.Test.YtnkpdcidlnjnpaaWZeros
import Derived.Test.YtnkpdcidlnjnpaaWFoot
import Derived.Test.YtnkpdcidlnjnpaaWKept
import Derived.Test.YtnkpdcidlnjnpaaWShare
import Derived.Test.YtnkpdcidlnjnpaaWN
import Derived.Test.YtnkpdcidlnjnpaaWFootNe
import Derived.Test.YtnkpdcidlnjnpaaWAt
import Derived.Test.YtnkpdcidlnjnpaaWEqStruct
import Derived.Test.YtnkpdcidlnjnpaaWRepsOne
import Derived.Test.YtnkpdcidlnjnpaaWInv
import Derived.Test.YtnkpdcidlnjnpaaWInvWords
import Derived.Test.YtnkpdcidlnjnpaaWGuard
import Derived.Test.YtnkpdcidlnjnpaaWNEv
import Derived.Test.YtnkpdcidlnjnpaaWMore
namespace Go.Proofs.Ytnkpdcidlnjnpaa.P
open Go.RowKit Go.Proofs.YtnkpdcidlnjnpaaW.PrintWords Go.Proofs.YtnkpdcidlnjnpaaW.PrintLast Go.Proofs.YtnkpdcidlnjnpaaW.PrintMore
attribute [local go_sem] max2_int min2_int max_two min_two max_three min_three max_four min_four   -- for this text's walks alone
set_option linter.unusedVariables false
set_option linter.unusedSimpArgs false



def errW : Option Int → Value
  | none => .nilIface
  | some c => .iface 0 (.int .i64 c)
theorem errW_none : errW none = .nilIface := rfl
theorem errW_some (c : Int) : errW (some c) = .iface 0 (.int .i64 c) := rfl

theorem info3 : (Try.prog.info? 3).map (fun i => (i.zero, i.size, i.bytes)) = some (some (.int .i64 0), 1, 8) := by kernel_rfl
theorem info5 : (Try.prog.info? 5).map (fun i => (i.zero, i.size, i.bytes)) = some (some (.int .u8 0), 1, 1) := by kernel_rfl
-- the values' own types

end Go.Proofs.Ytnkpdcidlnjnpaa.P
