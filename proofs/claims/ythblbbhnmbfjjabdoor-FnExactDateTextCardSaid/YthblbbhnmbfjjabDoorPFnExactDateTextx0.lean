/- Walks of Go functions, written by program out of the print of the translation, with contracts of our own where the print has none. -/
import Derived.Test.YthblbbhnmbfjjabDoorProg
import Derived.Below
import Derived.Deep.Draws
import Derived.Deep.AppendLies
import Derived.Maps.AppendAt
import Derived.OwnWalk
import Derived.Laws.BytesArg
import Derived.Laws.MakeOwn
import Derived.Laws.OwnMore
import Derived.Deep.OwnRows
import Derived.Tactics
import Derived.Lib.ConvBytes
import Derived.Laws.Slices
import Derived.WalkKit
import Derived.KernelRfl
import Derived.RowKit3
import Derived.Deep.LoopGhost
import Derived.Deep.QuietTactic
import Derived.BigQuiet
import Derived.WideLaws
import Derived.Deep.DeepCutAuto
import Derived.Deep.CutBlock
import Derived.Deep.RegionHeld3
import Derived.Laws.Rows
import Derived.Lib.AppendStr
import Derived.ArgAppend
import Derived.Laws.IdiomCopy
import Derived.OrdersHeld
import Derived.Laws.BitsLemmas
import Derived.RowKit
import Derived.Test.YthblbbhnmbfjjabDoorShelf
import Derived.Lib.AppendIntMem
import Derived.Test.YthblbbhnmbfjjabDoorWWords
import Derived.Test.YthblbbhnmbfjjabDoorWLast
import Derived.Test.YthblbbhnmbfjjabDoorWTab
import Derived.Test.YthblbbhnmbfjjabDoorWFour
import Derived.Test.YthblbbhnmbfjjabDoorWQPut
import Derived.Test.YthblbbhnmbfjjabDoorWApart
import Derived.Test.YthblbbhnmbfjjabDoorWArr
import Derived.Test.YthblbbhnmbfjjabDoorWZeros
import Derived.Test.YthblbbhnmbfjjabDoorWFoot
import Derived.Test.YthblbbhnmbfjjabDoorWKept
import Derived.Test.YthblbbhnmbfjjabDoorWShare
import Derived.Test.YthblbbhnmbfjjabDoorWN
import Derived.Test.YthblbbhnmbfjjabDoorWFootNe
import Derived.Test.YthblbbhnmbfjjabDoorWAt
import Derived.Test.YthblbbhnmbfjjabDoorWEqStruct
import Derived.Test.YthblbbhnmbfjjabDoorWRepsOne
import Derived.Test.YthblbbhnmbfjjabDoorWInv
import Derived.Test.YthblbbhnmbfjjabDoorWInvWords
import Derived.Test.YthblbbhnmbfjjabDoorWGuard
import Derived.Test.YthblbbhnmbfjjabDoorWNEv
import Derived.Test.YthblbbhnmbfjjabDoorWMore
namespace Go.Proofs.YthblbbhnmbfjjabDoor.PFnExactDateText
open Go.RowKit Go.Proofs.YthblbbhnmbfjjabDoorW.PrintWords Go.Proofs.YthblbbhnmbfjjabDoorW.PrintLast Go.Proofs.YthblbbhnmbfjjabDoorW.PrintMore
attribute [local go_sem] max2_int min2_int max_two min_two max_three min_three max_four min_four   -- for this text's walks alone
set_option linter.unusedVariables false
set_option linter.unusedSimpArgs false



def errW : Option Int → Value
 | none => .nilIface
 | some c => .iface 0 (.int .i64 c)
theorem errW_none : errW none = .nilIface := rfl
theorem errW_some (c : Int) : errW (some c) = .iface 0 (.int .i64 c) := rfl

theorem info2 : (Tryd.prog.info? 2).map (fun i => (i.zero, i.size, i.bytes)) = some (some (.int .i64 0), 1, 8) := by kernel_rfl
theorem info5 : (Tryd.prog.info? 5).map (fun i => (i.zero, i.size, i.bytes)) = some (some (.int .u8 0), 1, 1) := by kernel_rfl
-- the values' own types

end Go.Proofs.YthblbbhnmbfjjabDoor.PFnExactDateText
