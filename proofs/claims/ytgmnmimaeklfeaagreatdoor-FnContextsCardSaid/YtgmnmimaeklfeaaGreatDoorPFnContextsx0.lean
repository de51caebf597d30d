-- Written by a program of this session (wip/myprint.py), which runs the kit's print with contracts proved by hand; not the kit's own print. Lean checks it.
import Derived.Test.YtgmnmimaeklfeaaGreatDoorProg
import Derived.Below
import Derived.Deep.Draws
import Derived.Deep.AppendLies
import Derived.Maps.AppendAt
import Derived.OwnWalk
import Derived.Laws.BytesArg
import Derived.Laws.MakeOwn
import Derived.Laws.OwnMore
import Derived.Deep.OwnRows
import Derived.Tactics
import Derived.Lib.ConvBytes
import Derived.Laws.Slices
import Derived.WalkKit
import Derived.KernelRfl
import Derived.RowKit3
import Derived.Deep.LoopGhost
import Derived.Deep.QuietTactic
import Derived.BigQuiet
import Derived.WideLaws
import Derived.Deep.DeepCutAuto
import Derived.Deep.CutBlock
import Derived.Deep.RegionHeld3
import Derived.Laws.Rows
import Derived.Lib.AppendStr
import Derived.ArgAppend
import Derived.Laws.IdiomCopy
import Derived.OrdersHeld
import Derived.Laws.BitsLemmas
import Derived.RowKit
import Derived.Shelf.Abstract
import Derived.Test.YtgmnmimaeklfeaaGreatDoorShelf2
import Derived.Test.YtgmnmimaeklfeaaGreatDoorWWords
import Derived.Test.YtgmnmimaeklfeaaGreatDoorWLast
import Derived.Test.YtgmnmimaeklfeaaGreatDoorWTab
import Derived.Test.YtgmnmimaeklfeaaGreatDoorWFour
import Derived.Test.YtgmnmimaeklfeaaGreatDoorWQPut
import Derived.Test.YtgmnmimaeklfeaaGreatDoorWApart
import Derived.Test.YtgmnmimaeklfeaaGreatDoorWArr
import Derived.Test.YtgmnmimaeklfeaaGreatDoorWZeros
import Derived.Test.YtgmnmimaeklfeaaGreatDoorWFoot
import Derived.Test.YtgmnmimaeklfeaaGreatDoorWKept
import Derived.Test.YtgmnmimaeklfeaaGreatDoorWShare
import Derived.Test.YtgmnmimaeklfeaaGreatDoorWN
import Derived.Test.YtgmnmimaeklfeaaGreatDoorWFootNe
import Derived.Test.YtgmnmimaeklfeaaGreatDoorWAt
import Derived.Test.YtgmnmimaeklfeaaGreatDoorWEqStruct
import Derived.Test.YtgmnmimaeklfeaaGreatDoorWRepsOne
import Derived.Test.YtgmnmimaeklfeaaGreatDoorWInv
import Derived.Test.YtgmnmimaeklfeaaGreatDoorWInvWords
import Derived.Test.YtgmnmimaeklfeaaGreatDoorWGuard
import Derived.Test.YtgmnmimaeklfeaaGreatDoorWNEv
import Derived.Test.YtgmnmimaeklfeaaGreatDoorWMore
import Derived.Test.YtgmnmimaeklfeaaGreatDoorTight
namespace Go.Proofs.YtgmnmimaeklfeaaGreatDoor.PFnContexts
open Go.RowKit Go.Proofs.YtgmnmimaeklfeaaGreatDoorW.PrintWords Go.Proofs.YtgmnmimaeklfeaaGreatDoorW.PrintLast Go.Proofs.YtgmnmimaeklfeaaGreatDoorW.PrintMore
attribute [local go_sem] max2_int min2_int max_two min_two max_three min_three max_four min_four   -- for this text's walks alone
set_option linter.unusedVariables false
set_option linter.unusedSimpArgs false



def errW : Option Int → Value
  | none => .nilIface
  | some c => .iface 0 (.int .i64 c)
theorem errW_none : errW none = .nilIface := rfl
theorem errW_some (c : Int) : errW (some c) = .iface 0 (.int .i64 c) := rfl

theorem info3 : (Tryz.prog.info? 3).map (fun i => (i.zero, i.size, i.bytes)) = some (some (.int .i64 0), 1, 8) := by kernel_rfl
theorem info5 : (Tryz.prog.info? 5).map (fun i => (i.zero, i.size, i.bytes)) = some (some (.int .u8 0), 1, 1) := by kernel_rfl
theorem info9 : (Tryz.prog.info? 9).map (fun i => (i.zero, i.size, i.bytes)) = some (some (.string ⟨#[]⟩), 1, 16) := by kernel_rfl
-- the values' own types

end Go.Proofs.YtgmnmimaeklfeaaGreatDoor.PFnContexts
