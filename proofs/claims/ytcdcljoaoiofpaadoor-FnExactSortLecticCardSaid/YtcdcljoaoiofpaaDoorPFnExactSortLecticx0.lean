-- Written by a program of this session (wip/myprint.py), which runs the kit's print with contracts proved by hand; not the kit's own print. Lean checks it.
import Derived.Test.YtcdcljoaoiofpaaDoorProg
import Derived.Below
import Derived.Deep.Draws
import Derived.Deep.AppendLies
import Derived.Maps.AppendAt
import Derived.OwnWalk
import Derived.Laws.BytesArg
import Derived.Laws.MakeOwn
import Derived.Laws.OwnMore
import Derived.Deep.OwnRows
import Derived.Tactics
import Derived.Lib.ConvBytes
import Derived.Laws.Slices
import Derived.WalkKit
import Derived.KernelRfl
import Derived.RowKit3
import Derived.Deep.LoopGhost
import Derived.Deep.QuietTactic
import Derived.BigQuiet
import Derived.WideLaws
import Derived.Deep.DeepCutAuto
import Derived.Deep.CutBlock
import Derived.Deep.RegionHeld3
import Derived.Laws.Rows
import Derived.Lib.AppendStr
import Derived.ArgAppend
import Derived.Laws.IdiomCopy
import Derived.OrdersHeld
import Derived.Laws.BitsLemmas
import Derived.RowKit
import Derived.Shelf.Abstract
import Derived.Test.YtcdcljoaoiofpaaDoorShelf
import Derived.Lib.OwnBridge
import Derived.Test.YtcdcljoaoiofpaaDoorWWords
import Derived.Test.YtcdcljoaoiofpaaDoorWLast
import Derived.Test.YtcdcljoaoiofpaaDoorWTab
import Derived.Test.YtcdcljoaoiofpaaDoorWFour
import Derived.Test.YtcdcljoaoiofpaaDoorWQPut
import Derived.Test.YtcdcljoaoiofpaaDoorWApart
import Derived.Test.YtcdcljoaoiofpaaDoorWArr
import Derived.Test.YtcdcljoaoiofpaaDoorWZeros
import Derived.Test.YtcdcljoaoiofpaaDoorWFoot
import Derived.Test.YtcdcljoaoiofpaaDoorWKept
import Derived.Test.YtcdcljoaoiofpaaDoorWShare
import Derived.Test.YtcdcljoaoiofpaaDoorWN
import Derived.Test.YtcdcljoaoiofpaaDoorWFootNe
import Derived.Test.YtcdcljoaoiofpaaDoorWAt
import Derived.Test.YtcdcljoaoiofpaaDoorWEqStruct
import Derived.Test.YtcdcljoaoiofpaaDoorWRepsOne
import Derived.Test.YtcdcljoaoiofpaaDoorWInv
import Derived.Test.YtcdcljoaoiofpaaDoorWInvWords
import Derived.Test.YtcdcljoaoiofpaaDoorWGuard
import Derived.Test.YtcdcljoaoiofpaaDoorWNEv
import Derived.Test.YtcdcljoaoiofpaaDoorWMore
namespace Go.Proofs.YtcdcljoaoiofpaaDoor.PFnExactSortLectic
open Go.RowKit Go.Proofs.YtcdcljoaoiofpaaDoorW.PrintWords Go.Proofs.YtcdcljoaoiofpaaDoorW.PrintLast Go.Proofs.YtcdcljoaoiofpaaDoorW.PrintMore
attribute [local go_sem] max2_int min2_int max_two min_two max_three min_three max_four min_four   -- for this text's walks alone
set_option linter.unusedVariables false
set_option linter.unusedSimpArgs false



def errW : Option Int → Value
  | none => .nilIface
  | some c => .iface 0 (.int .i64 c)
theorem errW_none : errW none = .nilIface := rfl
theorem errW_some (c : Int) : errW (some c) = .iface 0 (.int .i64 c) := rfl

theorem info3 : (Tryd.prog.info? 3).map (fun i => (i.zero, i.size, i.bytes)) = some (some (.int .i64 0), 1, 8) := by kernel_rfl
-- the values' own types

end Go.Proofs.YtcdcljoaoiofpaaDoor.PFnExactSortLectic
