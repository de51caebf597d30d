-- Written by a program of this session (wip/myprint.py), which runs the kit's print with contracts proved by hand; not the kit's own print. Lean checks it.
import Derived.Test.YtpnnichlkaedlaaDoorProg
import Derived.Below
import Derived.Deep.Draws
import Derived.Deep.AppendLies
import Derived.Maps.AppendAt
import Derived.OwnWalk
import Derived.Laws.BytesArg
import Derived.Laws.MakeOwn
import Derived.Laws.OwnMore
import Derived.Deep.OwnRows
import Derived.Tactics
import Derived.Lib.ConvBytes
import Derived.Laws.Slices
import Derived.WalkKit
import Derived.KernelRfl
import Derived.RowKit3
import Derived.Deep.LoopGhost
import Derived.Deep.QuietTactic
import Derived.BigQuiet
import Derived.WideLaws
import Derived.Deep.DeepCutAuto
import Derived.Deep.CutBlock
import Derived.Deep.RegionHeld3
import Derived.Laws.Rows
import Derived.Lib.AppendStr
import Derived.ArgAppend
import Derived.Laws.IdiomCopy
import Derived.OrdersHeld
import Derived.Laws.BitsLemmas
import Derived.RowKit
import Derived.Shelf.Abstract
import Derived.Test.YtpnnichlkaedlaaDoorShelf2
import Derived.Test.YtpnnichlkaedlaaDoorWWords
import Derived.Test.YtpnnichlkaedlaaDoorWLast
import Derived.Test.YtpnnichlkaedlaaDoorWTab
import Derived.Test.YtpnnichlkaedlaaDoorWFour
import Derived.Test.YtpnnichlkaedlaaDoorWQPut
import Derived.Test.YtpnnichlkaedlaaDoorWApart
import Derived.Test.YtpnnichlkaedlaaDoorWArr
import Derived.Test.YtpnnichlkaedlaaDoorWZeros
import Derived.Test.YtpnnichlkaedlaaDoorWFoot
import Derived.Test.YtpnnichlkaedlaaDoorWKept
import Derived.Test.YtpnnichlkaedlaaDoorWShare
import Derived.Test.YtpnnichlkaedlaaDoorWN
import Derived.Test.YtpnnichlkaedlaaDoorWFootNe
import Derived.Test.YtpnnichlkaedlaaDoorWAt
import Derived.Test.YtpnnichlkaedlaaDoorWEqStruct
import Derived.Test.YtpnnichlkaedlaaDoorWRepsOne
import Derived.Test.YtpnnichlkaedlaaDoorWInv
import Derived.Test.YtpnnichlkaedlaaDoorWInvWords
import Derived.Test.YtpnnichlkaedlaaDoorWGuard
import Derived.Test.YtpnnichlkaedlaaDoorWNEv
import Derived.Test.YtpnnichlkaedlaaDoorWMore
namespace Go.Proofs.YtpnnichlkaedlaaDoor.PFnNumbers
open Go.RowKit Go.Proofs.YtpnnichlkaedlaaDoorW.PrintWords Go.Proofs.YtpnnichlkaedlaaDoorW.PrintLast Go.Proofs.YtpnnichlkaedlaaDoorW.PrintMore
attribute [local go_sem] max2_int min2_int max_two min_two max_three min_three max_four min_four   -- for this text's walks alone
set_option linter.unusedVariables false
set_option linter.unusedSimpArgs false



def errW : Option Int → Value
  | none => .nilIface
  | some c => .iface 0 (.int .i64 c)
theorem errW_none : errW none = .nilIface := rfl
theorem errW_some (c : Int) : errW (some c) = .iface 0 (.int .i64 c) := rfl

theorem info3 : (Tryd.prog.info? 3).map (fun i => (i.zero, i.size, i.bytes)) = some (some (.int .i64 0), 1, 8) := by kernel_rfl
theorem info5 : (Tryd.prog.info? 5).map (fun i => (i.zero, i.size, i.bytes)) = some (some (.int .u8 0), 1, 1) := by kernel_rfl
theorem info9 : (Tryd.prog.info? 9).map (fun i => (i.zero, i.size, i.bytes)) = some (some (.string ⟨#[]⟩), 1, 16) := by kernel_rfl
-- the values' own types

end Go.Proofs.YtpnnichlkaedlaaDoor.PFnNumbers
