-- Rows of the kit's printed words that this claim uses, taken out of them by a program of this session (wip/shake.py).
import Derived.Test.YtgmnmimaeklfeaaGreatDoorWWords
import Derived.Laws.StructEq
namespace Go.Proofs.YtgmnmimaeklfeaaGreatDoorW.PrintWords
open Go.RowKit
end Go.Proofs.YtgmnmimaeklfeaaGreatDoorW.PrintWords
