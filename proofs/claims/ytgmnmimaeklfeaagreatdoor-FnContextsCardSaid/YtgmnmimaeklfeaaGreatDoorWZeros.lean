-- Rows of the kit's printed words that this claim uses, taken out of them by a program of this session (wip/shake.py).
import Derived.Test.YtgmnmimaeklfeaaGreatDoorWApart
import Derived.Test.YtgmnmimaeklfeaaGreatDoorWArr
namespace Go.Proofs.YtgmnmimaeklfeaaGreatDoorW.PrintWords
open Go.RowKit
end Go.Proofs.YtgmnmimaeklfeaaGreatDoorW.PrintWords
