-- Rows of the kit's printed words that this claim uses, taken out of them by a program of this session (wip/shake.py).
import Derived.Test.YtodmfdkmmpefpaaGreatDoorWWords
namespace Go.Proofs.YtodmfdkmmpefpaaGreatDoorW.PrintWords
open Go.RowKit
end Go.Proofs.YtodmfdkmmpefpaaGreatDoorW.PrintWords
