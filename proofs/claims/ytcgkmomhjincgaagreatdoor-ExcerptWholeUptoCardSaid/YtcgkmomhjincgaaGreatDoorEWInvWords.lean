import Derived.Test.YtcgkmomhjincgaaGreatDoorEWInv
import Derived.Test.YtcgkmomhjincgaaGreatDoorEWFootNe
namespace Go.Proofs.YtcgkmomhjincgaaGreatDoorW.PrintWords
open Go.RowKit
end Go.Proofs.YtcgkmomhjincgaaGreatDoorW.PrintWords
namespace Go.Proofs.YtcgkmomhjincgaaGreatDoorW.PrintLast
section
variable {ops : Array Oper} {a : Act} {o og : Oper} {g : Nat} {t : Tmp} {u : Bool}
end
end Go.Proofs.YtcgkmomhjincgaaGreatDoorW.PrintLast
