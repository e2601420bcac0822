import Derived.Test.YtcgkmomhjincgaaDoorNWInv
import Derived.Test.YtcgkmomhjincgaaDoorNWFootNe
namespace Go.Proofs.YtcgkmomhjincgaaDoorW.PrintWords
open Go.RowKit
end Go.Proofs.YtcgkmomhjincgaaDoorW.PrintWords
namespace Go.Proofs.YtcgkmomhjincgaaDoorW.PrintLast
section
variable {ops : Array Oper} {a : Act} {o og : Oper} {g : Nat} {t : Tmp} {u : Bool}
end
end Go.Proofs.YtcgkmomhjincgaaDoorW.PrintLast
