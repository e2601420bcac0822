import Derived.Test.YtcgkmomhjincgaaDoorBWLast
import Derived.Test.YtcgkmomhjincgaaDoorBWWords
namespace Go.Proofs.YtcgkmomhjincgaaDoorW.PrintLast
open Go.Proofs.YtcgkmomhjincgaaDoorW.PrintWords (Aside0)
section
variable {md : Region.Mode} {ops : Array Oper} {T : Bool × List (List Nat × List Nat)} {l l' li lj lk : Array Bool} {ds : List Nat} {i j k : Nat}
end
end Go.Proofs.YtcgkmomhjincgaaDoorW.PrintLast
