/- The lines of script and their laws, part Qd: contracts by hand. -/
import Derived.Test.YtcgkmomhjincgaaDoorBLibQ0
import Derived.Test.YtcgkmomhjincgaaDoorBQb
import Derived.Test.YtcgkmomhjincgaaDoorBLibQ4
import Derived.Test.YtcgkmomhjincgaaDoorBLibQ5
import Derived.Test.YtcgkmomhjincgaaDoorBLibQ6
import Derived.Test.YtcgkmomhjincgaaDoorBLibQ7
import Derived.Deep.RegionHeld3
import Derived.Lib.ItoaLen
namespace Go.Proofs.YtcgkmomhjincgaaDoor.LibQ.Scr
open Go.RowKit Go.Proofs.YtcgkmomhjincgaaDoor.LibQ Go.Proofs.YtcgkmomhjincgaaDoorW.PrintWords Go.Proofs.YtcgkmomhjincgaaDoorW.PrintLast Go.Proofs.YtcgkmomhjincgaaDoorW.PrintMore
set_option linter.unusedVariables false
set_option linter.unusedSimpArgs false
attribute [local go_sem] max2_int min2_int max_two min_two max_three min_three max_four min_four
theorem R_lt {α : Type} {d : Kd α} {e : Nat} {w w1 : World} {base : Nat} {ok : Nat → Prop} {v : Value} {xs : List α} (h : d.R e w base ok v xs) (hk : ∀ q, base ≤ q → q < w.heap.size → w1.heap[q]? = w.heap[q]?) : d.R e w1 base ok v xs := by
  have h1 := Kd.R_step (Kd.R_bound h) (fun q hq hlt => hk q hq.2.1 hlt)
  exact Kd.R_mono h1 (fun _ hq => hq.1)
def noL : ByteArray × Int := (⟨#[]⟩, 1)
end Go.Proofs.YtcgkmomhjincgaaDoor.LibQ.Scr
