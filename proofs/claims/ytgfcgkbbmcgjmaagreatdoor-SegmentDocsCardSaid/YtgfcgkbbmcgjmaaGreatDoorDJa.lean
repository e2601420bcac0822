/- What is given of the library's functions (printed by a program). -/
import Derived.Test.YtgfcgkbbmcgjmaaGreatDoorDEb2
import Derived.Test.YtgfcgkbbmcgjmaaGreatDoorProg
import Derived.KernelRfl
import Derived.Laws.Externs
namespace Go.Proofs.YtgfcgkbbmcgjmaaGreatDoor.Eng
set_option linter.unusedVariables false
set_option linter.unusedSimpArgs false
set_option maxRecDepth 100000
def bldT:Nat:=121
theorem given82 (args:List AV) (H:Hp) (v:AV) (H':Hp) (h:gvRun (some (.str)) args H=some (v,H')) (σ:Sg) (w:World) (vs:Array Value) (hR:Rel (gp Tryz.prog) σ H w) (hv:VRs σ args vs.toList):CallR Tryz.prog 82 vs w (End Tryz.prog σ H w v H'):=
 string_ok (ent_of Tryz.func82 (by kernel_rfl) (of_decide_eq_true (by kernel_rfl))) string_nil string_row args H v H' h σ w vs hR hv
theorem given137 (args:List AV) (H:Hp) (v:AV) (H':Hp) (h:gvRun (some (.chk bldT)) args H=some (v,H')) (σ:Sg) (w:World) (vs:Array Value) (hR:Rel (gp Tryz.prog) σ H w) (hv:VRs σ args vs.toList):CallR Tryz.prog 137 vs w (End Tryz.prog σ H w v H'):=
 copy_ok (ent_of Tryz.func137 (by kernel_rfl) (of_decide_eq_true (by kernel_rfl))) copy_used copy_fresh args H v H' h σ w vs hR hv
theorem given280 (args:List AV) (H:Hp) (v:AV) (H':Hp) (h:gvRun (some (.insert 2 40)) args H=some (v,H')) (σ:Sg) (w:World) (vs:Array Value) (hR:Rel (gp Tryz.prog) σ H w) (hv:VRs σ args vs.toList):CallR Tryz.prog 280 vs w (End Tryz.prog σ H w v H'):=
 insertB_ok (by kernel_rfl) (g:=298) (r:=299) (zero:=[(.str []), .nils]) (size:=2) rfl (scAll_mem rfl) (tS:=276) (tR:=4) (e:=302) Tryz.underlying276 (fun w=>run_size (by kernel_rfl))
  (fun args w v h=>by rw [run_callFunc_extern Tryz.func298 (by kernel_rfl) (by kernel_rfl) (by kernel_rfl) (e:=Extern.SlicesOverlaps.overlaps #[276,276] #[4]) (by kernel_rfl),h];rfl) (by kernel_rfl) args H v H' h σ w vs hR hv
theorem given313 (args:List AV) (H:Hp) (v:AV) (H':Hp) (h:gvRun (some (.ixb)) args H=some (v,H')) (σ:Sg) (w:World) (vs:Array Value) (hR:Rel (gp Tryz.prog) σ H w) (hv:VRs σ args vs.toList):CallR Tryz.prog 313 vs w (End Tryz.prog σ H w v H'):=
 ixb_ok (fun a c w=>by rw [run_callFunc_extern Tryz.func313 (by kernel_rfl) (by kernel_rfl) (by kernel_rfl) (e:=Extern.BytealgIndexByte.indexByte) (by kernel_rfl),Lib.run_indexByteString];rfl) args H v H' h σ w vs hR hv
def gv:Nat→Option Gv:=fun f=>match f with
 | 82=>some (.str)
 | 137=>some (.chk bldT)
 | 280=>some (.insert 2 40)
 | 313=>some (.ixb)
 | _=>none
theorem given_ok:GivenOK Tryz.prog (fun f=>gvRun (gv f)) (fun f=>(gv f).isSome):=by
 intro f args H v H' h1 h2 σ w vs hR hv
 have h2:gvRun (gv f) args H=some (v,H'):=h2
 unfold gv at h2
 split at h2
 ·exact given82 args H v H' h2 σ w vs hR hv
 ·exact given137 args H v H' h2 σ w vs hR hv
 ·exact given280 args H v H' h2 σ w vs hR hv
 ·exact given313 args H v H' h2 σ w vs hR hv
 ·cases h2
end Go.Proofs.YtgfcgkbbmcgjmaaGreatDoor.Eng
