/- The table of what is reasoned about (printed by a program). -/
import Derived.Test.YtgfcgkbbmcgjmaaGreatDoorDBa
import Derived.Test.YtgfcgkbbmcgjmaaGreatDoorDK
import Derived.Laws.Externs
namespace Go.Proofs.YtgfcgkbbmcgjmaaGreatDoor.Eng
set_option linter.unusedVariables false
set_option linter.unusedSimpArgs false
set_option maxRecDepth 100000
def fa:Nat→Option AFn:=fun g=>match g with
 | 253=>some A253
 | _=>none
def GlOk (H:Hp):Prop:=LaidZ laidLit H
theorem GlOk.mono {H H':Hp} (h:GlOk H) (m:Mo H H'):GlOk H':=LaidZ.mono h m
theorem GlOk.g0 {H:Hp} (h:GlOk H):H.m.get 0=some ⟨gl0,0,false⟩:=h (0,gl0) (.head _)
theorem GlOk.g3 {H:Hp} (h:GlOk H):H.m.get 3=some ⟨gl3,0,false⟩:=h (3,gl3) (.tail _ (.head _))
theorem GlOk.g1 {H:Hp} (h:GlOk H):H.m.get 1=some ⟨gl1,0,false⟩:=h (1,gl1) (.tail _ (.tail _ (.head _)))
theorem GlOk.g2 {H:Hp} (h:GlOk H):H.m.get 2=some ⟨gl2,0,false⟩:=h (2,gl2) (.tail _ (.tail _ (.tail _ (.head _))))
def bgv:Nat→Option Gv:=fun f=>match f with
 | 13=>some (.closed laidLit)
 | 280=>some (.insert 2 40)
 | 313=>some (.ixb)
 | _=>none
noncomputable def env:Env:=⟨cFn Tryz.prog,fun f=>gvRun (bgv f),fun f=>(bgv f).isSome⟩
theorem bgiven13 (args:List AV) (H:Hp) (v:AV) (H':Hp) (h:gvRun (some (.closed laidLit)) args H=some (v,H')) (σ:Sg) (w:World) (vs:Array Value) (hR:Rel (gp Tryz.prog) σ H w) (hv:VRs σ args vs.toList):CallR Tryz.prog 13 vs w (End Tryz.prog σ H w v H'):=
 by
  obtain ⟨H1,hr⟩:=answer_true run_13
  rw [←H0_eq] at hr
  exact closed_ok (by kernel_rfl) (all_ok 1000) hr args H v H' h σ w vs hR hv
theorem bgiven280 (args:List AV) (H:Hp) (v:AV) (H':Hp) (h:gvRun (some (.insert 2 40)) args H=some (v,H')) (σ:Sg) (w:World) (vs:Array Value) (hR:Rel (gp Tryz.prog) σ H w) (hv:VRs σ args vs.toList):CallR Tryz.prog 280 vs w (End Tryz.prog σ H w v H'):=
 given280 args H v H' h σ w vs hR hv
theorem bgiven313 (args:List AV) (H:Hp) (v:AV) (H':Hp) (h:gvRun (some (.ixb)) args H=some (v,H')) (σ:Sg) (w:World) (vs:Array Value) (hR:Rel (gp Tryz.prog) σ H w) (hv:VRs σ args vs.toList):CallR Tryz.prog 313 vs w (End Tryz.prog σ H w v H'):=
 given313 args H v H' h σ w vs hR hv
theorem bgiven_ok:GivenOK Tryz.prog (fun f=>gvRun (bgv f)) (fun f=>(bgv f).isSome):=by
 intro f args H v H' h1 h2 σ w vs hR hv
 have h2:gvRun (bgv f) args H=some (v,H'):=h2
 unfold bgv at h2
 split at h2
 ·exact bgiven13 args H v H' h2 σ w vs hR hv
 ·exact bgiven280 args H v H' h2 σ w vs hR hv
 ·exact bgiven313 args H v H' h2 σ w vs hR hv
 ·cases h2
theorem env_ok (n:Nat):CallOK Tryz.prog (env.all n):=runs_ok (fun nt=>draw_ok (by kernel_rfl)) (fun _ _ h=>h) bgiven_ok n
theorem fa_ok: ∀ g A,fa g=some A→env.fs g=some A.er:=by
 intro g A h
 unfold fa at h
 split at h
 ·cases h;kernel_rfl
 ·cases h
end Go.Proofs.YtgfcgkbbmcgjmaaGreatDoor.Eng
