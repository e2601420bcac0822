/- The table of what is reasoned about (printed by a program). -/
import Derived.Test.YtdokohdkdoiclaaGreatDoorBa
import Derived.Test.YtdokohdkdoiclaaGreatDoorK
import Derived.Laws.Externs
namespace Go.Proofs.YtdokohdkdoiclaaGreatDoor.Eng
set_option linter.unusedVariables false
set_option linter.unusedSimpArgs false
set_option maxRecDepth 100000
def fa : Nat → Option AFn := fun g => match g with
  | _ => none
def btabL : List (Nat × IFn) := [(4, A4.er), (21, A21.er), (22, A22.er), (23, A23.er), (24, A24.er), (57, A57.er), (58, A58.er), (59, A59.er), (60, A60.er), (105, A105.er), (106, A106.er), (107, A107.er), (108, A108.er)]
def btab : Tr IFn := (.nd (.nd (.nd (.nd .lf none (.nd .lf (some A23.er) .lf)) none (.nd .lf none (.nd (.nd .lf none (.nd .lf (some A107.er) .lf)) none (.nd .lf (some A59.er) .lf)))) none (.nd (.nd .lf none (.nd (.nd .lf none (.nd .lf (some A105.er) .lf)) none (.nd .lf (some A57.er) .lf))) none (.nd (.nd .lf (some A21.er) .lf) none .lf))) none (.nd (.nd (.nd .lf none (.nd .lf (some A24.er) .lf)) (some A4.er) (.nd .lf none (.nd (.nd .lf none (.nd .lf (some A108.er) .lf)) none (.nd .lf (some A60.er) .lf)))) none (.nd (.nd .lf none (.nd (.nd .lf none (.nd .lf (some A106.er) .lf)) none (.nd .lf (some A58.er) .lf))) none (.nd (.nd .lf (some A22.er) .lf) none .lf))))
theorem btab_eq : tabOf btabL = btab := by kernel_rfl
theorem bc {x : Nat × IFn} {l : List (Nat × IFn)} (h : cFn Tryz.prog x.1 = some x.2) (t : ∀ y ∈ l, cFn Tryz.prog y.1 = some y.2) : ∀ y ∈ x :: l, cFn Tryz.prog y.1 = some y.2 := fun y hy => by
  rcases List.mem_cons.1 hy with rfl | hy
  · exact h
  · exact t y hy
theorem btab_ok : ∀ x ∈ btabL, cFn Tryz.prog x.1 = some x.2 := bc b4 (bc b21 (bc b22 (bc b23 (bc b24 (bc b57 (bc b58 (bc b59 (bc b60 (bc b105 (bc b106 (bc b107 (bc b108 (fun _ h => by cases h)))))))))))))
theorem btab_fn (f : Nat) (F : IFn) (h : btab.get f = some F) : cFn Tryz.prog f = some F := tab_get btabL btab_ok f F (by rw [btab_eq]; exact h)
def bgv : Nat → Option Gv := fun f => match f with
  | 25 => some (.closed laidLit)
  | 154 => some (.cmp)
  | _ => none
noncomputable def env : Env := ⟨btab.get, fun f => gvRun (bgv f), fun f => (bgv f).isSome⟩
theorem bgiven25 (args : List AV) (H : Hp) (v : AV) (H' : Hp) (h : gvRun (some (.closed laidLit)) args H = some (v, H')) (σ : Sg) (w : World) (vs : Array Value) (hR : Rel Tryz.prog.globals.size σ H w) (hv : VRs σ args vs.toList) : CallR Tryz.prog 25 vs w (End Tryz.prog σ H w v H') :=
  by
    obtain ⟨H1, hr⟩ := answer_true run_25
    rw [← H0_eq] at hr
    exact closed_ok (by kernel_rfl) (all_ok 1000) hr args H v H' h σ w vs hR hv
theorem bgiven154 (args : List AV) (H : Hp) (v : AV) (H' : Hp) (h : gvRun (some (.cmp)) args H = some (v, H')) (σ : Sg) (w : World) (vs : Array Value) (hR : Rel Tryz.prog.globals.size σ H w) (hv : VRs σ args vs.toList) : CallR Tryz.prog 154 vs w (End Tryz.prog σ H w v H') :=
  cmp_ok (fun a b w => by rw [run_callFunc_extern Tryz.func154 (by kernel_rfl) (by kernel_rfl) (by kernel_rfl) (e := Extern.BytealgCompare.compare) (by kernel_rfl), Lib.run_compareString]; rfl) args H v H' h σ w vs hR hv
theorem bgiven_ok : GivenOK Tryz.prog (fun f => gvRun (bgv f)) (fun f => (bgv f).isSome) := by
  intro f args H v H' h1 h2 σ w vs hR hv
  have h2 : gvRun (bgv f) args H = some (v, H') := h2
  unfold bgv at h2
  split at h2
  · exact bgiven25 args H v H' h2 σ w vs hR hv
  · exact bgiven154 args H v H' h2 σ w vs hR hv
  · cases h2
theorem env_ok (n : Nat) : CallOK Tryz.prog (env.all n) := runs_ok (fun nt => draw_ok (by kernel_rfl)) btab_fn bgiven_ok n
theorem fa_ok : ∀ g A, fa g = some A → env.fs g = some A.er := by
  intro g A h
  unfold fa at h
  split at h
  · cases h

end Go.Proofs.YtdokohdkdoiclaaGreatDoor.Eng
