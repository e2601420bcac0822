/- The table of what is reasoned about (printed by a program). -/
import Derived.Test.YtgfcgkbbmcgjmaaGreatDoorABa
import Derived.Test.YtgfcgkbbmcgjmaaGreatDoorAK
import Derived.Laws.Externs
namespace Go.Proofs.YtgfcgkbbmcgjmaaGreatDoor.Eng
set_option linter.unusedVariables false
set_option linter.unusedSimpArgs false
set_option maxRecDepth 100000
def fa : Nat → Option AFn := fun g => match g with
  | _ => none
def GlOk (H : Hp) : Prop := LaidZ laidLit H
theorem GlOk.mono {H H' : Hp} (h : GlOk H) (m : Mo H H') : GlOk H' := LaidZ.mono h m
def gl0 : List AV := [(.int .u8 (.ofNat 0)), (.int .u8 (.ofNat 1)), (.int .u8 (.ofNat 56)), (.int .u8 (.ofNat 2)), (.int .u8 (.ofNat 57)), (.int .u8 (.ofNat 49)), (.int .u8 (.ofNat 28)), (.int .u8 (.ofNat 3)), (.int .u8 (.ofNat 61)), (.int .u8 (.ofNat 58)), (.int .u8 (.ofNat 42)), (.int .u8 (.ofNat 50)), (.int .u8 (.ofNat 38)), (.int .u8 (.ofNat 29)), (.int .u8 (.ofNat 17)), (.int .u8 (.ofNat 4)), (.int .u8 (.ofNat 62)), (.int .u8 (.ofNat 47)), (.int .u8 (.ofNat 59)), (.int .u8 (.ofNat 36)), (.int .u8 (.ofNat 45)), (.int .u8 (.ofNat 43)), (.int .u8 (.ofNat 51)), (.int .u8 (.ofNat 22)), (.int .u8 (.ofNat 53)), (.int .u8 (.ofNat 39)), (.int .u8 (.ofNat 33)), (.int .u8 (.ofNat 30)), (.int .u8 (.ofNat 24)), (.int .u8 (.ofNat 18)), (.int .u8 (.ofNat 12)), (.int .u8 (.ofNat 5)), (.int .u8 (.ofNat 63)), (.int .u8 (.ofNat 55)), (.int .u8 (.ofNat 48)), (.int .u8 (.ofNat 27)), (.int .u8 (.ofNat 60)), (.int .u8 (.ofNat 41)), (.int .u8 (.ofNat 37)), (.int .u8 (.ofNat 16)), (.int .u8 (.ofNat 46)), (.int .u8 (.ofNat 35)), (.int .u8 (.ofNat 44)), (.int .u8 (.ofNat 21)), (.int .u8 (.ofNat 52)), (.int .u8 (.ofNat 32)), (.int .u8 (.ofNat 23)), (.int .u8 (.ofNat 11)), (.int .u8 (.ofNat 54)), (.int .u8 (.ofNat 26)), (.int .u8 (.ofNat 40)), (.int .u8 (.ofNat 15)), (.int .u8 (.ofNat 34)), (.int .u8 (.ofNat 20)), (.int .u8 (.ofNat 31)), (.int .u8 (.ofNat 10)), (.int .u8 (.ofNat 25)), (.int .u8 (.ofNat 14)), (.int .u8 (.ofNat 19)), (.int .u8 (.ofNat 9)), (.int .u8 (.ofNat 13)), (.int .u8 (.ofNat 8)), (.int .u8 (.ofNat 7)), (.int .u8 (.ofNat 6))]
theorem GlOk.g0 {H : Hp} (h : GlOk H) : H.m.get 0 = some ⟨gl0, 0, false⟩ := h (0, gl0) (.head _)
def gl3 : List AV := [(.int .i64 (.ofNat 65)), (.int .i64 (.ofNat 90)), (.int .i64 (.ofNat 1)), (.int .i64 (.ofNat 32)), (.int .i64 (.ofNat 192)), (.int .i64 (.ofNat 214)), (.int .i64 (.ofNat 1)), (.int .i64 (.ofNat 32)), (.int .i64 (.ofNat 216)), (.int .i64 (.ofNat 222)), (.int .i64 (.ofNat 1)), (.int .i64 (.ofNat 32)), (.int .i64 (.ofNat 256)), (.int .i64 (.ofNat 302)), (.int .i64 (.ofNat 2)), (.int .i64 (.ofNat 1)), (.int .i64 (.ofNat 306)), (.int .i64 (.ofNat 310)), (.int .i64 (.ofNat 2)), (.int .i64 (.ofNat 1)), (.int .i64 (.ofNat 313)), (.int .i64 (.ofNat 327)), (.int .i64 (.ofNat 2)), (.int .i64 (.ofNat 1)), (.int .i64 (.ofNat 330)), (.int .i64 (.ofNat 374)), (.int .i64 (.ofNat 2)), (.int .i64 (.ofNat 1)), (.int .i64 (.ofNat 377)), (.int .i64 (.ofNat 381)), (.int .i64 (.ofNat 2)), (.int .i64 (.ofNat 1)), (.int .i64 (.ofNat 913)), (.int .i64 (.ofNat 929)), (.int .i64 (.ofNat 1)), (.int .i64 (.ofNat 32)), (.int .i64 (.ofNat 931)), (.int .i64 (.ofNat 937)), (.int .i64 (.ofNat 1)), (.int .i64 (.ofNat 32)), (.int .i64 (.ofNat 1024)), (.int .i64 (.ofNat 1039)), (.int .i64 (.ofNat 1)), (.int .i64 (.ofNat 80)), (.int .i64 (.ofNat 1040)), (.int .i64 (.ofNat 1071)), (.int .i64 (.ofNat 1)), (.int .i64 (.ofNat 32)), (.int .i64 (.ofNat 1120)), (.int .i64 (.ofNat 1152)), (.int .i64 (.ofNat 2)), (.int .i64 (.ofNat 1))]
theorem GlOk.g3 {H : Hp} (h : GlOk H) : H.m.get 3 = some ⟨gl3, 0, false⟩ := h (3, gl3) (.tail _ (.head _))
def gl1 : List AV := [(.str [97]), (.str [97, 110]), (.str [97, 110, 100]), (.str [97, 115]), (.str [97, 116]), (.str [98, 101]), (.str [98, 121]), (.str [102, 111, 114]), (.str [105, 110]), (.str [105, 115]), (.str [105, 116]), (.str [111, 102]), (.str [111, 110]), (.str [111, 114]), (.str [116, 104, 101]), (.str [116, 111])]
theorem GlOk.g1 {H : Hp} (h : GlOk H) : H.m.get 1 = some ⟨gl1, 0, false⟩ := h (1, gl1) (.tail _ (.tail _ (.head _)))
def gl2 : List AV := [(.str [105, 122, 97, 116, 105, 111, 110]), (.str [105, 122, 101]), (.str [97, 116, 105, 111, 110]), (.str [97, 116, 101]), (.str [102, 117, 108, 108, 121]), (.str [102, 117, 108]), (.str [110, 101, 115, 115]), (.str []), (.str [109, 101, 110, 116]), (.str []), (.str [97, 108, 108, 121]), (.str [97, 108]), (.str [108, 121]), (.str [])]
theorem GlOk.g2 {H : Hp} (h : GlOk H) : H.m.get 2 = some ⟨gl2, 0, false⟩ := h (2, gl2) (.tail _ (.tail _ (.tail _ (.head _))))
def btabL : List (Nat × IFn) := [(6, A6.er), (18, A18.er), (19, A19.er), (22, A22.er), (23, A23.er), (25, A25.er), (27, A27.er), (28, A28.er), (42, A42.er), (43, A43.er), (44, A44.er), (45, A45.er), (51, A51.er), (63, A63.er), (65, A65.er), (66, A66.er), (67, A67.er), (70, A70.er), (71, A71.er), (72, A72.er), (73, A73.er), (85, A85.er), (87, A87.er), (93, A93.er), (94, A94.er), (95, A95.er), (96, A96.er), (97, A97.er), (98, A98.er), (99, A99.er), (100, A100.er), (101, A101.er), (107, A107.er), (109, A109.er), (110, A110.er), (126, A126.er), (128, A128.er), (129, A129.er), (130, A130.er), (141, A141.er), (143, A143.er), (144, A144.er), (146, A146.er), (147, A147.er), (152, A152.er), (153, A153.er), (154, A154.er), (155, A155.er), (156, A156.er), (162, A162.er), (164, A164.er), (166, A166.er), (187, A187.er), (196, A196.er), (197, A197.er), (200, A200.er), (201, A201.er), (240, A240.er), (241, A241.er), (242, A242.er), (270, A270.er)]
def btab : Tr IFn := (.nd (.nd (.nd (.nd (.nd (.nd (.nd .lf (some A63.er) .lf) none (.nd .lf (some A95.er) .lf)) none (.nd (.nd (.nd .lf (some A143.er) .lf) none .lf) none .lf)) none (.nd (.nd (.nd .lf (some A71.er) .lf) none .lf) (some A23.er) (.nd (.nd .lf (some A87.er) .lf) none .lf))) none (.nd (.nd (.nd (.nd .lf (some A67.er) .lf) none (.nd .lf (some A99.er) .lf)) (some A19.er) (.nd (.nd (.nd .lf (some A147.er) .lf) none .lf) (some A51.er) .lf)) none (.nd (.nd .lf (some A43.er) (.nd .lf (some A107.er) .lf)) (some A27.er) (.nd (.nd (.nd .lf (some A155.er) .lf) none .lf) none (.nd (.nd .lf (some A187.er) .lf) none .lf))))) none (.nd (.nd (.nd (.nd (.nd (.nd .lf (some A129.er) .lf) (some A65.er) .lf) none (.nd .lf (some A97.er) .lf)) none (.nd .lf none (.nd .lf none (.nd .lf (some A241.er) .lf)))) none (.nd (.nd (.nd .lf (some A73.er) (.nd .lf (some A201.er) .lf)) none .lf) (some A25.er) (.nd (.nd (.nd .lf (some A153.er) .lf) none .lf) none .lf))) none (.nd (.nd (.nd (.nd .lf none (.nd .lf (some A197.er) .lf)) none (.nd .lf (some A101.er) .lf)) none (.nd (.nd .lf (some A85.er) .lf) none .lf)) none (.nd (.nd (.nd (.nd .lf (some A141.er) .lf) none .lf) (some A45.er) (.nd .lf (some A109.er) .lf)) none (.nd (.nd .lf (some A93.er) .lf) none .lf))))) none (.nd (.nd (.nd (.nd (.nd (.nd (.nd .lf (some A128.er) .lf) none .lf) none (.nd .lf (some A96.er) .lf)) none (.nd (.nd (.nd .lf (some A144.er) .lf) none .lf) none (.nd .lf none (.nd .lf (some A240.er) .lf)))) none (.nd (.nd (.nd .lf (some A72.er) (.nd .lf (some A200.er) .lf)) none .lf) none (.nd (.nd (.nd .lf (some A152.er) .lf) none .lf) none .lf))) none (.nd (.nd (.nd (.nd .lf none (.nd .lf (some A196.er) .lf)) none (.nd (.nd .lf (some A164.er) .lf) (some A100.er) .lf)) none .lf) none (.nd (.nd .lf (some A44.er) .lf) (some A28.er) (.nd (.nd (.nd .lf (some A156.er) .lf) none .lf) none .lf)))) none (.nd (.nd (.nd (.nd (.nd (.nd .lf (some A130.er) .lf) (some A66.er) .lf) none (.nd (.nd .lf (some A162.er) .lf) (some A98.er) .lf)) (some A18.er) (.nd (.nd (.nd .lf (some A146.er) .lf) none .lf) none (.nd .lf none (.nd .lf (some A242.er) .lf)))) none (.nd (.nd .lf (some A42.er) .lf) none (.nd (.nd (.nd .lf (some A154.er) .lf) none .lf) none .lf))) (some A6.er) (.nd (.nd (.nd (.nd .lf (some A70.er) .lf) none (.nd (.nd .lf (some A166.er) .lf) none .lf)) (some A22.er) .lf) none (.nd (.nd (.nd (.nd (.nd .lf (some A270.er) .lf) none .lf) none .lf) none (.nd .lf (some A110.er) .lf)) none (.nd (.nd .lf (some A94.er) .lf) none (.nd .lf (some A126.er) .lf)))))))
theorem btab_eq : tabOf btabL = btab := by kernel_rfl
theorem bc {x : Nat × IFn} {l : List (Nat × IFn)} (h : cFn Tryz.prog x.1 = some x.2) (t : ∀ y ∈ l, cFn Tryz.prog y.1 = some y.2) : ∀ y ∈ x :: l, cFn Tryz.prog y.1 = some y.2 := fun y hy => by
  rcases List.mem_cons.1 hy with rfl | hy
  · exact h
  · exact t y hy
theorem btab_ok : ∀ x ∈ btabL, cFn Tryz.prog x.1 = some x.2 := bc b6 (bc b18 (bc b19 (bc b22 (bc b23 (bc b25 (bc b27 (bc b28 (bc b42 (bc b43 (bc b44 (bc b45 (bc b51 (bc b63 (bc b65 (bc b66 (bc b67 (bc b70 (bc b71 (bc b72 (bc b73 (bc b85 (bc b87 (bc b93 (bc b94 (bc b95 (bc b96 (bc b97 (bc b98 (bc b99 (bc b100 (bc b101 (bc b107 (bc b109 (bc b110 (bc b126 (bc b128 (bc b129 (bc b130 (bc b141 (bc b143 (bc b144 (bc b146 (bc b147 (bc b152 (bc b153 (bc b154 (bc b155 (bc b156 (bc b162 (bc b164 (bc b166 (bc b187 (bc b196 (bc b197 (bc b200 (bc b201 (bc b240 (bc b241 (bc b242 (bc b270 (fun _ h => by cases h)))))))))))))))))))))))))))))))))))))))))))))))))))))))))))))
theorem btab_fn (f : Nat) (F : IFn) (h : btab.get f = some F) : cFn Tryz.prog f = some F := tab_get btabL btab_ok f F (by rw [btab_eq]; exact h)
def bgv : Nat → Option Gv := fun f => match f with
  | 13 => some (.closed laidLit)
  | _ => none
noncomputable def env : Env := ⟨btab.get, fun f => gvRun (bgv f), fun f => (bgv f).isSome⟩
theorem bgiven13 (args : List AV) (H : Hp) (v : AV) (H' : Hp) (h : gvRun (some (.closed laidLit)) args H = some (v, H')) (σ : Sg) (w : World) (vs : Array Value) (hR : Rel (gp Tryz.prog) σ H w) (hv : VRs σ args vs.toList) : CallR Tryz.prog 13 vs w (End Tryz.prog σ H w v H') :=
  by
    obtain ⟨H1, hr⟩ := answer_true run_13
    rw [← H0_eq] at hr
    exact closed_ok (by kernel_rfl) (all_ok 1000) hr args H v H' h σ w vs hR hv
theorem bgiven_ok : GivenOK Tryz.prog (fun f => gvRun (bgv f)) (fun f => (bgv f).isSome) := by
  intro f args H v H' h1 h2 σ w vs hR hv
  have h2 : gvRun (bgv f) args H = some (v, H') := h2
  unfold bgv at h2
  split at h2
  · exact bgiven13 args H v H' h2 σ w vs hR hv
  · cases h2
theorem env_ok (n : Nat) : CallOK Tryz.prog (env.all n) := runs_ok (fun nt => draw_ok (by kernel_rfl)) btab_fn bgiven_ok n
theorem fa_ok : ∀ g A, fa g = some A → env.fs g = some A.er := by
  intro g A h
  unfold fa at h
  split at h
  · cases h
end Go.Proofs.YtgfcgkbbmcgjmaaGreatDoor.Eng
