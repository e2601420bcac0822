/- Proved: the law IndexNobody answers true, whatever its input. Conditions: none but those of the given card (what the tables of package level hold is tied to the text of the program). -/
import Derived.Test.YtnpnhcjgmimehaaGreatDoorIb
import Derived.Test.YtnpnhcjgmimehaaGreatDoorRows
import Derived.Test.YtnpnhcjgmimehaaGreatDoorCards
import Derived.Test.YtnpnhcjgmimehaaGreatDoorTie
import Derived.ProofKit
import Derived.OpenShut
import Derived.ShutString
import Derived.ChangeOld
import Derived.Below
import Derived.SizedLaws
import Derived.WalkKit
import Derived.LaidMore
import Derived.Lay
import Derived.SevenTiedAt
import Derived.Stop.Joined
import Derived.HandedShaped
import Derived.Shelf.Vars
import Derived.Deep.DeepHandedRow
import Derived.Carry
namespace Go.Proofs.YtnpnhcjgmimehaaGreatDoor.Eng
set_option linter.unusedVariables false
set_option linter.unusedSimpArgs false
set_option maxRecDepth 100000
def laidLit : List (Nat × List AV) := [(0, [(.int .u8 (.ofNat 0)), (.int .u8 (.ofNat 1)), (.int .u8 (.ofNat 56)), (.int .u8 (.ofNat 2)), (.int .u8 (.ofNat 57)), (.int .u8 (.ofNat 49)), (.int .u8 (.ofNat 28)), (.int .u8 (.ofNat 3)), (.int .u8 (.ofNat 61)), (.int .u8 (.ofNat 58)), (.int .u8 (.ofNat 42)), (.int .u8 (.ofNat 50)), (.int .u8 (.ofNat 38)), (.int .u8 (.ofNat 29)), (.int .u8 (.ofNat 17)), (.int .u8 (.ofNat 4)), (.int .u8 (.ofNat 62)), (.int .u8 (.ofNat 47)), (.int .u8 (.ofNat 59)), (.int .u8 (.ofNat 36)), (.int .u8 (.ofNat 45)), (.int .u8 (.ofNat 43)), (.int .u8 (.ofNat 51)), (.int .u8 (.ofNat 22)), (.int .u8 (.ofNat 53)), (.int .u8 (.ofNat 39)), (.int .u8 (.ofNat 33)), (.int .u8 (.ofNat 30)), (.int .u8 (.ofNat 24)), (.int .u8 (.ofNat 18)), (.int .u8 (.ofNat 12)), (.int .u8 (.ofNat 5)), (.int .u8 (.ofNat 63)), (.int .u8 (.ofNat 55)), (.int .u8 (.ofNat 48)), (.int .u8 (.ofNat 27)), (.int .u8 (.ofNat 60)), (.int .u8 (.ofNat 41)), (.int .u8 (.ofNat 37)), (.int .u8 (.ofNat 16)), (.int .u8 (.ofNat 46)), (.int .u8 (.ofNat 35)), (.int .u8 (.ofNat 44)), (.int .u8 (.ofNat 21)), (.int .u8 (.ofNat 52)), (.int .u8 (.ofNat 32)), (.int .u8 (.ofNat 23)), (.int .u8 (.ofNat 11)), (.int .u8 (.ofNat 54)), (.int .u8 (.ofNat 26)), (.int .u8 (.ofNat 40)), (.int .u8 (.ofNat 15)), (.int .u8 (.ofNat 34)), (.int .u8 (.ofNat 20)), (.int .u8 (.ofNat 31)), (.int .u8 (.ofNat 10)), (.int .u8 (.ofNat 25)), (.int .u8 (.ofNat 14)), (.int .u8 (.ofNat 19)), (.int .u8 (.ofNat 9)), (.int .u8 (.ofNat 13)), (.int .u8 (.ofNat 8)), (.int .u8 (.ofNat 7)), (.int .u8 (.ofNat 6))]), (3, [(.int .i64 (.ofNat 65)), (.int .i64 (.ofNat 90)), (.int .i64 (.ofNat 1)), (.int .i64 (.ofNat 32)), (.int .i64 (.ofNat 192)), (.int .i64 (.ofNat 214)), (.int .i64 (.ofNat 1)), (.int .i64 (.ofNat 32)), (.int .i64 (.ofNat 216)), (.int .i64 (.ofNat 222)), (.int .i64 (.ofNat 1)), (.int .i64 (.ofNat 32)), (.int .i64 (.ofNat 256)), (.int .i64 (.ofNat 302)), (.int .i64 (.ofNat 2)), (.int .i64 (.ofNat 1)), (.int .i64 (.ofNat 306)), (.int .i64 (.ofNat 310)), (.int .i64 (.ofNat 2)), (.int .i64 (.ofNat 1)), (.int .i64 (.ofNat 313)), (.int .i64 (.ofNat 327)), (.int .i64 (.ofNat 2)), (.int .i64 (.ofNat 1)), (.int .i64 (.ofNat 330)), (.int .i64 (.ofNat 374)), (.int .i64 (.ofNat 2)), (.int .i64 (.ofNat 1)), (.int .i64 (.ofNat 377)), (.int .i64 (.ofNat 381)), (.int .i64 (.ofNat 2)), (.int .i64 (.ofNat 1)), (.int .i64 (.ofNat 913)), (.int .i64 (.ofNat 929)), (.int .i64 (.ofNat 1)), (.int .i64 (.ofNat 32)), (.int .i64 (.ofNat 931)), (.int .i64 (.ofNat 937)), (.int .i64 (.ofNat 1)), (.int .i64 (.ofNat 32)), (.int .i64 (.ofNat 1024)), (.int .i64 (.ofNat 1039)), (.int .i64 (.ofNat 1)), (.int .i64 (.ofNat 80)), (.int .i64 (.ofNat 1040)), (.int .i64 (.ofNat 1071)), (.int .i64 (.ofNat 1)), (.int .i64 (.ofNat 32)), (.int .i64 (.ofNat 1120)), (.int .i64 (.ofNat 1152)), (.int .i64 (.ofNat 2)), (.int .i64 (.ofNat 1))]), (1, [(.str [97]), (.str [97, 110]), (.str [97, 110, 100]), (.str [97, 115]), (.str [97, 116]), (.str [98, 101]), (.str [98, 121]), (.str [102, 111, 114]), (.str [105, 110]), (.str [105, 115]), (.str [105, 116]), (.str [111, 102]), (.str [111, 110]), (.str [111, 114]), (.str [116, 104, 101]), (.str [116, 111])]), (2, [(.str [105, 122, 97, 116, 105, 111, 110]), (.str [105, 122, 101]), (.str [97, 116, 105, 111, 110]), (.str [97, 116, 101]), (.str [102, 117, 108, 108, 121]), (.str [102, 117, 108]), (.str [110, 101, 115, 115]), (.str []), (.str [109, 101, 110, 116]), (.str []), (.str [97, 108, 108, 121]), (.str [97, 108]), (.str [108, 121]), (.str [])])]
def H0 : Hp := ⟨(.nd (.nd (.nd .lf (some ⟨[(.int .i64 (.ofNat 65)), (.int .i64 (.ofNat 90)), (.int .i64 (.ofNat 1)), (.int .i64 (.ofNat 32)), (.int .i64 (.ofNat 192)), (.int .i64 (.ofNat 214)), (.int .i64 (.ofNat 1)), (.int .i64 (.ofNat 32)), (.int .i64 (.ofNat 216)), (.int .i64 (.ofNat 222)), (.int .i64 (.ofNat 1)), (.int .i64 (.ofNat 32)), (.int .i64 (.ofNat 256)), (.int .i64 (.ofNat 302)), (.int .i64 (.ofNat 2)), (.int .i64 (.ofNat 1)), (.int .i64 (.ofNat 306)), (.int .i64 (.ofNat 310)), (.int .i64 (.ofNat 2)), (.int .i64 (.ofNat 1)), (.int .i64 (.ofNat 313)), (.int .i64 (.ofNat 327)), (.int .i64 (.ofNat 2)), (.int .i64 (.ofNat 1)), (.int .i64 (.ofNat 330)), (.int .i64 (.ofNat 374)), (.int .i64 (.ofNat 2)), (.int .i64 (.ofNat 1)), (.int .i64 (.ofNat 377)), (.int .i64 (.ofNat 381)), (.int .i64 (.ofNat 2)), (.int .i64 (.ofNat 1)), (.int .i64 (.ofNat 913)), (.int .i64 (.ofNat 929)), (.int .i64 (.ofNat 1)), (.int .i64 (.ofNat 32)), (.int .i64 (.ofNat 931)), (.int .i64 (.ofNat 937)), (.int .i64 (.ofNat 1)), (.int .i64 (.ofNat 32)), (.int .i64 (.ofNat 1024)), (.int .i64 (.ofNat 1039)), (.int .i64 (.ofNat 1)), (.int .i64 (.ofNat 80)), (.int .i64 (.ofNat 1040)), (.int .i64 (.ofNat 1071)), (.int .i64 (.ofNat 1)), (.int .i64 (.ofNat 32)), (.int .i64 (.ofNat 1120)), (.int .i64 (.ofNat 1152)), (.int .i64 (.ofNat 2)), (.int .i64 (.ofNat 1))], 0, false⟩) .lf) (some ⟨[(.str [97]), (.str [97, 110]), (.str [97, 110, 100]), (.str [97, 115]), (.str [97, 116]), (.str [98, 101]), (.str [98, 121]), (.str [102, 111, 114]), (.str [105, 110]), (.str [105, 115]), (.str [105, 116]), (.str [111, 102]), (.str [111, 110]), (.str [111, 114]), (.str [116, 104, 101]), (.str [116, 111])], 0, false⟩) .lf) (some ⟨[(.int .u8 (.ofNat 0)), (.int .u8 (.ofNat 1)), (.int .u8 (.ofNat 56)), (.int .u8 (.ofNat 2)), (.int .u8 (.ofNat 57)), (.int .u8 (.ofNat 49)), (.int .u8 (.ofNat 28)), (.int .u8 (.ofNat 3)), (.int .u8 (.ofNat 61)), (.int .u8 (.ofNat 58)), (.int .u8 (.ofNat 42)), (.int .u8 (.ofNat 50)), (.int .u8 (.ofNat 38)), (.int .u8 (.ofNat 29)), (.int .u8 (.ofNat 17)), (.int .u8 (.ofNat 4)), (.int .u8 (.ofNat 62)), (.int .u8 (.ofNat 47)), (.int .u8 (.ofNat 59)), (.int .u8 (.ofNat 36)), (.int .u8 (.ofNat 45)), (.int .u8 (.ofNat 43)), (.int .u8 (.ofNat 51)), (.int .u8 (.ofNat 22)), (.int .u8 (.ofNat 53)), (.int .u8 (.ofNat 39)), (.int .u8 (.ofNat 33)), (.int .u8 (.ofNat 30)), (.int .u8 (.ofNat 24)), (.int .u8 (.ofNat 18)), (.int .u8 (.ofNat 12)), (.int .u8 (.ofNat 5)), (.int .u8 (.ofNat 63)), (.int .u8 (.ofNat 55)), (.int .u8 (.ofNat 48)), (.int .u8 (.ofNat 27)), (.int .u8 (.ofNat 60)), (.int .u8 (.ofNat 41)), (.int .u8 (.ofNat 37)), (.int .u8 (.ofNat 16)), (.int .u8 (.ofNat 46)), (.int .u8 (.ofNat 35)), (.int .u8 (.ofNat 44)), (.int .u8 (.ofNat 21)), (.int .u8 (.ofNat 52)), (.int .u8 (.ofNat 32)), (.int .u8 (.ofNat 23)), (.int .u8 (.ofNat 11)), (.int .u8 (.ofNat 54)), (.int .u8 (.ofNat 26)), (.int .u8 (.ofNat 40)), (.int .u8 (.ofNat 15)), (.int .u8 (.ofNat 34)), (.int .u8 (.ofNat 20)), (.int .u8 (.ofNat 31)), (.int .u8 (.ofNat 10)), (.int .u8 (.ofNat 25)), (.int .u8 (.ofNat 14)), (.int .u8 (.ofNat 19)), (.int .u8 (.ofNat 9)), (.int .u8 (.ofNat 13)), (.int .u8 (.ofNat 8)), (.int .u8 (.ofNat 7)), (.int .u8 (.ofNat 6))], 0, false⟩) (.nd .lf (some ⟨[(.str [105, 122, 97, 116, 105, 111, 110]), (.str [105, 122, 101]), (.str [97, 116, 105, 111, 110]), (.str [97, 116, 101]), (.str [102, 117, 108, 108, 121]), (.str [102, 117, 108]), (.str [110, 101, 115, 115]), (.str []), (.str [109, 101, 110, 116]), (.str []), (.str [97, 108, 108, 121]), (.str [97, 108]), (.str [108, 121]), (.str [])], 0, false⟩) .lf)), 5⟩
open Go.RowKit Go.ChangeShapes Go.WideShapes Go.ChangeAt Go.ChangeMaps
theorem laid_eq : laidL Tryz.prog Rows.indexNobodyRow.laid = laidLit := by kernel_rfl
theorem H0_eq : startH Tryz.prog.globals.size laidLit = H0 := by kernel_rfl
def answer (r : Option (AV × Hp)) : Bool := match r with | some (.bool b, _) => b | _ => false
theorem law_run (a b c d e : List Nat) : answer (all 1000 3 [.agg [.str a, .str b, .str c, .str d, .str e]] H0) = true := by kernel_rfl
theorem answer_true {r : Option (AV × Hp)} (h : answer r = true) : ∃ H', r = some (.bool true, H') := by
  unfold answer at h
  split at h
  · rename_i b H'
    exact ⟨H', by rw [h]⟩
  · cases h
theorem law_calls (s0 s1 s2 s3 s4 : ByteArray) (W : World) (hL : laidMet Tryz.prog Rows.indexNobodyRow.laid W) : Calls Tryz.prog 3 #[.agg #[.string s0, .string s1, .string s2, .string s3, .string s4]] W fun e W' => e = .returned (.bool true) ∧ Below W.heap.size W W' := by
  have hR := laid_rel hL
  rw [laid_eq, H0_eq] at hR
  obtain ⟨H', hr⟩ := answer_true (law_run (s0.data.toList.map (·.toNat)) (s1.data.toList.map (·.toNat)) (s2.data.toList.map (·.toNat)) (s3.data.toList.map (·.toNat)) (s4.data.toList.map (·.toNat)))
  rcases all_ok 1000 _ _ _ _ _ hr (startS Tryz.prog.globals.size) W #[.agg #[.string s0, .string s1, .string s2, .string s3, .string s4]] hR (.cons (.agg _ _ (.cons (.str s0) (.cons (.str s1) (.cons (.str s2) (.cons (.str s3) (.cons (.str s4) .nil)))))) .nil) with ⟨_, hc⟩ | ⟨v, w', h1, _⟩
  · refine hc.mono ?_
    rintro e W' ⟨σ', v', rfl, hv, _, hf⟩
    cases hv
    rw [← H0_eq] at hf
    obtain ⟨k1, k2, k3, k4, k5⟩ := start_keeps hf
    exact ⟨rfl, k1, k2, k3, k4, k5⟩
  · rw [ent_of Tryz.func3 (by kernel_rfl) (of_decide_eq_true (by kernel_rfl))] at h1
    cases h1
theorem kc9 : Tryz.prog.cellsOf 9 = 1 := by kernel_rfl
theorem cT : Tryz.prog.cellsOf 22 = 4 := by kernel_rfl
theorem cD : Tryz.prog.cellsOf 24 = 5 := by kernel_rfl
theorem li2 {α : Type} (l : List α) (h : l.length = 2) : ∃ a b, l = [a, b] := by
  match l, h with
  | [a, b], _ => exact ⟨a, b, rfl⟩
theorem li4 {α : Type} (l : List α) (h : l.length = 4) : ∃ a b c d, l = [a, b, c, d] := by
  match l, h with
  | [a, b, c, d], _ => exact ⟨a, b, c, d, rfl⟩
theorem li5 {α : Type} (l : List α) (h : l.length = 5) : ∃ a b c d e, l = [a, b, c, d, e] := by
  match l, h with
  | [a, b, c, d, e], _ => exact ⟨a, b, c, d, e, rfl⟩
section
variable {H : Type} {enc : TypeId × Value → H} {w : World} {sp : Nat → Bool} {held : Bool}
theorem doc_in (fuel : Nat) (cs : List Value) (x : DataW H × List MemPlace) (h : DataW.trod enc Tryz.prog w 0 sp held fuel 24 cs = some x) : ∃ s0 s1 s2 s3 s4, cs = [.string s0, .string s1, .string s2, .string s3, .string s4] := by
  obtain ⟨xs, n, _, rfl, hl, hlen, hf⟩ := DataW.trod_struct Tryz.underlying24 h
  rw [cD] at hl
  obtain ⟨v0, v1, v2, v3, v4, rfl⟩ := li5 cs hl
  obtain ⟨x0, x1, rfl⟩ := li2 xs hlen
  have k0 : DataW.trod enc Tryz.prog w 0 sp held n 9 ((([v0, v1, v2, v3, v4] : List Value).drop 0).take (Tryz.prog.cellsOf 9)) = some x0 := hf 0 _ rfl
  have k1 : DataW.trod enc Tryz.prog w 0 sp held n 22 ((([v0, v1, v2, v3, v4] : List Value).drop 1).take (Tryz.prog.cellsOf 22)) = some x1 := hf 1 _ rfl
  rw [kc9] at k0
  rw [cT] at k1
  have k1 : DataW.trod enc Tryz.prog w 0 sp held n 22 [v1, v2, v3, v4] = some x1 := k1
  obtain ⟨z0, a0, _⟩ := DataW.trod_string Tryz.underlying9 k0
  obtain ⟨ys, m, _, rfl, _, hlen2, hf2⟩ := DataW.trod_array Tryz.underlying22 k1
  obtain ⟨y0, y1, y2, y3, rfl⟩ := li4 ys hlen2
  have j0 := hf2 0 (by decide)
  have j1 := hf2 1 (by decide)
  have j2 := hf2 2 (by decide)
  have j3 := hf2 3 (by decide)
  rw [kc9] at j0 j1 j2 j3
  obtain ⟨z1, a1, _⟩ := DataW.trod_string (x := y0) Tryz.underlying9 j0
  obtain ⟨z2, a2, _⟩ := DataW.trod_string (x := y1) Tryz.underlying9 j1
  obtain ⟨z3, a3, _⟩ := DataW.trod_string (x := y2) Tryz.underlying9 j2
  obtain ⟨z4, a4, _⟩ := DataW.trod_string (x := y3) Tryz.underlying9 j3
  simp at a0 a1 a2 a3 a4
  exact ⟨z0, z1, z2, z3, z4, by rw [a0, a1, a2, a3, a4]⟩
theorem doc_arg {v : Value} {d : DataW H} {p : List MemPlace} (h : DataW.Trod enc Tryz.prog w 0 sp held 24 v d p) : ∃ s0 s1 s2 s3 s4, v = .agg #[.string s0, .string s1, .string s2, .string s3, .string s4] := by
  obtain ⟨fuel, hf⟩ := h
  obtain ⟨s0, s1, s2, s3, s4, he⟩ := doc_in fuel _ _ hf
  refine ⟨s0, s1, s2, s3, s4, ?_⟩
  have one : ∀ u : Value, u.cells = #[u] → u = v → False := by
    rintro u hu rfl
    rw [hu] at he
    simp at he
  cases v with
  | agg cs =>
    have e : cs.toList = (#[.string s0, .string s1, .string s2, .string s3, .string s4] : Array Value).toList := he
    rw [Array.toList_inj.1 e]
  | _ => exact (one _ rfl rfl).elim
end
theorem own : ownKnob Tryz.prog.godebug = none := by kernel_rfl
theorem laidOutQ : laidOutB Tryz.prog = true := by kernel_rfl
set_option maxRecDepth 100000 in
theorem law_lifted (os : Os) (started : os.Started) (H : Type) (enc : TypeId × Value → H) :
    ReturnsInHanded {} Tryz.checked os 3 .any (fun w args => (Rows.indexNobodySpec.pre enc Tryz.prog Tryz.f3 Rows.indexNobodyRow.domain false w args ∧ laidMetH Tryz.prog Rows.indexNobodyRow.laid w) ∧ sizedMet enc Tryz.prog Tryz.f3 (OpenSpec.ofChange Rows.indexNobodySpec) false w args)
      (Rows.indexNobodySpec.post enc Tryz.prog Tryz.f3 false true false false) := by
  refine returnsInHanded_of_change_and (C := Tryz.checked) (X := fun w _ => laidMetH Tryz.prog Rows.indexNobodyRow.laid w) (fun _ _ _ hh h => h.of_heap hh) own started (by kernel_rfl) Tryz.func3
    (ChangeSpec.witness_shaped (enc := enc) (C := Tryz.checked) (os := os) (X := fun w _ => laidMetH Tryz.prog Rows.indexNobodyRow.laid w) false (World.laidAll Tryz.prog os Rows.indexNobodyRow.laid) #[.agg #[.string ByteArray.empty, .string ByteArray.empty, .string ByteArray.empty, .string ByteArray.empty, .string ByteArray.empty]] 8 (World.laidAll_os _ _ _)
      (World.shaped_of_ZipB (by kernel_rfl) (by kernel_rfl)) (by kernel_rfl) (by kernel_rfl) (by kernel_rfl)
      (by rw [MakeChecks.laidMetH_plain _ _ _ (by kernel_rfl)]; exact laidMet_laidAll _ (by kernel_rfl) (by kernel_rfl))) ?_
  intro W base args ds gs before hval0 hW hc _ hL _
  have hval : ∀ (j : Nat) t v, Tryz.f3.params[j]? = some t → args[j]? = some v → Value.okWide Tryz.prog W .any base t v := hval0
  have hW' := hW
  obtain ⟨p, q, hA0, hV, rfl, _, _⟩ := hW
  have hA : DataW.TrodAll enc Tryz.prog W 0 (fun _ => true) true Tryz.f3.params.toList args.toList ds p := hA0
  rw [Tryz.params3] at hA hval
  obtain ⟨v0, d0, rfl, rfl, h0⟩ := trodAll_one hA
  obtain ⟨rfl, rfl⟩ := trodVars_none hV
  have lt0 : ∀ z ∈ p, z.block < W.heap.size := by obtain ⟨m, hm⟩ := h0; exact DataW.trod_lt m _ _ _ hm
  obtain ⟨s0, s1, s2, s3, s4, rfl⟩ := doc_arg h0
  rw [MakeChecks.laidMetH_plain _ _ _ (by kernel_rfl)] at hL
  refine (law_calls s0 s1 s2 s3 s4 W hL).mono fun e W' ⟨he, bel⟩ => ?_
  subst he
  exact ⟨_, rfl, _, _, _, [], _, [], hW', trodAll_mk1 (shut_bool Tryz.underlying4 _), trodAll_mk1 (Below.trod laidOutQ (by kernel_rfl) (of_decide_eq_true (by kernel_rfl)) h0 bel lt0), rfl, bel.frame _, fun h => by cases h⟩
theorem law_holds : Rows.IndexNobodySaid :=
  OpenClaim.holds_of_wide 3 Tryz.f3 rfl rfl rfl rfl rfl rfl rfl ⟨rfl, rfl, rfl, rfl, rfl⟩ rfl rfl rfl rfl rfl (by kernel_rfl) Tryz.func3 (by kernel_rfl)
    (of_decide_eq_true (by kernel_rfl)) (by unfold Func.isWrapper; first | (rw [if_pos (by decide +kernel)]; kernel_rfl) | (rw [if_neg (by decide +kernel)]; exact ⟨rfl, rfl⟩))
    (fun os started H enc _ => law_lifted os started H enc)
/-- The tied card of IndexNobody. -/
theorem indexNobody_card : Rows.IndexNobodyCardSaid :=
  Claim7.holds_tied_plain_at .later [] _ _ _ _ law_holds (fun _ h => by cases h) (by kernel_rfl) (fun _ h => by cases h) indexNobody_row_tie rfl ⟨rfl, rfl⟩ (by kernel_rfl) rfl
    (fun f fn hf hfn => by
      obtain rfl : f = 3 := Option.some.inj ((show Tryz.prog.funcNamed "scholia/scholialaw21.IndexNobody" = some 3 by kernel_rfl).symm.trans hf) |>.symm
      obtain rfl : fn = Tryz.f3 := (Option.some.inj (Tryz.func3.symm.trans hfn)).symm
      exact ⟨by kernel_rfl, fun j t ht => by
        rw [Tryz.params3] at ht
        have hm : t ∈ [24] := by simpa using Array.mem_of_getElem? ht
        have hall : ([24].all fun u => !Tryz.prog.wantsStandIn u) = true := by kernel_rfl
        exact (show Tryz.prog.wantsStandIn t = false by simpa using List.all_eq_true.1 hall t hm)⟩)
    (by kernel_rfl)
#print axioms indexNobody_card

end Go.Proofs.YtnpnhcjgmimehaaGreatDoor.Eng
