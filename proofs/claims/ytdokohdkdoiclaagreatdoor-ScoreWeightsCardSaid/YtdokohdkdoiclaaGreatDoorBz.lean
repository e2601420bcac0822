/- Proved: the law ScoreWeights answers true, whatever its input. Conditions: none but those of the given card (what the tables of package level hold is tied to the text of the program). -/
import Derived.Test.YtdokohdkdoiclaaGreatDoorBc
import Derived.Test.YtdokohdkdoiclaaGreatDoorRows
import Derived.Test.YtdokohdkdoiclaaGreatDoorCards
import Derived.Test.YtdokohdkdoiclaaGreatDoorTie
import Derived.ProofKit
import Derived.OpenShut
import Derived.ShutString
import Derived.ChangeOld
import Derived.Below
import Derived.SizedLaws
import Derived.WalkKit
import Derived.LaidMore
import Derived.Lay
import Derived.SevenTiedAt
import Derived.Stop.Joined
import Derived.HandedShaped
import Derived.Shelf.Vars
import Derived.Deep.DeepHandedRow
import Derived.Carry
namespace Go.Proofs.YtdokohdkdoiclaaGreatDoor.Eng
set_option linter.unusedVariables false
set_option linter.unusedSimpArgs false
set_option maxRecDepth 100000
open Go.RowKit Go.ChangeShapes Go.WideShapes Go.ChangeAt Go.ChangeMaps
theorem H0_ok : Ok H0 := by
  rw [← H0_eq]
  exact startH_ok (by kernel_rfl)
theorem H0_laid : LaidZ laidLit H0 := by
  rw [← H0_eq]
  exact start_laid (by kernel_rfl)
theorem law_calls (a b : Int) (s t : ByteArray) (n m : Int) (ha : a < 9223372036854775808) (W : World) (hL : laidMet Tryz.prog Rows.scoreWeightsRow.laid W) : Calls Tryz.prog 4 #[.int .i64 a, .int .i64 b, .agg #[.string s, .int .i64 n], .agg #[.string t, .int .i64 m]] W fun e W' => e = .returned (.bool true) ∧ Below W.heap.size W W' := by
  have hR := laid_rel hL
  rw [laid_eq, H0_eq] at hR
  obtain ⟨k, v, H', hr, rfl⟩ := cal_runs (Q := fun v => v = .bool true) (law_ok (b := b) (s := s.data.toList.map (·.toNat)) (t := t.data.toList.map (·.toNat)) (n := n) (m := m) ha H0_laid) H0_ok
  rcases env_ok k _ _ _ _ _ hr (startS Tryz.prog.globals.size) W #[.int .i64 a, .int .i64 b, .agg #[.string s, .int .i64 n], .agg #[.string t, .int .i64 m]] hR (.cons (.int _ _) (.cons (.int _ _) (.cons (.agg _ _ (.cons (.str s) (.cons (.int _ _) .nil))) (.cons (.agg _ _ (.cons (.str t) (.cons (.int _ _) .nil))) .nil)))) with ⟨_, hc⟩ | ⟨v, w', h1, _⟩
  · refine hc.mono ?_
    rintro e W' ⟨σ', v', rfl, hv, _, hf⟩
    cases hv
    rw [← H0_eq] at hf
    obtain ⟨k1, k2, k3, k4, k5⟩ := start_keeps hf
    exact ⟨rfl, k1, k2, k3, k4, k5⟩
  · rw [ent_of Tryz.func4 (by kernel_rfl) (of_decide_eq_true (by kernel_rfl))] at h1
    cases h1
theorem kc9 : Tryz.prog.cellsOf 9 = 1 := by kernel_rfl
theorem kc3 : Tryz.prog.cellsOf 3 = 1 := by kernel_rfl
theorem cHit : Tryz.prog.cellsOf 53 = 2 := by kernel_rfl
theorem li2 {α : Type} (l : List α) (h : l.length = 2) : ∃ a b, l = [a, b] := by
  match l, h with
  | [a, b], _ => exact ⟨a, b, rfl⟩
section
variable {H : Type} {enc : TypeId × Value → H} {w : World} {sp : Nat → Bool} {held : Bool}
theorem hit_in (fuel : Nat) (cs : List Value) (x : DataW H × List MemPlace) (h : DataW.trod enc Tryz.prog w 0 sp held fuel 53 cs = some x) : ∃ s n, cs = [.string s, .int .i64 n] := by
  obtain ⟨xs, n, _, rfl, hl, hlen, hf⟩ := DataW.trod_struct Tryz.underlying53 h
  rw [cHit] at hl
  obtain ⟨v0, v1, rfl⟩ := li2 cs hl
  obtain ⟨x0, x1, rfl⟩ := li2 xs hlen
  have k0 : DataW.trod enc Tryz.prog w 0 sp held n 9 ((([v0, v1] : List Value).drop 0).take (Tryz.prog.cellsOf 9)) = some x0 := hf 0 _ rfl
  have k1 : DataW.trod enc Tryz.prog w 0 sp held n 3 ((([v0, v1] : List Value).drop 1).take (Tryz.prog.cellsOf 3)) = some x1 := hf 1 _ rfl
  rw [kc9] at k0
  rw [kc3] at k1
  obtain ⟨z0, a0, _⟩ := DataW.trod_string Tryz.underlying9 k0
  obtain ⟨z1, a1, _⟩ := DataW.trod_int Tryz.underlying3 k1
  simp at a0 a1
  exact ⟨z0, z1, by rw [a0, a1]⟩
theorem hit_arg {v : Value} {d : DataW H} {p : List MemPlace} (h : DataW.Trod enc Tryz.prog w 0 sp held 53 v d p) : ∃ s n, v = .agg #[.string s, .int .i64 n] := by
  obtain ⟨fuel, hf⟩ := h
  obtain ⟨s, n, he⟩ := hit_in fuel _ _ hf
  refine ⟨s, n, ?_⟩
  have one : ∀ u : Value, u.cells = #[u] → u = v → False := by
    rintro u hu rfl
    rw [hu] at he
    simp at he
  cases v with
  | agg cs =>
    have e : cs.toList = (#[.string s, .int .i64 n] : Array Value).toList := he
    rw [Array.toList_inj.1 e]
  | _ => exact (one _ rfl rfl).elim
end
theorem own : ownKnob Tryz.prog.godebug = none := by kernel_rfl
theorem laidOutQ : laidOutB Tryz.prog = true := by kernel_rfl
set_option maxRecDepth 100000 in
theorem law_lifted (os : Os) (started : os.Started) (H : Type) (enc : TypeId × Value → H) :
    ReturnsInHanded {} Tryz.checked os 4 .any (fun w args => (Rows.scoreWeightsSpec.pre enc Tryz.prog Tryz.f4 Rows.scoreWeightsRow.domain false w args ∧ laidMetH Tryz.prog Rows.scoreWeightsRow.laid w) ∧ sizedMet enc Tryz.prog Tryz.f4 (OpenSpec.ofChange Rows.scoreWeightsSpec) false w args)
      (Rows.scoreWeightsSpec.post enc Tryz.prog Tryz.f4 false true false false) := by
  refine returnsInHanded_of_change_and (C := Tryz.checked) (X := fun w _ => laidMetH Tryz.prog Rows.scoreWeightsRow.laid w) (fun _ _ _ hh h => h.of_heap hh) own started (by kernel_rfl) Tryz.func4
    (ChangeSpec.witness_shaped (enc := enc) (C := Tryz.checked) (os := os) (X := fun w _ => laidMetH Tryz.prog Rows.scoreWeightsRow.laid w) false (World.laidAll Tryz.prog os Rows.scoreWeightsRow.laid) #[.int .i64 0, .int .i64 0, .agg #[.string ByteArray.empty, .int .i64 0], .agg #[.string ByteArray.empty, .int .i64 0]] 8 (World.laidAll_os _ _ _)
      (World.shaped_of_ZipB (by kernel_rfl) (by kernel_rfl)) (by kernel_rfl) (by kernel_rfl) (by kernel_rfl)
      (by rw [MakeChecks.laidMetH_plain _ _ _ (by kernel_rfl)]; exact laidMet_laidAll _ (by kernel_rfl) (by kernel_rfl))) ?_
  intro W base args ds gs before hval0 hW hc _ hL _
  have hval : ∀ (j : Nat) t v, Tryz.f4.params[j]? = some t → args[j]? = some v → Value.okWide Tryz.prog W .any base t v := hval0
  have hW' := hW
  obtain ⟨p, q, hA0, hV, rfl, _, _⟩ := hW
  have hA : DataW.TrodAll enc Tryz.prog W 0 (fun _ => true) true Tryz.f4.params.toList args.toList ds p := hA0
  rw [Tryz.params4] at hA hval
  obtain ⟨v0, v1, v2, v3, d0, d1, d2, d3, p0, p1, p2, p3, rfl, rfl, rfl, h0, h1, h2, h3⟩ := trodAll_four hA
  obtain ⟨rfl, rfl⟩ := trodVars_none hV
  have lt2 : ∀ z ∈ p2, z.block < W.heap.size := by obtain ⟨m, hm⟩ := h2; exact DataW.trod_lt m _ _ _ hm
  have lt3 : ∀ z ∈ p3, z.block < W.heap.size := by obtain ⟨m, hm⟩ := h3; exact DataW.trod_lt m _ _ _ hm
  obtain ⟨a, rfl, rfl, rfl, y0⟩ := open_int Tryz.underlying3 (hval 0 3 v0 rfl rfl) h0
  obtain ⟨b, rfl, rfl, rfl, y1⟩ := open_int Tryz.underlying3 (hval 1 3 v1 rfl rfl) h1
  have ha : a < 9223372036854775808 := by
    simp only [Lit.wf, Bool.and_eq_true, decide_eq_true_eq] at y0
    have : IntKind.i64.max = 9223372036854775807 := by decide
    omega
  obtain ⟨s, n, rfl⟩ := hit_arg h2
  obtain ⟨t, m, rfl⟩ := hit_arg h3
  rw [MakeChecks.laidMetH_plain _ _ _ (by kernel_rfl)] at hL
  refine (law_calls a b s t n m ha W hL).mono fun e W' ⟨he, bel⟩ => ?_
  subst he
  exact ⟨_, rfl, _, _, _, [], _, [], hW', trodAll_mk1 (shut_bool Tryz.underlying4 _), trodAll_mk4 (shut_int Tryz.underlying3 y0) (shut_int Tryz.underlying3 y1) (Below.trod laidOutQ (by kernel_rfl) (of_decide_eq_true (by kernel_rfl)) h2 bel lt2) (Below.trod laidOutQ (by kernel_rfl) (of_decide_eq_true (by kernel_rfl)) h3 bel lt3), rfl, bel.frame _, fun h => by cases h⟩
theorem law_holds : Rows.ScoreWeightsSaid :=
  OpenClaim.holds_of_wide 4 Tryz.f4 rfl rfl rfl rfl rfl rfl rfl ⟨rfl, rfl, rfl, rfl, rfl⟩ rfl rfl rfl rfl rfl (by kernel_rfl) Tryz.func4 (by kernel_rfl)
    (of_decide_eq_true (by kernel_rfl)) (by unfold Func.isWrapper; first | (rw [if_pos (by decide +kernel)]; kernel_rfl) | (rw [if_neg (by decide +kernel)]; exact ⟨rfl, rfl⟩))
    (fun os started H enc _ => law_lifted os started H enc)
/-- The tied card of ScoreWeights. -/
theorem scoreWeights_card : Rows.ScoreWeightsCardSaid :=
  Claim7.holds_tied_plain_at .later [] _ _ _ _ law_holds (fun _ h => by cases h) (by kernel_rfl) (fun _ h => by cases h) scoreWeights_row_tie rfl ⟨rfl, rfl⟩ (by kernel_rfl) rfl
    (fun f fn hf hfn => by
      obtain rfl : f = 4 := Option.some.inj ((show Tryz.prog.funcNamed "scholia/scholialaw24.ScoreWeights" = some 4 by kernel_rfl).symm.trans hf) |>.symm
      obtain rfl : fn = Tryz.f4 := (Option.some.inj (Tryz.func4.symm.trans hfn)).symm
      exact ⟨by kernel_rfl, fun j t ht => by
        rw [Tryz.params4] at ht
        have hm : t ∈ [3, 3, 53, 53] := by simpa using Array.mem_of_getElem? ht
        have hall : ([3, 3, 53, 53].all fun u => !Tryz.prog.wantsStandIn u) = true := by kernel_rfl
        exact (show Tryz.prog.wantsStandIn t = false by simpa using List.all_eq_true.1 hall t hm)⟩)
    (by kernel_rfl)
#print axioms scoreWeights_card

end Go.Proofs.YtdokohdkdoiclaaGreatDoor.Eng
