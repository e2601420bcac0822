/- What the law SegmentNobody answers, part x. -/
import Derived.Test.YtgfcgkbbmcgjmaaGreatDoorIw
import Derived.Test.YtgfcgkbbmcgjmaaGreatDoorRows
import Derived.Test.YtgfcgkbbmcgjmaaGreatDoorCards
import Derived.Test.YtgfcgkbbmcgjmaaGreatDoorTie
import Derived.ProofKit
import Derived.OpenShut
import Derived.ShutString
import Derived.ChangeOld
import Derived.Below
import Derived.SizedLaws
import Derived.WalkKit
import Derived.LaidMore
import Derived.Lay
import Derived.SevenTiedAt
import Derived.Stop.Joined
import Derived.HandedShaped
import Derived.Shelf.Vars
import Derived.Deep.DeepHandedRow
import Derived.Carry
namespace Go.Proofs.YtgfcgkbbmcgjmaaGreatDoor.Eng
set_option linter.unusedVariables false
set_option linter.unusedSimpArgs false
set_option maxRecDepth 100000
open Go.RowKit Go.ChangeShapes Go.WideShapes Go.ChangeAt Go.ChangeMaps
theorem answer_true {r : Option (AV × Hp)} (h : answer r = true) : ∃ H', r = some (.bool true, H') := by
  unfold answer at h
  split at h
  · rename_i b H'
    exact ⟨H', by rw [h]⟩
  · cases h
theorem law_calls (i : Int) (s : ByteArray) (W : World) (hL : laidMet Tryz.prog Rows.segmentNobodyRow.laid W) : Calls Tryz.prog 10 #[.int .i64 i, .string s] W fun e W' => e = .returned (.bool true) ∧ Below W.heap.size W W' := by
  have hR := laid_rel hL
  rw [laid_eq, H0_eq] at hR
  obtain ⟨H', hr⟩ := answer_true (law_run i (s.data.toList.map (·.toNat)))
  rcases all_ok 1000 _ _ _ _ _ hr (startS Tryz.prog.globals.size) W #[.int .i64 i, .string s] hR (.cons (.int _ _) (.cons (.str s) .nil)) with ⟨_, hc⟩ | ⟨v, w', h1, _⟩
  · refine hc.mono ?_
    rintro e W' ⟨σ', v', rfl, hv, _, hf⟩
    cases hv
    rw [← H0_eq] at hf
    obtain ⟨k1, k2, k3, k4, k5⟩ := start_keeps hf
    exact ⟨rfl, k1, k2, k3, k4, k5⟩
  · rw [ent_of Tryz.func10 (by kernel_rfl) (of_decide_eq_true (by kernel_rfl))] at h1
    cases h1
theorem own : ownKnob Tryz.prog.godebug = none := by kernel_rfl
theorem laidOutQ : laidOutB Tryz.prog = true := by kernel_rfl
set_option maxRecDepth 100000 in
theorem law_lifted (os : Os) (started : os.Started) (H : Type) (enc : TypeId × Value → H) :
    ReturnsInHanded {} Tryz.checked os 10 .any (fun w args => (Rows.segmentNobodySpec.pre enc Tryz.prog Tryz.f10 Rows.segmentNobodyRow.domain false w args ∧ laidMetH Tryz.prog Rows.segmentNobodyRow.laid w) ∧ sizedMet enc Tryz.prog Tryz.f10 (OpenSpec.ofChange Rows.segmentNobodySpec) false w args)
      (Rows.segmentNobodySpec.post enc Tryz.prog Tryz.f10 false true false false) := by
  refine returnsInHanded_of_change_and (C := Tryz.checked) (X := fun w _ => laidMetH Tryz.prog Rows.segmentNobodyRow.laid w) (fun _ _ _ hh h => h.of_heap hh) own started (by kernel_rfl) Tryz.func10
    (ChangeSpec.witness_shaped (enc := enc) (C := Tryz.checked) (os := os) (X := fun w _ => laidMetH Tryz.prog Rows.segmentNobodyRow.laid w) false (World.laidAll Tryz.prog os Rows.segmentNobodyRow.laid) #[.int .i64 0, .string ByteArray.empty] 8 (World.laidAll_os _ _ _)
      (World.shaped_of_ZipB (by kernel_rfl) (by kernel_rfl)) (by kernel_rfl) (by kernel_rfl) (by kernel_rfl)
      (by rw [MakeChecks.laidMetH_plain _ _ _ (by kernel_rfl)]; exact laidMet_laidAll _ (by kernel_rfl) (by kernel_rfl))) ?_
  intro W base args ds gs before hval0 hW hc _ hL _
  have hval : ∀ (j : Nat) t v, Tryz.f10.params[j]? = some t → args[j]? = some v → Value.okWide Tryz.prog W .any base t v := hval0
  have hW' := hW
  obtain ⟨p, q, hA0, hV, rfl, _, _⟩ := hW
  have hA : DataW.TrodAll enc Tryz.prog W 0 (fun _ => true) true Tryz.f10.params.toList args.toList ds p := hA0
  rw [Tryz.params10] at hA hval
  obtain ⟨v0, v1, d0, d1, p0, p1, rfl, rfl, rfl, h0, h1⟩ := trodAll_two hA
  obtain ⟨rfl, rfl⟩ := trodVars_none hV
  obtain ⟨i, rfl, rfl, rfl, y0⟩ := open_int Tryz.underlying3 (hval 0 3 v0 rfl rfl) h0
  obtain ⟨s, rfl, rfl, rfl, y1⟩ := open_string Tryz.underlying9 (hval 1 9 v1 rfl rfl) h1
  rw [MakeChecks.laidMetH_plain _ _ _ (by kernel_rfl)] at hL
  refine (law_calls i s W hL).mono fun e W' ⟨he, bel⟩ => ?_
  subst he
  exact ⟨_, rfl, _, _, _, [], _, [], hW', trodAll_mk1 (shut_bool Tryz.underlying4 _), trodAll_mk2 (shut_int Tryz.underlying3 y0) (shut_string Tryz.underlying9 y1), rfl, bel.frame _, fun h => by cases h⟩

end Go.Proofs.YtgfcgkbbmcgjmaaGreatDoor.Eng
