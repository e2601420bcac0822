/- What the law SegmentAny answers, part x. -/
import Derived.Test.YtgfcgkbbmcgjmaaGreatDoorABc2
import Derived.Test.YtgfcgkbbmcgjmaaGreatDoorAEh
import Derived.Test.YtgfcgkbbmcgjmaaGreatDoorRows
import Derived.Test.YtgfcgkbbmcgjmaaGreatDoorCards
import Derived.Test.YtgfcgkbbmcgjmaaGreatDoorTie
import Derived.ProofKit
import Derived.OpenShut
import Derived.ShutString
import Derived.ChangeOld
import Derived.Below
import Derived.SizedLaws
import Derived.WalkKit
import Derived.LaidMore
import Derived.Lay
import Derived.SevenTiedAt
import Derived.Stop.Joined
import Derived.HandedShaped
import Derived.Shelf.Vars
import Derived.Deep.DeepHandedRow
import Derived.Carry
namespace Go.Proofs.YtgfcgkbbmcgjmaaGreatDoor.Eng
set_option linter.unusedVariables false
set_option linter.unusedSimpArgs false
set_option maxRecDepth 100000
open Go.RowKit Go.ChangeShapes Go.WideShapes Go.ChangeAt Go.ChangeMaps
theorem H0_ok : Ok H0 := by
  rw [← H0_eq]
  exact startH_ok (by kernel_rfl)
theorem H0_laid : LaidZ laidLit H0 := by
  rw [← H0_eq]
  exact start_laid (by kernel_rfl)
theorem H0_fz : AllFz H0 := by
  rw [← H0_eq]
  exact startH_fz _ _
theorem cByte : Tryz.prog.cellsOf 5 = 1 := by kernel_rfl
theorem open_byte {D : Type} {enc : TypeId × Value → D} {W : World} (n : Nat) (c : List Value) (y : DataW D × List MemPlace) (h : DataW.trod enc Tryz.prog W 0 (fun _ => true) true n 5 c = some y) : ∃ x : Nat, x < 256 ∧ ∀ σ, VRs σ (by8 x) c := by
  obtain ⟨z, hz, hv⟩ := open_int1 (k := .u8) Tryz.underlying5 n c y h
  have h0 : 0 ≤ z ∧ z ≤ 255 := by
    simp only [Lit.wf, Bool.and_eq_true, decide_eq_true_eq] at hz
    have h1 : IntKind.u8.min = 0 := by decide
    have h2 : IntKind.u8.max = 255 := by decide
    omega
  refine ⟨z.toNat, by omega, fun σ => ?_⟩
  have := hv σ
  rw [show z = .ofNat z.toNat by simp only [Int.ofNat_eq_natCast]; omega] at this
  exact this
theorem law_calls {D : Type} {enc : TypeId × Value → D} {W : World} {base : Nat} {v : Value} {d : DataW D} {p : List MemPlace} (h0 : DataW.Trod enc Tryz.prog W 0 (fun _ => true) true 47 v d p) (hok : Value.okWide Tryz.prog W .any base 47 v) (hL : laidMet Tryz.prog Rows.segmentAnyRow.laid W) : Calls Tryz.prog 6 #[v] W fun e W' => e = .returned (.bool true) ∧ Below W.heap.size W W' := by
  have hR := laid_rel hL
  rw [laid_eq, H0_eq] at hR
  obtain ⟨σ', H', a, xs, hR', hfz', hO', ext, mo, hvr, hsl, hpr, hln⟩ := arg_slice by8 (fun x => x < 256) Tryz.underlying47 cByte (by decide) (fun x => ⟨rfl, rfl⟩) open_byte h0 hok hR H0_fz H0_ok
  obtain ⟨k, v', H2, hr, rfl⟩ := cal_runs (Q := fun v => v = .bool true) (law_ok (H0_laid.mono mo) hsl hpr) hO'
  rcases env_ok k _ _ _ _ _ hr σ' W #[v] hR' (.cons hvr .nil) with ⟨_, hc⟩ | ⟨v, w', h1, _⟩
  · refine hc.mono ?_
    rintro e W' ⟨σ2, v2, rfl, hv, _, hf⟩
    cases hv
    obtain ⟨k1, k2, k3, k4, k5⟩ := fr_keeps hfz' hf
    exact ⟨rfl, k1, k2, k3, k4, k5⟩
  · rw [ent_of Tryz.func6 (by kernel_rfl) (of_decide_eq_true (by kernel_rfl))] at h1
    cases h1
theorem own : ownKnob Tryz.prog.godebug = none := by kernel_rfl
theorem laidOutQ : laidOutB Tryz.prog = true := by kernel_rfl
set_option maxRecDepth 100000 in
theorem law_lifted (os : Os) (started : os.Started) (H : Type) (enc : TypeId × Value → H) :
    ReturnsInHanded {} Tryz.checked os 6 .any (fun w args => (Rows.segmentAnySpec.pre enc Tryz.prog Tryz.f6 Rows.segmentAnyRow.domain false w args ∧ laidMetH Tryz.prog Rows.segmentAnyRow.laid w) ∧ sizedMet enc Tryz.prog Tryz.f6 (OpenSpec.ofChange Rows.segmentAnySpec) false w args)
      (Rows.segmentAnySpec.post enc Tryz.prog Tryz.f6 false true false false) := by
  refine returnsInHanded_of_change_and (C := Tryz.checked) (X := fun w _ => laidMetH Tryz.prog Rows.segmentAnyRow.laid w) (fun _ _ _ hh h => h.of_heap hh) own started (by kernel_rfl) Tryz.func6
    (ChangeSpec.witness_shaped (enc := enc) (C := Tryz.checked) (os := os) (X := fun w _ => laidMetH Tryz.prog Rows.segmentAnyRow.laid w) false (World.laidAll Tryz.prog os Rows.segmentAnyRow.laid) #[.slice none 0 0] 8 (World.laidAll_os _ _ _)
      (World.shaped_of_ZipB (by kernel_rfl) (by kernel_rfl)) (by kernel_rfl) (by kernel_rfl) (by kernel_rfl)
      (by rw [MakeChecks.laidMetH_plain _ _ _ (by kernel_rfl)]; exact laidMet_laidAll _ (by kernel_rfl) (by kernel_rfl))) ?_
  intro W base args ds gs before hval0 hW hc _ hL _
  have hval : ∀ (j : Nat) t v, Tryz.f6.params[j]? = some t → args[j]? = some v → Value.okWide Tryz.prog W .any base t v := hval0
  have hW' := hW
  obtain ⟨p, q, hA0, hV, rfl, _, _⟩ := hW
  have hA : DataW.TrodAll enc Tryz.prog W 0 (fun _ => true) true Tryz.f6.params.toList args.toList ds p := hA0
  rw [Tryz.params6] at hA hval
  obtain ⟨v0, d0, rfl, rfl, h0⟩ := trodAll_one hA
  obtain ⟨rfl, rfl⟩ := trodVars_none hV
  have lt0 : ∀ z ∈ p, z.block < W.heap.size := by obtain ⟨m, hm⟩ := h0; exact DataW.trod_lt m _ _ _ hm
  rw [MakeChecks.laidMetH_plain _ _ _ (by kernel_rfl)] at hL
  refine (law_calls h0 (hval 0 47 v0 rfl rfl) hL).mono fun e W' ⟨he, bel⟩ => ?_
  subst he
  exact ⟨_, rfl, _, _, _, [], _, [], hW', trodAll_mk1 (shut_bool Tryz.underlying4 _), trodAll_mk1 (Below.trod laidOutQ (by kernel_rfl) (of_decide_eq_true (by kernel_rfl)) h0 bel lt0), rfl, bel.frame _, fun h => by cases h⟩
end Go.Proofs.YtgfcgkbbmcgjmaaGreatDoor.Eng
