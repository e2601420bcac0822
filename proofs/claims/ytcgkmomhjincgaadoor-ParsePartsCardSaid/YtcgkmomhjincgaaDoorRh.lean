/- Proved: ParseParts: whatever the text, the law scholialaw22.ParseParts answers true. Conditions: none but those of the given card (what the tables of package level hold is tied to the text of the program). -/
import Derived.Test.YtcgkmomhjincgaaDoorLib0
import Derived.Test.YtcgkmomhjincgaaDoorRe
import Derived.Test.YtcgkmomhjincgaaDoorRg
import Derived.Test.YtcgkmomhjincgaaDoorRows
import Derived.Test.YtcgkmomhjincgaaDoorCards
import Derived.Test.YtcgkmomhjincgaaDoorTie
import Derived.ProofKit
import Derived.OpenShut
import Derived.ShutString
import Derived.ChangeOld
import Derived.Below
import Derived.SizedLaws
import Derived.WalkKit
import Derived.LaidMore
import Derived.Lay
import Derived.SevenTiedAt
import Derived.Stop.Joined
namespace Go.Proofs.YtcgkmomhjincgaaDoor.Lib.Scr
open Go.RowKit Go.Proofs.YtcgkmomhjincgaaDoor.Lib Go.Proofs.YtcgkmomhjincgaaDoorW.PrintWords Go.Proofs.YtcgkmomhjincgaaDoorW.PrintLast Go.Proofs.YtcgkmomhjincgaaDoorW.PrintMore
set_option linter.unusedVariables false
set_option linter.unusedSimpArgs false
attribute [local go_sem] max2_int min2_int max_two min_two max_three min_three max_four min_four
open Go.ChangeShapes Go.WideShapes Go.ChangeAt Go.ChangeMaps
theorem parseParts_calls (s : ByteArray) (w : World) (hG : GL w) : Calls Tryd.prog 5 #[.string s] w fun e w' => e = .returned (.bool true) ∧ Below w.heap.size w w' := by
  obtain ⟨x, er, hf, h⟩ := parse_total s 1660 (by omega)
  rcases h with ⟨rfl, hF⟩ | ⟨he, rfl⟩
  · by_cases c : 60 < s.size
    · exact parts_big 1660 s w x hG hf c
    · by_cases c6 : 6 ≤ cntB s
      · exact parts_many 1660 s w x hG hf c c6
      · obtain ⟨K, hK⟩ := same_self 15 x hF
        have h1 := parts_round 1660 (Nat.le_refl _) s x (by omega) c6 hf
        have h2 := parts_blank 1660 (Nat.le_refl _) s x (by omega) c6 hf
        by_cases c5 : 5 ≤ cntB s
        · obtain ⟨y, ey, h3, _⟩ := parse_total ((⟨#[45, 40]⟩ : ByteArray) ++ s ++ (⟨#[41]⟩ : ByteArray)) 1660 (by omega)
          exact parts_on 1660 K s w x y ey hG hf c c6 h1 h2 h3 (hK K (Nat.le_refl _)) c5
        · exact parts_few 1660 K s w x hG hf c c6 h1 h2 (parts_not 1660 (Nat.le_refl _) s x (by omega) c5 hf) (hK K (Nat.le_refl _)) c5
  · exact parts_err 1660 s w zN er hG hf he
set_option maxRecDepth 100000 in
theorem parts_lifted (os : Os) (started : os.Started) (H : Type) (enc : TypeId × Value → H) :
    ReturnsInHanded {} Tryd.checked os 5 .any (fun w args => (Rows.parsePartsSpec.pre enc Tryd.prog Tryd.f5 Rows.parsePartsRow.domain false w args ∧ laidMetH Tryd.prog Rows.parsePartsRow.laid w) ∧ sizedMet enc Tryd.prog Tryd.f5 (OpenSpec.ofChange Rows.parsePartsSpec) false w args)
      (Rows.parsePartsSpec.post enc Tryd.prog Tryd.f5 false true false false) := by
  refine returnsInHanded_of_change_and (C := Tryd.checked) (X := fun w _ => laidMetH Tryd.prog Rows.parsePartsRow.laid w) (fun _ _ _ hh h => h.of_heap hh) own started (by kernel_rfl) Tryd.func5
    (ChangeSpec.witness_shaped (enc := enc) (C := Tryd.checked) (os := os) (X := fun w _ => laidMetH Tryd.prog Rows.parsePartsRow.laid w) false (World.laidAll Tryd.prog os Rows.parsePartsRow.laid) #[.string ByteArray.empty] 8 (World.laidAll_os _ _ _)
      (World.shaped_of_ZipB (by kernel_rfl) (by kernel_rfl)) (by kernel_rfl) (by kernel_rfl) (by kernel_rfl)
      (by rw [MakeChecks.laidMetH_plain _ _ _ (by kernel_rfl)]; exact laidMet_laidAll _ (by kernel_rfl) (by kernel_rfl))) ?_
  intro W base args ds gs before hval0 hW hc _ hL _
  have hval : ∀ (j : Nat) t v, Tryd.f5.params[j]? = some t → args[j]? = some v → Value.okWide Tryd.prog W .any base t v := hval0
  have hW' := hW
  obtain ⟨p, q, hA0, hV, rfl, _, _⟩ := hW
  have hA : DataW.TrodAll enc Tryd.prog W 0 (fun _ => true) true Tryd.f5.params.toList args.toList ds p := hA0
  rw [Tryd.params5] at hA hval
  obtain ⟨v0, d0, rfl, rfl, h0⟩ := trodAll_one hA
  obtain ⟨rfl, rfl⟩ := trodVars_none hV
  obtain ⟨a0, rfl, rfl, rfl, y0⟩ := open_string Tryd.underlying9 (hval 0 9 v0 rfl rfl) h0
  refine (parseParts_calls a0 W (gl_of hL)).mono fun e W' ⟨he, bel⟩ => ?_
  subst he
  exact ⟨_, rfl, _, _, _, [], _, [], hW', trodAll_mk1 (shut_bool Tryd.underlying4 _), trodAll_mk1 (shut_string Tryd.underlying9 y0), rfl, bel.frame _, fun h => by cases h⟩
theorem parts_holds : Rows.ParsePartsSaid :=
  OpenClaim.holds_of_wide 5 Tryd.f5 rfl rfl rfl rfl rfl rfl rfl ⟨rfl, rfl, rfl, rfl, rfl⟩ rfl rfl rfl rfl rfl (by kernel_rfl) Tryd.func5 (by kernel_rfl)
    (of_decide_eq_true (by kernel_rfl)) (by unfold Func.isWrapper; first | (rw [if_pos (by decide +kernel)]; kernel_rfl) | (rw [if_neg (by decide +kernel)]; exact ⟨rfl, rfl⟩))
    (fun os started H enc _ => parts_lifted os started H enc)
/-- The tied card of ParseParts. -/
theorem parseParts_card : Rows.ParsePartsCardSaid :=
  Claim7.holds_tied_plain_at .later [] [.data, .data, .data] true (true, "4639ac278c7bcf710fa1c2773640cf42c3d06fa9e7e3ad51cbc76ce6e75a525e") true parts_holds (fun _ h => by cases h) (by kernel_rfl) (fun _ h => by cases h) parseParts_row_tie rfl ⟨rfl, rfl⟩ (by kernel_rfl) rfl
    (fun f fn hf hfn => by
      obtain rfl : f = 5 := Option.some.inj ((show Tryd.prog.funcNamed "scholia/scholialaw22.ParseParts" = some 5 by kernel_rfl).symm.trans hf) |>.symm
      obtain rfl : fn = Tryd.f5 := (Option.some.inj (Tryd.func5.symm.trans hfn)).symm
      exact ⟨by kernel_rfl, fun j t ht => by
        rw [Tryd.params5] at ht
        have hm : t ∈ [9] := by simpa using Array.mem_of_getElem? ht
        have hall : ([9].all fun u => !Tryd.prog.wantsStandIn u) = true := by kernel_rfl
        exact (show Tryd.prog.wantsStandIn t = false by simpa using List.all_eq_true.1 hall t hm)⟩)
    (by kernel_rfl)
#print axioms parseParts_card

end Go.Proofs.YtcgkmomhjincgaaDoor.Lib.Scr
