/- Proved: the law SegmentDocs answers true, whatever its input. Conditions: none but those of the given card (what the tables of package level hold is tied to the text of the program). -/
import Derived.Test.YtgfcgkbbmcgjmaaGreatDoorDSy
import Derived.Test.YtgfcgkbbmcgjmaaGreatDoorRows
import Derived.Test.YtgfcgkbbmcgjmaaGreatDoorCards
import Derived.Test.YtgfcgkbbmcgjmaaGreatDoorTie
import Derived.ProofKit
import Derived.OpenShut
import Derived.ShutString
import Derived.ChangeOld
import Derived.Below
import Derived.SizedLaws
import Derived.WalkKit
import Derived.LaidMore
import Derived.Lay
import Derived.SevenTiedAt
import Derived.Stop.Joined
import Derived.HandedShaped
import Derived.Shelf.Vars
import Derived.Deep.DeepHandedRow
import Derived.Carry
namespace Go.Proofs.YtgfcgkbbmcgjmaaGreatDoor.Eng
set_option linter.unusedVariables false
set_option linter.unusedSimpArgs false
set_option maxRecDepth 100000
open Go.RowKit Go.ChangeShapes Go.WideShapes Go.ChangeAt Go.ChangeMaps
theorem segmentDocs_card:Rows.SegmentDocsCardSaid:=
 Claim7.holds_tied_plain_at .later [] _ _ _ _ law_holds (fun _ h=>by cases h) (by kernel_rfl) (fun _ h=>by cases h) segmentDocs_row_tie rfl ⟨rfl,rfl⟩ (by kernel_rfl) rfl
  (fun f fn hf hfn=>by
   obtain rfl : f = 3 := Option.some.inj ((show Tryz.prog.funcNamed "scholia/scholialaw20.SegmentDocs" = some 3 by kernel_rfl).symm.trans hf) |>.symm
   obtain rfl:fn=Tryz.f3:=(Option.some.inj (Tryz.func3.symm.trans hfn)).symm
   exact ⟨by kernel_rfl,fun j t ht=>by
    rw [Tryz.params3] at ht
    have hm:t∈[22,23,9,3]:=by simpa using Array.mem_of_getElem? ht
    have hall:([22,23,9,3].all fun u=> !Tryz.prog.wantsStandIn u)=true:=by kernel_rfl
    exact (show Tryz.prog.wantsStandIn t=false by simpa using List.all_eq_true.1 hall t hm)⟩)
  (by kernel_rfl)
#print axioms segmentDocs_card
end Go.Proofs.YtgfcgkbbmcgjmaaGreatDoor.Eng
