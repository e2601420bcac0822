/- What the law SegmentDocs's row says of the program, by computation. -/
import Derived.Test.YtgfcgkbbmcgjmaaGreatDoorRows
import Derived.JoinedOf
import Derived.KernelRfl
namespace Go.Proofs.YtgfcgkbbmcgjmaaGreatDoor.Eng
theorem rowf1:(Rows.segmentDocsRow.inPlace == Tryz.prog.inPlace 3)=true:=by kernel_rfl
theorem rowf2:(Rows.segmentDocsRow.unfollowed == Tryz.prog.unfollowed 3)=true:=by kernel_rfl
theorem rowf3:(Rows.segmentDocsRow.recurses == Tryz.prog.recurses 3)=true:=by kernel_rfl
theorem rowf4:(Rows.segmentDocsRow.named == Tryz.prog.varsNamed 3)=true:=by kernel_rfl
theorem joined_facts:joinedFacts Tryz.prog 3 Tryz.f3 Rows.segmentDocsSpec Rows.segmentDocsRow=true:=by
 unfold joinedFacts
 rw [rowf1,rowf2,rowf3,rowf4]
 kernel_rfl
end Go.Proofs.YtgfcgkbbmcgjmaaGreatDoor.Eng
