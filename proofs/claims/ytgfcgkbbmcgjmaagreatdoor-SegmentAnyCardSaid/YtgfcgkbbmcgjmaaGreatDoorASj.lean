/- What the law SegmentAny's row says of the program, by computation. -/
import Derived.Test.YtgfcgkbbmcgjmaaGreatDoorRows
import Derived.JoinedOf
import Derived.KernelRfl
namespace Go.Proofs.YtgfcgkbbmcgjmaaGreatDoor.Eng
theorem rowf1 : (Rows.segmentAnyRow.inPlace == Tryz.prog.inPlace 6) = true := by kernel_rfl
theorem rowf2 : (Rows.segmentAnyRow.unfollowed == Tryz.prog.unfollowed 6) = true := by kernel_rfl
theorem rowf3 : (Rows.segmentAnyRow.recurses == Tryz.prog.recurses 6) = true := by kernel_rfl
theorem rowf4 : (Rows.segmentAnyRow.named == Tryz.prog.varsNamed 6) = true := by kernel_rfl
theorem joined_facts : joinedFacts Tryz.prog 6 Tryz.f6 Rows.segmentAnySpec Rows.segmentAnyRow = true := by
  unfold joinedFacts
  rw [rowf1, rowf2, rowf3, rowf4]
  kernel_rfl
end Go.Proofs.YtgfcgkbbmcgjmaaGreatDoor.Eng
