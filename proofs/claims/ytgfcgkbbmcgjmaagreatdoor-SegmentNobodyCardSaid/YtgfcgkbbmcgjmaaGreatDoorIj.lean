/- What the law SegmentNobody's row says of the program, by computation. -/
import Derived.Test.YtgfcgkbbmcgjmaaGreatDoorRows
import Derived.JoinedOf
import Derived.KernelRfl
namespace Go.Proofs.YtgfcgkbbmcgjmaaGreatDoor.Eng
theorem jf1 : (Rows.segmentNobodyRow.inPlace == Tryz.prog.inPlace 10) = true := by kernel_rfl
theorem jf2 : (Rows.segmentNobodyRow.unfollowed == Tryz.prog.unfollowed 10) = true := by kernel_rfl
theorem jf3 : (Rows.segmentNobodyRow.recurses == Tryz.prog.recurses 10) = true := by kernel_rfl
theorem jf4 : (Rows.segmentNobodyRow.named == Tryz.prog.varsNamed 10) = true := by kernel_rfl
theorem joined_facts : joinedFacts Tryz.prog 10 Tryz.f10 Rows.segmentNobodySpec Rows.segmentNobodyRow = true := by
  unfold joinedFacts
  rw [jf1, jf2, jf3, jf4]
  kernel_rfl
end Go.Proofs.YtgfcgkbbmcgjmaaGreatDoor.Eng
