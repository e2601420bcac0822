/-
  DERIVED. GIVEN WITH THE SEED: THE CARDS: each row of YtgfcgkbbmcgjmaaGreatDoorRows.lean that lists a variable, with what it lists TIED to the program's text (the seventh form; the later family's looks); each row that meets fmt, with fmt's text TOLD by the authors' own Lean function (tested against real Go, not proved from fmt's source: count such statements apart). THE CARD IS WHAT COUNTS. Prove the row's statement (the work); the ties are given (YtgfcgkbbmcgjmaaGreatDoorTie.lean); close each card by the builder's one call (the guide's Derived/Test/ToyasCard.lean, 'card_holds'). Laid BY PROGRAM, IN A SANDBOX (cutbox-door.mjs). By AI agents, Wed Nov 11 2026. No macro, syntax, notation, axiom, sorry.
-/
import Derived.Test.YtgfcgkbbmcgjmaaGreatDoorRows
import GoSem.ClaimSeven
namespace Go.Proofs.YtgfcgkbbmcgjmaaGreatDoor
namespace Rows

/-- THE TIED CARD OF 'scholialaw20.SegmentDocs'. -/
def segmentDocsCard : Claim7 := { stood := { row := segmentDocsRow, standIns := [], harness := (true, "43bda8e1c3d6dba455a5846a998a1ea9d2bf1f8ddafdee5fba4aa554ab11247e"), looks := false }, kinds := [], alts := [], laidByText := true, laidKinds := [.data, .data, .data, .data], laidTests := true, laidLooks := .later }
def SegmentDocsCardSaid : Prop := Claim7.holds Tryz.pinned (.plain (OpenSpec.ofChange segmentDocsSpec)) segmentDocsCard

/-- THE TIED CARD OF 'scholialaw20.SegmentBytes'. -/
def segmentBytesCard : Claim7 := { stood := { row := segmentBytesRow, standIns := [], harness := (true, "43bda8e1c3d6dba455a5846a998a1ea9d2bf1f8ddafdee5fba4aa554ab11247e"), looks := false }, kinds := [], alts := [], laidByText := true, laidKinds := [.data, .data, .data, .data], laidTests := true, laidLooks := .later }
def SegmentBytesCardSaid : Prop := Claim7.holds Tryz.pinned (.plain (OpenSpec.ofChange segmentBytesSpec)) segmentBytesCard

/-- THE TIED CARD OF 'scholialaw20.SegmentTerms'. -/
def segmentTermsCard : Claim7 := { stood := { row := segmentTermsRow, standIns := [], harness := (true, "43bda8e1c3d6dba455a5846a998a1ea9d2bf1f8ddafdee5fba4aa554ab11247e"), looks := false }, kinds := [], alts := [], laidByText := true, laidKinds := [.data, .data, .data, .data], laidTests := true, laidLooks := .later }
def SegmentTermsCardSaid : Prop := Claim7.holds Tryz.pinned (.plain (OpenSpec.ofChange segmentTermsSpec)) segmentTermsCard

/-- THE TIED CARD OF 'scholialaw20.SegmentAny'. -/
def segmentAnyCard : Claim7 := { stood := { row := segmentAnyRow, standIns := [], harness := (true, "43bda8e1c3d6dba455a5846a998a1ea9d2bf1f8ddafdee5fba4aa554ab11247e"), looks := false }, kinds := [], alts := [], laidByText := true, laidKinds := [.data, .data, .data, .data], laidTests := true, laidLooks := .later }
def SegmentAnyCardSaid : Prop := Claim7.holds Tryz.pinned (.plain (OpenSpec.ofChange segmentAnySpec)) segmentAnyCard

/-- THE TIED CARD OF 'scholialaw20.SegmentBack'. -/
def segmentBackCard : Claim7 := { stood := { row := segmentBackRow, standIns := [], harness := (true, "43bda8e1c3d6dba455a5846a998a1ea9d2bf1f8ddafdee5fba4aa554ab11247e"), looks := false }, kinds := [], alts := [], laidByText := true, laidKinds := [.data, .data, .data, .data], laidTests := true, laidLooks := .later }
def SegmentBackCardSaid : Prop := Claim7.holds Tryz.pinned (.plain (OpenSpec.ofChange segmentBackSpec)) segmentBackCard

/-- THE TIED CARD OF 'scholialaw23.MatchNot'. -/
def matchNotCard : Claim7 := { stood := { row := matchNotRow, standIns := [], harness := (true, "43bda8e1c3d6dba455a5846a998a1ea9d2bf1f8ddafdee5fba4aa554ab11247e"), looks := false }, kinds := [], alts := [], laidByText := true, laidKinds := [.data, .data, .data], laidTests := true, laidLooks := .later }
def MatchNotCardSaid : Prop := Claim7.holds Tryz.pinned (.plain (OpenSpec.ofChange matchNotSpec)) matchNotCard

/-- THE TIED CARD OF 'scholialaw20.SegmentMerges'. -/
def segmentMergesCard : Claim7 := { stood := { row := segmentMergesRow, standIns := [], harness := (true, "43bda8e1c3d6dba455a5846a998a1ea9d2bf1f8ddafdee5fba4aa554ab11247e"), looks := false }, kinds := [], alts := [], laidByText := true, laidKinds := [.data, .data, .data, .data], laidTests := true, laidLooks := .later }
def SegmentMergesCardSaid : Prop := Claim7.holds Tryz.pinned (.plain (OpenSpec.ofChange segmentMergesSpec)) segmentMergesCard

/-- THE TIED CARD OF 'scholialaw20.SegmentNobody'. -/
def segmentNobodyCard : Claim7 := { stood := { row := segmentNobodyRow, standIns := [], harness := (true, "43bda8e1c3d6dba455a5846a998a1ea9d2bf1f8ddafdee5fba4aa554ab11247e"), looks := false }, kinds := [], alts := [], laidByText := true, laidKinds := [.data, .data, .data, .data], laidTests := true, laidLooks := .later }
def SegmentNobodyCardSaid : Prop := Claim7.holds Tryz.pinned (.plain (OpenSpec.ofChange segmentNobodySpec)) segmentNobodyCard

/-- THE TIED CARD OF 'scholialaw23.MatchMerged'. -/
def matchMergedCard : Claim7 := { stood := { row := matchMergedRow, standIns := [], harness := (true, "43bda8e1c3d6dba455a5846a998a1ea9d2bf1f8ddafdee5fba4aa554ab11247e"), looks := false }, kinds := [], alts := [], laidByText := true, laidKinds := [.data, .data, .data, .data], laidTests := true, laidLooks := .later }
def MatchMergedCardSaid : Prop := Claim7.holds Tryz.pinned (.plain (OpenSpec.ofChange matchMergedSpec)) matchMergedCard

/-- THE SECOND FORM's CARD OF 'scholialaw20.SegmentDocs'. -/
def segmentDocsUptoCard : Claim7 := { stood := { row := segmentDocsUptoRow, standIns := [], harness := (true, "43bda8e1c3d6dba455a5846a998a1ea9d2bf1f8ddafdee5fba4aa554ab11247e"), looks := false }, kinds := [], alts := [], laidByText := true, laidKinds := [.data, .data, .data, .data], laidTests := true, laidLooks := .later }
def SegmentDocsUptoCardSaid : Prop := Claim7.holds Tryz.pinned (.plain (OpenSpec.upto segmentDocsSpec)) segmentDocsUptoCard

/-- THE SECOND FORM's CARD OF 'scholialaw20.SegmentBytes'. -/
def segmentBytesUptoCard : Claim7 := { stood := { row := segmentBytesUptoRow, standIns := [], harness := (true, "43bda8e1c3d6dba455a5846a998a1ea9d2bf1f8ddafdee5fba4aa554ab11247e"), looks := false }, kinds := [], alts := [], laidByText := true, laidKinds := [.data, .data, .data, .data], laidTests := true, laidLooks := .later }
def SegmentBytesUptoCardSaid : Prop := Claim7.holds Tryz.pinned (.plain (OpenSpec.upto segmentBytesSpec)) segmentBytesUptoCard

/-- THE SECOND FORM's CARD OF 'scholialaw20.SegmentTerms'. -/
def segmentTermsUptoCard : Claim7 := { stood := { row := segmentTermsUptoRow, standIns := [], harness := (true, "43bda8e1c3d6dba455a5846a998a1ea9d2bf1f8ddafdee5fba4aa554ab11247e"), looks := false }, kinds := [], alts := [], laidByText := true, laidKinds := [.data, .data, .data, .data], laidTests := true, laidLooks := .later }
def SegmentTermsUptoCardSaid : Prop := Claim7.holds Tryz.pinned (.plain (OpenSpec.upto segmentTermsSpec)) segmentTermsUptoCard

/-- THE SECOND FORM's CARD OF 'scholialaw20.SegmentAny'. -/
def segmentAnyUptoCard : Claim7 := { stood := { row := segmentAnyUptoRow, standIns := [], harness := (true, "43bda8e1c3d6dba455a5846a998a1ea9d2bf1f8ddafdee5fba4aa554ab11247e"), looks := false }, kinds := [], alts := [], laidByText := true, laidKinds := [.data, .data, .data, .data], laidTests := true, laidLooks := .later }
def SegmentAnyUptoCardSaid : Prop := Claim7.holds Tryz.pinned (.plain (OpenSpec.upto segmentAnySpec)) segmentAnyUptoCard

/-- THE SECOND FORM's CARD OF 'scholialaw20.SegmentBack'. -/
def segmentBackUptoCard : Claim7 := { stood := { row := segmentBackUptoRow, standIns := [], harness := (true, "43bda8e1c3d6dba455a5846a998a1ea9d2bf1f8ddafdee5fba4aa554ab11247e"), looks := false }, kinds := [], alts := [], laidByText := true, laidKinds := [.data, .data, .data, .data], laidTests := true, laidLooks := .later }
def SegmentBackUptoCardSaid : Prop := Claim7.holds Tryz.pinned (.plain (OpenSpec.upto segmentBackSpec)) segmentBackUptoCard

/-- THE SECOND FORM's CARD OF 'scholialaw23.MatchNot'. -/
def matchNotUptoCard : Claim7 := { stood := { row := matchNotUptoRow, standIns := [], harness := (true, "43bda8e1c3d6dba455a5846a998a1ea9d2bf1f8ddafdee5fba4aa554ab11247e"), looks := false }, kinds := [], alts := [], laidByText := true, laidKinds := [.data, .data, .data], laidTests := true, laidLooks := .later }
def MatchNotUptoCardSaid : Prop := Claim7.holds Tryz.pinned (.plain (OpenSpec.upto matchNotSpec)) matchNotUptoCard

/-- THE SECOND FORM's CARD OF 'scholialaw20.SegmentMerges'. -/
def segmentMergesUptoCard : Claim7 := { stood := { row := segmentMergesUptoRow, standIns := [], harness := (true, "43bda8e1c3d6dba455a5846a998a1ea9d2bf1f8ddafdee5fba4aa554ab11247e"), looks := false }, kinds := [], alts := [], laidByText := true, laidKinds := [.data, .data, .data, .data], laidTests := true, laidLooks := .later }
def SegmentMergesUptoCardSaid : Prop := Claim7.holds Tryz.pinned (.plain (OpenSpec.upto segmentMergesSpec)) segmentMergesUptoCard

/-- THE SECOND FORM's CARD OF 'scholialaw20.SegmentNobody'. -/
def segmentNobodyUptoCard : Claim7 := { stood := { row := segmentNobodyUptoRow, standIns := [], harness := (true, "43bda8e1c3d6dba455a5846a998a1ea9d2bf1f8ddafdee5fba4aa554ab11247e"), looks := false }, kinds := [], alts := [], laidByText := true, laidKinds := [.data, .data, .data, .data], laidTests := true, laidLooks := .later }
def SegmentNobodyUptoCardSaid : Prop := Claim7.holds Tryz.pinned (.plain (OpenSpec.upto segmentNobodySpec)) segmentNobodyUptoCard

/-- THE SECOND FORM's CARD OF 'scholialaw23.MatchMerged'. -/
def matchMergedUptoCard : Claim7 := { stood := { row := matchMergedUptoRow, standIns := [], harness := (true, "43bda8e1c3d6dba455a5846a998a1ea9d2bf1f8ddafdee5fba4aa554ab11247e"), looks := false }, kinds := [], alts := [], laidByText := true, laidKinds := [.data, .data, .data, .data], laidTests := true, laidLooks := .later }
def MatchMergedUptoCardSaid : Prop := Claim7.holds Tryz.pinned (.plain (OpenSpec.upto matchMergedSpec)) matchMergedUptoCard
end Rows
end Go.Proofs.YtgfcgkbbmcgjmaaGreatDoor
