/-
  DERIVED. GIVEN WITH THE SEED: THE CARDS: each row of YtdokohdkdoiclaaGreatDoorRows.lean that lists a variable, with what it lists TIED to the program's text (the seventh form; the later family's looks); each row that meets fmt, with fmt's text TOLD by the authors' own Lean function (tested against real Go, not proved from fmt's source: count such statements apart). THE CARD IS WHAT COUNTS. Prove the row's statement (the work); the ties are given (YtdokohdkdoiclaaGreatDoorTie.lean); close each card by the builder's one call (the guide's Derived/Test/ToyasCard.lean, 'card_holds'). Laid BY PROGRAM, IN A SANDBOX (cutbox-door.mjs). By AI agents, Wed Nov 11 2026. No macro, syntax, notation, axiom, sorry.
-/
import Derived.Test.YtdokohdkdoiclaaGreatDoorRows
import GoSem.ClaimSeven
namespace Go.Proofs.YtdokohdkdoiclaaGreatDoor
namespace Rows

/-- THE TIED CARD OF 'scholialaw20.SegmentNobody'. -/
def segmentNobodyCard : Claim7 := { stood := { row := segmentNobodyRow, standIns := [], harness := (true, "a39838f74213a6a9f328e2f05f698cdad3676385fe3bdb64b5545dc9971e342b"), looks := false }, kinds := [], alts := [], laidByText := true, laidKinds := [.data, .data, .data, .data], laidTests := true, laidLooks := .later }
def SegmentNobodyCardSaid : Prop := Claim7.holds Tryz.pinned (.plain (OpenSpec.ofChange segmentNobodySpec)) segmentNobodyCard

/-- THE TIED CARD OF 'scholialaw24.ScoreWeights'. -/
def scoreWeightsCard : Claim7 := { stood := { row := scoreWeightsRow, standIns := [], harness := (true, "a39838f74213a6a9f328e2f05f698cdad3676385fe3bdb64b5545dc9971e342b"), looks := false }, kinds := [], alts := [], laidByText := true, laidKinds := [.data, .data, .data, .data], laidTests := true, laidLooks := .later }
def ScoreWeightsCardSaid : Prop := Claim7.holds Tryz.pinned (.plain (OpenSpec.ofChange scoreWeightsSpec)) scoreWeightsCard

/-- THE SECOND FORM's CARD OF 'scholialaw20.SegmentNobody'. -/
def segmentNobodyUptoCard : Claim7 := { stood := { row := segmentNobodyUptoRow, standIns := [], harness := (true, "a39838f74213a6a9f328e2f05f698cdad3676385fe3bdb64b5545dc9971e342b"), looks := false }, kinds := [], alts := [], laidByText := true, laidKinds := [.data, .data, .data, .data], laidTests := true, laidLooks := .later }
def SegmentNobodyUptoCardSaid : Prop := Claim7.holds Tryz.pinned (.plain (OpenSpec.upto segmentNobodySpec)) segmentNobodyUptoCard

/-- THE SECOND FORM's CARD OF 'scholialaw24.ScoreWeights'. -/
def scoreWeightsUptoCard : Claim7 := { stood := { row := scoreWeightsUptoRow, standIns := [], harness := (true, "a39838f74213a6a9f328e2f05f698cdad3676385fe3bdb64b5545dc9971e342b"), looks := false }, kinds := [], alts := [], laidByText := true, laidKinds := [.data, .data, .data, .data], laidTests := true, laidLooks := .later }
def ScoreWeightsUptoCardSaid : Prop := Claim7.holds Tryz.pinned (.plain (OpenSpec.upto scoreWeightsSpec)) scoreWeightsUptoCard
end Rows
end Go.Proofs.YtdokohdkdoiclaaGreatDoor
