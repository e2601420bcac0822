/-
  DERIVED. GIVEN WITH THE SEED: THE CARDS: each row of YtnpnhcjgmimehaaGreatDoorRows.lean that lists a variable, with what it lists TIED to the program's text (the seventh form; the later family's looks); each row that meets fmt, with fmt's text TOLD by the authors' own Lean function (tested against real Go, not proved from fmt's source: count such statements apart). THE CARD IS WHAT COUNTS. Prove the row's statement (the work); the ties are given (YtnpnhcjgmimehaaGreatDoorTie.lean); close each card by the builder's one call (the guide's Derived/Test/ToyasCard.lean, 'card_holds'). Laid BY PROGRAM, IN A SANDBOX (cutbox-door.mjs). By AI agents, Wed Nov 11 2026. No macro, syntax, notation, axiom, sorry.
-/
import Derived.Test.YtnpnhcjgmimehaaGreatDoorRows
import GoSem.ClaimSeven
namespace Go.Proofs.YtnpnhcjgmimehaaGreatDoor
namespace Rows

/-- THE TIED CARD OF 'scholialaw21.IndexNobody'. -/
def indexNobodyCard : Claim7 := { stood := { row := indexNobodyRow, standIns := [], harness := (true, "6850d2970a0bdb16bbfcbbba73592f087722e54e80757c5c6f1f0b277388241b"), looks := false }, kinds := [], alts := [], laidByText := true, laidKinds := [.data, .data, .data, .data], laidTests := true, laidLooks := .later }
def IndexNobodyCardSaid : Prop := Claim7.holds Tryz.pinned (.plain (OpenSpec.ofChange indexNobodySpec)) indexNobodyCard

/-- THE SECOND FORM's CARD OF 'scholialaw21.IndexNobody'. -/
def indexNobodyUptoCard : Claim7 := { stood := { row := indexNobodyUptoRow, standIns := [], harness := (true, "6850d2970a0bdb16bbfcbbba73592f087722e54e80757c5c6f1f0b277388241b"), looks := false }, kinds := [], alts := [], laidByText := true, laidKinds := [.data, .data, .data, .data], laidTests := true, laidLooks := .later }
def IndexNobodyUptoCardSaid : Prop := Claim7.holds Tryz.pinned (.plain (OpenSpec.upto indexNobodySpec)) indexNobodyUptoCard
end Rows
end Go.Proofs.YtnpnhcjgmimehaaGreatDoor
