/-
  DERIVED. GIVEN WITH THE SEED: THE CARDS: each row of YtcgkmomhjincgaaGreatDoorRows.lean that lists a variable, with what it lists TIED to the program's text (the seventh form; the later family's looks); each row that meets fmt, with fmt's text TOLD by the authors' own Lean function (tested against real Go, not proved from fmt's source: count such statements apart). THE CARD IS WHAT COUNTS. Prove the row's statement (the work); the ties are given (YtcgkmomhjincgaaGreatDoorTie.lean); close each card by the builder's one call (the guide's Derived/Test/ToyasCard.lean, 'card_holds'). Laid BY PROGRAM, IN A SANDBOX (cutbox-door.mjs). By AI agents, Wed Nov 11 2026. No macro, syntax, notation, axiom, sorry.
-/
import Derived.Test.YtcgkmomhjincgaaGreatDoorRows
import GoSem.ClaimSeven
namespace Go.Proofs.YtcgkmomhjincgaaGreatDoor
namespace Rows

/-- THE TIED CARD OF 'scholialaw31.ExcerptWhole'. -/
def excerptWholeCard : Claim7 := { stood := { row := excerptWholeRow, standIns := [], harness := (true, "b5688246f7d6cc51d5325bfda7c6d74b14a0fbc182f4b2901fe8626319732dd1"), looks := false }, kinds := [], alts := [], laidByText := true, laidKinds := [.data, .data, .data, .data, .pinned], laidTests := true, laidLooks := .later }
def ExcerptWholeCardSaid : Prop := Claim7.holds Tryz.pinned (.plain (OpenSpec.ofChange excerptWholeSpec)) excerptWholeCard

/-- THE SECOND FORM's CARD OF 'scholialaw31.ExcerptWhole'. -/
def excerptWholeUptoCard : Claim7 := { stood := { row := excerptWholeUptoRow, standIns := [], harness := (true, "b5688246f7d6cc51d5325bfda7c6d74b14a0fbc182f4b2901fe8626319732dd1"), looks := false }, kinds := [], alts := [], laidByText := true, laidKinds := [.data, .data, .data, .data, .pinned], laidTests := true, laidLooks := .later }
def ExcerptWholeUptoCardSaid : Prop := Claim7.holds Tryz.pinned (.plain (OpenSpec.upto excerptWholeSpec)) excerptWholeUptoCard
end Rows
end Go.Proofs.YtcgkmomhjincgaaGreatDoor
