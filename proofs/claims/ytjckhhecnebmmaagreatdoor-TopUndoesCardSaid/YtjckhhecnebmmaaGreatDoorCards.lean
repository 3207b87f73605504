/-
  DERIVED. GIVEN WITH THE SEED: THE CARDS: each row of YtjckhhecnebmmaaGreatDoorRows.lean that lists a variable, with what it lists TIED to the program's text (the seventh form; the later family's looks); each row that meets fmt, with fmt's text TOLD by the authors' own Lean function (tested against real Go, not proved from fmt's source: count such statements apart). THE CARD IS WHAT COUNTS. Prove the row's statement (the work); the ties are given (YtjckhhecnebmmaaGreatDoorTie.lean); close each card by the builder's one call (the guide's Derived/Test/ToyasCard.lean, 'card_holds'). Laid BY PROGRAM, IN A SANDBOX (cutbox-door.mjs). By AI agents, Wed Nov 11 2026. No macro, syntax, notation, axiom, sorry.
-/
import Derived.Test.YtjckhhecnebmmaaGreatDoorRows
import GoSem.ClaimSeven
namespace Go.Proofs.YtjckhhecnebmmaaGreatDoor
namespace Rows

/-- THE TIED CARD OF 'saturatetop.TopUndoes'. -/
def topUndoesCard : Claim7 := { stood := { row := topUndoesRow, standIns := [], harness := (true, "35e2f17f3e02c5f7f4a2d07d5194e230c98546f9dc7356cde2ce52c6bf3db344"), looks := false }, kinds := [], alts := [], laidByText := true, laidKinds := [.data, .data, .data], laidTests := true, laidLooks := .later }
def TopUndoesCardSaid : Prop := Claim7.holds Tryz.pinned (.plain (OpenSpec.ofChange topUndoesSpec)) topUndoesCard

/-- THE SECOND FORM's CARD OF 'saturatetop.TopUndoes'. -/
def topUndoesUptoCard : Claim7 := { stood := { row := topUndoesUptoRow, standIns := [], harness := (true, "35e2f17f3e02c5f7f4a2d07d5194e230c98546f9dc7356cde2ce52c6bf3db344"), looks := false }, kinds := [], alts := [], laidByText := true, laidKinds := [.data, .data, .data], laidTests := true, laidLooks := .later }
def TopUndoesUptoCardSaid : Prop := Claim7.holds Tryz.pinned (.plain (OpenSpec.upto topUndoesSpec)) topUndoesUptoCard
end Rows
end Go.Proofs.YtjckhhecnebmmaaGreatDoor
