/-
  DERIVED. GIVEN WITH THE SEED: THE CARDS: each row of YtjnbpbnhkinggaaGreatDoorRows.lean that lists a variable, with what it lists TIED to the program's text (the seventh form; the later family's looks); each row that meets fmt, with fmt's text TOLD by the authors' own Lean function (tested against real Go, not proved from fmt's source: count such statements apart). THE CARD IS WHAT COUNTS. Prove the row's statement (the work); the ties are given (YtjnbpbnhkinggaaGreatDoorTie.lean); close each card by the builder's one call (the guide's Derived/Test/ToyasCard.lean, 'card_holds'). Laid BY PROGRAM, IN A SANDBOX (cutbox-door.mjs). By AI agents, Wed Nov 11 2026. No macro, syntax, notation, axiom, sorry.
-/
import Derived.Test.YtjnbpbnhkinggaaGreatDoorRows
import GoSem.ClaimSeven
namespace Go.Proofs.YtjnbpbnhkinggaaGreatDoor
namespace Rows

/-- THE TIED CARD OF 'pantilelaw26.FsckNew'. -/
def fsckNewCard : Claim7 := { stood := { row := fsckNewRow, standIns := [], harness := (true, "f9a838ec573c8b253b2cb4dc361bebde585f1fda685054d56a9250544472058e"), looks := false }, kinds := [], alts := [], laidByText := true, laidKinds := [.data, .pinned], laidTests := true, laidLooks := .later }
def FsckNewCardSaid : Prop := Claim7.holds Tryz.pinned (.plain (OpenSpec.ofChange fsckNewSpec)) fsckNewCard

/-- THE SECOND FORM's CARD OF 'pantilelaw26.FsckNew'. -/
def fsckNewUptoCard : Claim7 := { stood := { row := fsckNewUptoRow, standIns := [], harness := (true, "f9a838ec573c8b253b2cb4dc361bebde585f1fda685054d56a9250544472058e"), looks := false }, kinds := [], alts := [], laidByText := true, laidKinds := [.data, .pinned], laidTests := true, laidLooks := .later }
def FsckNewUptoCardSaid : Prop := Claim7.holds Tryz.pinned (.plain (OpenSpec.upto fsckNewSpec)) fsckNewUptoCard
end Rows
end Go.Proofs.YtjnbpbnhkinggaaGreatDoor
