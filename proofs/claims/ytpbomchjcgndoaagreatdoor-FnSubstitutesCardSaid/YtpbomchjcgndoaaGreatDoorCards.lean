/-
  DERIVED. GIVEN WITH THE SEED: THE CARDS: each row of YtpbomchjcgndoaaGreatDoorRows.lean that lists a variable, with what it lists TIED to the program's text (the seventh form; the later family's looks); each row that meets fmt, with fmt's text TOLD by the authors' own Lean function (tested against real Go, not proved from fmt's source: count such statements apart). THE CARD IS WHAT COUNTS. Prove the row's statement (the work); the ties are given (YtpbomchjcgndoaaGreatDoorTie.lean); close each card by the builder's one call (the guide's Derived/Test/ToyasCard.lean, 'card_holds'). Laid BY PROGRAM, IN A SANDBOX (cutbox-door.mjs). By AI agents, Wed Nov 11 2026. No macro, syntax, notation, axiom, sorry.
-/
import Derived.Test.YtpbomchjcgndoaaGreatDoorRows
import GoSem.ClaimSeven
namespace Go.Proofs.YtpbomchjcgndoaaGreatDoor
namespace Rows

/-- THE TIED CARD OF 'laws.FnSubstitutes'. -/
def fnSubstitutesCard : Claim7 := { stood := { row := fnSubstitutesRow, standIns := [], harness := (true, "d4818065a39ab40ddce054c012da331023c85b91b1b37e97bda1ef2b8cee9510"), looks := true }, kinds := [], alts := [], laidByText := true, laidKinds := [.data, .data, .data, .data, .sentinel, .sentinel, .pinned], laidTests := true, laidLooks := .later }
def FnSubstitutesCardSaid : Prop := Claim7.holds Tryz.pinned (.plain (OpenSpec.ofChange fnSubstitutesSpec)) fnSubstitutesCard

/-- THE SECOND FORM's CARD OF 'laws.FnSubstitutes'. -/
def fnSubstitutesUptoCard : Claim7 := { stood := { row := fnSubstitutesUptoRow, standIns := [], harness := (true, "d4818065a39ab40ddce054c012da331023c85b91b1b37e97bda1ef2b8cee9510"), looks := true }, kinds := [], alts := [], laidByText := true, laidKinds := [.data, .data, .data, .data, .sentinel, .sentinel, .pinned], laidTests := true, laidLooks := .later }
def FnSubstitutesUptoCardSaid : Prop := Claim7.holds Tryz.pinned (.plain (OpenSpec.upto fnSubstitutesSpec)) fnSubstitutesUptoCard
end Rows
end Go.Proofs.YtpbomchjcgndoaaGreatDoor
