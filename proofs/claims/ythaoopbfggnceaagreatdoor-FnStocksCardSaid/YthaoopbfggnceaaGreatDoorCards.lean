/-
  DERIVED. GIVEN WITH THE SEED: THE CARDS: each row of YthaoopbfggnceaaGreatDoorRows.lean that lists a variable, with what it lists TIED to the program's text (the seventh form; the later family's looks); each row that meets fmt, with fmt's text TOLD by the authors' own Lean function (tested against real Go, not proved from fmt's source: count such statements apart). THE CARD IS WHAT COUNTS. Prove the row's statement (the work); the ties are given (YthaoopbfggnceaaGreatDoorTie.lean); close each card by the builder's one call (the guide's Derived/Test/ToyasCard.lean, 'card_holds'). Laid BY PROGRAM, IN A SANDBOX (cutbox-door.mjs). By AI agents, Wed Nov 11 2026. No macro, syntax, notation, axiom, sorry.
-/
import Derived.Test.YthaoopbfggnceaaGreatDoorRows
import GoSem.ClaimSeven
namespace Go.Proofs.YthaoopbfggnceaaGreatDoor
namespace Rows

/-- THE TIED CARD OF 'laws.FnStocks'. -/
def fnStocksCard : Claim7 := { stood := { row := fnStocksRow, standIns := [], harness := (true, "97d6a5001092448ebbbb18939dfa7e2e658c39222f89f43c346b929eb5e38f4b"), looks := true }, kinds := [], alts := [], laidByText := true, laidKinds := [.data, .data, .data, .data, .sentinel, .sentinel, .pinned], laidTests := true, laidLooks := .later }
def FnStocksCardSaid : Prop := Claim7.holds Tryz.pinned (.plain (OpenSpec.ofChange fnStocksSpec)) fnStocksCard

/-- THE SECOND FORM's CARD OF 'laws.FnStocks'. -/
def fnStocksUptoCard : Claim7 := { stood := { row := fnStocksUptoRow, standIns := [], harness := (true, "97d6a5001092448ebbbb18939dfa7e2e658c39222f89f43c346b929eb5e38f4b"), looks := true }, kinds := [], alts := [], laidByText := true, laidKinds := [.data, .data, .data, .data, .sentinel, .sentinel, .pinned], laidTests := true, laidLooks := .later }
def FnStocksUptoCardSaid : Prop := Claim7.holds Tryz.pinned (.plain (OpenSpec.upto fnStocksSpec)) fnStocksUptoCard
end Rows
end Go.Proofs.YthaoopbfggnceaaGreatDoor
