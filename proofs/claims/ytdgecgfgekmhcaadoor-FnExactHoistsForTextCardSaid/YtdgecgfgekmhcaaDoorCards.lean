/-
  DERIVED. GIVEN WITH THE SEED: THE CARDS: each row of YtdgecgfgekmhcaaDoorRows.lean that lists a variable, with what it lists TIED to the program's text (the seventh form; the later family's looks); each row that meets fmt, with fmt's text TOLD by the authors' own Lean function (tested against real Go, not proved from fmt's source: count such statements apart). THE CARD IS WHAT COUNTS. Prove the row's statement (the work); the ties are given (YtdgecgfgekmhcaaDoorTie.lean); close each card by the builder's one call (the guide's Derived/Test/ToyasCard.lean, 'card_holds'). Laid BY PROGRAM, IN A SANDBOX (cutbox-door.mjs). By AI agents, Wed Nov 11 2026. No macro, syntax, notation, axiom, sorry.
-/
import Derived.Test.YtdgecgfgekmhcaaDoorRows
import GoSem.ClaimSeven
namespace Go.Proofs.YtdgecgfgekmhcaaDoor
namespace Rows

/-- THE TIED CARD OF 'laws.FnExactBookText'. -/
def fnExactBookTextCard : Claim7 := { stood := { row := fnExactBookTextRow, standIns := [], harness := (true, "648207dc9e07ba263e73e2d3cb8ca81a371c07154127fb58fd7ca02966b69024"), looks := true }, kinds := [], alts := [], laidByText := true, laidKinds := [.data, .data, .data], laidTests := true, laidLooks := .later }
def FnExactBookTextCardSaid : Prop := Claim7.holds Tryd.pinned (.plain (OpenSpec.ofChange fnExactBookTextSpec)) fnExactBookTextCard

/-- THE TIED CARD OF 'laws.FnExactHoistsForText'. -/
def fnExactHoistsForTextCard : Claim7 := { stood := { row := fnExactHoistsForTextRow, standIns := [], harness := (true, "648207dc9e07ba263e73e2d3cb8ca81a371c07154127fb58fd7ca02966b69024"), looks := true }, kinds := [], alts := [], laidByText := true, laidKinds := [.data, .pinned], laidTests := true, laidLooks := .later }
def FnExactHoistsForTextCardSaid : Prop := Claim7.holds Tryd.pinned (.plain (OpenSpec.ofChange fnExactHoistsForTextSpec)) fnExactHoistsForTextCard

/-- THE TIED CARD OF 'laws.FnExactReadBook'. -/
def fnExactReadBookCard : Claim7 := { stood := { row := fnExactReadBookRow, standIns := [], harness := (true, "648207dc9e07ba263e73e2d3cb8ca81a371c07154127fb58fd7ca02966b69024"), looks := true }, kinds := [], alts := [], laidByText := true, laidKinds := [.data, .data, .data, .data, .sentinel, .sentinel, .pinned], laidTests := true, laidLooks := .later }
def FnExactReadBookCardSaid : Prop := Claim7.holds Tryd.pinned (.plain (OpenSpec.ofChange fnExactReadBookSpec)) fnExactReadBookCard

/-- THE SECOND FORM's CARD OF 'laws.FnExactBookText'. -/
def fnExactBookTextUptoCard : Claim7 := { stood := { row := fnExactBookTextUptoRow, standIns := [], harness := (true, "648207dc9e07ba263e73e2d3cb8ca81a371c07154127fb58fd7ca02966b69024"), looks := true }, kinds := [], alts := [], laidByText := true, laidKinds := [.data, .data, .data], laidTests := true, laidLooks := .later }
def FnExactBookTextUptoCardSaid : Prop := Claim7.holds Tryd.pinned (.plain (OpenSpec.upto fnExactBookTextSpec)) fnExactBookTextUptoCard

/-- THE SECOND FORM's CARD OF 'laws.FnExactHoistsForText'. -/
def fnExactHoistsForTextUptoCard : Claim7 := { stood := { row := fnExactHoistsForTextUptoRow, standIns := [], harness := (true, "648207dc9e07ba263e73e2d3cb8ca81a371c07154127fb58fd7ca02966b69024"), looks := true }, kinds := [], alts := [], laidByText := true, laidKinds := [.data, .pinned], laidTests := true, laidLooks := .later }
def FnExactHoistsForTextUptoCardSaid : Prop := Claim7.holds Tryd.pinned (.plain (OpenSpec.upto fnExactHoistsForTextSpec)) fnExactHoistsForTextUptoCard

/-- THE SECOND FORM's CARD OF 'laws.FnExactReadBook'. -/
def fnExactReadBookUptoCard : Claim7 := { stood := { row := fnExactReadBookUptoRow, standIns := [], harness := (true, "648207dc9e07ba263e73e2d3cb8ca81a371c07154127fb58fd7ca02966b69024"), looks := true }, kinds := [], alts := [], laidByText := true, laidKinds := [.data, .data, .data, .data, .sentinel, .sentinel, .pinned], laidTests := true, laidLooks := .later }
def FnExactReadBookUptoCardSaid : Prop := Claim7.holds Tryd.pinned (.plain (OpenSpec.upto fnExactReadBookSpec)) fnExactReadBookUptoCard
end Rows
end Go.Proofs.YtdgecgfgekmhcaaDoor
