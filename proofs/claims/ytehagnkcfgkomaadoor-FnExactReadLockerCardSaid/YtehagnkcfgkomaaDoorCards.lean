/-
  DERIVED. GIVEN WITH THE SEED: THE CARDS: each row of YtehagnkcfgkomaaDoorRows.lean that lists a variable, with what it lists TIED to the program's text (the seventh form; the later family's looks); each row that meets fmt, with fmt's text TOLD by the authors' own Lean function (tested against real Go, not proved from fmt's source: count such statements apart). THE CARD IS WHAT COUNTS. Prove the row's statement (the work); the ties are given (YtehagnkcfgkomaaDoorTie.lean); close each card by the builder's one call (the guide's Derived/Test/ToyasCard.lean, 'card_holds'). Laid BY PROGRAM, IN A SANDBOX (cutbox-door.mjs). By AI agents, Wed Nov 11 2026. No macro, syntax, notation, axiom, sorry.
-/
import Derived.Test.YtehagnkcfgkomaaDoorRows
import GoSem.ClaimSeven
namespace Go.Proofs.YtehagnkcfgkomaaDoor
namespace Rows

/-- THE TIED CARD OF 'laws.FnExactLockerText'. -/
def fnExactLockerTextCard : Claim7 := { stood := { row := fnExactLockerTextRow, standIns := [], harness := (true, "3ae55d825d489be5b625fb295acfcfd5a4f59d4dd6e37666dd2ea381149e5e7a"), looks := true }, kinds := [], alts := [], laidByText := true, laidKinds := [.data, .data, .data], laidTests := true, laidLooks := .later }
def FnExactLockerTextCardSaid : Prop := Claim7.holds Tryd.pinned (.plain (OpenSpec.ofChange fnExactLockerTextSpec)) fnExactLockerTextCard

/-- THE TIED CARD OF 'laws.FnExactReadLocker'. -/
def fnExactReadLockerCard : Claim7 := { stood := { row := fnExactReadLockerRow, standIns := [], harness := (true, "3ae55d825d489be5b625fb295acfcfd5a4f59d4dd6e37666dd2ea381149e5e7a"), looks := true }, kinds := [], alts := [], laidByText := true, laidKinds := [.data, .data, .data, .data, .sentinel, .sentinel, .pinned], laidTests := true, laidLooks := .later }
def FnExactReadLockerCardSaid : Prop := Claim7.holds Tryd.pinned (.plain (OpenSpec.ofChange fnExactReadLockerSpec)) fnExactReadLockerCard

/-- THE SECOND FORM's CARD OF 'laws.FnExactLockerText'. -/
def fnExactLockerTextUptoCard : Claim7 := { stood := { row := fnExactLockerTextUptoRow, standIns := [], harness := (true, "3ae55d825d489be5b625fb295acfcfd5a4f59d4dd6e37666dd2ea381149e5e7a"), looks := true }, kinds := [], alts := [], laidByText := true, laidKinds := [.data, .data, .data], laidTests := true, laidLooks := .later }
def FnExactLockerTextUptoCardSaid : Prop := Claim7.holds Tryd.pinned (.plain (OpenSpec.upto fnExactLockerTextSpec)) fnExactLockerTextUptoCard

/-- THE SECOND FORM's CARD OF 'laws.FnExactReadLocker'. -/
def fnExactReadLockerUptoCard : Claim7 := { stood := { row := fnExactReadLockerUptoRow, standIns := [], harness := (true, "3ae55d825d489be5b625fb295acfcfd5a4f59d4dd6e37666dd2ea381149e5e7a"), looks := true }, kinds := [], alts := [], laidByText := true, laidKinds := [.data, .data, .data, .data, .sentinel, .sentinel, .pinned], laidTests := true, laidLooks := .later }
def FnExactReadLockerUptoCardSaid : Prop := Claim7.holds Tryd.pinned (.plain (OpenSpec.upto fnExactReadLockerSpec)) fnExactReadLockerUptoCard
end Rows
end Go.Proofs.YtehagnkcfgkomaaDoor
