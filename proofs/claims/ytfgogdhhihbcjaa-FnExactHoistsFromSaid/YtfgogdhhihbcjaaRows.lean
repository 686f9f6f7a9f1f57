/-
  No cell of these rows narrows 'for every input' (looked for: loops, veiled, ifaces, maps, wideKeys, modest, calm, conditions, laid).
  DERIVED. THE GIVEN ROWS OF THIS SEAT. 3 by the template 'for every input the law returns true; each argument reads behind the call as it read before'; 0 by the template 'total and deterministic' (their statements: YtfgogdhhihbcjaaTotals.lean).
  GIVEN WITH THE SEED: the statements are not yours to turn. If you find one false, say at which input.
  Laid BY PROGRAM, IN A SANDBOX (cutbox-rows.mjs): the forced cells as the released guide's own fill.sh prints them over the translation c527e3c390e5f2a8… (all of the seat's roots in one cut). By AI agents, Wed Nov 11 2026. No macro, syntax, notation, axiom, sorry.
-/
import Derived.Test.YtfgogdhhihbcjaaChecked
import GoSem.Claim
import GoSem.ClaimJoined
import GoSem.ClaimMapViews
import Derived.JoinedTies
import Derived.KernelRfl
namespace Go.Proofs.Ytfgogdhhihbcjaa
/- THE CELL 'sum', in the pinned program and in every row, IS THE sha256 OF THE DUMP (.gsa) THAT YtfgogdhhihbcjaaProg.lean LOADS. Nothing in Lean hashes anything: it is a label: what it is worth is what the hold of that sum in a sandbox is worth. -/
noncomputable def Try.pinned : Pinned := { name := "ytfgogdhhihbcjaa", sum := "c527e3c390e5f2a8779b3546d529ae5117d4e460c5204c8e43042866fbefe6d2", checked := Try.checked }
namespace Rows
def none {H : Type} : Left H := { results := [], args := [] }

/-- 'laws.FnExactHoistFrom': WHATEVER THE INPUT: true; the input reads as it did. -/
def fnExactHoistFromSpec : ChangeSpec := { name := "fnExactHoistFrom", fn := fun _ => fun
  | [d1, d2] => { results := [.lit (.bool true)], args := [d1, d2] }
  | _ => none }
def fnExactHoistFromRow : OpenClaim := { program := "ytfgogdhhihbcjaa", sum := "c527e3c390e5f2a8779b3546d529ae5117d4e460c5204c8e43042866fbefe6d2", func := "loop.example/g01299/laws.FnExactHoistFrom", spec := "fnExactHoistFrom", unfollowed := true, recurses := true, apart := false }
def FnExactHoistFromSaid : Prop := fnExactHoistFromRow.holds Try.pinned (OpenSpec.ofChange fnExactHoistFromSpec)

/-- ITS FALSE NEIGHBOUR: 'it returns false'. Refute it at one input. -/
def fnExactHoistFromWrong : ChangeSpec := { name := "fnExactHoistFrom", fn := fun _ => fun
  | [d1, d2] => { results := [.lit (.bool false)], args := [d1, d2] }
  | _ => none }
def FnExactHoistFromWrongFalsely : Prop := fnExactHoistFromRow.holds Try.pinned (OpenSpec.ofChange fnExactHoistFromWrong)

/-- 'laws.FnExactFlyInTurn': WHATEVER THE INPUT: true; the input reads as it did. -/
def fnExactFlyInTurnSpec : ChangeSpec := { name := "fnExactFlyInTurn", fn := fun _ => fun
  | [d1, d2] => { results := [.lit (.bool true)], args := [d1, d2] }
  | _ => none }
def fnExactFlyInTurnRow : OpenClaim := { program := "ytfgogdhhihbcjaa", sum := "c527e3c390e5f2a8779b3546d529ae5117d4e460c5204c8e43042866fbefe6d2", func := "loop.example/g01299/laws.FnExactFlyInTurn", spec := "fnExactFlyInTurn", unfollowed := true, recurses := true, apart := false }
def FnExactFlyInTurnSaid : Prop := fnExactFlyInTurnRow.holds Try.pinned (OpenSpec.ofChange fnExactFlyInTurnSpec)

/-- ITS FALSE NEIGHBOUR: 'it returns false'. Refute it at one input. -/
def fnExactFlyInTurnWrong : ChangeSpec := { name := "fnExactFlyInTurn", fn := fun _ => fun
  | [d1, d2] => { results := [.lit (.bool false)], args := [d1, d2] }
  | _ => none }
def FnExactFlyInTurnWrongFalsely : Prop := fnExactFlyInTurnRow.holds Try.pinned (OpenSpec.ofChange fnExactFlyInTurnWrong)

/-- 'laws.FnExactHoistsFrom': WHATEVER THE INPUT: true; the input reads as it did. -/
def fnExactHoistsFromSpec : ChangeSpec := { name := "fnExactHoistsFrom", fn := fun _ => fun
  | [d1, d2, d3] => { results := [.lit (.bool true)], args := [d1, d2, d3] }
  | _ => none }
def fnExactHoistsFromRow : OpenClaim := { program := "ytfgogdhhihbcjaa", sum := "c527e3c390e5f2a8779b3546d529ae5117d4e460c5204c8e43042866fbefe6d2", func := "loop.example/g01299/laws.FnExactHoistsFrom", spec := "fnExactHoistsFrom", unfollowed := true, recurses := true, apart := false }
def FnExactHoistsFromSaid : Prop := fnExactHoistsFromRow.holds Try.pinned (OpenSpec.ofChange fnExactHoistsFromSpec)

/-- ITS FALSE NEIGHBOUR: 'it returns false'. Refute it at one input. -/
def fnExactHoistsFromWrong : ChangeSpec := { name := "fnExactHoistsFrom", fn := fun _ => fun
  | [d1, d2, d3] => { results := [.lit (.bool false)], args := [d1, d2, d3] }
  | _ => none }
def FnExactHoistsFromWrongFalsely : Prop := fnExactHoistsFromRow.holds Try.pinned (OpenSpec.ofChange fnExactHoistsFromWrong)

/- THE SECOND FORM. 'bulk': how many values and letters a reading holds, each counted each time it is reached (what is shared counts as often as it is met; a slice's spare places count too). A statement '..UptoSaid' is the law's where the arguments, and the package variables that the reading takes, are together of bulk at most 1048576: NARROWER than '..Said'. Prove '..Said' where nothing that the law and all that it calls make is longer than what came in: it says more and counts as full. Else prove '..UptoSaid'. A law counts once. -/
mutual
def uptoBulk {H : Type} : DataW H → Nat
  | .lit (.string bytes) => bytes.length + 1
  | .lit _ => 1
  | .nil => 1
  | .ptr d => uptoBulk d + 1
  | .slice elems spare => uptoBulkAll elems + uptoBulkAll spare + 1
  | .agg parts => uptoBulkAll parts + 1
  | .iface _ d => uptoBulk d + 1
  | .map entries => uptoBulkEntries entries + 1
  | .held _ => 1
def uptoBulkAll {H : Type} : List (DataW H) → Nat
  | [] => 0
  | d :: r => uptoBulk d + uptoBulkAll r
def uptoBulkEntries {H : Type} : List (Lit × DataW H) → Nat
  | [] => 0
  | x :: r => uptoBulkEntry x + uptoBulkEntries r
def uptoBulkEntry {H : Type} : Lit × DataW H → Nat
  | (.string bytes, d) => bytes.length + uptoBulk d + 1
  | (_, d) => uptoBulk d + 1
 end
def uptoSmall : (H : Type) → List (DataW H) → Bool := fun _ ds => decide (uptoBulkAll ds ≤ 1048576)
def OpenSpec.upto (s : _root_.Go.ChangeSpec) : _root_.Go.OpenSpec := { _root_.Go.OpenSpec.ofChange s with cond := some uptoSmall }

/-- 'laws.FnExactHoistFrom', WHERE WHAT IT READS IS OF BULK AT MOST 1048576: true; the input reads as it did. -/
def fnExactHoistFromUptoRow : OpenClaim := { program := "ytfgogdhhihbcjaa", sum := "c527e3c390e5f2a8779b3546d529ae5117d4e460c5204c8e43042866fbefe6d2", func := "loop.example/g01299/laws.FnExactHoistFrom", spec := "fnExactHoistFrom", unfollowed := true, recurses := true, apart := false, narrowed := true }
def FnExactHoistFromUptoSaid : Prop := fnExactHoistFromUptoRow.holds Try.pinned (OpenSpec.upto fnExactHoistFromSpec)

/-- 'laws.FnExactFlyInTurn', WHERE WHAT IT READS IS OF BULK AT MOST 1048576: true; the input reads as it did. -/
def fnExactFlyInTurnUptoRow : OpenClaim := { program := "ytfgogdhhihbcjaa", sum := "c527e3c390e5f2a8779b3546d529ae5117d4e460c5204c8e43042866fbefe6d2", func := "loop.example/g01299/laws.FnExactFlyInTurn", spec := "fnExactFlyInTurn", unfollowed := true, recurses := true, apart := false, narrowed := true }
def FnExactFlyInTurnUptoSaid : Prop := fnExactFlyInTurnUptoRow.holds Try.pinned (OpenSpec.upto fnExactFlyInTurnSpec)

/-- 'laws.FnExactHoistsFrom', WHERE WHAT IT READS IS OF BULK AT MOST 1048576: true; the input reads as it did. -/
def fnExactHoistsFromUptoRow : OpenClaim := { program := "ytfgogdhhihbcjaa", sum := "c527e3c390e5f2a8779b3546d529ae5117d4e460c5204c8e43042866fbefe6d2", func := "loop.example/g01299/laws.FnExactHoistsFrom", spec := "fnExactHoistsFrom", unfollowed := true, recurses := true, apart := false, narrowed := true }
def FnExactHoistsFromUptoSaid : Prop := fnExactHoistsFromUptoRow.holds Try.pinned (OpenSpec.upto fnExactHoistsFromSpec)

end Rows
end Go.Proofs.Ytfgogdhhihbcjaa
