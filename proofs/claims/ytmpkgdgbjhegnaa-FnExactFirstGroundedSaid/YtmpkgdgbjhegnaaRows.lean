/-
  No cell of these rows narrows 'for every input' (looked for: loops, veiled, ifaces, maps, wideKeys, modest, calm, conditions, laid).
  DERIVED. THE GIVEN ROWS OF THIS SEAT. 12 by the template 'for every input the law returns true; each argument reads behind the call as it read before'; 0 by the template 'total and deterministic' (their statements: YtmpkgdgbjhegnaaTotals.lean).
  GIVEN WITH THE SEED: the statements are not yours to turn. If you find one false, say at which input.
  Laid BY PROGRAM, IN A SANDBOX (cutbox-rows.mjs): the forced cells as the released guide's own fill.sh prints them over the translation 8effeafd1dd3f9c7… (all of the seat's roots in one cut). By AI agents, Wed Nov 11 2026. No macro, syntax, notation, axiom, sorry.
-/
import Derived.Test.YtmpkgdgbjhegnaaChecked
import GoSem.Claim
import GoSem.ClaimJoined
import GoSem.ClaimMapViews
import Derived.JoinedTies
import Derived.KernelRfl
namespace Go.Proofs.Ytmpkgdgbjhegnaa
/- THE CELL 'sum', in the pinned program and in every row, IS THE sha256 OF THE DUMP (.gsa) THAT YtmpkgdgbjhegnaaProg.lean LOADS. Nothing in Lean hashes anything: it is a label: what it is worth is what the hold of that sum in a sandbox is worth. -/
noncomputable def Try.pinned : Pinned := { name := "ytmpkgdgbjhegnaa", sum := "8effeafd1dd3f9c75d5da8786036d83e76336ed5bc94579de5d6e88c303f31a4", checked := Try.checked }
namespace Rows
def none {H : Type} : Left H := { results := [], args := [] }

/-- 'laws.FnExactEvenLocker': WHATEVER THE INPUT: true; the input reads as it did. -/
def fnExactEvenLockerSpec : ChangeSpec := { name := "fnExactEvenLocker", fn := fun _ => fun
  | [d1, d2, d3] => { results := [.lit (.bool true)], args := [d1, d2, d3] }
  | _ => none }
def fnExactEvenLockerRow : OpenClaim := { program := "ytmpkgdgbjhegnaa", sum := "8effeafd1dd3f9c75d5da8786036d83e76336ed5bc94579de5d6e88c303f31a4", func := "loop.example/g01299/laws.FnExactEvenLocker", spec := "fnExactEvenLocker", apart := false }
def FnExactEvenLockerSaid : Prop := fnExactEvenLockerRow.holds Try.pinned (OpenSpec.ofChange fnExactEvenLockerSpec)

/-- ITS FALSE NEIGHBOUR: 'it returns false'. Refute it at one input. -/
def fnExactEvenLockerWrong : ChangeSpec := { name := "fnExactEvenLocker", fn := fun _ => fun
  | [d1, d2, d3] => { results := [.lit (.bool false)], args := [d1, d2, d3] }
  | _ => none }
def FnExactEvenLockerWrongFalsely : Prop := fnExactEvenLockerRow.holds Try.pinned (OpenSpec.ofChange fnExactEvenLockerWrong)

/-- 'laws.FnExactValidLocker': WHATEVER THE INPUT: true; the input reads as it did. -/
def fnExactValidLockerSpec : ChangeSpec := { name := "fnExactValidLocker", fn := fun _ => fun
  | [d] => { results := [.lit (.bool true)], args := [d] }
  | _ => none }
def fnExactValidLockerRow : OpenClaim := { program := "ytmpkgdgbjhegnaa", sum := "8effeafd1dd3f9c75d5da8786036d83e76336ed5bc94579de5d6e88c303f31a4", func := "loop.example/g01299/laws.FnExactValidLocker", spec := "fnExactValidLocker", unfollowed := true, recurses := true, apart := false }
def FnExactValidLockerSaid : Prop := fnExactValidLockerRow.holds Try.pinned (OpenSpec.ofChange fnExactValidLockerSpec)

/-- ITS FALSE NEIGHBOUR: 'it returns false'. Refute it at one input. -/
def fnExactValidLockerWrong : ChangeSpec := { name := "fnExactValidLocker", fn := fun _ => fun
  | [d] => { results := [.lit (.bool false)], args := [d] }
  | _ => none }
def FnExactValidLockerWrongFalsely : Prop := fnExactValidLockerRow.holds Try.pinned (OpenSpec.ofChange fnExactValidLockerWrong)

/-- 'laws.FnExactCountPieces': WHATEVER THE INPUT: true; the input reads as it did. -/
def fnExactCountPiecesSpec : ChangeSpec := { name := "fnExactCountPieces", fn := fun _ => fun
  | [d] => { results := [.lit (.bool true)], args := [d] }
  | _ => none }
def fnExactCountPiecesRow : OpenClaim := { program := "ytmpkgdgbjhegnaa", sum := "8effeafd1dd3f9c75d5da8786036d83e76336ed5bc94579de5d6e88c303f31a4", func := "loop.example/g01299/laws.FnExactCountPieces", spec := "fnExactCountPieces", unfollowed := true, recurses := true, apart := false }
def FnExactCountPiecesSaid : Prop := fnExactCountPiecesRow.holds Try.pinned (OpenSpec.ofChange fnExactCountPiecesSpec)

/-- ITS FALSE NEIGHBOUR: 'it returns false'. Refute it at one input. -/
def fnExactCountPiecesWrong : ChangeSpec := { name := "fnExactCountPieces", fn := fun _ => fun
  | [d] => { results := [.lit (.bool false)], args := [d] }
  | _ => none }
def FnExactCountPiecesWrongFalsely : Prop := fnExactCountPiecesRow.holds Try.pinned (OpenSpec.ofChange fnExactCountPiecesWrong)

/-- 'laws.FnExactCovers': WHATEVER THE INPUT: true; the input reads as it did. -/
def fnExactCoversSpec : ChangeSpec := { name := "fnExactCovers", fn := fun _ => fun
  | [d1, d2] => { results := [.lit (.bool true)], args := [d1, d2] }
  | _ => none }
def fnExactCoversRow : OpenClaim := { program := "ytmpkgdgbjhegnaa", sum := "8effeafd1dd3f9c75d5da8786036d83e76336ed5bc94579de5d6e88c303f31a4", func := "loop.example/g01299/laws.FnExactCovers", spec := "fnExactCovers", unfollowed := true, recurses := true, apart := false }
def FnExactCoversSaid : Prop := fnExactCoversRow.holds Try.pinned (OpenSpec.ofChange fnExactCoversSpec)

/-- ITS FALSE NEIGHBOUR: 'it returns false'. Refute it at one input. -/
def fnExactCoversWrong : ChangeSpec := { name := "fnExactCovers", fn := fun _ => fun
  | [d1, d2] => { results := [.lit (.bool false)], args := [d1, d2] }
  | _ => none }
def FnExactCoversWrongFalsely : Prop := fnExactCoversRow.holds Try.pinned (OpenSpec.ofChange fnExactCoversWrong)

/-- 'laws.FnExactFlagsIn': WHATEVER THE INPUT: true; the input reads as it did. -/
def fnExactFlagsInSpec : ChangeSpec := { name := "fnExactFlagsIn", fn := fun _ => fun
  | [d] => { results := [.lit (.bool true)], args := [d] }
  | _ => none }
def fnExactFlagsInRow : OpenClaim := { program := "ytmpkgdgbjhegnaa", sum := "8effeafd1dd3f9c75d5da8786036d83e76336ed5bc94579de5d6e88c303f31a4", func := "loop.example/g01299/laws.FnExactFlagsIn", spec := "fnExactFlagsIn", apart := false }
def FnExactFlagsInSaid : Prop := fnExactFlagsInRow.holds Try.pinned (OpenSpec.ofChange fnExactFlagsInSpec)

/-- ITS FALSE NEIGHBOUR: 'it returns false'. Refute it at one input. -/
def fnExactFlagsInWrong : ChangeSpec := { name := "fnExactFlagsIn", fn := fun _ => fun
  | [d] => { results := [.lit (.bool false)], args := [d] }
  | _ => none }
def FnExactFlagsInWrongFalsely : Prop := fnExactFlagsInRow.holds Try.pinned (OpenSpec.ofChange fnExactFlagsInWrong)

/-- 'laws.FnExactSubsIn': WHATEVER THE INPUT: true; the input reads as it did. -/
def fnExactSubsInSpec : ChangeSpec := { name := "fnExactSubsIn", fn := fun _ => fun
  | [d] => { results := [.lit (.bool true)], args := [d] }
  | _ => none }
def fnExactSubsInRow : OpenClaim := { program := "ytmpkgdgbjhegnaa", sum := "8effeafd1dd3f9c75d5da8786036d83e76336ed5bc94579de5d6e88c303f31a4", func := "loop.example/g01299/laws.FnExactSubsIn", spec := "fnExactSubsIn", apart := false }
def FnExactSubsInSaid : Prop := fnExactSubsInRow.holds Try.pinned (OpenSpec.ofChange fnExactSubsInSpec)

/-- ITS FALSE NEIGHBOUR: 'it returns false'. Refute it at one input. -/
def fnExactSubsInWrong : ChangeSpec := { name := "fnExactSubsIn", fn := fun _ => fun
  | [d] => { results := [.lit (.bool false)], args := [d] }
  | _ => none }
def FnExactSubsInWrongFalsely : Prop := fnExactSubsInRow.holds Try.pinned (OpenSpec.ofChange fnExactSubsInWrong)

/-- 'laws.FnExactMissingFrom': WHATEVER THE INPUT: true; the input reads as it did. -/
def fnExactMissingFromSpec : ChangeSpec := { name := "fnExactMissingFrom", fn := fun _ => fun
  | [d1, d2] => { results := [.lit (.bool true)], args := [d1, d2] }
  | _ => none }
def fnExactMissingFromRow : OpenClaim := { program := "ytmpkgdgbjhegnaa", sum := "8effeafd1dd3f9c75d5da8786036d83e76336ed5bc94579de5d6e88c303f31a4", func := "loop.example/g01299/laws.FnExactMissingFrom", spec := "fnExactMissingFrom", unfollowed := true, recurses := true, apart := false }
def FnExactMissingFromSaid : Prop := fnExactMissingFromRow.holds Try.pinned (OpenSpec.ofChange fnExactMissingFromSpec)

/-- ITS FALSE NEIGHBOUR: 'it returns false'. Refute it at one input. -/
def fnExactMissingFromWrong : ChangeSpec := { name := "fnExactMissingFrom", fn := fun _ => fun
  | [d1, d2] => { results := [.lit (.bool false)], args := [d1, d2] }
  | _ => none }
def FnExactMissingFromWrongFalsely : Prop := fnExactMissingFromRow.holds Try.pinned (OpenSpec.ofChange fnExactMissingFromWrong)

/-- 'laws.FnExactSetsFor': WHATEVER THE INPUT: true; the input reads as it did. -/
def fnExactSetsForSpec : ChangeSpec := { name := "fnExactSetsFor", fn := fun _ => fun
  | [d] => { results := [.lit (.bool true)], args := [d] }
  | _ => none }
def fnExactSetsForRow : OpenClaim := { program := "ytmpkgdgbjhegnaa", sum := "8effeafd1dd3f9c75d5da8786036d83e76336ed5bc94579de5d6e88c303f31a4", func := "loop.example/g01299/laws.FnExactSetsFor", spec := "fnExactSetsFor", apart := false }
def FnExactSetsForSaid : Prop := fnExactSetsForRow.holds Try.pinned (OpenSpec.ofChange fnExactSetsForSpec)

/-- ITS FALSE NEIGHBOUR: 'it returns false'. Refute it at one input. -/
def fnExactSetsForWrong : ChangeSpec := { name := "fnExactSetsFor", fn := fun _ => fun
  | [d] => { results := [.lit (.bool false)], args := [d] }
  | _ => none }
def FnExactSetsForWrongFalsely : Prop := fnExactSetsForRow.holds Try.pinned (OpenSpec.ofChange fnExactSetsForWrong)

/-- 'laws.FnExactLeftIn': WHATEVER THE INPUT: true; the input reads as it did. -/
def fnExactLeftInSpec : ChangeSpec := { name := "fnExactLeftIn", fn := fun _ => fun
  | [d1, d2] => { results := [.lit (.bool true)], args := [d1, d2] }
  | _ => none }
def fnExactLeftInRow : OpenClaim := { program := "ytmpkgdgbjhegnaa", sum := "8effeafd1dd3f9c75d5da8786036d83e76336ed5bc94579de5d6e88c303f31a4", func := "loop.example/g01299/laws.FnExactLeftIn", spec := "fnExactLeftIn", unfollowed := true, recurses := true, apart := false }
def FnExactLeftInSaid : Prop := fnExactLeftInRow.holds Try.pinned (OpenSpec.ofChange fnExactLeftInSpec)

/-- ITS FALSE NEIGHBOUR: 'it returns false'. Refute it at one input. -/
def fnExactLeftInWrong : ChangeSpec := { name := "fnExactLeftIn", fn := fun _ => fun
  | [d1, d2] => { results := [.lit (.bool false)], args := [d1, d2] }
  | _ => none }
def FnExactLeftInWrongFalsely : Prop := fnExactLeftInRow.holds Try.pinned (OpenSpec.ofChange fnExactLeftInWrong)

/-- 'laws.FnExactNeededFor': WHATEVER THE INPUT: true; the input reads as it did. -/
def fnExactNeededForSpec : ChangeSpec := { name := "fnExactNeededFor", fn := fun _ => fun
  | [d] => { results := [.lit (.bool true)], args := [d] }
  | _ => none }
def fnExactNeededForRow : OpenClaim := { program := "ytmpkgdgbjhegnaa", sum := "8effeafd1dd3f9c75d5da8786036d83e76336ed5bc94579de5d6e88c303f31a4", func := "loop.example/g01299/laws.FnExactNeededFor", spec := "fnExactNeededFor", unfollowed := true, recurses := true, apart := false }
def FnExactNeededForSaid : Prop := fnExactNeededForRow.holds Try.pinned (OpenSpec.ofChange fnExactNeededForSpec)

/-- ITS FALSE NEIGHBOUR: 'it returns false'. Refute it at one input. -/
def fnExactNeededForWrong : ChangeSpec := { name := "fnExactNeededFor", fn := fun _ => fun
  | [d] => { results := [.lit (.bool false)], args := [d] }
  | _ => none }
def FnExactNeededForWrongFalsely : Prop := fnExactNeededForRow.holds Try.pinned (OpenSpec.ofChange fnExactNeededForWrong)

/-- 'laws.FnExactCanFly': WHATEVER THE INPUT: true; the input reads as it did. -/
def fnExactCanFlySpec : ChangeSpec := { name := "fnExactCanFly", fn := fun _ => fun
  | [d1, d2] => { results := [.lit (.bool true)], args := [d1, d2] }
  | _ => none }
def fnExactCanFlyRow : OpenClaim := { program := "ytmpkgdgbjhegnaa", sum := "8effeafd1dd3f9c75d5da8786036d83e76336ed5bc94579de5d6e88c303f31a4", func := "loop.example/g01299/laws.FnExactCanFly", spec := "fnExactCanFly", unfollowed := true, recurses := true, apart := false }
def FnExactCanFlySaid : Prop := fnExactCanFlyRow.holds Try.pinned (OpenSpec.ofChange fnExactCanFlySpec)

/-- ITS FALSE NEIGHBOUR: 'it returns false'. Refute it at one input. -/
def fnExactCanFlyWrong : ChangeSpec := { name := "fnExactCanFly", fn := fun _ => fun
  | [d1, d2] => { results := [.lit (.bool false)], args := [d1, d2] }
  | _ => none }
def FnExactCanFlyWrongFalsely : Prop := fnExactCanFlyRow.holds Try.pinned (OpenSpec.ofChange fnExactCanFlyWrong)

/-- 'laws.FnExactFirstGrounded': WHATEVER THE INPUT: true; the input reads as it did. -/
def fnExactFirstGroundedSpec : ChangeSpec := { name := "fnExactFirstGrounded", fn := fun _ => fun
  | [d1, d2] => { results := [.lit (.bool true)], args := [d1, d2] }
  | _ => none }
def fnExactFirstGroundedRow : OpenClaim := { program := "ytmpkgdgbjhegnaa", sum := "8effeafd1dd3f9c75d5da8786036d83e76336ed5bc94579de5d6e88c303f31a4", func := "loop.example/g01299/laws.FnExactFirstGrounded", spec := "fnExactFirstGrounded", unfollowed := true, recurses := true, apart := false }
def FnExactFirstGroundedSaid : Prop := fnExactFirstGroundedRow.holds Try.pinned (OpenSpec.ofChange fnExactFirstGroundedSpec)

/-- ITS FALSE NEIGHBOUR: 'it returns false'. Refute it at one input. -/
def fnExactFirstGroundedWrong : ChangeSpec := { name := "fnExactFirstGrounded", fn := fun _ => fun
  | [d1, d2] => { results := [.lit (.bool false)], args := [d1, d2] }
  | _ => none }
def FnExactFirstGroundedWrongFalsely : Prop := fnExactFirstGroundedRow.holds Try.pinned (OpenSpec.ofChange fnExactFirstGroundedWrong)

/- THE SECOND FORM. 'bulk': how many values and letters a reading holds, each counted each time it is reached (what is shared counts as often as it is met; a slice's spare places count too). A statement '..UptoSaid' is the law's where the arguments, and the package variables that the reading takes, are together of bulk at most 1048576: NARROWER than '..Said'. Prove '..Said' where nothing that the law and all that it calls make is longer than what came in: it says more and counts as full. Else prove '..UptoSaid'. A law counts once. -/
mutual
def uptoBulk {H : Type} : DataW H → Nat
  | .lit (.string bytes) => bytes.length + 1
  | .lit _ => 1
  | .nil => 1
  | .ptr d => uptoBulk d + 1
  | .slice elems spare => uptoBulkAll elems + uptoBulkAll spare + 1
  | .agg parts => uptoBulkAll parts + 1
  | .iface _ d => uptoBulk d + 1
  | .map entries => uptoBulkEntries entries + 1
  | .held _ => 1
def uptoBulkAll {H : Type} : List (DataW H) → Nat
  | [] => 0
  | d :: r => uptoBulk d + uptoBulkAll r
def uptoBulkEntries {H : Type} : List (Lit × DataW H) → Nat
  | [] => 0
  | x :: r => uptoBulkEntry x + uptoBulkEntries r
def uptoBulkEntry {H : Type} : Lit × DataW H → Nat
  | (.string bytes, d) => bytes.length + uptoBulk d + 1
  | (_, d) => uptoBulk d + 1
 end
def uptoSmall : (H : Type) → List (DataW H) → Bool := fun _ ds => decide (uptoBulkAll ds ≤ 1048576)
def OpenSpec.upto (s : _root_.Go.ChangeSpec) : _root_.Go.OpenSpec := { _root_.Go.OpenSpec.ofChange s with cond := some uptoSmall }

/-- 'laws.FnExactEvenLocker', WHERE WHAT IT READS IS OF BULK AT MOST 1048576: true; the input reads as it did. -/
def fnExactEvenLockerUptoRow : OpenClaim := { program := "ytmpkgdgbjhegnaa", sum := "8effeafd1dd3f9c75d5da8786036d83e76336ed5bc94579de5d6e88c303f31a4", func := "loop.example/g01299/laws.FnExactEvenLocker", spec := "fnExactEvenLocker", apart := false, narrowed := true }
def FnExactEvenLockerUptoSaid : Prop := fnExactEvenLockerUptoRow.holds Try.pinned (OpenSpec.upto fnExactEvenLockerSpec)

/-- 'laws.FnExactValidLocker', WHERE WHAT IT READS IS OF BULK AT MOST 1048576: true; the input reads as it did. -/
def fnExactValidLockerUptoRow : OpenClaim := { program := "ytmpkgdgbjhegnaa", sum := "8effeafd1dd3f9c75d5da8786036d83e76336ed5bc94579de5d6e88c303f31a4", func := "loop.example/g01299/laws.FnExactValidLocker", spec := "fnExactValidLocker", unfollowed := true, recurses := true, apart := false, narrowed := true }
def FnExactValidLockerUptoSaid : Prop := fnExactValidLockerUptoRow.holds Try.pinned (OpenSpec.upto fnExactValidLockerSpec)

/-- 'laws.FnExactCountPieces', WHERE WHAT IT READS IS OF BULK AT MOST 1048576: true; the input reads as it did. -/
def fnExactCountPiecesUptoRow : OpenClaim := { program := "ytmpkgdgbjhegnaa", sum := "8effeafd1dd3f9c75d5da8786036d83e76336ed5bc94579de5d6e88c303f31a4", func := "loop.example/g01299/laws.FnExactCountPieces", spec := "fnExactCountPieces", unfollowed := true, recurses := true, apart := false, narrowed := true }
def FnExactCountPiecesUptoSaid : Prop := fnExactCountPiecesUptoRow.holds Try.pinned (OpenSpec.upto fnExactCountPiecesSpec)

/-- 'laws.FnExactCovers', WHERE WHAT IT READS IS OF BULK AT MOST 1048576: true; the input reads as it did. -/
def fnExactCoversUptoRow : OpenClaim := { program := "ytmpkgdgbjhegnaa", sum := "8effeafd1dd3f9c75d5da8786036d83e76336ed5bc94579de5d6e88c303f31a4", func := "loop.example/g01299/laws.FnExactCovers", spec := "fnExactCovers", unfollowed := true, recurses := true, apart := false, narrowed := true }
def FnExactCoversUptoSaid : Prop := fnExactCoversUptoRow.holds Try.pinned (OpenSpec.upto fnExactCoversSpec)

/-- 'laws.FnExactFlagsIn', WHERE WHAT IT READS IS OF BULK AT MOST 1048576: true; the input reads as it did. -/
def fnExactFlagsInUptoRow : OpenClaim := { program := "ytmpkgdgbjhegnaa", sum := "8effeafd1dd3f9c75d5da8786036d83e76336ed5bc94579de5d6e88c303f31a4", func := "loop.example/g01299/laws.FnExactFlagsIn", spec := "fnExactFlagsIn", apart := false, narrowed := true }
def FnExactFlagsInUptoSaid : Prop := fnExactFlagsInUptoRow.holds Try.pinned (OpenSpec.upto fnExactFlagsInSpec)

/-- 'laws.FnExactSubsIn', WHERE WHAT IT READS IS OF BULK AT MOST 1048576: true; the input reads as it did. -/
def fnExactSubsInUptoRow : OpenClaim := { program := "ytmpkgdgbjhegnaa", sum := "8effeafd1dd3f9c75d5da8786036d83e76336ed5bc94579de5d6e88c303f31a4", func := "loop.example/g01299/laws.FnExactSubsIn", spec := "fnExactSubsIn", apart := false, narrowed := true }
def FnExactSubsInUptoSaid : Prop := fnExactSubsInUptoRow.holds Try.pinned (OpenSpec.upto fnExactSubsInSpec)

/-- 'laws.FnExactMissingFrom', WHERE WHAT IT READS IS OF BULK AT MOST 1048576: true; the input reads as it did. -/
def fnExactMissingFromUptoRow : OpenClaim := { program := "ytmpkgdgbjhegnaa", sum := "8effeafd1dd3f9c75d5da8786036d83e76336ed5bc94579de5d6e88c303f31a4", func := "loop.example/g01299/laws.FnExactMissingFrom", spec := "fnExactMissingFrom", unfollowed := true, recurses := true, apart := false, narrowed := true }
def FnExactMissingFromUptoSaid : Prop := fnExactMissingFromUptoRow.holds Try.pinned (OpenSpec.upto fnExactMissingFromSpec)

/-- 'laws.FnExactSetsFor', WHERE WHAT IT READS IS OF BULK AT MOST 1048576: true; the input reads as it did. -/
def fnExactSetsForUptoRow : OpenClaim := { program := "ytmpkgdgbjhegnaa", sum := "8effeafd1dd3f9c75d5da8786036d83e76336ed5bc94579de5d6e88c303f31a4", func := "loop.example/g01299/laws.FnExactSetsFor", spec := "fnExactSetsFor", apart := false, narrowed := true }
def FnExactSetsForUptoSaid : Prop := fnExactSetsForUptoRow.holds Try.pinned (OpenSpec.upto fnExactSetsForSpec)

/-- 'laws.FnExactLeftIn', WHERE WHAT IT READS IS OF BULK AT MOST 1048576: true; the input reads as it did. -/
def fnExactLeftInUptoRow : OpenClaim := { program := "ytmpkgdgbjhegnaa", sum := "8effeafd1dd3f9c75d5da8786036d83e76336ed5bc94579de5d6e88c303f31a4", func := "loop.example/g01299/laws.FnExactLeftIn", spec := "fnExactLeftIn", unfollowed := true, recurses := true, apart := false, narrowed := true }
def FnExactLeftInUptoSaid : Prop := fnExactLeftInUptoRow.holds Try.pinned (OpenSpec.upto fnExactLeftInSpec)

/-- 'laws.FnExactNeededFor', WHERE WHAT IT READS IS OF BULK AT MOST 1048576: true; the input reads as it did. -/
def fnExactNeededForUptoRow : OpenClaim := { program := "ytmpkgdgbjhegnaa", sum := "8effeafd1dd3f9c75d5da8786036d83e76336ed5bc94579de5d6e88c303f31a4", func := "loop.example/g01299/laws.FnExactNeededFor", spec := "fnExactNeededFor", unfollowed := true, recurses := true, apart := false, narrowed := true }
def FnExactNeededForUptoSaid : Prop := fnExactNeededForUptoRow.holds Try.pinned (OpenSpec.upto fnExactNeededForSpec)

/-- 'laws.FnExactCanFly', WHERE WHAT IT READS IS OF BULK AT MOST 1048576: true; the input reads as it did. -/
def fnExactCanFlyUptoRow : OpenClaim := { program := "ytmpkgdgbjhegnaa", sum := "8effeafd1dd3f9c75d5da8786036d83e76336ed5bc94579de5d6e88c303f31a4", func := "loop.example/g01299/laws.FnExactCanFly", spec := "fnExactCanFly", unfollowed := true, recurses := true, apart := false, narrowed := true }
def FnExactCanFlyUptoSaid : Prop := fnExactCanFlyUptoRow.holds Try.pinned (OpenSpec.upto fnExactCanFlySpec)

/-- 'laws.FnExactFirstGrounded', WHERE WHAT IT READS IS OF BULK AT MOST 1048576: true; the input reads as it did. -/
def fnExactFirstGroundedUptoRow : OpenClaim := { program := "ytmpkgdgbjhegnaa", sum := "8effeafd1dd3f9c75d5da8786036d83e76336ed5bc94579de5d6e88c303f31a4", func := "loop.example/g01299/laws.FnExactFirstGrounded", spec := "fnExactFirstGrounded", unfollowed := true, recurses := true, apart := false, narrowed := true }
def FnExactFirstGroundedUptoSaid : Prop := fnExactFirstGroundedUptoRow.holds Try.pinned (OpenSpec.upto fnExactFirstGroundedSpec)

end Rows
end Go.Proofs.Ytmpkgdgbjhegnaa
