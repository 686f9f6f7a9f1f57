/-
  No cell of these rows narrows 'for every input' (looked for: loops, veiled, ifaces, maps, wideKeys, modest, calm, conditions, laid).
  DERIVED. THE GIVEN ROWS OF THIS SEAT. 3 by the template 'for every input the law returns true; each argument reads behind the call as it read before'; 0 by the template 'total and deterministic' (their statements: YtodgnbcfihifiaaTotals.lean).
  GIVEN WITH THE SEED: the statements are not yours to turn. If you find one false, say at which input.
  Laid BY PROGRAM, IN A SANDBOX (cutbox-rows.mjs): the forced cells as the released guide's own fill.sh prints them over the translation 61dde6a61165af3e… (all of the seat's roots in one cut). By AI agents, Wed Nov 11 2026. No macro, syntax, notation, axiom, sorry.
-/
import Derived.Test.YtodgnbcfihifiaaChecked
import GoSem.Claim
import GoSem.ClaimJoined
import GoSem.ClaimMapViews
import Derived.JoinedTies
import Derived.KernelRfl
namespace Go.Proofs.Ytodgnbcfihifiaa
/- THE CELL 'sum', in the pinned program and in every row, IS THE sha256 OF THE DUMP (.gsa) THAT YtodgnbcfihifiaaProg.lean LOADS. Nothing in Lean hashes anything: it is a label: what it is worth is what the hold of that sum in a sandbox is worth. -/
noncomputable def Try.pinned : Pinned := { name := "ytodgnbcfihifiaa", sum := "61dde6a61165af3e7e6fd2bfad7d9dddf2a6e4bb0480ebbf738f7618e30b61b0", checked := Try.checked }
namespace Rows
def none {H : Type} : Left H := { results := [], args := [] }

/-- 'laws.FnExactSightDistance': WHATEVER THE INPUT: true; the input reads as it did. -/
def fnExactSightDistanceSpec : ChangeSpec := { name := "fnExactSightDistance", fn := fun _ => fun
  | [d1, d2] => { results := [.lit (.bool true)], args := [d1, d2] }
  | _ => none }
def fnExactSightDistanceRow : OpenClaim := { program := "ytodgnbcfihifiaa", sum := "61dde6a61165af3e7e6fd2bfad7d9dddf2a6e4bb0480ebbf738f7618e30b61b0", func := "loop.example/g01299/laws.FnExactSightDistance", spec := "fnExactSightDistance", unfollowed := true, recurses := true, apart := false }
def FnExactSightDistanceSaid : Prop := fnExactSightDistanceRow.holds Try.pinned (OpenSpec.ofChange fnExactSightDistanceSpec)

/-- ITS FALSE NEIGHBOUR: 'it returns false'. Refute it at one input. -/
def fnExactSightDistanceWrong : ChangeSpec := { name := "fnExactSightDistance", fn := fun _ => fun
  | [d1, d2] => { results := [.lit (.bool false)], args := [d1, d2] }
  | _ => none }
def FnExactSightDistanceWrongFalsely : Prop := fnExactSightDistanceRow.holds Try.pinned (OpenSpec.ofChange fnExactSightDistanceWrong)

/-- 'laws.FnExactValidCode': WHATEVER THE INPUT: true; the input reads as it did. -/
def fnExactValidCodeSpec : ChangeSpec := { name := "fnExactValidCode", fn := fun _ => fun
  | [d] => { results := [.lit (.bool true)], args := [d] }
  | _ => none }
def fnExactValidCodeRow : OpenClaim := { program := "ytodgnbcfihifiaa", sum := "61dde6a61165af3e7e6fd2bfad7d9dddf2a6e4bb0480ebbf738f7618e30b61b0", func := "loop.example/g01299/laws.FnExactValidCode", spec := "fnExactValidCode", unfollowed := true, recurses := true, apart := false }
def FnExactValidCodeSaid : Prop := fnExactValidCodeRow.holds Try.pinned (OpenSpec.ofChange fnExactValidCodeSpec)

/-- ITS FALSE NEIGHBOUR: 'it returns false'. Refute it at one input. -/
def fnExactValidCodeWrong : ChangeSpec := { name := "fnExactValidCode", fn := fun _ => fun
  | [d] => { results := [.lit (.bool false)], args := [d] }
  | _ => none }
def FnExactValidCodeWrongFalsely : Prop := fnExactValidCodeRow.holds Try.pinned (OpenSpec.ofChange fnExactValidCodeWrong)

/-- 'laws.FnExactConfusedFlags': WHATEVER THE INPUT: true; the input reads as it did. -/
def fnExactConfusedFlagsSpec : ChangeSpec := { name := "fnExactConfusedFlags", fn := fun _ => fun
  | [d1, d2, d3] => { results := [.lit (.bool true)], args := [d1, d2, d3] }
  | _ => none }
def fnExactConfusedFlagsRow : OpenClaim := { program := "ytodgnbcfihifiaa", sum := "61dde6a61165af3e7e6fd2bfad7d9dddf2a6e4bb0480ebbf738f7618e30b61b0", func := "loop.example/g01299/laws.FnExactConfusedFlags", spec := "fnExactConfusedFlags", unfollowed := true, recurses := true, apart := false }
def FnExactConfusedFlagsSaid : Prop := fnExactConfusedFlagsRow.holds Try.pinned (OpenSpec.ofChange fnExactConfusedFlagsSpec)

/-- ITS FALSE NEIGHBOUR: 'it returns false'. Refute it at one input. -/
def fnExactConfusedFlagsWrong : ChangeSpec := { name := "fnExactConfusedFlags", fn := fun _ => fun
  | [d1, d2, d3] => { results := [.lit (.bool false)], args := [d1, d2, d3] }
  | _ => none }
def FnExactConfusedFlagsWrongFalsely : Prop := fnExactConfusedFlagsRow.holds Try.pinned (OpenSpec.ofChange fnExactConfusedFlagsWrong)

/- THE SECOND FORM. 'bulk': how many values and letters a reading holds, each counted each time it is reached (what is shared counts as often as it is met; a slice's spare places count too). A statement '..UptoSaid' is the law's where the arguments, and the package variables that the reading takes, are together of bulk at most 1048576: NARROWER than '..Said'. Prove '..Said' where nothing that the law and all that it calls make is longer than what came in: it says more and counts as full. Else prove '..UptoSaid'. A law counts once. -/
mutual
def uptoBulk {H : Type} : DataW H → Nat
  | .lit (.string bytes) => bytes.length + 1
  | .lit _ => 1
  | .nil => 1
  | .ptr d => uptoBulk d + 1
  | .slice elems spare => uptoBulkAll elems + uptoBulkAll spare + 1
  | .agg parts => uptoBulkAll parts + 1
  | .iface _ d => uptoBulk d + 1
  | .map entries => uptoBulkEntries entries + 1
  | .held _ => 1
def uptoBulkAll {H : Type} : List (DataW H) → Nat
  | [] => 0
  | d :: r => uptoBulk d + uptoBulkAll r
def uptoBulkEntries {H : Type} : List (Lit × DataW H) → Nat
  | [] => 0
  | x :: r => uptoBulkEntry x + uptoBulkEntries r
def uptoBulkEntry {H : Type} : Lit × DataW H → Nat
  | (.string bytes, d) => bytes.length + uptoBulk d + 1
  | (_, d) => uptoBulk d + 1
 end
def uptoSmall : (H : Type) → List (DataW H) → Bool := fun _ ds => decide (uptoBulkAll ds ≤ 1048576)
def OpenSpec.upto (s : _root_.Go.ChangeSpec) : _root_.Go.OpenSpec := { _root_.Go.OpenSpec.ofChange s with cond := some uptoSmall }

/-- 'laws.FnExactSightDistance', WHERE WHAT IT READS IS OF BULK AT MOST 1048576: true; the input reads as it did. -/
def fnExactSightDistanceUptoRow : OpenClaim := { program := "ytodgnbcfihifiaa", sum := "61dde6a61165af3e7e6fd2bfad7d9dddf2a6e4bb0480ebbf738f7618e30b61b0", func := "loop.example/g01299/laws.FnExactSightDistance", spec := "fnExactSightDistance", unfollowed := true, recurses := true, apart := false, narrowed := true }
def FnExactSightDistanceUptoSaid : Prop := fnExactSightDistanceUptoRow.holds Try.pinned (OpenSpec.upto fnExactSightDistanceSpec)

/-- 'laws.FnExactValidCode', WHERE WHAT IT READS IS OF BULK AT MOST 1048576: true; the input reads as it did. -/
def fnExactValidCodeUptoRow : OpenClaim := { program := "ytodgnbcfihifiaa", sum := "61dde6a61165af3e7e6fd2bfad7d9dddf2a6e4bb0480ebbf738f7618e30b61b0", func := "loop.example/g01299/laws.FnExactValidCode", spec := "fnExactValidCode", unfollowed := true, recurses := true, apart := false, narrowed := true }
def FnExactValidCodeUptoSaid : Prop := fnExactValidCodeUptoRow.holds Try.pinned (OpenSpec.upto fnExactValidCodeSpec)

/-- 'laws.FnExactConfusedFlags', WHERE WHAT IT READS IS OF BULK AT MOST 1048576: true; the input reads as it did. -/
def fnExactConfusedFlagsUptoRow : OpenClaim := { program := "ytodgnbcfihifiaa", sum := "61dde6a61165af3e7e6fd2bfad7d9dddf2a6e4bb0480ebbf738f7618e30b61b0", func := "loop.example/g01299/laws.FnExactConfusedFlags", spec := "fnExactConfusedFlags", unfollowed := true, recurses := true, apart := false, narrowed := true }
def FnExactConfusedFlagsUptoSaid : Prop := fnExactConfusedFlagsUptoRow.holds Try.pinned (OpenSpec.upto fnExactConfusedFlagsSpec)

end Rows
end Go.Proofs.Ytodgnbcfihifiaa
