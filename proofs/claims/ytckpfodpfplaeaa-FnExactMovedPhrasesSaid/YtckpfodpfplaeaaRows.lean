/-
  No cell of these rows narrows 'for every input' (looked for: loops, veiled, ifaces, maps, wideKeys, modest, calm, conditions, laid).
  DERIVED. THE GIVEN ROWS OF THIS SEAT. 9 by the template 'for every input the law returns true; each argument reads behind the call as it read before'; 0 by the template 'total and deterministic' (their statements: YtckpfodpfplaeaaTotals.lean).
  GIVEN WITH THE SEED: the statements are not yours to turn. If you find one false, say at which input.
  Laid BY PROGRAM, IN A SANDBOX (cutbox-rows.mjs): the forced cells as the released guide's own fill.sh prints them over the translation fb2b9e367769c56f… (all of the seat's roots in one cut). By AI agents, Wed Nov 11 2026. No macro, syntax, notation, axiom, sorry.
-/
import Derived.Test.YtckpfodpfplaeaaChecked
import GoSem.Claim
import GoSem.ClaimJoined
import GoSem.ClaimMapViews
import Derived.JoinedTies
import Derived.KernelRfl
namespace Go.Proofs.Ytckpfodpfplaeaa
/- THE CELL 'sum', in the pinned program and in every row, IS THE sha256 OF THE DUMP (.gsa) THAT YtckpfodpfplaeaaProg.lean LOADS. Nothing in Lean hashes anything: it is a label: what it is worth is what the hold of that sum in a sandbox is worth. -/
noncomputable def Try.pinned : Pinned := { name := "ytckpfodpfplaeaa", sum := "fb2b9e367769c56fcd827d255e9a96a36c707d13a3e9f42329a0a3a00eb68d74", checked := Try.checked }
namespace Rows
def none {H : Type} : Left H := { results := [], args := [] }

/-- 'laws.FnExactAddPhrase': WHATEVER THE INPUT: true; the input reads as it did. -/
def fnExactAddPhraseSpec : ChangeSpec := { name := "fnExactAddPhrase", fn := fun _ => fun
  | [d1, d2] => { results := [.lit (.bool true)], args := [d1, d2] }
  | _ => none }
def fnExactAddPhraseRow : OpenClaim := { program := "ytckpfodpfplaeaa", sum := "fb2b9e367769c56fcd827d255e9a96a36c707d13a3e9f42329a0a3a00eb68d74", func := "loop.example/g01299/laws.FnExactAddPhrase", spec := "fnExactAddPhrase", unfollowed := true, recurses := true, apart := false }
def FnExactAddPhraseSaid : Prop := fnExactAddPhraseRow.holds Try.pinned (OpenSpec.ofChange fnExactAddPhraseSpec)

/-- ITS FALSE NEIGHBOUR: 'it returns false'. Refute it at one input. -/
def fnExactAddPhraseWrong : ChangeSpec := { name := "fnExactAddPhrase", fn := fun _ => fun
  | [d1, d2] => { results := [.lit (.bool false)], args := [d1, d2] }
  | _ => none }
def FnExactAddPhraseWrongFalsely : Prop := fnExactAddPhraseRow.holds Try.pinned (OpenSpec.ofChange fnExactAddPhraseWrong)

/-- 'laws.FnExactDropPhrase': WHATEVER THE INPUT: true; the input reads as it did. -/
def fnExactDropPhraseSpec : ChangeSpec := { name := "fnExactDropPhrase", fn := fun _ => fun
  | [d1, d2] => { results := [.lit (.bool true)], args := [d1, d2] }
  | _ => none }
def fnExactDropPhraseRow : OpenClaim := { program := "ytckpfodpfplaeaa", sum := "fb2b9e367769c56fcd827d255e9a96a36c707d13a3e9f42329a0a3a00eb68d74", func := "loop.example/g01299/laws.FnExactDropPhrase", spec := "fnExactDropPhrase", unfollowed := true, recurses := true, apart := false }
def FnExactDropPhraseSaid : Prop := fnExactDropPhraseRow.holds Try.pinned (OpenSpec.ofChange fnExactDropPhraseSpec)

/-- ITS FALSE NEIGHBOUR: 'it returns false'. Refute it at one input. -/
def fnExactDropPhraseWrong : ChangeSpec := { name := "fnExactDropPhrase", fn := fun _ => fun
  | [d1, d2] => { results := [.lit (.bool false)], args := [d1, d2] }
  | _ => none }
def FnExactDropPhraseWrongFalsely : Prop := fnExactDropPhraseRow.holds Try.pinned (OpenSpec.ofChange fnExactDropPhraseWrong)

/-- 'laws.FnExactReplacePhrase': WHATEVER THE INPUT: true; the input reads as it did. -/
def fnExactReplacePhraseSpec : ChangeSpec := { name := "fnExactReplacePhrase", fn := fun _ => fun
  | [d1, d2, d3] => { results := [.lit (.bool true)], args := [d1, d2, d3] }
  | _ => none }
def fnExactReplacePhraseRow : OpenClaim := { program := "ytckpfodpfplaeaa", sum := "fb2b9e367769c56fcd827d255e9a96a36c707d13a3e9f42329a0a3a00eb68d74", func := "loop.example/g01299/laws.FnExactReplacePhrase", spec := "fnExactReplacePhrase", unfollowed := true, recurses := true, apart := false }
def FnExactReplacePhraseSaid : Prop := fnExactReplacePhraseRow.holds Try.pinned (OpenSpec.ofChange fnExactReplacePhraseSpec)

/-- ITS FALSE NEIGHBOUR: 'it returns false'. Refute it at one input. -/
def fnExactReplacePhraseWrong : ChangeSpec := { name := "fnExactReplacePhrase", fn := fun _ => fun
  | [d1, d2, d3] => { results := [.lit (.bool false)], args := [d1, d2, d3] }
  | _ => none }
def FnExactReplacePhraseWrongFalsely : Prop := fnExactReplacePhraseRow.holds Try.pinned (OpenSpec.ofChange fnExactReplacePhraseWrong)

/-- 'laws.FnExactMovedPhrases': WHATEVER THE INPUT: true; the input reads as it did. -/
def fnExactMovedPhrasesSpec : ChangeSpec := { name := "fnExactMovedPhrases", fn := fun _ => fun
  | [d1, d2] => { results := [.lit (.bool true)], args := [d1, d2] }
  | _ => none }
def fnExactMovedPhrasesRow : OpenClaim := { program := "ytckpfodpfplaeaa", sum := "fb2b9e367769c56fcd827d255e9a96a36c707d13a3e9f42329a0a3a00eb68d74", func := "loop.example/g01299/laws.FnExactMovedPhrases", spec := "fnExactMovedPhrases", unfollowed := true, recurses := true, apart := false }
def FnExactMovedPhrasesSaid : Prop := fnExactMovedPhrasesRow.holds Try.pinned (OpenSpec.ofChange fnExactMovedPhrasesSpec)

/-- ITS FALSE NEIGHBOUR: 'it returns false'. Refute it at one input. -/
def fnExactMovedPhrasesWrong : ChangeSpec := { name := "fnExactMovedPhrases", fn := fun _ => fun
  | [d1, d2] => { results := [.lit (.bool false)], args := [d1, d2] }
  | _ => none }
def FnExactMovedPhrasesWrongFalsely : Prop := fnExactMovedPhrasesRow.holds Try.pinned (OpenSpec.ofChange fnExactMovedPhrasesWrong)

/-- 'laws.FnExactRankOf': WHATEVER THE INPUT: true; the input reads as it did. -/
def fnExactRankOfSpec : ChangeSpec := { name := "fnExactRankOf", fn := fun _ => fun
  | [d1, d2] => { results := [.lit (.bool true)], args := [d1, d2] }
  | _ => none }
def fnExactRankOfRow : OpenClaim := { program := "ytckpfodpfplaeaa", sum := "fb2b9e367769c56fcd827d255e9a96a36c707d13a3e9f42329a0a3a00eb68d74", func := "loop.example/g01299/laws.FnExactRankOf", spec := "fnExactRankOf", unfollowed := true, recurses := true, apart := false }
def FnExactRankOfSaid : Prop := fnExactRankOfRow.holds Try.pinned (OpenSpec.ofChange fnExactRankOfSpec)

/-- ITS FALSE NEIGHBOUR: 'it returns false'. Refute it at one input. -/
def fnExactRankOfWrong : ChangeSpec := { name := "fnExactRankOf", fn := fun _ => fun
  | [d1, d2] => { results := [.lit (.bool false)], args := [d1, d2] }
  | _ => none }
def FnExactRankOfWrongFalsely : Prop := fnExactRankOfRow.holds Try.pinned (OpenSpec.ofChange fnExactRankOfWrong)

/-- 'laws.FnExactHoistOf': WHATEVER THE INPUT: true; the input reads as it did. -/
def fnExactHoistOfSpec : ChangeSpec := { name := "fnExactHoistOf", fn := fun _ => fun
  | [d1, d2] => { results := [.lit (.bool true)], args := [d1, d2] }
  | _ => none }
def fnExactHoistOfRow : OpenClaim := { program := "ytckpfodpfplaeaa", sum := "fb2b9e367769c56fcd827d255e9a96a36c707d13a3e9f42329a0a3a00eb68d74", func := "loop.example/g01299/laws.FnExactHoistOf", spec := "fnExactHoistOf", unfollowed := true, recurses := true, apart := false }
def FnExactHoistOfSaid : Prop := fnExactHoistOfRow.holds Try.pinned (OpenSpec.ofChange fnExactHoistOfSpec)

/-- ITS FALSE NEIGHBOUR: 'it returns false'. Refute it at one input. -/
def fnExactHoistOfWrong : ChangeSpec := { name := "fnExactHoistOf", fn := fun _ => fun
  | [d1, d2] => { results := [.lit (.bool false)], args := [d1, d2] }
  | _ => none }
def FnExactHoistOfWrongFalsely : Prop := fnExactHoistOfRow.holds Try.pinned (OpenSpec.ofChange fnExactHoistOfWrong)

/-- 'laws.FnExactPhraseFor': WHATEVER THE INPUT: true; the input reads as it did. -/
def fnExactPhraseForSpec : ChangeSpec := { name := "fnExactPhraseFor", fn := fun _ => fun
  | [d1, d2] => { results := [.lit (.bool true)], args := [d1, d2] }
  | _ => none }
def fnExactPhraseForRow : OpenClaim := { program := "ytckpfodpfplaeaa", sum := "fb2b9e367769c56fcd827d255e9a96a36c707d13a3e9f42329a0a3a00eb68d74", func := "loop.example/g01299/laws.FnExactPhraseFor", spec := "fnExactPhraseFor", unfollowed := true, recurses := true, apart := false }
def FnExactPhraseForSaid : Prop := fnExactPhraseForRow.holds Try.pinned (OpenSpec.ofChange fnExactPhraseForSpec)

/-- ITS FALSE NEIGHBOUR: 'it returns false'. Refute it at one input. -/
def fnExactPhraseForWrong : ChangeSpec := { name := "fnExactPhraseFor", fn := fun _ => fun
  | [d1, d2] => { results := [.lit (.bool false)], args := [d1, d2] }
  | _ => none }
def FnExactPhraseForWrongFalsely : Prop := fnExactPhraseForRow.holds Try.pinned (OpenSpec.ofChange fnExactPhraseForWrong)

/-- 'laws.FnExactCompletionsOf': WHATEVER THE INPUT: true; the input reads as it did. -/
def fnExactCompletionsOfSpec : ChangeSpec := { name := "fnExactCompletionsOf", fn := fun _ => fun
  | [d1, d2] => { results := [.lit (.bool true)], args := [d1, d2] }
  | _ => none }
def fnExactCompletionsOfRow : OpenClaim := { program := "ytckpfodpfplaeaa", sum := "fb2b9e367769c56fcd827d255e9a96a36c707d13a3e9f42329a0a3a00eb68d74", func := "loop.example/g01299/laws.FnExactCompletionsOf", spec := "fnExactCompletionsOf", unfollowed := true, recurses := true, apart := false }
def FnExactCompletionsOfSaid : Prop := fnExactCompletionsOfRow.holds Try.pinned (OpenSpec.ofChange fnExactCompletionsOfSpec)

/-- ITS FALSE NEIGHBOUR: 'it returns false'. Refute it at one input. -/
def fnExactCompletionsOfWrong : ChangeSpec := { name := "fnExactCompletionsOf", fn := fun _ => fun
  | [d1, d2] => { results := [.lit (.bool false)], args := [d1, d2] }
  | _ => none }
def FnExactCompletionsOfWrongFalsely : Prop := fnExactCompletionsOfRow.holds Try.pinned (OpenSpec.ofChange fnExactCompletionsOfWrong)

/-- 'laws.FnExactShortestBook': WHATEVER THE INPUT: true; the input reads as it did. -/
def fnExactShortestBookSpec : ChangeSpec := { name := "fnExactShortestBook", fn := fun _ => fun
  | [d1, d2] => { results := [.lit (.bool true)], args := [d1, d2] }
  | _ => none }
def fnExactShortestBookRow : OpenClaim := { program := "ytckpfodpfplaeaa", sum := "fb2b9e367769c56fcd827d255e9a96a36c707d13a3e9f42329a0a3a00eb68d74", func := "loop.example/g01299/laws.FnExactShortestBook", spec := "fnExactShortestBook", unfollowed := true, recurses := true, apart := false }
def FnExactShortestBookSaid : Prop := fnExactShortestBookRow.holds Try.pinned (OpenSpec.ofChange fnExactShortestBookSpec)

/-- ITS FALSE NEIGHBOUR: 'it returns false'. Refute it at one input. -/
def fnExactShortestBookWrong : ChangeSpec := { name := "fnExactShortestBook", fn := fun _ => fun
  | [d1, d2] => { results := [.lit (.bool false)], args := [d1, d2] }
  | _ => none }
def FnExactShortestBookWrongFalsely : Prop := fnExactShortestBookRow.holds Try.pinned (OpenSpec.ofChange fnExactShortestBookWrong)

/- THE SECOND FORM. 'bulk': how many values and letters a reading holds, each counted each time it is reached (what is shared counts as often as it is met; a slice's spare places count too). A statement '..UptoSaid' is the law's where the arguments, and the package variables that the reading takes, are together of bulk at most 1048576: NARROWER than '..Said'. Prove '..Said' where nothing that the law and all that it calls make is longer than what came in: it says more and counts as full. Else prove '..UptoSaid'. A law counts once. -/
mutual
def uptoBulk {H : Type} : DataW H → Nat
  | .lit (.string bytes) => bytes.length + 1
  | .lit _ => 1
  | .nil => 1
  | .ptr d => uptoBulk d + 1
  | .slice elems spare => uptoBulkAll elems + uptoBulkAll spare + 1
  | .agg parts => uptoBulkAll parts + 1
  | .iface _ d => uptoBulk d + 1
  | .map entries => uptoBulkEntries entries + 1
  | .held _ => 1
def uptoBulkAll {H : Type} : List (DataW H) → Nat
  | [] => 0
  | d :: r => uptoBulk d + uptoBulkAll r
def uptoBulkEntries {H : Type} : List (Lit × DataW H) → Nat
  | [] => 0
  | x :: r => uptoBulkEntry x + uptoBulkEntries r
def uptoBulkEntry {H : Type} : Lit × DataW H → Nat
  | (.string bytes, d) => bytes.length + uptoBulk d + 1
  | (_, d) => uptoBulk d + 1
 end
def uptoSmall : (H : Type) → List (DataW H) → Bool := fun _ ds => decide (uptoBulkAll ds ≤ 1048576)
def OpenSpec.upto (s : _root_.Go.ChangeSpec) : _root_.Go.OpenSpec := { _root_.Go.OpenSpec.ofChange s with cond := some uptoSmall }

/-- 'laws.FnExactAddPhrase', WHERE WHAT IT READS IS OF BULK AT MOST 1048576: true; the input reads as it did. -/
def fnExactAddPhraseUptoRow : OpenClaim := { program := "ytckpfodpfplaeaa", sum := "fb2b9e367769c56fcd827d255e9a96a36c707d13a3e9f42329a0a3a00eb68d74", func := "loop.example/g01299/laws.FnExactAddPhrase", spec := "fnExactAddPhrase", unfollowed := true, recurses := true, apart := false, narrowed := true }
def FnExactAddPhraseUptoSaid : Prop := fnExactAddPhraseUptoRow.holds Try.pinned (OpenSpec.upto fnExactAddPhraseSpec)

/-- 'laws.FnExactDropPhrase', WHERE WHAT IT READS IS OF BULK AT MOST 1048576: true; the input reads as it did. -/
def fnExactDropPhraseUptoRow : OpenClaim := { program := "ytckpfodpfplaeaa", sum := "fb2b9e367769c56fcd827d255e9a96a36c707d13a3e9f42329a0a3a00eb68d74", func := "loop.example/g01299/laws.FnExactDropPhrase", spec := "fnExactDropPhrase", unfollowed := true, recurses := true, apart := false, narrowed := true }
def FnExactDropPhraseUptoSaid : Prop := fnExactDropPhraseUptoRow.holds Try.pinned (OpenSpec.upto fnExactDropPhraseSpec)

/-- 'laws.FnExactReplacePhrase', WHERE WHAT IT READS IS OF BULK AT MOST 1048576: true; the input reads as it did. -/
def fnExactReplacePhraseUptoRow : OpenClaim := { program := "ytckpfodpfplaeaa", sum := "fb2b9e367769c56fcd827d255e9a96a36c707d13a3e9f42329a0a3a00eb68d74", func := "loop.example/g01299/laws.FnExactReplacePhrase", spec := "fnExactReplacePhrase", unfollowed := true, recurses := true, apart := false, narrowed := true }
def FnExactReplacePhraseUptoSaid : Prop := fnExactReplacePhraseUptoRow.holds Try.pinned (OpenSpec.upto fnExactReplacePhraseSpec)

/-- 'laws.FnExactMovedPhrases', WHERE WHAT IT READS IS OF BULK AT MOST 1048576: true; the input reads as it did. -/
def fnExactMovedPhrasesUptoRow : OpenClaim := { program := "ytckpfodpfplaeaa", sum := "fb2b9e367769c56fcd827d255e9a96a36c707d13a3e9f42329a0a3a00eb68d74", func := "loop.example/g01299/laws.FnExactMovedPhrases", spec := "fnExactMovedPhrases", unfollowed := true, recurses := true, apart := false, narrowed := true }
def FnExactMovedPhrasesUptoSaid : Prop := fnExactMovedPhrasesUptoRow.holds Try.pinned (OpenSpec.upto fnExactMovedPhrasesSpec)

/-- 'laws.FnExactRankOf', WHERE WHAT IT READS IS OF BULK AT MOST 1048576: true; the input reads as it did. -/
def fnExactRankOfUptoRow : OpenClaim := { program := "ytckpfodpfplaeaa", sum := "fb2b9e367769c56fcd827d255e9a96a36c707d13a3e9f42329a0a3a00eb68d74", func := "loop.example/g01299/laws.FnExactRankOf", spec := "fnExactRankOf", unfollowed := true, recurses := true, apart := false, narrowed := true }
def FnExactRankOfUptoSaid : Prop := fnExactRankOfUptoRow.holds Try.pinned (OpenSpec.upto fnExactRankOfSpec)

/-- 'laws.FnExactHoistOf', WHERE WHAT IT READS IS OF BULK AT MOST 1048576: true; the input reads as it did. -/
def fnExactHoistOfUptoRow : OpenClaim := { program := "ytckpfodpfplaeaa", sum := "fb2b9e367769c56fcd827d255e9a96a36c707d13a3e9f42329a0a3a00eb68d74", func := "loop.example/g01299/laws.FnExactHoistOf", spec := "fnExactHoistOf", unfollowed := true, recurses := true, apart := false, narrowed := true }
def FnExactHoistOfUptoSaid : Prop := fnExactHoistOfUptoRow.holds Try.pinned (OpenSpec.upto fnExactHoistOfSpec)

/-- 'laws.FnExactPhraseFor', WHERE WHAT IT READS IS OF BULK AT MOST 1048576: true; the input reads as it did. -/
def fnExactPhraseForUptoRow : OpenClaim := { program := "ytckpfodpfplaeaa", sum := "fb2b9e367769c56fcd827d255e9a96a36c707d13a3e9f42329a0a3a00eb68d74", func := "loop.example/g01299/laws.FnExactPhraseFor", spec := "fnExactPhraseFor", unfollowed := true, recurses := true, apart := false, narrowed := true }
def FnExactPhraseForUptoSaid : Prop := fnExactPhraseForUptoRow.holds Try.pinned (OpenSpec.upto fnExactPhraseForSpec)

/-- 'laws.FnExactCompletionsOf', WHERE WHAT IT READS IS OF BULK AT MOST 1048576: true; the input reads as it did. -/
def fnExactCompletionsOfUptoRow : OpenClaim := { program := "ytckpfodpfplaeaa", sum := "fb2b9e367769c56fcd827d255e9a96a36c707d13a3e9f42329a0a3a00eb68d74", func := "loop.example/g01299/laws.FnExactCompletionsOf", spec := "fnExactCompletionsOf", unfollowed := true, recurses := true, apart := false, narrowed := true }
def FnExactCompletionsOfUptoSaid : Prop := fnExactCompletionsOfUptoRow.holds Try.pinned (OpenSpec.upto fnExactCompletionsOfSpec)

/-- 'laws.FnExactShortestBook', WHERE WHAT IT READS IS OF BULK AT MOST 1048576: true; the input reads as it did. -/
def fnExactShortestBookUptoRow : OpenClaim := { program := "ytckpfodpfplaeaa", sum := "fb2b9e367769c56fcd827d255e9a96a36c707d13a3e9f42329a0a3a00eb68d74", func := "loop.example/g01299/laws.FnExactShortestBook", spec := "fnExactShortestBook", unfollowed := true, recurses := true, apart := false, narrowed := true }
def FnExactShortestBookUptoSaid : Prop := fnExactShortestBookUptoRow.holds Try.pinned (OpenSpec.upto fnExactShortestBookSpec)

end Rows
end Go.Proofs.Ytckpfodpfplaeaa
