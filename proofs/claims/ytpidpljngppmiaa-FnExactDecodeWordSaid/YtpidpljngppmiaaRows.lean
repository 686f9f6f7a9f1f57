/-
  No cell of these rows narrows 'for every input' (looked for: loops, veiled, ifaces, maps, wideKeys, modest, calm, conditions, laid).
  DERIVED. THE GIVEN ROWS OF THIS SEAT. 12 by the template 'for every input the law returns true; each argument reads behind the call as it read before'; 0 by the template 'total and deterministic' (their statements: YtpidpljngppmiaaTotals.lean).
  GIVEN WITH THE SEED: the statements are not yours to turn. If you find one false, say at which input.
  Laid BY PROGRAM, IN A SANDBOX (cutbox-rows.mjs): the forced cells as the released guide's own fill.sh prints them over the translation d9d5153a1a14fe60… (all of the seat's roots in one cut). By AI agents, Wed Nov 11 2026. No macro, syntax, notation, axiom, sorry.
-/
import Derived.Test.YtpidpljngppmiaaChecked
import GoSem.Claim
import GoSem.ClaimJoined
import GoSem.ClaimMapViews
import Derived.JoinedTies
import Derived.KernelRfl
namespace Go.Proofs.Ytpidpljngppmiaa
/- THE CELL 'sum', in the pinned program and in every row, IS THE sha256 OF THE DUMP (.gsa) THAT YtpidpljngppmiaaProg.lean LOADS. Nothing in Lean hashes anything: it is a label: what it is worth is what the hold of that sum in a sandbox is worth. -/
noncomputable def Try.pinned : Pinned := { name := "ytpidpljngppmiaa", sum := "d9d5153a1a14fe607634b892743585b629c816a171e268cce465381471409329", checked := Try.checked }
namespace Rows
def none {H : Type} : Left H := { results := [], args := [] }

/-- 'laws.FnExactSphereBound': WHATEVER THE INPUT: true; the input reads as it did. -/
def fnExactSphereBoundSpec : ChangeSpec := { name := "fnExactSphereBound", fn := fun _ => fun
  | [d1, d2, d3] => { results := [.lit (.bool true)], args := [d1, d2, d3] }
  | _ => none }
def fnExactSphereBoundRow : OpenClaim := { program := "ytpidpljngppmiaa", sum := "d9d5153a1a14fe607634b892743585b629c816a171e268cce465381471409329", func := "loop.example/g01299/laws.FnExactSphereBound", spec := "fnExactSphereBound", apart := false }
def FnExactSphereBoundSaid : Prop := fnExactSphereBoundRow.holds Try.pinned (OpenSpec.ofChange fnExactSphereBoundSpec)

/-- ITS FALSE NEIGHBOUR: 'it returns false'. Refute it at one input. -/
def fnExactSphereBoundWrong : ChangeSpec := { name := "fnExactSphereBound", fn := fun _ => fun
  | [d1, d2, d3] => { results := [.lit (.bool false)], args := [d1, d2, d3] }
  | _ => none }
def FnExactSphereBoundWrongFalsely : Prop := fnExactSphereBoundRow.holds Try.pinned (OpenSpec.ofChange fnExactSphereBoundWrong)

/-- 'laws.FnExactLettersApart': WHATEVER THE INPUT: true; the input reads as it did. -/
def fnExactLettersApartSpec : ChangeSpec := { name := "fnExactLettersApart", fn := fun _ => fun
  | [d1, d2] => { results := [.lit (.bool true)], args := [d1, d2] }
  | _ => none }
def fnExactLettersApartRow : OpenClaim := { program := "ytpidpljngppmiaa", sum := "d9d5153a1a14fe607634b892743585b629c816a171e268cce465381471409329", func := "loop.example/g01299/laws.FnExactLettersApart", spec := "fnExactLettersApart", unfollowed := true, recurses := true, apart := false }
def FnExactLettersApartSaid : Prop := fnExactLettersApartRow.holds Try.pinned (OpenSpec.ofChange fnExactLettersApartSpec)

/-- ITS FALSE NEIGHBOUR: 'it returns false'. Refute it at one input. -/
def fnExactLettersApartWrong : ChangeSpec := { name := "fnExactLettersApart", fn := fun _ => fun
  | [d1, d2] => { results := [.lit (.bool false)], args := [d1, d2] }
  | _ => none }
def FnExactLettersApartWrongFalsely : Prop := fnExactLettersApartRow.holds Try.pinned (OpenSpec.ofChange fnExactLettersApartWrong)

/-- 'laws.FnExactRankOfWord': WHATEVER THE INPUT: true; the input reads as it did. -/
def fnExactRankOfWordSpec : ChangeSpec := { name := "fnExactRankOfWord", fn := fun _ => fun
  | [d1, d2] => { results := [.lit (.bool true)], args := [d1, d2] }
  | _ => none }
def fnExactRankOfWordRow : OpenClaim := { program := "ytpidpljngppmiaa", sum := "d9d5153a1a14fe607634b892743585b629c816a171e268cce465381471409329", func := "loop.example/g01299/laws.FnExactRankOfWord", spec := "fnExactRankOfWord", unfollowed := true, recurses := true, apart := false }
def FnExactRankOfWordSaid : Prop := fnExactRankOfWordRow.holds Try.pinned (OpenSpec.ofChange fnExactRankOfWordSpec)

/-- ITS FALSE NEIGHBOUR: 'it returns false'. Refute it at one input. -/
def fnExactRankOfWordWrong : ChangeSpec := { name := "fnExactRankOfWord", fn := fun _ => fun
  | [d1, d2] => { results := [.lit (.bool false)], args := [d1, d2] }
  | _ => none }
def FnExactRankOfWordWrongFalsely : Prop := fnExactRankOfWordRow.holds Try.pinned (OpenSpec.ofChange fnExactRankOfWordWrong)

/-- 'laws.FnExactWordAt': WHATEVER THE INPUT: true; the input reads as it did. -/
def fnExactWordAtSpec : ChangeSpec := { name := "fnExactWordAt", fn := fun _ => fun
  | [d1, d2, d3] => { results := [.lit (.bool true)], args := [d1, d2, d3] }
  | _ => none }
def fnExactWordAtRow : OpenClaim := { program := "ytpidpljngppmiaa", sum := "d9d5153a1a14fe607634b892743585b629c816a171e268cce465381471409329", func := "loop.example/g01299/laws.FnExactWordAt", spec := "fnExactWordAt", apart := false }
def FnExactWordAtSaid : Prop := fnExactWordAtRow.holds Try.pinned (OpenSpec.ofChange fnExactWordAtSpec)

/-- ITS FALSE NEIGHBOUR: 'it returns false'. Refute it at one input. -/
def fnExactWordAtWrong : ChangeSpec := { name := "fnExactWordAt", fn := fun _ => fun
  | [d1, d2, d3] => { results := [.lit (.bool false)], args := [d1, d2, d3] }
  | _ => none }
def FnExactWordAtWrongFalsely : Prop := fnExactWordAtRow.holds Try.pinned (OpenSpec.ofChange fnExactWordAtWrong)

/-- 'laws.FnExactSameWords': WHATEVER THE INPUT: true; the input reads as it did. -/
def fnExactSameWordsSpec : ChangeSpec := { name := "fnExactSameWords", fn := fun _ => fun
  | [d1, d2] => { results := [.lit (.bool true)], args := [d1, d2] }
  | _ => none }
def fnExactSameWordsRow : OpenClaim := { program := "ytpidpljngppmiaa", sum := "d9d5153a1a14fe607634b892743585b629c816a171e268cce465381471409329", func := "loop.example/g01299/laws.FnExactSameWords", spec := "fnExactSameWords", unfollowed := true, recurses := true, apart := false }
def FnExactSameWordsSaid : Prop := fnExactSameWordsRow.holds Try.pinned (OpenSpec.ofChange fnExactSameWordsSpec)

/-- ITS FALSE NEIGHBOUR: 'it returns false'. Refute it at one input. -/
def fnExactSameWordsWrong : ChangeSpec := { name := "fnExactSameWords", fn := fun _ => fun
  | [d1, d2] => { results := [.lit (.bool false)], args := [d1, d2] }
  | _ => none }
def FnExactSameWordsWrongFalsely : Prop := fnExactSameWordsRow.holds Try.pinned (OpenSpec.ofChange fnExactSameWordsWrong)

/-- 'laws.FnExactSyndromesOf': WHATEVER THE INPUT: true; the input reads as it did. -/
def fnExactSyndromesOfSpec : ChangeSpec := { name := "fnExactSyndromesOf", fn := fun _ => fun
  | [d1, d2] => { results := [.lit (.bool true)], args := [d1, d2] }
  | _ => none }
def fnExactSyndromesOfRow : OpenClaim := { program := "ytpidpljngppmiaa", sum := "d9d5153a1a14fe607634b892743585b629c816a171e268cce465381471409329", func := "loop.example/g01299/laws.FnExactSyndromesOf", spec := "fnExactSyndromesOf", unfollowed := true, recurses := true, apart := false }
def FnExactSyndromesOfSaid : Prop := fnExactSyndromesOfRow.holds Try.pinned (OpenSpec.ofChange fnExactSyndromesOfSpec)

/-- ITS FALSE NEIGHBOUR: 'it returns false'. Refute it at one input. -/
def fnExactSyndromesOfWrong : ChangeSpec := { name := "fnExactSyndromesOf", fn := fun _ => fun
  | [d1, d2] => { results := [.lit (.bool false)], args := [d1, d2] }
  | _ => none }
def FnExactSyndromesOfWrongFalsely : Prop := fnExactSyndromesOfRow.holds Try.pinned (OpenSpec.ofChange fnExactSyndromesOfWrong)

/-- 'laws.FnExactIsChecked': WHATEVER THE INPUT: true; the input reads as it did. -/
def fnExactIsCheckedSpec : ChangeSpec := { name := "fnExactIsChecked", fn := fun _ => fun
  | [d1, d2] => { results := [.lit (.bool true)], args := [d1, d2] }
  | _ => none }
def fnExactIsCheckedRow : OpenClaim := { program := "ytpidpljngppmiaa", sum := "d9d5153a1a14fe607634b892743585b629c816a171e268cce465381471409329", func := "loop.example/g01299/laws.FnExactIsChecked", spec := "fnExactIsChecked", unfollowed := true, recurses := true, apart := false }
def FnExactIsCheckedSaid : Prop := fnExactIsCheckedRow.holds Try.pinned (OpenSpec.ofChange fnExactIsCheckedSpec)

/-- ITS FALSE NEIGHBOUR: 'it returns false'. Refute it at one input. -/
def fnExactIsCheckedWrong : ChangeSpec := { name := "fnExactIsChecked", fn := fun _ => fun
  | [d1, d2] => { results := [.lit (.bool false)], args := [d1, d2] }
  | _ => none }
def FnExactIsCheckedWrongFalsely : Prop := fnExactIsCheckedRow.holds Try.pinned (OpenSpec.ofChange fnExactIsCheckedWrong)

/-- 'laws.FnExactWithChecks': WHATEVER THE INPUT: true; the input reads as it did. -/
def fnExactWithChecksSpec : ChangeSpec := { name := "fnExactWithChecks", fn := fun _ => fun
  | [d1, d2] => { results := [.lit (.bool true)], args := [d1, d2] }
  | _ => none }
def fnExactWithChecksRow : OpenClaim := { program := "ytpidpljngppmiaa", sum := "d9d5153a1a14fe607634b892743585b629c816a171e268cce465381471409329", func := "loop.example/g01299/laws.FnExactWithChecks", spec := "fnExactWithChecks", unfollowed := true, recurses := true, apart := false }
def FnExactWithChecksSaid : Prop := fnExactWithChecksRow.holds Try.pinned (OpenSpec.ofChange fnExactWithChecksSpec)

/-- ITS FALSE NEIGHBOUR: 'it returns false'. Refute it at one input. -/
def fnExactWithChecksWrong : ChangeSpec := { name := "fnExactWithChecks", fn := fun _ => fun
  | [d1, d2] => { results := [.lit (.bool false)], args := [d1, d2] }
  | _ => none }
def FnExactWithChecksWrongFalsely : Prop := fnExactWithChecksRow.holds Try.pinned (OpenSpec.ofChange fnExactWithChecksWrong)

/-- 'laws.FnExactRepairWord': WHATEVER THE INPUT: true; the input reads as it did. -/
def fnExactRepairWordSpec : ChangeSpec := { name := "fnExactRepairWord", fn := fun _ => fun
  | [d1, d2] => { results := [.lit (.bool true)], args := [d1, d2] }
  | _ => none }
def fnExactRepairWordRow : OpenClaim := { program := "ytpidpljngppmiaa", sum := "d9d5153a1a14fe607634b892743585b629c816a171e268cce465381471409329", func := "loop.example/g01299/laws.FnExactRepairWord", spec := "fnExactRepairWord", unfollowed := true, recurses := true, apart := false }
def FnExactRepairWordSaid : Prop := fnExactRepairWordRow.holds Try.pinned (OpenSpec.ofChange fnExactRepairWordSpec)

/-- ITS FALSE NEIGHBOUR: 'it returns false'. Refute it at one input. -/
def fnExactRepairWordWrong : ChangeSpec := { name := "fnExactRepairWord", fn := fun _ => fun
  | [d1, d2] => { results := [.lit (.bool false)], args := [d1, d2] }
  | _ => none }
def FnExactRepairWordWrongFalsely : Prop := fnExactRepairWordRow.holds Try.pinned (OpenSpec.ofChange fnExactRepairWordWrong)

/-- 'laws.FnExactLeastApart': WHATEVER THE INPUT: true; the input reads as it did. -/
def fnExactLeastApartSpec : ChangeSpec := { name := "fnExactLeastApart", fn := fun _ => fun
  | [d] => { results := [.lit (.bool true)], args := [d] }
  | _ => none }
def fnExactLeastApartRow : OpenClaim := { program := "ytpidpljngppmiaa", sum := "d9d5153a1a14fe607634b892743585b629c816a171e268cce465381471409329", func := "loop.example/g01299/laws.FnExactLeastApart", spec := "fnExactLeastApart", unfollowed := true, recurses := true, apart := false }
def FnExactLeastApartSaid : Prop := fnExactLeastApartRow.holds Try.pinned (OpenSpec.ofChange fnExactLeastApartSpec)

/-- ITS FALSE NEIGHBOUR: 'it returns false'. Refute it at one input. -/
def fnExactLeastApartWrong : ChangeSpec := { name := "fnExactLeastApart", fn := fun _ => fun
  | [d] => { results := [.lit (.bool false)], args := [d] }
  | _ => none }
def FnExactLeastApartWrongFalsely : Prop := fnExactLeastApartRow.holds Try.pinned (OpenSpec.ofChange fnExactLeastApartWrong)

/-- 'laws.FnExactDecodeWord': WHATEVER THE INPUT: true; the input reads as it did. -/
def fnExactDecodeWordSpec : ChangeSpec := { name := "fnExactDecodeWord", fn := fun _ => fun
  | [d1, d2, d3] => { results := [.lit (.bool true)], args := [d1, d2, d3] }
  | _ => none }
def fnExactDecodeWordRow : OpenClaim := { program := "ytpidpljngppmiaa", sum := "d9d5153a1a14fe607634b892743585b629c816a171e268cce465381471409329", func := "loop.example/g01299/laws.FnExactDecodeWord", spec := "fnExactDecodeWord", unfollowed := true, recurses := true, apart := false }
def FnExactDecodeWordSaid : Prop := fnExactDecodeWordRow.holds Try.pinned (OpenSpec.ofChange fnExactDecodeWordSpec)

/-- ITS FALSE NEIGHBOUR: 'it returns false'. Refute it at one input. -/
def fnExactDecodeWordWrong : ChangeSpec := { name := "fnExactDecodeWord", fn := fun _ => fun
  | [d1, d2, d3] => { results := [.lit (.bool false)], args := [d1, d2, d3] }
  | _ => none }
def FnExactDecodeWordWrongFalsely : Prop := fnExactDecodeWordRow.holds Try.pinned (OpenSpec.ofChange fnExactDecodeWordWrong)

/-- 'laws.FnExactGreedyWords': WHATEVER THE INPUT: true; the input reads as it did. -/
def fnExactGreedyWordsSpec : ChangeSpec := { name := "fnExactGreedyWords", fn := fun _ => fun
  | [d1, d2, d3, d4] => { results := [.lit (.bool true)], args := [d1, d2, d3, d4] }
  | _ => none }
def fnExactGreedyWordsRow : OpenClaim := { program := "ytpidpljngppmiaa", sum := "d9d5153a1a14fe607634b892743585b629c816a171e268cce465381471409329", func := "loop.example/g01299/laws.FnExactGreedyWords", spec := "fnExactGreedyWords", unfollowed := true, recurses := true, apart := false }
def FnExactGreedyWordsSaid : Prop := fnExactGreedyWordsRow.holds Try.pinned (OpenSpec.ofChange fnExactGreedyWordsSpec)

/-- ITS FALSE NEIGHBOUR: 'it returns false'. Refute it at one input. -/
def fnExactGreedyWordsWrong : ChangeSpec := { name := "fnExactGreedyWords", fn := fun _ => fun
  | [d1, d2, d3, d4] => { results := [.lit (.bool false)], args := [d1, d2, d3, d4] }
  | _ => none }
def FnExactGreedyWordsWrongFalsely : Prop := fnExactGreedyWordsRow.holds Try.pinned (OpenSpec.ofChange fnExactGreedyWordsWrong)

/- THE SECOND FORM. 'bulk': how many values and letters a reading holds, each counted each time it is reached (what is shared counts as often as it is met; a slice's spare places count too). A statement '..UptoSaid' is the law's where the arguments, and the package variables that the reading takes, are together of bulk at most 1048576: NARROWER than '..Said'. Prove '..Said' where nothing that the law and all that it calls make is longer than what came in: it says more and counts as full. Else prove '..UptoSaid'. A law counts once. -/
mutual
def uptoBulk {H : Type} : DataW H → Nat
  | .lit (.string bytes) => bytes.length + 1
  | .lit _ => 1
  | .nil => 1
  | .ptr d => uptoBulk d + 1
  | .slice elems spare => uptoBulkAll elems + uptoBulkAll spare + 1
  | .agg parts => uptoBulkAll parts + 1
  | .iface _ d => uptoBulk d + 1
  | .map entries => uptoBulkEntries entries + 1
  | .held _ => 1
def uptoBulkAll {H : Type} : List (DataW H) → Nat
  | [] => 0
  | d :: r => uptoBulk d + uptoBulkAll r
def uptoBulkEntries {H : Type} : List (Lit × DataW H) → Nat
  | [] => 0
  | x :: r => uptoBulkEntry x + uptoBulkEntries r
def uptoBulkEntry {H : Type} : Lit × DataW H → Nat
  | (.string bytes, d) => bytes.length + uptoBulk d + 1
  | (_, d) => uptoBulk d + 1
 end
def uptoSmall : (H : Type) → List (DataW H) → Bool := fun _ ds => decide (uptoBulkAll ds ≤ 1048576)
def OpenSpec.upto (s : _root_.Go.ChangeSpec) : _root_.Go.OpenSpec := { _root_.Go.OpenSpec.ofChange s with cond := some uptoSmall }

/-- 'laws.FnExactSphereBound', WHERE WHAT IT READS IS OF BULK AT MOST 1048576: true; the input reads as it did. -/
def fnExactSphereBoundUptoRow : OpenClaim := { program := "ytpidpljngppmiaa", sum := "d9d5153a1a14fe607634b892743585b629c816a171e268cce465381471409329", func := "loop.example/g01299/laws.FnExactSphereBound", spec := "fnExactSphereBound", apart := false, narrowed := true }
def FnExactSphereBoundUptoSaid : Prop := fnExactSphereBoundUptoRow.holds Try.pinned (OpenSpec.upto fnExactSphereBoundSpec)

/-- 'laws.FnExactLettersApart', WHERE WHAT IT READS IS OF BULK AT MOST 1048576: true; the input reads as it did. -/
def fnExactLettersApartUptoRow : OpenClaim := { program := "ytpidpljngppmiaa", sum := "d9d5153a1a14fe607634b892743585b629c816a171e268cce465381471409329", func := "loop.example/g01299/laws.FnExactLettersApart", spec := "fnExactLettersApart", unfollowed := true, recurses := true, apart := false, narrowed := true }
def FnExactLettersApartUptoSaid : Prop := fnExactLettersApartUptoRow.holds Try.pinned (OpenSpec.upto fnExactLettersApartSpec)

/-- 'laws.FnExactRankOfWord', WHERE WHAT IT READS IS OF BULK AT MOST 1048576: true; the input reads as it did. -/
def fnExactRankOfWordUptoRow : OpenClaim := { program := "ytpidpljngppmiaa", sum := "d9d5153a1a14fe607634b892743585b629c816a171e268cce465381471409329", func := "loop.example/g01299/laws.FnExactRankOfWord", spec := "fnExactRankOfWord", unfollowed := true, recurses := true, apart := false, narrowed := true }
def FnExactRankOfWordUptoSaid : Prop := fnExactRankOfWordUptoRow.holds Try.pinned (OpenSpec.upto fnExactRankOfWordSpec)

/-- 'laws.FnExactWordAt', WHERE WHAT IT READS IS OF BULK AT MOST 1048576: true; the input reads as it did. -/
def fnExactWordAtUptoRow : OpenClaim := { program := "ytpidpljngppmiaa", sum := "d9d5153a1a14fe607634b892743585b629c816a171e268cce465381471409329", func := "loop.example/g01299/laws.FnExactWordAt", spec := "fnExactWordAt", apart := false, narrowed := true }
def FnExactWordAtUptoSaid : Prop := fnExactWordAtUptoRow.holds Try.pinned (OpenSpec.upto fnExactWordAtSpec)

/-- 'laws.FnExactSameWords', WHERE WHAT IT READS IS OF BULK AT MOST 1048576: true; the input reads as it did. -/
def fnExactSameWordsUptoRow : OpenClaim := { program := "ytpidpljngppmiaa", sum := "d9d5153a1a14fe607634b892743585b629c816a171e268cce465381471409329", func := "loop.example/g01299/laws.FnExactSameWords", spec := "fnExactSameWords", unfollowed := true, recurses := true, apart := false, narrowed := true }
def FnExactSameWordsUptoSaid : Prop := fnExactSameWordsUptoRow.holds Try.pinned (OpenSpec.upto fnExactSameWordsSpec)

/-- 'laws.FnExactSyndromesOf', WHERE WHAT IT READS IS OF BULK AT MOST 1048576: true; the input reads as it did. -/
def fnExactSyndromesOfUptoRow : OpenClaim := { program := "ytpidpljngppmiaa", sum := "d9d5153a1a14fe607634b892743585b629c816a171e268cce465381471409329", func := "loop.example/g01299/laws.FnExactSyndromesOf", spec := "fnExactSyndromesOf", unfollowed := true, recurses := true, apart := false, narrowed := true }
def FnExactSyndromesOfUptoSaid : Prop := fnExactSyndromesOfUptoRow.holds Try.pinned (OpenSpec.upto fnExactSyndromesOfSpec)

/-- 'laws.FnExactIsChecked', WHERE WHAT IT READS IS OF BULK AT MOST 1048576: true; the input reads as it did. -/
def fnExactIsCheckedUptoRow : OpenClaim := { program := "ytpidpljngppmiaa", sum := "d9d5153a1a14fe607634b892743585b629c816a171e268cce465381471409329", func := "loop.example/g01299/laws.FnExactIsChecked", spec := "fnExactIsChecked", unfollowed := true, recurses := true, apart := false, narrowed := true }
def FnExactIsCheckedUptoSaid : Prop := fnExactIsCheckedUptoRow.holds Try.pinned (OpenSpec.upto fnExactIsCheckedSpec)

/-- 'laws.FnExactWithChecks', WHERE WHAT IT READS IS OF BULK AT MOST 1048576: true; the input reads as it did. -/
def fnExactWithChecksUptoRow : OpenClaim := { program := "ytpidpljngppmiaa", sum := "d9d5153a1a14fe607634b892743585b629c816a171e268cce465381471409329", func := "loop.example/g01299/laws.FnExactWithChecks", spec := "fnExactWithChecks", unfollowed := true, recurses := true, apart := false, narrowed := true }
def FnExactWithChecksUptoSaid : Prop := fnExactWithChecksUptoRow.holds Try.pinned (OpenSpec.upto fnExactWithChecksSpec)

/-- 'laws.FnExactRepairWord', WHERE WHAT IT READS IS OF BULK AT MOST 1048576: true; the input reads as it did. -/
def fnExactRepairWordUptoRow : OpenClaim := { program := "ytpidpljngppmiaa", sum := "d9d5153a1a14fe607634b892743585b629c816a171e268cce465381471409329", func := "loop.example/g01299/laws.FnExactRepairWord", spec := "fnExactRepairWord", unfollowed := true, recurses := true, apart := false, narrowed := true }
def FnExactRepairWordUptoSaid : Prop := fnExactRepairWordUptoRow.holds Try.pinned (OpenSpec.upto fnExactRepairWordSpec)

/-- 'laws.FnExactLeastApart', WHERE WHAT IT READS IS OF BULK AT MOST 1048576: true; the input reads as it did. -/
def fnExactLeastApartUptoRow : OpenClaim := { program := "ytpidpljngppmiaa", sum := "d9d5153a1a14fe607634b892743585b629c816a171e268cce465381471409329", func := "loop.example/g01299/laws.FnExactLeastApart", spec := "fnExactLeastApart", unfollowed := true, recurses := true, apart := false, narrowed := true }
def FnExactLeastApartUptoSaid : Prop := fnExactLeastApartUptoRow.holds Try.pinned (OpenSpec.upto fnExactLeastApartSpec)

/-- 'laws.FnExactDecodeWord', WHERE WHAT IT READS IS OF BULK AT MOST 1048576: true; the input reads as it did. -/
def fnExactDecodeWordUptoRow : OpenClaim := { program := "ytpidpljngppmiaa", sum := "d9d5153a1a14fe607634b892743585b629c816a171e268cce465381471409329", func := "loop.example/g01299/laws.FnExactDecodeWord", spec := "fnExactDecodeWord", unfollowed := true, recurses := true, apart := false, narrowed := true }
def FnExactDecodeWordUptoSaid : Prop := fnExactDecodeWordUptoRow.holds Try.pinned (OpenSpec.upto fnExactDecodeWordSpec)

/-- 'laws.FnExactGreedyWords', WHERE WHAT IT READS IS OF BULK AT MOST 1048576: true; the input reads as it did. -/
def fnExactGreedyWordsUptoRow : OpenClaim := { program := "ytpidpljngppmiaa", sum := "d9d5153a1a14fe607634b892743585b629c816a171e268cce465381471409329", func := "loop.example/g01299/laws.FnExactGreedyWords", spec := "fnExactGreedyWords", unfollowed := true, recurses := true, apart := false, narrowed := true }
def FnExactGreedyWordsUptoSaid : Prop := fnExactGreedyWordsUptoRow.holds Try.pinned (OpenSpec.upto fnExactGreedyWordsSpec)

end Rows
end Go.Proofs.Ytpidpljngppmiaa
