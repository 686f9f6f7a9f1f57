/- The statement FnExactMovedPhrases, out of the walk and the plain law. No condition. -/
import Derived.Below
import Derived.Deep.Draws
import Derived.Deep.AppendLies
import Derived.Maps.AppendAt
import Derived.OwnWalk
import Derived.Laws.BytesArg
import Derived.Laws.MakeOwn
import Derived.Laws.OwnMore
import Derived.Deep.OwnRows
import Derived.Tactics
import Derived.Lib.ConvBytes
import Derived.Laws.Slices
import Derived.WalkKit
import Derived.KernelRfl
import Derived.RowKit3
import Derived.Deep.LoopGhost
import Derived.Deep.QuietTactic
import Derived.BigQuiet
import Derived.WideLaws
import Derived.Deep.DeepCutAuto
import Derived.Deep.CutBlock
import Derived.Deep.RegionHeld3
import Derived.Laws.Rows
import Derived.Lib.AppendStr
import Derived.ArgAppend
import Derived.Laws.IdiomCopy
import Derived.RowKit
import Derived.Laws.Tables
import Derived.BigFrame
import Derived.Laws.CopyRow
import Derived.Laws.ResultCell
import Derived.OrdersHeld
import Derived.Laws.BitsLemmas
import Derived.Laws.StructEq
import Derived.Test.YtckpfodpfplaeaaProg
import Derived.WalkSpells
import Derived.StillTailTactics
import Derived.Laws.CopyOwn
import Derived.Shelf.SlicesE.Delete
import Derived.ProofKit
import Derived.OpenShut
import Derived.Deep.Slices
import Derived.Lib.SmallJoins
import Derived.Test.YtckpfodpfplaeaaRows
import Derived.ShutString
import Derived.ChangeOld
import Derived.SizedLaws
import Derived.Test.YtckpfodpfplaeaaZFnExactMovedPhrases6
namespace Go.Proofs.Ytckpfodpfplaeaa.fnExactMovedPhrases
open Go.ChangeShapes Go.WideShapes Go.ChangeAt Go.RowKit Go.Proofs.Ytckpfodpfplaeaa.U Go.Proofs.YtckpfodpfplaeaaW.PrintWords
open Go.ChangeMaps (open_string shut_string)
set_option linter.unusedVariables false
theorem own : ownKnob Try.prog.godebug = none := by kernel_rfl
theorem laidOut : laidOutB Try.prog = true := by kernel_rfl
set_option maxRecDepth 100000 in
theorem lifted (os : Os) (started : os.Started) (H : Type) (enc : TypeId × Value → H) :
  ReturnsInHanded {} Try.checked os 6 .any (Rows.fnExactMovedPhrasesSpec.pre6 enc Try.prog Try.f6 Rows.fnExactMovedPhrasesRow.domain false) (Rows.fnExactMovedPhrasesSpec.post enc Try.prog Try.f6 false true false false) := by
 refine returnsInHanded_of_change_sized (C := Try.checked) own started (by kernel_rfl) Try.func6
  (ChangeSpec.witness6 (enc := enc) (C := Try.checked) false ⟨#[], #[.agg #[.int .i8 0, .int .i8 0, .int .i8 0, .slice none 0 0], .agg #[.int .i8 0, .int .i8 0, .int .i8 0, .slice none 0 0]], []⟩ 8 (by kernel_rfl) (by kernel_rfl) (by kernel_rfl) (by kernel_rfl)) ?_
 intro W base args ds gs before hval0 hW hcnd hsz0 _
 have hval : ∀ (j : Nat) t v, Try.f6.params[j]? = some t → args[j]? = some v → Value.okWide Try.prog W .any base t v := hval0
 have hW' := hW
 obtain ⟨p, q, hA0, hV, rfl, hfz, hnd⟩ := hW
 have hA : DataW.TrodAll enc Try.prog W 0 (fun _ => true) true Try.f6.params.toList args.toList ds p := hA0
 rw [Try.params6] at hA hval
 obtain ⟨v0, vs0, d0, ds0, p0, q0, hargs, rfl, rfl, h0, r0⟩ := trodAll_cons hA
 obtain ⟨v1, vs1, d1, ds1, p1, q1, rfl, rfl, rfl, h1, r1⟩ := trodAll_cons r0
 obtain ⟨rfl, rfl, rfl⟩ := trodAll_nil r1
 obtain rfl : args = #[v0, v1] := by cases args; simp_all
 obtain ⟨rfl, rfl⟩ := trodVars_none hV
 have k0 := h0
 have lt0 : ∀ x ∈ p0, x.block < W.heap.size := by obtain ⟨m, hm⟩ := k0; exact DataW.trod_lt m _ _ _ hm
 obtain ⟨a0, b0, c0, A0, m0, l0, rfl, wa0, wb0, wc0, hc0, hC0, wf0⟩ : ∃ (a b c : Int) (A : Option Addr) (m : Nat) (l : List ByteArray), v0 = .agg #[.int .i8 a, .int .i8 b, .int .i8 c, .slice A l.length m] ∧ WfI .i8 a ∧ WfI .i8 b ∧ WfI .i8 c ∧ l.length ≤ m ∧ Kd.C Kd.string W A l.length l ∧ WfL WfS l := by
  obtain ⟨fuel, hf⟩ := h0
  obtain ⟨a, b, c, A, m, l, hcs, wa, wb, wc, hm, hC, wl⟩ := Open.opens_four Try.underlying25 Try.underlying22 Try.underlying22 Try.underlying22 Try.underlying23 (by kernel_rfl) (by kernel_rfl) (by kernel_rfl) (by kernel_rfl) (by kernel_rfl) rfl rfl rfl rfl (by kernel_rfl) (Open.opens_string Try.underlying9) enc W true fuel _ _ hf
  exact ⟨a, b, c, A, m, l, Open.agg_four hcs, wa, wb, wc, hm, hC, wl⟩
 have k1 := h1
 have lt1 : ∀ x ∈ p1, x.block < W.heap.size := by obtain ⟨m, hm⟩ := k1; exact DataW.trod_lt m _ _ _ hm
 obtain ⟨a1, b1, c1, A1, m1, l1, rfl, wa1, wb1, wc1, hc1, hC1, wf1⟩ : ∃ (a b c : Int) (A : Option Addr) (m : Nat) (l : List ByteArray), v1 = .agg #[.int .i8 a, .int .i8 b, .int .i8 c, .slice A l.length m] ∧ WfI .i8 a ∧ WfI .i8 b ∧ WfI .i8 c ∧ l.length ≤ m ∧ Kd.C Kd.string W A l.length l ∧ WfL WfS l := by
  obtain ⟨fuel, hf⟩ := h1
  obtain ⟨a, b, c, A, m, l, hcs, wa, wb, wc, hm, hC, wl⟩ := Open.opens_four Try.underlying25 Try.underlying22 Try.underlying22 Try.underlying22 Try.underlying23 (by kernel_rfl) (by kernel_rfl) (by kernel_rfl) (by kernel_rfl) (by kernel_rfl) rfl rfl rfl rfl (by kernel_rfl) (Open.opens_string Try.underlying9) enc W true fuel _ _ hf
  exact ⟨a, b, c, A, m, l, Open.agg_four hcs, wa, wb, wc, hm, hC, wl⟩
 clear hA0 hval0
 obtain ⟨k, hk⟩ := Pure.FnExactMovedPhrases a0 b0 c0 l0 a1 b1 c1 l1 wa0 wb0 wc0 wf0 wa1 wb1 wc1 wf1
 refine (E.laws_FnExactMovedPhrases.calls k a0 b0 c0 _ _ l0 a1 b1 c1 _ _ l1 true W hC0 hc0 hC1 hc1 hk).mono ?_
 rintro e W' ⟨rfl, bel0⟩
 have bel : Below W.heap.size W W' := bel0
 exact ⟨_, rfl, _, _, _, [], _, [], hW', trodAll_mk1 (shut_bool Try.underlying4 _), (trodAll_cons_mk (Below.trod laidOut (by kernel_rfl) (of_decide_eq_true (by kernel_rfl)) k0 bel lt0) (trodAll_cons_mk (Below.trod laidOut (by kernel_rfl) (of_decide_eq_true (by kernel_rfl)) k1 bel lt1) trodAll_mk0)), rfl, bel.frame _, fun h => by cases h⟩
theorem over : Rows.fnExactMovedPhrasesRow.holds Try.pinned (OpenSpec.ofChange Rows.fnExactMovedPhrasesSpec) :=
 OpenClaim.holds_of_wide 6 Try.f6 rfl rfl rfl rfl rfl rfl rfl ⟨rfl, rfl, rfl, rfl, rfl⟩ rfl rfl rfl rfl rfl (by kernel_rfl) Try.func6 (by kernel_rfl)
  (of_decide_eq_true (by kernel_rfl)) (by unfold Func.isWrapper; first | (rw [if_pos (by decide +kernel)]; kernel_rfl) | (rw [if_neg (by decide +kernel)]; exact ⟨rfl, rfl⟩))
  (fun os started H enc _ => lifted os started H enc)
theorem proved : Rows.FnExactMovedPhrasesSaid := over
#print axioms proved
end Go.Proofs.Ytckpfodpfplaeaa.fnExactMovedPhrases
namespace Go.Proofs.Ytckpfodpfplaeaa
theorem fnExactMovedPhrases_holds : Rows.FnExactMovedPhrasesSaid := fnExactMovedPhrases.proved
end Go.Proofs.Ytckpfodpfplaeaa
