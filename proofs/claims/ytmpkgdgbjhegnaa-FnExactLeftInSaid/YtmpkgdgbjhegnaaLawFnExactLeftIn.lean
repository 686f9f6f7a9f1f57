/- The statement of FnExactLeftIn, out of the walk. No condition. -/
import Derived.Test.YtmpkgdgbjhegnaaRows
import Derived.Test.YtmpkgdgbjhegnaaLockLeft
import Derived.Test.YtmpkgdgbjhegnaaOpen
import Derived.Test.YtmpkgdgbjhegnaaArrO
import Derived.WalkKit
import Derived.ProofKit
import Derived.OpenShut
import Derived.ShutString
import Derived.ChangeOld
import Derived.Below
import Derived.SizedLaws
namespace Go.Proofs.Ytmpkgdgbjhegnaa.fnExactLeftIn
open Go.ChangeShapes Go.WideShapes Go.ChangeAt Go.RowKit Go.Proofs.Ytmpkgdgbjhegnaa.U Go.Proofs.YtmpkgdgbjhegnaaW.PrintWords Go.Proofs.Ytmpkgdgbjhegnaa.Arr
open Go.ChangeMaps (open_string shut_string)
set_option linter.unusedVariables false
theorem own : ownKnob Try.prog.godebug = none := by kernel_rfl
theorem laidOut : laidOutB Try.prog = true := by kernel_rfl
set_option maxRecDepth 100000 in
theorem lifted (os : Os) (started : os.Started) (H : Type) (enc : TypeId × Value → H) :
    ReturnsInHanded {} Try.checked os 11 .any (Rows.fnExactLeftInSpec.pre6 enc Try.prog Try.f11 Rows.fnExactLeftInRow.domain false) (Rows.fnExactLeftInSpec.post enc Try.prog Try.f11 false true false false) := by
  refine returnsInHanded_of_change_sized (C := Try.checked) own started (by kernel_rfl) Try.func11
    (ChangeSpec.witness6 (enc := enc) (C := Try.checked) false ⟨#[], #[.agg (List.replicate 44 (.int .i16 0)).toArray, .agg (List.replicate 44 (.int .i16 0)).toArray], []⟩ 8 (by kernel_rfl) (by kernel_rfl) (by kernel_rfl) (by kernel_rfl)) ?_
  intro W base args ds gs before hval0 hW hcnd hsz0 _
  have hval : ∀ (j : Nat) t v, Try.f11.params[j]? = some t → args[j]? = some v → Value.okWide Try.prog W .any base t v := hval0
  have hW' := hW
  obtain ⟨p, q, hA0, hV, rfl, hfz, hnd⟩ := hW
  have hA : DataW.TrodAll enc Try.prog W 0 (fun _ => true) true Try.f11.params.toList args.toList ds p := hA0
  rw [Try.params11] at hA hval
  obtain ⟨v0, vs0, d0, ds0, p0, q0, hargs, rfl, rfl, h0, r0⟩ := trodAll_cons hA
  obtain ⟨v1, vs1, d1, ds1, p1, q1, rfl, rfl, rfl, h1, r1⟩ := trodAll_cons r0
  obtain ⟨rfl, rfl, rfl⟩ := trodAll_nil r1
  obtain rfl : args = #[v0, v1] := by cases args; simp_all
  obtain ⟨rfl, rfl⟩ := trodVars_none hV
  have k0 := h0
  have lt0 : ∀ x ∈ p0, x.block < W.heap.size := by obtain ⟨m, hm⟩ := k0; exact DataW.trod_lt m _ _ _ hm
  obtain ⟨l0, hl0, rfl, wf0⟩ : ∃ L : List Int, L.length = 44 ∧ v0 = .agg (vals .i16 L) ∧ ∀ z ∈ L, (Lit.int .i16 z).wf = true := by
    obtain ⟨fuel, hf⟩ := h0
    obtain ⟨L, hl, hcs, hw⟩ := opens_two Try.underlying31 Try.underlying23 Try.underlying24 Try.underlying22 Try.underlying22 (by kernel_rfl) (by kernel_rfl) (by kernel_rfl) (by kernel_rfl) (by kernel_rfl) rfl rfl hf
    exact ⟨L, hl, agg_of hl hcs, hw⟩
  have k1 := h1
  have lt1 : ∀ x ∈ p1, x.block < W.heap.size := by obtain ⟨m, hm⟩ := k1; exact DataW.trod_lt m _ _ _ hm
  obtain ⟨l1, hl1, rfl, wf1⟩ : ∃ L : List Int, L.length = 44 ∧ v1 = .agg (vals .i16 L) ∧ ∀ z ∈ L, (Lit.int .i16 z).wf = true := by
    obtain ⟨fuel, hf⟩ := h1
    obtain ⟨L, hl, hcs, hw⟩ := opens_two Try.underlying31 Try.underlying23 Try.underlying24 Try.underlying22 Try.underlying22 (by kernel_rfl) (by kernel_rfl) (by kernel_rfl) (by kernel_rfl) (by kernel_rfl) rfl rfl hf
    exact ⟨L, hl, agg_of hl hcs, hw⟩
  clear hA0 hval0
  refine (Arr.law_FnExactLeftIn l0 hl0 wf0 l1 hl1 wf1 W).mono ?_
  rintro e W' ⟨rfl, bel⟩
  exact ⟨_, rfl, _, _, _, [], _, [], hW', trodAll_mk1 (shut_bool Try.underlying4 _), (trodAll_cons_mk (Below.trod laidOut (by kernel_rfl) (of_decide_eq_true (by kernel_rfl)) k0 bel lt0) (trodAll_cons_mk (Below.trod laidOut (by kernel_rfl) (of_decide_eq_true (by kernel_rfl)) k1 bel lt1) trodAll_mk0)), rfl, bel.frame _, fun h => by cases h⟩
theorem over : Rows.fnExactLeftInRow.holds Try.pinned (OpenSpec.ofChange Rows.fnExactLeftInSpec) :=
  OpenClaim.holds_of_wide 11 Try.f11 rfl rfl rfl rfl rfl rfl rfl ⟨rfl, rfl, rfl, rfl, rfl⟩ rfl rfl rfl rfl rfl (by kernel_rfl) Try.func11 (by kernel_rfl)
    (of_decide_eq_true (by kernel_rfl)) (by unfold Func.isWrapper; first | (rw [if_pos (by decide +kernel)]; kernel_rfl) | (rw [if_neg (by decide +kernel)]; exact ⟨rfl, rfl⟩))
    (fun os started H enc _ => lifted os started H enc)
theorem proved : Rows.FnExactLeftInSaid := over
#print axioms proved
end Go.Proofs.Ytmpkgdgbjhegnaa.fnExactLeftIn
namespace Go.Proofs.Ytmpkgdgbjhegnaa
/-- The row, under a short name, for the claim. -/
theorem fnExactLeftIn_holds : Rows.FnExactLeftInSaid := fnExactLeftIn.proved
end Go.Proofs.Ytmpkgdgbjhegnaa
