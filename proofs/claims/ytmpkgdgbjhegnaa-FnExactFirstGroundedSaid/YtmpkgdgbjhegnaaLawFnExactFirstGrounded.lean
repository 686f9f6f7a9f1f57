/- The statement of FnExactFirstGrounded, out of the walk. No condition. -/
import Derived.Test.YtmpkgdgbjhegnaaRows
import Derived.Test.YtmpkgdgbjhegnaaFirstGr
import Derived.Test.YtmpkgdgbjhegnaaOpen
import Derived.Test.YtmpkgdgbjhegnaaArrO
import Derived.WalkKit
import Derived.ProofKit
import Derived.OpenShut
import Derived.ShutString
import Derived.ChangeOld
import Derived.Below
import Derived.SizedLaws
namespace Go.Proofs.Ytmpkgdgbjhegnaa.fnExactFirstGrounded
open Go.ChangeShapes Go.WideShapes Go.ChangeAt Go.RowKit Go.Proofs.Ytmpkgdgbjhegnaa.U Go.Proofs.YtmpkgdgbjhegnaaW.PrintWords Go.Proofs.Ytmpkgdgbjhegnaa.Arr
open Go.ChangeMaps (open_string shut_string)
set_option linter.unusedVariables false
theorem own : ownKnob Try.prog.godebug = none := by kernel_rfl
theorem laidOut : laidOutB Try.prog = true := by kernel_rfl
set_option maxRecDepth 100000 in
theorem lifted (os : Os) (started : os.Started) (H : Type) (enc : TypeId × Value → H) :
    ReturnsInHanded {} Try.checked os 14 .any (Rows.fnExactFirstGroundedSpec.pre6 enc Try.prog Try.f14 Rows.fnExactFirstGroundedRow.domain false) (Rows.fnExactFirstGroundedSpec.post enc Try.prog Try.f14 false true false false) := by
  refine returnsInHanded_of_change_sized (C := Try.checked) own started (by kernel_rfl) Try.func14
    (ChangeSpec.witness6 (enc := enc) (C := Try.checked) false ⟨#[], #[.agg (List.replicate 44 (.int .i16 0)).toArray, .slice none 0 0], []⟩ 8 (by kernel_rfl) (by kernel_rfl) (by kernel_rfl) (by kernel_rfl)) ?_
  intro W base args ds gs before hval0 hW hcnd hsz0 _
  have hval : ∀ (j : Nat) t v, Try.f14.params[j]? = some t → args[j]? = some v → Value.okWide Try.prog W .any base t v := hval0
  have hW' := hW
  obtain ⟨p, q, hA0, hV, rfl, hfz, hnd⟩ := hW
  have hA : DataW.TrodAll enc Try.prog W 0 (fun _ => true) true Try.f14.params.toList args.toList ds p := hA0
  rw [Try.params14] at hA hval
  obtain ⟨v0, vs0, d0, ds0, p0, q0, hargs, rfl, rfl, h0, r0⟩ := trodAll_cons hA
  obtain ⟨v1, vs1, d1, ds1, p1, q1, rfl, rfl, rfl, h1, r1⟩ := trodAll_cons r0
  obtain ⟨rfl, rfl, rfl⟩ := trodAll_nil r1
  obtain rfl : args = #[v0, v1] := by cases args; simp_all
  obtain ⟨rfl, rfl⟩ := trodVars_none hV
  have k0 := h0
  have lt0 : ∀ x ∈ p0, x.block < W.heap.size := by obtain ⟨m, hm⟩ := k0; exact DataW.trod_lt m _ _ _ hm
  obtain ⟨l0, hl0, rfl, wf0⟩ : ∃ L : List Int, L.length = 44 ∧ v0 = .agg (vals .i16 L) ∧ ∀ z ∈ L, (Lit.int .i16 z).wf = true := by
    obtain ⟨fuel, hf⟩ := h0
    obtain ⟨L, hl, hcs, hw⟩ := opens_two Try.underlying31 Try.underlying23 Try.underlying24 Try.underlying22 Try.underlying22 (by kernel_rfl) (by kernel_rfl) (by kernel_rfl) (by kernel_rfl) (by kernel_rfl) rfl rfl hf
    exact ⟨L, hl, agg_of hl hcs, hw⟩
  obtain ⟨a1, len1, cap1, rfl⟩ := okWide_slice Try.underlying55 (hval 1 55 v1 rfl rfl)
  have k1 := h1
  have lt1 : ∀ x ∈ p1, x.block < W.heap.size := by obtain ⟨m, hm⟩ := k1; exact DataW.trod_lt m _ _ _ hm
  obtain ⟨l1, hK1, wf1⟩ : ∃ l, Kd.K (Kd.slice 40 (Kd.slice 90 (Kd.int .i8))) W l [.slice a1 len1 cap1] ∧ (WfL (WfL (WfI .i8))) l := by
    obtain ⟨fuel, hf⟩ := h1
    exact (Open.opens_slice (d := (Kd.slice 90 (Kd.int .i8))) Try.underlying55 (by kernel_rfl) (Open.opens_slice (d := (Kd.int .i8)) Try.underlying40 (by kernel_rfl) (Open.opens_int Try.underlying90))) enc W true fuel _ _ hf
  obtain ⟨A1, c1, e1, hc1, hC1⟩ := hK1
  injection e1 with e1 _
  injection e1 with ea1 el1 ec1
  subst ea1 el1 ec1
  clear hA0 hval0
  refine (Arr.law_FnExactFirstGrounded W l0 hl0 wf0 _ _ l1 hC1 hc1 wf1).mono ?_
  rintro e W' ⟨rfl, bel⟩
  exact ⟨_, rfl, _, _, _, [], _, [], hW', trodAll_mk1 (shut_bool Try.underlying4 _), (trodAll_cons_mk (Below.trod laidOut (by kernel_rfl) (of_decide_eq_true (by kernel_rfl)) k0 bel lt0) (trodAll_cons_mk (Below.trod laidOut (by kernel_rfl) (of_decide_eq_true (by kernel_rfl)) k1 bel lt1) trodAll_mk0)), rfl, bel.frame _, fun h => by cases h⟩
theorem over : Rows.fnExactFirstGroundedRow.holds Try.pinned (OpenSpec.ofChange Rows.fnExactFirstGroundedSpec) :=
  OpenClaim.holds_of_wide 14 Try.f14 rfl rfl rfl rfl rfl rfl rfl ⟨rfl, rfl, rfl, rfl, rfl⟩ rfl rfl rfl rfl rfl (by kernel_rfl) Try.func14 (by kernel_rfl)
    (of_decide_eq_true (by kernel_rfl)) (by unfold Func.isWrapper; first | (rw [if_pos (by decide +kernel)]; kernel_rfl) | (rw [if_neg (by decide +kernel)]; exact ⟨rfl, rfl⟩))
    (fun os started H enc _ => lifted os started H enc)
theorem proved : Rows.FnExactFirstGroundedSaid := over
#print axioms proved
end Go.Proofs.Ytmpkgdgbjhegnaa.fnExactFirstGrounded
namespace Go.Proofs.Ytmpkgdgbjhegnaa
/-- The row, under a short name, for the claim. -/
theorem fnExactFirstGrounded_holds : Rows.FnExactFirstGroundedSaid := fnExactFirstGrounded.proved
end Go.Proofs.Ytmpkgdgbjhegnaa
