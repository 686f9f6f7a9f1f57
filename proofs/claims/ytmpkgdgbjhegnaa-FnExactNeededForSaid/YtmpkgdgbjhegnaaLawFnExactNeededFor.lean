/- The statement of FnExactNeededFor, out of the walk. No condition. -/
import Derived.Test.YtmpkgdgbjhegnaaRows
import Derived.Test.YtmpkgdgbjhegnaaHoistFlyLaw
import Derived.Test.YtmpkgdgbjhegnaaOpen
import Derived.Test.YtmpkgdgbjhegnaaArrO
import Derived.WalkKit
import Derived.ProofKit
import Derived.OpenShut
import Derived.ShutString
import Derived.ChangeOld
import Derived.Below
import Derived.SizedLaws
namespace Go.Proofs.Ytmpkgdgbjhegnaa.fnExactNeededFor
open Go.ChangeShapes Go.WideShapes Go.ChangeAt Go.RowKit Go.Proofs.Ytmpkgdgbjhegnaa.U Go.Proofs.YtmpkgdgbjhegnaaW.PrintWords Go.Proofs.Ytmpkgdgbjhegnaa.Arr
open Go.ChangeMaps (open_string shut_string)
set_option linter.unusedVariables false
theorem own : ownKnob Try.prog.godebug = none := by kernel_rfl
theorem laidOut : laidOutB Try.prog = true := by kernel_rfl
set_option maxRecDepth 100000 in
theorem lifted (os : Os) (started : os.Started) (H : Type) (enc : TypeId × Value → H) :
    ReturnsInHanded {} Try.checked os 12 .any (Rows.fnExactNeededForSpec.pre6 enc Try.prog Try.f12 Rows.fnExactNeededForRow.domain false) (Rows.fnExactNeededForSpec.post enc Try.prog Try.f12 false true false false) := by
  refine returnsInHanded_of_change_sized (C := Try.checked) own started (by kernel_rfl) Try.func12
    (ChangeSpec.witness6 (enc := enc) (C := Try.checked) false ⟨#[], #[.slice none 0 0], []⟩ 8 (by kernel_rfl) (by kernel_rfl) (by kernel_rfl) (by kernel_rfl)) ?_
  intro W base args ds gs before hval0 hW hcnd hsz0 _
  have hval : ∀ (j : Nat) t v, Try.f12.params[j]? = some t → args[j]? = some v → Value.okWide Try.prog W .any base t v := hval0
  have hW' := hW
  obtain ⟨p, q, hA0, hV, rfl, hfz, hnd⟩ := hW
  have hA : DataW.TrodAll enc Try.prog W 0 (fun _ => true) true Try.f12.params.toList args.toList ds p := hA0
  rw [Try.params12] at hA hval
  obtain ⟨v0, vs0, d0, ds0, p0, q0, hargs, rfl, rfl, h0, r0⟩ := trodAll_cons hA
  obtain ⟨rfl, rfl, rfl⟩ := trodAll_nil r0
  obtain rfl : args = #[v0] := by cases args; simp_all
  obtain ⟨rfl, rfl⟩ := trodVars_none hV
  obtain ⟨a0, len0, cap0, rfl⟩ := okWide_slice Try.underlying55 (hval 0 55 v0 rfl rfl)
  have k0 := h0
  have lt0 : ∀ x ∈ p0, x.block < W.heap.size := by obtain ⟨m, hm⟩ := k0; exact DataW.trod_lt m _ _ _ hm
  obtain ⟨l0, hK0, wf0⟩ : ∃ l, Kd.K (Kd.slice 40 (Kd.slice 90 (Kd.int .i8))) W l [.slice a0 len0 cap0] ∧ (WfL (WfL (WfI .i8))) l := by
    obtain ⟨fuel, hf⟩ := h0
    exact (Open.opens_slice (d := (Kd.slice 90 (Kd.int .i8))) Try.underlying55 (by kernel_rfl) (Open.opens_slice (d := (Kd.int .i8)) Try.underlying40 (by kernel_rfl) (Open.opens_int Try.underlying90))) enc W true fuel _ _ hf
  obtain ⟨A0, c0, e0, hc0, hC0⟩ := hK0
  injection e0 with e0 _
  injection e0 with ea0 el0 ec0
  subst ea0 el0 ec0
  clear hA0 hval0
  refine (Arr.law_FnExactNeededFor W _ _ l0 hC0 hc0 wf0).mono ?_
  rintro e W' ⟨rfl, bel⟩
  exact ⟨_, rfl, _, _, _, [], _, [], hW', trodAll_mk1 (shut_bool Try.underlying4 _), (trodAll_cons_mk (Below.trod laidOut (by kernel_rfl) (of_decide_eq_true (by kernel_rfl)) k0 bel lt0) trodAll_mk0), rfl, bel.frame _, fun h => by cases h⟩
theorem over : Rows.fnExactNeededForRow.holds Try.pinned (OpenSpec.ofChange Rows.fnExactNeededForSpec) :=
  OpenClaim.holds_of_wide 12 Try.f12 rfl rfl rfl rfl rfl rfl rfl ⟨rfl, rfl, rfl, rfl, rfl⟩ rfl rfl rfl rfl rfl (by kernel_rfl) Try.func12 (by kernel_rfl)
    (of_decide_eq_true (by kernel_rfl)) (by unfold Func.isWrapper; first | (rw [if_pos (by decide +kernel)]; kernel_rfl) | (rw [if_neg (by decide +kernel)]; exact ⟨rfl, rfl⟩))
    (fun os started H enc _ => lifted os started H enc)
theorem proved : Rows.FnExactNeededForSaid := over
#print axioms proved
end Go.Proofs.Ytmpkgdgbjhegnaa.fnExactNeededFor
namespace Go.Proofs.Ytmpkgdgbjhegnaa
/-- The row, under a short name, for the claim. -/
theorem fnExactNeededFor_holds : Rows.FnExactNeededForSaid := fnExactNeededFor.proved
end Go.Proofs.Ytmpkgdgbjhegnaa
