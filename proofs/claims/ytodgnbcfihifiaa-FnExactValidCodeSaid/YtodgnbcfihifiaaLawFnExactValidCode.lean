/- The statement of FnExactValidCode, out of the walk. No condition. -/
import Derived.Test.YtodgnbcfihifiaaRows
import Derived.Test.YtodgnbcfihifiaaCodeVal
import Derived.Test.YtodgnbcfihifiaaOpen
import Derived.Test.YtodgnbcfihifiaaArrO
import Derived.WalkKit
import Derived.ProofKit
import Derived.OpenShut
import Derived.ShutString
import Derived.ChangeOld
import Derived.Below
import Derived.SizedLaws
namespace Go.Proofs.Ytodgnbcfihifiaa.fnExactValidCode
open Go.ChangeShapes Go.WideShapes Go.ChangeAt Go.RowKit Go.Proofs.Ytodgnbcfihifiaa.U Go.Proofs.YtodgnbcfihifiaaW.PrintWords Go.Proofs.Ytodgnbcfihifiaa.Arr
open Go.ChangeMaps (open_string shut_string)
set_option linter.unusedVariables false
theorem own : ownKnob Try.prog.godebug = none := by kernel_rfl
theorem laidOut : laidOutB Try.prog = true := by kernel_rfl
set_option maxRecDepth 100000 in
theorem lifted (os : Os) (started : os.Started) (H : Type) (enc : TypeId × Value → H) :
    ReturnsInHanded {} Try.checked os 4 .any (Rows.fnExactValidCodeSpec.pre6 enc Try.prog Try.f4 Rows.fnExactValidCodeRow.domain false) (Rows.fnExactValidCodeSpec.post enc Try.prog Try.f4 false true false false) := by
  refine returnsInHanded_of_change_sized (C := Try.checked) own started (by kernel_rfl) Try.func4
    (ChangeSpec.witness6 (enc := enc) (C := Try.checked) false ⟨#[], #[.agg #[.slice none 0 0, .slice none 0 0]], []⟩ 8 (by kernel_rfl) (by kernel_rfl) (by kernel_rfl) (by kernel_rfl)) ?_
  intro W base args ds gs before hval0 hW hcnd hsz0 _
  have hval : ∀ (j : Nat) t v, Try.f4.params[j]? = some t → args[j]? = some v → Value.okWide Try.prog W .any base t v := hval0
  have hW' := hW
  obtain ⟨p, q, hA0, hV, rfl, hfz, hnd⟩ := hW
  have hA : DataW.TrodAll enc Try.prog W 0 (fun _ => true) true Try.f4.params.toList args.toList ds p := hA0
  rw [Try.params4] at hA hval
  obtain ⟨v0, vs0, d0, ds0, p0, q0, hargs, rfl, rfl, h0, r0⟩ := trodAll_cons hA
  obtain ⟨rfl, rfl, rfl⟩ := trodAll_nil r0
  obtain rfl : args = #[v0] := by cases args; simp_all
  obtain ⟨rfl, rfl⟩ := trodVars_none hV
  have k0 := h0
  have lt0 : ∀ x ∈ p0, x.block < W.heap.size := by obtain ⟨m, hm⟩ := k0; exact DataW.trod_lt m _ _ _ hm
  obtain ⟨A0, c0, l0, B0, d0c, m0, rfl, hc0, hC0, wf0, hd0, hD0, wg0⟩ : ∃ (A : Option Addr) (c : Nat) (l : List (List Int)) (B : Option Addr) (d : Nat) (m : List (List Int)), v0 = .agg #[.slice A l.length c, .slice B m.length d] ∧ l.length ≤ c ∧ Kd.C (kA .u8 24) W A l.length l ∧ WfL (fun x : List Int => x.length = 24 ∧ ∀ z ∈ x, WfI .u8 z) l ∧ m.length ≤ d ∧ Kd.C (Kd.slice 5 (Kd.int .u8)) W B m.length m ∧ WfL (WfL (WfI .u8)) m := by
    obtain ⟨fuel, hf⟩ := h0
    obtain ⟨A, c, l, B, d, m, hcs, h1, h2, h3, h4, h5, h6⟩ := opens_rows Try.underlying33 Try.underlying30 Try.underlying31 (by kernel_rfl) (by kernel_rfl) (by kernel_rfl) rfl rfl (by kernel_rfl) (opens_arrK Try.underlying66 Try.underlying5 (by kernel_rfl) (by kernel_rfl)) (by kernel_rfl) (Open.opens_slice (d := (Kd.int .u8)) Try.underlying79 (by kernel_rfl) (Open.opens_int Try.underlying5)) enc W true fuel _ _ hf
    exact ⟨A, c, l, B, d, m, agg_two hcs, h1, h2, h3, h4, h5, h6⟩
  clear hA0 hval0
  refine (Arr.law_FnExactValidCode W _ _ l0 _ _ m0 hC0 hc0 wf0 hD0 hd0 wg0).mono ?_
  rintro e W' ⟨rfl, bel⟩
  exact ⟨_, rfl, _, _, _, [], _, [], hW', trodAll_mk1 (shut_bool Try.underlying4 _), (trodAll_cons_mk (Below.trod laidOut (by kernel_rfl) (of_decide_eq_true (by kernel_rfl)) k0 bel lt0) trodAll_mk0), rfl, bel.frame _, fun h => by cases h⟩
theorem over : Rows.fnExactValidCodeRow.holds Try.pinned (OpenSpec.ofChange Rows.fnExactValidCodeSpec) :=
  OpenClaim.holds_of_wide 4 Try.f4 rfl rfl rfl rfl rfl rfl rfl ⟨rfl, rfl, rfl, rfl, rfl⟩ rfl rfl rfl rfl rfl (by kernel_rfl) Try.func4 (by kernel_rfl)
    (of_decide_eq_true (by kernel_rfl)) (by unfold Func.isWrapper; first | (rw [if_pos (by decide +kernel)]; kernel_rfl) | (rw [if_neg (by decide +kernel)]; exact ⟨rfl, rfl⟩))
    (fun os started H enc _ => lifted os started H enc)
theorem proved : Rows.FnExactValidCodeSaid := over
#print axioms proved
end Go.Proofs.Ytodgnbcfihifiaa.fnExactValidCode
namespace Go.Proofs.Ytodgnbcfihifiaa
/-- The row, under a short name, for the claim. -/
theorem fnExactValidCode_holds : Rows.FnExactValidCodeSaid := fnExactValidCode.proved
end Go.Proofs.Ytodgnbcfihifiaa
