/- The statement of FnExactSameWords, out of its pure part and the walk. No condition. -/
import Derived.Test.YtpidpljngppmiaaRows
import Derived.Test.YtpidpljngppmiaaPAx6
import Derived.Test.YtpidpljngppmiaaPureFnExactSameWords
import Derived.Test.YtpidpljngppmiaaOpen
import Derived.WalkKit
import Derived.ProofKit
import Derived.OpenShut
import Derived.ShutString
import Derived.ChangeOld
import Derived.Below
import Derived.SizedLaws
namespace Go.Proofs.Ytpidpljngppmiaa.fnExactSameWords
open Go.ChangeShapes Go.WideShapes Go.ChangeAt Go.RowKit Go.Proofs.Ytpidpljngppmiaa.U Go.Proofs.YtpidpljngppmiaaW.PrintWords
open Go.ChangeMaps (open_string shut_string)
set_option linter.unusedVariables false
theorem own : ownKnob Try.prog.godebug = none := by kernel_rfl
theorem laidOut : laidOutB Try.prog = true := by kernel_rfl
set_option maxRecDepth 100000 in
theorem lifted (os : Os) (started : os.Started) (H : Type) (enc : TypeId × Value → H) :
    ReturnsInHanded {} Try.checked os 7 .any (Rows.fnExactSameWordsSpec.pre6 enc Try.prog Try.f7 Rows.fnExactSameWordsRow.domain false) (Rows.fnExactSameWordsSpec.post enc Try.prog Try.f7 false true false false) := by
  refine returnsInHanded_of_change_sized (C := Try.checked) own started (by kernel_rfl) Try.func7
    (ChangeSpec.witness6 (enc := enc) (C := Try.checked) false ⟨#[], #[.slice none 0 0, .slice none 0 0], []⟩ 8 (by kernel_rfl) (by kernel_rfl) (by kernel_rfl) (by kernel_rfl)) ?_
  intro W base args ds gs before hval0 hW hcnd hsz0 _
  have hval : ∀ (j : Nat) t v, Try.f7.params[j]? = some t → args[j]? = some v → Value.okWide Try.prog W .any base t v := hval0
  have hW' := hW
  obtain ⟨p, q, hA0, hV, rfl, hfz, hnd⟩ := hW
  have hA : DataW.TrodAll enc Try.prog W 0 (fun _ => true) true Try.f7.params.toList args.toList ds p := hA0
  rw [Try.params7] at hA hval
  obtain ⟨v0, vs0, d0, ds0, p0, q0, hargs, rfl, rfl, h0, r0⟩ := trodAll_cons hA
  obtain ⟨v1, vs1, d1, ds1, p1, q1, rfl, rfl, rfl, h1, r1⟩ := trodAll_cons r0
  obtain ⟨rfl, rfl, rfl⟩ := trodAll_nil r1
  obtain rfl : args = #[v0, v1] := by cases args; simp_all
  obtain ⟨rfl, rfl⟩ := trodVars_none hV
  obtain ⟨a0, len0, cap0, rfl⟩ := okWide_slice Try.underlying36 (hval 0 36 v0 rfl rfl)
  have k0 := h0
  have lt0 : ∀ x ∈ p0, x.block < W.heap.size := by obtain ⟨m, hm⟩ := k0; exact DataW.trod_lt m _ _ _ hm
  obtain ⟨l0, hK0, wf0⟩ : ∃ l, Kd.K (Kd.slice 25 (Kd.slice 5 (Kd.int .u8))) W l [.slice a0 len0 cap0] ∧ (WfL (WfL (WfI .u8))) l := by
    obtain ⟨fuel, hf⟩ := h0
    exact (Open.opens_slice (d := (Kd.slice 5 (Kd.int .u8))) Try.underlying36 (by kernel_rfl) (Open.opens_slice (d := (Kd.int .u8)) Try.underlying25 (by kernel_rfl) (Open.opens_int Try.underlying5))) enc W true fuel _ _ hf
  obtain ⟨A0, c0, e0, hc0, hC0⟩ := hK0
  injection e0 with e0 _
  injection e0 with ea0 el0 ec0
  subst ea0 el0 ec0
  obtain ⟨a1, len1, cap1, rfl⟩ := okWide_slice Try.underlying36 (hval 1 36 v1 rfl rfl)
  have k1 := h1
  have lt1 : ∀ x ∈ p1, x.block < W.heap.size := by obtain ⟨m, hm⟩ := k1; exact DataW.trod_lt m _ _ _ hm
  obtain ⟨l1, hK1, wf1⟩ : ∃ l, Kd.K (Kd.slice 25 (Kd.slice 5 (Kd.int .u8))) W l [.slice a1 len1 cap1] ∧ (WfL (WfL (WfI .u8))) l := by
    obtain ⟨fuel, hf⟩ := h1
    exact (Open.opens_slice (d := (Kd.slice 5 (Kd.int .u8))) Try.underlying36 (by kernel_rfl) (Open.opens_slice (d := (Kd.int .u8)) Try.underlying25 (by kernel_rfl) (Open.opens_int Try.underlying5))) enc W true fuel _ _ hf
  obtain ⟨A1, c1, e1, hc1, hC1⟩ := hK1
  injection e1 with e1 _
  injection e1 with ea1 el1 ec1
  subst ea1 el1 ec1
  clear hA0 hval0
  obtain ⟨k, hk⟩ := Pure.FnExactSameWords l0 l1 wf0 wf1
  refine (A.laws_FnExactSameWords.calls k _ _ l0 _ _ l1 true W hC0 hc0 hC1 hc1 hk).mono ?_
  rintro e W' ⟨rfl, bel0⟩
  have bel : Below W.heap.size W W' := bel0
  exact ⟨_, rfl, _, _, _, [], _, [], hW', trodAll_mk1 (shut_bool Try.underlying4 _), (trodAll_cons_mk (Below.trod laidOut (by kernel_rfl) (of_decide_eq_true (by kernel_rfl)) k0 bel lt0) (trodAll_cons_mk (Below.trod laidOut (by kernel_rfl) (of_decide_eq_true (by kernel_rfl)) k1 bel lt1) trodAll_mk0)), rfl, bel.frame _, fun h => by cases h⟩
theorem over : Rows.fnExactSameWordsRow.holds Try.pinned (OpenSpec.ofChange Rows.fnExactSameWordsSpec) :=
  OpenClaim.holds_of_wide 7 Try.f7 rfl rfl rfl rfl rfl rfl rfl ⟨rfl, rfl, rfl, rfl, rfl⟩ rfl rfl rfl rfl rfl (by kernel_rfl) Try.func7 (by kernel_rfl)
    (of_decide_eq_true (by kernel_rfl)) (by unfold Func.isWrapper; first | (rw [if_pos (by decide +kernel)]; kernel_rfl) | (rw [if_neg (by decide +kernel)]; exact ⟨rfl, rfl⟩))
    (fun os started H enc _ => lifted os started H enc)
theorem proved : Rows.FnExactSameWordsSaid := over
#print axioms proved
end Go.Proofs.Ytpidpljngppmiaa.fnExactSameWords
namespace Go.Proofs.Ytpidpljngppmiaa
/-- The row, under a short name, for the claim. -/
theorem fnExactSameWords_holds : Rows.FnExactSameWordsSaid := fnExactSameWords.proved
end Go.Proofs.Ytpidpljngppmiaa
