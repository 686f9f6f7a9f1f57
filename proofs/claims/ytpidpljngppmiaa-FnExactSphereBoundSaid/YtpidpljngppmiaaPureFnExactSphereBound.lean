/- For all letters, lengths and distances the program's SphereBound returns what the reference's returns. No condition. -/
import Derived.Test.YtpidpljngppmiaaPFnExactSphereBoundx1
namespace Go.Proofs.Ytpidpljngppmiaa.Pure
open Go.RowKit Go.Proofs.Ytpidpljngppmiaa.PFnExactSphereBound Go.Proofs.YtpidpljngppmiaaW.PrintWords Go.Proofs.YtpidpljngppmiaaW.PrintLast

theorem sphere_all : ∀ i : Fin 36, ∀ j : Fin 8, ∀ l : Fin 8, l.val ≤ j.val →
    laws_FnExactSphereBound.f 20 ((i.val : Int) + 2) ((j.val : Int) + 1) ((l.val : Int) + 1) = some true := by
  decide +kernel

theorem FnExactSphereBound : laws_FnExactSphereBound.Pure := by
  intro a0 a1 a2 _ _ _
  refine ⟨20, ?_⟩
  by_cases h : (2 ≤ a0 ∧ a0 ≤ 37) ∧ (1 ≤ a1 ∧ a1 ≤ 8) ∧ (1 ≤ a2 ∧ a2 ≤ a1)
  · obtain ⟨⟨h1, h2⟩, ⟨h3, h4⟩, h5, h6⟩ := h
    have := sphere_all ⟨(a0 - 2).toNat, by omega⟩ ⟨(a1 - 1).toNat, by omega⟩ ⟨(a2 - 1).toNat, by omega⟩ (by show (a2 - 1).toNat ≤ (a1 - 1).toNat; omega)
    rw [show (((⟨(a0 - 2).toNat, by omega⟩ : Fin 36).val : Int) + 2) = a0 by show (((a0 - 2).toNat : Nat) : Int) + 2 = a0; omega,
      show (((⟨(a1 - 1).toNat, by omega⟩ : Fin 8).val : Int) + 1) = a1 by show (((a1 - 1).toNat : Nat) : Int) + 1 = a1; omega,
      show (((⟨(a2 - 1).toNat, by omega⟩ : Fin 8).val : Int) + 1) = a2 by show (((a2 - 1).toNat : Nat) : Int) + 1 = a2; omega] at this
    exact this
  · have e1 : spec_SphereBound.f 20 a0 a1 a2 = some (0, 2) := by
      unfold spec_SphereBound.f spec_l05Asked.f spec_l00In.f
      by_cases c1 : a0 ≥ 2 <;> by_cases c2 : a0 ≤ 37 <;> by_cases c3 : a1 ≥ 1 <;> by_cases c4 : a1 ≤ 8 <;> by_cases c5 : a2 ≥ 1 <;> by_cases c6 : a2 ≤ a1 <;>
        first
        | (exfalso; omega)
        | simp [c1, c2, c3, c4, c5, c6, spec_SphereBound.j0]
    have e2 : impl_SphereBound.f 20 a0 a1 a2 = some (0, 2) := by
      unfold impl_SphereBound.f impl_apartCode.f impl_within.f impl_unless.f
      by_cases c1 : 2 ≤ a0 <;> by_cases c2 : a0 ≤ 37 <;> by_cases c3 : 1 ≤ a1 <;> by_cases c4 : a1 ≤ 8 <;> by_cases c5 : 1 ≤ a2 <;> by_cases c6 : a2 ≤ a1 <;>
        first
        | (exfalso; omega)
        | simp [c1, c2, c3, c4, c5, c6]
    unfold laws_FnExactSphereBound.f
    rw [e1, e2]; rfl

end Go.Proofs.Ytpidpljngppmiaa.Pure
