/- For all letters and words the program's IsChecked returns what the reference's returns, and changes nothing. No condition. -/
import Derived.Test.YtpidpljngppmiaaWordLib3
import Derived.Test.YtpidpljngppmiaaPAx8
namespace Go.Proofs.Ytpidpljngppmiaa.Pure
open Go.RowKit Go.Proofs.Ytpidpljngppmiaa.A Go.Proofs.YtpidpljngppmiaaW.PrintWords Go.Proofs.YtpidpljngppmiaaW.PrintLast Go.Proofs.Ytpidpljngppmiaa.U
set_option linter.unusedVariables false
set_option linter.unusedSimpArgs false
theorem checked_both (a : Int) (l : List Int) (hb : Bytes l) (hn : l.length ≤ 140737488351232) : ∃ r, Ev (fun k => spec_IsChecked.f k a l) r ∧ Ev (fun k => impl_IsChecked.f k a l) r := by
  unfold spec_IsChecked.f impl_IsChecked.f spec_SyndromesOf.f impl_Word_isChecked.f
  by_cases h : checkC a l = 0
  · have ha : a ≠ 0 := by have := checkC_ok h; omega
    have s := Ev.bind (f := fun k x => (if x = 0 then ((spec_l05Syndromes.f k a l).bind fun bt273 => some (bt273.1, bt273.2, (0 : Int))) else some (0, 0, x))) (spec_checked_ev a l hb hn) (pos h (Ev.bind (spec_synd_ev a ha l hn) (cons rfl)))
    have i := impl_checked_ev a l hb hn
    by_cases hz : Int.tmod (sums l l.length).1 a = 0
    · exact ⟨(Int.tmod (sums l l.length).2 a == 0, 0), Ev.bind s (pos rfl (pos hz (cons rfl))), Ev.bind i (pos h (Ev.bind (Ev.bind (impl_synd_ev a ha l hn) (pos hz (cons rfl))) (cons rfl)))⟩
    · exact ⟨(false, 0), Ev.bind s (pos rfl (neg hz (cons rfl))), Ev.bind i (pos h (Ev.bind (Ev.bind (impl_synd_ev a ha l hn) (neg hz (cons rfl))) (cons rfl)))⟩
  · have s := Ev.bind (f := fun k x => (if x = 0 then ((spec_l05Syndromes.f k a l).bind fun bt273 => some (bt273.1, bt273.2, (0 : Int))) else some (0, 0, x))) (spec_checked_ev a l hb hn) (neg h (cons rfl))
    exact ⟨(false, checkC a l), Ev.bind s (neg h (cons rfl)), Ev.bind (impl_checked_ev a l hb hn) (neg h (cons rfl))⟩
theorem FnExactIsChecked : laws_FnExactIsChecked.Pure := by
  intro a l _ _ hn hw
  apply Ev.rounds
  unfold laws_FnExactIsChecked.f
  by_cases c1 : (l.length : Int) > 1048576
  · exact pos c1 (cons rfl)
  obtain ⟨r, hs, hi⟩ := checked_both a l (Bytes.of hw) (by omega)
  have t1 := toWord_ev l (by omega)
  refine neg c1 (Ev.bind t1 (Ev.bind hs (Ev.bind t1 (Ev.bind hi (neg (by simp) ?_)))))
  refine Ev.step (fun k => by rw [laws_FnExactIsChecked.j0]) ?_
  exact (neg (by simp) (Ev.bind t1 (Ev.bind (eqWord_refl l (by omega)) (pos rfl (cons rfl)))))
end Go.Proofs.Ytpidpljngppmiaa.Pure
