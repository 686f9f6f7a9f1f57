/- For all letters and words the program's SyndromesOf returns what the reference's returns, and changes nothing. No condition. -/
import Derived.Test.YtpidpljngppmiaaWordLib3
import Derived.Test.YtpidpljngppmiaaPAx7
namespace Go.Proofs.Ytpidpljngppmiaa.Pure
open Go.RowKit Go.Proofs.Ytpidpljngppmiaa.A Go.Proofs.YtpidpljngppmiaaW.PrintWords Go.Proofs.YtpidpljngppmiaaW.PrintLast Go.Proofs.Ytpidpljngppmiaa.U
set_option linter.unusedVariables false
set_option linter.unusedSimpArgs false
theorem synd_both (a : Int) (l : List Int) (hb : Bytes l) (hn : l.length ≤ 140737488351232) : ∃ r, Ev (fun k => spec_SyndromesOf.f k a l) r ∧ Ev (fun k => impl_SyndromesOf.f k a l) r := by
  unfold spec_SyndromesOf.f impl_SyndromesOf.f
  by_cases h : checkC a l = 0
  · have ha : a ≠ 0 := by have := checkC_ok h; omega
    exact ⟨(_, _, 0), Ev.bind (spec_checked_ev a l hb hn) (pos h (Ev.bind (spec_synd_ev a ha l hn) (cons rfl))), Ev.bind (impl_checked_ev a l hb hn) (pos h (Ev.bind (impl_synd_ev a ha l hn) (cons rfl)))⟩
  · exact ⟨(0, 0, checkC a l), Ev.bind (spec_checked_ev a l hb hn) (neg h (cons rfl)), Ev.bind (impl_checked_ev a l hb hn) (neg h (cons rfl))⟩
theorem FnExactSyndromesOf : laws_FnExactSyndromesOf.Pure := by
  intro a l _ _ hn hw
  apply Ev.rounds
  unfold laws_FnExactSyndromesOf.f
  by_cases c1 : (l.length : Int) > 1048576
  · exact pos c1 (cons rfl)
  obtain ⟨r, hs, hi⟩ := synd_both a l (Bytes.of hw) (by omega)
  have t1 := toWord_ev l (by omega)
  refine neg c1 (Ev.bind t1 (Ev.bind hs (Ev.bind t1 (Ev.bind hi (pos rfl (pos rfl ?_))))))
  refine Ev.step (fun k => by rw [laws_FnExactSyndromesOf.j0]) ?_
  exact (neg (by simp) (Ev.bind t1 (Ev.bind (eqWord_refl l (by omega)) (pos rfl (cons rfl)))))
end Go.Proofs.Ytpidpljngppmiaa.Pure
