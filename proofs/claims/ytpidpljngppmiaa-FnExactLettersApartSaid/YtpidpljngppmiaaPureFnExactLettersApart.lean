/- For all words the program's LettersApart returns what the reference's returns, and changes neither. No condition. -/
import Derived.Test.YtpidpljngppmiaaWordLib2
import Derived.Test.YtpidpljngppmiaaPAx3
namespace Go.Proofs.Ytpidpljngppmiaa.Pure
open Go.RowKit Go.Proofs.Ytpidpljngppmiaa.A Go.Proofs.YtpidpljngppmiaaW.PrintWords Go.Proofs.YtpidpljngppmiaaW.PrintLast Go.Proofs.Ytpidpljngppmiaa.U
set_option linter.unusedVariables false
set_option linter.unusedSimpArgs false
theorem letters_both_ev (l l' : List Int) (hb : Bytes l) (hb' : Bytes l') (hn : l.length ≤ 140737488351232) (hn' : l'.length ≤ 140737488351232) :
    ∃ r, Ev (fun k => spec_LettersApart.f k l l') r ∧ Ev (fun k => impl_LettersApart.f k l l') r := by
  unfold spec_LettersApart.f impl_LettersApart.f
  rw [isWord_37 l hb, isWord_37 l' hb']
  cases h1 : wordOk l with
  | false =>
    refine ⟨(0, 1), Ev.bind (h1 ▸ l05Word_ev l hn) (neg (by decide) ?_), bindc rfl (neg (by decide) ?_)⟩
    · refine Ev.step (fun k => by rw [spec_LettersApart.j0]) ?_
      exact pos rfl (cons rfl)
    · refine Ev.step (fun k => by rw [impl_LettersApart.j0]) ?_
      exact pos rfl (cons rfl)
  | true =>
    cases h2 : wordOk l' with
    | false =>
      refine ⟨(0, 1), Ev.bind (h1 ▸ l05Word_ev l hn) (pos rfl (Ev.bind (h2 ▸ l05Word_ev l' hn') ?_)), bindc rfl (pos rfl (bindc rfl ?_))⟩
      · refine Ev.step (fun k => by rw [spec_LettersApart.j0]) ?_
        exact pos rfl (cons rfl)
      · refine Ev.step (fun k => by rw [impl_LettersApart.j0]) ?_
        exact pos rfl (cons rfl)
    | true =>
      by_cases hl : (l.length : Int) = (l'.length : Int)
      · refine ⟨(apartTo l l' l.length, 0), Ev.bind (h1 ▸ l05Word_ev l hn) (pos rfl (Ev.bind (h2 ▸ l05Word_ev l' hn') ?_)), bindc rfl (pos rfl (bindc rfl ?_))⟩
        · refine Ev.step (fun k => by rw [spec_LettersApart.j0]) ?_
          exact neg (by decide) (pos hl (Ev.bind (l05Apart_ev l l' (by omega) hn) (cons rfl)))
        · refine Ev.step (fun k => by rw [impl_LettersApart.j0]) ?_
          exact neg (by decide) (pos hl (Ev.bind (unlike_ev l l' (by omega) hn) (cons rfl)))
      · refine ⟨(0, 2), Ev.bind (h1 ▸ l05Word_ev l hn) (pos rfl (Ev.bind (h2 ▸ l05Word_ev l' hn') ?_)), bindc rfl (pos rfl (bindc rfl ?_))⟩
        · refine Ev.step (fun k => by rw [spec_LettersApart.j0]) ?_
          exact neg (by decide) (neg hl (cons rfl))
        · refine Ev.step (fun k => by rw [impl_LettersApart.j0]) ?_
          exact neg (by decide) (neg hl (cons rfl))
theorem FnExactLettersApart : laws_FnExactLettersApart.Pure := by
  intro l l' _ hn hw _ hn' hw'
  apply Ev.rounds
  unfold laws_FnExactLettersApart.f
  by_cases c1 : (l.length : Int) > 1048576
  · exact pos c1 (cons rfl)
  by_cases c2 : (l'.length : Int) > 1048576
  · exact neg c1 (pos c2 (cons rfl))
  obtain ⟨r, hs, hi⟩ := letters_both_ev l l' (Bytes.of hw) (Bytes.of hw') (by omega) (by omega)
  have t1 := toWord_ev l (by omega)
  have t2 := toWord_ev l' (by omega)
  refine neg c1 (neg c2 (Ev.bind t1 (Ev.bind t2 (Ev.bind hs (Ev.bind t1 (Ev.bind t2 (Ev.bind hi (pos rfl ?_))))))))
  refine Ev.step (fun k => by rw [laws_FnExactLettersApart.j0]) ?_
  exact (neg (by simp) (Ev.bind t1 (Ev.bind (eqWord_refl l (by omega)) (pos rfl (Ev.bind t2 (Ev.bind (eqWord_refl l' (by omega)) (pos rfl (cons rfl))))))))
end Go.Proofs.Ytpidpljngppmiaa.Pure
