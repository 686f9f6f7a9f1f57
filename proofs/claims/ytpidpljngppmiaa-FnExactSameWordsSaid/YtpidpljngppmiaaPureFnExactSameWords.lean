/- For all lists of words the program's SameWords returns what the reference's returns, and changes neither. No condition. -/
import Derived.Test.YtpidpljngppmiaaWordSLib
import Derived.Test.YtpidpljngppmiaaPAx5
import Derived.Test.YtpidpljngppmiaaPAx6
namespace Go.Proofs.Ytpidpljngppmiaa.Pure
open Go.RowKit Go.Proofs.Ytpidpljngppmiaa.A Go.Proofs.YtpidpljngppmiaaW.PrintWords Go.Proofs.YtpidpljngppmiaaW.PrintLast Go.Proofs.Ytpidpljngppmiaa.U
set_option linter.unusedVariables false
set_option linter.unusedSimpArgs false
theorem same_eq : ∀ k x0 x1 x5, spec_l05Same.l0 k x0 x1 x5 = laws_eqWord.l0 k x0 x1 x5 := by
  intro k
  induction k with
  | zero => intros; rfl
  | succ k ih => intro x0 x1 x5; simp only [spec_l05Same.l0, laws_eqWord.l0, ih]
theorem same_f (k : Nat) (x0 x1 : List Int) : spec_l05Same.f k x0 x1 = laws_eqWord.f k x0 x1 := by
  simp only [spec_l05Same.f, laws_eqWord.f, same_eq]
theorem sameS_eq : ∀ k x0 x1 x5, spec_SameWords.l0 k x0 x1 x5 = laws_eqWordS.l0 k x0 x1 x5 := by
  intro k
  induction k with
  | zero => intros; rfl
  | succ k ih => intro x0 x1 x5; simp only [spec_SameWords.l0, laws_eqWordS.l0, ih, same_f]
theorem sameS_f (k : Nat) (x0 x1 : List (List Int)) : spec_SameWords.f k x0 x1 = laws_eqWordS.f k x0 x1 := by
  simp only [spec_SameWords.f, laws_eqWordS.f, sameS_eq]
def FnExactSameWordsPure : Prop := ∀ (l0 l1 : List (List Int)), WfL (WfL (WfI .u8)) l0 → WfL (WfL (WfI .u8)) l1 → ∃ k, laws_FnExactSameWords.f k l0 l1 = some true
theorem FnExactSameWords : FnExactSameWordsPure := by
  intro l l' hw hw'
  apply Ev.rounds
  unfold laws_FnExactSameWords.f
  obtain ⟨r1, h1, hr1, hp1⟩ := szWordS_ev l 1048576 (by omega) hw.1 (fun x hx => (hw.2 x hx).1)
  by_cases c1 : r1 < 0
  · exact Ev.bind h1 (pos c1 (cons rfl))
  obtain ⟨r2, h2, hr2, hp2⟩ := szWordS_ev l' r1 (by omega) hw'.1 (fun x hx => (hw'.2 x hx).1)
  by_cases c2 : r2 < 0
  · exact Ev.bind h1 (neg c1 (Ev.bind h2 (pos c2 (cons rfl))))
  have q1 := hp1 (by omega)
  have q2 := hp2 (by omega)
  have n1 : l.length ≤ 1048576 := by have := q1.1; omega
  have n2 : l'.length ≤ 1048576 := by have := q2.1; omega
  have m1 : ∀ x ∈ l, x.length ≤ 1048576 := fun x hx => by have := q1.2 x hx; omega
  have m2 : ∀ x ∈ l', x.length ≤ 1048576 := fun x hx => by have := q2.2 x hx; omega
  have t1 := toWordS_ev l n1 m1
  have t2 := toWordS_ev l' n2 m2
  have hs : Ev (fun k => spec_SameWords.f k l l') (decide (l = l')) := Ev.congr (fun k => sameS_f k l l') (eqWordS_ev l l' n1 m1)
  exact Ev.bind h1 (neg c1 (Ev.bind h2 (neg c2 (Ev.bind t1 (Ev.bind t2 (Ev.bind hs (Ev.bind t1 (Ev.bind t2 (bindc rfl (neg (by simp) (Ev.bind t1 (Ev.bind (eqWordS_refl l n1 m1) (pos rfl (Ev.bind t2 (Ev.bind (eqWordS_refl l' n2 m2) (pos rfl (cons rfl)))))))))))))))))
end Go.Proofs.Ytpidpljngppmiaa.Pure
