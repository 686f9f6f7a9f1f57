/- For all letters and words the program's RankOfWord returns what the reference's returns, and changes nothing. No condition. -/
import Derived.Test.YtpidpljngppmiaaWordLib3
import Derived.Test.YtpidpljngppmiaaPAx4
namespace Go.Proofs.Ytpidpljngppmiaa.Pure
open Go.RowKit Go.Proofs.Ytpidpljngppmiaa.A Go.Proofs.YtpidpljngppmiaaW.PrintWords Go.Proofs.YtpidpljngppmiaaW.PrintLast Go.Proofs.Ytpidpljngppmiaa.U
set_option linter.unusedVariables false
set_option linter.unusedSimpArgs false
/-- The rank, round by round. -/
def rankTo (a : Int) (l : List Int) : Nat → Int
  | 0 => 0
  | i + 1 => wrap64 (wrap64 (rankTo a l i * a) + wrap64 (rd l (i : Int)))
theorem srank_ev (a : Int) (l : List Int) (hn : l.length ≤ 140737488351232) : Ev (fun k => spec_RankOfWord.l0 k a l 0 0) (rankTo a l l.length, 0) := by
  refine iter (F := fun k (s : Int × Int) => spec_RankOfWord.l0 k a l s.1 s.2) (fun i s => s = (rankTo a l i, (i : Int))) _ l.length ?_ ?_ 0 (0, 0) (by omega) rfl
  · rintro i s hi rfl
    refine .inl ⟨_, rfl, Ev.step fun k => ?_⟩
    simp only [spec_RankOfWord.l0]
    rw [if_pos (by omega), if_pos (by omega), w64 (x := (i : Int) + 1) (by omega) (by omega)]; rfl
  · rintro s rfl
    refine Ev.step (f := fun _ => some _) (fun k => ?_) (Ev.now _)
    simp only [spec_RankOfWord.l0]; rw [if_neg (by omega)]
theorem irank_ev (a : Int) (l : List Int) (hn : l.length ≤ 140737488351232) : Ev (fun k => impl_RankOfWord.l0 k a 0 l (l.length : Int) 0) (rankTo a l l.length, 0) := by
  refine iter (F := fun k (s : Int × Int) => impl_RankOfWord.l0 k a s.1 l (l.length : Int) s.2) (fun i s => s = (rankTo a l i, (i : Int))) _ l.length ?_ ?_ 0 (0, 0) (by omega) rfl
  · rintro i s hi rfl
    refine .inl ⟨_, rfl, Ev.step fun k => ?_⟩
    simp only [impl_RankOfWord.l0]
    rw [if_pos (by omega), if_pos (by omega), if_pos (by omega), w64 (x := (i : Int) + 1) (by omega) (by omega)]; rfl
  · rintro s rfl
    refine Ev.step (f := fun _ => some _) (fun k => ?_) (Ev.now _)
    simp only [impl_RankOfWord.l0]; rw [if_neg (by omega)]
theorem rank_both (a : Int) (l : List Int) (hb : Bytes l) (hn : l.length ≤ 140737488351232) : ∃ r, Ev (fun k => spec_RankOfWord.f k a l) r ∧ Ev (fun k => impl_RankOfWord.f k a l) r := by
  unfold spec_RankOfWord.f impl_RankOfWord.f
  rw [in_ev, within_ev]
  by_cases ha : 2 ≤ a ∧ a ≤ 37
  · rw [decide_eq_true ha, isWord_ev l hb a, letters_both a l ha.2]
    cases h1 : wordOk l with
    | false =>
      refine ⟨(0, 1), bindc rfl (pos rfl (Ev.bind (h1 ▸ l05Word_ev l hn) (neg (by decide) ?_))), bindc rfl (pos rfl (bindc rfl (neg (by simp) (cons rfl))))⟩
      refine Ev.step (fun k => by rw [spec_RankOfWord.j0]) ?_
      exact pos rfl (cons rfl)
    | true =>
      cases h2 : l.all (fun x => decide (x < a)) with
      | false =>
        refine ⟨(0, 1), bindc rfl (pos rfl (Ev.bind (h1 ▸ l05Word_ev l hn) (pos rfl (Ev.bind (h2 ▸ l05Below_ev a l hb hn) ?_)))), bindc rfl (pos rfl (bindc rfl (neg (by simp) (cons rfl))))⟩
        refine Ev.step (fun k => by rw [spec_RankOfWord.j0]) ?_
        exact pos rfl (cons rfl)
      | true =>
        refine ⟨_, bindc rfl (pos rfl (Ev.bind (h1 ▸ l05Word_ev l hn) (pos rfl (Ev.bind (h2 ▸ l05Below_ev a l hb hn) ?_)))), bindc rfl (pos rfl (bindc rfl (pos rfl (irank_ev a l hn))))⟩
        refine Ev.step (fun k => by rw [spec_RankOfWord.j0]) ?_
        exact neg (by decide) (srank_ev a l hn)
  · rw [decide_eq_false ha]
    exact ⟨(0, 2), bindc rfl (neg (by decide) (cons rfl)), bindc rfl (neg (by decide) (cons rfl))⟩
theorem FnExactRankOfWord : laws_FnExactRankOfWord.Pure := by
  intro a l _ _ hn hw
  apply Ev.rounds
  unfold laws_FnExactRankOfWord.f
  by_cases c1 : (l.length : Int) > 1048576
  · exact pos c1 (cons rfl)
  obtain ⟨r, hs, hi⟩ := rank_both a l (Bytes.of hw) (by omega)
  have t1 := toWord_ev l (by omega)
  refine neg c1 (Ev.bind t1 (Ev.bind hs (Ev.bind t1 (Ev.bind hi (pos rfl ?_)))))
  refine Ev.step (fun k => by rw [laws_FnExactRankOfWord.j0]) ?_
  exact (neg (by simp) (Ev.bind t1 (Ev.bind (eqWord_refl l (by omega)) (pos rfl (cons rfl)))))
end Go.Proofs.Ytpidpljngppmiaa.Pure
