/- What the laws' own functions on words (equality, marks, what is held) answer, for words of every length that can be read. No condition beyond these lengths. -/
import Derived.Test.YtnpcjighcdmphaaU
import Derived.Test.YtnpcjighcdmphaaPGx3
namespace Go.Proofs.Ytnpcjighcdmphaa.G
open Go.RowKit Go.Proofs.YtnpcjighcdmphaaW.PrintWords Go.Proofs.YtnpcjighcdmphaaW.PrintLast Go.Proofs.Ytnpcjighcdmphaa.U
set_option linter.unusedVariables false
set_option linter.unusedSimpArgs false

theorem eqWord_l0 (l l' : List Int) (hl : l.length = l'.length) (hn : l.length ≤ 9223372036854775806) : ∀ (d i : Nat), i + d = l.length → (∀ j, j < i → l[j]? = l'[j]?) →
    Ev (fun k => laws_eqWord.l0 k l l' (i : Int)) (decide (l = l')) := by
  intro d
  induction d with
  | zero =>
    intro i hi hp
    refine Ev.step (f := fun _ => some true) (fun k => by simp only [laws_eqWord.l0]; rw [if_neg (by omega)]) (cons ?_)
    symm; apply decide_eq_true
    apply List.ext_getElem? 
    intro j
    rcases Nat.lt_or_ge j i with h | h
    · exact hp j h
    · rw [List.getElem?_eq_none (by omega), List.getElem?_eq_none (by omega)]
  | succ d ih =>
    intro i hi hp
    by_cases he : rd l i = rd l' i
    · refine Ev.step (f := fun k => laws_eqWord.l0 k l l' ((i + 1 : Nat) : Int)) (fun k => ?_) (ih (i + 1) (by omega) ?_)
      · simp only [laws_eqWord.l0]; rw [if_pos (by omega), if_pos (by omega), if_pos (by omega), if_pos he, w64 (by omega) (by omega)]; rfl
      · intro j hj
        rcases Nat.lt_or_ge j i with h | h
        · exact hp j h
        · obtain rfl : j = i := by omega
          rw [rd_get l j (by omega), rd_get l' j (by omega)] at he
          rw [List.getElem?_eq_getElem (by omega), List.getElem?_eq_getElem (by omega), he]
    · refine Ev.step (f := fun _ => some false) (fun k => ?_) (cons ?_)
      · simp only [laws_eqWord.l0]; rw [if_pos (by omega), if_pos (by omega), if_pos (by omega), if_neg he]
      · symm; apply decide_eq_false
        intro e; exact he (by rw [e])

theorem eqWord_ev (l l' : List Int) (hn : l.length ≤ 9223372036854775806) : Ev (fun k => laws_eqWord.f k l l') (decide (l = l')) := by
  unfold laws_eqWord.f
  by_cases h : (l.length : Int) = (l'.length : Int)
  · exact pos h (eqWord_l0 l l' (by omega) hn l.length 0 (by omega) (fun j hj => by omega))
  · refine neg h (cons ?_)
    symm; apply decide_eq_false
    intro e; exact h (by rw [e])
theorem eqWord_refl (l : List Int) (hn : l.length ≤ 9223372036854775806) : Ev (fun k => laws_eqWord.f k l l) true := by
  have := eqWord_ev l l hn; simpa using this

end Go.Proofs.Ytnpcjighcdmphaa.G
