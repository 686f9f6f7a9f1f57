/- What the laws' own functions on words (marks, what is held) answer. No condition beyond lengths. -/
import Derived.Test.YtnpcjighcdmphaaWordLib
import Derived.Test.YtnpcjighcdmphaaPGx3
namespace Go.Proofs.Ytnpcjighcdmphaa.G
open Go.RowKit Go.Proofs.YtnpcjighcdmphaaW.PrintWords Go.Proofs.YtnpcjighcdmphaaW.PrintLast Go.Proofs.Ytnpcjighcdmphaa.U
set_option linter.unusedVariables false
set_option linter.unusedSimpArgs false

/-- The bytes that a marker writes. -/
def marks (n : Nat) (a : Int) : List Int := (List.range n).map fun (j : Nat) => (a + (j : Int)) % 256
theorem marks_length (n : Nat) (a : Int) : (marks n a).length = n := by simp [marks]

theorem markWord_l0 (n : Nat) (a : Int) (ha : 0 ≤ a) (hb : a + n ≤ 9223372036854775806) : ∀ (d i : Nat) (x0 : List Int), i + d = n → x0.length = n → (∀ j, j < i → x0[j]? = (marks n a)[j]?) →
    Ev (fun k => laws_markWord.l0 k x0 (a + i) (i : Int)) (a + n, marks n a) := by
  intro d
  induction d with
  | zero =>
    intro i x0 hi hl hp
    obtain rfl : i = n := by omega
    refine Ev.step (f := fun _ => some (a + i, x0)) (fun k => by simp only [laws_markWord.l0]; rw [if_neg (by omega)]) (cons ?_)
    rw [show x0 = marks i a from List.ext_getElem? fun j => by
      rcases Nat.lt_or_ge j i with h | h
      · exact hp j h
      · rw [List.getElem?_eq_none (by omega), List.getElem?_eq_none (by rw [marks_length]; omega)]]
  | succ d ih =>
    intro i x0 hi hl hp
    refine Ev.step (f := fun k => laws_markWord.l0 k (x0.set i ((a + i) % 256)) (a + ((i + 1 : Nat) : Int)) ((i + 1 : Nat) : Int)) (fun k => ?_) (ih (i + 1) _ (by omega) (by simpa using hl) ?_)
    · simp only [laws_markWord.l0]; rw [if_pos (by omega), if_pos (by omega), w64 (by omega) (by omega), w64 (by omega) (by omega), show a + (i : Int) + 1 = a + ((i + 1 : Nat) : Int) by omega, show (i : Int) + 1 = ((i + 1 : Nat) : Int) by omega, Int.toNat_natCast]
    · intro j hj
      by_cases e : j = i
      · subst e
        rw [List.getElem?_set_self (by omega)]
        simp [marks, List.getElem?_map, List.getElem?_range (show j < n by omega)]
      · rw [List.getElem?_set_ne (by omega)]; exact hp j (by omega)
theorem markWord_ev (l : List Int) (a : Int) (ha : 0 ≤ a) (hb : a + l.length ≤ 9223372036854775806) : Ev (fun k => laws_markWord.f k l a) (a + l.length, marks l.length a) := by
  have := markWord_l0 l.length a ha hb l.length 0 l (by omega) rfl (fun j hj => by omega)
  simpa [laws_markWord.f] using this

theorem heldWord_l0 (n : Nat) (a : Int) (ha : 0 ≤ a) (hb : a + n ≤ 9223372036854775806) : ∀ (d i : Nat), i + d = n →
    Ev (fun k => laws_heldWord.l0 k (marks n a) (a + i) (i : Int)) (a + n) := by
  intro d
  induction d with
  | zero =>
    intro i hi
    obtain rfl : i = n := by omega
    exact Ev.step (f := fun _ => some (a + i)) (fun k => by simp only [laws_heldWord.l0]; rw [marks_length, if_neg (by omega)]) (cons rfl)
  | succ d ih =>
    intro i hi
    refine Ev.step (f := fun k => laws_heldWord.l0 k (marks n a) (a + ((i + 1 : Nat) : Int)) ((i + 1 : Nat) : Int)) (fun k => ?_) (ih (i + 1) (by omega))
    have hr : rd (marks n a) i = (a + i) % 256 := by
      rw [rd_get _ i (by rw [marks_length]; omega)]
      simp [marks]
    simp only [laws_heldWord.l0]; rw [marks_length, if_pos (by omega), if_pos (by omega), if_pos hr, w64 (by omega) (by omega), w64 (by omega) (by omega), show a + (i : Int) + 1 = a + ((i + 1 : Nat) : Int) by omega]; rfl
theorem heldWord_ev (n : Nat) (a : Int) (ha : 0 ≤ a) (hb : a + n ≤ 9223372036854775806) : Ev (fun k => laws_heldWord.f k (marks n a) a) (a + n) := by
  have := heldWord_l0 n a ha hb n 0 (by omega)
  simpa [laws_heldWord.f] using this
end Go.Proofs.Ytnpcjighcdmphaa.G
