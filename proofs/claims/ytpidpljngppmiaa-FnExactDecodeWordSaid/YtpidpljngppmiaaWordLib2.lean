/- What the reference's and the program's small functions on words answer, for words of every length that can be read. No condition beyond these lengths. -/
import Derived.Test.YtpidpljngppmiaaWordLib
import Derived.Test.YtpidpljngppmiaaPLx1
import Derived.Test.YtpidpljngppmiaaPLx3
namespace Go.Proofs.Ytpidpljngppmiaa.L
open Go.RowKit Go.Proofs.YtpidpljngppmiaaW.PrintWords Go.Proofs.YtpidpljngppmiaaW.PrintLast Go.Proofs.Ytpidpljngppmiaa.U
set_option linter.unusedVariables false
set_option linter.unusedSimpArgs false

theorem in_ev (a b c : Int) : spec_l00In.f a b c = some (decide (b ≤ a ∧ a ≤ c)) := by
  unfold spec_l00In.f
  by_cases h : b ≤ a
  · rw [if_pos h]; simp [h]
  · rw [if_neg h, decide_eq_false (fun e => h e.1)]
theorem within_ev (a b c : Int) : impl_within.f a b c = some (decide (b ≤ a ∧ a ≤ c)) := by
  unfold impl_within.f
  by_cases h : b ≤ a
  · rw [if_pos h]; simp [h]
  · rw [if_neg h, decide_eq_false (fun e => h e.1)]
theorem unless_ev (b : Bool) (a : Int) : impl_unless.f b a = some (if b = true then 0 else a) := by
  unfold impl_unless.f; cases b <;> rfl

theorem toWord_ev (l : List Int) (hn : l.length ≤ 140737488351232) : Ev (fun k => laws_toWord.f k l) l := by
  unfold laws_toWord.f
  refine pos (by omega) (pos (by omega) ?_)
  rw [Int.toNat_natCast]
  refine iter (F := fun k (s : List Int × Int) => laws_toWord.l0 k l s.1 s.2) (fun i s => s.2 = (i : Int) ∧ s.1.length = l.length ∧ ∀ j, j < i → s.1[j]? = l[j]?) l l.length ?_ ?_ 0 (List.replicate l.length 0, 0) (by omega) ⟨rfl, by simp, fun j hj => by omega⟩
  · rintro i ⟨s, x⟩ hi ⟨rfl, hl, hp⟩
    dsimp only at hl hp
    refine .inl ⟨(s.set i (rd l (i : Int)), ((i + 1 : Nat) : Int)), ⟨rfl, by simpa using hl, fun j hj => ?_⟩, Ev.step fun k => ?_⟩
    · dsimp only
      by_cases e : j = i
      · subst e; rw [List.getElem?_set_self (by omega), rd_get l j hi, List.getElem?_eq_getElem hi]
      · rw [List.getElem?_set_ne (by omega)]; exact hp j (by omega)
    · simp only [laws_toWord.l0]
      rw [if_pos (by omega), if_pos (by omega), if_pos (by omega), w64 (by omega) (by omega), Int.toNat_natCast]; rfl
  · rintro ⟨s, x⟩ ⟨rfl, hl, hp⟩
    dsimp only at hl hp
    refine Ev.step (f := fun _ => some s) (fun k => ?_) (cons (toList hl rfl hp))
    simp only [laws_toWord.l0]; rw [if_neg (by omega)]

/-- Is a word valid? -/
def wordOk (l : List Int) : Bool := l.all (fun x => decide (x < 37)) && decide (1 ≤ (l.length : Int) ∧ (l.length : Int) ≤ 8)
theorem all_rd (p : Int → Bool) (l : List Int) : l.all p = true ↔ ∀ i : Nat, i < l.length → p (rd l (i : Int)) = true := by
  rw [List.all_eq_true]
  constructor
  · intro h i hi; rw [rd_get l i hi]; exact h _ (List.getElem_mem hi)
  · intro h x hx
    obtain ⟨j, hj, rfl⟩ := List.getElem_of_mem hx
    rw [← rd_get l j hj]; exact h j hj
theorem all_false (p : Int → Bool) (l : List Int) (i : Nat) (hi : i < l.length) (h : p (rd l (i : Int)) = false) : l.all p = false := by
  cases e : l.all p with
  | false => rfl
  | true => rw [all_rd] at e; rw [e i hi] at h; cases h

theorem l05Word_ev (l : List Int) (hn : l.length ≤ 140737488351232) : Ev (fun k => spec_l05Word.f k l) (wordOk l) := by
  unfold spec_l05Word.f
  refine iter (F := fun k (s : Int) => spec_l05Word.l0 k l s) (fun i s => s = (i : Int) ∧ ∀ j : Nat, j < i → decide (rd l (j : Int) < 37) = true) (wordOk l) l.length ?_ ?_ 0 0 (by omega) ⟨rfl, fun j hj => by omega⟩
  · rintro i s hi ⟨rfl, hp⟩
    by_cases hc : rd l (i : Int) ≥ 37
    · refine .inr (Ev.step (f := fun _ => some false) (fun k => ?_) (cons ?_))
      · simp only [spec_l05Word.l0]; rw [if_pos (by omega), if_pos (by omega), if_pos hc]
      · unfold wordOk; rw [all_false _ l i hi (decide_eq_false (by omega))]; rfl
    · refine .inl ⟨((i + 1 : Nat) : Int), ⟨rfl, fun j hj => ?_⟩, Ev.step fun k => ?_⟩
      · rcases Nat.lt_or_ge j i with h | h
        · exact hp j h
        · obtain rfl : j = i := by omega
          exact decide_eq_true (by omega)
      · simp only [spec_l05Word.l0]; rw [if_pos (by omega), if_pos (by omega), if_neg hc, w64 (by omega) (by omega)]; rfl
  · rintro s ⟨rfl, hp⟩
    refine Ev.step (f := fun _ => some (wordOk l)) (fun k => ?_) (Ev.now _)
    simp only [spec_l05Word.l0]; rw [if_neg (by omega), in_ev]
    simp only [Option.bind_some]
    unfold wordOk; rw [(all_rd (fun x => decide (x < 37)) l).2 hp]; rfl

theorem letters_eq (l : List Int) (hb : Bytes l) (a : Int) : wordLetters l a = l.all (fun x => decide (x < mn a 37)) := by
  unfold wordLetters
  rw [List.not_any_eq_all_not]
  apply Bool.eq_iff_iff.2
  rw [List.all_eq_true, List.all_eq_true]
  constructor <;> intro h x hx <;> have hx2 := hb x hx <;> have := h x hx <;> rw [w64 (by omega) (by omega)] at * <;> simp at * <;> omega
theorem isWord_ev (l : List Int) (hb : Bytes l) (a : Int) : impl_Word_isWord.f l a = some (l.all (fun x => decide (x < mn a 37)) && decide (1 ≤ (l.length : Int) ∧ (l.length : Int) ≤ 8)) := by
  unfold impl_Word_isWord.f
  rw [letters_eq l hb a]
  by_cases h1 : 1 ≤ (l.length : Int) <;> by_cases h2 : (l.length : Int) ≤ 8 <;> simp [h1, h2]
theorem isWord_37 (l : List Int) (hb : Bytes l) : impl_Word_isWord.f l 37 = some (wordOk l) := isWord_ev l hb 37

theorem l05Apart_ev (l l' : List Int) (hl : l.length = l'.length) (hn : l.length ≤ 140737488351232) : Ev (fun k => spec_l05Apart.f k l l') (apartTo l l' l.length) := by
  unfold spec_l05Apart.f
  refine iter (F := fun k (s : Int × Int) => spec_l05Apart.l0 k l l' s.1 s.2) (fun i s => s = (apartTo l l' i, (i : Int))) (apartTo l l' l.length) l.length ?_ ?_ 0 (0, 0) (by omega) rfl
  · rintro i s hi rfl
    have hb := apartTo_le l l' i
    refine .inl ⟨_, rfl, Ev.step fun k => ?_⟩
    simp only [spec_l05Apart.l0]
    rw [if_pos (by omega), if_pos (by omega), if_pos (by omega)]
    by_cases hc : rd l (i : Int) = rd l' (i : Int)
    · rw [if_pos hc, w64 (by omega) (by omega)]; simp only [apartTo, if_pos hc]; rw [show apartTo l l' i + 0 = apartTo l l' i by omega]; rfl
    · rw [if_neg hc, w64 (by omega) (by omega), w64 (by omega) (by omega)]; simp only [apartTo, if_neg hc]; rfl
  · rintro s rfl
    refine Ev.step (f := fun _ => some _) (fun k => ?_) (Ev.now _)
    simp only [spec_l05Apart.l0]; rw [if_neg (by omega)]
theorem unlike_ev (l l' : List Int) (hl : l.length = l'.length) (hn : l.length ≤ 140737488351232) : Ev (fun k => impl_unlike.f k l l') (apartTo l l' l.length) := by
  unfold impl_unlike.f
  refine iter (F := fun k (s : Int × Int) => impl_unlike.l0 k l' s.1 l (l.length : Int) s.2) (fun i s => s = (apartTo l l' i, (i : Int))) (apartTo l l' l.length) l.length ?_ ?_ 0 (0, 0) (by omega) rfl
  · rintro i s hi rfl
    have hb := apartTo_le l l' i
    refine .inl ⟨_, rfl, Ev.step fun k => ?_⟩
    simp only [impl_unlike.l0]
    rw [if_pos (by omega), if_pos (by omega), if_pos (by omega), if_pos (by omega)]
    by_cases hc : rd l (i : Int) = rd l' (i : Int)
    · rw [if_pos hc.symm, w64 (by omega) (by omega)]; simp only [apartTo, if_pos hc]; rw [show apartTo l l' i + 0 = apartTo l l' i by omega]; rfl
    · rw [if_neg (fun e => hc e.symm), w64 (by omega) (by omega), w64 (by omega) (by omega)]; simp only [apartTo, if_neg hc]; rfl
  · rintro s rfl
    refine Ev.step (f := fun _ => some _) (fun k => ?_) (Ev.now _)
    simp only [impl_unlike.l0]; rw [if_neg (by omega)]

end Go.Proofs.Ytpidpljngppmiaa.L
