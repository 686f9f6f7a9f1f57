/- Lists of words: how they are counted, copied, compared; which are valid. No condition beyond lengths that can be read. -/
import Derived.Test.YtodgnbcfihifiaaWordLib
import Derived.Test.YtodgnbcfihifiaaPWx1
import Derived.Test.YtodgnbcfihifiaaPWx2
namespace Go.Proofs.Ytodgnbcfihifiaa.W
open Go.RowKit Go.Proofs.YtodgnbcfihifiaaW.PrintWords Go.Proofs.YtodgnbcfihifiaaW.PrintLast Go.Proofs.Ytodgnbcfihifiaa.U
set_option linter.unusedVariables false
set_option linter.unusedSimpArgs false
theorem in_ev (a b c : Int) : spec_l00In.f a b c = some (decide (b ≤ a ∧ a ≤ c)) := by
  unfold spec_l00In.f
  by_cases h : b ≤ a
  · rw [if_pos h]; simp [h]
  · rw [if_neg h, decide_eq_false (fun e => h e.1)]
theorem within_ev (a b c : Int) : impl_within.f a b c = some (decide (b ≤ a ∧ a ≤ c)) := by
  unfold impl_within.f
  by_cases h : b ≤ a
  · rw [if_pos h]; simp [h]
  · rw [if_neg h, decide_eq_false (fun e => h e.1)]
theorem unless_ev (b : Bool) (a : Int) : impl_unless.f b a = some (if b = true then 0 else a) := by
  unfold impl_unless.f; cases b <;> rfl

theorem toWord_ev (l : List Int) (hn : l.length ≤ 140737488351232) : Ev (fun k => laws_toWord.f k l) l := by
  unfold laws_toWord.f
  refine pos (by omega) (pos (by omega) ?_)
  rw [Int.toNat_natCast]
  refine iter (F := fun k (s : List Int × Int) => laws_toWord.l0 k l s.1 s.2) (fun i s => s.2 = (i : Int) ∧ s.1.length = l.length ∧ ∀ j, j < i → s.1[j]? = l[j]?) l l.length ?_ ?_ 0 (List.replicate l.length 0, 0) (by omega) ⟨rfl, by simp, fun j hj => by omega⟩
  · rintro i ⟨s, x⟩ hi ⟨rfl, hl, hp⟩
    dsimp only at hl hp
    refine .inl ⟨(s.set i (rd l (i : Int)), ((i + 1 : Nat) : Int)), ⟨rfl, by simpa using hl, fun j hj => ?_⟩, Ev.step fun k => ?_⟩
    · dsimp only
      by_cases e : j = i
      · subst e; rw [List.getElem?_set_self (by omega), rd_get l j hi, List.getElem?_eq_getElem hi]
      · rw [List.getElem?_set_ne (by omega)]; exact hp j (by omega)
    · simp only [laws_toWord.l0]
      rw [if_pos (by omega), if_pos (by omega), if_pos (by omega), w64 (by omega) (by omega), Int.toNat_natCast]; rfl
  · rintro ⟨s, x⟩ ⟨rfl, hl, hp⟩
    dsimp only at hl hp
    refine Ev.step (f := fun _ => some s) (fun k => ?_) (cons (toList hl rfl hp))
    simp only [laws_toWord.l0]; rw [if_neg (by omega)]

def wordOk (l : List Int) : Bool := l.all (fun x => decide (x < 37)) && decide (1 ≤ (l.length : Int) ∧ (l.length : Int) ≤ 8)
theorem all_rd (p : Int → Bool) (l : List Int) : l.all p = true ↔ ∀ i : Nat, i < l.length → p (rd l (i : Int)) = true := by
  rw [List.all_eq_true]
  constructor
  · intro h i hi; rw [rd_get l i hi]; exact h _ (List.getElem_mem hi)
  · intro h x hx
    obtain ⟨j, hj, rfl⟩ := List.getElem_of_mem hx
    rw [← rd_get l j hj]; exact h j hj
theorem all_false (p : Int → Bool) (l : List Int) (i : Nat) (hi : i < l.length) (h : p (rd l (i : Int)) = false) : l.all p = false := by
  cases e : l.all p with
  | false => rfl
  | true => rw [all_rd] at e; rw [e i hi] at h; cases h

theorem l05Word_ev (l : List Int) (hn : l.length ≤ 140737488351232) : Ev (fun k => spec_l05Word.f k l) (wordOk l) := by
  unfold spec_l05Word.f
  refine iter (F := fun k (s : Int) => spec_l05Word.l0 k l s) (fun i s => s = (i : Int) ∧ ∀ j : Nat, j < i → decide (rd l (j : Int) < 37) = true) (wordOk l) l.length ?_ ?_ 0 0 (by omega) ⟨rfl, fun j hj => by omega⟩
  · rintro i s hi ⟨rfl, hp⟩
    by_cases hc : rd l (i : Int) ≥ 37
    · refine .inr (Ev.step (f := fun _ => some false) (fun k => ?_) (cons ?_))
      · simp only [spec_l05Word.l0]; rw [if_pos (by omega), if_pos (by omega), if_pos hc]
      · unfold wordOk; rw [all_false _ l i hi (decide_eq_false (by omega))]; rfl
    · refine .inl ⟨((i + 1 : Nat) : Int), ⟨rfl, fun j hj => ?_⟩, Ev.step fun k => ?_⟩
      · rcases Nat.lt_or_ge j i with h | h
        · exact hp j h
        · obtain rfl : j = i := by omega
          exact decide_eq_true (by omega)
      · simp only [spec_l05Word.l0]; rw [if_pos (by omega), if_pos (by omega), if_neg hc, w64 (by omega) (by omega)]; rfl
  · rintro s ⟨rfl, hp⟩
    refine Ev.step (f := fun _ => some (wordOk l)) (fun k => ?_) (Ev.now _)
    simp only [spec_l05Word.l0]; rw [if_neg (by omega), in_ev]
    simp only [Option.bind_some]
    unfold wordOk; rw [(all_rd (fun x => decide (x < 37)) l).2 hp]; rfl

theorem letters_eq (l : List Int) (hb : Bytes l) (a : Int) : wordLetters l a = l.all (fun x => decide (x < mn a 37)) := by
  unfold wordLetters
  rw [List.not_any_eq_all_not]
  apply Bool.eq_iff_iff.2
  rw [List.all_eq_true, List.all_eq_true]
  constructor <;> intro h x hx <;> have hx2 := hb x hx <;> have := h x hx <;> rw [w64 (by omega) (by omega)] at * <;> simp at * <;> omega
theorem isWord_ev (l : List Int) (hb : Bytes l) (a : Int) : impl_Word_isWord.f l a = some (l.all (fun x => decide (x < mn a 37)) && decide (1 ≤ (l.length : Int) ∧ (l.length : Int) ≤ 8)) := by
  unfold impl_Word_isWord.f
  rw [letters_eq l hb a]
  by_cases h1 : 1 ≤ (l.length : Int) <;> by_cases h2 : (l.length : Int) ≤ 8 <;> simp [h1, h2]
theorem isWord_37 (l : List Int) (hb : Bytes l) : impl_Word_isWord.f l 37 = some (wordOk l) := isWord_ev l hb 37

theorem rdS_get (xs : List (List Int)) (i : Nat) (h : i < xs.length) : rd_L1 xs (i : Int) = xs[i] := by
  simp [rd_L1, List.getElem?_eq_getElem h]
theorem toListS {l l' : List (List Int)} {n : Nat} (h1 : l.length = n) (h2 : l'.length = n) (h : ∀ j, j < n → l[j]? = l'[j]?) : l = l' := by
  apply List.ext_getElem?
  intro j
  rcases Nat.lt_or_ge j n with hj | hj
  · exact h j hj
  · rw [List.getElem?_eq_none (by omega), List.getElem?_eq_none (by omega)]

theorem szWord_ev (l : List Int) (a : Int) (ha : 0 ≤ a ∧ a ≤ 1048576) (hl : l.length ≤ maxLen) : laws_szWord.f l a = some (if a < (l.length : Int) then -1 else a - l.length) := by
  unfold laws_szWord.f
  unfold maxLen at hl
  rw [w64 (by omega) (by omega)]
  by_cases h : a < (l.length : Int)
  · rw [if_pos (by omega), if_pos h]
  · rw [if_neg (by omega), if_neg h]
/-- What is left of a bound; -1 where it does not suffice. -/
theorem szWordS_ev (l : List (List Int)) (a : Int) (ha : 0 ≤ a ∧ a ≤ 1048576) (hl : l.length ≤ maxLen) (hls : ∀ x ∈ l, x.length ≤ maxLen) :
    ∃ r, Ev (fun k => laws_szWordS.f k l a) r ∧ r ≤ a ∧ (0 ≤ r → (l.length : Int) ≤ a ∧ ∀ x ∈ l, (x.length : Int) ≤ a) := by
  unfold laws_szWordS.f
  have hl2 := hl
  unfold maxLen at hl2
  rw [w64 (x := a - (l.length : Int)) (by omega) (by omega)]
  by_cases h : a - (l.length : Int) < 0
  · exact ⟨-1, pos h (cons rfl), by omega, fun h => by omega⟩
  have key : ∀ (d i : Nat) (b : Int), i + d = l.length → 0 ≤ b → b ≤ a → (∀ j : Nat, j < i → ((rd_L1 l (j : Int)).length : Int) ≤ a) →
      ∃ r, Ev (fun k => laws_szWordS.l0 k l b (i : Int)) r ∧ r ≤ a ∧ (0 ≤ r → ∀ j : Nat, j < l.length → ((rd_L1 l (j : Int)).length : Int) ≤ a) := by
    intro d
    induction d with
    | zero =>
      intro i b hi hb0 hb1 hp
      refine ⟨b, ?_, hb1, fun _ j hj => hp j (by omega)⟩
      refine Ev.step (fun k => by rw [laws_szWordS.l0]) ?_
      exact neg (by omega) (Ev.now _)
    | succ d ih =>
      intro i b hi hb0 hb1 hp
      have hm : (rd_L1 l (i : Int)).length ≤ maxLen := by rw [rdS_get l i (by omega)]; exact hls _ (List.getElem_mem _)
      have hs := szWord_ev (rd_L1 l (i : Int)) b ⟨hb0, by omega⟩ hm
      by_cases hc : b < ((rd_L1 l (i : Int)).length : Int)
      · rw [if_pos hc] at hs
        refine ⟨-1, ?_, by omega, fun h => by omega⟩
        refine Ev.step (fun k => by rw [laws_szWordS.l0]) ?_
        exact pos (by omega) (pos (by omega) (bindc hs (pos (by omega) (cons rfl))))
      · rw [if_neg hc] at hs
        obtain ⟨r, hr, h1, h2⟩ := ih (i + 1) (b - ((rd_L1 l (i : Int)).length : Int)) (by omega) (by omega) (by omega) (fun j hj => by
          rcases Nat.lt_or_ge j i with h | h
          · exact hp j h
          · obtain rfl : j = i := by omega
            omega)
        refine ⟨r, ?_, h1, h2⟩
        refine Ev.step (fun k => by rw [laws_szWordS.l0]) ?_
        refine pos (by omega) (pos (by omega) (bindc hs (neg (by omega) ?_)))
        rw [w64 (x := (i : Int) + 1) (by omega) (by omega)]; exact hr
  obtain ⟨r, hr, h1, h2⟩ := key l.length 0 (a - (l.length : Int)) (by omega) (by omega) (by omega) (fun j hj => by omega)
  refine ⟨r, neg h hr, h1, fun h0 => ⟨by omega, fun x hx => ?_⟩⟩
  obtain ⟨j, hj, rfl⟩ := List.getElem_of_mem hx
  have := h2 h0 j hj
  rwa [rdS_get l j hj] at this

theorem toWordS_ev (l : List (List Int)) (hn : l.length ≤ 1048576) (hls : ∀ x ∈ l, x.length ≤ 1048576) : Ev (fun k => laws_toWordS.f k l) l := by
  unfold laws_toWordS.f
  refine pos (by omega) (pos (by omega) ?_)
  rw [Int.toNat_natCast]
  refine iter (F := fun k (s : List (List Int) × Int) => laws_toWordS.l0 k l s.1 s.2) (fun i s => s.2 = (i : Int) ∧ s.1.length = l.length ∧ ∀ j, j < i → s.1[j]? = l[j]?) l l.length ?_ ?_ 0 (List.replicate l.length [], 0) (by omega) ⟨rfl, by simp, fun j hj => by omega⟩
  · rintro i ⟨s, x⟩ hi ⟨rfl, hl, hp⟩
    dsimp only at hl hp
    refine .inl ⟨(s.set i (rd_L1 l (i : Int)), ((i + 1 : Nat) : Int)), ⟨rfl, by simpa using hl, fun j hj => ?_⟩, fun hk => ?_⟩
    · dsimp only
      by_cases e : j = i
      · subst e; rw [List.getElem?_set_self (by omega), rdS_get l j hi, List.getElem?_eq_getElem hi]
      · rw [List.getElem?_set_ne (by omega)]; exact hp j (by omega)
    · refine Ev.step (fun k => by rw [laws_toWordS.l0]) ?_
      dsimp only
      have hm : (rd_L1 l (i : Int)).length ≤ 1048576 := by rw [rdS_get l i hi]; exact hls _ (List.getElem_mem _)
      refine pos (by omega) (pos (by omega) (Ev.bind (toWord_ev _ (by omega)) (pos (by omega) ?_)))
      rw [w64 (by omega) (by omega), Int.toNat_natCast]; exact hk
  · rintro ⟨s, x⟩ ⟨rfl, hl, hp⟩
    dsimp only at hl hp
    refine Ev.step (fun k => by rw [laws_toWordS.l0]) ?_
    exact neg (by omega) (cons (toListS hl rfl hp))

theorem eqWordS_ev (l l' : List (List Int)) (hn : l.length ≤ 1048576) (hls : ∀ x ∈ l, x.length ≤ 1048576) : Ev (fun k => laws_eqWordS.f k l l') (decide (l = l')) := by
  unfold laws_eqWordS.f
  by_cases h : (l.length : Int) = (l'.length : Int)
  · refine pos h ?_
    refine iter (F := fun k (s : Int) => laws_eqWordS.l0 k l l' s) (fun i s => s = (i : Int) ∧ ∀ j, j < i → l[j]? = l'[j]?) _ l.length ?_ ?_ 0 0 (by omega) ⟨rfl, fun j hj => by omega⟩
    · rintro i s hi ⟨rfl, hp⟩
      have hm : (rd_L1 l (i : Int)).length ≤ 1048576 := by rw [rdS_get l i hi]; exact hls _ (List.getElem_mem _)
      have he := eqWord_ev (rd_L1 l (i : Int)) (rd_L1 l' (i : Int)) (by omega)
      by_cases hc : rd_L1 l (i : Int) = rd_L1 l' (i : Int)
      · rw [decide_eq_true hc] at he
        refine .inl ⟨((i + 1 : Nat) : Int), ⟨rfl, fun j hj => ?_⟩, fun hk => ?_⟩
        · rcases Nat.lt_or_ge j i with h | h
          · exact hp j h
          · obtain rfl : j = i := by omega
            rw [rdS_get l j hi, rdS_get l' j (by omega)] at hc
            rw [List.getElem?_eq_getElem hi, List.getElem?_eq_getElem (by omega), hc]
        · refine Ev.step (fun k => by rw [laws_eqWordS.l0]) ?_
          refine pos (by omega) (pos (by omega) (pos (by omega) (Ev.bind he (pos rfl ?_))))
          rw [w64 (by omega) (by omega)]; exact hk
      · rw [decide_eq_false hc] at he
        refine .inr ?_
        refine Ev.step (fun k => by rw [laws_eqWordS.l0]) ?_
        refine pos (by omega) (pos (by omega) (pos (by omega) (Ev.bind he (neg (by decide) (cons ?_)))))
        symm; apply decide_eq_false
        intro e; exact hc (by rw [e])
    · rintro s ⟨rfl, hp⟩
      refine Ev.step (fun k => by rw [laws_eqWordS.l0]) ?_
      refine neg (by omega) (cons ?_)
      exact (decide_eq_true (toListS rfl (by omega) hp)).symm
  · refine neg h (cons ?_)
    symm; apply decide_eq_false
    intro e; exact h (by rw [e])
theorem eqWordS_refl (l : List (List Int)) (hn : l.length ≤ 1048576) (hls : ∀ x ∈ l, x.length ≤ 1048576) : Ev (fun k => laws_eqWordS.f k l l) true := by
  have := eqWordS_ev l l hn hls; simpa using this


theorem isWB_ok (x : List Int) (hb : Bytes x) : isWB x 37 = wordOk x := by
  have h1 := isWB_f x 37
  rw [isWord_37 x hb] at h1
  exact (Option.some.inj h1).symm
theorem bad_ok (l : List (List Int)) (x : List Int) (hb : Bytes x) : badW l 37 x = (!wordOk x || decide ((x.length : Int) ≠ ((rd_L1 l 0).length : Int))) := by
  unfold badW; rw [isWB_ok x hb]
theorem l05Words_ev (l : List (List Int)) (hn : l.length ≤ 1048576) (hls : ∀ x ∈ l, x.length ≤ 1048576) (hb : ∀ x ∈ l, Bytes x) : Ev (fun k => spec_l05Words.f k l) (areW l 37) := by
  unfold spec_l05Words.f
  have hat : ∀ i : Nat, i < l.length → rd_L1 l (i : Int) ∈ l := fun i hi => by rw [rdS_get l i hi]; exact List.getElem_mem hi
  refine iter (F := fun k (s : Int) => spec_l05Words.l0 k l s) (fun i s => s = (i : Int) ∧ ∀ j : Nat, j < i → badW l 37 (rd_L1 l (j : Int)) = false) (areW l 37) l.length ?_ ?_ 0 0 (by omega) ⟨rfl, fun j hj => by omega⟩
  · rintro i s hi ⟨rfl, hp⟩
    have hx := hat i hi
    have hw := l05Word_ev (rd_L1 l (i : Int)) (by have := hls _ hx; omega)
    have hk := bad_ok l _ (hb _ hx)
    have hany : badW l 37 (rd_L1 l (i : Int)) = true → areW l 37 = false := fun h => by
      unfold areW
      rw [List.any_eq_true.2 ⟨_, hx, h⟩]; rfl
    cases h1 : wordOk (rd_L1 l (i : Int)) with
    | false =>
      refine .inr ?_
      rw [hany (by rw [hk, h1]; rfl)]
      refine Ev.step (fun k => by rw [spec_l05Words.l0]) ?_
      exact pos (by omega) (pos (by omega) (Ev.bind (h1 ▸ hw) (neg (by decide) (cons rfl))))
    | true =>
      by_cases he : ((rd_L1 l (i : Int)).length : Int) = ((rd_L1 l 0).length : Int)
      · refine .inl ⟨((i + 1 : Nat) : Int), ⟨rfl, fun j hj => ?_⟩, fun hgo => ?_⟩
        · rcases Nat.lt_or_ge j i with h | h
          · exact hp j h
          · obtain rfl : j = i := by omega
            rw [hk, h1, decide_eq_false (fun h => h he)]; rfl
        · refine Ev.step (fun k => by rw [spec_l05Words.l0]) ?_
          refine pos (by omega) (pos (by omega) (Ev.bind (h1 ▸ hw) (pos rfl (pos (by omega) (pos he ?_)))))
          rw [w64 (by omega) (by omega)]; exact hgo
      · refine .inr ?_
        rw [hany (by rw [hk, h1, decide_eq_true he]; rfl)]
        refine Ev.step (fun k => by rw [spec_l05Words.l0]) ?_
        exact pos (by omega) (pos (by omega) (Ev.bind (h1 ▸ hw) (pos rfl (pos (by omega) (neg he (cons rfl))))))
  · rintro s ⟨rfl, hp⟩
    have : areW l 37 = true := by
      unfold areW
      rw [List.any_eq_false.2 fun x hx => ?_]
      · rfl
      · obtain ⟨j, hj, rfl⟩ := List.getElem_of_mem hx
        have := hp j hj
        rw [rdS_get l j hj] at this
        simp [this]
    rw [this]
    refine Ev.step (f := fun _ => some true) (fun k => ?_) (cons rfl)
    rw [spec_l05Words.l0, if_neg (by omega)]
theorem listW {l : List (List Int)} (hw : WfL (WfL (WfI .u8)) l) : ∀ x ∈ l, Bytes x := fun x hx => Bytes.of (hw.2 x hx).2
end Go.Proofs.Ytodgnbcfihifiaa.W
