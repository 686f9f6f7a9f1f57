/- What the laws' own functions on lists of words answer. No condition beyond lengths that can be read. -/
import Derived.Test.YtpidpljngppmiaaWordLib2
import Derived.Test.YtpidpljngppmiaaPLx1
import Derived.Test.YtpidpljngppmiaaPLx2
import Derived.Test.YtpidpljngppmiaaPLx3
namespace Go.Proofs.Ytpidpljngppmiaa.L
open Go.RowKit Go.Proofs.YtpidpljngppmiaaW.PrintWords Go.Proofs.YtpidpljngppmiaaW.PrintLast Go.Proofs.Ytpidpljngppmiaa.U
set_option linter.unusedVariables false
set_option linter.unusedSimpArgs false

theorem rdS_get (xs : List (List Int)) (i : Nat) (h : i < xs.length) : rd_L1 xs (i : Int) = xs[i] := by
  simp [rd_L1, List.getElem?_eq_getElem h]
theorem toListS {l l' : List (List Int)} {n : Nat} (h1 : l.length = n) (h2 : l'.length = n) (h : ∀ j, j < n → l[j]? = l'[j]?) : l = l' := by
  apply List.ext_getElem?
  intro j
  rcases Nat.lt_or_ge j n with hj | hj
  · exact h j hj
  · rw [List.getElem?_eq_none (by omega), List.getElem?_eq_none (by omega)]

theorem szWord_ev (l : List Int) (a : Int) (ha : 0 ≤ a ∧ a ≤ 1048576) (hl : l.length ≤ maxLen) : laws_szWord.f l a = some (if a < (l.length : Int) then -1 else a - l.length) := by
  unfold laws_szWord.f
  unfold maxLen at hl
  rw [w64 (by omega) (by omega)]
  by_cases h : a < (l.length : Int)
  · rw [if_pos (by omega), if_pos h]
  · rw [if_neg (by omega), if_neg h]
/-- What is left of a bound; -1 where it does not suffice. -/
theorem szWordS_ev (l : List (List Int)) (a : Int) (ha : 0 ≤ a ∧ a ≤ 1048576) (hl : l.length ≤ maxLen) (hls : ∀ x ∈ l, x.length ≤ maxLen) :
    ∃ r, Ev (fun k => laws_szWordS.f k l a) r ∧ r ≤ a ∧ (0 ≤ r → (l.length : Int) ≤ a ∧ ∀ x ∈ l, (x.length : Int) ≤ a) := by
  unfold laws_szWordS.f
  have hl2 := hl
  unfold maxLen at hl2
  rw [w64 (x := a - (l.length : Int)) (by omega) (by omega)]
  by_cases h : a - (l.length : Int) < 0
  · exact ⟨-1, pos h (cons rfl), by omega, fun h => by omega⟩
  have key : ∀ (d i : Nat) (b : Int), i + d = l.length → 0 ≤ b → b ≤ a → (∀ j : Nat, j < i → ((rd_L1 l (j : Int)).length : Int) ≤ a) →
      ∃ r, Ev (fun k => laws_szWordS.l0 k l b (i : Int)) r ∧ r ≤ a ∧ (0 ≤ r → ∀ j : Nat, j < l.length → ((rd_L1 l (j : Int)).length : Int) ≤ a) := by
    intro d
    induction d with
    | zero =>
      intro i b hi hb0 hb1 hp
      refine ⟨b, ?_, hb1, fun _ j hj => hp j (by omega)⟩
      refine Ev.step (fun k => by rw [laws_szWordS.l0]) ?_
      exact neg (by omega) (Ev.now _)
    | succ d ih =>
      intro i b hi hb0 hb1 hp
      have hm : (rd_L1 l (i : Int)).length ≤ maxLen := by rw [rdS_get l i (by omega)]; exact hls _ (List.getElem_mem _)
      have hs := szWord_ev (rd_L1 l (i : Int)) b ⟨hb0, by omega⟩ hm
      by_cases hc : b < ((rd_L1 l (i : Int)).length : Int)
      · rw [if_pos hc] at hs
        refine ⟨-1, ?_, by omega, fun h => by omega⟩
        refine Ev.step (fun k => by rw [laws_szWordS.l0]) ?_
        exact pos (by omega) (pos (by omega) (bindc hs (pos (by omega) (cons rfl))))
      · rw [if_neg hc] at hs
        obtain ⟨r, hr, h1, h2⟩ := ih (i + 1) (b - ((rd_L1 l (i : Int)).length : Int)) (by omega) (by omega) (by omega) (fun j hj => by
          rcases Nat.lt_or_ge j i with h | h
          · exact hp j h
          · obtain rfl : j = i := by omega
            omega)
        refine ⟨r, ?_, h1, h2⟩
        refine Ev.step (fun k => by rw [laws_szWordS.l0]) ?_
        refine pos (by omega) (pos (by omega) (bindc hs (neg (by omega) ?_)))
        rw [w64 (x := (i : Int) + 1) (by omega) (by omega)]; exact hr
  obtain ⟨r, hr, h1, h2⟩ := key l.length 0 (a - (l.length : Int)) (by omega) (by omega) (by omega) (fun j hj => by omega)
  refine ⟨r, neg h hr, h1, fun h0 => ⟨by omega, fun x hx => ?_⟩⟩
  obtain ⟨j, hj, rfl⟩ := List.getElem_of_mem hx
  have := h2 h0 j hj
  rwa [rdS_get l j hj] at this

theorem toWordS_ev (l : List (List Int)) (hn : l.length ≤ 1048576) (hls : ∀ x ∈ l, x.length ≤ 1048576) : Ev (fun k => laws_toWordS.f k l) l := by
  unfold laws_toWordS.f
  refine pos (by omega) (pos (by omega) ?_)
  rw [Int.toNat_natCast]
  refine iter (F := fun k (s : List (List Int) × Int) => laws_toWordS.l0 k l s.1 s.2) (fun i s => s.2 = (i : Int) ∧ s.1.length = l.length ∧ ∀ j, j < i → s.1[j]? = l[j]?) l l.length ?_ ?_ 0 (List.replicate l.length [], 0) (by omega) ⟨rfl, by simp, fun j hj => by omega⟩
  · rintro i ⟨s, x⟩ hi ⟨rfl, hl, hp⟩
    dsimp only at hl hp
    refine .inl ⟨(s.set i (rd_L1 l (i : Int)), ((i + 1 : Nat) : Int)), ⟨rfl, by simpa using hl, fun j hj => ?_⟩, fun hk => ?_⟩
    · dsimp only
      by_cases e : j = i
      · subst e; rw [List.getElem?_set_self (by omega), rdS_get l j hi, List.getElem?_eq_getElem hi]
      · rw [List.getElem?_set_ne (by omega)]; exact hp j (by omega)
    · refine Ev.step (fun k => by rw [laws_toWordS.l0]) ?_
      dsimp only
      have hm : (rd_L1 l (i : Int)).length ≤ 1048576 := by rw [rdS_get l i hi]; exact hls _ (List.getElem_mem _)
      refine pos (by omega) (pos (by omega) (Ev.bind (toWord_ev _ (by omega)) (pos (by omega) ?_)))
      rw [w64 (by omega) (by omega), Int.toNat_natCast]; exact hk
  · rintro ⟨s, x⟩ ⟨rfl, hl, hp⟩
    dsimp only at hl hp
    refine Ev.step (fun k => by rw [laws_toWordS.l0]) ?_
    exact neg (by omega) (cons (toListS hl rfl hp))

theorem eqWordS_ev (l l' : List (List Int)) (hn : l.length ≤ 1048576) (hls : ∀ x ∈ l, x.length ≤ 1048576) : Ev (fun k => laws_eqWordS.f k l l') (decide (l = l')) := by
  unfold laws_eqWordS.f
  by_cases h : (l.length : Int) = (l'.length : Int)
  · refine pos h ?_
    refine iter (F := fun k (s : Int) => laws_eqWordS.l0 k l l' s) (fun i s => s = (i : Int) ∧ ∀ j, j < i → l[j]? = l'[j]?) _ l.length ?_ ?_ 0 0 (by omega) ⟨rfl, fun j hj => by omega⟩
    · rintro i s hi ⟨rfl, hp⟩
      have hm : (rd_L1 l (i : Int)).length ≤ 1048576 := by rw [rdS_get l i hi]; exact hls _ (List.getElem_mem _)
      have he := eqWord_ev (rd_L1 l (i : Int)) (rd_L1 l' (i : Int)) (by omega)
      by_cases hc : rd_L1 l (i : Int) = rd_L1 l' (i : Int)
      · rw [decide_eq_true hc] at he
        refine .inl ⟨((i + 1 : Nat) : Int), ⟨rfl, fun j hj => ?_⟩, fun hk => ?_⟩
        · rcases Nat.lt_or_ge j i with h | h
          · exact hp j h
          · obtain rfl : j = i := by omega
            rw [rdS_get l j hi, rdS_get l' j (by omega)] at hc
            rw [List.getElem?_eq_getElem hi, List.getElem?_eq_getElem (by omega), hc]
        · refine Ev.step (fun k => by rw [laws_eqWordS.l0]) ?_
          refine pos (by omega) (pos (by omega) (pos (by omega) (Ev.bind he (pos rfl ?_))))
          rw [w64 (by omega) (by omega)]; exact hk
      · rw [decide_eq_false hc] at he
        refine .inr ?_
        refine Ev.step (fun k => by rw [laws_eqWordS.l0]) ?_
        refine pos (by omega) (pos (by omega) (pos (by omega) (Ev.bind he (neg (by decide) (cons ?_)))))
        symm; apply decide_eq_false
        intro e; exact hc (by rw [e])
    · rintro s ⟨rfl, hp⟩
      refine Ev.step (fun k => by rw [laws_eqWordS.l0]) ?_
      refine neg (by omega) (cons ?_)
      exact (decide_eq_true (toListS rfl (by omega) hp)).symm
  · refine neg h (cons ?_)
    symm; apply decide_eq_false
    intro e; exact h (by rw [e])
theorem eqWordS_refl (l : List (List Int)) (hn : l.length ≤ 1048576) (hls : ∀ x ∈ l, x.length ≤ 1048576) : Ev (fun k => laws_eqWordS.f k l l) true := by
  have := eqWordS_ev l l hn hls; simpa using this
end Go.Proofs.Ytpidpljngppmiaa.L
