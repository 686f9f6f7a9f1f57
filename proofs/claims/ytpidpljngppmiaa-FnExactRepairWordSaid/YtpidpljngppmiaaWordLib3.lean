/- What the reference's and the program's functions on checks answer. No condition beyond lengths that can be read. -/
import Derived.Test.YtpidpljngppmiaaWordLib2
import Derived.Test.YtpidpljngppmiaaPAx2
import Derived.Test.YtpidpljngppmiaaPAx6
import Derived.Test.YtpidpljngppmiaaPAx7
namespace Go.Proofs.Ytpidpljngppmiaa.A
open Go.RowKit Go.Proofs.YtpidpljngppmiaaW.PrintWords Go.Proofs.YtpidpljngppmiaaW.PrintLast Go.Proofs.Ytpidpljngppmiaa.U
set_option linter.unusedVariables false
set_option linter.unusedSimpArgs false

theorem prime_eq : ∀ k x0 x3, spec_l05Prime.l0 k x0 x3 = impl_isPrime.l0 k x0 x3 := by
  intro k
  induction k with
  | zero => intros; rfl
  | succ k ih => intro x0 x3; simp only [spec_l05Prime.l0, impl_isPrime.l0, ih]
theorem prime_some : ∀ i : Fin 35, (impl_isPrime.l0 40 ((i.val : Int) + 3) 2).isSome = true := by decide +kernel
/-- Is it a prime from 3 to 37? -/
def primeB (a : Int) : Bool := decide (3 ≤ a ∧ a ≤ 37) && (impl_isPrime.l0 40 a 2).getD false
theorem prime_l0 (a : Int) (h : 3 ≤ a ∧ a ≤ 37) : impl_isPrime.l0 40 a 2 = some ((impl_isPrime.l0 40 a 2).getD false) := by
  have := prime_some ⟨(a - 3).toNat, by omega⟩
  rw [show (((⟨(a - 3).toNat, by omega⟩ : Fin 35).val : Int) + 3) = a by show (((a - 3).toNat : Nat) : Int) + 3 = a; omega] at this
  obtain ⟨b, hb⟩ := Option.isSome_iff_exists.1 this
  rw [hb]; rfl
theorem impl_prime_ev (a : Int) : Ev (fun k => impl_isPrime.f k a) (primeB a) := by
  unfold impl_isPrime.f primeB
  by_cases h : 3 ≤ a ∧ a ≤ 37
  · rw [within_ev, decide_eq_true h]
    exact bindc rfl (pos rfl (Ev.of (fun k => impl_isPrime.mono_l k _ _) (prime_l0 a h)))
  · rw [within_ev, decide_eq_false h]
    exact bindc rfl (neg (by decide) (cons rfl))
theorem spec_prime_ev (a : Int) : Ev (fun k => spec_l05Prime.f k a) (primeB a) := by
  refine Ev.congr (fun k => ?_) (impl_prime_ev a)
  unfold spec_l05Prime.f impl_isPrime.f
  rw [in_ev, within_ev]
  simp only [Option.bind_some, prime_eq]

theorem mn_37 (a : Int) (h : a ≤ 37) : mn a 37 = a := by unfold mn; split <;> omega
/-- The code of letters and a word. -/
def checkC (a : Int) (l : List Int) : Int := if primeB a = true then (if (wordOk l && l.all (fun x => decide (x < a)) && decide ((l.length : Int) < a)) = true then 0 else 1) else 2
theorem primeB_in {a : Int} (h : primeB a = true) : 3 ≤ a ∧ a ≤ 37 := by
  unfold primeB at h; rw [Bool.and_eq_true, decide_eq_true_eq] at h; exact h.1
theorem spec_checked_ev (a : Int) (l : List Int) (hb : Bytes l) (hn : l.length ≤ 140737488351232) : Ev (fun k => spec_l05Checked.f k a l) (checkC a l) := by
  unfold spec_l05Checked.f checkC
  refine Ev.bind (spec_prime_ev a) ?_
  cases hp : primeB a with
  | false => exact neg (by decide) (cons rfl)
  | true =>
    have ha := primeB_in hp
    refine pos rfl (Ev.bind (l05Word_ev l hn) ?_)
    cases hw : wordOk l with
    | false => exact neg (by decide) (cons rfl)
    | true =>
      refine pos rfl (Ev.bind (l05Below_ev a l hb hn) ?_)
      cases hl : l.all (fun x => decide (x < a)) with
      | false => exact neg (by decide) (cons rfl)
      | true =>
        refine pos rfl ?_
        by_cases hc : (l.length : Int) < a
        · rw [w64 (x := a - 1) (by omega) (by omega)]
          exact neg (by omega) (cons (by simp [hc]))
        · rw [w64 (x := a - 1) (by omega) (by omega)]
          exact pos (by omega) (cons (by simp [hc]))
theorem letters_both (a : Int) (l : List Int) (ha : a ≤ 37) : (l.all (fun x => decide (x < mn a 37)) && decide (1 ≤ (l.length : Int) ∧ (l.length : Int) ≤ 8)) = (wordOk l && l.all (fun x => decide (x < a))) := by
  rw [mn_37 a ha]
  unfold wordOk
  cases h : l.all (fun x => decide (x < a)) with
  | false => simp
  | true =>
    have : l.all (fun x => decide (x < 37)) = true := by
      rw [List.all_eq_true] at h ⊢
      intro x hx; have := h x hx; simp at this ⊢; omega
    rw [this]; simp
theorem impl_checked_ev (a : Int) (l : List Int) (hb : Bytes l) (hn : l.length ≤ 140737488351232) : Ev (fun k => impl_checkCode.f k a l) (checkC a l) := by
  unfold impl_checkCode.f checkC
  refine Ev.bind (impl_prime_ev a) ?_
  cases hp : primeB a with
  | false => exact neg (by decide) (cons rfl)
  | true =>
    have ha := primeB_in hp
    rw [isWord_ev l hb a, letters_both a l ha.2]
    refine pos rfl (bindc rfl ?_)
    cases hw : (wordOk l && l.all (fun x => decide (x < a))) with
    | false => exact neg (by decide) (bindc (unless_ev _ _) (cons rfl))
    | true =>
      refine pos rfl (bindc (a := (l.length : Int)) rfl (bindc (unless_ev _ _) (cons ?_)))
      by_cases hc : (l.length : Int) < a <;> simp [hc]
theorem checkC_ok {a : Int} {l : List Int} (h : checkC a l = 0) : (3 ≤ a ∧ a ≤ 37) ∧ (1 ≤ (l.length : Int) ∧ (l.length : Int) ≤ 8) ∧ (∀ x ∈ l, x < a) ∧ (l.length : Int) < a ∧ primeB a = true := by
  unfold checkC at h
  split at h
  · rename_i hp
    split at h
    · rename_i hw
      rw [Bool.and_eq_true, Bool.and_eq_true, decide_eq_true_eq] at hw
      obtain ⟨⟨h1, h2⟩, h3⟩ := hw
      unfold wordOk at h1
      rw [Bool.and_eq_true, decide_eq_true_eq] at h1
      rw [List.all_eq_true] at h2
      exact ⟨primeB_in hp, h1.2, fun x hx => by have := h2 x hx; simpa using this, h3, hp⟩
    · cases h
  · cases h

/-- The sums behind the syndromes, round by round. -/
def sums (l : List Int) : Nat → Int × Int
  | 0 => (0, 0)
  | i + 1 => (wrap64 ((sums l i).1 + wrap64 (rd l (i : Int))), wrap64 ((sums l i).2 + wrap64 (wrap64 ((i : Int) + 1) * wrap64 (rd l (i : Int)))))
theorem spec_synd_ev (a : Int) (ha : a ≠ 0) (l : List Int) (hn : l.length ≤ 140737488351232) : Ev (fun k => spec_l05Syndromes.f k a l) (Int.tmod (sums l l.length).1 a, Int.tmod (sums l l.length).2 a) := by
  unfold spec_l05Syndromes.f
  refine iter (F := fun k (s : Int × Int × Int) => spec_l05Syndromes.l0 k a l s.1 s.2.1 s.2.2) (fun i s => s = ((sums l i).1, (sums l i).2, (i : Int))) _ l.length ?_ ?_ 0 (0, 0, 0) (by omega) rfl
  · rintro i s hi rfl
    refine .inl ⟨_, rfl, Ev.step fun k => ?_⟩
    simp only [spec_l05Syndromes.l0]
    rw [if_pos (by omega), if_pos (by omega), w64 (x := (i : Int) + 1) (by omega) (by omega)]
    simp only [sums]
    rw [w64 (x := (i : Int) + 1) (by omega) (by omega)]; rfl
  · rintro s rfl
    refine Ev.step (f := fun _ => some _) (fun k => ?_) (Ev.now _)
    simp only [spec_l05Syndromes.l0]; rw [if_neg (by omega), if_neg ha]
theorem impl_synd_ev (a : Int) (ha : a ≠ 0) (l : List Int) (hn : l.length ≤ 140737488351232) : Ev (fun k => impl_Word_syndromes.f k l a) (Int.tmod (sums l l.length).1 a, Int.tmod (sums l l.length).2 a) := by
  unfold impl_Word_syndromes.f
  refine iter (F := fun k (s : Int × Int × Int) => impl_Word_syndromes.l0 k a s.1 s.2.1 l (l.length : Int) s.2.2) (fun i s => s = ((sums l i).1, (sums l i).2, (i : Int))) _ l.length ?_ ?_ 0 (0, 0, 0) (by omega) rfl
  · rintro i s hi rfl
    refine .inl ⟨_, rfl, Ev.step fun k => ?_⟩
    simp only [impl_Word_syndromes.l0]
    rw [if_pos (by omega), if_pos (by omega), if_pos (by omega), w64 (x := (i : Int) + 1) (by omega) (by omega)]
    simp only [sums]
    rw [w64 (x := (i : Int) + 1) (by omega) (by omega)]; rfl
  · rintro s rfl
    refine Ev.step (f := fun _ => some _) (fun k => ?_) (Ev.now _)
    simp only [impl_Word_syndromes.l0]; rw [if_neg (by omega), if_neg ha]
end Go.Proofs.Ytpidpljngppmiaa.A
