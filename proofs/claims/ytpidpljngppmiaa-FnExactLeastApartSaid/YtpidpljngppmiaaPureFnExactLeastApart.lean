/- For all lists of words the program's LeastApart returns what the reference's returns, and changes nothing. No condition. -/
import Derived.Test.YtpidpljngppmiaaWordDLib
import Derived.Test.YtpidpljngppmiaaPLx3
import Derived.Test.YtpidpljngppmiaaPLx4
namespace Go.Proofs.Ytpidpljngppmiaa.Pure
open Go.RowKit Go.Proofs.Ytpidpljngppmiaa.L Go.Proofs.YtpidpljngppmiaaW.PrintWords Go.Proofs.YtpidpljngppmiaaW.PrintLast Go.Proofs.Ytpidpljngppmiaa.U
set_option linter.unusedVariables false
set_option linter.unusedSimpArgs false
theorem l05Listed_ev (l : List (List Int)) (hn : l.length ≤ 1048576) (hls : ∀ x ∈ l, x.length ≤ 1048576) (hb : ∀ x ∈ l, Bytes x) : Ev (fun k => spec_l05Listed.f k l) (codeW l []) := by
  unfold spec_l05Listed.f
  refine Ev.bind (l05Words_ev l hn hls hb) ?_
  unfold codeW
  rw [List.append_nil]
  cases areW l 37 with
  | false => exact neg (by decide) (cons rfl)
  | true =>
    refine pos rfl ?_
    rw [if_pos rfl]
    by_cases h : (l.length : Int) ≤ 60
    · rw [if_pos h]; exact neg (by omega) (cons rfl)
    · rw [if_neg h]; exact pos (by omega) (cons rfl)
theorem dW_comm {l : List (List Int)} (h : Even8 l) (i k : Nat) (hi : i < l.length) (hk : k < l.length) : dW l i k = dW l k i := by
  have h1 := h.2 _ (by rw [rdS_get l i hi]; exact List.getElem_mem hi : rd_L1 l (i : Int) ∈ l)
  have h2 := h.2 _ (by rw [rdS_get l k hk]; exact List.getElem_mem hk : rd_L1 l (k : Int) ∈ l)
  unfold dW
  rw [apD_comm, show (rd_L1 l (i : Int)).length = (rd_L1 l (k : Int)).length by omega]
theorem rowM_spec {l : List (List Int)} (h : Even8 l) (i : Nat) (hi : i < l.length) (a : Int) (ha : -1 ≤ a) : ∀ d : Nat,
    (∀ d' : Nat, d' < d → rowM l i d a ≤ dW l i (i + 1 + d')) ∧ (0 ≤ a → rowM l i d a ≤ a ∧ 0 ≤ rowM l i d a) ∧ (0 < d → 0 ≤ rowM l i d a) ∧ (rowM l i d a = a ∨ ∃ d' : Nat, d' < d ∧ rowM l i d a = dW l i (i + 1 + d'))
  | 0 => ⟨fun d' hd => absurd hd (by omega), fun h => ⟨Int.le_refl _, h⟩, fun hd => absurd hd (by omega), .inl rfl⟩
  | d + 1 => by
    obtain ⟨h1, h2, h3, h4⟩ := rowM_spec h i hi a ha d
    have hz := dW_b h i (i + 1 + d) hi
    rw [rowM]
    generalize hr : rowM l i d a = r at *
    unfold lessI
    refine ⟨fun d' hd => ?_, fun h0 => ?_, fun _ => ?_, ?_⟩
    · rcases Nat.lt_or_ge d' d with hlt | hge
      · have := h1 d' hlt
        have := h3 (by omega)
        split <;> omega
      · obtain rfl : d' = d := by omega
        split <;> omega
    · have := h2 h0
      split <;> omega
    · split <;> omega
    · split
      · exact .inr ⟨d, by omega, rfl⟩
      · rcases h4 with h4 | ⟨d', hd, h4⟩
        · exact .inl h4
        · exact .inr ⟨d', by omega, h4⟩
theorem allM_spec {l : List (List Int)} (h : Even8 l) : ∀ i : Nat, i ≤ l.length →
    (∀ i' k : Nat, i' < i → i' < k → k < l.length → allM l i ≤ dW l i' k) ∧ (allM l i = -1 ∨ ∃ i' k : Nat, i' < i ∧ i' < k ∧ k < l.length ∧ allM l i = dW l i' k) ∧ (∀ i' : Nat, i' < i → i' + 1 < l.length → 0 ≤ allM l i)
  | 0, _ => ⟨fun i' k h1 => absurd h1 (by omega), .inl rfl, fun i' h1 => absurd h1 (by omega)⟩
  | i + 1, hi => by
    obtain ⟨h1, h2, h3⟩ := allM_spec h i (by omega)
    have hb := allM_b h i (by omega)
    obtain ⟨g1, g2, g3, g4⟩ := rowM_spec h i (by omega) (allM l i) hb.1 (l.length - (i + 1))
    have he : allM l (i + 1) = rowM l i (l.length - (i + 1)) (allM l i) := rfl
    rw [he]
    refine ⟨fun i' k hi' hk hkn => ?_, ?_, fun i' hi' hn => ?_⟩
    · rcases Nat.lt_or_ge i' i with hlt | hge
      · have := h1 i' k hlt hk hkn
        have := g2 (h3 i' hlt (by omega))
        omega
      · obtain rfl : i' = i := by omega
        have := g1 (k - (i' + 1)) (by omega)
        rwa [show i' + 1 + (k - (i' + 1)) = k by omega] at this
    · rcases g4 with g4 | ⟨d', hd, g4⟩
      · rw [g4]
        rcases h2 with h2 | ⟨i', k, a1, a2, a3, a4⟩
        · exact .inl h2
        · exact .inr ⟨i', k, by omega, a2, a3, a4⟩
      · exact .inr ⟨i, i + 1 + d', by omega, by omega, by omega, g4⟩
    · rcases Nat.lt_or_ge i' i with hlt | hge
      · exact (g2 (h3 i' hlt hn)).2
      · obtain rfl : i' = i := by omega
        exact g3 (by omega)
/-- What the reference keeps: the least one so far, 8 at first. -/
def minS (l : List (List Int)) (i : Nat) : Nat → Int → Int
  | 0, a => a
  | k + 1, a => if minS l i k a < dW l i k then minS l i k a else dW l i k
def allS (l : List (List Int)) : Nat → Int
  | 0 => 8
  | i + 1 => minS l i i (allS l i)
theorem minS_spec (l : List (List Int)) (i : Nat) (a : Int) : ∀ k : Nat, minS l i k a ≤ a ∧ (∀ k' : Nat, k' < k → minS l i k a ≤ dW l i k') ∧ (minS l i k a = a ∨ ∃ k' : Nat, k' < k ∧ minS l i k a = dW l i k')
  | 0 => ⟨Int.le_refl _, fun k' h => absurd h (by omega), .inl rfl⟩
  | k + 1 => by
    obtain ⟨h1, h2, h3⟩ := minS_spec l i a k
    rw [minS]
    generalize minS l i k a = r at *
    refine ⟨by split <;> omega, fun k' hk => ?_, ?_⟩
    · rcases Nat.lt_or_ge k' k with hlt | hge
      · have := h2 k' hlt
        split <;> omega
      · obtain rfl : k' = k := by omega
        split <;> omega
    · split
      · rcases h3 with h3 | ⟨k', hk, h3⟩
        · exact .inl h3
        · exact .inr ⟨k', by omega, h3⟩
      · exact .inr ⟨k, by omega, rfl⟩
theorem allS_spec (l : List (List Int)) : ∀ i : Nat, allS l i ≤ 8 ∧ (∀ i' k : Nat, i' < i → k < i' → allS l i ≤ dW l i' k) ∧ (allS l i = 8 ∨ ∃ i' k : Nat, i' < i ∧ k < i' ∧ allS l i = dW l i' k)
  | 0 => ⟨Int.le_refl _, fun i' k h => absurd h (by omega), .inl rfl⟩
  | i + 1 => by
    obtain ⟨h1, h2, h3⟩ := allS_spec l i
    obtain ⟨g1, g2, g3⟩ := minS_spec l i (allS l i) i
    have he : allS l (i + 1) = minS l i i (allS l i) := rfl
    rw [he]
    refine ⟨by omega, fun i' k hi hk => ?_, ?_⟩
    · rcases Nat.lt_or_ge i' i with hlt | hge
      · have := h2 i' k hlt hk; omega
      · obtain rfl : i' = i := by omega
        exact g2 k hk
    · rcases g3 with g3 | ⟨k, hk, g3⟩
      · rw [g3]
        rcases h3 with h3 | ⟨i', k, a1, a2, a3⟩
        · exact .inl h3
        · exact .inr ⟨i', k, by omega, a2, a3⟩
      · exact .inr ⟨i, k, by omega, hk, g3⟩
theorem allS_b {l : List (List Int)} (h : Even8 l) (i : Nat) (hi : i ≤ l.length) : 0 ≤ allS l i ∧ allS l i ≤ 8 := by
  obtain ⟨h1, _, h3⟩ := allS_spec l i
  refine ⟨?_, h1⟩
  rcases h3 with h3 | ⟨i', k, a1, a2, a3⟩
  · omega
  · have := dW_b h i' k (by omega); omega
theorem all_eq {l : List (List Int)} (h : Even8 l) (h2 : 2 ≤ l.length) : allS l l.length = allM l l.length ∧ 0 ≤ allM l l.length := by
  obtain ⟨a1, a2, a3⟩ := allM_spec h l.length (Nat.le_refl _)
  obtain ⟨b1, b2, b3⟩ := allS_spec l l.length
  have h0 := a3 0 (by omega) (by omega)
  refine ⟨?_, h0⟩
  rcases a2 with a2 | ⟨i, k, c1, c2, c3, c4⟩
  · omega
  · have e1 := b2 k i c3 c2
    rw [dW_comm h k i c3 c1] at e1
    rcases b3 with b3 | ⟨i', k', d1, d2, d3⟩
    · have := dW_b h i k c1
      omega
    · have e2 := a1 k' i' (by omega) d2 d1
      rw [dW_comm h k' i' (by omega) d1] at e2
      omega
theorem all_less {l : List (List Int)} (h : Even8 l) (h2 : l.length < 2) : allM l l.length = -1 := by
  obtain ⟨_, a2, _⟩ := allM_spec h l.length (Nat.le_refl _)
  rcases a2 with a2 | ⟨i, k, c1, c2, c3, _⟩
  · exact a2
  · omega
theorem l05A_ev {l : List (List Int)} (h : Even8 l) (i k : Nat) (hi : i < l.length) (hk : k < l.length) : Ev (fun n => spec_l05Apart.f n (rd_L1 l (i : Int)) (rd_L1 l (k : Int))) (dW l i k) := by
  have h1 := h.2 _ (by rw [rdS_get l i hi]; exact List.getElem_mem hi : rd_L1 l (i : Int) ∈ l)
  have h2 := h.2 _ (by rw [rdS_get l k hk]; exact List.getElem_mem hk : rd_L1 l (k : Int) ∈ l)
  unfold dW
  rw [← apD_eq]
  exact l05Apart_ev _ _ (by omega) (by omega)
theorem least_ev {l : List (List Int)} (h : Even8 l) : Ev (fun k => spec_LeastApart.l0 k l 8 0) (allS l l.length, 0) := by
  have h60 := h.1
  refine iter (F := fun k (s : Int × Int) => spec_LeastApart.l0 k l s.1 s.2) (fun i s => s = (allS l i, (i : Int))) _ l.length ?_ ?_ 0 (8, 0) (by omega) rfl
  · rintro i s hi rfl
    refine .inl ⟨_, rfl, fun hgo => ?_⟩
    refine Ev.step (fun k => by simp only; rw [spec_LeastApart.l0]) ?_
    refine pos (by omega) ?_
    refine iter (F := fun k (s : Int × Int) => spec_LeastApart.l1 k l s.1 (i : Int) s.2) (fun n s => s = (minS l i n (allS l i), (n : Int))) _ i ?_ ?_ 0 (allS l i, 0) (by omega) rfl
    · rintro n s hn rfl
      refine .inl ⟨_, rfl, fun hgo => ?_⟩
      refine Ev.step (fun k => by simp only; rw [spec_LeastApart.l1]) ?_
      refine pos (by omega) (pos (by omega) (pos (by omega) (pos (by omega) (pos (by omega) (Ev.bind (l05A_ev h i n hi (by omega)) (bindc (a := minS l i (n + 1) (allS l i)) ?_ ?_))))))
      · unfold spec_l00Min.f
        rw [minS]
        split <;> rfl
      · rw [w64 (by omega) (by omega)]; exact hgo
    · rintro s rfl
      refine Ev.step (fun k => by simp only; rw [spec_LeastApart.l1]) ?_
      refine neg (by omega) ?_
      rw [w64 (by omega) (by omega)]; exact hgo
  · rintro s rfl
    refine Ev.step (f := fun _ => some _) (fun k => ?_) (Ev.now _)
    simp only
    rw [spec_LeastApart.l0, if_neg (by omega)]
theorem spec_ev (l : List (List Int)) (hn : l.length ≤ 1048576) (hls : ∀ x ∈ l, x.length ≤ 1048576) (hb : ∀ x ∈ l, Bytes x) : Ev (fun k => spec_LeastApart.f k l) (leastW l) := by
  unfold spec_LeastApart.f
  refine Ev.bind (l05Listed_ev l hn hls hb) ?_
  unfold leastW
  by_cases hk : codeW l [] = 0
  · have hk2 := codeW_zero hk
    rw [List.append_nil] at hk2
    have he : Even8 l := ⟨hk2.2, areW_even hk2.1⟩
    rw [if_pos hk]
    refine pos hk ?_
    by_cases h2 : (l.length : Int) < 2
    · rw [all_less he (by omega), if_neg (by decide)]
      exact pos h2 (cons rfl)
    · obtain ⟨e1, e2⟩ := all_eq he (by omega)
      rw [if_pos e2, ← e1]
      exact neg h2 (least_ev he)
  · rw [if_neg hk]
    exact neg hk (cons rfl)
def FnExactLeastApartPure : Prop := ∀ (l0 : List (List Int)), WfL (WfL (WfI .u8)) l0 → ∃ k, laws_FnExactLeastApart.f k l0 = some true
theorem FnExactLeastApart : FnExactLeastApartPure := by
  intro l hw
  apply Ev.rounds
  unfold laws_FnExactLeastApart.f
  obtain ⟨r1, h1, hr1, hp1⟩ := szWordS_ev l 1048576 (by omega) hw.1 (fun x hx => (hw.2 x hx).1)
  by_cases c1 : r1 < 0
  · exact Ev.bind h1 (pos c1 (cons rfl))
  have q1 := hp1 (by omega)
  have n1 : l.length ≤ 1048576 := by have := q1.1; omega
  have m1 : ∀ x ∈ l, x.length ≤ 1048576 := fun x hx => by have := q1.2 x hx; omega
  have t1 := toWordS_ev l n1 m1
  have hs := spec_ev l n1 m1 (listW hw)
  have hi : impl_LeastApart.f l = some (leastW l) := by unfold impl_LeastApart.f; rw [if_pos (by omega)]
  refine Ev.bind h1 (neg c1 (Ev.bind t1 (Ev.bind hs (Ev.bind t1 (bindc hi (pos rfl ?_))))))
  refine Ev.step (fun k => by rw [laws_FnExactLeastApart.j0]) ?_
  exact neg (by simp) (Ev.bind t1 (Ev.bind (eqWordS_refl l n1 m1) (pos rfl (cons rfl))))
end Go.Proofs.Ytpidpljngppmiaa.Pure
