/- For all letters and words the program's WithChecks returns what the reference's returns, in memory of its own, and changes nothing. No condition. -/
import Derived.Test.YtpidpljngppmiaaWordLib4
import Derived.Test.YtpidpljngppmiaaPAx9
namespace Go.Proofs.Ytpidpljngppmiaa.Pure
open Go.RowKit Go.Proofs.Ytpidpljngppmiaa.A Go.Proofs.YtpidpljngppmiaaW.PrintWords Go.Proofs.YtpidpljngppmiaaW.PrintLast Go.Proofs.Ytpidpljngppmiaa.U
set_option linter.unusedVariables false
set_option linter.unusedSimpArgs false

theorem with_both (a : Int) (l : List Int) (hb : Bytes l) (hn : l.length ≤ 140737488351232) : ∃ r : List Int × Int, r.1.length ≤ 8 ∧ Ev (fun k => spec_WithChecks.f k a l) r ∧ Ev (fun k => impl_WithChecks.f k a l) r := by
  unfold spec_WithChecks.f impl_WithChecks.f
  have hs := spec_checked_ev a l hb hn
  have hi := impl_checked_ev a l hb hn
  by_cases h : checkC a l = 0
  · rw [h] at hs hi
    obtain ⟨ha, hl, hx, hla, hp⟩ := checkC_ok h
    have ss := spec_synd_ev a (by omega) l hn
    have si := impl_synd_ev a (by omega) l hn
    rw [synd_eq l hb a l.length (by omega)] at ss si
    by_cases h8 : (l.length : Int) + 2 > 8
    · refine ⟨([], 3), by simp, Ev.bind hs (pos rfl (pos (by rw [w64 (by omega) (by omega)]; exact h8) ?_)), Ev.bind hi (pos rfl (bindc rfl (pos (by rw [w64 (by omega) (by omega)]; exact h8) ?_)))⟩
      · refine Ev.step (fun k => by rw [spec_WithChecks.j0]) ?_
        exact pos rfl (cons rfl)
      · refine Ev.step (fun k => by rw [impl_WithChecks.j0]) ?_
        exact pos rfl (cons rfl)
    by_cases hla2 : (l.length : Int) + 2 ≥ a
    · refine ⟨([], 3), by simp, Ev.bind hs (pos rfl (neg (by rw [w64 (by omega) (by omega)]; exact h8) ?_)), Ev.bind hi (pos rfl (bindc rfl (neg (by rw [w64 (by omega) (by omega)]; exact h8) ?_)))⟩
      · refine Ev.step (fun k => by rw [spec_WithChecks.j0]) ?_
        exact pos (decide_eq_true (by rw [w64 (by omega) (by omega), w64 (by omega) (by omega)]; omega)) (cons rfl)
      · refine Ev.step (fun k => by rw [impl_WithChecks.j0]) ?_
        exact pos (decide_eq_true (by rw [w64 (by omega) (by omega)]; omega)) (cons rfl)
    · generalize hA : S1 l l.length % a = A at *
      generalize hB : S2 l l.length % a = B at *
      have hA0 : 0 ≤ A ∧ A < a := ⟨hA ▸ Int.emod_nonneg _ (by omega), hA ▸ Int.emod_lt_of_pos _ (by omega)⟩
      have hB0 : 0 ≤ B ∧ B < a := ⟨hB ▸ Int.emod_nonneg _ (by omega), hB ▸ Int.emod_lt_of_pos _ (by omega)⟩
      have hM0 : 0 ≤ ((l.length : Int) + 1) * A := Int.mul_nonneg (by omega) hA0.1
      have hM1 : ((l.length : Int) + 1) * A ≤ 10 * 37 := Int.mul_le_mul (by omega) (by omega) hA0.1 (by omega)
      have hQ0 : 0 ≤ a * a := Int.mul_nonneg (by omega) (by omega)
      have hQ1 : a * a ≤ 37 * 37 := Int.mul_le_mul (by omega) (by omega) (by omega) (by omega)
      have hQ2 : a * 3 ≤ a * a := Int.mul_le_mul_of_nonneg_left (by omega) (by omega)
      obtain ⟨M, hM⟩ : ∃ M, M = ((l.length : Int) + 1) * A := ⟨_, rfl⟩
      obtain ⟨Q, hQ⟩ : ∃ Q, Q = a * a := ⟨_, rfl⟩
      rw [← hM] at hM0 hM1
      rw [← hQ] at hQ0 hQ1 hQ2
      have hy : (M - B + Q) % a = (M - B) % a := by rw [hQ]; simp
      obtain ⟨y, hyy⟩ : ∃ y, y = (M - B) % a := ⟨_, rfl⟩
      have hy0 : 0 ≤ y ∧ y < a := ⟨hyy ▸ Int.emod_nonneg _ (by omega), hyy ▸ Int.emod_lt_of_pos _ (by omega)⟩
      have hx2 : (2 * a - A - y) % a = (-A - y) % a := by
        rw [show 2 * a - A - y = (-A - y) + a * 2 by omega]; simp
      have HY := Aside0.mk hy
      have HYY := Aside0.mk hyy
      have HX2 := Aside0.mk hx2
      have HMM := Aside0.mk hM
      have HQQ := Aside0.mk hQ
      clear hy hyy hx2 hM hQ hA hB
      have e1 : wrap64 ((l.length : Int) + 1) = (l.length : Int) + 1 := w64 (by omega) (by omega)
      have E1 := Aside0.mk e1
      clear e1
      refine ⟨(l ++ [(-A - y) % a % 256, y % 256], 0), by simp only [List.length_append, List.length_cons, List.length_nil]; omega, Ev.bind hs (pos rfl (neg (by rw [w64 (by omega) (by omega)]; exact h8) ?_)), Ev.bind hi (pos rfl (bindc rfl (neg (by rw [w64 (by omega) (by omega)]; exact h8) ?_)))⟩
      · refine Ev.step (fun k => by rw [spec_WithChecks.j0]) ?_
        have hc : ¬ (decide ((wrap64 ((l.length : Int) + 2)) > (wrap64 (a - 1))) = true) := by
          rw [w64 (by omega) (by omega), w64 (by omega) (by omega), decide_eq_true_eq]; omega
        refine neg hc ?_
        refine Ev.bind ss ?_
        dsimp only
        rw [E1.out, ← HMM.out, w64 (x := M) (by omega) (by omega), w64 (x := M - B) (by omega) (by omega)]
        refine bindc (mod_ev (M - B) a (by omega) (by omega) (by omega)) ?_
        rw [← HYY.out, w64 (x := -A) (by omega) (by omega), w64 (x := -A - y) (by omega) (by omega)]
        refine bindc (mod_ev (-A - y) a (by omega) (by omega) (by omega)) ?_
        simp only [Option.bind_some, List.nil_append]
        exact pos (by simp only [List.length_nil]; omega) (pos (by simp only [List.length_cons, List.length_nil]; omega) (Ev.now _))
      · refine Ev.step (fun k => by rw [impl_WithChecks.j0]) ?_
        have hc : ¬ (decide ((wrap64 ((l.length : Int) + 2)) ≥ a) = true) := by
          rw [w64 (by omega) (by omega), decide_eq_true_eq]; omega
        refine neg hc ?_
        refine Ev.bind si (neg (by omega) ?_)
        dsimp only
        rw [E1.out, ← HMM.out, ← HQQ.out, w64 (x := M) (by omega) (by omega), w64 (x := M - B) (by omega) (by omega), w64 (x := Q) (by omega) (by omega), w64 (x := M - B + Q) (by omega) (by omega), Int.tmod_eq_emod_of_nonneg (a := M - B + Q) (by omega), HY.out, ← HYY.out]
        rw [w64 (x := 2 * a) (by omega) (by omega), w64 (x := 2 * a - A) (by omega) (by omega), w64 (x := 2 * a - A - y) (by omega) (by omega), Int.tmod_eq_emod_of_nonneg (a := 2 * a - A - y) (by omega), HX2.out]
        refine bindc (by unfold impl_Word_uint8_72.f; rw [if_pos (by omega)]) ?_
        simp only [Option.bind_some]
        exact pos (by simp only [List.length_cons, List.length_nil]; omega) (Ev.now _)
  · exact ⟨([], checkC a l), by simp, Ev.bind hs (neg h (cons rfl)), Ev.bind hi (neg h (cons rfl))⟩
theorem FnExactWithChecks : laws_FnExactWithChecks.Pure := by
  intro a l _ _ hn hw
  apply Ev.rounds
  unfold laws_FnExactWithChecks.f
  by_cases c1 : (l.length : Int) > 1048576
  · exact pos c1 (cons rfl)
  obtain ⟨r, hr, hs, hi⟩ := with_both a l (Bytes.of hw) (by omega)
  have t1 := toWord_ev l (by omega)
  have e1 := eqWord_refl r.1 (by omega)
  have hm := markWord_ev r.1 1 (by omega) (by omega)
  have hh := heldWord_ev r.1.length 1 (by omega) (by omega)
  refine neg c1 (Ev.bind t1 (Ev.bind hs (Ev.bind t1 (Ev.bind hi (Ev.bind e1 (pos rfl ?_))))))
  refine Ev.step (fun k => by rw [laws_FnExactWithChecks.j0]) ?_
  refine neg (by simp) (Ev.bind t1 (Ev.bind (eqWord_refl l (by omega)) (pos rfl (Ev.bind (markWord_ev l 1 (by omega) (by omega)) (neg (by omega) (Ev.bind e1 (pos rfl ?_)))))))
  refine Ev.step (fun k => by rw [laws_FnExactWithChecks.j1]) ?_
  refine neg (by simp) (Ev.bind hm (Ev.bind hh (neg (by omega) (pos rfl (Ev.bind t1 (Ev.bind hi (Ev.bind e1 (pos rfl ?_))))))))
  refine Ev.step (fun k => by rw [laws_FnExactWithChecks.j2]) ?_
  exact neg (by simp) (Ev.bind hh (neg (by omega) (pos rfl (cons rfl))))
end Go.Proofs.Ytpidpljngppmiaa.Pure
