/- For all letters and words the program's RepairWord returns what the reference's returns, in memory of its own, and changes nothing. No condition. -/
import Derived.Test.YtpidpljngppmiaaWordLib4
import Derived.Test.YtpidpljngppmiaaPAx11
namespace Go.Proofs.Ytpidpljngppmiaa.Pure
open Go.RowKit Go.Proofs.Ytpidpljngppmiaa.A Go.Proofs.YtpidpljngppmiaaW.PrintWords Go.Proofs.YtpidpljngppmiaaW.PrintLast Go.Proofs.Ytpidpljngppmiaa.U
set_option linter.unusedVariables false
set_option linter.unusedSimpArgs false
set_option linter.unusedSectionVars false

/-- What is found from a place on: with so many places left. -/
def rep (a : Int) (l : List Int) (A B : Int) : Nat → Nat → List Int × Int × Int
  | 0, _ => ([], 0, 8)
  | d + 1, i => if A ≠ 0 ∧ (((i : Int) + 1) * A - B) % a = 0 then (l.set i ((rd l (i : Int) - A) % a % 256), (i : Int), 0) else rep a l A B d (i + 1)
theorem rep_len (a : Int) (l : List Int) (A B : Int) (hl : l.length ≤ 8) : ∀ d i, (rep a l A B d i).1.length ≤ 8
  | 0, _ => by simp [rep]
  | d + 1, i => by unfold rep; split; simpa using hl; exact rep_len a l A B hl d (i + 1)
theorem rep_none (a : Int) (l : List Int) (B : Int) : ∀ d i, rep a l 0 B d i = ([], 0, 8)
  | 0, _ => rfl
  | d + 1, i => by unfold rep; rw [if_neg (by simp)]; exact rep_none a l B d (i + 1)

section
variable (a : Int) (l : List Int) (hb : Bytes l) (hl : l.length ≤ 8) (ha : 3 ≤ a ∧ a ≤ 37) (hx : ∀ x ∈ l, x < a) (A B : Int) (hA : A = S1 l l.length % a) (hB : B = S2 l l.length % a)
include hb hl ha hx hA hB

theorem A_in : (0 ≤ A ∧ A < a) ∧ (0 ≤ B ∧ B < a) :=
  ⟨⟨hA ▸ Int.emod_nonneg _ (by omega), hA ▸ Int.emod_lt_of_pos _ (by omega)⟩, ⟨hB ▸ Int.emod_nonneg _ (by omega), hB ▸ Int.emod_lt_of_pos _ (by omega)⟩⟩

/-- A letter at a place puts the word right. -/
theorem chk_set (i : Nat) (hi : i < l.length) (n : Int) : chk a (l.set i n) = decide (a ∣ A + (n - rd l (i : Int)) ∧ a ∣ B + ((i : Int) + 1) * (n - rd l (i : Int))) := by
  unfold chk
  rw [List.length_set, S1_set l i n hi, S2_set l i n hi, if_pos hi, if_pos hi]
  have h1 : a ∣ S1 l l.length - A := by rw [hA]; exact Int.dvd_self_sub_emod
  have h2 : a ∣ S2 l l.length - B := by rw [hB]; exact Int.dvd_self_sub_emod
  apply decide_eq_decide.2
  constructor
  · rintro ⟨e1, e2⟩
    refine ⟨?_, ?_⟩
    · have := Int.dvd_sub (Int.dvd_of_emod_eq_zero e1) h1
      rwa [show S1 l l.length + (n - rd l (i : Int)) - (S1 l l.length - A) = A + (n - rd l (i : Int)) by omega] at this
    · have := Int.dvd_sub (Int.dvd_of_emod_eq_zero e2) h2
      rwa [show S2 l l.length + ((i : Int) + 1) * (n - rd l (i : Int)) - (S2 l l.length - B) = B + ((i : Int) + 1) * (n - rd l (i : Int)) by omega] at this
  · rintro ⟨e1, e2⟩
    refine ⟨?_, ?_⟩
    · have := Int.dvd_add e1 h1
      rw [show A + (n - rd l (i : Int)) + (S1 l l.length - A) = S1 l l.length + (n - rd l (i : Int)) by omega] at this
      exact Int.emod_eq_zero_of_dvd this
    · have := Int.dvd_add e2 h2
      rw [show B + ((i : Int) + 1) * (n - rd l (i : Int)) + (S2 l l.length - B) = S2 l l.length + ((i : Int) + 1) * (n - rd l (i : Int)) by omega] at this
      exact Int.emod_eq_zero_of_dvd this
/-- The letters that put it right: one, or none. -/
theorem chk_iff (h0 : ¬ (A = 0 ∧ B = 0)) (i : Nat) (hi : i < l.length) (n : Int) (hn : 0 ≤ n ∧ n < a) :
    chk a (l.set i n) = true ↔ (A ≠ 0 ∧ (((i : Int) + 1) * A - B) % a = 0) ∧ n = (rd l (i : Int) - A) % a := by
  rw [chk_set a l hb hl ha hx A B hA hB i hi n, decide_eq_true_eq]
  have hin := A_in a l hb hl ha hx A B hA hB
  generalize rd l (i : Int) = r
  constructor
  · rintro ⟨e1, e2⟩
    have e3 : a ∣ ((i : Int) + 1) * A - B := by
      have := Int.dvd_sub (Int.dvd_mul_of_dvd_right (b := (i : Int) + 1) e1) e2
      rw [show ((i : Int) + 1) * (A + (n - r)) - (B + ((i : Int) + 1) * (n - r)) = ((i : Int) + 1) * A - B by rw [Int.mul_add]; omega] at this
      exact this
    refine ⟨⟨fun hz => ?_, Int.emod_eq_zero_of_dvd e3⟩, ?_⟩
    · subst hz
      rw [show ((i : Int) + 1) * 0 - B = -B by omega, Int.dvd_neg] at e3
      have e4 := Int.emod_eq_zero_of_dvd e3
      rw [Int.emod_eq_of_lt hin.2.1 hin.2.2] at e4
      exact h0 ⟨rfl, e4⟩
    · have : n % a = n := Int.emod_eq_of_lt hn.1 hn.2
      rw [← this, Int.emod_eq_emod_iff_emod_sub_eq_zero]
      rw [show n - (r - A) = A + (n - r) by omega]
      exact Int.emod_eq_zero_of_dvd e1
  · rintro ⟨⟨hz, e3⟩, rfl⟩
    have e1 : a ∣ A + ((r - A) % a - r) := by
      have := Int.dvd_self_sub_emod (x := r - A) (m := a)
      rw [← Int.dvd_neg] at this
      rwa [show -(r - A - (r - A) % a) = A + ((r - A) % a - r) by omega] at this
    refine ⟨e1, ?_⟩
    have := Int.dvd_sub (Int.dvd_mul_of_dvd_right (b := (i : Int) + 1) e1) (Int.dvd_of_emod_eq_zero e3)
    rwa [show ((i : Int) + 1) * (A + ((r - A) % a - r)) - (((i : Int) + 1) * A - B) = B + ((i : Int) + 1) * ((r - A) % a - r) by rw [Int.mul_add]; omega] at this

theorem chk_set_bytes (i : Nat) (n : Int) (hn : 0 ≤ n ∧ n < a) : Bytes (l.set i n) := by
  intro x hx
  rcases List.mem_or_eq_of_mem_set hx with h | rfl
  · exact hb x h
  · omega
/-- The inner search: from letter n on. -/
theorem inner_ev (h0 : ¬ (A = 0 ∧ B = 0)) (i : Nat) (hi : i < l.length) (L : Int) (hL : L = (l.length : Int)) (out : Ev (fun k => impl_RepairWord.l0 k a l L ((i + 1 : Nat) : Int)) (rep a l A B (l.length - (i + 1)) (i + 1))) :
    Ev (fun k => impl_RepairWord.l1 k a l (i : Int) L (i : Int) a 0) (rep a l A B (l.length - i) i) := by
  have hd : l.length - i = (l.length - (i + 1)) + 1 := by omega
  obtain ⟨m, hm⟩ : ∃ m : Nat, a = (m : Int) := ⟨a.toNat, by omega⟩
  refine iter (F := fun k (s : Int) => impl_RepairWord.l1 k a l (i : Int) L (i : Int) a s) (fun n s => s = (n : Int) ∧ ∀ j : Nat, j < n → chk a (l.set i (j : Int)) = false) _ m ?_ ?_ 0 0 (by omega) ⟨rfl, fun j hj => by omega⟩
  · rintro n s hn ⟨rfl, hp⟩
    have hbs := chk_set_bytes a l hb hl ha hx A B hA hB i (n : Int) (by omega)
    have he := isChecked_ev a (by omega) (l.set i (n : Int)) hbs (by simpa using hl)
    have hmod : ((n : Int) % 256) = (n : Int) := by omega
    cases hc : chk a (l.set i (n : Int)) with
    | true =>
      rw [hc] at he
      have := (chk_iff a l hb hl ha hx A B hA hB h0 i hi (n : Int) (by omega)).1 hc
      refine .inr ?_
      refine Ev.step (fun k => by rw [impl_RepairWord.l1]) ?_
      refine pos (by omega) (bindc (by unfold impl_Word_uint8_72.f; rw [if_pos (by omega)]) (pos (by omega) (pos (by omega) ?_)))
      simp only [Option.bind_some, Int.toNat_natCast, hmod]
      refine Ev.bind he (pos rfl (cons ?_))
      rw [hd]; unfold rep
      rw [if_pos this.1, ← this.2, hmod]
    | false =>
      rw [hc] at he
      refine .inl ⟨((n + 1 : Nat) : Int), ⟨rfl, fun j hj => ?_⟩, fun hk => ?_⟩
      · rcases Nat.lt_or_ge j n with h | h
        · exact hp j h
        · obtain rfl : j = n := by omega
          exact hc
      · refine Ev.step (fun k => by rw [impl_RepairWord.l1]) ?_
        refine pos (by omega) (bindc (by unfold impl_Word_uint8_72.f; rw [if_pos (by omega)]) (pos (by omega) (pos (by omega) ?_)))
        simp only [Option.bind_some, Int.toNat_natCast, hmod]
        refine Ev.bind he (neg (by decide) ?_)
        rw [w64 (x := (n : Int) + 1) (by omega) (by omega)]; exact hk
  · rintro s ⟨rfl, hp⟩
    refine Ev.step (fun k => by rw [impl_RepairWord.l1]) ?_
    refine neg (by omega) ?_
    rw [w64 (x := (i : Int) + 1) (by omega) (by omega), hd]
    have hno : ¬ (A ≠ 0 ∧ (((i : Int) + 1) * A - B) % a = 0) := by
      intro hy
      have hr0 : 0 ≤ (rd l (i : Int) - A) % a := Int.emod_nonneg _ (by omega)
      have hr1 : (rd l (i : Int) - A) % a < a := Int.emod_lt_of_pos _ (by omega)
      have h1 := (chk_iff a l hb hl ha hx A B hA hB h0 i hi ((rd l (i : Int) - A) % a) ⟨hr0, hr1⟩).2 ⟨hy, rfl⟩
      have h2 := hp ((rd l (i : Int) - A) % a).toNat (by omega)
      rw [Int.toNat_of_nonneg hr0, h1] at h2; cases h2
    unfold rep
    rw [if_neg hno]; exact out
theorem outer_ev (h0 : ¬ (A = 0 ∧ B = 0)) (L : Int) (hL : L = (l.length : Int)) : ∀ d i : Nat, i + d = l.length → Ev (fun k => impl_RepairWord.l0 k a l L (i : Int)) (rep a l A B d i) := by
  intro d
  induction d with
  | zero =>
    intro i hi
    refine Ev.step (fun k => by rw [impl_RepairWord.l0]) ?_
    exact neg (by omega) (cons rfl)
  | succ d ih =>
    intro i hi
    refine Ev.step (fun k => by rw [impl_RepairWord.l0]) ?_
    refine pos (by omega) ?_
    have := inner_ev a l hb hl ha hx A B hA hB h0 i (by omega) L hL (by rw [show l.length - (i + 1) = d by omega]; exact ih (i + 1) (by omega))
    rwa [show l.length - i = d + 1 by omega] at this
theorem spec_ev (h0 : ¬ (A = 0 ∧ B = 0)) : ∀ d i : Nat, i + d = l.length → Ev (fun k => spec_RepairWord.l0 k a l A B l (i : Int)) (rep a l A B d i) := by
  have hin := A_in a l hb hl ha hx A B hA hB
  by_cases hz : A = 0
  · intro d i hi
    subst hz
    rw [rep_none]
    refine Ev.step (fun k => by rw [spec_RepairWord.l0]) ?_
    by_cases hlt : (i : Int) < (l.length : Int)
    · refine pos hlt ?_
      refine Ev.step (fun k => by rw [spec_RepairWord.j2]) ?_
      exact neg (by decide) (cons rfl)
    · refine neg hlt ?_
      refine Ev.step (fun k => by rw [spec_RepairWord.j2]) ?_
      exact neg (by decide) (cons rfl)
  intro d
  induction d with
  | zero =>
    intro i hi
    refine Ev.step (fun k => by rw [spec_RepairWord.l0]) ?_
    refine neg (by omega) ?_
    refine Ev.step (fun k => by rw [spec_RepairWord.j2]) ?_
    exact neg (by decide) (cons rfl)
  | succ d ih =>
    intro i hi
    have hr := rd_in l hb i
    have hM0 : 0 ≤ ((i : Int) + 1) * A := Int.mul_nonneg (by omega) hin.1.1
    have hM1 : ((i : Int) + 1) * A ≤ 10 * 37 := Int.mul_le_mul (by omega) (by omega) hin.1.1 (by omega)
    refine Ev.step (fun k => by rw [spec_RepairWord.l0]) ?_
    refine pos (by omega) ?_
    refine Ev.step (fun k => by rw [spec_RepairWord.j2]) ?_
    refine pos (by simpa using hz) ?_
    rw [w64 (x := (i : Int) + 1) (by omega) (by omega)]
    obtain ⟨M, hM⟩ : ∃ M, M = ((i : Int) + 1) * A := ⟨_, rfl⟩
    rw [← hM] at hM0 hM1 ⊢
    rw [w64 (x := M) (by omega) (by omega), w64 (x := M - B) (by omega) (by omega)]
    refine bindc (mod_ev (M - B) a (by omega) (by omega) (by omega)) ?_
    by_cases hc : (M - B) % a = 0
    · refine pos hc (pos (by omega) (pos (by omega) ?_))
      rw [w64 (x := rd l (i : Int)) (by omega) (by omega), w64 (x := rd l (i : Int) - A) (by omega) (by omega)]
      refine bindc (mod_ev (rd l (i : Int) - A) a (by omega) (by omega) (by omega)) (pos (by omega) (cons ?_))
      unfold rep; rw [← hM, if_pos ⟨hz, hc⟩, Int.toNat_natCast]
    · refine neg hc ?_
      unfold rep; rw [← hM, if_neg (fun e => hc e.2)]
      exact ih (i + 1) (by omega)
end

theorem repair_both (a : Int) (l : List Int) (hb : Bytes l) (hn : l.length ≤ 140737488351232) : ∃ r : List Int × Int × Int, r.1.length ≤ 8 ∧ Ev (fun k => spec_RepairWord.f k a l) r ∧ Ev (fun k => impl_RepairWord.f k a l) r := by
  unfold spec_RepairWord.f impl_RepairWord.f
  have hs := spec_checked_ev a l hb hn
  have hi := impl_checked_ev a l hb hn
  by_cases h : checkC a l = 0
  · rw [h] at hs hi
    obtain ⟨ha, hl, hx, hla, hp⟩ := checkC_ok h
    have ss := spec_synd_ev a (by omega) l hn
    rw [synd_eq l hb a l.length (by omega)] at ss
    have ic := isChecked_ev a (by omega) l hb (by omega)
    obtain ⟨A, hA⟩ : ∃ A, A = S1 l l.length % a := ⟨_, rfl⟩
    obtain ⟨B, hB⟩ : ∃ B, B = S2 l l.length % a := ⟨_, rfl⟩
    unfold chk at ic
    rw [← hA, ← hB] at ss ic
    by_cases h0 : A = 0 ∧ B = 0
    · obtain ⟨rfl, rfl⟩ := h0
      refine ⟨(l, -1, 0), by simp only; omega, Ev.bind hs (pos rfl (Ev.bind ss ?_)), Ev.bind hi (pos rfl (Ev.bind ic (pos (by decide) (bindc (by unfold impl_Word_uint8_72.f; rw [if_pos (by omega)]) (cons rfl)))))⟩
      simp only [Option.bind_some, List.nil_append]
      refine pos (by simp only [List.length_nil]; omega) (pos trivial ?_)
      refine Ev.step (fun k => by rw [spec_RepairWord.j0]) ?_
      exact pos (by decide) (cons rfl)
    · refine ⟨rep a l A B l.length 0, rep_len a l A B (by omega) _ _, Ev.bind hs (pos rfl (Ev.bind ss ?_)), Ev.bind hi (pos rfl (Ev.bind ic (neg (by simpa using h0) ?_)))⟩
      · simp only [Option.bind_some, List.nil_append]
        refine pos (by simp only [List.length_nil]; omega) ?_
        have hsp := spec_ev a l hb (by omega) ha hx A B hA hB h0 l.length 0 (by omega)
        by_cases hz : A = 0
        · refine pos hz ?_
          refine Ev.step (fun k => by rw [spec_RepairWord.j0]) ?_
          exact neg (by simp; exact fun e => h0 ⟨hz, e⟩) hsp
        · refine neg hz ?_
          refine Ev.step (fun k => by rw [spec_RepairWord.j0]) ?_
          exact neg (by decide) hsp
      · exact outer_ev a l hb (by omega) ha hx A B hA hB h0 _ rfl l.length 0 (by omega)
  · exact ⟨([], 0, checkC a l), by simp, Ev.bind hs (neg h (cons rfl)), Ev.bind hi (neg h (cons rfl))⟩
theorem FnExactRepairWord : laws_FnExactRepairWord.Pure := by
  intro a l _ _ hn hw
  apply Ev.rounds
  unfold laws_FnExactRepairWord.f
  by_cases c1 : (l.length : Int) > 1048576
  · exact pos c1 (cons rfl)
  obtain ⟨r, hr, hs, hi⟩ := repair_both a l (Bytes.of hw) (by omega)
  have t1 := toWord_ev l (by omega)
  have e1 := eqWord_refl r.1 (by omega)
  have hm := markWord_ev r.1 1 (by omega) (by omega)
  have hh := heldWord_ev r.1.length 1 (by omega) (by omega)
  refine neg c1 (Ev.bind t1 (Ev.bind hs (Ev.bind t1 (Ev.bind hi (Ev.bind e1 (pos rfl (pos rfl ?_)))))))
  refine Ev.step (fun k => by rw [laws_FnExactRepairWord.j0]) ?_
  refine neg (by simp) (Ev.bind t1 (Ev.bind (eqWord_refl l (by omega)) (pos rfl (Ev.bind (markWord_ev l 1 (by omega) (by omega)) (neg (by omega) (Ev.bind e1 (pos rfl (pos rfl ?_))))))))
  refine Ev.step (fun k => by rw [laws_FnExactRepairWord.j1]) ?_
  refine neg (by simp) (Ev.bind hm (Ev.bind hh (neg (by omega) (pos rfl (Ev.bind t1 (Ev.bind hi (Ev.bind e1 (pos rfl (pos rfl ?_)))))))))
  refine Ev.step (fun k => by rw [laws_FnExactRepairWord.j2]) ?_
  exact neg (by simp) (Ev.bind hh (neg (by omega) (pos rfl (cons rfl))))
end Go.Proofs.Ytpidpljngppmiaa.Pure
