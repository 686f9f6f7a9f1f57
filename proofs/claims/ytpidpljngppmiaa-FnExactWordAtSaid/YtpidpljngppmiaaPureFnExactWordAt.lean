/- For all letters, lengths and ranks the program's WordAt returns what the reference's returns, in memory of its own. No condition. -/
import Derived.Test.YtpidpljngppmiaaWordLib
import Derived.Test.YtpidpljngppmiaaPAx5
namespace Go.Proofs.Ytpidpljngppmiaa.Pure
open Go.RowKit Go.Proofs.Ytpidpljngppmiaa.A Go.Proofs.YtpidpljngppmiaaW.PrintWords Go.Proofs.YtpidpljngppmiaaW.PrintLast Go.Proofs.Ytpidpljngppmiaa.U
set_option linter.unusedVariables false
set_option linter.unusedSimpArgs false

theorem at_eq : ∀ k x0 x2 x7 x8, spec_l05At.l0 k x0 x2 x7 x8 = impl_wordAt.l0 k x0 x2 x7 x8 := by
  intro k
  induction k with
  | zero => intros; rfl
  | succ k ih => intro x0 x2 x7 x8; simp only [spec_l05At.l0, impl_wordAt.l0, ih]
theorem at_f (k : Nat) (x0 x1 x2 : Int) : spec_l05At.f k x0 x1 x2 = impl_wordAt.f k x0 x1 x2 := by
  simp only [spec_l05At.f, impl_wordAt.f, at_eq]

/-- A product that wraps. -/
def pw (b : Int) : Nat → Int → Int
  | 0, x => x
  | n + 1, x => pw b n (wrap64 (x * b))
theorem spow (b : Int) : ∀ (n : Nat) (x : Int), n ≤ 9223372036854775806 → Ev (fun k => spec_l05Power.l0 k b (n : Int) x) (pw b n x) := by
  intro n
  induction n with
  | zero => intro x _; exact Ev.step (f := fun _ => some x) (fun k => by simp only [spec_l05Power.l0]; rw [if_neg (by omega)]) (cons rfl)
  | succ n ih =>
    intro x hn
    refine Ev.step (f := fun k => spec_l05Power.l0 k b (n : Int) (wrap64 (x * b))) (fun k => ?_) (ih _ (by omega))
    simp only [spec_l05Power.l0]; rw [if_pos (by omega), w64 (x := ((n + 1 : Nat) : Int) - 1) (by omega) (by omega), show ((n + 1 : Nat) : Int) - 1 = (n : Int) by omega]
theorem ipow (b : Int) : ∀ (n m : Nat) (x : Int), n + m ≤ 9223372036854775806 → Ev (fun k => impl_power.l0 k b x ((n + m : Nat) : Int) (m : Int)) (pw b n x) := by
  intro n
  induction n with
  | zero => intro m x _; exact Ev.step (f := fun _ => some x) (fun k => by simp only [impl_power.l0]; rw [if_neg (by omega)]) (cons rfl)
  | succ n ih =>
    intro m x hn
    refine Ev.step (f := fun k => impl_power.l0 k b (wrap64 (x * b)) ((n + (m + 1) : Nat) : Int) ((m + 1 : Nat) : Int)) (fun k => ?_) (ih (m + 1) _ (by omega))
    simp only [impl_power.l0]; rw [if_pos (by omega), w64 (x := (m : Int) + 1) (by omega) (by omega), show n + 1 + m = n + (m + 1) by omega]; rfl

/-- The word is as long as told. -/
theorem at_ev (b : Int) (hb : 2 ≤ b) (n : Nat) (hn : n ≤ 8) : ∀ (m : Nat) (x : Int) (l : List Int), m ≤ n → l.length = n →
    ∃ r, r.length = n ∧ Ev (fun k => impl_wordAt.l0 k b x l ((m : Int) - 1)) r := by
  intro m
  induction m with
  | zero => intro x l _ hl; exact ⟨l, hl, Ev.step (f := fun _ => some l) (fun k => by simp only [impl_wordAt.l0]; rw [if_neg (by omega)]) (cons rfl)⟩
  | succ m ih =>
    intro x l hm hl
    obtain ⟨r, hr, he⟩ := ih (wrap64 (Int.tdiv x b)) (l.set m ((Int.tmod x b) % 256)) (by omega) (by simpa using hl)
    refine ⟨r, hr, Ev.step (f := fun k => impl_wordAt.l0 k b (wrap64 (Int.tdiv x b)) (l.set m ((Int.tmod x b) % 256)) ((m : Int) - 1)) (fun k => ?_) he⟩
    simp only [impl_wordAt.l0]
    rw [show ((m + 1 : Nat) : Int) - 1 = (m : Int) by omega, if_pos (by omega), if_neg (by omega), if_pos (by omega), if_pos (by omega), Int.toNat_natCast, w64 (x := (m : Int) - 1) (by omega) (by omega)]

theorem both (a0 a1 a2 : Int) : ∃ l c, l.length ≤ 8 ∧ Ev (fun k => spec_WordAt.f k a0 a1 a2) (l, c) ∧ Ev (fun k => impl_WordAt.f k a0 a1 a2) (l, c) := by
  by_cases h : (2 ≤ a0 ∧ a0 ≤ 37) ∧ (1 ≤ a1 ∧ a1 ≤ 8)
  · obtain ⟨⟨h1, h2⟩, h3, h4⟩ := h
    obtain ⟨n, rfl⟩ := Int.eq_ofNat_of_zero_le (show 0 ≤ a1 by omega)
    have s1 : spec_l05Asked.f a0 n = some true := by
      unfold spec_l05Asked.f spec_l00In.f; simp [show (2 : Int) ≤ a0 from h1, h2, show (1 : Int) ≤ n from h3, h4]
    have i1 : impl_apartCode.f a0 n 1 = some 0 := by
      unfold impl_apartCode.f impl_within.f impl_unless.f; simp [h1, h2, h3, h4]
    have sp := spow a0 n 1 (by omega)
    have ip := ipow a0 n 0 1 (by omega)
    obtain ⟨r, hr, he⟩ := at_ev a0 h1 n (by omega) n a2 (List.replicate n 0) (Nat.le_refl _) (by simp)
    have ha : Ev (fun k => impl_wordAt.f k a0 n a2) r := by
      unfold impl_wordAt.f
      refine pos (by omega) (pos (by omega) ?_)
      rw [w64 (x := (n : Int) - 1) (by omega) (by omega)]; exact he
    by_cases hr2 : 0 ≤ a2 ∧ a2 ≤ wrap64 (pw a0 n 1 - 1)
    · refine ⟨r, 0, by omega, ?_, ?_⟩
      · unfold spec_WordAt.f
        refine bindc s1 (pos rfl (Ev.bind (a := pw a0 n 1) (g := fun k => spec_l05Power.f k a0 n) (by unfold spec_l05Power.f; exact sp) (bindc (a := true) (by unfold spec_l00In.f; simp [hr2.1, hr2.2]) (pos rfl ?_))))
        exact Ev.bind (g := fun k => spec_l05At.f k a0 n a2) (Ev.congr (fun k => at_f k _ _ _) ha) (cons rfl)
      · unfold impl_WordAt.f
        refine bindc i1 (pos rfl (Ev.bind (a := pw a0 n 1) (g := fun k => impl_power.f k a0 n) (by unfold impl_power.f; exact ip) (bindc (a := true) (by unfold impl_within.f; simp [hr2.1, hr2.2]) (pos rfl ?_))))
        exact Ev.bind ha (cons rfl)
    · have t1 : spec_l00In.f a2 0 (wrap64 (pw a0 n 1 - 1)) = some false := by
        unfold spec_l00In.f
        by_cases c : 0 ≤ a2
        · have : ¬ a2 ≤ wrap64 (pw a0 n 1 - 1) := fun h => hr2 ⟨c, h⟩
          simp [c, this]
        · simp [c]
      have t2 : impl_within.f a2 0 (wrap64 (pw a0 n 1 - 1)) = some false := by
        unfold impl_within.f
        by_cases c : 0 ≤ a2
        · have : ¬ a2 ≤ wrap64 (pw a0 n 1 - 1) := fun h => hr2 ⟨c, h⟩
          simp [c, this]
        · simp [c]
      refine ⟨[], 2, by simp, ?_, ?_⟩
      · unfold spec_WordAt.f
        exact bindc s1 (pos rfl (Ev.bind (a := pw a0 n 1) (g := fun k => spec_l05Power.f k a0 n) (by unfold spec_l05Power.f; exact sp) (bindc t1 (neg (by decide) (cons rfl)))))
      · unfold impl_WordAt.f
        exact bindc i1 (pos rfl (Ev.bind (a := pw a0 n 1) (g := fun k => impl_power.f k a0 n) (by unfold impl_power.f; exact ip) (bindc t2 (neg (by decide) (cons rfl)))))
  · have s1 : spec_l05Asked.f a0 a1 = some false := by
      unfold spec_l05Asked.f spec_l00In.f
      by_cases c1 : a0 ≥ 2 <;> by_cases c2 : a0 ≤ 37 <;> by_cases c3 : a1 ≥ 1 <;> by_cases c4 : a1 ≤ 8 <;> first
        | (exfalso; omega)
        | simp [c1, c2, c3, c4]
    have i1 : impl_apartCode.f a0 a1 1 = some 2 := by
      unfold impl_apartCode.f impl_within.f impl_unless.f
      by_cases c1 : 2 ≤ a0 <;> by_cases c2 : a0 ≤ 37 <;> by_cases c3 : 1 ≤ a1 <;> by_cases c4 : a1 ≤ 8 <;> first
        | (exfalso; omega)
        | simp [c1, c2, c3, c4]
    refine ⟨[], 2, by simp, ?_, ?_⟩
    · unfold spec_WordAt.f; exact bindc s1 (neg (by decide) (cons rfl))
    · unfold impl_WordAt.f; exact bindc i1 (neg (by decide) (cons rfl))

theorem FnExactWordAt : laws_FnExactWordAt.Pure := by
  intro a0 a1 a2 _ _ _
  apply Ev.rounds
  obtain ⟨l, c, hl, hs, hi⟩ := both a0 a1 a2
  have hm := markWord_ev l 1 (by omega) (by omega)
  have hh := heldWord_ev l.length 1 (by omega) (by omega)
  unfold laws_FnExactWordAt.f
  refine Ev.bind hs (Ev.bind hi (Ev.bind (eqWord_refl l (by omega)) (pos rfl ?_)))
  refine Ev.step (fun k => by rw [laws_FnExactWordAt.j0]) ?_
  refine neg (by simp) (Ev.bind hm (Ev.bind hh (neg (by omega) (pos rfl (Ev.bind hi (Ev.bind (eqWord_refl l (by omega)) (pos rfl ?_)))))))
  refine Ev.step (fun k => by rw [laws_FnExactWordAt.j1]) ?_
  exact neg (by simp) (Ev.bind hh (neg (by omega) (pos rfl (cons rfl))))
end Go.Proofs.Ytpidpljngppmiaa.Pure
