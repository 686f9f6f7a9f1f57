/- Both parts read a hoist as the plain lists tell. No condition beyond the list's length and its numbers' kind. -/
import Derived.Test.YtmpkgdgbjhegnaaHoistLib
namespace Go.Proofs.Ytmpkgdgbjhegnaa.Arr
open Go.RowKit Go.Proofs.YtmpkgdgbjhegnaaW.PrintWords Go.Proofs.YtmpkgdgbjhegnaaW.PrintLast Go.Proofs.Ytmpkgdgbjhegnaa.U Go.Proofs.Ytmpkgdgbjhegnaa.B
set_option linter.unusedVariables false
set_option linter.unusedSimpArgs false

theorem in_ev' (a b c : Int) : spec_l00In.f a b c = some (decide (b ≤ a ∧ a ≤ c)) := by
  unfold spec_l00In.f
  by_cases h : b ≤ a
  · rw [if_pos h]; simp [h]
  · rw [if_neg h, decide_eq_false (fun e => h e.1)]
theorem within_ev' (a b c : Int) : impl_within.f a b c = some (decide (b ≤ a ∧ a ≤ c)) := by
  unfold impl_within.f
  by_cases h : b ≤ a
  · rw [if_pos h]; simp [h]
  · rw [if_neg h, decide_eq_false (fun e => h e.1)]
theorem isKind_ev' (a : Int) (h0 : -128 ≤ a) (h1 : a ≤ 127) : impl_isKind.f a = some (decide (0 ≤ a ∧ a ≤ 39)) := by
  unfold impl_isKind.f
  rw [within_ev', w64 (by omega) (by omega)]; rfl
theorem i8w {x : Int} (h0 : -128 ≤ x) (h1 : x ≤ 127) : IntKind.i8.wrap x = x := by
  unfold IntKind.wrap
  simp only [IntKind.signed, IntKind.bits]
  simp
  omega
theorem readH_none {h : List Int} {i : Nat} (hi : i ≤ h.length) (hr : runH h i = none) : readH h = none := by
  unfold readH
  rw [runH_none hr h.length hi]
  split <;> rfl

theorem l02Read_ev (h : List Int) (hn : h.length ≤ 100000000) (hb : ∀ x ∈ h, -128 ≤ x ∧ x ≤ 127) : Ev (fun k => spec_l02Read.f k h) (match readH h with | some o => (o, true) | none => ([], false)) := by
  unfold spec_l02Read.f
  refine bindc (in_ev' _ _ _) ?_
  by_cases hl : 1 ≤ h.length ∧ h.length ≤ 8
  · refine pos (by simpa using (show 1 ≤ (h.length : Int) ∧ (h.length : Int) ≤ 8 by omega)) ?_
    refine iter (F := fun k (s : List Int × Int × Int) => spec_l02Read.l0 k h (h.length : Int) s.1 s.2.1 s.2.2) (fun i s => ∃ st : Nat, s = (s.1, (st : Int), (i : Int)) ∧ runH h i = some (s.1, st) ∧ (i = h.length → st < i)) _ h.length ?_ ?_ 0 ([], 0, 0) (by omega) ⟨0, rfl, rfl, fun e => by omega⟩
    · rintro i ⟨o, a, b⟩ hi ⟨st, e, hr, hlast⟩
      injection e with _ e
      injection e with e1 e2
      subst e1 e2
      dsimp only at hr
      have g := runH_good _ _ _ hr
      have hgl := g.len
      have hgs := g.le
      have hx := hb _ (by rw [rd_get h i hi]; exact List.getElem_mem hi : rd h (i : Int) ∈ h)
      have hnext : runH h (i + 1) = stepH (o, st) (rd h (i : Int)) := by rw [runH, hr]; rfl
      dsimp only at hnext ⊢
      generalize hX : rd h (i : Int) = x at *
      have fail : stepH (o, st) x = none → readH h = none := fun e => readH_none (i := i + 1) (by omega) (hnext.trans e)
      by_cases h10 : x = -10
      · by_cases hst : (i : Int) = (st : Int)
        · refine .inr (Ev.step (f := fun _ => some ([], false)) (fun k => ?_) (cons ?_))
          · simp only [spec_l02Read.l0, hX]
            rw [if_pos (by omega), if_pos (by omega), if_pos (by omega), if_pos h10, if_pos hst]
          · rw [fail (by unfold stepH; rw [if_pos h10, if_pos (by dsimp only; omega)])]
        · by_cases hla : i + 1 = h.length
          · refine .inr (Ev.step (f := fun _ => some ([], false)) (fun k => ?_) (cons ?_))
            · simp only [spec_l02Read.l0, hX]
              rw [if_pos (by omega), if_pos (by omega), if_pos (by omega), if_pos h10, if_neg hst, w64 (by omega) (by omega), if_pos (by omega)]
            · have : readH h = none := by
                unfold readH
                rw [if_pos hl, ← hla, hnext]
                unfold stepH
                rw [if_pos h10, if_neg (by dsimp only; omega)]
                simp
              rw [this]
          · refine .inl ⟨(o ++ [x], ((o.length + 1 : Nat) : Int), ((i + 1 : Nat) : Int)), ⟨o.length + 1, rfl, by rw [hnext]; unfold stepH; rw [if_pos h10, if_neg (by dsimp only; omega)], fun e => by omega⟩, Ev.step fun k => ?_⟩
            simp only [spec_l02Read.l0, hX]
            rw [if_pos (by omega), if_pos (by omega), if_pos (by omega), if_pos h10, if_neg hst, w64 (by omega) (by omega), if_neg (by omega), if_pos (by omega), w64 (by omega) (by omega)]
            rw [show ((o.length + 1 : Nat) : Int) = (i : Int) + 1 by omega, show ((i + 1 : Nat) : Int) = (i : Int) + 1 by omega]
      · by_cases hk : 0 ≤ x ∧ x ≤ 39
        · refine .inl ⟨(o ++ [x], (st : Int), ((i + 1 : Nat) : Int)), ⟨st, rfl, by rw [hnext]; unfold stepH; rw [if_neg h10, if_pos hk], fun e => by omega⟩, fun hgo => ?_⟩
          refine Ev.step (f := fun k => spec_l02Read.j1 k h (h.length : Int) o (st : Int) (i : Int) x true) (fun k => ?_) ?_
          · simp only [spec_l02Read.l0, hX]
            rw [if_pos (by omega), if_pos (by omega), if_pos (by omega), if_neg h10, if_pos (by omega), decide_eq_true (by omega)]
          · refine Ev.step (fun k => ?_) hgo
            simp only [spec_l02Read.j1]
            rw [if_pos trivial, if_pos (by omega), w64 (by omega) (by omega), show ((i + 1 : Nat) : Int) = (i : Int) + 1 by omega]
        · by_cases hs : -4 ≤ x ∧ x ≤ -1
          · have hw : wrap64 (wrap64 ((st : Int) + wrap64 (IntKind.i8.wrap (-x))) - 1) = (st : Int) + -x - 1 := by
              rw [i8w (by omega) (by omega), w64 (x := -x) (by omega) (by omega), w64 (x := (st : Int) + -x) (by omega) (by omega), w64 (by omega) (by omega)]
            by_cases hat : (st : Int) + -x - 1 < o.length
            · refine .inl ⟨(o ++ [rd o ((st : Int) + -x - 1)], (st : Int), ((i + 1 : Nat) : Int)), ⟨st, rfl, by rw [hnext]; unfold stepH; rw [if_neg h10, if_neg hk, if_pos hs, if_pos hat], fun e => by omega⟩, fun hgo => ?_⟩
              refine Ev.step (f := fun k => spec_l02Read.j1 k h (h.length : Int) o (st : Int) (i : Int) x false) (fun k => ?_) ?_
              · simp only [spec_l02Read.l0, hX]
                rw [if_pos (by omega), if_pos (by omega), if_pos (by omega), if_neg h10, if_neg (by omega)]
              · refine Ev.step (f := fun k => spec_l02Read.j2 k h (h.length : Int) o (st : Int) (i : Int) x true) (fun k => ?_) ?_
                · simp only [spec_l02Read.j1]
                  rw [if_neg (by simp), if_pos (by omega), decide_eq_true (by omega)]
                · refine Ev.step (fun k => ?_) hgo
                  simp only [spec_l02Read.j2, hw]
                  rw [if_pos trivial, if_neg (by omega), if_pos (by omega), if_pos hat, if_pos (by omega), w64 (by omega) (by omega), show ((i + 1 : Nat) : Int) = (i : Int) + 1 by omega]
            · refine .inr ?_
              rw [fail (by unfold stepH; rw [if_neg h10, if_neg hk, if_pos hs, if_neg hat])]
              refine Ev.step (f := fun k => spec_l02Read.j1 k h (h.length : Int) o (st : Int) (i : Int) x false) (fun k => ?_) ?_
              · simp only [spec_l02Read.l0, hX]
                rw [if_pos (by omega), if_pos (by omega), if_pos (by omega), if_neg h10, if_neg (by omega)]
              · refine Ev.step (f := fun k => spec_l02Read.j2 k h (h.length : Int) o (st : Int) (i : Int) x true) (fun k => ?_) ?_
                · simp only [spec_l02Read.j1]
                  rw [if_neg (by simp), if_pos (by omega), decide_eq_true (by omega)]
                · refine Ev.step (f := fun _ => some ([], false)) (fun k => ?_) (Ev.now _)
                  simp only [spec_l02Read.j2, hw]
                  rw [if_pos trivial, if_pos (by omega)]
          · refine .inr ?_
            rw [fail (by unfold stepH; rw [if_neg h10, if_neg hk, if_neg hs])]
            refine Ev.step (f := fun k => spec_l02Read.j1 k h (h.length : Int) o (st : Int) (i : Int) x false) (fun k => ?_) ?_
            · simp only [spec_l02Read.l0, hX]
              rw [if_pos (by omega), if_pos (by omega), if_pos (by omega), if_neg h10]
              by_cases h0 : 0 ≤ x
              · rw [if_pos h0, decide_eq_false (by omega)]
              · rw [if_neg (by omega)]
            · refine Ev.step (f := fun k => spec_l02Read.j2 k h (h.length : Int) o (st : Int) (i : Int) x false) (fun k => ?_) ?_
              · simp only [spec_l02Read.j1]
                rw [if_neg (by simp)]
                by_cases h0 : x < 0
                · rw [if_pos h0, decide_eq_false (by omega)]
                · rw [if_neg h0]
              · refine Ev.step (f := fun _ => some ([], false)) (fun k => ?_) (Ev.now _)
                simp only [spec_l02Read.j2]
                rw [if_neg (by simp)]
    · rintro ⟨o, a, b⟩ ⟨st, e, hr, hlast⟩
      injection e with _ e
      injection e with e1 e2
      subst e1 e2
      dsimp only at hr
      have g := runH_good _ _ _ hr
      have hgl := g.len
      have hst := hlast rfl
      refine Ev.step (f := fun _ => some (o, true)) (fun k => ?_) (cons ?_)
      · simp only [spec_l02Read.l0]
        rw [if_neg (by omega)]
      · have : readH h = some o := by
          unfold readH
          rw [if_pos hl, hr]
          dsimp only
          rw [if_pos (by omega)]
        rw [this]
  · refine neg (by simpa using (show ¬ (1 ≤ (h.length : Int) ∧ (h.length : Int) ≤ 8) by omega)) (cons ?_)
    unfold readH
    rw [if_neg hl]
theorem okH_none {h : List Int} {i : Nat} (hi : i ≤ h.length) (hr : runH h i = none) : okH h = false := by
  unfold okH; rw [readH_none hi hr]; rfl
/-- What the program's reading answers. -/
def implRead (h : List Int) : List Int × Bool := match runH h h.length with | some (o, _) => (o, okH h) | none => ([], false)
theorem implRead_snd (h : List Int) : (implRead h).2 = okH h := by
  unfold implRead
  cases hr : runH h h.length with
  | none => exact (okH_none (Nat.le_refl _) hr).symm
  | some st => rfl
theorem implRead_fst {h : List Int} (hk : okH h = true) : readH h = some (implRead h).1 := by
  unfold okH readH at hk
  unfold implRead readH
  split at hk
  · rename_i hl
    rw [if_pos hl]
    cases hr : runH h h.length with
    | none => rw [hr] at hk; cases hk
    | some st =>
      obtain ⟨o, s⟩ := st
      rw [hr] at hk
      dsimp only at hk ⊢
      split at hk
      · rename_i h2; rw [if_pos h2]
      · cases hk
  · cases hk
theorem meaning_ev (h : List Int) (hn : h.length ≤ 100000000) (hb : ∀ x ∈ h, -128 ≤ x ∧ x ≤ 127) : Ev (fun k => impl_Hoist_meaning.f k h) (implRead h) := by
  unfold impl_Hoist_meaning.f
  refine iter (F := fun k (s : List Int × Int × Int) => impl_Hoist_meaning.l0 k h s.1 s.2.1 h (h.length : Int) s.2.2) (fun i s => ∃ st : Nat, s = (s.1, (st : Int), (i : Int)) ∧ runH h i = some (s.1, st)) _ h.length ?_ ?_ 0 ([], 0, 0) (by omega) ⟨0, rfl, rfl⟩
  · rintro i ⟨o, a, b⟩ hi ⟨st, e, hr⟩
    injection e with _ e
    injection e with e1 e2
    subst e1 e2
    dsimp only at hr
    have g := runH_good _ _ _ hr
    have hgl := g.len
    have hgs := g.le
    have hx := hb _ (by rw [rd_get h i hi]; exact List.getElem_mem hi : rd h (i : Int) ∈ h)
    have hnext : runH h (i + 1) = stepH (o, st) (rd h (i : Int)) := by rw [runH, hr]; rfl
    dsimp only at hnext ⊢
    generalize hX : rd h (i : Int) = x at *
    have fail : stepH (o, st) x = none → implRead h = ([], false) := fun e => by
      unfold implRead
      rw [runH_none (hnext.trans e) h.length (by omega)]
    by_cases h10 : x = -10
    · by_cases hst : (st : Int) = (o.length : Int)
      · refine .inr (Ev.step (f := fun _ => some ([], false)) (fun k => ?_) (cons ?_))
        · simp only [impl_Hoist_meaning.l0, hX]
          rw [if_pos (by omega), if_pos (by omega), if_pos (by omega), if_pos h10, if_pos hst]
        · rw [fail (by unfold stepH; rw [if_pos h10, if_pos (by dsimp only; omega)])]
      · refine .inl ⟨(o ++ [x], ((o.length + 1 : Nat) : Int), ((i + 1 : Nat) : Int)), ⟨o.length + 1, rfl, by rw [hnext]; unfold stepH; rw [if_pos h10, if_neg (by dsimp only; omega)]⟩, Ev.step fun k => ?_⟩
        simp only [impl_Hoist_meaning.l0, hX]
        rw [if_pos (by omega), if_pos (by omega), if_pos (by omega), if_pos h10, if_neg hst, if_pos (by omega), w64 (by omega) (by omega)]
        simp only [Option.bind_some]
        rw [show ((i + 1 : Nat) : Int) = (i : Int) + 1 by omega, show ((o ++ [x]).length : Int) = ((o.length + 1 : Nat) : Int) by simp]
    · by_cases hs : -4 ≤ x ∧ x ≤ -1
      · have hk : ¬ (0 ≤ x ∧ x ≤ 39) := by omega
        have hw : wrap64 (wrap64 ((st : Int) - wrap64 x) - 1) = (st : Int) + -x - 1 := by
          rw [w64 (x := x) (by omega) (by omega), w64 (x := (st : Int) - x) (by omega) (by omega), w64 (by omega) (by omega)]; omega
        have hl0 : ∀ k, impl_Hoist_meaning.l0 (k + 1) h o (st : Int) h (h.length : Int) (i : Int) = impl_Hoist_meaning.j1 k h o (st : Int) x ((st : Int) + -x - 1) h (h.length : Int) (i : Int) (decide ((st : Int) + -x - 1 < o.length)) := fun k => by
          simp only [impl_Hoist_meaning.l0, hX, hw]
          rw [if_pos (by omega), if_pos (by omega), if_pos (by omega), if_neg h10, w64 (x := x) (by omega) (by omega), within_ev', decide_eq_true hs]
          rfl
        by_cases hat : (st : Int) + -x - 1 < o.length
        · have hkind := g.kind ((st : Int) + -x - 1).toNat (by omega) (by omega)
          rw [Int.toNat_of_nonneg (by omega)] at hkind
          refine .inl ⟨(o ++ [rd o ((st : Int) + -x - 1)], (st : Int), ((i + 1 : Nat) : Int)), ⟨st, rfl, by rw [hnext]; unfold stepH; rw [if_neg h10, if_neg hk, if_pos hs, if_pos hat]⟩, fun hgo => ?_⟩
          refine Ev.step hl0 (Ev.step (fun k => ?_) hgo)
          simp only [impl_Hoist_meaning.j1]
          rw [if_pos (by simpa using hat), if_pos (by omega), if_pos hat, isKind_ev' _ (by omega) (by omega), decide_eq_true hkind]
          simp only [Option.bind_some]
          rw [if_pos trivial, if_pos (by omega), w64 (by omega) (by omega), show ((i + 1 : Nat) : Int) = (i : Int) + 1 by omega]
        · refine .inr ?_
          rw [fail (by unfold stepH; rw [if_neg h10, if_neg hk, if_pos hs, if_neg hat])]
          refine Ev.step hl0 (Ev.step (f := fun _ => some ([], false)) (fun k => ?_) (Ev.now _))
          simp only [impl_Hoist_meaning.j1]
          rw [if_neg (by simpa using hat), isKind_ev' _ (by omega) (by omega), decide_eq_false hk]
          rfl
      · have hl0 : ∀ k, impl_Hoist_meaning.l0 (k + 1) h o (st : Int) h (h.length : Int) (i : Int) = impl_Hoist_meaning.j1 k h o (st : Int) x (wrap64 (wrap64 ((st : Int) - wrap64 x) - 1)) h (h.length : Int) (i : Int) false := fun k => by
          simp only [impl_Hoist_meaning.l0, hX]
          rw [if_pos (by omega), if_pos (by omega), if_pos (by omega), if_neg h10, within_ev', decide_eq_false (by rw [w64 (by omega) (by omega)]; exact hs)]
          rfl
        by_cases hk : 0 ≤ x ∧ x ≤ 39
        · refine .inl ⟨(o ++ [x], (st : Int), ((i + 1 : Nat) : Int)), ⟨st, rfl, by rw [hnext]; unfold stepH; rw [if_neg h10, if_pos hk]⟩, fun hgo => ?_⟩
          refine Ev.step hl0 (Ev.step (fun k => ?_) hgo)
          simp only [impl_Hoist_meaning.j1]
          rw [if_neg (by simp), isKind_ev' _ (by omega) (by omega), decide_eq_true hk]
          simp only [Option.bind_some]
          rw [if_pos trivial, if_pos (by omega), w64 (by omega) (by omega), show ((i + 1 : Nat) : Int) = (i : Int) + 1 by omega]
        · refine .inr ?_
          rw [fail (by unfold stepH; rw [if_neg h10, if_neg hk, if_neg hs])]
          refine Ev.step hl0 (Ev.step (f := fun _ => some ([], false)) (fun k => ?_) (Ev.now _))
          simp only [impl_Hoist_meaning.j1]
          rw [if_neg (by simp), isKind_ev' _ (by omega) (by omega), decide_eq_false hk]
          rfl
  · rintro ⟨o, a, b⟩ ⟨st, e, hr⟩
    injection e with _ e
    injection e with e1 e2
    subst e1 e2
    dsimp only at hr
    have g := runH_good _ _ _ hr
    have hgl := g.len
    refine Ev.step (f := fun _ => some (implRead h)) (fun k => ?_) (Ev.now _)
    simp only [impl_Hoist_meaning.l0]
    rw [if_neg (by omega)]
    unfold impl_size_int8.f
    simp only [Option.bind_some, within_ev']
    unfold implRead okH readH
    rw [hr]
    dsimp only
    by_cases hl : 1 ≤ h.length ∧ h.length ≤ 8
    · rw [if_pos (by simpa using (show 1 ≤ (h.length : Int) ∧ (h.length : Int) ≤ 8 by omega)), if_pos hl]
      by_cases h2 : st < o.length
      · rw [if_pos h2, decide_eq_true (by omega)]; rfl
      · rw [if_neg h2, decide_eq_false (by omega)]; rfl
    · rw [if_neg (by simpa using (show ¬ (1 ≤ (h.length : Int) ∧ (h.length : Int) ≤ 8) by omega)), if_neg hl]; rfl
end Go.Proofs.Ytmpkgdgbjhegnaa.Arr
