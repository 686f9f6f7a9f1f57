/- What a list of numbers means as a hoist: in plain lists, and that both parts answer so. No condition beyond the list's length. -/
import Derived.Test.YtmpkgdgbjhegnaaU
import Derived.Test.YtmpkgdgbjhegnaaPBx1
import Derived.Test.YtmpkgdgbjhegnaaPBx2
namespace Go.Proofs.Ytmpkgdgbjhegnaa.Arr
open Go.RowKit Go.Proofs.YtmpkgdgbjhegnaaW.PrintWords Go.Proofs.YtmpkgdgbjhegnaaW.PrintLast Go.Proofs.Ytmpkgdgbjhegnaa.U Go.Proofs.Ytmpkgdgbjhegnaa.B
set_option linter.unusedVariables false
set_option linter.unusedSimpArgs false

/-- One number more: what is read so far, and where the group begins. -/
def stepH (st : List Int × Nat) (x : Int) : Option (List Int × Nat) :=
  if x = -10 then (if st.2 = st.1.length then none else some (st.1 ++ [x], st.1.length + 1))
  else if 0 ≤ x ∧ x ≤ 39 then some (st.1 ++ [x], st.2)
  else if -4 ≤ x ∧ x ≤ -1 then (if (st.2 : Int) + -x - 1 < st.1.length then some (st.1 ++ [rd st.1 ((st.2 : Int) + -x - 1)], st.2) else none)
  else none
def runH (h : List Int) : Nat → Option (List Int × Nat)
  | 0 => some ([], 0)
  | i + 1 => (runH h i).bind fun st => stepH st (rd h (i : Int))
/-- What a list means, if it is a hoist. -/
def readH (h : List Int) : Option (List Int) :=
  if 1 ≤ h.length ∧ h.length ≤ 8 then (match runH h h.length with | some (o, s) => if s < o.length then some o else none | none => none) else none
def okH (h : List Int) : Bool := (readH h).isSome
theorem runH_none {h : List Int} {i : Nat} (hi : runH h i = none) : ∀ n, i ≤ n → runH h n = none
  | 0, hn => by obtain rfl : i = 0 := by omega
                exact hi
  | n + 1, hn => by
    rcases Nat.lt_or_ge i (n + 1) with h1 | h1
    · rw [runH, runH_none hi n (by omega)]; rfl
    · obtain rfl : i = n + 1 := by omega
      exact hi
/-- What holds of what is read. -/
structure GoodH (h : List Int) (i : Nat) (o : List Int) (s : Nat) : Prop where
  len : o.length = i
  le : s ≤ i
  kind : ∀ j : Nat, s ≤ j → j < i → 0 ≤ rd o (j : Int) ∧ rd o (j : Int) ≤ 39
  old : ∀ j : Nat, j < i → rd h (j : Int) = -10 ∨ (0 ≤ rd h (j : Int) ∧ rd h (j : Int) ≤ 39) ∨ (-4 ≤ rd h (j : Int) ∧ rd h (j : Int) ≤ -1)
theorem rd_app_left (l m : List Int) (j : Nat) (hj : j < l.length) : rd (l ++ m) (j : Int) = rd l (j : Int) := by
  rw [rd_get l j hj, rd_get _ j (by simp; omega), List.getElem_append_left hj]
theorem rd_app_end (l : List Int) (x : Int) : rd (l ++ [x]) (l.length : Int) = x := by
  rw [rd_get _ l.length (by simp)]
  simp
theorem runH_good {h : List Int} : ∀ (i : Nat) (o : List Int) (s : Nat), runH h i = some (o, s) → GoodH h i o s
  | 0, o, s, e => by
    simp only [runH, Option.some.injEq, Prod.mk.injEq] at e
    obtain ⟨rfl, rfl⟩ := e
    exact ⟨rfl, Nat.le_refl _, fun j _ hj => absurd hj (by omega), fun j hj => absurd hj (by omega)⟩
  | i + 1, o, s, e => by
    rw [runH] at e
    cases hr : runH h i with
    | none => rw [hr] at e; cases e
    | some st =>
      obtain ⟨o1, s1⟩ := st
      rw [hr, Option.bind_some] at e
      have g := runH_good i o1 s1 hr
      unfold stepH at e
      dsimp only at e
      have app : ∀ y : Int, GoodH h i o1 s1 → 0 ≤ y ∧ y ≤ 39 → (rd h (i : Int) = -10 ∨ (0 ≤ rd h (i : Int) ∧ rd h (i : Int) ≤ 39) ∨ (-4 ≤ rd h (i : Int) ∧ rd h (i : Int) ≤ -1)) → GoodH h (i + 1) (o1 ++ [y]) s1 := fun y g hy ho =>
        ⟨by simp [g.len], by have := g.le; omega, fun j h1 h2 => by
          rcases Nat.lt_or_ge j i with hj | hj
          · rw [rd_app_left _ _ j (by rw [g.len]; exact hj)]; exact g.kind j h1 hj
          · obtain rfl : j = o1.length := by rw [g.len]; omega
            rw [rd_app_end]; exact hy, fun j hj => by
          rcases Nat.lt_or_ge j i with h3 | h3
          · exact g.old j h3
          · obtain rfl : j = i := by omega
            exact ho⟩
      split at e
      · rename_i hx
        split at e
        · cases e
        · simp only [Option.some.injEq, Prod.mk.injEq] at e
          obtain ⟨rfl, rfl⟩ := e
          exact ⟨by simp [g.len], by rw [g.len]; exact Nat.le_refl _, fun j h1 h2 => by rw [g.len] at h1; omega, fun j hj => by
            rcases Nat.lt_or_ge j i with h3 | h3
            · exact g.old j h3
            · obtain rfl : j = i := by omega
              exact Or.inl hx⟩
      · split at e
        · rename_i hx
          simp only [Option.some.injEq, Prod.mk.injEq] at e
          obtain ⟨rfl, rfl⟩ := e
          exact app _ g hx (Or.inr (Or.inl hx))
        · split at e
          · rename_i hx
            split at e
            · rename_i hat
              simp only [Option.some.injEq, Prod.mk.injEq] at e
              obtain ⟨rfl, rfl⟩ := e
              have hk := g.kind ((s1 : Int) + -rd h (i : Int) - 1).toNat (by omega) (by have := g.len; omega)
              rw [Int.toNat_of_nonneg (by omega)] at hk
              exact app _ g hk (Or.inr (Or.inr hx))
            · cases e
          · cases e
theorem okH_len {h : List Int} (hk : okH h = true) : 1 ≤ h.length ∧ h.length ≤ 8 := by
  unfold okH readH at hk
  split at hk
  · assumption
  · cases hk
/-- The numbers of a hoist. -/
theorem okH_num {h : List Int} (hk : okH h = true) : ∀ x ∈ h, x = -10 ∨ (0 ≤ x ∧ x ≤ 39) ∨ (-4 ≤ x ∧ x ≤ -1) := by
  intro x hx
  obtain ⟨j, hj, rfl⟩ := List.getElem_of_mem hx
  unfold okH readH at hk
  split at hk
  · cases hr : runH h h.length with
    | none => rw [hr] at hk; cases hk
    | some st =>
      obtain ⟨o, s⟩ := st
      have := (runH_good _ _ _ hr).old j hj
      rwa [rd_get h j hj] at this
  · cases hk
end Go.Proofs.Ytmpkgdgbjhegnaa.Arr
