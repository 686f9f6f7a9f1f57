/- What hoists need, in plain lists: how many of each piece. No condition. -/
import Derived.Test.YtmpkgdgbjhegnaaHoistLib
import Derived.Test.YtmpkgdgbjhegnaaLockLib
namespace Go.Proofs.Ytmpkgdgbjhegnaa.Arr
open Go.RowKit Go.Proofs.YtmpkgdgbjhegnaaW.PrintWords Go.Proofs.YtmpkgdgbjhegnaaW.PrintLast Go.Proofs.Ytmpkgdgbjhegnaa.U Go.Proofs.Ytmpkgdgbjhegnaa.B
set_option linter.unusedVariables false
set_option linter.unusedSimpArgs false

/-- The numbers of a hoist. -/
def NumH (x : Int) : Prop := x = -10 ∨ (0 ≤ x ∧ x ≤ 39) ∨ (-4 ≤ x ∧ x ≤ -1)
/-- Where a number's piece is counted. -/
def slot (x : Int) : Nat := if 0 ≤ x then x.toNat else 40 + (-x - 1).toNat
theorem slot_lt {x : Int} (h : NumH x) (hx : x ≠ -10) : slot x < 44 := by
  unfold slot; rcases h with h | h | h <;> (try split) <;> omega
theorem slot_flag {x : Int} (h0 : 0 ≤ x) : slot x = x.toNat := if_pos h0
theorem slot_sub {x : Int} (h0 : x < 0) : slot x = 40 + (-x - 1).toNat := if_neg (by omega)
/-- So many more of a number's piece. -/
def bump (L : List Int) (x t : Int) : List Int := if x = -10 then L else L.set (slot x) (rd L (slot x : Nat) + t)
theorem bump_length (L : List Int) (x t : Int) : (bump L x t).length = L.length := by
  unfold bump; split <;> simp
theorem rd_set (L : List Int) (i j : Nat) (v : Int) (hj : j < L.length) : rd (L.set i v) (j : Int) = if j = i then v else rd L (j : Int) := by
  rw [rd_get _ j (by simpa using hj), rd_get L j hj, List.getElem_set]
  by_cases h : i = j
  · rw [if_pos h, if_pos h.symm]
  · rw [if_neg h, if_neg (fun e => h e.symm)]
theorem rd_bump (L : List Int) (x t : Int) (j : Nat) (hj : j < L.length) : rd (bump L x t) (j : Int) = rd L (j : Int) + if x ≠ -10 ∧ j = slot x then t else 0 := by
  unfold bump
  by_cases hx : x = -10
  · rw [if_pos hx, if_neg (fun e => e.1 hx)]; omega
  · rw [if_neg hx, rd_set L _ j _ hj]
    by_cases h : j = slot x
    · rw [if_pos h, if_pos ⟨hx, h⟩, h]
    · rw [if_neg h, if_neg (fun e => h e.2)]; omega
theorem rd_zs (n j : Nat) : rd (zs n) (j : Int) = 0 := by
  rcases Nat.lt_or_ge j n with h | h
  · rw [rd_get (zs n) j (by rw [zs_length]; exact h)]; simp only [zs, List.getElem_replicate]
  · unfold rd zs; simp only [List.getD_eq_getElem?_getD, Int.toNat_natCast]; rw [List.getElem?_eq_none (by simpa using h)]; rfl
/-- As many more as the first numbers of a hoist tell. -/
def pile (L h : List Int) (t : Int) : Nat → List Int
  | 0 => L
  | i + 1 => bump (pile L h t i) (rd h (i : Int)) t
theorem pile_length (L h : List Int) (t : Int) : ∀ i, (pile L h t i).length = L.length
  | 0 => rfl
  | i + 1 => by rw [pile, bump_length, pile_length L h t i]
theorem rd_pile (L h : List Int) (t : Int) (j : Nat) (hj : j < L.length) (hL : L.length = 44) : ∀ i, rd (pile L h t i) (j : Int) = rd L (j : Int) + rd (pile (zs 44) h t i) (j : Int)
  | 0 => by
    show rd L (j : Int) = rd L (j : Int) + rd (zs 44) (j : Int)
    rw [rd_zs]; omega
  | i + 1 => by
    rw [pile, pile, rd_bump _ _ _ j (by rw [pile_length]; exact hj), rd_bump _ _ _ j (by rw [pile_length, zs_length]; omega), rd_pile L h t j hj hL i]
    omega
theorem pile_zip (L h : List Int) (t : Int) (i : Nat) (hL : L.length = 44) : pile L h t i = List.zipWith (fun a b => a + b) L (pile (zs 44) h t i) := by
  refine list_eq (n := 44) ((pile_length L h t i).trans hL) (by simp [pile_length, zs_length, hL]) fun j hj => ?_
  rw [rd_pile L h t j (by omega) hL i, rd_get L j (by omega), rd_get (pile (zs 44) h t i) j (by rw [pile_length, zs_length]; omega), rd_get _ j (by simp [pile_length, zs_length]; omega)]
  simp
theorem pile_one (L h : List Int) (a b : Int) (i : Nat) (hb : ∀ j : Nat, j < L.length → a ≤ rd L (j : Int) ∧ rd L (j : Int) ≤ b) : ∀ j : Nat, j < L.length → a ≤ rd (pile L h 1 i) (j : Int) ∧ rd (pile L h 1 i) (j : Int) ≤ b + i := by
  induction i with
  | zero => intro j hj; have := hb j hj; simp only [pile]; omega
  | succ i ih =>
    intro j hj
    have := ih j hj
    rw [pile, rd_bump _ _ _ j (by rw [pile_length]; exact hj)]
    split <;> omega
theorem pile_small (h : List Int) (i : Nat) (j : Nat) (hj : j < 44) : 0 ≤ rd (pile (zs 44) h 1 i) (j : Int) ∧ rd (pile (zs 44) h 1 i) (j : Int) ≤ i := by
  have := pile_one (zs 44) h 0 0 i (fun j hj => by rw [rd_zs]; omega) j (by rw [zs_length]; exact hj)
  omega
/-- What hoists need, one after the other. -/
def needs (L : List Int) (hs : List (List Int)) : Nat → List Int
  | 0 => L
  | n + 1 => pile (needs L hs n) (hs.getD n []) 1 (hs.getD n []).length
theorem needs_length (L : List Int) (hs : List (List Int)) : ∀ n, (needs L hs n).length = L.length
  | 0 => rfl
  | n + 1 => by rw [needs, pile_length, needs_length L hs n]
theorem needs_small (hs : List (List Int)) (hh : ∀ h ∈ hs, h.length ≤ 8) : ∀ n, n ≤ hs.length → ∀ j : Nat, j < 44 → 0 ≤ rd (needs (zs 44) hs n) (j : Int) ∧ rd (needs (zs 44) hs n) (j : Int) ≤ 8 * n
  | 0, _, j, hj => by simp only [needs]; rw [rd_zs]; omega
  | n + 1, hn, j, hj => by
    have ih := needs_small hs hh n (by omega)
    have hm : (hs.getD n []).length ≤ 8 := by
      rw [List.getD_eq_getElem?_getD, List.getElem?_eq_getElem (by omega)]
      exact hh _ (List.getElem_mem (by omega))
    have := pile_one (needs (zs 44) hs n) (hs.getD n []) 0 (8 * n) (hs.getD n []).length (fun j hj => ih j (by rwa [needs_length, zs_length] at hj)) j (by rw [needs_length, zs_length]; exact hj)
    rw [needs]
    omega
/-- The flags among the pieces, and the substitutes. -/
theorem bump_take (L : List Int) (x t : Int) (hL : L.length = 44) (hx : NumH x) : (bump L x t).take 40 = if 0 ≤ x then (L.take 40).set x.toNat (rd (L.take 40) x + t) else L.take 40 := by
  unfold bump
  by_cases h0 : 0 ≤ x
  · have hx9 : x ≤ 39 := by rcases hx with h | h | h <;> omega
    rw [if_neg (by omega), if_pos h0, slot_flag h0, List.take_set]
    have : rd (L.take 40) x = rd L (x.toNat : Nat) := by
      have h := rd_take L x.toNat 40 (by omega) (by omega)
      rwa [Int.toNat_of_nonneg h0] at h ⊢
    rw [this]
  · rw [if_neg h0]
    split
    · rfl
    · rw [List.take_set, slot_sub (by omega), List.set_eq_of_length_le (by simp; omega)]
theorem bump_drop (L : List Int) (x t : Int) (hL : L.length = 44) (hx : NumH x) : (bump L x t).drop 40 = if x < 0 ∧ x ≠ -10 then (L.drop 40).set (-x - 1).toNat (rd (L.drop 40) (-x - 1) + t) else L.drop 40 := by
  unfold bump
  by_cases h0 : x < 0 ∧ x ≠ -10
  · have hx9 : -4 ≤ x := by rcases hx with h | h | h <;> omega
    rw [if_neg h0.2, if_pos h0, slot_sub h0.1, List.drop_set, if_neg (by omega)]
    have : rd (L.drop 40) (-x - 1) = rd L ((40 + (-x - 1).toNat : Nat) : Int) := by
      have h := rd_drop L (-x - 1).toNat 40 (by omega)
      rwa [Int.toNat_of_nonneg (by omega)] at h
    rw [this, show 40 + (-x - 1).toNat - 40 = (-x - 1).toNat by omega]
  · rw [if_neg h0]
    split
    · rfl
    · have h1 : 0 ≤ x := by omega
      have hx9 : x ≤ 39 := by rcases hx with h | h | h <;> omega
      rw [List.drop_set, if_pos (by rw [slot_flag h1]; omega)]
end Go.Proofs.Ytmpkgdgbjhegnaa.Arr
