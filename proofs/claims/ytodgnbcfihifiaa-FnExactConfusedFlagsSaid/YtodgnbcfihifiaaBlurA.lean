/- What is seen of a flag from afar: in plain lists. No condition. -/
import Derived.Test.YtodgnbcfihifiaaFlagImpl
import Derived.Test.YtodgnbcfihifiaaSightLaw
namespace Go.Proofs.Ytodgnbcfihifiaa.Arr
open Go.RowKit Go.Proofs.YtodgnbcfihifiaaW.PrintWords Go.Proofs.YtodgnbcfihifiaaW.PrintLast Go.Proofs.YtodgnbcfihifiaaW.PrintMore Go.Proofs.Ytodgnbcfihifiaa.U
set_option linter.unusedVariables false
set_option linter.unusedSimpArgs false

/-- The k-th cell of the b-th block. -/
def idxB (b k : Nat) : Nat := (b % 3 * 2 + k % 2) + 6 * (b / 3 * 2 + k / 2)
/-- How often each colour is met in the first cells of a block. -/
def cntN (x : List Int) (b : Nat) : Nat → List Int
  | 0 => zs 6
  | k + 1 => (cntN x b k).set (rd x (idxB b k : Nat)).toNat (rd (cntN x b k) (rd x (idxB b k : Nat)) + 1)
theorem cntN_length (x : List Int) (b : Nat) : ∀ k, (cntN x b k).length = 6
  | 0 => by simp [cntN, zs]
  | k + 1 => by rw [cntN, List.length_set]; exact cntN_length x b k
theorem rd_set (L : List Int) (i j : Nat) (v : Int) (hi : i < L.length) : rd (L.set i v) (j : Int) = if i = j then v else rd L (j : Int) := by
  unfold rd
  simp only [Int.toNat_natCast, List.getD_eq_getElem?_getD, List.getElem?_set]
  by_cases h : i = j
  · rw [if_pos h, if_pos h, if_pos hi]; rfl
  · rw [if_neg h, if_neg h]
theorem cntN_b (x : List Int) (b : Nat) (hx : ∀ k : Nat, k < 24 → 0 ≤ rd x (k : Int) ∧ rd x (k : Int) ≤ 5) (hb : b < 6) : ∀ k : Nat, k ≤ 4 → ∀ j : Nat, j < 6 → 0 ≤ rd (cntN x b k) (j : Int) ∧ rd (cntN x b k) (j : Int) ≤ k
  | 0, _, j, hj => by
    have : rd (zs 6) (j : Int) = 0 := by
      rcases (show j = 0 ∨ j = 1 ∨ j = 2 ∨ j = 3 ∨ j = 4 ∨ j = 5 by omega) with rfl | rfl | rfl | rfl | rfl | rfl <;> rfl
    rw [cntN, this]; omega
  | k + 1, hk, j, hj => by
    have ih := cntN_b x b hx hb k (by omega)
    have hz := hx (idxB b k) (by unfold idxB; omega)
    obtain ⟨z, hzz⟩ := Int.eq_ofNat_of_zero_le hz.1
    rw [cntN, hzz, Int.toNat_natCast, rd_set _ _ _ _ (by rw [cntN_length]; omega)]
    split
    · have := ih z (by omega); omega
    · have := ih j hj; omega
/-- The first of the places of the greatest number. -/
def bestN (L : List Int) : Nat → Nat
  | 0 => 0
  | 1 => 0
  | c + 2 => if rd L ((c + 1 : Nat) : Int) > rd L (bestN L (c + 1) : Nat) then c + 1 else bestN L (c + 1)
def maxN (L : List Int) : Nat → Int
  | 0 => 0
  | 1 => rd L 0
  | c + 2 => mx (maxN L (c + 1)) (rd L ((c + 1 : Nat) : Int))
theorem bestN_lt (L : List Int) : ∀ c : Nat, bestN L (c + 1) < c + 1
  | 0 => by simp [bestN]
  | c + 1 => by
    have := bestN_lt L c
    rw [bestN]
    split <;> omega
theorem bestN_max (L : List Int) : ∀ c : Nat, rd L (bestN L (c + 1) : Nat) = maxN L (c + 1) ∧ (∀ j : Nat, j < bestN L (c + 1) → rd L (j : Int) < maxN L (c + 1)) ∧ ∀ j : Nat, j < c + 1 → rd L (j : Int) ≤ maxN L (c + 1)
  | 0 => ⟨rfl, fun j hj => by simp [bestN] at hj, fun j hj => by
      have h0 : j = 0 := by omega
      subst h0
      simp [maxN]⟩
  | c + 1 => by
    obtain ⟨h1, h2, h3⟩ := bestN_max L c
    have hlt := bestN_lt L c
    rw [bestN, maxN]
    by_cases h : rd L ((c + 1 : Nat) : Int) > rd L (bestN L (c + 1) : Nat)
    · have hm : mx (maxN L (c + 1)) (rd L ((c + 1 : Nat) : Int)) = rd L ((c + 1 : Nat) : Int) := by rw [h1] at h; unfold mx; split <;> omega
      rw [if_pos h, hm]
      refine ⟨rfl, fun j hj => ?_, fun j hj => ?_⟩
      · have := h3 j hj; omega
      · rcases Nat.lt_or_ge j (c + 1) with h4 | h4
        · have := h3 j h4; omega
        · obtain rfl : j = c + 1 := by omega
          exact Int.le_refl _
    · have hm : mx (maxN L (c + 1)) (rd L ((c + 1 : Nat) : Int)) = maxN L (c + 1) := by rw [h1] at h; unfold mx; split <;> omega
      rw [if_neg h, hm]
      refine ⟨h1, h2, fun j hj => ?_⟩
      rcases Nat.lt_or_ge j (c + 1) with h4 | h4
      · exact h3 j h4
      · obtain rfl : j = c + 1 := by omega
        omega
/-- What is seen of a flag from afar. -/
def blurN (x : List Int) : Nat → List Int
  | 0 => []
  | b + 1 => blurN x b ++ [(bestN (cntN x b 4) 6 : Int)]
theorem blurN_length (x : List Int) : ∀ b, (blurN x b).length = b
  | 0 => rfl
  | b + 1 => by rw [blurN, List.length_append, blurN_length x b]; rfl
theorem blurN_step (x : List Int) (b : Nat) (hb : b < 6) : (blurN x b ++ zs (6 - b)).set b (bestN (cntN x b 4) 6 : Int) = blurN x (b + 1) ++ zs (6 - (b + 1)) := by
  obtain ⟨d, hd⟩ : ∃ d, 6 - b = d + 1 := ⟨5 - b, by omega⟩
  rw [hd, show 6 - (b + 1) = d by omega, blurN]
  have hz : zs (d + 1) = 0 :: zs d := by unfold zs; rfl
  rw [hz, List.set_append_right b _ (by rw [blurN_length]; omega), blurN_length, Nat.sub_self, List.set_cons_zero, List.append_assoc]
  rfl
end Go.Proofs.Ytodgnbcfihifiaa.Arr
