/- The sums behind the syndromes, without wraps; a law's end (what is marked is held). No condition beyond lengths that can be read. -/
import Derived.Test.YtpidpljngppmiaaWordLib3
import Derived.Test.YtpidpljngppmiaaPAx2
import Derived.Test.YtpidpljngppmiaaPAx3
import Derived.Test.YtpidpljngppmiaaPAx4
import Derived.Test.YtpidpljngppmiaaPAx8
namespace Go.Proofs.Ytpidpljngppmiaa.A
open Go.RowKit Go.Proofs.YtpidpljngppmiaaW.PrintWords Go.Proofs.YtpidpljngppmiaaW.PrintLast Go.Proofs.Ytpidpljngppmiaa.U
set_option linter.unusedVariables false
set_option linter.unusedSimpArgs false

def S1 (l : List Int) : Nat → Int
  | 0 => 0
  | k + 1 => S1 l k + rd l (k : Int)
def S2 (l : List Int) : Nat → Int
  | 0 => 0
  | k + 1 => S2 l k + ((k : Int) + 1) * rd l (k : Int)
theorem rd_in (l : List Int) (hb : Bytes l) (i : Nat) : 0 ≤ rd l (i : Int) ∧ rd l (i : Int) ≤ 255 := by
  rcases Nat.lt_or_ge i l.length with h | h
  · exact hb.at i h
  · have : rd l (i : Int) = 0 := by simp [rd, List.getD_eq_getElem?_getD, List.getElem?_eq_none h]
    omega
theorem S_in (l : List Int) (hb : Bytes l) : ∀ n : Nat, n ≤ 8 → 0 ≤ S1 l n ∧ S1 l n ≤ 255 * (n : Int) ∧ 0 ≤ S2 l n ∧ S2 l n ≤ 2040 * (n : Int)
  | 0, _ => by simp [S1, S2]
  | n + 1, h => by
    have ih := S_in l hb n (by omega)
    have hr := rd_in l hb n
    simp only [S1, S2]
    have : 0 ≤ ((n : Int) + 1) * rd l (n : Int) := Int.mul_nonneg (by omega) hr.1
    have : ((n : Int) + 1) * rd l (n : Int) ≤ 8 * 255 := Int.mul_le_mul (by omega) hr.2 hr.1 (by omega)
    omega
theorem sums_eq (l : List Int) (hb : Bytes l) : ∀ n : Nat, n ≤ 8 → sums l n = (S1 l n, S2 l n)
  | 0, _ => rfl
  | n + 1, h => by
    have hr := rd_in l hb n
    have hi := S_in l hb n (by omega)
    have : 0 ≤ ((n : Int) + 1) * rd l (n : Int) := Int.mul_nonneg (by omega) hr.1
    have : ((n : Int) + 1) * rd l (n : Int) ≤ 8 * 255 := Int.mul_le_mul (by omega) hr.2 hr.1 (by omega)
    simp only [sums, S1, S2, sums_eq l hb n (by omega)]
    rw [w64 (x := rd l (n : Int)) (by omega) (by omega), w64 (x := (n : Int) + 1) (by omega) (by omega), w64 (x := ((n : Int) + 1) * rd l (n : Int)) (by omega) (by omega), w64 (by omega) (by omega), w64 (by omega) (by omega)]
theorem synd_eq (l : List Int) (hb : Bytes l) (a : Int) (n : Nat) (h : n ≤ 8) : (Int.tmod (sums l n).1 a, Int.tmod (sums l n).2 a) = (S1 l n % a, S2 l n % a) := by
  rw [sums_eq l hb n h]
  have := S_in l hb n h
  rw [Int.tmod_eq_emod_of_nonneg (by omega), Int.tmod_eq_emod_of_nonneg (by omega)]
theorem mod_ev (m p : Int) (hp : 0 < p) (hp2 : p ≤ 1000) (hm : -1000000 ≤ m ∧ m ≤ 1000000) : spec_l05Mod.f m p = some (m % p) := by
  unfold spec_l05Mod.f
  rw [if_neg (by omega)]
  have h1 := Int.tmod_lt_of_pos m hp
  have h2 : -p < Int.tmod m p := by
    have := Int.tmod_lt_of_pos (-m) hp
    rw [Int.neg_tmod] at this; omega
  rw [w64 (by omega) (by omega), Int.tmod_eq_emod_of_nonneg (by omega), Int.add_emod_right]
  congr 1
  rw [Int.tmod_eq_emod]
  split
  · simp
  · rw [Int.sub_emod]; simp [Int.natAbs_of_nonneg (show 0 ≤ p by omega)]

theorem S1_set (l : List Int) (i : Nat) (x : Int) (hi : i < l.length) : ∀ n : Nat, S1 (l.set i x) n = S1 l n + if i < n then x - rd l (i : Int) else 0
  | 0 => by simp [S1]
  | n + 1 => by
    simp only [S1, S1_set l i x hi n]
    by_cases e : i = n
    · subst e
      have : rd (l.set i x) (i : Int) = x := by rw [rd_get _ i (by simpa using hi)]; simp
      rw [this, if_neg (by omega), if_pos (by omega)]; omega
    · have : rd (l.set i x) (n : Int) = rd l (n : Int) := by simp [rd, List.getD_eq_getElem?_getD, List.getElem?_set_ne e]
      rw [this]
      by_cases h : i < n
      · rw [if_pos h, if_pos (by omega)]; omega
      · rw [if_neg h, if_neg (by omega)]; omega
theorem S2_set (l : List Int) (i : Nat) (x : Int) (hi : i < l.length) : ∀ n : Nat, S2 (l.set i x) n = S2 l n + if i < n then ((i : Int) + 1) * (x - rd l (i : Int)) else 0
  | 0 => by simp [S2]
  | n + 1 => by
    simp only [S2, S2_set l i x hi n]
    by_cases e : i = n
    · subst e
      have : rd (l.set i x) (i : Int) = x := by rw [rd_get _ i (by simpa using hi)]; simp
      rw [this, if_neg (by omega), if_pos (by omega), Int.mul_sub]; omega
    · have : rd (l.set i x) (n : Int) = rd l (n : Int) := by simp [rd, List.getD_eq_getElem?_getD, List.getElem?_set_ne e]
      rw [this]
      by_cases h : i < n
      · rw [if_pos h, if_pos (by omega)]; omega
      · rw [if_neg h, if_neg (by omega)]; omega

/-- Is a word checked? -/
def chk (a : Int) (l : List Int) : Bool := decide (S1 l l.length % a = 0 ∧ S2 l l.length % a = 0)
theorem isChecked_ev (a : Int) (ha : a ≠ 0) (l : List Int) (hb : Bytes l) (hn : l.length ≤ 8) : Ev (fun k => impl_Word_isChecked.f k l a) (chk a l) := by
  unfold impl_Word_isChecked.f
  have hs := impl_synd_ev a ha l (by omega)
  rw [synd_eq l hb a l.length hn] at hs
  refine Ev.bind hs ?_
  unfold chk
  by_cases h1 : S1 l l.length % a = 0
  · refine pos h1 (cons ?_)
    by_cases h2 : S2 l l.length % a = 0 <;> simp [h1, h2]
  · exact neg h1 (cons (by simp [h1]))
end Go.Proofs.Ytpidpljngppmiaa.A
