/- The reference's SightDistance. Condition: no list too long. -/
import Derived.Test.YtodgnbcfihifiaaSightA
import Derived.BigQuiet
namespace Go.Proofs.Ytodgnbcfihifiaa.Arr
open Go.RowKit Go.Proofs.YtodgnbcfihifiaaW.PrintWords Go.Proofs.YtodgnbcfihifiaaW.PrintLast Go.Proofs.YtodgnbcfihifiaaW.PrintMore Go.Proofs.Ytodgnbcfihifiaa.U
set_option linter.unusedVariables false
set_option linter.unusedSimpArgs false

/-- Are the numbers of an array colours? -/
def okS (x : List Int) : Bool := decide (∀ k : Nat, k < 6 → rd x (k : Int) ≤ 5)
def seenB (l : List (List Int)) : Bool := decide (∀ j : Nat, j < l.length → okS (ra l j) = true)
set_option maxHeartbeats 4000000 in
set_option maxRecDepth 100000 in
theorem l05Seen_calls (A : Option Addr) (c : Nat) (l : List (List Int)) (w : World) (hr : Kd.C (kA .u8 6) w A l.length l) (hn : l.length ≤ 1048576) :
    Calls Try.prog 25 #[.slice A l.length c] w fun e w' => e = .returned (.bool (seenB l)) ∧ Below w.heap.size w w' := by
  have HR := Aside0.mk hr
  clear hr
  go_enter Try.func25, Try.ntmps25
  go_wp2_with fail
  go_loopw [3, 4] (fun v3 v4 wr => ∃ i : Nat, i ≤ l.length ∧ v3 = .int .i64 i ∧ Aside0 (Below w.heap.size w wr) ∧ Aside0 (∀ j : Nat, j < i → okS (ra l j) = true)) (fun v3 _ _ => l.length - (intOf v3).toNat)
  case atStart => exact ⟨0, by omega, rfl, ⟨Below.refl _ _⟩, ⟨fun j hj => absurd hj (by omega)⟩⟩
  case round =>
    obtain ⟨i, hi, rfl, HB, HP⟩ := hrel
    by_cases hlt : i < l.length
    · obtain ⟨ad, rfl, hx6, hcell⟩ := at_A HR.out i hlt
      have HC := Aside0.mk hcell
      clear hcell hx6
      go_wp2_with fail
      go_loopw [4] (fun v4 wr2 => ∃ k : Nat, k ≤ 6 ∧ v4 = .int .i64 k ∧ Aside0 (Below w.heap.size w wr2) ∧ Aside0 (∀ j : Nat, j < k → rd (ra l i) (j : Int) ≤ 5)) (fun v4 _ => 6 - (intOf v4).toNat)
      case atStart => exact ⟨0, by omega, rfl, HB, ⟨fun j hj => absurd hj (by omega)⟩⟩
      case round =>
        obtain ⟨k, hk, rfl, HB2, HQ⟩ := hrel
        by_cases hk6 : k < 6
        · have hc := pw_cell_below HB2.out (HC.out k hk6)
          by_cases h5 : rd (ra l i) (k : Int) ≤ 5
          · have h5' : ¬ (5 < rd (ra l i) (k : Int)) := by omega
            go_wp2_with fail
            go_roundw
            case rel => exact ⟨k + 1, by omega, by go_num, HB2, ⟨fun j hj => by
              rcases Nat.lt_or_ge j k with h | h
              · exact HQ.out j h
              · obtain rfl : j = k := by omega
                exact h5⟩⟩
            case measure => simp [intOf]; omega
          · have h5' : 5 < rd (ra l i) (k : Int) := by omega
            have HF := Aside0.mk (show seenB l = false from decide_eq_false (fun h => h5 (of_decide_eq_true (h i hlt) k hk6)))
            go_wp2_with fail
            go_ret
            exact ⟨by rw [HF.out]; rfl, HB2.out⟩
        · have HI := Aside0.mk (show okS (ra l i) = true from decide_eq_true (fun j hj => HQ.out j (by omega)))
          have hk6i : ¬ ((k : Int) < 6) := by omega
          go_wp2_with fail
          go_roundw
          case rel => exact ⟨i + 1, by omega, by go_num, HB2, ⟨fun j hj => by
            rcases Nat.lt_or_ge j i with h | h
            · exact HP.out j h
            · obtain rfl : j = i := by omega
              exact HI.out⟩⟩
          case measure => simp [intOf]; omega
    · obtain rfl : i = l.length := by omega
      have HF := Aside0.mk (show seenB l = true from decide_eq_true HP.out)
      go_wp2_with fail
      go_ret
      exact ⟨by rw [HF.out]; rfl, HB.out⟩
/-- In how many places two arrays differ, and two lists of arrays. -/
def difN (x y : List Int) : Nat → Int
  | 0 => 0
  | k + 1 => difN x y k + (if rd x (k : Int) = rd y (k : Int) then 0 else 1)
theorem difN_b (x y : List Int) : ∀ k : Nat, 0 ≤ difN x y k ∧ difN x y k ≤ k
  | 0 => by simp [difN]
  | k + 1 => by
    have := difN_b x y k
    rw [difN]
    split <;> omega
def farW (a b : List (List Int)) : Nat → Int
  | 0 => 0
  | i + 1 => farW a b i + difN (ra a i) (ra b i) 6
theorem farW_b (a b : List (List Int)) : ∀ i : Nat, 0 ≤ farW a b i ∧ farW a b i ≤ 6 * i
  | 0 => by simp [farW]
  | i + 1 => by
    have := farW_b a b i
    have := difN_b (ra a i) (ra b i) 6
    rw [farW]
    omega
set_option maxHeartbeats 4000000 in
set_option maxRecDepth 100000 in
theorem l05Far_calls (A : Option Addr) (c : Nat) (l : List (List Int)) (A2 : Option Addr) (c2 : Nat) (l2 : List (List Int)) (w : World) (hr : Kd.C (kA .u8 6) w A l.length l) (hr2 : Kd.C (kA .u8 6) w A2 l2.length l2) (hl : l.length = l2.length) (hn : l.length ≤ 1048576) :
    Calls Try.prog 26 #[.slice A l.length c, .slice A2 l2.length c2] w fun e w' => e = .returned (.int .i64 (farW l l2 l.length)) ∧ Below w.heap.size w w' := by
  have HR := Aside0.mk hr
  have HR2 := Aside0.mk hr2
  have HL := Aside0.mk hl
  clear hr hr2 hl
  go_enter Try.func26, Try.ntmps26
  go_wp2_with fail
  go_loopw [6, 5, 7] (fun v6 v5 v7 wr => ∃ i : Nat, i ≤ l.length ∧ v6 = .int .i64 i ∧ v5 = .int .i64 (farW l l2 i) ∧ Aside0 (Below w.heap.size w wr)) (fun v6 _ _ _ => l.length - (intOf v6).toNat)
  case atStart => exact ⟨0, by omega, rfl, rfl, ⟨Below.refl _ _⟩⟩
  case round =>
    obtain ⟨i, hi, rfl, rfl, HB⟩ := hrel
    by_cases hlt : i < l.length
    · obtain ⟨ad, rfl, _, hcell⟩ := at_A HR.out i hlt
      obtain ⟨ad2, rfl, _, hcell2⟩ := at_A HR2.out i (by have := HL.out; omega)
      have HC := Aside0.mk hcell
      have HC2 := Aside0.mk hcell2
      have hlt2 : i < l2.length := by have := HL.out; omega
      have hlt2i : (i : Int) < (l2.length : Int) := by omega
      have hfb := farW_b l l2 i
      have HFS := Aside0.mk (show farW l l2 (i + 1) = farW l l2 i + difN (ra l i) (ra l2 i) 6 from rfl)
      generalize farW l l2 i = f at *
      clear hcell hcell2
      go_wp2_with fail
      go_loopw [5, 7] (fun v5 v7 wr2 => ∃ k : Nat, k ≤ 6 ∧ v7 = .int .i64 k ∧ v5 = .int .i64 (f + difN (ra l i) (ra l2 i) k) ∧ Aside0 (Below w.heap.size w wr2)) (fun _ v7 _ => 6 - (intOf v7).toNat)
      case atStart => exact ⟨0, by omega, rfl, by simp [difN], HB⟩
      case round =>
        obtain ⟨k, hk, rfl, rfl, HB2⟩ := hrel
        by_cases hk6 : k < 6
        · have hc := pw_cell_below HB2.out (HC.out k hk6)
          have hc2 := pw_cell_below HB2.out (HC2.out k hk6)
          have hdb := difN_b (ra l i) (ra l2 i) k
          have HDS := Aside0.mk (show difN (ra l i) (ra l2 i) (k + 1) = difN (ra l i) (ra l2 i) k + (if rd (ra l i) (k : Int) = rd (ra l2 i) (k : Int) then 0 else 1) from rfl)
          generalize difN (ra l i) (ra l2 i) k = dd at *
          generalize rd (ra l i) (k : Int) = x at *
          generalize rd (ra l2 i) (k : Int) = y at *
          by_cases hxy : x = y
          · have h1 : (x != y) = false := by rw [bne_eq_false_iff_eq]; exact hxy
            have HX := Aside0.mk hxy
            clear hxy
            go_wp2_with fail
            go_quiet (fail)
            go_wp2_with fail
            go_roundw
            case rel => exact ⟨k + 1, by omega, by go_num, by rw [HDS.out, if_pos HX.out, Int.add_zero], ⟨pw_below_drewN HB2.out _⟩⟩
            case measure => simp [intOf]; omega
          · have h1 : (x != y) = true := by rw [bne_iff_ne]; exact hxy
            have hw : wrap64 (f + dd + 1) = f + dd + 1 := w64 (by omega) (by omega)
            go_wp2_with fail
            go_quiet (fail)
            go_wp2_with fail
            go_roundw
            case rel => exact ⟨k + 1, by omega, by go_num, by rw [HDS.out, if_neg hxy, ← Int.add_assoc], ⟨pw_below_drewN HB2.out _⟩⟩
            case measure => simp [intOf]; omega
        · have hk6i : ¬ ((k : Int) < 6) := by omega
          obtain rfl : k = 6 := by omega
          go_wp2_with fail
          go_roundw
          case rel => exact ⟨i + 1, by omega, by go_num, by rw [HFS.out], HB2⟩
          case measure => simp [intOf]; omega
    · obtain rfl : i = l.length := by omega
      go_wp2_with fail
      go_ret
      exact ⟨rfl, HB.out⟩
end Go.Proofs.Ytodgnbcfihifiaa.Arr
