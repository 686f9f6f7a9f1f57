/- What hoists need together, as both parts count it, and the code of hoists. No condition beyond the lists' lengths and their numbers' kind. -/
import Derived.Test.YtmpkgdgbjhegnaaHoistPcs
import Derived.Test.YtmpkgdgbjhegnaaHoistEv
import Derived.Test.YtmpkgdgbjhegnaaLockWith
import Derived.Test.YtmpkgdgbjhegnaaArrR
import Derived.StillTailTactics
import Derived.Test.YtmpkgdgbjhegnaaPBx1
import Derived.Test.YtmpkgdgbjhegnaaPBx3
namespace Go.Proofs.Ytmpkgdgbjhegnaa.Arr
open Go.RowKit Go.Proofs.Ytmpkgdgbjhegnaa.B Go.Proofs.Ytmpkgdgbjhegnaa.U Go.Proofs.YtmpkgdgbjhegnaaW.PrintLast Go.Proofs.YtmpkgdgbjhegnaaW.PrintMore Go.Proofs.YtmpkgdgbjhegnaaW.PrintWords
set_option linter.unusedVariables false
set_option linter.unusedSimpArgs false

set_option maxHeartbeats 8000000 in
set_option maxRecDepth 100000 in
theorem l04Add_calls (g : Nat) (L : List Int) (A0 : Option Addr) (c0 : Nat) (h : List Int) (t : Int) (w : World) (h0 : w.heap[g]? = some (.cells (vals .i16 L) 26 (0, 0)))
    (hr : ∀ (W : World) (cs : Array Value), Fr1 g cs 26 w W → Kd.C (Kd.int .i8) W A0 h.length h) (hc : h.length ≤ c0) (hl : L.length = 44) (hh : ∀ x ∈ h, NumH x) (hn : h.length ≤ 1000)
    (hb : ∀ i : Nat, i ≤ h.length → ∀ j : Nat, j < 44 → -32768 ≤ rd (pile L h t i) (j : Int) ∧ rd (pile L h t i) (j : Int) ≤ 32767) :
    Calls Try.prog 94 #[.pointer (some ⟨g, 0, none⟩), .slice A0 h.length c0, .int .i16 t] w fun e w' => e = .returned (.tuple #[]) ∧ Fr1 g (vals .i16 (pile L h t h.length)) 26 w w' := by
  have hm := Mem.given h0
  have HR := Aside0.mk hr
  have HH := Aside0.mk hh
  have HB := Aside0.mk hb
  clear hr hh hb h0
  go_enter Try.func94, Try.ntmps94
  go_wp2_with (first | fail | ((with_reducible refine gt_load 90 ?_); (first | (refine st_get rfl 90 _ rfl hm rfl 0 rfl one90 (by first | omega | assumption | (simp only [lens]; first | omega | assumption) | (simp [lens]; done) | (simp [lens]; omega)) ?_) | (refine st_get rfl 90 _ rfl hm rfl 1 rfl one90 (by first | omega | assumption | (simp only [lens]; first | omega | assumption) | (simp [lens]; done) | (simp [lens]; omega)) ?_))) | ((with_reducible refine gt_field 26 1 ?_); refine st_field rfl 26 _ 1 rfl rfl field26_1 ?_) | ((with_reducible refine gt_elem 24 ?_); refine st_elem rfl 24 _ _ rfl rfl rfl arr24 (by first | omega | assumption | (simp only [lens]; first | omega | assumption) | (simp [lens]; done) | (simp [lens]; omega)) (by first | omega | assumption | (simp only [lens]; first | omega | assumption) | (simp [lens]; done) | (simp [lens]; omega)) ?_) | ((with_reducible refine gt_load 22 ?_); (first | (refine st_get rfl 22 _ rfl hm rfl 0 rfl one22 (by first | omega | assumption | (simp only [lens]; first | omega | assumption) | (simp [lens]; done) | (simp [lens]; omega)) ?_) | (refine st_get rfl 22 _ rfl hm rfl 1 rfl one22 (by first | omega | assumption | (simp only [lens]; first | omega | assumption) | (simp [lens]; done) | (simp [lens]; omega)) ?_))) | ((with_reducible refine gt_store 22 ?_); (first | (refine st_set rfl 22 _ _ rfl hm rfl rfl 0 rfl one22 (by first | omega | assumption | (simp only [lens]; first | omega | assumption) | (simp [lens]; done) | (simp [lens]; omega)) ?_) | (refine st_set rfl 22 _ _ rfl hm rfl rfl 1 rfl one22 (by first | omega | assumption | (simp only [lens]; first | omega | assumption) | (simp [lens]; done) | (simp [lens]; omega)) ?_)); clear hm; intro ws hm; simp only [List.set_cons_zero, List.set_cons_succ] at hm) | ((with_reducible refine gt_field 26 0 ?_); refine st_field rfl 26 _ 0 rfl rfl field26_0 ?_) | ((with_reducible refine gt_elem 23 ?_); refine st_elem rfl 23 _ _ rfl rfl rfl arr23 (by first | omega | assumption | (simp only [lens]; first | omega | assumption) | (simp [lens]; done) | (simp [lens]; omega)) (by first | omega | assumption | (simp only [lens]; first | omega | assumption) | (simp [lens]; done) | (simp [lens]; omega)) ?_))
  go_loopw [6] (fun v6 wr => ∃ i : Nat, i ≤ h.length ∧ v6 = .int .i64 i ∧ Mem w wr [⟨g, vals .i16 (pile L h t i), 26, false⟩]) (fun v6 _ => h.length - (intOf v6).toNat)
  case atStart => exact ⟨0, by omega, rfl, hm⟩
  case round =>
    obtain ⟨i, hi, rfl, hm⟩ := hrel
    have hl2 := (pile_length L h t i).trans hl
    by_cases hlt : i < h.length
    · obtain ⟨ad, rfl, hc1⟩ := Kd.at_int (HR.out wr _ (hm.gives (M := []) rfl)) (i : Int) (by omega) (by omega)
      rw [Int.toNat_natCast] at hc1
      have hx := NumH.at HH.out i hlt
      have HS : Aside0 (pile L h t (i + 1) = bump (pile L h t i) (rd h (i : Int)) t) := ⟨rfl⟩
      have hb1 := HB.out (i + 1) (by omega)
      rw [HS.out] at hb1
      generalize rd h (i : Int) = x at *
      generalize pile L h t i = X at *
      by_cases hx1 : x = -10
      · have HS2 := Aside0.mk (show pile L h t (i + 1) = X by rw [HS.out, bump, if_pos hx1])
        clear HS hb1 hx
        subst hx1
        go_wp2_with (first | fail | ((with_reducible refine gt_load 90 ?_); (first | (refine st_get rfl 90 _ rfl hm rfl 0 rfl one90 (by first | omega | assumption | (simp only [lens]; first | omega | assumption) | (simp [lens]; done) | (simp [lens]; omega)) ?_) | (refine st_get rfl 90 _ rfl hm rfl 1 rfl one90 (by first | omega | assumption | (simp only [lens]; first | omega | assumption) | (simp [lens]; done) | (simp [lens]; omega)) ?_))) | ((with_reducible refine gt_field 26 1 ?_); refine st_field rfl 26 _ 1 rfl rfl field26_1 ?_) | ((with_reducible refine gt_elem 24 ?_); refine st_elem rfl 24 _ _ rfl rfl rfl arr24 (by first | omega | assumption | (simp only [lens]; first | omega | assumption) | (simp [lens]; done) | (simp [lens]; omega)) (by first | omega | assumption | (simp only [lens]; first | omega | assumption) | (simp [lens]; done) | (simp [lens]; omega)) ?_) | ((with_reducible refine gt_load 22 ?_); (first | (refine st_get rfl 22 _ rfl hm rfl 0 rfl one22 (by first | omega | assumption | (simp only [lens]; first | omega | assumption) | (simp [lens]; done) | (simp [lens]; omega)) ?_) | (refine st_get rfl 22 _ rfl hm rfl 1 rfl one22 (by first | omega | assumption | (simp only [lens]; first | omega | assumption) | (simp [lens]; done) | (simp [lens]; omega)) ?_))) | ((with_reducible refine gt_store 22 ?_); (first | (refine st_set rfl 22 _ _ rfl hm rfl rfl 0 rfl one22 (by first | omega | assumption | (simp only [lens]; first | omega | assumption) | (simp [lens]; done) | (simp [lens]; omega)) ?_) | (refine st_set rfl 22 _ _ rfl hm rfl rfl 1 rfl one22 (by first | omega | assumption | (simp only [lens]; first | omega | assumption) | (simp [lens]; done) | (simp [lens]; omega)) ?_)); clear hm; intro ws hm; simp only [List.set_cons_zero, List.set_cons_succ] at hm) | ((with_reducible refine gt_field 26 0 ?_); refine st_field rfl 26 _ 0 rfl rfl field26_0 ?_) | ((with_reducible refine gt_elem 23 ?_); refine st_elem rfl 23 _ _ rfl rfl rfl arr23 (by first | omega | assumption | (simp only [lens]; first | omega | assumption) | (simp [lens]; done) | (simp [lens]; omega)) (by first | omega | assumption | (simp only [lens]; first | omega | assumption) | (simp [lens]; done) | (simp [lens]; omega)) ?_))
        go_roundw
        case rel => exact ⟨i + 1, by omega, by go_num, by rw [HS2.out]; exact hm⟩
        case measure => simp [intOf]; omega
      · have hv := hm.get (n := 0) rfl (slot x) (by have := slot_lt hx hx1; omega)
        have hy := hb1 (slot x) (slot_lt hx hx1)
        rw [rd_bump X x t (slot x) (by have := slot_lt hx hx1; omega), if_pos ⟨hx1, rfl⟩] at hy
        have HS2 := Aside0.mk (show pile L h t (i + 1) = X.set (slot x) (rd X (slot x : Nat) + t) by rw [HS.out, bump, if_neg hx1])
        generalize rd X (slot x : Nat) = y at *
        have HW := Aside0.mk (i16w (x := y + t) (by omega) (by omega))
        clear HS hb1 hy
        by_cases hx0 : 0 ≤ x
        · have hx9 : x < 40 := by rcases hx with h | h | h <;> omega
          have hn0 : ¬ x < 0 := by omega
          rw [slot_flag hx0] at hv HS2
          clear hx
          go_wp2_with (first | fail | ((with_reducible refine gt_load 90 ?_); (first | (refine st_get rfl 90 _ rfl hm rfl 0 rfl one90 (by first | omega | assumption | (simp only [lens]; first | omega | assumption) | (simp [lens]; done) | (simp [lens]; omega)) ?_) | (refine st_get rfl 90 _ rfl hm rfl 1 rfl one90 (by first | omega | assumption | (simp only [lens]; first | omega | assumption) | (simp [lens]; done) | (simp [lens]; omega)) ?_))) | ((with_reducible refine gt_field 26 1 ?_); refine st_field rfl 26 _ 1 rfl rfl field26_1 ?_) | ((with_reducible refine gt_elem 24 ?_); refine st_elem rfl 24 _ _ rfl rfl rfl arr24 (by first | omega | assumption | (simp only [lens]; first | omega | assumption) | (simp [lens]; done) | (simp [lens]; omega)) (by first | omega | assumption | (simp only [lens]; first | omega | assumption) | (simp [lens]; done) | (simp [lens]; omega)) ?_) | ((with_reducible refine gt_load 22 ?_); (first | (refine st_get rfl 22 _ rfl hm rfl 0 rfl one22 (by first | omega | assumption | (simp only [lens]; first | omega | assumption) | (simp [lens]; done) | (simp [lens]; omega)) ?_) | (refine st_get rfl 22 _ rfl hm rfl 1 rfl one22 (by first | omega | assumption | (simp only [lens]; first | omega | assumption) | (simp [lens]; done) | (simp [lens]; omega)) ?_))) | ((with_reducible refine gt_store 22 ?_); (first | (refine st_set rfl 22 _ _ rfl hm rfl rfl 0 rfl one22 (by first | omega | assumption | (simp only [lens]; first | omega | assumption) | (simp [lens]; done) | (simp [lens]; omega)) ?_) | (refine st_set rfl 22 _ _ rfl hm rfl rfl 1 rfl one22 (by first | omega | assumption | (simp only [lens]; first | omega | assumption) | (simp [lens]; done) | (simp [lens]; omega)) ?_)); clear hm; intro ws hm; simp only [List.set_cons_zero, List.set_cons_succ] at hm) | ((with_reducible refine gt_field 26 0 ?_); refine st_field rfl 26 _ 0 rfl rfl field26_0 ?_) | ((with_reducible refine gt_elem 23 ?_); refine st_elem rfl 23 _ _ rfl rfl rfl arr23 (by first | omega | assumption | (simp only [lens]; first | omega | assumption) | (simp [lens]; done) | (simp [lens]; omega)) (by first | omega | assumption | (simp only [lens]; first | omega | assumption) | (simp [lens]; done) | (simp [lens]; omega)) ?_))
          go_still_tail 14, (by kernel_rfl)
          replace hm := hm.drawn (wr.drawn + 1)
          go_wp2_with (first | fail | ((with_reducible refine gt_load 90 ?_); (first | (refine st_get rfl 90 _ rfl hm rfl 0 rfl one90 (by first | omega | assumption | (simp only [lens]; first | omega | assumption) | (simp [lens]; done) | (simp [lens]; omega)) ?_) | (refine st_get rfl 90 _ rfl hm rfl 1 rfl one90 (by first | omega | assumption | (simp only [lens]; first | omega | assumption) | (simp [lens]; done) | (simp [lens]; omega)) ?_))) | ((with_reducible refine gt_field 26 1 ?_); refine st_field rfl 26 _ 1 rfl rfl field26_1 ?_) | ((with_reducible refine gt_elem 24 ?_); refine st_elem rfl 24 _ _ rfl rfl rfl arr24 (by first | omega | assumption | (simp only [lens]; first | omega | assumption) | (simp [lens]; done) | (simp [lens]; omega)) (by first | omega | assumption | (simp only [lens]; first | omega | assumption) | (simp [lens]; done) | (simp [lens]; omega)) ?_) | ((with_reducible refine gt_load 22 ?_); (first | (refine st_get rfl 22 _ rfl hm rfl 0 rfl one22 (by first | omega | assumption | (simp only [lens]; first | omega | assumption) | (simp [lens]; done) | (simp [lens]; omega)) ?_) | (refine st_get rfl 22 _ rfl hm rfl 1 rfl one22 (by first | omega | assumption | (simp only [lens]; first | omega | assumption) | (simp [lens]; done) | (simp [lens]; omega)) ?_))) | ((with_reducible refine gt_store 22 ?_); (first | (refine st_set rfl 22 _ _ rfl hm rfl rfl 0 rfl one22 (by first | omega | assumption | (simp only [lens]; first | omega | assumption) | (simp [lens]; done) | (simp [lens]; omega)) ?_) | (refine st_set rfl 22 _ _ rfl hm rfl rfl 1 rfl one22 (by first | omega | assumption | (simp only [lens]; first | omega | assumption) | (simp [lens]; done) | (simp [lens]; omega)) ?_)); clear hm; intro ws hm; simp only [List.set_cons_zero, List.set_cons_succ] at hm) | ((with_reducible refine gt_field 26 0 ?_); refine st_field rfl 26 _ 0 rfl rfl field26_0 ?_) | ((with_reducible refine gt_elem 23 ?_); refine st_elem rfl 23 _ _ rfl rfl rfl arr23 (by first | omega | assumption | (simp only [lens]; first | omega | assumption) | (simp [lens]; done) | (simp [lens]; omega)) (by first | omega | assumption | (simp only [lens]; first | omega | assumption) | (simp [lens]; done) | (simp [lens]; omega)) ?_))
          go_roundw
          case rel => exact ⟨i + 1, by omega, by go_num, by rw [HW.out] at hm; rw [HS2.out]; exact hm⟩
          case measure => simp [intOf]; omega
        · have hx9 : x = -4 ∨ x = -3 ∨ x = -2 ∨ x = -1 := by rcases hx with h | h | h <;> omega
          clear hx hx0 hx1
          have k0 : IntKind.i8.wrap 0 = 0 := rfl
          have k1 : IntKind.i8.wrap 1 = 1 := rfl
          have k2 : IntKind.i8.wrap 2 = 2 := rfl
          have k3 : IntKind.i8.wrap 3 = 3 := rfl
          have k4 : IntKind.i8.wrap 4 = 4 := rfl
          rcases hx9 with rfl | rfl | rfl | rfl
          all_goals
            simp [slot] at hv
            go_wp2_with (first | fail | ((with_reducible refine gt_load 90 ?_); (first | (refine st_get rfl 90 _ rfl hm rfl 0 rfl one90 (by first | omega | assumption | (simp only [lens]; first | omega | assumption) | (simp [lens]; done) | (simp [lens]; omega)) ?_) | (refine st_get rfl 90 _ rfl hm rfl 1 rfl one90 (by first | omega | assumption | (simp only [lens]; first | omega | assumption) | (simp [lens]; done) | (simp [lens]; omega)) ?_))) | ((with_reducible refine gt_field 26 1 ?_); refine st_field rfl 26 _ 1 rfl rfl field26_1 ?_) | ((with_reducible refine gt_elem 24 ?_); refine st_elem rfl 24 _ _ rfl rfl rfl arr24 (by first | omega | assumption | (simp only [lens]; first | omega | assumption) | (simp [lens]; done) | (simp [lens]; omega)) (by first | omega | assumption | (simp only [lens]; first | omega | assumption) | (simp [lens]; done) | (simp [lens]; omega)) ?_) | ((with_reducible refine gt_load 22 ?_); (first | (refine st_get rfl 22 _ rfl hm rfl 0 rfl one22 (by first | omega | assumption | (simp only [lens]; first | omega | assumption) | (simp [lens]; done) | (simp [lens]; omega)) ?_) | (refine st_get rfl 22 _ rfl hm rfl 1 rfl one22 (by first | omega | assumption | (simp only [lens]; first | omega | assumption) | (simp [lens]; done) | (simp [lens]; omega)) ?_))) | ((with_reducible refine gt_store 22 ?_); (first | (refine st_set rfl 22 _ _ rfl hm rfl rfl 0 rfl one22 (by first | omega | assumption | (simp only [lens]; first | omega | assumption) | (simp [lens]; done) | (simp [lens]; omega)) ?_) | (refine st_set rfl 22 _ _ rfl hm rfl rfl 1 rfl one22 (by first | omega | assumption | (simp only [lens]; first | omega | assumption) | (simp [lens]; done) | (simp [lens]; omega)) ?_)); clear hm; intro ws hm; simp only [List.set_cons_zero, List.set_cons_succ] at hm) | ((with_reducible refine gt_field 26 0 ?_); refine st_field rfl 26 _ 0 rfl rfl field26_0 ?_) | ((with_reducible refine gt_elem 23 ?_); refine st_elem rfl 23 _ _ rfl rfl rfl arr23 (by first | omega | assumption | (simp only [lens]; first | omega | assumption) | (simp [lens]; done) | (simp [lens]; omega)) (by first | omega | assumption | (simp only [lens]; first | omega | assumption) | (simp [lens]; done) | (simp [lens]; omega)) ?_))
            go_still_tail 16, (by kernel_rfl)
            replace hm := hm.drawn (wr.drawn + 1)
            go_wp2_with (first | fail | ((with_reducible refine gt_load 90 ?_); (first | (refine st_get rfl 90 _ rfl hm rfl 0 rfl one90 (by first | omega | assumption | (simp only [lens]; first | omega | assumption) | (simp [lens]; done) | (simp [lens]; omega)) ?_) | (refine st_get rfl 90 _ rfl hm rfl 1 rfl one90 (by first | omega | assumption | (simp only [lens]; first | omega | assumption) | (simp [lens]; done) | (simp [lens]; omega)) ?_))) | ((with_reducible refine gt_field 26 1 ?_); refine st_field rfl 26 _ 1 rfl rfl field26_1 ?_) | ((with_reducible refine gt_elem 24 ?_); refine st_elem rfl 24 _ _ rfl rfl rfl arr24 (by first | omega | assumption | (simp only [lens]; first | omega | assumption) | (simp [lens]; done) | (simp [lens]; omega)) (by first | omega | assumption | (simp only [lens]; first | omega | assumption) | (simp [lens]; done) | (simp [lens]; omega)) ?_) | ((with_reducible refine gt_load 22 ?_); (first | (refine st_get rfl 22 _ rfl hm rfl 0 rfl one22 (by first | omega | assumption | (simp only [lens]; first | omega | assumption) | (simp [lens]; done) | (simp [lens]; omega)) ?_) | (refine st_get rfl 22 _ rfl hm rfl 1 rfl one22 (by first | omega | assumption | (simp only [lens]; first | omega | assumption) | (simp [lens]; done) | (simp [lens]; omega)) ?_))) | ((with_reducible refine gt_store 22 ?_); (first | (refine st_set rfl 22 _ _ rfl hm rfl rfl 0 rfl one22 (by first | omega | assumption | (simp only [lens]; first | omega | assumption) | (simp [lens]; done) | (simp [lens]; omega)) ?_) | (refine st_set rfl 22 _ _ rfl hm rfl rfl 1 rfl one22 (by first | omega | assumption | (simp only [lens]; first | omega | assumption) | (simp [lens]; done) | (simp [lens]; omega)) ?_)); clear hm; intro ws hm; simp only [List.set_cons_zero, List.set_cons_succ] at hm) | ((with_reducible refine gt_field 26 0 ?_); refine st_field rfl 26 _ 0 rfl rfl field26_0 ?_) | ((with_reducible refine gt_elem 23 ?_); refine st_elem rfl 23 _ _ rfl rfl rfl arr23 (by first | omega | assumption | (simp only [lens]; first | omega | assumption) | (simp [lens]; done) | (simp [lens]; omega)) (by first | omega | assumption | (simp only [lens]; first | omega | assumption) | (simp [lens]; done) | (simp [lens]; omega)) ?_))
            go_roundw
            case rel => exact ⟨i + 1, by omega, by go_num, by rw [HW.out] at hm; rw [HS2.out]; simpa [slot] using hm⟩
            case measure => simp [intOf]; omega
    · have HI := Aside0.mk (show i = h.length by omega)
      generalize hX : pile L h t i = X at *
      have HX := Aside0.mk hX
      clear hX
      go_wp2_with (first | fail | ((with_reducible refine gt_load 90 ?_); (first | (refine st_get rfl 90 _ rfl hm rfl 0 rfl one90 (by first | omega | assumption | (simp only [lens]; first | omega | assumption) | (simp [lens]; done) | (simp [lens]; omega)) ?_) | (refine st_get rfl 90 _ rfl hm rfl 1 rfl one90 (by first | omega | assumption | (simp only [lens]; first | omega | assumption) | (simp [lens]; done) | (simp [lens]; omega)) ?_))) | ((with_reducible refine gt_field 26 1 ?_); refine st_field rfl 26 _ 1 rfl rfl field26_1 ?_) | ((with_reducible refine gt_elem 24 ?_); refine st_elem rfl 24 _ _ rfl rfl rfl arr24 (by first | omega | assumption | (simp only [lens]; first | omega | assumption) | (simp [lens]; done) | (simp [lens]; omega)) (by first | omega | assumption | (simp only [lens]; first | omega | assumption) | (simp [lens]; done) | (simp [lens]; omega)) ?_) | ((with_reducible refine gt_load 22 ?_); (first | (refine st_get rfl 22 _ rfl hm rfl 0 rfl one22 (by first | omega | assumption | (simp only [lens]; first | omega | assumption) | (simp [lens]; done) | (simp [lens]; omega)) ?_) | (refine st_get rfl 22 _ rfl hm rfl 1 rfl one22 (by first | omega | assumption | (simp only [lens]; first | omega | assumption) | (simp [lens]; done) | (simp [lens]; omega)) ?_))) | ((with_reducible refine gt_store 22 ?_); (first | (refine st_set rfl 22 _ _ rfl hm rfl rfl 0 rfl one22 (by first | omega | assumption | (simp only [lens]; first | omega | assumption) | (simp [lens]; done) | (simp [lens]; omega)) ?_) | (refine st_set rfl 22 _ _ rfl hm rfl rfl 1 rfl one22 (by first | omega | assumption | (simp only [lens]; first | omega | assumption) | (simp [lens]; done) | (simp [lens]; omega)) ?_)); clear hm; intro ws hm; simp only [List.set_cons_zero, List.set_cons_succ] at hm) | ((with_reducible refine gt_field 26 0 ?_); refine st_field rfl 26 _ 0 rfl rfl field26_0 ?_) | ((with_reducible refine gt_elem 23 ?_); refine st_elem rfl 23 _ _ rfl rfl rfl arr23 (by first | omega | assumption | (simp only [lens]; first | omega | assumption) | (simp [lens]; done) | (simp [lens]; omega)) (by first | omega | assumption | (simp only [lens]; first | omega | assumption) | (simp [lens]; done) | (simp [lens]; omega)) ?_))
      refine bodyPost_end (results_none rfl _ _ _) rfl ?_
      refine ⟨rfl, ?_⟩
      rw [← HI.out, HX.out]
      exact hm.gives (M := []) rfl
/-- A row of hoists. -/
abbrev hk : Kd (List Int) := Kd.slice 90 (Kd.int .i8)
theorem rdL_get (xs : List (List Int)) (i : Nat) (h : i < xs.length) : rd_L1 xs (i : Int) = xs[i] := rdS_get xs i h
theorem needs_succ (L : List Int) (hs : List (List Int)) (i : Nat) (hi : i < hs.length) : needs L hs (i + 1) = pile (needs L hs i) (rd_L1 hs (i : Int)) 1 (rd_L1 hs (i : Int)).length := by
  rw [needs, rdL_get hs i hi, List.getD_eq_getElem?_getD, List.getElem?_eq_getElem hi]; rfl
theorem needs_part (hs : List (List Int)) (hh : ∀ h ∈ hs, h.length ≤ 8) (n : Nat) (hn : n < hs.length) (i : Nat) (hi : i ≤ (rd_L1 hs (n : Int)).length) (j : Nat) (hj : j < 44) :
    0 ≤ rd (pile (needs (zs 44) hs n) (rd_L1 hs (n : Int)) 1 i) (j : Int) ∧ rd (pile (needs (zs 44) hs n) (rd_L1 hs (n : Int)) 1 i) (j : Int) ≤ 8 * n + 8 := by
  have h1 := needs_small hs hh n (by omega)
  have h8 : (rd_L1 hs (n : Int)).length ≤ 8 := by rw [rdL_get hs n hn]; exact hh _ (List.getElem_mem hn)
  have := pile_one (needs (zs 44) hs n) (rd_L1 hs (n : Int)) 0 (8 * n) i (fun j hj => h1 j (by rwa [needs_length, zs_length] at hj)) j (by rw [needs_length, zs_length]; exact hj)
  omega
/-- Hoists, each one valid, and not too many. -/
structure Hs (hs : List (List Int)) : Prop where
  few : hs.length ≤ 1000
  ok : ∀ h ∈ hs, okH h = true
theorem Hs.at {hs : List (List Int)} (h : Hs hs) (i : Nat) (hi : i < hs.length) : okH (rd_L1 hs (i : Int)) = true := by
  rw [rdL_get hs i hi]; exact h.ok _ (List.getElem_mem hi)
theorem Hs.short {hs : List (List Int)} (h : Hs hs) : ∀ x ∈ hs, x.length ≤ 8 := fun x hx => (okH_len (h.ok x hx)).2

set_option maxHeartbeats 8000000 in
set_option maxRecDepth 100000 in
theorem l04Need_calls (A0 : Option Addr) (c0 : Nat) (hs : List (List Int)) (w : World) (hr : Kd.C hk w A0 hs.length hs) (hc : hs.length ≤ c0) (hh : Hs hs) :
    Calls Try.prog 78 #[.slice A0 hs.length c0] w fun e w' => e = .returned (.agg (vals .i16 (needs (zs 44) hs hs.length))) ∧ Below w.heap.size w w' := by
  have hm := Mem.start w
  have HR := Aside0.mk hr
  have HH := Aside0.mk hh
  have hfew := hh.few
  clear hr hh
  go_enter Try.func78, Try.ntmps78
  go_wp2_with (first | fail | ((with_reducible refine gt_alloc 2 26 ?_); refine st_alloc rfl 2 rfl 26 rfl hm zero26 ?_; clear hm; intro g2 w2 hm) | ((with_reducible refine gt_build 26 ?_); refine st_zero rfl 26 rfl built26 ?_) | ((with_reducible refine gt_alloc 3 26 ?_); refine st_alloc rfl 3 rfl 26 rfl hm zero26 ?_; clear hm; intro g3 w3 hm) | ((with_reducible refine gt_store 26 ?_); (first | (refine st_full rfl 26 _ _ rfl hm rfl rfl 0 rfl agg26 (by first | omega | assumption | (simp only [lens]; first | omega | assumption) | (simp [lens]; done) | (simp [lens]; omega)) (by first | omega | assumption | (simp only [lens]; first | omega | assumption) | (simp [lens]; done) | (simp [lens]; omega)) ?_) | (refine st_full rfl 26 _ _ rfl hm rfl rfl 1 rfl agg26 (by first | omega | assumption | (simp only [lens]; first | omega | assumption) | (simp [lens]; done) | (simp [lens]; omega)) (by first | omega | assumption | (simp only [lens]; first | omega | assumption) | (simp [lens]; done) | (simp [lens]; omega)) ?_) | (refine st_full rfl 26 _ _ rfl hm rfl rfl 2 rfl agg26 (by first | omega | assumption | (simp only [lens]; first | omega | assumption) | (simp [lens]; done) | (simp [lens]; omega)) (by first | omega | assumption | (simp only [lens]; first | omega | assumption) | (simp [lens]; done) | (simp [lens]; omega)) ?_) | (refine st_full rfl 26 _ _ rfl hm rfl rfl 3 rfl agg26 (by first | omega | assumption | (simp only [lens]; first | omega | assumption) | (simp [lens]; done) | (simp [lens]; omega)) (by first | omega | assumption | (simp only [lens]; first | omega | assumption) | (simp [lens]; done) | (simp [lens]; omega)) ?_)); clear hm; intro ws hm; simp only [List.set_cons_zero, List.set_cons_succ] at hm) | ((with_reducible refine gt_load 26 ?_); (first | (refine st_load rfl 26 _ rfl hm rfl 0 rfl agg26 (by first | omega | assumption | (simp only [lens]; first | omega | assumption) | (simp [lens]; done) | (simp [lens]; omega)) ?_) | (refine st_load rfl 26 _ rfl hm rfl 1 rfl agg26 (by first | omega | assumption | (simp only [lens]; first | omega | assumption) | (simp [lens]; done) | (simp [lens]; omega)) ?_) | (refine st_load rfl 26 _ rfl hm rfl 2 rfl agg26 (by first | omega | assumption | (simp only [lens]; first | omega | assumption) | (simp [lens]; done) | (simp [lens]; omega)) ?_) | (refine st_load rfl 26 _ rfl hm rfl 3 rfl agg26 (by first | omega | assumption | (simp only [lens]; first | omega | assumption) | (simp [lens]; done) | (simp [lens]; omega)) ?_))))
  go_loopw [4] (fun v4 wr => ∃ i : Nat, i ≤ hs.length ∧ v4 = .int .i64 i ∧ Mem w wr [⟨g3, vals .i16 (needs (zs 44) hs i), 26, true⟩, ⟨g2, vals .i16 (zs 44), 26, true⟩]) (fun v4 _ => hs.length - (intOf v4).toNat)
  case atStart => exact ⟨0, by omega, rfl, hm⟩
  case round =>
    obtain ⟨i, hi, rfl, hm⟩ := hrel
    have hl2 := (needs_length (zs 44) hs i).trans zs_length
    by_cases hlt : i < hs.length
    · obtain ⟨ad, A1, c1, rfl, hc1, hl1, hC1⟩ := at_L1 HR.out (i : Int) (by omega) (by omega)
      rw [Int.toNat_natCast] at hc1
      replace hc1 := ((hm.done rfl).cell (World.block_lt_of_cell? w _ hc1)).trans hc1
      have HC1 := Aside0.mk hC1
      have HN := Aside0.mk (okH_N (HH.out.at i hlt))
      have HS := Aside0.mk (needs_succ (zs 44) hs i hlt)
      have HB := Aside0.mk (needs_part hs HH.out.short i hlt)
      clear hC1
      generalize rd_L1 hs (i : Int) = x at *
      generalize needs (zs 44) hs i = X at *
      go_wp2_with (first
        | (first | fail | ((with_reducible refine gt_alloc 2 26 ?_); refine st_alloc rfl 2 rfl 26 rfl hm zero26 ?_; clear hm; intro g2 w2 hm) | ((with_reducible refine gt_build 26 ?_); refine st_zero rfl 26 rfl built26 ?_) | ((with_reducible refine gt_alloc 3 26 ?_); refine st_alloc rfl 3 rfl 26 rfl hm zero26 ?_; clear hm; intro g3 w3 hm) | ((with_reducible refine gt_store 26 ?_); (first | (refine st_full rfl 26 _ _ rfl hm rfl rfl 0 rfl agg26 (by first | omega | assumption | (simp only [lens]; first | omega | assumption) | (simp [lens]; done) | (simp [lens]; omega)) (by first | omega | assumption | (simp only [lens]; first | omega | assumption) | (simp [lens]; done) | (simp [lens]; omega)) ?_) | (refine st_full rfl 26 _ _ rfl hm rfl rfl 1 rfl agg26 (by first | omega | assumption | (simp only [lens]; first | omega | assumption) | (simp [lens]; done) | (simp [lens]; omega)) (by first | omega | assumption | (simp only [lens]; first | omega | assumption) | (simp [lens]; done) | (simp [lens]; omega)) ?_) | (refine st_full rfl 26 _ _ rfl hm rfl rfl 2 rfl agg26 (by first | omega | assumption | (simp only [lens]; first | omega | assumption) | (simp [lens]; done) | (simp [lens]; omega)) (by first | omega | assumption | (simp only [lens]; first | omega | assumption) | (simp [lens]; done) | (simp [lens]; omega)) ?_) | (refine st_full rfl 26 _ _ rfl hm rfl rfl 3 rfl agg26 (by first | omega | assumption | (simp only [lens]; first | omega | assumption) | (simp [lens]; done) | (simp [lens]; omega)) (by first | omega | assumption | (simp only [lens]; first | omega | assumption) | (simp [lens]; done) | (simp [lens]; omega)) ?_)); clear hm; intro ws hm; simp only [List.set_cons_zero, List.set_cons_succ] at hm) | ((with_reducible refine gt_load 26 ?_); (first | (refine st_load rfl 26 _ rfl hm rfl 0 rfl agg26 (by first | omega | assumption | (simp only [lens]; first | omega | assumption) | (simp [lens]; done) | (simp [lens]; omega)) ?_) | (refine st_load rfl 26 _ rfl hm rfl 1 rfl agg26 (by first | omega | assumption | (simp only [lens]; first | omega | assumption) | (simp [lens]; done) | (simp [lens]; omega)) ?_) | (refine st_load rfl 26 _ rfl hm rfl 2 rfl agg26 (by first | omega | assumption | (simp only [lens]; first | omega | assumption) | (simp [lens]; done) | (simp [lens]; omega)) ?_) | (refine st_load rfl 26 _ rfl hm rfl 3 rfl agg26 (by first | omega | assumption | (simp only [lens]; first | omega | assumption) | (simp [lens]; done) | (simp [lens]; omega)) ?_))))
        | (go_at_call 94; refine (l04Add_calls g3 X A1 c1 x 1 _ (hm.mem (n := 0) rfl) (fun W cs hf => Kd.C_below HC1.out ((hm.fr1 (n := 0) rfl hf).done rfl)) hl1 hl2 HN.out.1 HN.out.2 (fun i hi j hj => by have := HB.out i hi j hj; omega)).mono ?_; rintro e wa ⟨rfl, hf⟩; replace hm := hm.fr1 (n := 0) rfl hf; simp only [List.set_cons_zero] at hm; clear hf))
      go_roundw
      case rel => exact ⟨i + 1, by omega, by go_num, by rw [HS.out]; exact hm⟩
      case measure => simp [intOf]; omega
    · have HI := Aside0.mk (show i = hs.length by omega)
      generalize hX : needs (zs 44) hs i = X at *
      have HX := Aside0.mk hX
      clear hX
      go_wp2_with (first | fail | ((with_reducible refine gt_alloc 2 26 ?_); refine st_alloc rfl 2 rfl 26 rfl hm zero26 ?_; clear hm; intro g2 w2 hm) | ((with_reducible refine gt_build 26 ?_); refine st_zero rfl 26 rfl built26 ?_) | ((with_reducible refine gt_alloc 3 26 ?_); refine st_alloc rfl 3 rfl 26 rfl hm zero26 ?_; clear hm; intro g3 w3 hm) | ((with_reducible refine gt_store 26 ?_); (first | (refine st_full rfl 26 _ _ rfl hm rfl rfl 0 rfl agg26 (by first | omega | assumption | (simp only [lens]; first | omega | assumption) | (simp [lens]; done) | (simp [lens]; omega)) (by first | omega | assumption | (simp only [lens]; first | omega | assumption) | (simp [lens]; done) | (simp [lens]; omega)) ?_) | (refine st_full rfl 26 _ _ rfl hm rfl rfl 1 rfl agg26 (by first | omega | assumption | (simp only [lens]; first | omega | assumption) | (simp [lens]; done) | (simp [lens]; omega)) (by first | omega | assumption | (simp only [lens]; first | omega | assumption) | (simp [lens]; done) | (simp [lens]; omega)) ?_) | (refine st_full rfl 26 _ _ rfl hm rfl rfl 2 rfl agg26 (by first | omega | assumption | (simp only [lens]; first | omega | assumption) | (simp [lens]; done) | (simp [lens]; omega)) (by first | omega | assumption | (simp only [lens]; first | omega | assumption) | (simp [lens]; done) | (simp [lens]; omega)) ?_) | (refine st_full rfl 26 _ _ rfl hm rfl rfl 3 rfl agg26 (by first | omega | assumption | (simp only [lens]; first | omega | assumption) | (simp [lens]; done) | (simp [lens]; omega)) (by first | omega | assumption | (simp only [lens]; first | omega | assumption) | (simp [lens]; done) | (simp [lens]; omega)) ?_)); clear hm; intro ws hm; simp only [List.set_cons_zero, List.set_cons_succ] at hm) | ((with_reducible refine gt_load 26 ?_); (first | (refine st_load rfl 26 _ rfl hm rfl 0 rfl agg26 (by first | omega | assumption | (simp only [lens]; first | omega | assumption) | (simp [lens]; done) | (simp [lens]; omega)) ?_) | (refine st_load rfl 26 _ rfl hm rfl 1 rfl agg26 (by first | omega | assumption | (simp only [lens]; first | omega | assumption) | (simp [lens]; done) | (simp [lens]; omega)) ?_) | (refine st_load rfl 26 _ rfl hm rfl 2 rfl agg26 (by first | omega | assumption | (simp only [lens]; first | omega | assumption) | (simp [lens]; done) | (simp [lens]; omega)) ?_) | (refine st_load rfl 26 _ rfl hm rfl 3 rfl agg26 (by first | omega | assumption | (simp only [lens]; first | omega | assumption) | (simp [lens]; done) | (simp [lens]; omega)) ?_))))
      ((try simp only [Exit.inBlock, Exit.then]); (first | (refine ret_cell hm rfl rfl 1 rfl agg26 (by first | omega | assumption | (simp only [lens]; first | omega | assumption) | (simp [lens]; done) | (simp [lens]; omega)) rfl ?_) | (refine ret_cell_tmp hm rfl rfl 1 rfl agg26 (by first | omega | assumption | (simp only [lens]; first | omega | assumption) | (simp [lens]; done) | (simp [lens]; omega)) rfl ?_)))
      exact ⟨by rw [← HX.out, HI.out], hm.done rfl⟩
theorem plus_pile (X h : List Int) (n : Nat) (hX : X.length = 44) (hb : ∀ j : Nat, j < 44 → -1000000 ≤ rd X (j : Int) ∧ rd X (j : Int) ≤ 1000000) (hn : n ≤ 1000) :
    List.zipWith (fun a b => wrap64 (a + b)) X (pile (zs 44) h 1 n) = pile X h 1 n := by
  have hp := (pile_length (zs 44) h 1 n).trans zs_length
  refine list_eq (n := 44) (zip_length _ _ _ hX hp) ((pile_length X h 1 n).trans hX) fun j hj => ?_
  have h1 := hb j hj
  have h2 := pile_small h n j hj
  rw [rd_zip _ _ _ j (by omega) (by omega), rd_pile X h 1 j (by omega) hX n, w64 (by omega) (by omega)]
set_option maxHeartbeats 8000000 in
set_option maxRecDepth 100000 in
theorem needed_calls (A0 : Option Addr) (c0 : Nat) (hs : List (List Int)) (w : World) (hr : Kd.C hk w A0 hs.length hs) (hc : hs.length ≤ c0) (hh : Hs hs) :
    Calls Try.prog 80 #[.slice A0 hs.length c0] w fun e w' => e = .returned (.agg (vals .i64 (needs (zs 44) hs hs.length))) ∧ Below w.heap.size w w' := by
  have hm := Mem.start w
  have HR := Aside0.mk hr
  have HH := Aside0.mk hh
  have hfew := hh.few
  clear hr hh
  go_enter Try.func80, Try.ntmps80
  go_wp2_with (first | fail | ((with_reducible refine gt_alloc 2 68 ?_); refine st_alloc rfl 2 rfl 68 rfl hm zero68 ?_; clear hm; intro g2 w2 hm) | ((with_reducible refine gt_build 68 ?_); refine st_zero rfl 68 rfl built68 ?_) | ((with_reducible refine gt_alloc 3 68 ?_); refine st_alloc rfl 3 rfl 68 rfl hm zero68 ?_; clear hm; intro g3 w3 hm) | ((with_reducible refine gt_store 68 ?_); (first | (refine st_full rfl 68 _ _ rfl hm rfl rfl 0 rfl agg68 (by first | omega | assumption | (simp only [lens]; first | omega | assumption) | (simp [lens]; done) | (simp [lens]; omega)) (by first | omega | assumption | (simp only [lens]; first | omega | assumption) | (simp [lens]; done) | (simp [lens]; omega)) ?_) | (refine st_full rfl 68 _ _ rfl hm rfl rfl 1 rfl agg68 (by first | omega | assumption | (simp only [lens]; first | omega | assumption) | (simp [lens]; done) | (simp [lens]; omega)) (by first | omega | assumption | (simp only [lens]; first | omega | assumption) | (simp [lens]; done) | (simp [lens]; omega)) ?_) | (refine st_full rfl 68 _ _ rfl hm rfl rfl 2 rfl agg68 (by first | omega | assumption | (simp only [lens]; first | omega | assumption) | (simp [lens]; done) | (simp [lens]; omega)) (by first | omega | assumption | (simp only [lens]; first | omega | assumption) | (simp [lens]; done) | (simp [lens]; omega)) ?_) | (refine st_full rfl 68 _ _ rfl hm rfl rfl 3 rfl agg68 (by first | omega | assumption | (simp only [lens]; first | omega | assumption) | (simp [lens]; done) | (simp [lens]; omega)) (by first | omega | assumption | (simp only [lens]; first | omega | assumption) | (simp [lens]; done) | (simp [lens]; omega)) ?_)); clear hm; intro ws hm; simp only [List.set_cons_zero, List.set_cons_succ] at hm) | ((with_reducible refine gt_load 68 ?_); (first | (refine st_load rfl 68 _ rfl hm rfl 0 rfl agg68 (by first | omega | assumption | (simp only [lens]; first | omega | assumption) | (simp [lens]; done) | (simp [lens]; omega)) ?_) | (refine st_load rfl 68 _ rfl hm rfl 1 rfl agg68 (by first | omega | assumption | (simp only [lens]; first | omega | assumption) | (simp [lens]; done) | (simp [lens]; omega)) ?_) | (refine st_load rfl 68 _ rfl hm rfl 2 rfl agg68 (by first | omega | assumption | (simp only [lens]; first | omega | assumption) | (simp [lens]; done) | (simp [lens]; omega)) ?_) | (refine st_load rfl 68 _ rfl hm rfl 3 rfl agg68 (by first | omega | assumption | (simp only [lens]; first | omega | assumption) | (simp [lens]; done) | (simp [lens]; omega)) ?_))))
  go_loopw [9, 5] (fun v9 v5 wr => ∃ i : Nat, i ≤ hs.length ∧ v9 = .int .i64 i ∧ Mem w wr [⟨g3, vals .i64 (needs (zs 44) hs i), 68, true⟩, ⟨g2, vals .i64 (zs 44), 68, true⟩]) (fun v9 _ _ => hs.length - (intOf v9).toNat)
  case atStart => exact ⟨0, by omega, rfl, hm⟩
  case round =>
    obtain ⟨i, hi, rfl, hm⟩ := hrel
    have hl2 := (needs_length (zs 44) hs i).trans zs_length
    by_cases hlt : i < hs.length
    · obtain ⟨ad, A1, c1, rfl, hc1, hl1, hC1⟩ := at_L1 HR.out (i : Int) (by omega) (by omega)
      rw [Int.toNat_natCast] at hc1
      replace hc1 := ((hm.done rfl).cell (World.block_lt_of_cell? w _ hc1)).trans hc1
      have HC1 := Aside0.mk hC1
      have HN := Aside0.mk (okH_N (HH.out.at i hlt))
      have HS := Aside0.mk (needs_succ (zs 44) hs i hlt)
      have HB := Aside0.mk (fun j hj => needs_small hs HH.out.short i (by omega) j hj)
      clear hC1
      generalize rd_L1 hs (i : Int) = x at *
      generalize needs (zs 44) hs i = X at *
      have HP := Aside0.mk (fun W hr => hoistPieces_calls A1 c1 x W hr hl1 HN.out.1 HN.out.2)
      have hlp := (pile_length (zs 44) x 1 x.length).trans zs_length
      have hPL := fun W => plus_calls X (pile (zs 44) x 1 x.length) W hl2 hlp
      rw [plus_pile X x x.length hl2 (fun j hj => by have := HB.out j hj; omega) HN.out.2, ← HS.out] at hPL
      have HPL := Aside0.mk hPL
      have hl5 := (needs_length (zs 44) hs (i + 1)).trans zs_length
      clear hPL HS HB HN
      generalize hY : needs (zs 44) hs (i + 1) = Y at *
      have HY := Aside0.mk hY
      clear hY
      generalize pile (zs 44) x 1 x.length = P at *
      go_wp2_with (first | fail | ((with_reducible refine gt_alloc 2 68 ?_); refine st_alloc rfl 2 rfl 68 rfl hm zero68 ?_; clear hm; intro g2 w2 hm) | ((with_reducible refine gt_build 68 ?_); refine st_zero rfl 68 rfl built68 ?_) | ((with_reducible refine gt_alloc 3 68 ?_); refine st_alloc rfl 3 rfl 68 rfl hm zero68 ?_; clear hm; intro g3 w3 hm) | ((with_reducible refine gt_store 68 ?_); (first | (refine st_full rfl 68 _ _ rfl hm rfl rfl 0 rfl agg68 (by first | omega | assumption | (simp only [lens]; first | omega | assumption) | (simp [lens]; done) | (simp [lens]; omega)) (by first | omega | assumption | (simp only [lens]; first | omega | assumption) | (simp [lens]; done) | (simp [lens]; omega)) ?_) | (refine st_full rfl 68 _ _ rfl hm rfl rfl 1 rfl agg68 (by first | omega | assumption | (simp only [lens]; first | omega | assumption) | (simp [lens]; done) | (simp [lens]; omega)) (by first | omega | assumption | (simp only [lens]; first | omega | assumption) | (simp [lens]; done) | (simp [lens]; omega)) ?_) | (refine st_full rfl 68 _ _ rfl hm rfl rfl 2 rfl agg68 (by first | omega | assumption | (simp only [lens]; first | omega | assumption) | (simp [lens]; done) | (simp [lens]; omega)) (by first | omega | assumption | (simp only [lens]; first | omega | assumption) | (simp [lens]; done) | (simp [lens]; omega)) ?_) | (refine st_full rfl 68 _ _ rfl hm rfl rfl 3 rfl agg68 (by first | omega | assumption | (simp only [lens]; first | omega | assumption) | (simp [lens]; done) | (simp [lens]; omega)) (by first | omega | assumption | (simp only [lens]; first | omega | assumption) | (simp [lens]; done) | (simp [lens]; omega)) ?_)); clear hm; intro ws hm; simp only [List.set_cons_zero, List.set_cons_succ] at hm) | ((with_reducible refine gt_load 68 ?_); (first | (refine st_load rfl 68 _ rfl hm rfl 0 rfl agg68 (by first | omega | assumption | (simp only [lens]; first | omega | assumption) | (simp [lens]; done) | (simp [lens]; omega)) ?_) | (refine st_load rfl 68 _ rfl hm rfl 1 rfl agg68 (by first | omega | assumption | (simp only [lens]; first | omega | assumption) | (simp [lens]; done) | (simp [lens]; omega)) ?_) | (refine st_load rfl 68 _ rfl hm rfl 2 rfl agg68 (by first | omega | assumption | (simp only [lens]; first | omega | assumption) | (simp [lens]; done) | (simp [lens]; omega)) ?_) | (refine st_load rfl 68 _ rfl hm rfl 3 rfl agg68 (by first | omega | assumption | (simp only [lens]; first | omega | assumption) | (simp [lens]; done) | (simp [lens]; omega)) ?_))))
      refine start_ (n := 5) (S := fun w' => Mem w w' [⟨g3, vals .i64 X, 68, true⟩, ⟨g2, vals .i64 (zs 44), 68, true⟩]) (ds := [4]) #[false, false, false, false, false] (by kernel_rfl) rfl rfl (hm.drawn _) (fun hHeld => ?_)
      refine pure_ (i := 1) (N := some 14) (v := ?_) (a' := ?_) #[false, true, false, false, false] rfl rfl (by kernel_rfl) (fun _ _ _ h => h) (Or.inl ⟨by rfl, ?_⟩) ?_ ?_
      rotate_left
      · intro w'
        go_simp
        with_reducible rfl
      rotate_left
      · simp only [Act.put, List.setIfInBounds_toArray, List.set_cons_zero, List.set_cons_succ, i64_w, i32_w]
        rfl
      refine take_ (i := 0) (N := some 13) (v := .agg (vals .i64 X)) (a' := ?_) #[true, true, false, false, false] rfl rfl (by kernel_rfl) (fun _ _ _ h => h) (Or.inl ⟨by rfl, ?_⟩) hHeld ?_ ?_
      · intro w' s0
        exact y_load (by rfl) (by rfl) 0 (by rfl) agg68 (by first | omega | assumption | (simp only [lens]; first | omega | assumption) | (simp [lens]; done) | (simp [lens]; omega)) w' s0
      rotate_left
      · simp only [Act.put, List.setIfInBounds_toArray, List.set_cons_zero, List.set_cons_succ, i64_w, i32_w]
        rfl
      refine one_ (i := 2) (N := some 15) #[true, true, true, false, false] rfl rfl (by kernel_rfl) (by decide) (fun K hK => ?_)
      refine goes_ Try.func69 (by kernel_rfl) rfl #[.slice A1 x.length c1] (by rfl) rfl rfl (by simp only [List.map_toArray, List.map_cons, List.map_nil]; rfl) ?_
      refine (HP.out _ (Kd.C_below HC1.out (hHeld.done rfl))).mono ?_
      rintro e w3 ⟨rfl, hb⟩
      refine ⟨_, rfl, ?_⟩
      refine hK.out _ _ (hHeld.after hb) (fun hHeld => ?_)
      clear hK K
      refine norm_ (a' := ?_) ?_ ?_
      rotate_left
      · show Act.put _ (some 15) _ = _
        simp only [Act.put, List.setIfInBounds_toArray, List.set_cons_zero, List.set_cons_succ, i64_w, i32_w]
        rfl
      refine one_ (i := 3) (N := some 16) #[true, true, true, true, false] rfl rfl (by kernel_rfl) (by decide) (fun K hK => ?_)
      refine goes_ Try.func97 (by kernel_rfl) rfl #[.agg (vals .i64 X), .agg (vals .i64 P)] (by rfl) rfl rfl (by simp only [List.map_toArray, List.map_cons, List.map_nil]; rfl) ?_
      refine (HPL.out _).mono ?_
      rintro e w3 ⟨rfl, hb⟩
      refine ⟨_, rfl, ?_⟩
      refine hK.out _ _ (hHeld.after hb) (fun hHeld => ?_)
      clear hK K
      refine norm_ (a' := ?_) ?_ ?_
      rotate_left
      · show Act.put _ (some 16) _ = _
        simp only [Act.put, List.setIfInBounds_toArray, List.set_cons_zero, List.set_cons_succ, i64_w, i32_w]
        rfl
      refine last_ (i := 4) (N := none) #[true, true, true, true, true] rfl rfl (by kernel_rfl) (by decide) (fun K hK => ?_)
      refine skip_ (by rfl) rfl (y_store (by rfl) (by rfl) (by rfl) 0 hHeld (by rfl) agg68 (by first | omega | assumption | (simp only [lens]; first | omega | assumption) | (simp [lens]; done) | (simp [lens]; omega)) (by first | omega | assumption | (simp only [lens]; first | omega | assumption) | (simp [lens]; done) | (simp [lens]; omega))) ?_
      have hm := hHeld.row (n := 0) rfl (vals .i64 Y)
      refine hK.out _ _ ?_
      clear hK K
      refine norm_ (a' := ?_) ?_ ?_
      rotate_left
      · rfl
      refine done_ (by kernel_rfl) ?_
      simp only [List.set_cons_zero, List.set_cons_succ] at hm
      go_wp2_with fail
      go_roundw
      case rel => exact ⟨i + 1, by omega, by go_num, by rw [HY.out]; exact hm⟩
      case measure => simp [intOf]; omega
    · have HI := Aside0.mk (show i = hs.length by omega)
      generalize hX : needs (zs 44) hs i = X at *
      have HX := Aside0.mk hX
      clear hX
      go_wp2_with (first | fail | ((with_reducible refine gt_alloc 2 68 ?_); refine st_alloc rfl 2 rfl 68 rfl hm zero68 ?_; clear hm; intro g2 w2 hm) | ((with_reducible refine gt_build 68 ?_); refine st_zero rfl 68 rfl built68 ?_) | ((with_reducible refine gt_alloc 3 68 ?_); refine st_alloc rfl 3 rfl 68 rfl hm zero68 ?_; clear hm; intro g3 w3 hm) | ((with_reducible refine gt_store 68 ?_); (first | (refine st_full rfl 68 _ _ rfl hm rfl rfl 0 rfl agg68 (by first | omega | assumption | (simp only [lens]; first | omega | assumption) | (simp [lens]; done) | (simp [lens]; omega)) (by first | omega | assumption | (simp only [lens]; first | omega | assumption) | (simp [lens]; done) | (simp [lens]; omega)) ?_) | (refine st_full rfl 68 _ _ rfl hm rfl rfl 1 rfl agg68 (by first | omega | assumption | (simp only [lens]; first | omega | assumption) | (simp [lens]; done) | (simp [lens]; omega)) (by first | omega | assumption | (simp only [lens]; first | omega | assumption) | (simp [lens]; done) | (simp [lens]; omega)) ?_) | (refine st_full rfl 68 _ _ rfl hm rfl rfl 2 rfl agg68 (by first | omega | assumption | (simp only [lens]; first | omega | assumption) | (simp [lens]; done) | (simp [lens]; omega)) (by first | omega | assumption | (simp only [lens]; first | omega | assumption) | (simp [lens]; done) | (simp [lens]; omega)) ?_) | (refine st_full rfl 68 _ _ rfl hm rfl rfl 3 rfl agg68 (by first | omega | assumption | (simp only [lens]; first | omega | assumption) | (simp [lens]; done) | (simp [lens]; omega)) (by first | omega | assumption | (simp only [lens]; first | omega | assumption) | (simp [lens]; done) | (simp [lens]; omega)) ?_)); clear hm; intro ws hm; simp only [List.set_cons_zero, List.set_cons_succ] at hm) | ((with_reducible refine gt_load 68 ?_); (first | (refine st_load rfl 68 _ rfl hm rfl 0 rfl agg68 (by first | omega | assumption | (simp only [lens]; first | omega | assumption) | (simp [lens]; done) | (simp [lens]; omega)) ?_) | (refine st_load rfl 68 _ rfl hm rfl 1 rfl agg68 (by first | omega | assumption | (simp only [lens]; first | omega | assumption) | (simp [lens]; done) | (simp [lens]; omega)) ?_) | (refine st_load rfl 68 _ rfl hm rfl 2 rfl agg68 (by first | omega | assumption | (simp only [lens]; first | omega | assumption) | (simp [lens]; done) | (simp [lens]; omega)) ?_) | (refine st_load rfl 68 _ rfl hm rfl 3 rfl agg68 (by first | omega | assumption | (simp only [lens]; first | omega | assumption) | (simp [lens]; done) | (simp [lens]; omega)) ?_))))
      ((try simp only [Exit.inBlock, Exit.then]); (first | (refine ret_cell hm rfl rfl 1 rfl agg68 (by first | omega | assumption | (simp only [lens]; first | omega | assumption) | (simp [lens]; done) | (simp [lens]; omega)) rfl ?_) | (refine ret_cell_tmp hm rfl rfl 1 rfl agg68 (by first | omega | assumption | (simp only [lens]; first | omega | assumption) | (simp [lens]; done) | (simp [lens]; omega)) rfl ?_)))
      exact ⟨by rw [← HX.out, HI.out], hm.done rfl⟩
end Go.Proofs.Ytmpkgdgbjhegnaa.Arr
