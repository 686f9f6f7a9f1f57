/- What a hoist needs, as both parts count it; whether a list is a hoist, as it is called. No condition beyond the list's length and its numbers' kind. -/
import Derived.Test.YtmpkgdgbjhegnaaHoistEv
import Derived.Test.YtmpkgdgbjhegnaaHoistSum
import Derived.Test.YtmpkgdgbjhegnaaFuncLib
import Derived.StillTailTactics
namespace Go.Proofs.Ytmpkgdgbjhegnaa.Arr
open Go.RowKit Go.Proofs.YtmpkgdgbjhegnaaW.PrintWords Go.Proofs.YtmpkgdgbjhegnaaW.PrintLast Go.Proofs.YtmpkgdgbjhegnaaW.PrintMore Go.Proofs.Ytmpkgdgbjhegnaa.U Go.Proofs.Ytmpkgdgbjhegnaa.B
set_option linter.unusedVariables false
set_option linter.unusedSimpArgs false

theorem l02Ok_calls (A0 : Option Addr) (c0 : Nat) (h : List Int) (w : World) (hr : Kd.C (Kd.int .i8) w A0 h.length h) (hc : h.length ≤ c0) (hn : h.length ≤ 100000000) (hb : ∀ x ∈ h, -128 ≤ x ∧ x ≤ 127) :
    Calls Try.prog 66 #[.slice A0 h.length c0] w fun e w' => e = .returned (.bool (okH h)) ∧ Below w.heap.size w w' := by
  obtain ⟨k, hk⟩ := (l02Read_ev h hn hb).rounds
  refine spec_l02Ok.calls k A0 c0 h (okH h) w hr hc ?_
  unfold spec_l02Ok.f
  rw [hk]
  unfold okH
  cases readH h <;> rfl
theorem validHoist_calls (A0 : Option Addr) (c0 : Nat) (h : List Int) (w : World) (hr : Kd.C (Kd.int .i8) w A0 h.length h) (hc : h.length ≤ c0) (hn : h.length ≤ 100000000) (hb : ∀ x ∈ h, -128 ≤ x ∧ x ≤ 127) :
    Calls Try.prog 68 #[.slice A0 h.length c0] w fun e w' => e = .returned (.bool (okH h)) ∧ Below w.heap.size w w' := by
  obtain ⟨k, hk⟩ := (meaning_ev h hn hb).rounds
  refine impl_ValidHoist.calls k A0 c0 h (okH h) w hr hc ?_
  unfold impl_ValidHoist.f
  rw [hk, Option.bind_some, implRead_snd]

theorem i64w {x : Int} (h0 : -9223372036854775808 ≤ x) (h1 : x ≤ 9223372036854775807) : IntKind.i64.wrap x = x := by
  unfold IntKind.wrap
  simp only [IntKind.signed, IntKind.bits]
  simp
  omega

set_option maxHeartbeats 4000000 in
set_option maxRecDepth 100000 in
theorem add_calls (g : Nat) (L : List Int) (x t : Int) (w : World) (h0 : w.heap[g]? = some (.cells (vals .i64 L) 68 (0, 0))) (hl : L.length = 44) (hx : NumH x) (hb : ∀ j : Nat, j < 44 → -1000000000 ≤ rd L (j : Int) ∧ rd L (j : Int) ≤ 1000000000) (ht : -1000000000 ≤ t ∧ t ≤ 1000000000) :
    Calls Try.prog 89 #[.pointer (some ⟨g, 0, none⟩), .int .i8 x, .int .i64 t] w fun e w' => e = .returned (.tuple #[]) ∧ Fr1 g (vals .i64 (bump L x t)) 68 w w' := by
  have hm := Mem.given h0
  clear h0
  by_cases hx0 : 0 ≤ x
  · have hx9 : x < 40 := by rcases hx with h | h | h <;> omega
    have hv := hm.get (n := 0) rfl x.toNat (by omega)
    have HB := Aside0.mk (show bump L x t = L.set x.toNat (rd L (x.toNat : Nat) + t) by unfold bump; rw [if_neg (by omega), slot_flag hx0])
    have h1 := hb x.toNat (by omega)
    generalize rd L (x.toNat : Nat) = y at *
    have HW := Aside0.mk (i64w (x := y + t) (by omega) (by omega))
    clear hx hb
    go_enter Try.func89, Try.ntmps89
    go_wp2_with (first | fail | ((with_reducible refine gt_field 68 0 ?_); refine st_field rfl 68 _ 0 rfl rfl field68_0 ?_) | ((with_reducible refine gt_elem 65 ?_); refine st_elem rfl 65 _ _ rfl rfl rfl arr65 (by first | omega | assumption | (simp only [lens]; first | omega | assumption) | (simp [lens]; done) | (simp [lens]; omega)) (by first | omega | assumption | (simp only [lens]; first | omega | assumption) | (simp [lens]; done) | (simp [lens]; omega)) ?_) | ((with_reducible refine gt_load 3 ?_); (first | (refine st_get rfl 3 _ rfl hm rfl 0 rfl one3 (by first | omega | assumption | (simp only [lens]; first | omega | assumption) | (simp [lens]; done) | (simp [lens]; omega)) ?_) | (refine st_get rfl 3 _ rfl hm rfl 1 rfl one3 (by first | omega | assumption | (simp only [lens]; first | omega | assumption) | (simp [lens]; done) | (simp [lens]; omega)) ?_))) | ((with_reducible refine gt_store 3 ?_); (first | (refine st_set rfl 3 _ _ rfl hm rfl rfl 0 rfl one3 (by first | omega | assumption | (simp only [lens]; first | omega | assumption) | (simp [lens]; done) | (simp [lens]; omega)) ?_) | (refine st_set rfl 3 _ _ rfl hm rfl rfl 1 rfl one3 (by first | omega | assumption | (simp only [lens]; first | omega | assumption) | (simp [lens]; done) | (simp [lens]; omega)) ?_)); clear hm; intro ws hm; simp only [List.set_cons_zero, List.set_cons_succ] at hm) | ((with_reducible refine gt_field 68 1 ?_); refine st_field rfl 68 _ 1 rfl rfl field68_1 ?_) | ((with_reducible refine gt_elem 66 ?_); refine st_elem rfl 66 _ _ rfl rfl rfl arr66 (by first | omega | assumption | (simp only [lens]; first | omega | assumption) | (simp [lens]; done) | (simp [lens]; omega)) (by first | omega | assumption | (simp only [lens]; first | omega | assumption) | (simp [lens]; done) | (simp [lens]; omega)) ?_))
    go_still_tail 11, (by kernel_rfl)
    replace hm := hm.drawn (w.drawn + 1)
    go_wp2_with (first | fail | ((with_reducible refine gt_field 68 0 ?_); refine st_field rfl 68 _ 0 rfl rfl field68_0 ?_) | ((with_reducible refine gt_elem 65 ?_); refine st_elem rfl 65 _ _ rfl rfl rfl arr65 (by first | omega | assumption | (simp only [lens]; first | omega | assumption) | (simp [lens]; done) | (simp [lens]; omega)) (by first | omega | assumption | (simp only [lens]; first | omega | assumption) | (simp [lens]; done) | (simp [lens]; omega)) ?_) | ((with_reducible refine gt_load 3 ?_); (first | (refine st_get rfl 3 _ rfl hm rfl 0 rfl one3 (by first | omega | assumption | (simp only [lens]; first | omega | assumption) | (simp [lens]; done) | (simp [lens]; omega)) ?_) | (refine st_get rfl 3 _ rfl hm rfl 1 rfl one3 (by first | omega | assumption | (simp only [lens]; first | omega | assumption) | (simp [lens]; done) | (simp [lens]; omega)) ?_))) | ((with_reducible refine gt_store 3 ?_); (first | (refine st_set rfl 3 _ _ rfl hm rfl rfl 0 rfl one3 (by first | omega | assumption | (simp only [lens]; first | omega | assumption) | (simp [lens]; done) | (simp [lens]; omega)) ?_) | (refine st_set rfl 3 _ _ rfl hm rfl rfl 1 rfl one3 (by first | omega | assumption | (simp only [lens]; first | omega | assumption) | (simp [lens]; done) | (simp [lens]; omega)) ?_)); clear hm; intro ws hm; simp only [List.set_cons_zero, List.set_cons_succ] at hm) | ((with_reducible refine gt_field 68 1 ?_); refine st_field rfl 68 _ 1 rfl rfl field68_1 ?_) | ((with_reducible refine gt_elem 66 ?_); refine st_elem rfl 66 _ _ rfl rfl rfl arr66 (by first | omega | assumption | (simp only [lens]; first | omega | assumption) | (simp [lens]; done) | (simp [lens]; omega)) (by first | omega | assumption | (simp only [lens]; first | omega | assumption) | (simp [lens]; done) | (simp [lens]; omega)) ?_))
    refine bodyPost_end (results_none rfl _ _ _) rfl ?_
    refine ⟨rfl, ?_⟩
    rw [HW.out] at hm
    rw [HB.out]
    exact hm.gives (M := []) rfl
  · by_cases hx1 : x = -10
    · have HB := Aside0.mk (show bump L x t = L by unfold bump; rw [if_pos hx1])
      subst hx1
      clear hx0 hx hb
      go_enter Try.func89, Try.ntmps89
      go_wp2_with (first | fail | ((with_reducible refine gt_field 68 0 ?_); refine st_field rfl 68 _ 0 rfl rfl field68_0 ?_) | ((with_reducible refine gt_elem 65 ?_); refine st_elem rfl 65 _ _ rfl rfl rfl arr65 (by first | omega | assumption | (simp only [lens]; first | omega | assumption) | (simp [lens]; done) | (simp [lens]; omega)) (by first | omega | assumption | (simp only [lens]; first | omega | assumption) | (simp [lens]; done) | (simp [lens]; omega)) ?_) | ((with_reducible refine gt_load 3 ?_); (first | (refine st_get rfl 3 _ rfl hm rfl 0 rfl one3 (by first | omega | assumption | (simp only [lens]; first | omega | assumption) | (simp [lens]; done) | (simp [lens]; omega)) ?_) | (refine st_get rfl 3 _ rfl hm rfl 1 rfl one3 (by first | omega | assumption | (simp only [lens]; first | omega | assumption) | (simp [lens]; done) | (simp [lens]; omega)) ?_))) | ((with_reducible refine gt_store 3 ?_); (first | (refine st_set rfl 3 _ _ rfl hm rfl rfl 0 rfl one3 (by first | omega | assumption | (simp only [lens]; first | omega | assumption) | (simp [lens]; done) | (simp [lens]; omega)) ?_) | (refine st_set rfl 3 _ _ rfl hm rfl rfl 1 rfl one3 (by first | omega | assumption | (simp only [lens]; first | omega | assumption) | (simp [lens]; done) | (simp [lens]; omega)) ?_)); clear hm; intro ws hm; simp only [List.set_cons_zero, List.set_cons_succ] at hm) | ((with_reducible refine gt_field 68 1 ?_); refine st_field rfl 68 _ 1 rfl rfl field68_1 ?_) | ((with_reducible refine gt_elem 66 ?_); refine st_elem rfl 66 _ _ rfl rfl rfl arr66 (by first | omega | assumption | (simp only [lens]; first | omega | assumption) | (simp [lens]; done) | (simp [lens]; omega)) (by first | omega | assumption | (simp only [lens]; first | omega | assumption) | (simp [lens]; done) | (simp [lens]; omega)) ?_))
      refine bodyPost_end (results_none rfl _ _ _) rfl ?_
      refine ⟨rfl, ?_⟩
      rw [HB.out]
      exact hm.gives (M := []) rfl
    · have hx9 : x = -4 ∨ x = -3 ∨ x = -2 ∨ x = -1 := by rcases hx with h | h | h <;> omega
      have hv := hm.get (n := 0) rfl (slot x) (by have := slot_lt hx hx1; omega)
      have HB := Aside0.mk (show bump L x t = L.set (slot x) (rd L (slot x : Nat) + t) by unfold bump; rw [if_neg hx1])
      have h1 := hb (slot x) (slot_lt hx hx1)
      generalize rd L (slot x : Nat) = y at *
      have HW := Aside0.mk (i64w (x := y + t) (by omega) (by omega))
      clear hb hx hx0 hx1
      rcases hx9 with rfl | rfl | rfl | rfl
      all_goals
        simp only [slot] at hv
        simp at hv
        have k0 : IntKind.i8.wrap 0 = 0 := rfl
        have k1 : IntKind.i8.wrap 1 = 1 := rfl
        have k2 : IntKind.i8.wrap 2 = 2 := rfl
        have k3 : IntKind.i8.wrap 3 = 3 := rfl
        have k4 : IntKind.i8.wrap 4 = 4 := rfl
        go_enter Try.func89, Try.ntmps89
        go_wp2_with (first | fail | ((with_reducible refine gt_field 68 0 ?_); refine st_field rfl 68 _ 0 rfl rfl field68_0 ?_) | ((with_reducible refine gt_elem 65 ?_); refine st_elem rfl 65 _ _ rfl rfl rfl arr65 (by first | omega | assumption | (simp only [lens]; first | omega | assumption) | (simp [lens]; done) | (simp [lens]; omega)) (by first | omega | assumption | (simp only [lens]; first | omega | assumption) | (simp [lens]; done) | (simp [lens]; omega)) ?_) | ((with_reducible refine gt_load 3 ?_); (first | (refine st_get rfl 3 _ rfl hm rfl 0 rfl one3 (by first | omega | assumption | (simp only [lens]; first | omega | assumption) | (simp [lens]; done) | (simp [lens]; omega)) ?_) | (refine st_get rfl 3 _ rfl hm rfl 1 rfl one3 (by first | omega | assumption | (simp only [lens]; first | omega | assumption) | (simp [lens]; done) | (simp [lens]; omega)) ?_))) | ((with_reducible refine gt_store 3 ?_); (first | (refine st_set rfl 3 _ _ rfl hm rfl rfl 0 rfl one3 (by first | omega | assumption | (simp only [lens]; first | omega | assumption) | (simp [lens]; done) | (simp [lens]; omega)) ?_) | (refine st_set rfl 3 _ _ rfl hm rfl rfl 1 rfl one3 (by first | omega | assumption | (simp only [lens]; first | omega | assumption) | (simp [lens]; done) | (simp [lens]; omega)) ?_)); clear hm; intro ws hm; simp only [List.set_cons_zero, List.set_cons_succ] at hm) | ((with_reducible refine gt_field 68 1 ?_); refine st_field rfl 68 _ 1 rfl rfl field68_1 ?_) | ((with_reducible refine gt_elem 66 ?_); refine st_elem rfl 66 _ _ rfl rfl rfl arr66 (by first | omega | assumption | (simp only [lens]; first | omega | assumption) | (simp [lens]; done) | (simp [lens]; omega)) (by first | omega | assumption | (simp only [lens]; first | omega | assumption) | (simp [lens]; done) | (simp [lens]; omega)) ?_))
        go_still_tail 13, (by kernel_rfl)
        replace hm := hm.drawn (w.drawn + 1)
        go_wp2_with (first | fail | ((with_reducible refine gt_field 68 0 ?_); refine st_field rfl 68 _ 0 rfl rfl field68_0 ?_) | ((with_reducible refine gt_elem 65 ?_); refine st_elem rfl 65 _ _ rfl rfl rfl arr65 (by first | omega | assumption | (simp only [lens]; first | omega | assumption) | (simp [lens]; done) | (simp [lens]; omega)) (by first | omega | assumption | (simp only [lens]; first | omega | assumption) | (simp [lens]; done) | (simp [lens]; omega)) ?_) | ((with_reducible refine gt_load 3 ?_); (first | (refine st_get rfl 3 _ rfl hm rfl 0 rfl one3 (by first | omega | assumption | (simp only [lens]; first | omega | assumption) | (simp [lens]; done) | (simp [lens]; omega)) ?_) | (refine st_get rfl 3 _ rfl hm rfl 1 rfl one3 (by first | omega | assumption | (simp only [lens]; first | omega | assumption) | (simp [lens]; done) | (simp [lens]; omega)) ?_))) | ((with_reducible refine gt_store 3 ?_); (first | (refine st_set rfl 3 _ _ rfl hm rfl rfl 0 rfl one3 (by first | omega | assumption | (simp only [lens]; first | omega | assumption) | (simp [lens]; done) | (simp [lens]; omega)) ?_) | (refine st_set rfl 3 _ _ rfl hm rfl rfl 1 rfl one3 (by first | omega | assumption | (simp only [lens]; first | omega | assumption) | (simp [lens]; done) | (simp [lens]; omega)) ?_)); clear hm; intro ws hm; simp only [List.set_cons_zero, List.set_cons_succ] at hm) | ((with_reducible refine gt_field 68 1 ?_); refine st_field rfl 68 _ 1 rfl rfl field68_1 ?_) | ((with_reducible refine gt_elem 66 ?_); refine st_elem rfl 66 _ _ rfl rfl rfl arr66 (by first | omega | assumption | (simp only [lens]; first | omega | assumption) | (simp [lens]; done) | (simp [lens]; omega)) (by first | omega | assumption | (simp only [lens]; first | omega | assumption) | (simp [lens]; done) | (simp [lens]; omega)) ?_))
        refine bodyPost_end (results_none rfl _ _ _) rfl ?_
        refine ⟨rfl, ?_⟩
        rw [HW.out] at hm
        rw [HB.out]
        simpa [slot] using hm.gives (M := []) rfl
end Go.Proofs.Ytmpkgdgbjhegnaa.Arr
