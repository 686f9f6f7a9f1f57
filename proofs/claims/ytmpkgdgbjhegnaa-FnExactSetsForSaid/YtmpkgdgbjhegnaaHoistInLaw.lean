/- The laws of the flags and of the substitutes of a hoist. No condition. -/
import Derived.Test.YtmpkgdgbjhegnaaHoistIn
import Derived.Test.YtmpkgdgbjhegnaaArrG
namespace Go.Proofs.Ytmpkgdgbjhegnaa.Arr
open Go.RowKit Go.Proofs.YtmpkgdgbjhegnaaW.PrintWords Go.Proofs.YtmpkgdgbjhegnaaW.PrintLast Go.Proofs.YtmpkgdgbjhegnaaW.PrintMore Go.Proofs.Ytmpkgdgbjhegnaa.U Go.Proofs.Ytmpkgdgbjhegnaa.B
set_option linter.unusedVariables false
set_option linter.unusedSimpArgs false

theorem toHoist_keeps (A0 : Option Addr) (c0 : Nat) (l : List Int) (w : World) (hr : Kd.C (Kd.int .i8) w A0 l.length l) (hc : l.length ≤ c0) (hn : l.length ≤ 1048576) :
    Calls Try.prog 26 #[.slice A0 l.length c0] w fun e w' => ∃ A c R, e = .returned (.slice A l.length c) ∧ l.length ≤ c ∧ newEnts w' w.heap.size = R ∧ R.all (·.own) = true ∧ (∀ W, Held R W → Kd.C (Kd.int .i8) W A l.length l) ∧ Below w.heap.size w w' := by
  obtain ⟨k, hk⟩ := (toHoist_ev l (by omega)).rounds
  refine (laws_toHoist.calls k A0 c0 l l w hr hc hk).mono ?_
  rintro e w' ⟨v, rfl, hR, hb⟩
  obtain ⟨A, c, rfl, h1, h2⟩ := Kd.R_reads hR
  exact ⟨A, c, _, rfl, h1, rfl, newEnts_own, fun W hh => C_held hR hh, hb⟩
theorem wfi8 {x : Int} (h : WfI .i8 x) : -128 ≤ x ∧ x ≤ 127 := by
  unfold WfI at h
  simp only [Lit.wf, IntKind.min, IntKind.max, IntKind.signed, IntKind.bits, Bool.and_eq_true, decide_eq_true_eq, if_true] at h
  omega
theorem inRes_ex (off m : Nat) (h : List Int) (hm : off + m ≤ 44) : ∃ (Z : List Int) (b : Int), Z.length = m ∧ Aside0 (inRes off m h = .tuple #[.agg (vals .i64 Z), .int .i64 b]) := by
  unfold inRes
  by_cases hk : okH h = true
  · exact ⟨_, _, by rw [List.length_take, List.length_drop, pile_length, zs_length]; omega, ⟨if_pos hk⟩⟩
  · exact ⟨_, _, zs_length, ⟨if_neg hk⟩⟩
set_option maxHeartbeats 4000000 in
set_option maxRecDepth 100000 in
theorem eqInt64A40_calls (L L' : List Int) (w : World) (hl : L.length = 40) (hl' : L'.length = 40) : Calls Try.prog 28 #[.agg (vals .i64 L), .agg (vals .i64 L')] w fun e w' => e = .returned (.bool (decide (L = L'))) ∧ Below w.heap.size w w' := by
  have hm := Mem.start w
  go_enter Try.func28, Try.ntmps28
  go_wp2_with (first | fail | ((with_reducible refine gt_box 2 41 ?_); refine st_box rfl 2 rfl 41 _ rfl hm (v := .agg (vals _ _)) rfl (cs := vals _ _) rfl ?_; clear hm; intro g2 w2 hm) | ((with_reducible refine gt_box 3 41 ?_); refine st_box rfl 3 rfl 41 _ rfl hm (v := .agg (vals _ _)) rfl (cs := vals _ _) rfl ?_; clear hm; intro g3 w3 hm) | ((with_reducible refine gt_elem 41 ?_); refine st_elem rfl 41 _ _ rfl rfl rfl arr41 (by first | omega | assumption | (simp only [lens]; first | omega | assumption) | (simp [lens]; done) | (simp [lens]; omega)) (by first | omega | assumption | (simp only [lens]; first | omega | assumption) | (simp [lens]; done) | (simp [lens]; omega)) ?_) | ((with_reducible refine gt_load 2 ?_); (first | (refine st_get rfl 2 _ rfl hm rfl 0 rfl one2 (by first | omega | assumption | (simp only [lens]; first | omega | assumption) | (simp [lens]; done) | (simp [lens]; omega)) ?_) | (refine st_get rfl 2 _ rfl hm rfl 1 rfl one2 (by first | omega | assumption | (simp only [lens]; first | omega | assumption) | (simp [lens]; done) | (simp [lens]; omega)) ?_) | (refine st_get rfl 2 _ rfl hm rfl 2 rfl one2 (by first | omega | assumption | (simp only [lens]; first | omega | assumption) | (simp [lens]; done) | (simp [lens]; omega)) ?_) | (refine st_get rfl 2 _ rfl hm rfl 3 rfl one2 (by first | omega | assumption | (simp only [lens]; first | omega | assumption) | (simp [lens]; done) | (simp [lens]; omega)) ?_))))
  go_loopw [5] (fun v5 wr => ∃ i : Nat, i ≤ 40 ∧ v5 = .int .i64 i ∧ Aside0 (∀ j : Nat, j < i → rd L (j : Int) = rd L' (j : Int)) ∧ Mem w wr [⟨g3, vals .i64 L', 41, true⟩, ⟨g2, vals .i64 L, 41, true⟩]) (fun v5 _ => 40 - (intOf v5).toNat)
  case atStart => exact ⟨0, by omega, rfl, ⟨fun j hj => absurd hj (by omega)⟩, hm⟩
  case round =>
    obtain ⟨i, hi, rfl, HJ, hm⟩ := hrel
    by_cases hlt : i < 40
    · have hc1 := hm.get (n := 1) rfl i (by omega)
      have hc2 := hm.get (n := 0) rfl i (by omega)
      have HM := Aside0.mk hm
      clear hm
      generalize hx : rd L (i : Int) = x at *
      generalize hy : rd L' (i : Int) = y at *
      have HX := Aside0.mk hx
      have HY := Aside0.mk hy
      clear hx hy
      by_cases hxy : x = y
      · subst hxy
        go_wp2
        repeat (go_quiet (fail); try go_wp2)
        go_roundw
        case rel => exact ⟨i + 1, by omega, by go_num, ⟨fun j hj => by
          rcases Nat.lt_or_ge j i with h | h
          · exact HJ.out j h
          · obtain rfl : j = i := by omega
            rw [HX.out, HY.out]⟩, HM.out.drawn _⟩
        case measure => simp [intOf]; omega
      · have hd := Aside0.mk (show (x != y) = true by simpa using hxy)
        go_wp2
        go_quiet (fail)
        rw [hd.out]
        go_wp2
        go_ret
        refine ⟨?_, (HM.out.drawn _).done rfl⟩
        rw [decide_eq_false (p := L = L') (fun e => hxy (by rw [← HX.out, ← HY.out, e]))]; rfl
    · have HI := Aside0.mk (show i = 40 by omega)
      go_wp2_with (first | fail | ((with_reducible refine gt_box 2 41 ?_); refine st_box rfl 2 rfl 41 _ rfl hm (v := .agg (vals _ _)) rfl (cs := vals _ _) rfl ?_; clear hm; intro g2 w2 hm) | ((with_reducible refine gt_box 3 41 ?_); refine st_box rfl 3 rfl 41 _ rfl hm (v := .agg (vals _ _)) rfl (cs := vals _ _) rfl ?_; clear hm; intro g3 w3 hm) | ((with_reducible refine gt_elem 41 ?_); refine st_elem rfl 41 _ _ rfl rfl rfl arr41 (by first | omega | assumption | (simp only [lens]; first | omega | assumption) | (simp [lens]; done) | (simp [lens]; omega)) (by first | omega | assumption | (simp only [lens]; first | omega | assumption) | (simp [lens]; done) | (simp [lens]; omega)) ?_) | ((with_reducible refine gt_load 2 ?_); (first | (refine st_get rfl 2 _ rfl hm rfl 0 rfl one2 (by first | omega | assumption | (simp only [lens]; first | omega | assumption) | (simp [lens]; done) | (simp [lens]; omega)) ?_) | (refine st_get rfl 2 _ rfl hm rfl 1 rfl one2 (by first | omega | assumption | (simp only [lens]; first | omega | assumption) | (simp [lens]; done) | (simp [lens]; omega)) ?_) | (refine st_get rfl 2 _ rfl hm rfl 2 rfl one2 (by first | omega | assumption | (simp only [lens]; first | omega | assumption) | (simp [lens]; done) | (simp [lens]; omega)) ?_) | (refine st_get rfl 2 _ rfl hm rfl 3 rfl one2 (by first | omega | assumption | (simp only [lens]; first | omega | assumption) | (simp [lens]; done) | (simp [lens]; omega)) ?_))))
      go_ret
      refine ⟨?_, hm.done rfl⟩
      rw [decide_eq_true (p := L = L') (list_eq hl hl' (fun j hj => HJ.out j (by rw [HI.out]; exact hj)))]; rfl
set_option maxHeartbeats 4000000 in
set_option maxRecDepth 100000 in
theorem eqInt64A4_calls (L L' : List Int) (w : World) (hl : L.length = 4) (hl' : L'.length = 4) : Calls Try.prog 32 #[.agg (vals .i64 L), .agg (vals .i64 L')] w fun e w' => e = .returned (.bool (decide (L = L'))) ∧ Below w.heap.size w w' := by
  have hm := Mem.start w
  go_enter Try.func32, Try.ntmps32
  go_wp2_with (first | fail | ((with_reducible refine gt_box 2 49 ?_); refine st_box rfl 2 rfl 49 _ rfl hm (v := .agg (vals _ _)) rfl (cs := vals _ _) rfl ?_; clear hm; intro g2 w2 hm) | ((with_reducible refine gt_box 3 49 ?_); refine st_box rfl 3 rfl 49 _ rfl hm (v := .agg (vals _ _)) rfl (cs := vals _ _) rfl ?_; clear hm; intro g3 w3 hm) | ((with_reducible refine gt_elem 49 ?_); refine st_elem rfl 49 _ _ rfl rfl rfl arr49 (by first | omega | assumption | (simp only [lens]; first | omega | assumption) | (simp [lens]; done) | (simp [lens]; omega)) (by first | omega | assumption | (simp only [lens]; first | omega | assumption) | (simp [lens]; done) | (simp [lens]; omega)) ?_) | ((with_reducible refine gt_load 2 ?_); (first | (refine st_get rfl 2 _ rfl hm rfl 0 rfl one2 (by first | omega | assumption | (simp only [lens]; first | omega | assumption) | (simp [lens]; done) | (simp [lens]; omega)) ?_) | (refine st_get rfl 2 _ rfl hm rfl 1 rfl one2 (by first | omega | assumption | (simp only [lens]; first | omega | assumption) | (simp [lens]; done) | (simp [lens]; omega)) ?_) | (refine st_get rfl 2 _ rfl hm rfl 2 rfl one2 (by first | omega | assumption | (simp only [lens]; first | omega | assumption) | (simp [lens]; done) | (simp [lens]; omega)) ?_) | (refine st_get rfl 2 _ rfl hm rfl 3 rfl one2 (by first | omega | assumption | (simp only [lens]; first | omega | assumption) | (simp [lens]; done) | (simp [lens]; omega)) ?_))))
  go_loopw [5] (fun v5 wr => ∃ i : Nat, i ≤ 4 ∧ v5 = .int .i64 i ∧ Aside0 (∀ j : Nat, j < i → rd L (j : Int) = rd L' (j : Int)) ∧ Mem w wr [⟨g3, vals .i64 L', 49, true⟩, ⟨g2, vals .i64 L, 49, true⟩]) (fun v5 _ => 4 - (intOf v5).toNat)
  case atStart => exact ⟨0, by omega, rfl, ⟨fun j hj => absurd hj (by omega)⟩, hm⟩
  case round =>
    obtain ⟨i, hi, rfl, HJ, hm⟩ := hrel
    by_cases hlt : i < 4
    · have hc1 := hm.get (n := 1) rfl i (by omega)
      have hc2 := hm.get (n := 0) rfl i (by omega)
      have HM := Aside0.mk hm
      clear hm
      generalize hx : rd L (i : Int) = x at *
      generalize hy : rd L' (i : Int) = y at *
      have HX := Aside0.mk hx
      have HY := Aside0.mk hy
      clear hx hy
      by_cases hxy : x = y
      · subst hxy
        go_wp2
        repeat (go_quiet (fail); try go_wp2)
        go_roundw
        case rel => exact ⟨i + 1, by omega, by go_num, ⟨fun j hj => by
          rcases Nat.lt_or_ge j i with h | h
          · exact HJ.out j h
          · obtain rfl : j = i := by omega
            rw [HX.out, HY.out]⟩, HM.out.drawn _⟩
        case measure => simp [intOf]; omega
      · have hd := Aside0.mk (show (x != y) = true by simpa using hxy)
        go_wp2
        go_quiet (fail)
        rw [hd.out]
        go_wp2
        go_ret
        refine ⟨?_, (HM.out.drawn _).done rfl⟩
        rw [decide_eq_false (p := L = L') (fun e => hxy (by rw [← HX.out, ← HY.out, e]))]; rfl
    · have HI := Aside0.mk (show i = 4 by omega)
      go_wp2_with (first | fail | ((with_reducible refine gt_box 2 49 ?_); refine st_box rfl 2 rfl 49 _ rfl hm (v := .agg (vals _ _)) rfl (cs := vals _ _) rfl ?_; clear hm; intro g2 w2 hm) | ((with_reducible refine gt_box 3 49 ?_); refine st_box rfl 3 rfl 49 _ rfl hm (v := .agg (vals _ _)) rfl (cs := vals _ _) rfl ?_; clear hm; intro g3 w3 hm) | ((with_reducible refine gt_elem 49 ?_); refine st_elem rfl 49 _ _ rfl rfl rfl arr49 (by first | omega | assumption | (simp only [lens]; first | omega | assumption) | (simp [lens]; done) | (simp [lens]; omega)) (by first | omega | assumption | (simp only [lens]; first | omega | assumption) | (simp [lens]; done) | (simp [lens]; omega)) ?_) | ((with_reducible refine gt_load 2 ?_); (first | (refine st_get rfl 2 _ rfl hm rfl 0 rfl one2 (by first | omega | assumption | (simp only [lens]; first | omega | assumption) | (simp [lens]; done) | (simp [lens]; omega)) ?_) | (refine st_get rfl 2 _ rfl hm rfl 1 rfl one2 (by first | omega | assumption | (simp only [lens]; first | omega | assumption) | (simp [lens]; done) | (simp [lens]; omega)) ?_) | (refine st_get rfl 2 _ rfl hm rfl 2 rfl one2 (by first | omega | assumption | (simp only [lens]; first | omega | assumption) | (simp [lens]; done) | (simp [lens]; omega)) ?_) | (refine st_get rfl 2 _ rfl hm rfl 3 rfl one2 (by first | omega | assumption | (simp only [lens]; first | omega | assumption) | (simp [lens]; done) | (simp [lens]; omega)) ?_))))
      go_ret
      refine ⟨?_, hm.done rfl⟩
      rw [decide_eq_true (p := L = L') (list_eq hl hl' (fun j hj => HJ.out j (by rw [HI.out]; exact hj)))]; rfl
set_option maxHeartbeats 8000000 in
set_option maxRecDepth 100000 in
theorem law_FnExactFlagsIn (w : World) (A0 : Option Addr) (c0 : Nat) (l : List Int) (hr : Kd.C (Kd.int .i8) w A0 l.length l) (hc : l.length ≤ c0) (wf : WfL (WfI .i8) l) :
    Calls Try.prog 7 #[.slice A0 l.length c0] w fun e w' => e = .returned (.bool true) ∧ Below w.heap.size w w' := by
  have hm := Mem.start w
  have HR := Aside0.mk hr
  have HWF := Aside0.mk wf
  clear hr wf
  by_cases hbig : (1048576 : Int) < (l.length : Int)
  · go_enter Try.func7, Try.ntmps7
    go_wp2_with (first | fail | ((with_reducible refine gt_alloc 3 41 ?_); refine st_alloc rfl 3 rfl 41 rfl hm zero41 ?_; clear hm; intro g3 w3 hm) | ((with_reducible refine gt_store 41 ?_); (first | (refine st_full rfl 41 _ _ rfl hm rfl rfl 0 rfl agg41 (by first | omega | assumption | (simp only [lens]; first | omega | assumption) | (simp [lens]; done) | (simp [lens]; omega)) (by first | omega | assumption | (simp only [lens]; first | omega | assumption) | (simp [lens]; done) | (simp [lens]; omega)) ?_) | (refine st_full rfl 41 _ _ rfl hm rfl rfl 1 rfl agg41 (by first | omega | assumption | (simp only [lens]; first | omega | assumption) | (simp [lens]; done) | (simp [lens]; omega)) (by first | omega | assumption | (simp only [lens]; first | omega | assumption) | (simp [lens]; done) | (simp [lens]; omega)) ?_) | (refine st_full rfl 41 _ _ rfl hm rfl rfl 2 rfl agg41 (by first | omega | assumption | (simp only [lens]; first | omega | assumption) | (simp [lens]; done) | (simp [lens]; omega)) (by first | omega | assumption | (simp only [lens]; first | omega | assumption) | (simp [lens]; done) | (simp [lens]; omega)) ?_) | (refine st_full rfl 41 _ _ rfl hm rfl rfl 3 rfl agg41 (by first | omega | assumption | (simp only [lens]; first | omega | assumption) | (simp [lens]; done) | (simp [lens]; omega)) (by first | omega | assumption | (simp only [lens]; first | omega | assumption) | (simp [lens]; done) | (simp [lens]; omega)) ?_) | (refine st_put rfl 41 _ _ rfl hm rfl rfl 0 rfl agg41 (by first | omega | assumption | (simp only [lens]; first | omega | assumption) | (simp [lens]; done) | (simp [lens]; omega)) (by first | omega | assumption | (simp only [lens]; first | omega | assumption) | (simp [lens]; done) | (simp [lens]; omega)) ?_) | (refine st_put rfl 41 _ _ rfl hm rfl rfl 1 rfl agg41 (by first | omega | assumption | (simp only [lens]; first | omega | assumption) | (simp [lens]; done) | (simp [lens]; omega)) (by first | omega | assumption | (simp only [lens]; first | omega | assumption) | (simp [lens]; done) | (simp [lens]; omega)) ?_) | (refine st_put rfl 41 _ _ rfl hm rfl rfl 2 rfl agg41 (by first | omega | assumption | (simp only [lens]; first | omega | assumption) | (simp [lens]; done) | (simp [lens]; omega)) (by first | omega | assumption | (simp only [lens]; first | omega | assumption) | (simp [lens]; done) | (simp [lens]; omega)) ?_) | (refine st_put rfl 41 _ _ rfl hm rfl rfl 3 rfl agg41 (by first | omega | assumption | (simp only [lens]; first | omega | assumption) | (simp [lens]; done) | (simp [lens]; omega)) (by first | omega | assumption | (simp only [lens]; first | omega | assumption) | (simp [lens]; done) | (simp [lens]; omega)) ?_)); clear hm; intro ws hm; simp only [List.set_cons_zero, List.set_cons_succ] at hm) | ((with_reducible refine gt_alloc 6 41 ?_); refine st_alloc rfl 6 rfl 41 rfl hm zero41 ?_; clear hm; intro g6 w6 hm) | ((with_reducible refine gt_load 41 ?_); (first | (refine st_load rfl 41 _ rfl hm rfl 0 rfl agg41 (by first | omega | assumption | (simp only [lens]; first | omega | assumption) | (simp [lens]; done) | (simp [lens]; omega)) ?_) | (refine st_load rfl 41 _ rfl hm rfl 1 rfl agg41 (by first | omega | assumption | (simp only [lens]; first | omega | assumption) | (simp [lens]; done) | (simp [lens]; omega)) ?_) | (refine st_load rfl 41 _ rfl hm rfl 2 rfl agg41 (by first | omega | assumption | (simp only [lens]; first | omega | assumption) | (simp [lens]; done) | (simp [lens]; omega)) ?_) | (refine st_load rfl 41 _ rfl hm rfl 3 rfl agg41 (by first | omega | assumption | (simp only [lens]; first | omega | assumption) | (simp [lens]; done) | (simp [lens]; omega)) ?_) | (refine st_part rfl 41 _ rfl hm rfl 0 rfl agg41 (by first | omega | assumption | (simp only [lens]; first | omega | assumption) | (simp [lens]; done) | (simp [lens]; omega)) ?_) | (refine st_part rfl 41 _ rfl hm rfl 1 rfl agg41 (by first | omega | assumption | (simp only [lens]; first | omega | assumption) | (simp [lens]; done) | (simp [lens]; omega)) ?_) | (refine st_part rfl 41 _ rfl hm rfl 2 rfl agg41 (by first | omega | assumption | (simp only [lens]; first | omega | assumption) | (simp [lens]; done) | (simp [lens]; omega)) ?_) | (refine st_part rfl 41 _ rfl hm rfl 3 rfl agg41 (by first | omega | assumption | (simp only [lens]; first | omega | assumption) | (simp [lens]; done) | (simp [lens]; omega)) ?_))))
    go_ret
    exact ⟨rfl, hm.done rfl⟩
  · have hn : l.length ≤ 1048576 := by omega
    have hs : Small8 l := ⟨by omega, fun x hx => wfi8 (HWF.out.2 x hx)⟩
    obtain ⟨Z, b, hz, H⟩ := inRes_ex 0 40 l (by omega)
    have hS := fun A c W hr hc => specFlagsIn_calls A c l W hr hc hs
    have hG := fun A c W hr hc => implFlagsIn_calls A c l W hr hc hs
    rw [H.out] at hS hG
    have HS := Aside0.mk hS
    have HG := Aside0.mk hG
    clear hS hG H hs HWF
    go_enter Try.func7, Try.ntmps7
    go_wp2_with (first
      | (first | fail | ((with_reducible refine gt_alloc 3 41 ?_); refine st_alloc rfl 3 rfl 41 rfl hm zero41 ?_; clear hm; intro g3 w3 hm) | ((with_reducible refine gt_store 41 ?_); (first | (refine st_full rfl 41 _ _ rfl hm rfl rfl 0 rfl agg41 (by first | omega | assumption | (simp only [lens]; first | omega | assumption) | (simp [lens]; done) | (simp [lens]; omega)) (by first | omega | assumption | (simp only [lens]; first | omega | assumption) | (simp [lens]; done) | (simp [lens]; omega)) ?_) | (refine st_full rfl 41 _ _ rfl hm rfl rfl 1 rfl agg41 (by first | omega | assumption | (simp only [lens]; first | omega | assumption) | (simp [lens]; done) | (simp [lens]; omega)) (by first | omega | assumption | (simp only [lens]; first | omega | assumption) | (simp [lens]; done) | (simp [lens]; omega)) ?_) | (refine st_full rfl 41 _ _ rfl hm rfl rfl 2 rfl agg41 (by first | omega | assumption | (simp only [lens]; first | omega | assumption) | (simp [lens]; done) | (simp [lens]; omega)) (by first | omega | assumption | (simp only [lens]; first | omega | assumption) | (simp [lens]; done) | (simp [lens]; omega)) ?_) | (refine st_full rfl 41 _ _ rfl hm rfl rfl 3 rfl agg41 (by first | omega | assumption | (simp only [lens]; first | omega | assumption) | (simp [lens]; done) | (simp [lens]; omega)) (by first | omega | assumption | (simp only [lens]; first | omega | assumption) | (simp [lens]; done) | (simp [lens]; omega)) ?_) | (refine st_put rfl 41 _ _ rfl hm rfl rfl 0 rfl agg41 (by first | omega | assumption | (simp only [lens]; first | omega | assumption) | (simp [lens]; done) | (simp [lens]; omega)) (by first | omega | assumption | (simp only [lens]; first | omega | assumption) | (simp [lens]; done) | (simp [lens]; omega)) ?_) | (refine st_put rfl 41 _ _ rfl hm rfl rfl 1 rfl agg41 (by first | omega | assumption | (simp only [lens]; first | omega | assumption) | (simp [lens]; done) | (simp [lens]; omega)) (by first | omega | assumption | (simp only [lens]; first | omega | assumption) | (simp [lens]; done) | (simp [lens]; omega)) ?_) | (refine st_put rfl 41 _ _ rfl hm rfl rfl 2 rfl agg41 (by first | omega | assumption | (simp only [lens]; first | omega | assumption) | (simp [lens]; done) | (simp [lens]; omega)) (by first | omega | assumption | (simp only [lens]; first | omega | assumption) | (simp [lens]; done) | (simp [lens]; omega)) ?_) | (refine st_put rfl 41 _ _ rfl hm rfl rfl 3 rfl agg41 (by first | omega | assumption | (simp only [lens]; first | omega | assumption) | (simp [lens]; done) | (simp [lens]; omega)) (by first | omega | assumption | (simp only [lens]; first | omega | assumption) | (simp [lens]; done) | (simp [lens]; omega)) ?_)); clear hm; intro ws hm; simp only [List.set_cons_zero, List.set_cons_succ] at hm) | ((with_reducible refine gt_alloc 6 41 ?_); refine st_alloc rfl 6 rfl 41 rfl hm zero41 ?_; clear hm; intro g6 w6 hm) | ((with_reducible refine gt_load 41 ?_); (first | (refine st_load rfl 41 _ rfl hm rfl 0 rfl agg41 (by first | omega | assumption | (simp only [lens]; first | omega | assumption) | (simp [lens]; done) | (simp [lens]; omega)) ?_) | (refine st_load rfl 41 _ rfl hm rfl 1 rfl agg41 (by first | omega | assumption | (simp only [lens]; first | omega | assumption) | (simp [lens]; done) | (simp [lens]; omega)) ?_) | (refine st_load rfl 41 _ rfl hm rfl 2 rfl agg41 (by first | omega | assumption | (simp only [lens]; first | omega | assumption) | (simp [lens]; done) | (simp [lens]; omega)) ?_) | (refine st_load rfl 41 _ rfl hm rfl 3 rfl agg41 (by first | omega | assumption | (simp only [lens]; first | omega | assumption) | (simp [lens]; done) | (simp [lens]; omega)) ?_) | (refine st_part rfl 41 _ rfl hm rfl 0 rfl agg41 (by first | omega | assumption | (simp only [lens]; first | omega | assumption) | (simp [lens]; done) | (simp [lens]; omega)) ?_) | (refine st_part rfl 41 _ rfl hm rfl 1 rfl agg41 (by first | omega | assumption | (simp only [lens]; first | omega | assumption) | (simp [lens]; done) | (simp [lens]; omega)) ?_) | (refine st_part rfl 41 _ rfl hm rfl 2 rfl agg41 (by first | omega | assumption | (simp only [lens]; first | omega | assumption) | (simp [lens]; done) | (simp [lens]; omega)) ?_) | (refine st_part rfl 41 _ rfl hm rfl 3 rfl agg41 (by first | omega | assumption | (simp only [lens]; first | omega | assumption) | (simp [lens]; done) | (simp [lens]; omega)) ?_))))
      | (go_at_call 26; have ht : Mem _ _ [] := hm; clear ht; refine (toHoist_keeps A0 c0 l _ (Kd.C_below HR.out (hm.done rfl)) hc hn).mono ?_; rintro e wa ⟨A1, c1, R1, rfl, hc1, hR1, ho1, hC1, hb⟩; replace hm := hm.grow hb; rw [hR1] at hm; have HO1 := Aside0.mk ho1; have HC1 := Aside0.mk hC1; have ht1 : Mem _ _ R1 := hm; clear hR1 ho1 hC1 hb hm; have hm := ht1; clear ht1)
      | (go_at_call 25; refine (HS.out A1 c1 _ (HC1.out _ (hm.held (by simp))) hc1).mono ?_; rintro e wa ⟨rfl, hb⟩; replace hm := hm.after hb; clear hb)
      | (go_at_call 26; have ht : Mem _ _ (⟨g3, _, _, _⟩ :: R1) := hm; clear ht; refine (toHoist_keeps A0 c0 l _ (Kd.C_below HR.out (hm.done (by simp [HO1.out]))) hc hn).mono ?_; rintro e wa ⟨A2, c2, R2, rfl, hc2, hR2, ho2, hC2, hb⟩; replace hm := hm.grow hb; rw [hR2, List.cons_append] at hm; have HO2 := Aside0.mk ho2; have HC2 := Aside0.mk hC2; clear hR2 ho2 hC2 hb)
      | (go_at_call 27; refine (HG.out A2 c2 _ (HC2.out _ (hm.held (by simp +contextual))) hc2).mono ?_; rintro e wa ⟨rfl, hb⟩; replace hm := hm.after hb; clear hb)
      | (go_at_call 28; refine (eqInt64A40_calls Z Z _ hz hz).mono ?_; rintro e wa ⟨rfl, hb⟩; replace hm := hm.after hb; clear hb; rw [decide_eq_true (p := Z = Z) rfl])
      | (go_at_call 26; have ht : Mem _ _ (⟨g6, _, _, _⟩ :: ⟨g3, _, _, _⟩ :: (R1 ++ R2)) := hm; clear ht; refine (toHoist_keeps A0 c0 l _ (Kd.C_below HR.out (hm.done (by simp [HO1.out, HO2.out]))) hc hn).mono ?_; rintro e wa ⟨A3, c3, R3, rfl, hc3, hR3, ho3, hC3, hb⟩; replace hm := hm.grow hb; rw [hR3, List.cons_append, List.cons_append] at hm; have HO3 := Aside0.mk ho3; have HC3 := Aside0.mk hC3; clear hR3 ho3 hC3 hb)
      | (go_at_call 29; refine (eqHoist_calls A2 A3 c2 c3 l _ (HC2.out _ (hm.held (by simp +contextual))) hc2 (HC3.out _ (hm.held (by simp +contextual))) hc3 hn).mono ?_; rintro e wa ⟨rfl, hb⟩; replace hm := hm.after hb; clear hb))
    go_ret
    exact ⟨rfl, hm.done (by simp [HO1.out, HO2.out, HO3.out])⟩
-- law FnExactFlagsIn
set_option maxHeartbeats 8000000 in
set_option maxRecDepth 100000 in
theorem law_FnExactSubsIn (w : World) (A0 : Option Addr) (c0 : Nat) (l : List Int) (hr : Kd.C (Kd.int .i8) w A0 l.length l) (hc : l.length ≤ c0) (wf : WfL (WfI .i8) l) :
    Calls Try.prog 8 #[.slice A0 l.length c0] w fun e w' => e = .returned (.bool true) ∧ Below w.heap.size w w' := by
  have hm := Mem.start w
  have HR := Aside0.mk hr
  have HWF := Aside0.mk wf
  clear hr wf
  by_cases hbig : (1048576 : Int) < (l.length : Int)
  · go_enter Try.func8, Try.ntmps8
    go_wp2_with (first | fail | ((with_reducible refine gt_alloc 3 49 ?_); refine st_alloc rfl 3 rfl 49 rfl hm zero49 ?_; clear hm; intro g3 w3 hm) | ((with_reducible refine gt_store 49 ?_); (first | (refine st_full rfl 49 _ _ rfl hm rfl rfl 0 rfl agg49 (by first | omega | assumption | (simp only [lens]; first | omega | assumption) | (simp [lens]; done) | (simp [lens]; omega)) (by first | omega | assumption | (simp only [lens]; first | omega | assumption) | (simp [lens]; done) | (simp [lens]; omega)) ?_) | (refine st_full rfl 49 _ _ rfl hm rfl rfl 1 rfl agg49 (by first | omega | assumption | (simp only [lens]; first | omega | assumption) | (simp [lens]; done) | (simp [lens]; omega)) (by first | omega | assumption | (simp only [lens]; first | omega | assumption) | (simp [lens]; done) | (simp [lens]; omega)) ?_) | (refine st_full rfl 49 _ _ rfl hm rfl rfl 2 rfl agg49 (by first | omega | assumption | (simp only [lens]; first | omega | assumption) | (simp [lens]; done) | (simp [lens]; omega)) (by first | omega | assumption | (simp only [lens]; first | omega | assumption) | (simp [lens]; done) | (simp [lens]; omega)) ?_) | (refine st_full rfl 49 _ _ rfl hm rfl rfl 3 rfl agg49 (by first | omega | assumption | (simp only [lens]; first | omega | assumption) | (simp [lens]; done) | (simp [lens]; omega)) (by first | omega | assumption | (simp only [lens]; first | omega | assumption) | (simp [lens]; done) | (simp [lens]; omega)) ?_) | (refine st_put rfl 49 _ _ rfl hm rfl rfl 0 rfl agg49 (by first | omega | assumption | (simp only [lens]; first | omega | assumption) | (simp [lens]; done) | (simp [lens]; omega)) (by first | omega | assumption | (simp only [lens]; first | omega | assumption) | (simp [lens]; done) | (simp [lens]; omega)) ?_) | (refine st_put rfl 49 _ _ rfl hm rfl rfl 1 rfl agg49 (by first | omega | assumption | (simp only [lens]; first | omega | assumption) | (simp [lens]; done) | (simp [lens]; omega)) (by first | omega | assumption | (simp only [lens]; first | omega | assumption) | (simp [lens]; done) | (simp [lens]; omega)) ?_) | (refine st_put rfl 49 _ _ rfl hm rfl rfl 2 rfl agg49 (by first | omega | assumption | (simp only [lens]; first | omega | assumption) | (simp [lens]; done) | (simp [lens]; omega)) (by first | omega | assumption | (simp only [lens]; first | omega | assumption) | (simp [lens]; done) | (simp [lens]; omega)) ?_) | (refine st_put rfl 49 _ _ rfl hm rfl rfl 3 rfl agg49 (by first | omega | assumption | (simp only [lens]; first | omega | assumption) | (simp [lens]; done) | (simp [lens]; omega)) (by first | omega | assumption | (simp only [lens]; first | omega | assumption) | (simp [lens]; done) | (simp [lens]; omega)) ?_)); clear hm; intro ws hm; simp only [List.set_cons_zero, List.set_cons_succ] at hm) | ((with_reducible refine gt_alloc 6 49 ?_); refine st_alloc rfl 6 rfl 49 rfl hm zero49 ?_; clear hm; intro g6 w6 hm) | ((with_reducible refine gt_load 49 ?_); (first | (refine st_load rfl 49 _ rfl hm rfl 0 rfl agg49 (by first | omega | assumption | (simp only [lens]; first | omega | assumption) | (simp [lens]; done) | (simp [lens]; omega)) ?_) | (refine st_load rfl 49 _ rfl hm rfl 1 rfl agg49 (by first | omega | assumption | (simp only [lens]; first | omega | assumption) | (simp [lens]; done) | (simp [lens]; omega)) ?_) | (refine st_load rfl 49 _ rfl hm rfl 2 rfl agg49 (by first | omega | assumption | (simp only [lens]; first | omega | assumption) | (simp [lens]; done) | (simp [lens]; omega)) ?_) | (refine st_load rfl 49 _ rfl hm rfl 3 rfl agg49 (by first | omega | assumption | (simp only [lens]; first | omega | assumption) | (simp [lens]; done) | (simp [lens]; omega)) ?_) | (refine st_part rfl 49 _ rfl hm rfl 0 rfl agg49 (by first | omega | assumption | (simp only [lens]; first | omega | assumption) | (simp [lens]; done) | (simp [lens]; omega)) ?_) | (refine st_part rfl 49 _ rfl hm rfl 1 rfl agg49 (by first | omega | assumption | (simp only [lens]; first | omega | assumption) | (simp [lens]; done) | (simp [lens]; omega)) ?_) | (refine st_part rfl 49 _ rfl hm rfl 2 rfl agg49 (by first | omega | assumption | (simp only [lens]; first | omega | assumption) | (simp [lens]; done) | (simp [lens]; omega)) ?_) | (refine st_part rfl 49 _ rfl hm rfl 3 rfl agg49 (by first | omega | assumption | (simp only [lens]; first | omega | assumption) | (simp [lens]; done) | (simp [lens]; omega)) ?_))))
    go_ret
    exact ⟨rfl, hm.done rfl⟩
  · have hn : l.length ≤ 1048576 := by omega
    have hs : Small8 l := ⟨by omega, fun x hx => wfi8 (HWF.out.2 x hx)⟩
    obtain ⟨Z, b, hz, H⟩ := inRes_ex 40 4 l (by omega)
    have hS := fun A c W hr hc => specSubsIn_calls A c l W hr hc hs
    have hG := fun A c W hr hc => implSubsIn_calls A c l W hr hc hs
    rw [H.out] at hS hG
    have HS := Aside0.mk hS
    have HG := Aside0.mk hG
    clear hS hG H hs HWF
    go_enter Try.func8, Try.ntmps8
    go_wp2_with (first
      | (first | fail | ((with_reducible refine gt_alloc 3 49 ?_); refine st_alloc rfl 3 rfl 49 rfl hm zero49 ?_; clear hm; intro g3 w3 hm) | ((with_reducible refine gt_store 49 ?_); (first | (refine st_full rfl 49 _ _ rfl hm rfl rfl 0 rfl agg49 (by first | omega | assumption | (simp only [lens]; first | omega | assumption) | (simp [lens]; done) | (simp [lens]; omega)) (by first | omega | assumption | (simp only [lens]; first | omega | assumption) | (simp [lens]; done) | (simp [lens]; omega)) ?_) | (refine st_full rfl 49 _ _ rfl hm rfl rfl 1 rfl agg49 (by first | omega | assumption | (simp only [lens]; first | omega | assumption) | (simp [lens]; done) | (simp [lens]; omega)) (by first | omega | assumption | (simp only [lens]; first | omega | assumption) | (simp [lens]; done) | (simp [lens]; omega)) ?_) | (refine st_full rfl 49 _ _ rfl hm rfl rfl 2 rfl agg49 (by first | omega | assumption | (simp only [lens]; first | omega | assumption) | (simp [lens]; done) | (simp [lens]; omega)) (by first | omega | assumption | (simp only [lens]; first | omega | assumption) | (simp [lens]; done) | (simp [lens]; omega)) ?_) | (refine st_full rfl 49 _ _ rfl hm rfl rfl 3 rfl agg49 (by first | omega | assumption | (simp only [lens]; first | omega | assumption) | (simp [lens]; done) | (simp [lens]; omega)) (by first | omega | assumption | (simp only [lens]; first | omega | assumption) | (simp [lens]; done) | (simp [lens]; omega)) ?_) | (refine st_put rfl 49 _ _ rfl hm rfl rfl 0 rfl agg49 (by first | omega | assumption | (simp only [lens]; first | omega | assumption) | (simp [lens]; done) | (simp [lens]; omega)) (by first | omega | assumption | (simp only [lens]; first | omega | assumption) | (simp [lens]; done) | (simp [lens]; omega)) ?_) | (refine st_put rfl 49 _ _ rfl hm rfl rfl 1 rfl agg49 (by first | omega | assumption | (simp only [lens]; first | omega | assumption) | (simp [lens]; done) | (simp [lens]; omega)) (by first | omega | assumption | (simp only [lens]; first | omega | assumption) | (simp [lens]; done) | (simp [lens]; omega)) ?_) | (refine st_put rfl 49 _ _ rfl hm rfl rfl 2 rfl agg49 (by first | omega | assumption | (simp only [lens]; first | omega | assumption) | (simp [lens]; done) | (simp [lens]; omega)) (by first | omega | assumption | (simp only [lens]; first | omega | assumption) | (simp [lens]; done) | (simp [lens]; omega)) ?_) | (refine st_put rfl 49 _ _ rfl hm rfl rfl 3 rfl agg49 (by first | omega | assumption | (simp only [lens]; first | omega | assumption) | (simp [lens]; done) | (simp [lens]; omega)) (by first | omega | assumption | (simp only [lens]; first | omega | assumption) | (simp [lens]; done) | (simp [lens]; omega)) ?_)); clear hm; intro ws hm; simp only [List.set_cons_zero, List.set_cons_succ] at hm) | ((with_reducible refine gt_alloc 6 49 ?_); refine st_alloc rfl 6 rfl 49 rfl hm zero49 ?_; clear hm; intro g6 w6 hm) | ((with_reducible refine gt_load 49 ?_); (first | (refine st_load rfl 49 _ rfl hm rfl 0 rfl agg49 (by first | omega | assumption | (simp only [lens]; first | omega | assumption) | (simp [lens]; done) | (simp [lens]; omega)) ?_) | (refine st_load rfl 49 _ rfl hm rfl 1 rfl agg49 (by first | omega | assumption | (simp only [lens]; first | omega | assumption) | (simp [lens]; done) | (simp [lens]; omega)) ?_) | (refine st_load rfl 49 _ rfl hm rfl 2 rfl agg49 (by first | omega | assumption | (simp only [lens]; first | omega | assumption) | (simp [lens]; done) | (simp [lens]; omega)) ?_) | (refine st_load rfl 49 _ rfl hm rfl 3 rfl agg49 (by first | omega | assumption | (simp only [lens]; first | omega | assumption) | (simp [lens]; done) | (simp [lens]; omega)) ?_) | (refine st_part rfl 49 _ rfl hm rfl 0 rfl agg49 (by first | omega | assumption | (simp only [lens]; first | omega | assumption) | (simp [lens]; done) | (simp [lens]; omega)) ?_) | (refine st_part rfl 49 _ rfl hm rfl 1 rfl agg49 (by first | omega | assumption | (simp only [lens]; first | omega | assumption) | (simp [lens]; done) | (simp [lens]; omega)) ?_) | (refine st_part rfl 49 _ rfl hm rfl 2 rfl agg49 (by first | omega | assumption | (simp only [lens]; first | omega | assumption) | (simp [lens]; done) | (simp [lens]; omega)) ?_) | (refine st_part rfl 49 _ rfl hm rfl 3 rfl agg49 (by first | omega | assumption | (simp only [lens]; first | omega | assumption) | (simp [lens]; done) | (simp [lens]; omega)) ?_))))
      | (go_at_call 26; have ht : Mem _ _ [] := hm; clear ht; refine (toHoist_keeps A0 c0 l _ (Kd.C_below HR.out (hm.done rfl)) hc hn).mono ?_; rintro e wa ⟨A1, c1, R1, rfl, hc1, hR1, ho1, hC1, hb⟩; replace hm := hm.grow hb; rw [hR1] at hm; have HO1 := Aside0.mk ho1; have HC1 := Aside0.mk hC1; have ht1 : Mem _ _ R1 := hm; clear hR1 ho1 hC1 hb hm; have hm := ht1; clear ht1)
      | (go_at_call 30; refine (HS.out A1 c1 _ (HC1.out _ (hm.held (by simp))) hc1).mono ?_; rintro e wa ⟨rfl, hb⟩; replace hm := hm.after hb; clear hb)
      | (go_at_call 26; have ht : Mem _ _ (⟨g3, _, _, _⟩ :: R1) := hm; clear ht; refine (toHoist_keeps A0 c0 l _ (Kd.C_below HR.out (hm.done (by simp [HO1.out]))) hc hn).mono ?_; rintro e wa ⟨A2, c2, R2, rfl, hc2, hR2, ho2, hC2, hb⟩; replace hm := hm.grow hb; rw [hR2, List.cons_append] at hm; have HO2 := Aside0.mk ho2; have HC2 := Aside0.mk hC2; clear hR2 ho2 hC2 hb)
      | (go_at_call 31; refine (HG.out A2 c2 _ (HC2.out _ (hm.held (by simp +contextual))) hc2).mono ?_; rintro e wa ⟨rfl, hb⟩; replace hm := hm.after hb; clear hb)
      | (go_at_call 32; refine (eqInt64A4_calls Z Z _ hz hz).mono ?_; rintro e wa ⟨rfl, hb⟩; replace hm := hm.after hb; clear hb; rw [decide_eq_true (p := Z = Z) rfl])
      | (go_at_call 26; have ht : Mem _ _ (⟨g6, _, _, _⟩ :: ⟨g3, _, _, _⟩ :: (R1 ++ R2)) := hm; clear ht; refine (toHoist_keeps A0 c0 l _ (Kd.C_below HR.out (hm.done (by simp [HO1.out, HO2.out]))) hc hn).mono ?_; rintro e wa ⟨A3, c3, R3, rfl, hc3, hR3, ho3, hC3, hb⟩; replace hm := hm.grow hb; rw [hR3, List.cons_append, List.cons_append] at hm; have HO3 := Aside0.mk ho3; have HC3 := Aside0.mk hC3; clear hR3 ho3 hC3 hb)
      | (go_at_call 29; refine (eqHoist_calls A2 A3 c2 c3 l _ (HC2.out _ (hm.held (by simp +contextual))) hc2 (HC3.out _ (hm.held (by simp +contextual))) hc3 hn).mono ?_; rintro e wa ⟨rfl, hb⟩; replace hm := hm.after hb; clear hb))
    go_ret
    exact ⟨rfl, hm.done (by simp [HO1.out, HO2.out, HO3.out])⟩
-- law FnExactSubsIn
end Go.Proofs.Ytmpkgdgbjhegnaa.Arr
