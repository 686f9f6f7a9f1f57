/- How many sets a hoist needs: both parts' answers. No condition beyond the list's length and its numbers' kind. -/
import Derived.Test.YtmpkgdgbjhegnaaHoistSetsA
import Derived.Test.YtmpkgdgbjhegnaaArrG
import Derived.Test.YtmpkgdgbjhegnaaArrR
namespace Go.Proofs.Ytmpkgdgbjhegnaa.Arr
open Go.RowKit Go.Proofs.YtmpkgdgbjhegnaaW.PrintWords Go.Proofs.YtmpkgdgbjhegnaaW.PrintLast Go.Proofs.YtmpkgdgbjhegnaaW.PrintMore Go.Proofs.Ytmpkgdgbjhegnaa.U Go.Proofs.Ytmpkgdgbjhegnaa.B
set_option linter.unusedVariables false
set_option linter.unusedSimpArgs false

def setsRes (h : List Int) : Value := if okH h = true then .tuple #[.int .i64 (setsH h), .int .i64 0] else .tuple #[.int .i64 0, .int .i64 1]
set_option maxHeartbeats 4000000 in
set_option maxRecDepth 100000 in
theorem specSets_calls (A0 : Option Addr) (c0 : Nat) (h : List Int) (w : World) (hr : Kd.C (Kd.int .i8) w A0 h.length h) (hc : h.length ≤ c0) (hs : Small8 h) :
    Calls Try.prog 35 #[.slice A0 h.length c0] w fun e w' => e = .returned (setsRes h) ∧ Below w.heap.size w w' := by
  have hm := Mem.start w
  have HR := Aside0.mk hr
  have HS := Aside0.mk hs
  clear hr hs
  unfold setsRes
  by_cases hk : okH h = true
  · rw [if_pos hk]
    have HK := Aside0.mk hk
    have HN := Aside0.mk (okH_N hk)
    clear hk
    go_enter Try.func35, Try.ntmps35
    go_wp2_with (first
      | fail
      | (go_at_call 66; refine (l02Ok_calls A0 c0 h _ (Kd.C_below HR.out (hm.done rfl)) hc HS.out.1 HS.out.2).mono ?_; rintro e wa ⟨rfl, hb⟩; replace hm := hm.after hb; clear hb; rw [HK.out])
      | (go_at_call 73; refine (l02Sets_calls A0 c0 h _ (Kd.C_below HR.out (hm.done rfl)) hc HN.out.1 HN.out.2).mono ?_; rintro e wa ⟨rfl, hb⟩; replace hm := hm.after hb; clear hb))
    go_ret2
    exact ⟨rfl, hm.done rfl⟩
  · rw [if_neg hk]
    have HK := Aside0.mk (show okH h = false by simpa using hk)
    clear hk
    go_enter Try.func35, Try.ntmps35
    go_wp2_with (first
      | fail
      | (go_at_call 66; refine (l02Ok_calls A0 c0 h _ (Kd.C_below HR.out (hm.done rfl)) hc HS.out.1 HS.out.2).mono ?_; rintro e wa ⟨rfl, hb⟩; replace hm := hm.after hb; clear hb; rw [HK.out]))
    go_ret2
    exact ⟨rfl, hm.done rfl⟩
set_option maxHeartbeats 4000000 in
set_option maxRecDepth 100000 in
theorem implSets_calls (A0 : Option Addr) (c0 : Nat) (h : List Int) (w : World) (hr : Kd.C (Kd.int .i8) w A0 h.length h) (hc : h.length ≤ c0) (hs : Small8 h) :
    Calls Try.prog 36 #[.slice A0 h.length c0] w fun e w' => e = .returned (setsRes h) ∧ Below w.heap.size w w' := by
  have hm := Mem.start w
  have HR := Aside0.mk hr
  have HS := Aside0.mk hs
  clear hr hs
  unfold setsRes
  by_cases hk : okH h = true
  · rw [if_pos hk]
    have HK := Aside0.mk hk
    have HN := Aside0.mk (okH_N hk)
    have HP := Aside0.mk (fun W hr => hoistPieces_calls A0 c0 h W hr hc HN.out.1 HN.out.2)
    have hl3 := (pile_length (zs 44) h 1 h.length).trans zs_length
    clear hk
    rw [show setsH h = mx (top ((pile (zs 44) h 1 h.length).take 40) 40) (top ((pile (zs 44) h 1 h.length).drop 40) 4) from rfl]
    generalize pile (zs 44) h 1 h.length = X at *
    have HF : Aside0 (∀ j : Nat, j < 40 → rd (X.take 40) (j : Int) = rd X (j : Int)) := ⟨fun j hj => rd_take X j 40 hj (by omega)⟩
    have HG : Aside0 (∀ j : Nat, j < 4 → rd (X.drop 40) (j : Int) = rd X ((40 + j : Nat) : Int)) := ⟨fun j hj => rd_drop X j 40 (by omega)⟩
    obtain ⟨a, ha⟩ : ∃ a, top (X.take 40) 40 = a := ⟨_, rfl⟩
    obtain ⟨b, hb⟩ : ∃ b, top (X.drop 40) 4 = b := ⟨_, rfl⟩
    rw [ha, hb, ← mx_alt]
    have HA := Aside0.mk ha
    have HB := Aside0.mk hb
    clear ha hb
    go_enter Try.func36, Try.ntmps36
    go_wp2_with (first
      | (first | fail | ((with_reducible refine gt_alloc 4 68 ?_); refine st_alloc rfl 4 rfl 68 rfl hm zero68 ?_; clear hm; intro g4 w4 hm) | ((with_reducible refine gt_store 68 ?_); (first | (refine st_full rfl 68 _ _ rfl hm rfl rfl 0 rfl agg68 (by first | omega | assumption | (simp only [lens]; first | omega | assumption) | (simp [lens]; done) | (simp [lens]; omega)) (by first | omega | assumption | (simp only [lens]; first | omega | assumption) | (simp [lens]; done) | (simp [lens]; omega)) ?_) | (refine st_full rfl 68 _ _ rfl hm rfl rfl 1 rfl agg68 (by first | omega | assumption | (simp only [lens]; first | omega | assumption) | (simp [lens]; done) | (simp [lens]; omega)) (by first | omega | assumption | (simp only [lens]; first | omega | assumption) | (simp [lens]; done) | (simp [lens]; omega)) ?_) | (refine st_full rfl 68 _ _ rfl hm rfl rfl 2 rfl agg68 (by first | omega | assumption | (simp only [lens]; first | omega | assumption) | (simp [lens]; done) | (simp [lens]; omega)) (by first | omega | assumption | (simp only [lens]; first | omega | assumption) | (simp [lens]; done) | (simp [lens]; omega)) ?_)); clear hm; intro ws hm; simp only [List.set_cons_zero, List.set_cons_succ] at hm) | ((with_reducible refine gt_field 68 0 ?_); refine st_field rfl 68 _ 0 rfl rfl field68_0 ?_) | ((with_reducible refine gt_field 68 1 ?_); refine st_field rfl 68 _ 1 rfl rfl field68_1 ?_))
      | (go_at_call 68; refine (validHoist_calls A0 c0 h _ (Kd.C_below HR.out (hm.done rfl)) hc HS.out.1 HS.out.2).mono ?_; rintro e wa ⟨rfl, hb⟩; replace hm := hm.after hb; clear hb; rw [HK.out])
      | (go_at_call 69; refine (HP.out _ (Kd.C_below HR.out (hm.done rfl))).mono ?_; rintro e wa ⟨rfl, hb⟩; replace hm := hm.after hb; clear hb))
    have hmd := hm.drawn (ws.drawn + 1)
    have hadd : ∀ i j : Nat, (⟨g4, i, none⟩ : Addr).add j = ⟨g4, i + j, none⟩ := fun i j => by unfold Addr.add; split <;> simp_all
    have HM1 := fun (j : Nat) (hj : j < 40) => (congrArg _ (hadd 0 j)).trans ((hmd.get (n := 0) rfl (0 + j) (by omega)).trans (by rw [Nat.zero_add, ← HF.out j hj]))
    have HM2 := fun (j : Nat) (hj : j < 4) => (congrArg _ (hadd 40 j)).trans ((hmd.get (n := 0) rfl (40 + j) (by omega)).trans (by rw [← HG.out j hj]))
    go_still_tail 7, (by kernel_rfl)
    still_call (HA.out ▸ max_calls ⟨g4, 0, none⟩ 40 40 (X.take 40) _ (by omega) (by omega) HM1)
    repeat still_step
    still_call (HB.out ▸ max_calls ⟨g4, 40, none⟩ 4 4 (X.drop 40) _ (by omega) (by omega) HM2)
    repeat still_step
    refine wpStill_nil ?_
    clear HM1 HM2 hm
    go_wp2
    all_goals
      go_ret2
      exact ⟨rfl, hmd.done rfl⟩
  · rw [if_neg hk]
    have HK := Aside0.mk (show okH h = false by simpa using hk)
    clear hk
    go_enter Try.func36, Try.ntmps36
    go_wp2_with (first
      | (first | fail | ((with_reducible refine gt_alloc 4 68 ?_); refine st_alloc rfl 4 rfl 68 rfl hm zero68 ?_; clear hm; intro g4 w4 hm) | ((with_reducible refine gt_store 68 ?_); (first | (refine st_full rfl 68 _ _ rfl hm rfl rfl 0 rfl agg68 (by first | omega | assumption | (simp only [lens]; first | omega | assumption) | (simp [lens]; done) | (simp [lens]; omega)) (by first | omega | assumption | (simp only [lens]; first | omega | assumption) | (simp [lens]; done) | (simp [lens]; omega)) ?_) | (refine st_full rfl 68 _ _ rfl hm rfl rfl 1 rfl agg68 (by first | omega | assumption | (simp only [lens]; first | omega | assumption) | (simp [lens]; done) | (simp [lens]; omega)) (by first | omega | assumption | (simp only [lens]; first | omega | assumption) | (simp [lens]; done) | (simp [lens]; omega)) ?_) | (refine st_full rfl 68 _ _ rfl hm rfl rfl 2 rfl agg68 (by first | omega | assumption | (simp only [lens]; first | omega | assumption) | (simp [lens]; done) | (simp [lens]; omega)) (by first | omega | assumption | (simp only [lens]; first | omega | assumption) | (simp [lens]; done) | (simp [lens]; omega)) ?_)); clear hm; intro ws hm; simp only [List.set_cons_zero, List.set_cons_succ] at hm) | ((with_reducible refine gt_field 68 0 ?_); refine st_field rfl 68 _ 0 rfl rfl field68_0 ?_) | ((with_reducible refine gt_field 68 1 ?_); refine st_field rfl 68 _ 1 rfl rfl field68_1 ?_))
      | (go_at_call 68; refine (validHoist_calls A0 c0 h _ (Kd.C_below HR.out (hm.done rfl)) hc HS.out.1 HS.out.2).mono ?_; rintro e wa ⟨rfl, hb⟩; replace hm := hm.after hb; clear hb; rw [HK.out]))
    go_ret2
    exact ⟨rfl, hm.done rfl⟩
end Go.Proofs.Ytmpkgdgbjhegnaa.Arr
