/- The law of what hoists need. No condition. -/
import Derived.Test.YtmpkgdgbjhegnaaHoistCode
import Derived.Test.YtmpkgdgbjhegnaaArrG
import Derived.Test.YtmpkgdgbjhegnaaLockEq
import Derived.Test.YtmpkgdgbjhegnaaLockEven
namespace Go.Proofs.Ytmpkgdgbjhegnaa.Arr
open Go.RowKit Go.Proofs.Ytmpkgdgbjhegnaa.B Go.Proofs.Ytmpkgdgbjhegnaa.U Go.Proofs.YtmpkgdgbjhegnaaW.PrintLast Go.Proofs.YtmpkgdgbjhegnaaW.PrintMore Go.Proofs.YtmpkgdgbjhegnaaW.PrintWords
set_option linter.unusedVariables false
set_option linter.unusedSimpArgs false

theorem wf16 {x : Int} (h0 : 0 ≤ x) (h1 : x ≤ 20000) : (Lit.int .i16 x).wf = true := by
  simp only [Lit.wf, IntKind.min, IntKind.max, IntKind.signed, IntKind.bits, Bool.and_eq_true, decide_eq_true_eq, if_true]
  omega
theorem needs_in {hs : List (List Int)} (hh : Hs hs) (n : Nat) (hn : n ≤ hs.length) : ∀ x ∈ needs (zs 44) hs n, 0 ≤ x ∧ x ≤ 8 * n := fun x hx => by
  obtain ⟨j, hj, rfl⟩ := List.getElem_of_mem hx
  have h2 := hj
  rw [needs_length, zs_length] at h2
  have := needs_small hs hh.short n hn j h2
  rwa [rd_get _ j hj] at this
theorem needs_fits {hs : List (List Int)} (hh : Hs hs) (n : Nat) (hn : n ≤ hs.length) : Fits .i16 (needs (zs 44) hs n) := fun x hx => by
  have := needs_in hh n hn x hx
  have := hh.few
  exact wf16 (by omega) (by omega)
theorem needs_w16 {hs : List (List Int)} (hh : Hs hs) (n : Nat) (hn : n ≤ hs.length) : (needs (zs 44) hs n).map w16 = needs (zs 44) hs n := by
  have : ∀ x ∈ needs (zs 44) hs n, w16 x = x := fun x hx => by
    have := needs_in hh n hn x hx
    have := hh.few
    exact w16_small (by omega) (by omega)
  rw [List.map_congr_left this, List.map_id']
def needRes (hs : List (List Int)) : Value :=
  if codeH hs = 0 then (if okL (needs (zs 44) hs hs.length) = true then .tuple #[.agg (vals .i16 (needs (zs 44) hs hs.length)), .int .i64 0] else .tuple #[.agg (vals .i16 (zs 44)), .int .i64 3])
  else .tuple #[.agg (vals .i16 (zs 44)), .int .i64 (codeH hs)]

set_option maxHeartbeats 8000000 in
set_option maxRecDepth 100000 in
theorem specNeeded_calls (A0 : Option Addr) (c0 : Nat) (hs : List (List Int)) (w : World) (hr : Kd.C hk w A0 hs.length hs) (hc : hs.length ≤ c0) (hh : Any hs) :
    Calls Try.prog 40 #[.slice A0 hs.length c0] w fun e w' => e = .returned (needRes hs) ∧ Below w.heap.size w w' := by
  have hm := Mem.start w
  have HR := Aside0.mk hr
  have HL := Aside0.mk (fun W hr => l04Hoists_calls A0 c0 hs W hr hc hh)
  clear hr hh
  unfold needRes
  by_cases hk0 : codeH hs = 0
  · rw [if_pos hk0]
    obtain ⟨h1, h6⟩ := codeH_zero hk0
    have HN := Aside0.mk (fun W hr => l04Need_calls A0 c0 hs W hr hc h1)
    have HF := Aside0.mk (needs_fits h1 hs.length (Nat.le_refl _))
    have hl := (needs_length (zs 44) hs hs.length).trans zs_length
    rw [hk0] at HL
    clear h1 hk0
    generalize needs (zs 44) hs hs.length = N at *
    have HO := Aside0.mk (fun W g h => l04Ok_calls g N W hl HF.out h)
    generalize okL N = b at *
    cases b
    all_goals
      go_enter Try.func40, Try.ntmps40
      go_wp2_with (first
        | (first | fail | ((with_reducible refine gt_alloc 2 26 ?_); refine st_alloc rfl 2 rfl 26 rfl hm zero26 ?_; clear hm; intro g2 w2 hm) | ((with_reducible refine gt_build 26 ?_); refine st_zero rfl 26 rfl built26 ?_) | ((with_reducible refine gt_store 26 ?_); (first | (refine st_full rfl 26 _ _ rfl hm rfl rfl 0 rfl agg26 (by first | omega | assumption | (simp only [lens]; first | omega | assumption) | (simp [lens]; done) | (simp [lens]; omega)) (by first | omega | assumption | (simp only [lens]; first | omega | assumption) | (simp [lens]; done) | (simp [lens]; omega)) ?_) | (refine st_full rfl 26 _ _ rfl hm rfl rfl 1 rfl agg26 (by first | omega | assumption | (simp only [lens]; first | omega | assumption) | (simp [lens]; done) | (simp [lens]; omega)) (by first | omega | assumption | (simp only [lens]; first | omega | assumption) | (simp [lens]; done) | (simp [lens]; omega)) ?_) | (refine st_full rfl 26 _ _ rfl hm rfl rfl 2 rfl agg26 (by first | omega | assumption | (simp only [lens]; first | omega | assumption) | (simp [lens]; done) | (simp [lens]; omega)) (by first | omega | assumption | (simp only [lens]; first | omega | assumption) | (simp [lens]; done) | (simp [lens]; omega)) ?_) | (refine st_full rfl 26 _ _ rfl hm rfl rfl 3 rfl agg26 (by first | omega | assumption | (simp only [lens]; first | omega | assumption) | (simp [lens]; done) | (simp [lens]; omega)) (by first | omega | assumption | (simp only [lens]; first | omega | assumption) | (simp [lens]; done) | (simp [lens]; omega)) ?_)); clear hm; intro ws hm; simp only [List.set_cons_zero, List.set_cons_succ] at hm) | ((with_reducible refine gt_alloc 5 26 ?_); refine st_alloc rfl 5 rfl 26 rfl hm zero26 ?_; clear hm; intro g5 w5 hm) | ((with_reducible refine gt_load 26 ?_); (first | (refine st_load rfl 26 _ rfl hm rfl 0 rfl agg26 (by first | omega | assumption | (simp only [lens]; first | omega | assumption) | (simp [lens]; done) | (simp [lens]; omega)) ?_) | (refine st_load rfl 26 _ rfl hm rfl 1 rfl agg26 (by first | omega | assumption | (simp only [lens]; first | omega | assumption) | (simp [lens]; done) | (simp [lens]; omega)) ?_) | (refine st_load rfl 26 _ rfl hm rfl 2 rfl agg26 (by first | omega | assumption | (simp only [lens]; first | omega | assumption) | (simp [lens]; done) | (simp [lens]; omega)) ?_) | (refine st_load rfl 26 _ rfl hm rfl 3 rfl agg26 (by first | omega | assumption | (simp only [lens]; first | omega | assumption) | (simp [lens]; done) | (simp [lens]; omega)) ?_))))
        | (go_at_call 77; refine (HL.out _ (Kd.C_below HR.out (hm.done rfl))).mono ?_; rintro e wa ⟨rfl, hb⟩; replace hm := hm.after hb; clear hb)
        | (go_at_call 78; refine (HN.out _ (Kd.C_below HR.out (hm.done rfl))).mono ?_; rintro e wa ⟨rfl, hb⟩; replace hm := hm.after hb; clear hb)
        | (go_at_call 54; refine (HO.out _ g5 (hm.mem (n := 0) rfl)).mono ?_; rintro e wa ⟨rfl, hb⟩; replace hm := hm.after hb; clear hb))
      ((try simp only [Exit.inBlock, Exit.then]); (first | (refine ret_cell hm rfl rfl 1 rfl agg26 (by first | omega | assumption | (simp only [lens]; first | omega | assumption) | (simp [lens]; done) | (simp [lens]; omega)) rfl ?_) | (refine ret_cell_tmp hm rfl rfl 1 rfl agg26 (by first | omega | assumption | (simp only [lens]; first | omega | assumption) | (simp [lens]; done) | (simp [lens]; omega)) rfl ?_)))
      exact ⟨rfl, hm.done rfl⟩
  · rw [if_neg hk0]
    generalize codeH hs = c at *
    go_enter Try.func40, Try.ntmps40
    go_wp2_with (first
      | (first | fail | ((with_reducible refine gt_alloc 2 26 ?_); refine st_alloc rfl 2 rfl 26 rfl hm zero26 ?_; clear hm; intro g2 w2 hm) | ((with_reducible refine gt_build 26 ?_); refine st_zero rfl 26 rfl built26 ?_) | ((with_reducible refine gt_store 26 ?_); (first | (refine st_full rfl 26 _ _ rfl hm rfl rfl 0 rfl agg26 (by first | omega | assumption | (simp only [lens]; first | omega | assumption) | (simp [lens]; done) | (simp [lens]; omega)) (by first | omega | assumption | (simp only [lens]; first | omega | assumption) | (simp [lens]; done) | (simp [lens]; omega)) ?_) | (refine st_full rfl 26 _ _ rfl hm rfl rfl 1 rfl agg26 (by first | omega | assumption | (simp only [lens]; first | omega | assumption) | (simp [lens]; done) | (simp [lens]; omega)) (by first | omega | assumption | (simp only [lens]; first | omega | assumption) | (simp [lens]; done) | (simp [lens]; omega)) ?_) | (refine st_full rfl 26 _ _ rfl hm rfl rfl 2 rfl agg26 (by first | omega | assumption | (simp only [lens]; first | omega | assumption) | (simp [lens]; done) | (simp [lens]; omega)) (by first | omega | assumption | (simp only [lens]; first | omega | assumption) | (simp [lens]; done) | (simp [lens]; omega)) ?_) | (refine st_full rfl 26 _ _ rfl hm rfl rfl 3 rfl agg26 (by first | omega | assumption | (simp only [lens]; first | omega | assumption) | (simp [lens]; done) | (simp [lens]; omega)) (by first | omega | assumption | (simp only [lens]; first | omega | assumption) | (simp [lens]; done) | (simp [lens]; omega)) ?_)); clear hm; intro ws hm; simp only [List.set_cons_zero, List.set_cons_succ] at hm) | ((with_reducible refine gt_alloc 5 26 ?_); refine st_alloc rfl 5 rfl 26 rfl hm zero26 ?_; clear hm; intro g5 w5 hm) | ((with_reducible refine gt_load 26 ?_); (first | (refine st_load rfl 26 _ rfl hm rfl 0 rfl agg26 (by first | omega | assumption | (simp only [lens]; first | omega | assumption) | (simp [lens]; done) | (simp [lens]; omega)) ?_) | (refine st_load rfl 26 _ rfl hm rfl 1 rfl agg26 (by first | omega | assumption | (simp only [lens]; first | omega | assumption) | (simp [lens]; done) | (simp [lens]; omega)) ?_) | (refine st_load rfl 26 _ rfl hm rfl 2 rfl agg26 (by first | omega | assumption | (simp only [lens]; first | omega | assumption) | (simp [lens]; done) | (simp [lens]; omega)) ?_) | (refine st_load rfl 26 _ rfl hm rfl 3 rfl agg26 (by first | omega | assumption | (simp only [lens]; first | omega | assumption) | (simp [lens]; done) | (simp [lens]; omega)) ?_))))
      | (go_at_call 77; refine (HL.out _ (Kd.C_below HR.out (hm.done rfl))).mono ?_; rintro e wa ⟨rfl, hb⟩; replace hm := hm.after hb; clear hb))
    ((try simp only [Exit.inBlock, Exit.then]); (first | (refine ret_cell hm rfl rfl 0 rfl agg26 (by first | omega | assumption | (simp only [lens]; first | omega | assumption) | (simp [lens]; done) | (simp [lens]; omega)) rfl ?_) | (refine ret_cell_tmp hm rfl rfl 0 rfl agg26 (by first | omega | assumption | (simp only [lens]; first | omega | assumption) | (simp [lens]; done) | (simp [lens]; omega)) rfl ?_)))
    exact ⟨rfl, hm.done rfl⟩
set_option maxHeartbeats 8000000 in
set_option maxRecDepth 100000 in
theorem implNeeded_calls (A0 : Option Addr) (c0 : Nat) (hs : List (List Int)) (w : World) (hr : Kd.C hk w A0 hs.length hs) (hc : hs.length ≤ c0) (hh : Any hs) :
    Calls Try.prog 42 #[.slice A0 hs.length c0] w fun e w' => e = .returned (needRes hs) ∧ Below w.heap.size w w' := by
  have hm := Mem.start w
  have HR := Aside0.mk hr
  have HL := Aside0.mk (fun W hr => hoistsCode_calls A0 c0 hs W hr hc hh)
  clear hr hh
  unfold needRes
  by_cases hk0 : codeH hs = 0
  · rw [if_pos hk0]
    obtain ⟨h1, h6⟩ := codeH_zero hk0
    have HN := Aside0.mk (fun W hr => needed_calls A0 c0 hs W hr hc h1)
    have HF := Aside0.mk (needs_fits h1 hs.length (Nat.le_refl _))
    have hl := (needs_length (zs 44) hs hs.length).trans zs_length
    have hLK := fun W => locker_calls (needs (zs 44) hs hs.length) W hl
    rw [needs_w16 h1 hs.length (Nat.le_refl _)] at hLK
    rw [hk0] at HL
    clear h1 hk0
    generalize needs (zs 44) hs hs.length = N at *
    have HLK := Aside0.mk hLK
    clear hLK
    have HO := Aside0.mk (fun W => implValid_calls N W hl HF.out)
    generalize okL N = b at *
    cases b
    all_goals
      go_enter Try.func42, Try.ntmps42
      go_wp2_with (first
        | (first | fail | ((with_reducible refine gt_alloc 2 26 ?_); refine st_alloc rfl 2 rfl 26 rfl hm zero26 ?_; clear hm; intro g2 w2 hm) | ((with_reducible refine gt_build 26 ?_); refine st_zero rfl 26 rfl built26 ?_) | ((with_reducible refine gt_store 26 ?_); (first | (refine st_full rfl 26 _ _ rfl hm rfl rfl 0 rfl agg26 (by first | omega | assumption | (simp only [lens]; first | omega | assumption) | (simp [lens]; done) | (simp [lens]; omega)) (by first | omega | assumption | (simp only [lens]; first | omega | assumption) | (simp [lens]; done) | (simp [lens]; omega)) ?_) | (refine st_full rfl 26 _ _ rfl hm rfl rfl 1 rfl agg26 (by first | omega | assumption | (simp only [lens]; first | omega | assumption) | (simp [lens]; done) | (simp [lens]; omega)) (by first | omega | assumption | (simp only [lens]; first | omega | assumption) | (simp [lens]; done) | (simp [lens]; omega)) ?_) | (refine st_full rfl 26 _ _ rfl hm rfl rfl 2 rfl agg26 (by first | omega | assumption | (simp only [lens]; first | omega | assumption) | (simp [lens]; done) | (simp [lens]; omega)) (by first | omega | assumption | (simp only [lens]; first | omega | assumption) | (simp [lens]; done) | (simp [lens]; omega)) ?_) | (refine st_full rfl 26 _ _ rfl hm rfl rfl 3 rfl agg26 (by first | omega | assumption | (simp only [lens]; first | omega | assumption) | (simp [lens]; done) | (simp [lens]; omega)) (by first | omega | assumption | (simp only [lens]; first | omega | assumption) | (simp [lens]; done) | (simp [lens]; omega)) ?_)); clear hm; intro ws hm; simp only [List.set_cons_zero, List.set_cons_succ] at hm) | ((with_reducible refine gt_alloc 5 26 ?_); refine st_alloc rfl 5 rfl 26 rfl hm zero26 ?_; clear hm; intro g5 w5 hm) | ((with_reducible refine gt_load 26 ?_); (first | (refine st_load rfl 26 _ rfl hm rfl 0 rfl agg26 (by first | omega | assumption | (simp only [lens]; first | omega | assumption) | (simp [lens]; done) | (simp [lens]; omega)) ?_) | (refine st_load rfl 26 _ rfl hm rfl 1 rfl agg26 (by first | omega | assumption | (simp only [lens]; first | omega | assumption) | (simp [lens]; done) | (simp [lens]; omega)) ?_) | (refine st_load rfl 26 _ rfl hm rfl 2 rfl agg26 (by first | omega | assumption | (simp only [lens]; first | omega | assumption) | (simp [lens]; done) | (simp [lens]; omega)) ?_) | (refine st_load rfl 26 _ rfl hm rfl 3 rfl agg26 (by first | omega | assumption | (simp only [lens]; first | omega | assumption) | (simp [lens]; done) | (simp [lens]; omega)) ?_))))
        | (go_at_call 79; refine (HL.out _ (Kd.C_below HR.out (hm.done rfl))).mono ?_; rintro e wa ⟨rfl, hb⟩; replace hm := hm.after hb; clear hb)
        | (go_at_call 80; refine (HN.out _ (Kd.C_below HR.out (hm.done rfl))).mono ?_; rintro e wa ⟨rfl, hb⟩; replace hm := hm.after hb; clear hb)
        | (go_at_call 51; refine (HLK.out _).mono ?_; rintro e wa ⟨rfl, hb⟩; replace hm := hm.after hb; clear hb)
        | (go_at_call 20; refine (HO.out _).mono ?_; rintro e wa ⟨rfl, hb⟩; replace hm := hm.after hb; clear hb))
      ((try simp only [Exit.inBlock, Exit.then]); (first | (refine ret_cell hm rfl rfl 1 rfl agg26 (by first | omega | assumption | (simp only [lens]; first | omega | assumption) | (simp [lens]; done) | (simp [lens]; omega)) rfl ?_) | (refine ret_cell_tmp hm rfl rfl 1 rfl agg26 (by first | omega | assumption | (simp only [lens]; first | omega | assumption) | (simp [lens]; done) | (simp [lens]; omega)) rfl ?_)))
      exact ⟨rfl, hm.done rfl⟩
  · rw [if_neg hk0]
    generalize codeH hs = c at *
    go_enter Try.func42, Try.ntmps42
    go_wp2_with (first
      | (first | fail | ((with_reducible refine gt_alloc 2 26 ?_); refine st_alloc rfl 2 rfl 26 rfl hm zero26 ?_; clear hm; intro g2 w2 hm) | ((with_reducible refine gt_build 26 ?_); refine st_zero rfl 26 rfl built26 ?_) | ((with_reducible refine gt_store 26 ?_); (first | (refine st_full rfl 26 _ _ rfl hm rfl rfl 0 rfl agg26 (by first | omega | assumption | (simp only [lens]; first | omega | assumption) | (simp [lens]; done) | (simp [lens]; omega)) (by first | omega | assumption | (simp only [lens]; first | omega | assumption) | (simp [lens]; done) | (simp [lens]; omega)) ?_) | (refine st_full rfl 26 _ _ rfl hm rfl rfl 1 rfl agg26 (by first | omega | assumption | (simp only [lens]; first | omega | assumption) | (simp [lens]; done) | (simp [lens]; omega)) (by first | omega | assumption | (simp only [lens]; first | omega | assumption) | (simp [lens]; done) | (simp [lens]; omega)) ?_) | (refine st_full rfl 26 _ _ rfl hm rfl rfl 2 rfl agg26 (by first | omega | assumption | (simp only [lens]; first | omega | assumption) | (simp [lens]; done) | (simp [lens]; omega)) (by first | omega | assumption | (simp only [lens]; first | omega | assumption) | (simp [lens]; done) | (simp [lens]; omega)) ?_) | (refine st_full rfl 26 _ _ rfl hm rfl rfl 3 rfl agg26 (by first | omega | assumption | (simp only [lens]; first | omega | assumption) | (simp [lens]; done) | (simp [lens]; omega)) (by first | omega | assumption | (simp only [lens]; first | omega | assumption) | (simp [lens]; done) | (simp [lens]; omega)) ?_)); clear hm; intro ws hm; simp only [List.set_cons_zero, List.set_cons_succ] at hm) | ((with_reducible refine gt_alloc 5 26 ?_); refine st_alloc rfl 5 rfl 26 rfl hm zero26 ?_; clear hm; intro g5 w5 hm) | ((with_reducible refine gt_load 26 ?_); (first | (refine st_load rfl 26 _ rfl hm rfl 0 rfl agg26 (by first | omega | assumption | (simp only [lens]; first | omega | assumption) | (simp [lens]; done) | (simp [lens]; omega)) ?_) | (refine st_load rfl 26 _ rfl hm rfl 1 rfl agg26 (by first | omega | assumption | (simp only [lens]; first | omega | assumption) | (simp [lens]; done) | (simp [lens]; omega)) ?_) | (refine st_load rfl 26 _ rfl hm rfl 2 rfl agg26 (by first | omega | assumption | (simp only [lens]; first | omega | assumption) | (simp [lens]; done) | (simp [lens]; omega)) ?_) | (refine st_load rfl 26 _ rfl hm rfl 3 rfl agg26 (by first | omega | assumption | (simp only [lens]; first | omega | assumption) | (simp [lens]; done) | (simp [lens]; omega)) ?_))))
      | (go_at_call 79; refine (HL.out _ (Kd.C_below HR.out (hm.done rfl))).mono ?_; rintro e wa ⟨rfl, hb⟩; replace hm := hm.after hb; clear hb))
    ((try simp only [Exit.inBlock, Exit.then]); (first | (refine ret_cell hm rfl rfl 0 rfl agg26 (by first | omega | assumption | (simp only [lens]; first | omega | assumption) | (simp [lens]; done) | (simp [lens]; omega)) rfl ?_) | (refine ret_cell_tmp hm rfl rfl 0 rfl agg26 (by first | omega | assumption | (simp only [lens]; first | omega | assumption) | (simp [lens]; done) | (simp [lens]; omega)) rfl ?_)))
    exact ⟨rfl, hm.done rfl⟩
theorem toHoistS_keeps (A0 : Option Addr) (c0 : Nat) (l : List (List Int)) (w : World) (hr : Kd.C hk w A0 l.length l) (hc : l.length ≤ c0) (hn : l.length ≤ 1048576) (hls : ∀ x ∈ l, x.length ≤ 1048576) :
    Calls Try.prog 41 #[.slice A0 l.length c0] w fun e w' => ∃ A c R, e = .returned (.slice A l.length c) ∧ l.length ≤ c ∧ newEnts w' w.heap.size = R ∧ R.all (·.own) = true ∧ (∀ W, Held R W → Kd.C hk W A l.length l) ∧ Below w.heap.size w w' := by
  obtain ⟨k, hk⟩ := (toHoistS_ev l hn hls).rounds
  refine (laws_toHoistS.calls k A0 c0 l l w hr hc hk).mono ?_
  rintro e w' ⟨v, rfl, hR, hb⟩
  obtain ⟨A, c, rfl, h1, h2⟩ := Kd.S_reads hR
  exact ⟨A, c, _, rfl, h1, rfl, newEnts_own, fun W hh => C_held (Kd.S_R hR) hh, hb⟩
theorem needRes_ex (hs : List (List Int)) : ∃ (Z : List Int) (b : Int), Z.length = 44 ∧ Aside0 (needRes hs = .tuple #[.agg (vals .i16 Z), .int .i64 b]) := by
  unfold needRes
  by_cases h : codeH hs = 0
  · by_cases h2 : okL (needs (zs 44) hs hs.length) = true
    · exact ⟨_, _, (needs_length (zs 44) hs hs.length).trans zs_length, ⟨by rw [if_pos h, if_pos h2]⟩⟩
    · exact ⟨_, _, zs_length, ⟨by rw [if_pos h, if_neg h2]⟩⟩
  · exact ⟨_, _, zs_length, ⟨if_neg h⟩⟩
/-- How much of a bound is left: what the guard asks. -/
theorem guardS (l : List (List Int)) (wf : WfL (WfL (WfI .i8)) l) : ∃ r : Int, (∀ (A0 : Option Addr) (c0 : Nat) (w : World), Kd.C hk w A0 l.length l → l.length ≤ c0 → Calls Try.prog 39 #[.slice A0 l.length c0, .int .i64 1048576] w fun e w' => e = .returned (.int .i64 r) ∧ Below w.heap.size w w') ∧
    (0 ≤ r → l.length ≤ 1048576 ∧ (∀ x ∈ l, x.length ≤ 1048576) ∧ Any l) := by
  obtain ⟨r, hev, _, h0⟩ := szHoistS_ev l 1048576 (by omega) wf.1 (fun x hx => (wf.2 x hx).1)
  obtain ⟨k, hk⟩ := hev.rounds
  refine ⟨r, fun A0 c0 w hr hc => (laws_szHoistS.calls k A0 c0 l 1048576 r w hr hc hk).mono fun e w' ⟨h1, h2⟩ => ⟨h1, by first | exact h2 | exact h2.below⟩, fun h => ?_⟩
  obtain ⟨h1, h2⟩ := h0 h
  refine ⟨by omega, fun x hx => by have := h2 x hx; omega, ⟨by omega, fun x hx => ⟨by have := h2 x hx; omega, fun y hy => wfi8 ((wf.2 x hx).2 y hy)⟩⟩⟩
set_option maxHeartbeats 8000000 in
set_option maxRecDepth 100000 in
theorem law_FnExactNeededFor (w : World) (A0 : Option Addr) (c0 : Nat) (l : List (List Int)) (hr : Kd.C hk w A0 l.length l) (hc : l.length ≤ c0) (wf : WfL (WfL (WfI .i8)) l) :
    Calls Try.prog 12 #[.slice A0 l.length c0] w fun e w' => e = .returned (.bool true) ∧ Below w.heap.size w w' := by
  have hm := Mem.start w
  have HR := Aside0.mk hr
  obtain ⟨r, hG, h0⟩ := guardS l wf
  have HGU := Aside0.mk hG
  have HGO := Aside0.mk h0
  clear hr wf hG h0
  by_cases hneg : r < 0
  · go_enter Try.func12, Try.ntmps12
    go_wp2_with (first
      | (first | fail | ((with_reducible refine gt_alloc 4 26 ?_); refine st_alloc rfl 4 rfl 26 rfl hm zero26 ?_; clear hm; intro g4 w4 hm) | ((with_reducible refine gt_store 26 ?_); (first | (refine st_full rfl 26 _ _ rfl hm rfl rfl 0 rfl agg26 (by first | omega | assumption | (simp only [lens]; first | omega | assumption) | (simp [lens]; done) | (simp [lens]; omega)) (by first | omega | assumption | (simp only [lens]; first | omega | assumption) | (simp [lens]; done) | (simp [lens]; omega)) ?_) | (refine st_full rfl 26 _ _ rfl hm rfl rfl 1 rfl agg26 (by first | omega | assumption | (simp only [lens]; first | omega | assumption) | (simp [lens]; done) | (simp [lens]; omega)) (by first | omega | assumption | (simp only [lens]; first | omega | assumption) | (simp [lens]; done) | (simp [lens]; omega)) ?_) | (refine st_full rfl 26 _ _ rfl hm rfl rfl 2 rfl agg26 (by first | omega | assumption | (simp only [lens]; first | omega | assumption) | (simp [lens]; done) | (simp [lens]; omega)) (by first | omega | assumption | (simp only [lens]; first | omega | assumption) | (simp [lens]; done) | (simp [lens]; omega)) ?_) | (refine st_full rfl 26 _ _ rfl hm rfl rfl 3 rfl agg26 (by first | omega | assumption | (simp only [lens]; first | omega | assumption) | (simp [lens]; done) | (simp [lens]; omega)) (by first | omega | assumption | (simp only [lens]; first | omega | assumption) | (simp [lens]; done) | (simp [lens]; omega)) ?_)); clear hm; intro ws hm; simp only [List.set_cons_zero, List.set_cons_succ] at hm) | ((with_reducible refine gt_alloc 7 26 ?_); refine st_alloc rfl 7 rfl 26 rfl hm zero26 ?_; clear hm; intro g7 w7 hm) | ((with_reducible refine gt_load 26 ?_); (first | (refine st_load rfl 26 _ rfl hm rfl 0 rfl agg26 (by first | omega | assumption | (simp only [lens]; first | omega | assumption) | (simp [lens]; done) | (simp [lens]; omega)) ?_) | (refine st_load rfl 26 _ rfl hm rfl 1 rfl agg26 (by first | omega | assumption | (simp only [lens]; first | omega | assumption) | (simp [lens]; done) | (simp [lens]; omega)) ?_) | (refine st_load rfl 26 _ rfl hm rfl 2 rfl agg26 (by first | omega | assumption | (simp only [lens]; first | omega | assumption) | (simp [lens]; done) | (simp [lens]; omega)) ?_) | (refine st_load rfl 26 _ rfl hm rfl 3 rfl agg26 (by first | omega | assumption | (simp only [lens]; first | omega | assumption) | (simp [lens]; done) | (simp [lens]; omega)) ?_))))
      | (go_at_call 39; refine (HGU.out A0 c0 _ (Kd.C_below HR.out (hm.done rfl)) hc).mono ?_; rintro e wa ⟨rfl, hb⟩; replace hm := hm.after hb; clear hb))
    go_ret
    exact ⟨rfl, hm.done rfl⟩
  · obtain ⟨hn, hls, hany⟩ := HGO.out (by omega)
    obtain ⟨Z, b, hz, H⟩ := needRes_ex l
    have hS := fun A c W hr hc => specNeeded_calls A c l W hr hc hany
    have hG := fun A c W hr hc => implNeeded_calls A c l W hr hc hany
    rw [H.out] at hS hG
    have HS := Aside0.mk hS
    have HG := Aside0.mk hG
    have HLS := Aside0.mk hls
    clear hS hG H hany hls HGO
    go_enter Try.func12, Try.ntmps12
    go_wp2_with (first
      | (first | fail | ((with_reducible refine gt_alloc 4 26 ?_); refine st_alloc rfl 4 rfl 26 rfl hm zero26 ?_; clear hm; intro g4 w4 hm) | ((with_reducible refine gt_store 26 ?_); (first | (refine st_full rfl 26 _ _ rfl hm rfl rfl 0 rfl agg26 (by first | omega | assumption | (simp only [lens]; first | omega | assumption) | (simp [lens]; done) | (simp [lens]; omega)) (by first | omega | assumption | (simp only [lens]; first | omega | assumption) | (simp [lens]; done) | (simp [lens]; omega)) ?_) | (refine st_full rfl 26 _ _ rfl hm rfl rfl 1 rfl agg26 (by first | omega | assumption | (simp only [lens]; first | omega | assumption) | (simp [lens]; done) | (simp [lens]; omega)) (by first | omega | assumption | (simp only [lens]; first | omega | assumption) | (simp [lens]; done) | (simp [lens]; omega)) ?_) | (refine st_full rfl 26 _ _ rfl hm rfl rfl 2 rfl agg26 (by first | omega | assumption | (simp only [lens]; first | omega | assumption) | (simp [lens]; done) | (simp [lens]; omega)) (by first | omega | assumption | (simp only [lens]; first | omega | assumption) | (simp [lens]; done) | (simp [lens]; omega)) ?_) | (refine st_full rfl 26 _ _ rfl hm rfl rfl 3 rfl agg26 (by first | omega | assumption | (simp only [lens]; first | omega | assumption) | (simp [lens]; done) | (simp [lens]; omega)) (by first | omega | assumption | (simp only [lens]; first | omega | assumption) | (simp [lens]; done) | (simp [lens]; omega)) ?_)); clear hm; intro ws hm; simp only [List.set_cons_zero, List.set_cons_succ] at hm) | ((with_reducible refine gt_alloc 7 26 ?_); refine st_alloc rfl 7 rfl 26 rfl hm zero26 ?_; clear hm; intro g7 w7 hm) | ((with_reducible refine gt_load 26 ?_); (first | (refine st_load rfl 26 _ rfl hm rfl 0 rfl agg26 (by first | omega | assumption | (simp only [lens]; first | omega | assumption) | (simp [lens]; done) | (simp [lens]; omega)) ?_) | (refine st_load rfl 26 _ rfl hm rfl 1 rfl agg26 (by first | omega | assumption | (simp only [lens]; first | omega | assumption) | (simp [lens]; done) | (simp [lens]; omega)) ?_) | (refine st_load rfl 26 _ rfl hm rfl 2 rfl agg26 (by first | omega | assumption | (simp only [lens]; first | omega | assumption) | (simp [lens]; done) | (simp [lens]; omega)) ?_) | (refine st_load rfl 26 _ rfl hm rfl 3 rfl agg26 (by first | omega | assumption | (simp only [lens]; first | omega | assumption) | (simp [lens]; done) | (simp [lens]; omega)) ?_))))
      | (go_at_call 39; refine (HGU.out A0 c0 _ (Kd.C_below HR.out (hm.done rfl)) hc).mono ?_; rintro e wa ⟨rfl, hb⟩; replace hm := hm.after hb; clear hb)
      | (go_at_call 41; have ht : Mem _ _ [] := hm; clear ht; refine (toHoistS_keeps A0 c0 l _ (Kd.C_below HR.out (hm.done rfl)) hc hn HLS.out).mono ?_; rintro e wa ⟨A1, c1, R1, rfl, hc1, hR1, ho1, hC1, hb⟩; replace hm := hm.grow hb; rw [hR1] at hm; have HO1 := Aside0.mk ho1; have HC1 := Aside0.mk hC1; have ht1 : Mem _ _ R1 := hm; clear hR1 ho1 hC1 hb hm; have hm := ht1; clear ht1)
      | (go_at_call 40; refine (HS.out A1 c1 _ (HC1.out _ (hm.held (by simp))) hc1).mono ?_; rintro e wa ⟨rfl, hb⟩; replace hm := hm.after hb; clear hb)
      | (go_at_call 41; have ht : Mem _ _ (⟨g4, _, _, _⟩ :: R1) := hm; clear ht; refine (toHoistS_keeps A0 c0 l _ (Kd.C_below HR.out (hm.done (by simp [HO1.out]))) hc hn HLS.out).mono ?_; rintro e wa ⟨A2, c2, R2, rfl, hc2, hR2, ho2, hC2, hb⟩; replace hm := hm.grow hb; rw [hR2, List.cons_append] at hm; have HO2 := Aside0.mk ho2; have HC2 := Aside0.mk hC2; clear hR2 ho2 hC2 hb)
      | (go_at_call 42; refine (HG.out A2 c2 _ (HC2.out _ (hm.held (by simp +contextual))) hc2).mono ?_; rintro e wa ⟨rfl, hb⟩; replace hm := hm.after hb; clear hb)
      | (go_at_call 17; refine (eqLocker_calls Z Z _ hz hz).mono ?_; rintro e wa ⟨rfl, hb⟩; replace hm := hm.after hb; clear hb; rw [decide_eq_true (p := Z = Z) rfl])
      | (go_at_call 41; have ht : Mem _ _ (⟨g7, _, _, _⟩ :: ⟨g4, _, _, _⟩ :: (R1 ++ R2)) := hm; clear ht; refine (toHoistS_keeps A0 c0 l _ (Kd.C_below HR.out (hm.done (by simp [HO1.out, HO2.out]))) hc hn HLS.out).mono ?_; rintro e wa ⟨A3, c3, R3, rfl, hc3, hR3, ho3, hC3, hb⟩; replace hm := hm.grow hb; rw [hR3, List.cons_append, List.cons_append] at hm; have HO3 := Aside0.mk ho3; have HC3 := Aside0.mk hC3; clear hR3 ho3 hC3 hb)
      | (go_at_call 43; refine (eqHoistS_calls A2 A3 c2 c3 l _ (HC2.out _ (hm.held (by simp +contextual))) hc2 (HC3.out _ (hm.held (by simp +contextual))) hc3 hn HLS.out).mono ?_; rintro e wa ⟨rfl, hb⟩; replace hm := hm.after hb; clear hb))
    go_ret
    exact ⟨rfl, hm.done (by simp [HO1.out, HO2.out, HO3.out])⟩
-- law FnExactNeededFor
end Go.Proofs.Ytmpkgdgbjhegnaa.Arr
