/- Pieces made of two of them, place by place. No condition. -/
import Derived.Test.YtmpkgdgbjhegnaaLockCode
import Derived.Test.YtmpkgdgbjhegnaaArrEq
import Derived.StillTailTactics
namespace Go.Proofs.Ytmpkgdgbjhegnaa.Arr
open Go.RowKit Go.Proofs.YtmpkgdgbjhegnaaW.PrintWords Go.Proofs.YtmpkgdgbjhegnaaW.PrintLast Go.Proofs.YtmpkgdgbjhegnaaW.PrintMore Go.Proofs.Ytmpkgdgbjhegnaa.U Go.Proofs.Ytmpkgdgbjhegnaa.B
set_option linter.unusedVariables false
set_option linter.unusedSimpArgs false

theorem Mem.add {w0 w : World} {M : List Ent} {g : Nat} {cs : Array Value} {t : TypeId} (h : Mem w0 w M) (hg : w.heap[g]? = some (.cells cs t (0, 0))) (hb : w0.heap.size ≤ g) (hne : ∀ e ∈ M, e.g ≠ g) : Mem w0 w (⟨g, cs, t, true⟩ :: M) := by
  refine ⟨h.os, h.tape, h.output, h.size, fun k hk hn => h.block k hk fun e he => hn e (List.mem_cons_of_mem _ he), fun e he => ?_, fun m n e f hm hn hef => ?_⟩
  · rcases List.mem_cons.1 he with rfl | he
    · exact ⟨hg, fun _ => hb⟩
    · exact h.ent e he
  · rcases m with _ | m <;> rcases n with _ | n
    · rfl
    · simp only [List.getElem?_cons_zero, Option.some.injEq, List.getElem?_cons_succ] at hm hn
      subst hm
      exact absurd hef.symm (hne f (List.mem_of_getElem? hn))
    · simp only [List.getElem?_cons_zero, Option.some.injEq, List.getElem?_cons_succ] at hm hn
      subst hn
      exact absurd hef (hne e (List.mem_of_getElem? hm))
    · simp only [List.getElem?_cons_succ] at hm hn
      rw [h.apart m n e f hm hn hef]
theorem Mem.lt {w0 w : World} {M : List Ent} (h : Mem w0 w M) : ∀ e ∈ M, e.g < w.heap.size := fun e he => lt_of_some (h.ent e he).1

/-- The row of places: a block of its own. -/
theorem all_row (g : Nat) (w : World) : Calls Try.prog 59 #[.pointer (some ⟨g, 0, none⟩)] w fun e w' =>
    ∃ b cur c, e = .returned (.slice (some ⟨b, 0, none⟩) 44 c) ∧ w.heap.size ≤ b ∧ w'.heap[b]? = some (.cells cur 80 (0, 0)) ∧ (∀ j, j < 44 → cur[j]? = some (.pointer (some ⟨g, j, none⟩))) ∧ Below w.heap.size w w' := by
  refine (all_calls g w).mono ?_
  rintro e w' ⟨v, rfl, ⟨_, inner, ⟨hlen, ho⟩, hr⟩, hb⟩
  have hin : inner = encs (fun i : Nat => Value.pointer (some ⟨g, i, none⟩)) (List.range 44) := Kd.reps_encs hr
  rcases ho with ⟨_, h0⟩ | ⟨b, cap, cur, rfl, hbb, hheap, _, _, _, htake⟩
  · rw [List.length_range] at h0; omega
  · refine ⟨b, cur, cap, by rw [List.length_range], hbb, hheap, fun j hj => ?_, hb⟩
    rw [hin] at htake
    have h1 := congrArg (fun l => l[j]?) htake
    simp only [List.getElem?_take, List.length_range, encs] at h1
    rw [if_pos (by show j < 44 * 1; omega), Array.getElem?_toList] at h1
    rw [h1]
    simp [List.getElem?_range hj]

theorem zip_length (op : Int → Int → Int) (L L' : List Int) (hl : L.length = 44) (hl' : L'.length = 44) : (List.zipWith op L L').length = 44 := by simp [hl, hl']
theorem rd_zip (op : Int → Int → Int) (L L' : List Int) (i : Nat) (h : i < L.length) (h' : i < L'.length) : rd (List.zipWith op L L') (i : Int) = op (rd L (i : Int)) (rd L' (i : Int)) := by
  rw [rd_get L i h, rd_get L' i h', rd_get _ i (by simp; omega)]
  simp
theorem rd_mix (L S : List Int) (i : Nat) (h : i < L.length) (hs : i ≤ S.length) : rd (mixTo L S 0 i) (i : Int) = rd L (i : Int) := by
  have hl := mixTo_length L S 0 i (by omega) hs
  rw [rd_get L i h, rd_get _ i (by omega)]
  unfold mixTo
  simp only [Nat.zero_add, List.take_zero, List.nil_append]
  rw [List.getElem_append_right (by simp; omega)]
  simp [Nat.min_eq_left hs]

set_option maxHeartbeats 4000000 in
set_option maxRecDepth 100000 in
theorem with_calls (f : FuncId) (op : Int → Int → Int) (hf : ∀ (a b : Int) (W : World), Calls Try.prog f #[.int .i64 a, .int .i64 b] W fun e W' => e = .returned (.int .i64 (op a b)) ∧ W' = W) (L L' : List Int) (w : World) (hl : L.length = 44) (hl' : L'.length = 44)
    (hg : ∀ (a : Array Value) (W : World), (callFunc f a).run Try.prog W = .ok (.enter f a) W) :
    Calls Try.prog 90 #[.agg (vals .i64 L), .agg (vals .i64 L'), .func (.func f) #[] #[]] w fun e w' => e = .returned (.agg (vals .i64 (List.zipWith op L L'))) ∧ Below w.heap.size w w' := by
  have hm := Mem.start w
  have HF := Aside0.mk hf
  clear hf
  go_enter Try.func90, Try.ntmps90
  go_wp2_with (first
    | (first | fail | ((with_reducible refine gt_box 3 68 ?_); refine st_box rfl 3 rfl 68 _ rfl hm (v := .agg (vals _ _)) rfl (cs := vals _ _) rfl ?_; clear hm; intro g3 w3 hm) | ((with_reducible refine gt_box 4 68 ?_); refine st_box rfl 4 rfl 68 _ rfl hm (v := .agg (vals _ _)) rfl (cs := vals _ _) rfl ?_; clear hm; intro g4 w4 hm) | ((with_reducible refine gt_alloc 6 68 ?_); refine st_alloc rfl 6 rfl 68 rfl hm zero68 ?_; clear hm; intro g6 w6 hm) | ((with_reducible refine gt_load 3 ?_); (first | (refine st_get rfl 3 _ rfl hm rfl 0 rfl one3 (by first | omega | assumption | (simp only [lens]; first | omega | assumption) | (simp [lens]; done) | (simp [lens]; omega)) ?_) | (refine st_get rfl 3 _ rfl hm rfl 1 rfl one3 (by first | omega | assumption | (simp only [lens]; first | omega | assumption) | (simp [lens]; done) | (simp [lens]; omega)) ?_) | (refine st_get rfl 3 _ rfl hm rfl 2 rfl one3 (by first | omega | assumption | (simp only [lens]; first | omega | assumption) | (simp [lens]; done) | (simp [lens]; omega)) ?_) | (refine st_get rfl 3 _ rfl hm rfl 3 rfl one3 (by first | omega | assumption | (simp only [lens]; first | omega | assumption) | (simp [lens]; done) | (simp [lens]; omega)) ?_) | (refine st_get rfl 3 _ rfl hm rfl 4 rfl one3 (by first | omega | assumption | (simp only [lens]; first | omega | assumption) | (simp [lens]; done) | (simp [lens]; omega)) ?_))) | ((with_reducible refine gt_store 3 ?_); (first | (refine st_set rfl 3 _ _ rfl hm rfl rfl 0 rfl one3 (by first | omega | assumption | (simp only [lens]; first | omega | assumption) | (simp [lens]; done) | (simp [lens]; omega)) ?_) | (refine st_set rfl 3 _ _ rfl hm rfl rfl 1 rfl one3 (by first | omega | assumption | (simp only [lens]; first | omega | assumption) | (simp [lens]; done) | (simp [lens]; omega)) ?_) | (refine st_set rfl 3 _ _ rfl hm rfl rfl 2 rfl one3 (by first | omega | assumption | (simp only [lens]; first | omega | assumption) | (simp [lens]; done) | (simp [lens]; omega)) ?_) | (refine st_set rfl 3 _ _ rfl hm rfl rfl 3 rfl one3 (by first | omega | assumption | (simp only [lens]; first | omega | assumption) | (simp [lens]; done) | (simp [lens]; omega)) ?_) | (refine st_set rfl 3 _ _ rfl hm rfl rfl 4 rfl one3 (by first | omega | assumption | (simp only [lens]; first | omega | assumption) | (simp [lens]; done) | (simp [lens]; omega)) ?_)); clear hm; intro ws hm; simp only [List.set_cons_zero, List.set_cons_succ] at hm) | ((with_reducible refine gt_load 68 ?_); (first | (refine st_load rfl 68 _ rfl hm rfl 0 rfl agg68 (by first | omega | assumption | (simp only [lens]; first | omega | assumption) | (simp [lens]; done) | (simp [lens]; omega)) ?_) | (refine st_load rfl 68 _ rfl hm rfl 1 rfl agg68 (by first | omega | assumption | (simp only [lens]; first | omega | assumption) | (simp [lens]; done) | (simp [lens]; omega)) ?_) | (refine st_load rfl 68 _ rfl hm rfl 2 rfl agg68 (by first | omega | assumption | (simp only [lens]; first | omega | assumption) | (simp [lens]; done) | (simp [lens]; omega)) ?_) | (refine st_load rfl 68 _ rfl hm rfl 3 rfl agg68 (by first | omega | assumption | (simp only [lens]; first | omega | assumption) | (simp [lens]; done) | (simp [lens]; omega)) ?_) | (refine st_load rfl 68 _ rfl hm rfl 4 rfl agg68 (by first | omega | assumption | (simp only [lens]; first | omega | assumption) | (simp [lens]; done) | (simp [lens]; omega)) ?_))) | ((with_reducible refine gt_store 68 ?_); (first | (refine st_full rfl 68 _ _ rfl hm rfl rfl 0 rfl agg68 (by first | omega | assumption | (simp only [lens]; first | omega | assumption) | (simp [lens]; done) | (simp [lens]; omega)) (by first | omega | assumption | (simp only [lens]; first | omega | assumption) | (simp [lens]; done) | (simp [lens]; omega)) ?_) | (refine st_full rfl 68 _ _ rfl hm rfl rfl 1 rfl agg68 (by first | omega | assumption | (simp only [lens]; first | omega | assumption) | (simp [lens]; done) | (simp [lens]; omega)) (by first | omega | assumption | (simp only [lens]; first | omega | assumption) | (simp [lens]; done) | (simp [lens]; omega)) ?_) | (refine st_full rfl 68 _ _ rfl hm rfl rfl 2 rfl agg68 (by first | omega | assumption | (simp only [lens]; first | omega | assumption) | (simp [lens]; done) | (simp [lens]; omega)) (by first | omega | assumption | (simp only [lens]; first | omega | assumption) | (simp [lens]; done) | (simp [lens]; omega)) ?_) | (refine st_full rfl 68 _ _ rfl hm rfl rfl 3 rfl agg68 (by first | omega | assumption | (simp only [lens]; first | omega | assumption) | (simp [lens]; done) | (simp [lens]; omega)) (by first | omega | assumption | (simp only [lens]; first | omega | assumption) | (simp [lens]; done) | (simp [lens]; omega)) ?_) | (refine st_full rfl 68 _ _ rfl hm rfl rfl 4 rfl agg68 (by first | omega | assumption | (simp only [lens]; first | omega | assumption) | (simp [lens]; done) | (simp [lens]; omega)) (by first | omega | assumption | (simp only [lens]; first | omega | assumption) | (simp [lens]; done) | (simp [lens]; omega)) ?_)); clear hm; intro ws hm; simp only [List.set_cons_zero, List.set_cons_succ] at hm))
    | (go_at_call 59; with_reducible refine (all_row g4 _).mono ?_; rintro e wa ⟨b4, cur4, c4, rfl, hb1, hb2, hb3, hb⟩; have hlt := hm.lt; replace hm := (hm.after hb).add hb2 (Nat.le_trans hm.size hb1) (fun e he => by have := hlt e he; omega); have HC4 := Aside0.mk hb3; clear hb hb1 hb2 hb3 hlt)
    | (go_at_call 59; with_reducible refine (all_row g3 _).mono ?_; rintro e wa ⟨b3, cur3, c3, rfl, hb1, hb2, hb3, hb⟩; have hlt := hm.lt; replace hm := (hm.after hb).add hb2 (Nat.le_trans hm.size hb1) (fun e he => by have := hlt e he; omega); have HC3 := Aside0.mk hb3; clear hb hb1 hb2 hb3 hlt))
  go_loopw [13, 8, 9] (fun v13 v8 v9 wr => ∃ i : Nat, i ≤ 44 ∧ v13 = .int .i64 i ∧ Mem w wr [⟨b3, cur3, 80, true⟩, ⟨b4, cur4, 80, true⟩, ⟨g6, vals .i64 (zs 44), 68, true⟩, ⟨g4, vals .i64 L', 68, true⟩, ⟨g3, vals .i64 (mixTo L (List.zipWith op L L') 0 i), 68, true⟩]) (fun v13 _ _ _ => 44 - (intOf v13).toNat)
  case atStart => exact ⟨0, by omega, rfl, by rw [mixTo_zero]; exact hm⟩
  case round =>
    obtain ⟨i, hi, rfl, hm⟩ := hrel
    have hz := zip_length op L L' hl hl'
    have hl2 := (mixTo_length L (List.zipWith op L L') 0 i (by omega) (by omega)).trans hl
    by_cases hlt : i < 44
    · have hp3 := (hm.cell (n := 0) rfl i).trans (HC3.out i hlt)
      have hp4 := (hm.cell (n := 1) rfl i).trans (HC4.out i hlt)
      have hv4 := hm.get (n := 3) rfl i (by omega)
      have hv3 := hm.get (n := 4) rfl i (by omega)
      rw [rd_mix L _ i (by omega) (by omega)] at hv3
      have HZ := Aside0.mk (rd_zip op L L' i (by omega) (by omega))
      generalize rd L (i : Int) = x at *
      generalize rd L' (i : Int) = y at *
      go_wp2_with (first | fail | ((with_reducible refine gt_box 3 68 ?_); refine st_box rfl 3 rfl 68 _ rfl hm (v := .agg (vals _ _)) rfl (cs := vals _ _) rfl ?_; clear hm; intro g3 w3 hm) | ((with_reducible refine gt_box 4 68 ?_); refine st_box rfl 4 rfl 68 _ rfl hm (v := .agg (vals _ _)) rfl (cs := vals _ _) rfl ?_; clear hm; intro g4 w4 hm) | ((with_reducible refine gt_alloc 6 68 ?_); refine st_alloc rfl 6 rfl 68 rfl hm zero68 ?_; clear hm; intro g6 w6 hm) | ((with_reducible refine gt_load 3 ?_); (first | (refine st_get rfl 3 _ rfl hm rfl 0 rfl one3 (by first | omega | assumption | (simp only [lens]; first | omega | assumption) | (simp [lens]; done) | (simp [lens]; omega)) ?_) | (refine st_get rfl 3 _ rfl hm rfl 1 rfl one3 (by first | omega | assumption | (simp only [lens]; first | omega | assumption) | (simp [lens]; done) | (simp [lens]; omega)) ?_) | (refine st_get rfl 3 _ rfl hm rfl 2 rfl one3 (by first | omega | assumption | (simp only [lens]; first | omega | assumption) | (simp [lens]; done) | (simp [lens]; omega)) ?_) | (refine st_get rfl 3 _ rfl hm rfl 3 rfl one3 (by first | omega | assumption | (simp only [lens]; first | omega | assumption) | (simp [lens]; done) | (simp [lens]; omega)) ?_) | (refine st_get rfl 3 _ rfl hm rfl 4 rfl one3 (by first | omega | assumption | (simp only [lens]; first | omega | assumption) | (simp [lens]; done) | (simp [lens]; omega)) ?_))) | ((with_reducible refine gt_store 3 ?_); (first | (refine st_set rfl 3 _ _ rfl hm rfl rfl 0 rfl one3 (by first | omega | assumption | (simp only [lens]; first | omega | assumption) | (simp [lens]; done) | (simp [lens]; omega)) ?_) | (refine st_set rfl 3 _ _ rfl hm rfl rfl 1 rfl one3 (by first | omega | assumption | (simp only [lens]; first | omega | assumption) | (simp [lens]; done) | (simp [lens]; omega)) ?_) | (refine st_set rfl 3 _ _ rfl hm rfl rfl 2 rfl one3 (by first | omega | assumption | (simp only [lens]; first | omega | assumption) | (simp [lens]; done) | (simp [lens]; omega)) ?_) | (refine st_set rfl 3 _ _ rfl hm rfl rfl 3 rfl one3 (by first | omega | assumption | (simp only [lens]; first | omega | assumption) | (simp [lens]; done) | (simp [lens]; omega)) ?_) | (refine st_set rfl 3 _ _ rfl hm rfl rfl 4 rfl one3 (by first | omega | assumption | (simp only [lens]; first | omega | assumption) | (simp [lens]; done) | (simp [lens]; omega)) ?_)); clear hm; intro ws hm; simp only [List.set_cons_zero, List.set_cons_succ] at hm) | ((with_reducible refine gt_load 68 ?_); (first | (refine st_load rfl 68 _ rfl hm rfl 0 rfl agg68 (by first | omega | assumption | (simp only [lens]; first | omega | assumption) | (simp [lens]; done) | (simp [lens]; omega)) ?_) | (refine st_load rfl 68 _ rfl hm rfl 1 rfl agg68 (by first | omega | assumption | (simp only [lens]; first | omega | assumption) | (simp [lens]; done) | (simp [lens]; omega)) ?_) | (refine st_load rfl 68 _ rfl hm rfl 2 rfl agg68 (by first | omega | assumption | (simp only [lens]; first | omega | assumption) | (simp [lens]; done) | (simp [lens]; omega)) ?_) | (refine st_load rfl 68 _ rfl hm rfl 3 rfl agg68 (by first | omega | assumption | (simp only [lens]; first | omega | assumption) | (simp [lens]; done) | (simp [lens]; omega)) ?_) | (refine st_load rfl 68 _ rfl hm rfl 4 rfl agg68 (by first | omega | assumption | (simp only [lens]; first | omega | assumption) | (simp [lens]; done) | (simp [lens]; omega)) ?_))) | ((with_reducible refine gt_store 68 ?_); (first | (refine st_full rfl 68 _ _ rfl hm rfl rfl 0 rfl agg68 (by first | omega | assumption | (simp only [lens]; first | omega | assumption) | (simp [lens]; done) | (simp [lens]; omega)) (by first | omega | assumption | (simp only [lens]; first | omega | assumption) | (simp [lens]; done) | (simp [lens]; omega)) ?_) | (refine st_full rfl 68 _ _ rfl hm rfl rfl 1 rfl agg68 (by first | omega | assumption | (simp only [lens]; first | omega | assumption) | (simp [lens]; done) | (simp [lens]; omega)) (by first | omega | assumption | (simp only [lens]; first | omega | assumption) | (simp [lens]; done) | (simp [lens]; omega)) ?_) | (refine st_full rfl 68 _ _ rfl hm rfl rfl 2 rfl agg68 (by first | omega | assumption | (simp only [lens]; first | omega | assumption) | (simp [lens]; done) | (simp [lens]; omega)) (by first | omega | assumption | (simp only [lens]; first | omega | assumption) | (simp [lens]; done) | (simp [lens]; omega)) ?_) | (refine st_full rfl 68 _ _ rfl hm rfl rfl 3 rfl agg68 (by first | omega | assumption | (simp only [lens]; first | omega | assumption) | (simp [lens]; done) | (simp [lens]; omega)) (by first | omega | assumption | (simp only [lens]; first | omega | assumption) | (simp [lens]; done) | (simp [lens]; omega)) ?_) | (refine st_full rfl 68 _ _ rfl hm rfl rfl 4 rfl agg68 (by first | omega | assumption | (simp only [lens]; first | omega | assumption) | (simp [lens]; done) | (simp [lens]; omega)) (by first | omega | assumption | (simp only [lens]; first | omega | assumption) | (simp [lens]; done) | (simp [lens]; omega)) ?_)); clear hm; intro ws hm; simp only [List.set_cons_zero, List.set_cons_succ] at hm))
      go_still_tail 13, (by kernel_rfl)
      still_call (HF.out _ _ _)
      repeat still_step
      refine wpStill_nil ?_
      replace hm := hm.drawn (wr.drawn + 1)
      go_wp2_with (first | fail | ((with_reducible refine gt_box 3 68 ?_); refine st_box rfl 3 rfl 68 _ rfl hm (v := .agg (vals _ _)) rfl (cs := vals _ _) rfl ?_; clear hm; intro g3 w3 hm) | ((with_reducible refine gt_box 4 68 ?_); refine st_box rfl 4 rfl 68 _ rfl hm (v := .agg (vals _ _)) rfl (cs := vals _ _) rfl ?_; clear hm; intro g4 w4 hm) | ((with_reducible refine gt_alloc 6 68 ?_); refine st_alloc rfl 6 rfl 68 rfl hm zero68 ?_; clear hm; intro g6 w6 hm) | ((with_reducible refine gt_load 3 ?_); (first | (refine st_get rfl 3 _ rfl hm rfl 0 rfl one3 (by first | omega | assumption | (simp only [lens]; first | omega | assumption) | (simp [lens]; done) | (simp [lens]; omega)) ?_) | (refine st_get rfl 3 _ rfl hm rfl 1 rfl one3 (by first | omega | assumption | (simp only [lens]; first | omega | assumption) | (simp [lens]; done) | (simp [lens]; omega)) ?_) | (refine st_get rfl 3 _ rfl hm rfl 2 rfl one3 (by first | omega | assumption | (simp only [lens]; first | omega | assumption) | (simp [lens]; done) | (simp [lens]; omega)) ?_) | (refine st_get rfl 3 _ rfl hm rfl 3 rfl one3 (by first | omega | assumption | (simp only [lens]; first | omega | assumption) | (simp [lens]; done) | (simp [lens]; omega)) ?_) | (refine st_get rfl 3 _ rfl hm rfl 4 rfl one3 (by first | omega | assumption | (simp only [lens]; first | omega | assumption) | (simp [lens]; done) | (simp [lens]; omega)) ?_))) | ((with_reducible refine gt_store 3 ?_); (first | (refine st_set rfl 3 _ _ rfl hm rfl rfl 0 rfl one3 (by first | omega | assumption | (simp only [lens]; first | omega | assumption) | (simp [lens]; done) | (simp [lens]; omega)) ?_) | (refine st_set rfl 3 _ _ rfl hm rfl rfl 1 rfl one3 (by first | omega | assumption | (simp only [lens]; first | omega | assumption) | (simp [lens]; done) | (simp [lens]; omega)) ?_) | (refine st_set rfl 3 _ _ rfl hm rfl rfl 2 rfl one3 (by first | omega | assumption | (simp only [lens]; first | omega | assumption) | (simp [lens]; done) | (simp [lens]; omega)) ?_) | (refine st_set rfl 3 _ _ rfl hm rfl rfl 3 rfl one3 (by first | omega | assumption | (simp only [lens]; first | omega | assumption) | (simp [lens]; done) | (simp [lens]; omega)) ?_) | (refine st_set rfl 3 _ _ rfl hm rfl rfl 4 rfl one3 (by first | omega | assumption | (simp only [lens]; first | omega | assumption) | (simp [lens]; done) | (simp [lens]; omega)) ?_)); clear hm; intro ws hm; simp only [List.set_cons_zero, List.set_cons_succ] at hm) | ((with_reducible refine gt_load 68 ?_); (first | (refine st_load rfl 68 _ rfl hm rfl 0 rfl agg68 (by first | omega | assumption | (simp only [lens]; first | omega | assumption) | (simp [lens]; done) | (simp [lens]; omega)) ?_) | (refine st_load rfl 68 _ rfl hm rfl 1 rfl agg68 (by first | omega | assumption | (simp only [lens]; first | omega | assumption) | (simp [lens]; done) | (simp [lens]; omega)) ?_) | (refine st_load rfl 68 _ rfl hm rfl 2 rfl agg68 (by first | omega | assumption | (simp only [lens]; first | omega | assumption) | (simp [lens]; done) | (simp [lens]; omega)) ?_) | (refine st_load rfl 68 _ rfl hm rfl 3 rfl agg68 (by first | omega | assumption | (simp only [lens]; first | omega | assumption) | (simp [lens]; done) | (simp [lens]; omega)) ?_) | (refine st_load rfl 68 _ rfl hm rfl 4 rfl agg68 (by first | omega | assumption | (simp only [lens]; first | omega | assumption) | (simp [lens]; done) | (simp [lens]; omega)) ?_))) | ((with_reducible refine gt_store 68 ?_); (first | (refine st_full rfl 68 _ _ rfl hm rfl rfl 0 rfl agg68 (by first | omega | assumption | (simp only [lens]; first | omega | assumption) | (simp [lens]; done) | (simp [lens]; omega)) (by first | omega | assumption | (simp only [lens]; first | omega | assumption) | (simp [lens]; done) | (simp [lens]; omega)) ?_) | (refine st_full rfl 68 _ _ rfl hm rfl rfl 1 rfl agg68 (by first | omega | assumption | (simp only [lens]; first | omega | assumption) | (simp [lens]; done) | (simp [lens]; omega)) (by first | omega | assumption | (simp only [lens]; first | omega | assumption) | (simp [lens]; done) | (simp [lens]; omega)) ?_) | (refine st_full rfl 68 _ _ rfl hm rfl rfl 2 rfl agg68 (by first | omega | assumption | (simp only [lens]; first | omega | assumption) | (simp [lens]; done) | (simp [lens]; omega)) (by first | omega | assumption | (simp only [lens]; first | omega | assumption) | (simp [lens]; done) | (simp [lens]; omega)) ?_) | (refine st_full rfl 68 _ _ rfl hm rfl rfl 3 rfl agg68 (by first | omega | assumption | (simp only [lens]; first | omega | assumption) | (simp [lens]; done) | (simp [lens]; omega)) (by first | omega | assumption | (simp only [lens]; first | omega | assumption) | (simp [lens]; done) | (simp [lens]; omega)) ?_) | (refine st_full rfl 68 _ _ rfl hm rfl rfl 4 rfl agg68 (by first | omega | assumption | (simp only [lens]; first | omega | assumption) | (simp [lens]; done) | (simp [lens]; omega)) (by first | omega | assumption | (simp only [lens]; first | omega | assumption) | (simp [lens]; done) | (simp [lens]; omega)) ?_)); clear hm; intro ws hm; simp only [List.set_cons_zero, List.set_cons_succ] at hm))
      go_roundw
      case rel =>
        refine ⟨i + 1, by omega, by go_num, ?_⟩
        rw [← mixTo_succ L (List.zipWith op L L') 0 i (by omega) (by omega), HZ.out]
        simpa using hm
      case measure => simp [intOf]; omega
    · have HI := Aside0.mk (show mixTo L (List.zipWith op L L') 0 i = List.zipWith op L L' by
        have : i = 44 := by omega
        subst this
        unfold mixTo
        rw [List.take_zero, List.nil_append, List.take_of_length_le (by omega), List.drop_of_length_le (by omega), List.append_nil])
      go_wp2_with (first | fail | ((with_reducible refine gt_box 3 68 ?_); refine st_box rfl 3 rfl 68 _ rfl hm (v := .agg (vals _ _)) rfl (cs := vals _ _) rfl ?_; clear hm; intro g3 w3 hm) | ((with_reducible refine gt_box 4 68 ?_); refine st_box rfl 4 rfl 68 _ rfl hm (v := .agg (vals _ _)) rfl (cs := vals _ _) rfl ?_; clear hm; intro g4 w4 hm) | ((with_reducible refine gt_alloc 6 68 ?_); refine st_alloc rfl 6 rfl 68 rfl hm zero68 ?_; clear hm; intro g6 w6 hm) | ((with_reducible refine gt_load 3 ?_); (first | (refine st_get rfl 3 _ rfl hm rfl 0 rfl one3 (by first | omega | assumption | (simp only [lens]; first | omega | assumption) | (simp [lens]; done) | (simp [lens]; omega)) ?_) | (refine st_get rfl 3 _ rfl hm rfl 1 rfl one3 (by first | omega | assumption | (simp only [lens]; first | omega | assumption) | (simp [lens]; done) | (simp [lens]; omega)) ?_) | (refine st_get rfl 3 _ rfl hm rfl 2 rfl one3 (by first | omega | assumption | (simp only [lens]; first | omega | assumption) | (simp [lens]; done) | (simp [lens]; omega)) ?_) | (refine st_get rfl 3 _ rfl hm rfl 3 rfl one3 (by first | omega | assumption | (simp only [lens]; first | omega | assumption) | (simp [lens]; done) | (simp [lens]; omega)) ?_) | (refine st_get rfl 3 _ rfl hm rfl 4 rfl one3 (by first | omega | assumption | (simp only [lens]; first | omega | assumption) | (simp [lens]; done) | (simp [lens]; omega)) ?_))) | ((with_reducible refine gt_store 3 ?_); (first | (refine st_set rfl 3 _ _ rfl hm rfl rfl 0 rfl one3 (by first | omega | assumption | (simp only [lens]; first | omega | assumption) | (simp [lens]; done) | (simp [lens]; omega)) ?_) | (refine st_set rfl 3 _ _ rfl hm rfl rfl 1 rfl one3 (by first | omega | assumption | (simp only [lens]; first | omega | assumption) | (simp [lens]; done) | (simp [lens]; omega)) ?_) | (refine st_set rfl 3 _ _ rfl hm rfl rfl 2 rfl one3 (by first | omega | assumption | (simp only [lens]; first | omega | assumption) | (simp [lens]; done) | (simp [lens]; omega)) ?_) | (refine st_set rfl 3 _ _ rfl hm rfl rfl 3 rfl one3 (by first | omega | assumption | (simp only [lens]; first | omega | assumption) | (simp [lens]; done) | (simp [lens]; omega)) ?_) | (refine st_set rfl 3 _ _ rfl hm rfl rfl 4 rfl one3 (by first | omega | assumption | (simp only [lens]; first | omega | assumption) | (simp [lens]; done) | (simp [lens]; omega)) ?_)); clear hm; intro ws hm; simp only [List.set_cons_zero, List.set_cons_succ] at hm) | ((with_reducible refine gt_load 68 ?_); (first | (refine st_load rfl 68 _ rfl hm rfl 0 rfl agg68 (by first | omega | assumption | (simp only [lens]; first | omega | assumption) | (simp [lens]; done) | (simp [lens]; omega)) ?_) | (refine st_load rfl 68 _ rfl hm rfl 1 rfl agg68 (by first | omega | assumption | (simp only [lens]; first | omega | assumption) | (simp [lens]; done) | (simp [lens]; omega)) ?_) | (refine st_load rfl 68 _ rfl hm rfl 2 rfl agg68 (by first | omega | assumption | (simp only [lens]; first | omega | assumption) | (simp [lens]; done) | (simp [lens]; omega)) ?_) | (refine st_load rfl 68 _ rfl hm rfl 3 rfl agg68 (by first | omega | assumption | (simp only [lens]; first | omega | assumption) | (simp [lens]; done) | (simp [lens]; omega)) ?_) | (refine st_load rfl 68 _ rfl hm rfl 4 rfl agg68 (by first | omega | assumption | (simp only [lens]; first | omega | assumption) | (simp [lens]; done) | (simp [lens]; omega)) ?_))) | ((with_reducible refine gt_store 68 ?_); (first | (refine st_full rfl 68 _ _ rfl hm rfl rfl 0 rfl agg68 (by first | omega | assumption | (simp only [lens]; first | omega | assumption) | (simp [lens]; done) | (simp [lens]; omega)) (by first | omega | assumption | (simp only [lens]; first | omega | assumption) | (simp [lens]; done) | (simp [lens]; omega)) ?_) | (refine st_full rfl 68 _ _ rfl hm rfl rfl 1 rfl agg68 (by first | omega | assumption | (simp only [lens]; first | omega | assumption) | (simp [lens]; done) | (simp [lens]; omega)) (by first | omega | assumption | (simp only [lens]; first | omega | assumption) | (simp [lens]; done) | (simp [lens]; omega)) ?_) | (refine st_full rfl 68 _ _ rfl hm rfl rfl 2 rfl agg68 (by first | omega | assumption | (simp only [lens]; first | omega | assumption) | (simp [lens]; done) | (simp [lens]; omega)) (by first | omega | assumption | (simp only [lens]; first | omega | assumption) | (simp [lens]; done) | (simp [lens]; omega)) ?_) | (refine st_full rfl 68 _ _ rfl hm rfl rfl 3 rfl agg68 (by first | omega | assumption | (simp only [lens]; first | omega | assumption) | (simp [lens]; done) | (simp [lens]; omega)) (by first | omega | assumption | (simp only [lens]; first | omega | assumption) | (simp [lens]; done) | (simp [lens]; omega)) ?_) | (refine st_full rfl 68 _ _ rfl hm rfl rfl 4 rfl agg68 (by first | omega | assumption | (simp only [lens]; first | omega | assumption) | (simp [lens]; done) | (simp [lens]; omega)) (by first | omega | assumption | (simp only [lens]; first | omega | assumption) | (simp [lens]; done) | (simp [lens]; omega)) ?_)); clear hm; intro ws hm; simp only [List.set_cons_zero, List.set_cons_succ] at hm))
      ((try simp only [Exit.inBlock, Exit.then]); (first | (refine ret_cell hm rfl rfl 2 rfl agg68 (by first | omega | assumption | (simp only [lens]; first | omega | assumption) | (simp [lens]; done) | (simp [lens]; omega)) rfl ?_) | (refine ret_cell_tmp hm rfl rfl 2 rfl agg68 (by first | omega | assumption | (simp only [lens]; first | omega | assumption) | (simp [lens]; done) | (simp [lens]; omega)) rfl ?_)))
      exact ⟨by rw [HI.out], hm.done rfl⟩

set_option maxHeartbeats 4000000 in
set_option maxRecDepth 100000 in
theorem lacks1_calls (a b : Int) (W : World) : Calls Try.prog 91 #[.int .i64 a, .int .i64 b] W fun e W' => e = .returned (.int .i64 (mx (wrap64 (b - a)) 0)) ∧ W' = W := by
  go_enter Try.func91, Try.ntmps91
  go_wp2_with fail
  all_goals
    go_ret
    refine ⟨?_, rfl⟩
    first
      | rfl
      | (unfold mx; rw [if_pos (by omega)]; rfl)
      | (unfold mx; rw [if_neg (by omega)]; rfl)
theorem lacks1_enters (a : Array Value) (W : World) : (callFunc 91 a).run Try.prog W = .ok (.enter 91 a) W := by kernel_rfl
set_option maxHeartbeats 4000000 in
set_option maxRecDepth 100000 in
theorem lacks_calls (L L' : List Int) (w : World) (hl : L.length = 44) (hl' : L'.length = 44) : Calls Try.prog 72 #[.agg (vals .i64 L), .agg (vals .i64 L')] w fun e w' =>
    e = .returned (.agg (vals .i64 (List.zipWith (fun a b => mx (wrap64 (b - a)) 0) L L'))) ∧ Below w.heap.size w w' := by
  have hm := Mem.start w
  have hz := zip_length (fun a b => mx (wrap64 (b - a)) 0) L L' hl hl'
  go_enter Try.func72, Try.ntmps72
  go_wp2_with (first
    | (first | fail | ((with_reducible refine gt_box 2 68 ?_); refine st_box rfl 2 rfl 68 _ rfl hm (v := .agg (vals _ _)) rfl (cs := vals _ _) rfl ?_; clear hm; intro g2 w2 hm) | ((with_reducible refine gt_box 3 68 ?_); refine st_box rfl 3 rfl 68 _ rfl hm (v := .agg (vals _ _)) rfl (cs := vals _ _) rfl ?_; clear hm; intro g3 w3 hm) | ((with_reducible refine gt_alloc 4 68 ?_); refine st_alloc rfl 4 rfl 68 rfl hm zero68 ?_; clear hm; intro g4 w4 hm) | ((with_reducible refine gt_load 68 ?_); (first | (refine st_load rfl 68 _ rfl hm rfl 0 rfl agg68 (by first | omega | assumption | (simp only [lens]; first | omega | assumption) | (simp [lens]; done) | (simp [lens]; omega)) ?_) | (refine st_load rfl 68 _ rfl hm rfl 1 rfl agg68 (by first | omega | assumption | (simp only [lens]; first | omega | assumption) | (simp [lens]; done) | (simp [lens]; omega)) ?_) | (refine st_load rfl 68 _ rfl hm rfl 2 rfl agg68 (by first | omega | assumption | (simp only [lens]; first | omega | assumption) | (simp [lens]; done) | (simp [lens]; omega)) ?_) | (refine st_load rfl 68 _ rfl hm rfl 3 rfl agg68 (by first | omega | assumption | (simp only [lens]; first | omega | assumption) | (simp [lens]; done) | (simp [lens]; omega)) ?_) | (refine st_load rfl 68 _ rfl hm rfl 4 rfl agg68 (by first | omega | assumption | (simp only [lens]; first | omega | assumption) | (simp [lens]; done) | (simp [lens]; omega)) ?_))) | ((with_reducible refine gt_store 68 ?_); (first | (refine st_full rfl 68 _ _ rfl hm rfl rfl 0 rfl agg68 (by first | omega | assumption | (simp only [lens]; first | omega | assumption) | (simp [lens]; done) | (simp [lens]; omega)) (by first | omega | assumption | (simp only [lens]; first | omega | assumption) | (simp [lens]; done) | (simp [lens]; omega)) ?_) | (refine st_full rfl 68 _ _ rfl hm rfl rfl 1 rfl agg68 (by first | omega | assumption | (simp only [lens]; first | omega | assumption) | (simp [lens]; done) | (simp [lens]; omega)) (by first | omega | assumption | (simp only [lens]; first | omega | assumption) | (simp [lens]; done) | (simp [lens]; omega)) ?_) | (refine st_full rfl 68 _ _ rfl hm rfl rfl 2 rfl agg68 (by first | omega | assumption | (simp only [lens]; first | omega | assumption) | (simp [lens]; done) | (simp [lens]; omega)) (by first | omega | assumption | (simp only [lens]; first | omega | assumption) | (simp [lens]; done) | (simp [lens]; omega)) ?_) | (refine st_full rfl 68 _ _ rfl hm rfl rfl 3 rfl agg68 (by first | omega | assumption | (simp only [lens]; first | omega | assumption) | (simp [lens]; done) | (simp [lens]; omega)) (by first | omega | assumption | (simp only [lens]; first | omega | assumption) | (simp [lens]; done) | (simp [lens]; omega)) ?_) | (refine st_full rfl 68 _ _ rfl hm rfl rfl 4 rfl agg68 (by first | omega | assumption | (simp only [lens]; first | omega | assumption) | (simp [lens]; done) | (simp [lens]; omega)) (by first | omega | assumption | (simp only [lens]; first | omega | assumption) | (simp [lens]; done) | (simp [lens]; omega)) ?_)); clear hm; intro ws hm; simp only [List.set_cons_zero, List.set_cons_succ] at hm))
    | (go_at_call 90; refine (with_calls 91 (fun a b => mx (wrap64 (b - a)) 0) lacks1_calls L L' _ hl hl' lacks1_enters).mono ?_; rintro e wa ⟨rfl, hb⟩; replace hm := hm.after hb; clear hb))
  ((try simp only [Exit.inBlock, Exit.then]); (first | (refine ret_cell hm rfl rfl 0 rfl agg68 (by first | omega | assumption | (simp only [lens]; first | omega | assumption) | (simp [lens]; done) | (simp [lens]; omega)) rfl ?_) | (refine ret_cell_tmp hm rfl rfl 0 rfl agg68 (by first | omega | assumption | (simp only [lens]; first | omega | assumption) | (simp [lens]; done) | (simp [lens]; omega)) rfl ?_)))
  exact ⟨rfl, hm.done rfl⟩

set_option maxHeartbeats 4000000 in
set_option maxRecDepth 100000 in
theorem less1_calls (a b : Int) (W : World) : Calls Try.prog 93 #[.int .i64 a, .int .i64 b] W fun e W' => e = .returned (.int .i64 (wrap64 (a - b))) ∧ W' = W := by
  go_enter Try.func93, Try.ntmps93
  go_wp2_with fail
  all_goals
    go_ret
    refine ⟨?_, rfl⟩
    first
      | rfl
      | (unfold mx; rw [if_pos (by omega)]; rfl)
      | (unfold mx; rw [if_neg (by omega)]; rfl)
theorem less1_enters (a : Array Value) (W : World) : (callFunc 93 a).run Try.prog W = .ok (.enter 93 a) W := by kernel_rfl
set_option maxHeartbeats 4000000 in
set_option maxRecDepth 100000 in
theorem less_calls (L L' : List Int) (w : World) (hl : L.length = 44) (hl' : L'.length = 44) : Calls Try.prog 75 #[.agg (vals .i64 L), .agg (vals .i64 L')] w fun e w' =>
    e = .returned (.agg (vals .i64 (List.zipWith (fun a b => wrap64 (a - b)) L L'))) ∧ Below w.heap.size w w' := by
  have hm := Mem.start w
  have hz := zip_length (fun a b => wrap64 (a - b)) L L' hl hl'
  go_enter Try.func75, Try.ntmps75
  go_wp2_with (first
    | (first | fail | ((with_reducible refine gt_box 2 68 ?_); refine st_box rfl 2 rfl 68 _ rfl hm (v := .agg (vals _ _)) rfl (cs := vals _ _) rfl ?_; clear hm; intro g2 w2 hm) | ((with_reducible refine gt_box 3 68 ?_); refine st_box rfl 3 rfl 68 _ rfl hm (v := .agg (vals _ _)) rfl (cs := vals _ _) rfl ?_; clear hm; intro g3 w3 hm) | ((with_reducible refine gt_alloc 4 68 ?_); refine st_alloc rfl 4 rfl 68 rfl hm zero68 ?_; clear hm; intro g4 w4 hm) | ((with_reducible refine gt_load 68 ?_); (first | (refine st_load rfl 68 _ rfl hm rfl 0 rfl agg68 (by first | omega | assumption | (simp only [lens]; first | omega | assumption) | (simp [lens]; done) | (simp [lens]; omega)) ?_) | (refine st_load rfl 68 _ rfl hm rfl 1 rfl agg68 (by first | omega | assumption | (simp only [lens]; first | omega | assumption) | (simp [lens]; done) | (simp [lens]; omega)) ?_) | (refine st_load rfl 68 _ rfl hm rfl 2 rfl agg68 (by first | omega | assumption | (simp only [lens]; first | omega | assumption) | (simp [lens]; done) | (simp [lens]; omega)) ?_) | (refine st_load rfl 68 _ rfl hm rfl 3 rfl agg68 (by first | omega | assumption | (simp only [lens]; first | omega | assumption) | (simp [lens]; done) | (simp [lens]; omega)) ?_) | (refine st_load rfl 68 _ rfl hm rfl 4 rfl agg68 (by first | omega | assumption | (simp only [lens]; first | omega | assumption) | (simp [lens]; done) | (simp [lens]; omega)) ?_))) | ((with_reducible refine gt_store 68 ?_); (first | (refine st_full rfl 68 _ _ rfl hm rfl rfl 0 rfl agg68 (by first | omega | assumption | (simp only [lens]; first | omega | assumption) | (simp [lens]; done) | (simp [lens]; omega)) (by first | omega | assumption | (simp only [lens]; first | omega | assumption) | (simp [lens]; done) | (simp [lens]; omega)) ?_) | (refine st_full rfl 68 _ _ rfl hm rfl rfl 1 rfl agg68 (by first | omega | assumption | (simp only [lens]; first | omega | assumption) | (simp [lens]; done) | (simp [lens]; omega)) (by first | omega | assumption | (simp only [lens]; first | omega | assumption) | (simp [lens]; done) | (simp [lens]; omega)) ?_) | (refine st_full rfl 68 _ _ rfl hm rfl rfl 2 rfl agg68 (by first | omega | assumption | (simp only [lens]; first | omega | assumption) | (simp [lens]; done) | (simp [lens]; omega)) (by first | omega | assumption | (simp only [lens]; first | omega | assumption) | (simp [lens]; done) | (simp [lens]; omega)) ?_) | (refine st_full rfl 68 _ _ rfl hm rfl rfl 3 rfl agg68 (by first | omega | assumption | (simp only [lens]; first | omega | assumption) | (simp [lens]; done) | (simp [lens]; omega)) (by first | omega | assumption | (simp only [lens]; first | omega | assumption) | (simp [lens]; done) | (simp [lens]; omega)) ?_) | (refine st_full rfl 68 _ _ rfl hm rfl rfl 4 rfl agg68 (by first | omega | assumption | (simp only [lens]; first | omega | assumption) | (simp [lens]; done) | (simp [lens]; omega)) (by first | omega | assumption | (simp only [lens]; first | omega | assumption) | (simp [lens]; done) | (simp [lens]; omega)) ?_)); clear hm; intro ws hm; simp only [List.set_cons_zero, List.set_cons_succ] at hm))
    | (go_at_call 90; refine (with_calls 93 (fun a b => wrap64 (a - b)) less1_calls L L' _ hl hl' less1_enters).mono ?_; rintro e wa ⟨rfl, hb⟩; replace hm := hm.after hb; clear hb))
  ((try simp only [Exit.inBlock, Exit.then]); (first | (refine ret_cell hm rfl rfl 0 rfl agg68 (by first | omega | assumption | (simp only [lens]; first | omega | assumption) | (simp [lens]; done) | (simp [lens]; omega)) rfl ?_) | (refine ret_cell_tmp hm rfl rfl 0 rfl agg68 (by first | omega | assumption | (simp only [lens]; first | omega | assumption) | (simp [lens]; done) | (simp [lens]; omega)) rfl ?_)))
  exact ⟨rfl, hm.done rfl⟩

set_option maxHeartbeats 4000000 in
set_option maxRecDepth 100000 in
theorem plus1_calls (a b : Int) (W : World) : Calls Try.prog 102 #[.int .i64 a, .int .i64 b] W fun e W' => e = .returned (.int .i64 (wrap64 (a + b))) ∧ W' = W := by
  go_enter Try.func102, Try.ntmps102
  go_wp2_with fail
  all_goals
    go_ret
    refine ⟨?_, rfl⟩
    first
      | rfl
      | (unfold mx; rw [if_pos (by omega)]; rfl)
      | (unfold mx; rw [if_neg (by omega)]; rfl)
theorem plus1_enters (a : Array Value) (W : World) : (callFunc 102 a).run Try.prog W = .ok (.enter 102 a) W := by kernel_rfl
set_option maxHeartbeats 4000000 in
set_option maxRecDepth 100000 in
theorem plus_calls (L L' : List Int) (w : World) (hl : L.length = 44) (hl' : L'.length = 44) : Calls Try.prog 97 #[.agg (vals .i64 L), .agg (vals .i64 L')] w fun e w' =>
    e = .returned (.agg (vals .i64 (List.zipWith (fun a b => wrap64 (a + b)) L L'))) ∧ Below w.heap.size w w' := by
  have hm := Mem.start w
  have hz := zip_length (fun a b => wrap64 (a + b)) L L' hl hl'
  go_enter Try.func97, Try.ntmps97
  go_wp2_with (first
    | (first | fail | ((with_reducible refine gt_box 2 68 ?_); refine st_box rfl 2 rfl 68 _ rfl hm (v := .agg (vals _ _)) rfl (cs := vals _ _) rfl ?_; clear hm; intro g2 w2 hm) | ((with_reducible refine gt_box 3 68 ?_); refine st_box rfl 3 rfl 68 _ rfl hm (v := .agg (vals _ _)) rfl (cs := vals _ _) rfl ?_; clear hm; intro g3 w3 hm) | ((with_reducible refine gt_alloc 4 68 ?_); refine st_alloc rfl 4 rfl 68 rfl hm zero68 ?_; clear hm; intro g4 w4 hm) | ((with_reducible refine gt_load 68 ?_); (first | (refine st_load rfl 68 _ rfl hm rfl 0 rfl agg68 (by first | omega | assumption | (simp only [lens]; first | omega | assumption) | (simp [lens]; done) | (simp [lens]; omega)) ?_) | (refine st_load rfl 68 _ rfl hm rfl 1 rfl agg68 (by first | omega | assumption | (simp only [lens]; first | omega | assumption) | (simp [lens]; done) | (simp [lens]; omega)) ?_) | (refine st_load rfl 68 _ rfl hm rfl 2 rfl agg68 (by first | omega | assumption | (simp only [lens]; first | omega | assumption) | (simp [lens]; done) | (simp [lens]; omega)) ?_) | (refine st_load rfl 68 _ rfl hm rfl 3 rfl agg68 (by first | omega | assumption | (simp only [lens]; first | omega | assumption) | (simp [lens]; done) | (simp [lens]; omega)) ?_) | (refine st_load rfl 68 _ rfl hm rfl 4 rfl agg68 (by first | omega | assumption | (simp only [lens]; first | omega | assumption) | (simp [lens]; done) | (simp [lens]; omega)) ?_))) | ((with_reducible refine gt_store 68 ?_); (first | (refine st_full rfl 68 _ _ rfl hm rfl rfl 0 rfl agg68 (by first | omega | assumption | (simp only [lens]; first | omega | assumption) | (simp [lens]; done) | (simp [lens]; omega)) (by first | omega | assumption | (simp only [lens]; first | omega | assumption) | (simp [lens]; done) | (simp [lens]; omega)) ?_) | (refine st_full rfl 68 _ _ rfl hm rfl rfl 1 rfl agg68 (by first | omega | assumption | (simp only [lens]; first | omega | assumption) | (simp [lens]; done) | (simp [lens]; omega)) (by first | omega | assumption | (simp only [lens]; first | omega | assumption) | (simp [lens]; done) | (simp [lens]; omega)) ?_) | (refine st_full rfl 68 _ _ rfl hm rfl rfl 2 rfl agg68 (by first | omega | assumption | (simp only [lens]; first | omega | assumption) | (simp [lens]; done) | (simp [lens]; omega)) (by first | omega | assumption | (simp only [lens]; first | omega | assumption) | (simp [lens]; done) | (simp [lens]; omega)) ?_) | (refine st_full rfl 68 _ _ rfl hm rfl rfl 3 rfl agg68 (by first | omega | assumption | (simp only [lens]; first | omega | assumption) | (simp [lens]; done) | (simp [lens]; omega)) (by first | omega | assumption | (simp only [lens]; first | omega | assumption) | (simp [lens]; done) | (simp [lens]; omega)) ?_) | (refine st_full rfl 68 _ _ rfl hm rfl rfl 4 rfl agg68 (by first | omega | assumption | (simp only [lens]; first | omega | assumption) | (simp [lens]; done) | (simp [lens]; omega)) (by first | omega | assumption | (simp only [lens]; first | omega | assumption) | (simp [lens]; done) | (simp [lens]; omega)) ?_)); clear hm; intro ws hm; simp only [List.set_cons_zero, List.set_cons_succ] at hm))
    | (go_at_call 90; refine (with_calls 102 (fun a b => wrap64 (a + b)) plus1_calls L L' _ hl hl' plus1_enters).mono ?_; rintro e wa ⟨rfl, hb⟩; replace hm := hm.after hb; clear hb))
  ((try simp only [Exit.inBlock, Exit.then]); (first | (refine ret_cell hm rfl rfl 0 rfl agg68 (by first | omega | assumption | (simp only [lens]; first | omega | assumption) | (simp [lens]; done) | (simp [lens]; omega)) rfl ?_) | (refine ret_cell_tmp hm rfl rfl 0 rfl agg68 (by first | omega | assumption | (simp only [lens]; first | omega | assumption) | (simp [lens]; done) | (simp [lens]; omega)) rfl ?_)))
  exact ⟨rfl, hm.done rfl⟩

/-- Whether no number of the second is greater. -/
def covB (L L' : List Int) : Bool := (List.range 44).all fun j => decide (rd L' (j : Int) ≤ rd L (j : Int))
theorem covB_true {L L' : List Int} (h : ∀ j : Nat, j < 44 → rd L' (j : Int) ≤ rd L (j : Int)) : covB L L' = true := by
  unfold covB
  rw [List.all_eq_true]
  intro j hj
  simpa using h j (List.mem_range.1 hj)
theorem covB_false {L L' : List Int} (j : Nat) (hj : j < 44) (h : rd L (j : Int) < rd L' (j : Int)) : covB L L' = false := by
  unfold covB
  rw [List.all_eq_false]
  exact ⟨j, List.mem_range.2 hj, by simp; omega⟩
theorem covB_get {L L' : List Int} (h : covB L L' = true) (j : Nat) (hj : j < 44) : rd L' (j : Int) ≤ rd L (j : Int) := by
  have := List.all_eq_true.1 h j (List.mem_range.2 hj)
  simpa using this
theorem covers_zip {L L' : List Int} (hl : L.length = 44) (hl' : L'.length = 44) (hb : ∀ x ∈ L, -1000000 ≤ x ∧ x ≤ 1000000) (hb' : ∀ x ∈ L', -1000000 ≤ x ∧ x ≤ 1000000) :
    decide (List.zipWith (fun a b => mx (wrap64 (b - a)) 0) L L' = zs 44) = covB L L' := by
  have hget : ∀ j : Nat, j < 44 → rd (List.zipWith (fun a b => mx (wrap64 (b - a)) 0) L L') (j : Int) = if rd L (j : Int) < rd L' (j : Int) then rd L' (j : Int) - rd L (j : Int) else 0 := by
    intro j hj
    have h1 := hb _ (rd_in L j (by omega))
    have h2 := hb' _ (rd_in L' j (by omega))
    rw [rd_zip _ L L' j (by omega) (by omega), w64 (by omega) (by omega)]
    unfold mx
    split <;> split <;> omega
  have hz : ∀ j : Nat, j < 44 → rd (zs 44) (j : Int) = 0 := by
    intro j hj
    rw [rd_get _ j (by rw [zs_length]; exact hj)]
    exact List.getElem_replicate _
  cases h : covB L L' with
  | true =>
    refine decide_eq_true (list_eq (zip_length _ _ _ hl hl') zs_length fun j hj => ?_)
    rw [hget j hj, hz j hj, if_neg (by have := covB_get h j hj; omega)]
  | false =>
    refine decide_eq_false fun e => ?_
    have : covB L L' = true := covB_true fun j hj => by
      have h1 := hget j hj
      rw [e, hz j hj] at h1
      split at h1 <;> omega
    rw [h] at this
    cases this

set_option maxHeartbeats 4000000 in
set_option maxRecDepth 100000 in
theorem covers_calls (L L' : List Int) (w : World) (hl : L.length = 44) (hl' : L'.length = 44) (hb : ∀ x ∈ L, -1000000 ≤ x ∧ x ≤ 1000000) (hb' : ∀ x ∈ L', -1000000 ≤ x ∧ x ≤ 1000000) :
    Calls Try.prog 65 #[.agg (vals .i64 L), .agg (vals .i64 L')] w fun e w' => e = .returned (.bool (covB L L')) ∧ Below w.heap.size w w' := by
  have hm := Mem.start w
  have HZ := Aside0.mk (covers_zip hl hl' hb hb')
  have hz := zip_length (fun a b => mx (wrap64 (b - a)) 0) L L' hl hl'
  clear hb hb'
  go_enter Try.func65, Try.ntmps65
  go_wp2_with (first
    | (first | fail | ((with_reducible refine gt_box 2 68 ?_); refine st_box rfl 2 rfl 68 _ rfl hm (v := .agg (vals _ _)) rfl (cs := vals _ _) rfl ?_; clear hm; intro g2 w2 hm) | ((with_reducible refine gt_box 3 68 ?_); refine st_box rfl 3 rfl 68 _ rfl hm (v := .agg (vals _ _)) rfl (cs := vals _ _) rfl ?_; clear hm; intro g3 w3 hm) | ((with_reducible refine gt_load 68 ?_); (first | (refine st_load rfl 68 _ rfl hm rfl 0 rfl agg68 (by first | omega | assumption | (simp only [lens]; first | omega | assumption) | (simp [lens]; done) | (simp [lens]; omega)) ?_) | (refine st_load rfl 68 _ rfl hm rfl 1 rfl agg68 (by first | omega | assumption | (simp only [lens]; first | omega | assumption) | (simp [lens]; done) | (simp [lens]; omega)) ?_) | (refine st_load rfl 68 _ rfl hm rfl 2 rfl agg68 (by first | omega | assumption | (simp only [lens]; first | omega | assumption) | (simp [lens]; done) | (simp [lens]; omega)) ?_) | (refine st_load rfl 68 _ rfl hm rfl 3 rfl agg68 (by first | omega | assumption | (simp only [lens]; first | omega | assumption) | (simp [lens]; done) | (simp [lens]; omega)) ?_))) | ((with_reducible refine gt_build 68 ?_); refine st_zero rfl 68 rfl built68 ?_))
    | (go_at_call 72; refine (lacks_calls L L' _ hl hl').mono ?_; rintro e wa ⟨rfl, hb⟩; replace hm := hm.after hb; clear hb)
    | (refine st_eql rfl 68 _ _ _ rfl rfl rfl eqPieces hz zs_length ?_; rw [HZ.out]))
  go_ret
  exact ⟨rfl, hm.done rfl⟩

set_option maxHeartbeats 4000000 in
set_option maxRecDepth 100000 in
theorem l04Covers_calls (g g' : Nat) (L L' : List Int) (w : World) (hl : L.length = 44) (hl' : L'.length = 44) (hg : w.heap[g]? = some (.cells (vals .i16 L) 26 (0, 0))) (hg' : w.heap[g']? = some (.cells (vals .i16 L') 26 (0, 0))) :
    Calls Try.prog 64 #[.pointer (some ⟨g, 0, none⟩), .pointer (some ⟨g', 0, none⟩)] w fun e w' => e = .returned (.bool (covB L L')) ∧ Below w.heap.size w w' := by
  have HB := Aside0.mk (Below.refl w.heap.size w)
  have hcell : ∀ W, Below w.heap.size w W → ∀ i : Nat, i < 44 → W.cell? ⟨g, i, none⟩ = some (.int .i16 (rd L (i : Int))) ∧ W.cell? ⟨g', i, none⟩ = some (.int .i16 (rd L' (i : Int))) := by
    intro W hW i hi
    refine ⟨?_, ?_⟩
    · rw [cell_of_row W g i _ _ (0, 0) ((hW.block g (lt_of_some hg)).trans hg), vals_get (by omega)]
    · rw [cell_of_row W g' i _ _ (0, 0) ((hW.block g' (lt_of_some hg')).trans hg'), vals_get (by omega)]
  have HC := Aside0.mk hcell
  clear hg hg' hcell
  go_enter Try.func64, Try.ntmps64
  go_wp2_with fail
  go_loopw [5] (fun v5 wr => ∃ i : Nat, i ≤ 40 ∧ v5 = .int .i64 i ∧ Aside0 (∀ j : Nat, j < i → rd L' (j : Int) ≤ rd L (j : Int)) ∧ Aside0 (Below w.heap.size w wr)) (fun v5 _ => 40 - (intOf v5).toNat)
  case atStart => exact ⟨0, by omega, rfl, ⟨fun j hj => absurd hj (by omega)⟩, HB⟩
  case round =>
    obtain ⟨i, hi, rfl, HJ, HB⟩ := hrel
    by_cases hlt : i < 40
    · obtain ⟨hc1, hc2⟩ := HC.out _ HB.out i (by omega)
      generalize hx : rd L (i : Int) = x at *
      generalize hy : rd L' (i : Int) = y at *
      have HX := Aside0.mk hx
      have HY := Aside0.mk hy
      clear hx hy
      by_cases hxy : x < y
      · have hd := decide_eq_true hxy
        go_wp2
        go_quiet (fail)
        go_wp2
        go_ret
        exact ⟨by rw [covB_false i (by omega) (by rw [HX.out, HY.out]; omega)]; rfl, HB.out.trans ⟨rfl, rfl, rfl, Nat.le_refl _, fun _ _ => rfl⟩⟩
      · have hd := decide_eq_false hxy
        go_wp2
        go_quiet (fail)
        go_wp2
        go_roundw
        case rel => exact ⟨i + 1, by omega, by go_num, ⟨fun j hj => by
          rcases Nat.lt_or_ge j i with h | h
          · exact HJ.out j h
          · obtain rfl : j = i := by omega
            rw [HX.out, HY.out]; omega⟩, ⟨HB.out.trans ⟨rfl, rfl, rfl, Nat.le_refl _, fun _ _ => rfl⟩⟩⟩
        case measure => simp [intOf]; omega
    · have HI := Aside0.mk (show i = 40 by omega)
      go_wp2_with fail
      go_loopw [6] (fun v6 wr => ∃ i : Nat, i ≤ 4 ∧ v6 = .int .i64 i ∧ Aside0 (∀ j : Nat, j < 40 + i → rd L' (j : Int) ≤ rd L (j : Int)) ∧ Aside0 (Below w.heap.size w wr)) (fun v6 _ => 4 - (intOf v6).toNat)
      case atStart => exact ⟨0, by omega, rfl, ⟨fun j hj => HJ.out j (by rw [HI.out]; omega)⟩, HB⟩
      case round =>
        obtain ⟨i2, hi2, rfl, HJ2, HB⟩ := hrel
        by_cases hlt : i2 < 4
        · obtain ⟨hc1, hc2⟩ := HC.out _ HB.out (40 + i2) (by omega)
          generalize hx : rd L ((40 + i2 : Nat) : Int) = x at *
          generalize hy : rd L' ((40 + i2 : Nat) : Int) = y at *
          have HX := Aside0.mk hx
          have HY := Aside0.mk hy
          clear hx hy
          by_cases hxy : x < y
          · have hd := decide_eq_true hxy
            go_wp2
            go_quiet (fail)
            go_wp2
            go_ret
            exact ⟨by rw [covB_false (40 + i2) (by omega) (by rw [HX.out, HY.out]; omega)]; rfl, HB.out.trans ⟨rfl, rfl, rfl, Nat.le_refl _, fun _ _ => rfl⟩⟩
          · have hd := decide_eq_false hxy
            go_wp2
            go_quiet (fail)
            go_wp2
            go_roundw
            case rel => exact ⟨i2 + 1, by omega, by go_num, ⟨fun j hj => by
              rcases Nat.lt_or_ge j (40 + i2) with h | h
              · exact HJ2.out j h
              · obtain rfl : j = 40 + i2 := by omega
                rw [HX.out, HY.out]; omega⟩, ⟨HB.out.trans ⟨rfl, rfl, rfl, Nat.le_refl _, fun _ _ => rfl⟩⟩⟩
            case measure => simp [intOf]; omega
        · have HI2 := Aside0.mk (covB_true (L := L) (L' := L') (fun j hj => HJ2.out j (by omega)))
          go_wp2_with fail
          go_ret
          exact ⟨by rw [HI2.out]; rfl, HB.out⟩
end Go.Proofs.Ytmpkgdgbjhegnaa.Arr
