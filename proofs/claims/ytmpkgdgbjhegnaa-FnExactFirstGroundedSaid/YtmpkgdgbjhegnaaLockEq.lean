/- Lockers that are compared. No condition. -/
import Derived.Test.YtmpkgdgbjhegnaaLockLib
namespace Go.Proofs.Ytmpkgdgbjhegnaa.Arr
open Go.RowKit Go.Proofs.YtmpkgdgbjhegnaaW.PrintWords Go.Proofs.YtmpkgdgbjhegnaaW.PrintLast Go.Proofs.YtmpkgdgbjhegnaaW.PrintMore Go.Proofs.Ytmpkgdgbjhegnaa.U Go.Proofs.Ytmpkgdgbjhegnaa.B
set_option linter.unusedVariables false
set_option linter.unusedSimpArgs false

set_option maxHeartbeats 4000000 in
set_option maxRecDepth 100000 in
theorem eqLocker_calls (L L' : List Int) (w : World) (hl : L.length = 44) (hl' : L'.length = 44) : Calls Try.prog 17 #[.agg (vals .i16 L), .agg (vals .i16 L')] w fun e w' => e = .returned (.bool (decide (L = L'))) ∧ Below w.heap.size w w' := by
  have hm := Mem.start w
  have HL := Aside0.mk (halves L hl)
  have HL' := Aside0.mk (halves L' hl')
  go_enter Try.func17, Try.ntmps17
  go_wp2_with (first
    | (first | fail | ((with_reducible refine gt_box 2 26 ?_); refine st_box rfl 2 rfl 26 _ rfl hm (v := .agg (vals _ _)) rfl (cs := vals _ _) rfl ?_; clear hm; intro g2 w2 hm) | ((with_reducible refine gt_box 3 26 ?_); refine st_box rfl 3 rfl 26 _ rfl hm (v := .agg (vals _ _)) rfl (cs := vals _ _) rfl ?_; clear hm; intro g3 w3 hm) | ((with_reducible refine gt_field 26 0 ?_); refine st_field rfl 26 _ 0 rfl rfl field26_0 ?_) | ((with_reducible refine gt_load 23 ?_); (first | (refine st_part rfl 23 _ rfl hm rfl 0 rfl agg23 (by first | omega | assumption | (simp only [lens]; first | omega | assumption) | (simp [lens]; done) | (simp [lens]; omega)) ?_) | (refine st_part rfl 23 _ rfl hm rfl 1 rfl agg23 (by first | omega | assumption | (simp only [lens]; first | omega | assumption) | (simp [lens]; done) | (simp [lens]; omega)) ?_) | (refine st_part rfl 23 _ rfl hm rfl 2 rfl agg23 (by first | omega | assumption | (simp only [lens]; first | omega | assumption) | (simp [lens]; done) | (simp [lens]; omega)) ?_) | (refine st_part rfl 23 _ rfl hm rfl 3 rfl agg23 (by first | omega | assumption | (simp only [lens]; first | omega | assumption) | (simp [lens]; done) | (simp [lens]; omega)) ?_))) | ((with_reducible refine gt_field 26 1 ?_); refine st_field rfl 26 _ 1 rfl rfl field26_1 ?_) | ((with_reducible refine gt_load 24 ?_); (first | (refine st_part rfl 24 _ rfl hm rfl 0 rfl agg24 (by first | omega | assumption | (simp only [lens]; first | omega | assumption) | (simp [lens]; done) | (simp [lens]; omega)) ?_) | (refine st_part rfl 24 _ rfl hm rfl 1 rfl agg24 (by first | omega | assumption | (simp only [lens]; first | omega | assumption) | (simp [lens]; done) | (simp [lens]; omega)) ?_) | (refine st_part rfl 24 _ rfl hm rfl 2 rfl agg24 (by first | omega | assumption | (simp only [lens]; first | omega | assumption) | (simp [lens]; done) | (simp [lens]; omega)) ?_) | (refine st_part rfl 24 _ rfl hm rfl 3 rfl agg24 (by first | omega | assumption | (simp only [lens]; first | omega | assumption) | (simp [lens]; done) | (simp [lens]; omega)) ?_))))
    | (go_at_call 52; refine (decided (eqInt16A40_calls _ _ _ (by first | omega | assumption | (simp only [lens]; first | omega | assumption) | (simp [lens]; done) | (simp [lens]; omega)) (by first | omega | assumption | (simp only [lens]; first | omega | assumption) | (simp [lens]; done) | (simp [lens]; omega)))).mono ?_; rintro e wa ⟨b1, HB1, rfl, hb⟩; replace hm := hm.after hb; clear hb; cases b1)
    | (go_at_call 53; refine (decided (eqInt16A4_calls _ _ _ (by first | omega | assumption | (simp only [lens]; first | omega | assumption) | (simp [lens]; done) | (simp [lens]; omega)) (by first | omega | assumption | (simp only [lens]; first | omega | assumption) | (simp [lens]; done) | (simp [lens]; omega)))).mono ?_; rintro e wa ⟨b2, HB2, rfl, hb⟩; replace hm := hm.after hb; clear hb; cases b2))
  all_goals
    go_ret
    refine ⟨?_, hm.done rfl⟩
  · rw [decide_eq_false (p := L = L')]
    · rfl
    · intro e; subst e; simpa using HB1.out
  · rw [decide_eq_false (p := L = L')]
    · rfl
    · intro e; subst e; simpa using HB2.out
  · rw [decide_eq_true (p := L = L')]
    · rfl
    · have h1 : List.take 40 (List.drop 0 L) = List.take 40 (List.drop 0 L') := by simpa using HB1.out
      have h2 : List.take 4 (List.drop 40 L) = List.take 4 (List.drop 40 L') := by simpa using HB2.out
      exact HL.out.trans ((by rw [h1, h2] : _ = _).trans HL'.out.symm)

end Go.Proofs.Ytmpkgdgbjhegnaa.Arr
