/- The law's own functions on flags: how they are counted, copied, compared. Condition: no list too long. -/
import Derived.Test.YtodgnbcfihifiaaFlagImpl
import Derived.Test.YtodgnbcfihifiaaSightLaw
import Derived.BigQuiet
namespace Go.Proofs.Ytodgnbcfihifiaa.Arr
open Go.RowKit Go.Proofs.YtodgnbcfihifiaaW.PrintWords Go.Proofs.YtodgnbcfihifiaaW.PrintLast Go.Proofs.YtodgnbcfihifiaaW.PrintMore Go.Proofs.Ytodgnbcfihifiaa.U Go.Proofs.Ytodgnbcfihifiaa.F
set_option linter.unusedVariables false
set_option linter.unusedSimpArgs false

theorem Mem.own_ge {w0 w : World} {M : List Ent} (h : Mem w0 w M) (n : Nat) {g : Nat} {cs : Array Value} {t : TypeId} (hn : M[n]? = some ⟨g, cs, t, true⟩) : w0.heap.size ≤ g := (h.ent _ (List.mem_of_getElem? hn)).2 rfl
theorem Mem.ne {w0 w : World} {M : List Ent} (h : Mem w0 w M) (m n : Nat) (hmn : m ≠ n) {g g' : Nat} {cs cs' : Array Value} {t t' : TypeId} {o o' : Bool} (hm : M[m]? = some ⟨g, cs, t, o⟩) (hn : M[n]? = some ⟨g', cs', t', o'⟩) : g ≠ g' := fun e => hmn (h.apart m n _ _ hm hn e)

set_option maxHeartbeats 4000000 in
set_option maxRecDepth 100000 in
theorem szFlagS_calls (A : Option Addr) (c n : Nat) (left : Int) (w : World) (hn : n ≤ 9223372036854775807) (hl : left ≤ 1048576 ∧ 0 ≤ left) :
    Calls Try.prog 16 #[.slice A n c, .int .i64 left] w fun e w' => e = .returned (.int .i64 (if left - n < 0 then -1 else left - n)) ∧ Below w.heap.size w w' := by
  have hw : wrap64 (left - (n : Int)) = left - n := w64 (by omega) (by omega)
  by_cases h : left - (n : Int) < 0
  · rw [if_pos h]
    go_enter Try.func16, Try.ntmps16
    go_wp2_with fail
    go_ret
    exact ⟨rfl, Below.refl _ _⟩
  · rw [if_neg h]
    go_enter Try.func16, Try.ntmps16
    go_wp2_with fail
    go_ret
    exact ⟨rfl, Below.refl _ _⟩
set_option maxHeartbeats 4000000 in
set_option maxRecDepth 100000 in
theorem eqFlag_calls (L L' : List Int) (w : World) (hl : L.length = 24) (hl' : L'.length = 24) : Calls Try.prog 46 #[.agg (vals .u8 L), .agg (vals .u8 L')] w fun e w' => e = .returned (.bool (decide (L = L'))) ∧ Below w.heap.size w w' := by
  have hm := Mem.start w
  go_enter Try.func46, Try.ntmps46
  go_wp2_with (first | fail | ((with_reducible refine gt_box 2 67 ?_); refine st_box rfl 2 rfl 67 _ rfl hm (v := .agg (vals _ _)) rfl (cs := vals _ _) rfl ?_; clear hm; intro g2 w2 hm) | ((with_reducible refine gt_box 3 67 ?_); refine st_box rfl 3 rfl 67 _ rfl hm (v := .agg (vals _ _)) rfl (cs := vals _ _) rfl ?_; clear hm; intro g3 w3 hm) | ((with_reducible refine gt_elem 67 ?_); refine st_elem rfl 67 _ _ rfl rfl rfl arr67 (by first | omega | assumption | (simp only [lens]; first | omega | assumption) | (simp [lens]; done) | (simp [lens]; omega)) (by first | omega | assumption | (simp only [lens]; first | omega | assumption) | (simp [lens]; done) | (simp [lens]; omega)) ?_) | ((with_reducible refine gt_load 5 ?_); (first | (refine st_get rfl 5 _ rfl hm rfl 0 rfl one5 (by first | omega | assumption | (simp only [lens]; first | omega | assumption) | (simp [lens]; done) | (simp [lens]; omega)) ?_) | (refine st_get rfl 5 _ rfl hm rfl 1 rfl one5 (by first | omega | assumption | (simp only [lens]; first | omega | assumption) | (simp [lens]; done) | (simp [lens]; omega)) ?_) | (refine st_get rfl 5 _ rfl hm rfl 2 rfl one5 (by first | omega | assumption | (simp only [lens]; first | omega | assumption) | (simp [lens]; done) | (simp [lens]; omega)) ?_) | (refine st_get rfl 5 _ rfl hm rfl 3 rfl one5 (by first | omega | assumption | (simp only [lens]; first | omega | assumption) | (simp [lens]; done) | (simp [lens]; omega)) ?_))))
  go_loopw [5] (fun v5 wr => ∃ i : Nat, i ≤ 24 ∧ v5 = .int .i64 i ∧ Aside0 (∀ j : Nat, j < i → rd L (j : Int) = rd L' (j : Int)) ∧ Mem w wr [⟨g3, vals .u8 L', 67, true⟩, ⟨g2, vals .u8 L, 67, true⟩]) (fun v5 _ => 24 - (intOf v5).toNat)
  case atStart => exact ⟨0, by omega, rfl, ⟨fun j hj => absurd hj (by omega)⟩, hm⟩
  case round =>
    obtain ⟨i, hi, rfl, HJ, hm⟩ := hrel
    by_cases hlt : i < 24
    · have hc1 := hm.get (n := 1) rfl i (by omega)
      have hc2 := hm.get (n := 0) rfl i (by omega)
      have HM := Aside0.mk hm
      clear hm
      generalize hx : rd L (i : Int) = x at *
      generalize hy : rd L' (i : Int) = y at *
      have HX := Aside0.mk hx
      have HY := Aside0.mk hy
      clear hx hy
      by_cases hxy : x = y
      · subst hxy
        go_wp2
        repeat (go_quiet (fail); try go_wp2)
        go_roundw
        case rel => exact ⟨i + 1, by omega, by go_num, ⟨fun j hj => by
          rcases Nat.lt_or_ge j i with h | h
          · exact HJ.out j h
          · obtain rfl : j = i := by omega
            rw [HX.out, HY.out]⟩, HM.out.drawn _⟩
        case measure => simp [intOf]; omega
      · have hd := Aside0.mk (show (x != y) = true by simpa using hxy)
        go_wp2
        go_quiet (fail)
        rw [hd.out]
        go_wp2
        go_ret
        refine ⟨?_, (HM.out.drawn _).done rfl⟩
        rw [decide_eq_false (p := L = L') (fun e => hxy (by rw [← HX.out, ← HY.out, e]))]; rfl
    · have HI := Aside0.mk (show i = 24 by omega)
      go_wp2_with (first | fail | ((with_reducible refine gt_box 2 67 ?_); refine st_box rfl 2 rfl 67 _ rfl hm (v := .agg (vals _ _)) rfl (cs := vals _ _) rfl ?_; clear hm; intro g2 w2 hm) | ((with_reducible refine gt_box 3 67 ?_); refine st_box rfl 3 rfl 67 _ rfl hm (v := .agg (vals _ _)) rfl (cs := vals _ _) rfl ?_; clear hm; intro g3 w3 hm) | ((with_reducible refine gt_elem 67 ?_); refine st_elem rfl 67 _ _ rfl rfl rfl arr67 (by first | omega | assumption | (simp only [lens]; first | omega | assumption) | (simp [lens]; done) | (simp [lens]; omega)) (by first | omega | assumption | (simp only [lens]; first | omega | assumption) | (simp [lens]; done) | (simp [lens]; omega)) ?_) | ((with_reducible refine gt_load 5 ?_); (first | (refine st_get rfl 5 _ rfl hm rfl 0 rfl one5 (by first | omega | assumption | (simp only [lens]; first | omega | assumption) | (simp [lens]; done) | (simp [lens]; omega)) ?_) | (refine st_get rfl 5 _ rfl hm rfl 1 rfl one5 (by first | omega | assumption | (simp only [lens]; first | omega | assumption) | (simp [lens]; done) | (simp [lens]; omega)) ?_) | (refine st_get rfl 5 _ rfl hm rfl 2 rfl one5 (by first | omega | assumption | (simp only [lens]; first | omega | assumption) | (simp [lens]; done) | (simp [lens]; omega)) ?_) | (refine st_get rfl 5 _ rfl hm rfl 3 rfl one5 (by first | omega | assumption | (simp only [lens]; first | omega | assumption) | (simp [lens]; done) | (simp [lens]; omega)) ?_))))
      go_ret
      refine ⟨?_, hm.done rfl⟩
      rw [decide_eq_true (p := L = L') (list_eq hl hl' (fun j hj => HJ.out j (by rw [HI.out]; exact hj)))]; rfl
set_option maxHeartbeats 4000000 in
set_option maxRecDepth 100000 in
theorem toFlag_calls (L : List Int) (w : World) (hl : L.length = 24) : Calls Try.prog 41 #[.agg (vals .u8 L)] w fun e w' => e = .returned (.agg (vals .u8 L)) ∧ Below w.heap.size w w' := by
  have hm := Mem.start w
  go_enter Try.func41, Try.ntmps41
  go_wp2_with (first | fail | ((with_reducible refine gt_box 1 66 ?_); refine st_box rfl 1 rfl 66 _ rfl hm (v := .agg (vals _ _)) rfl (cs := vals _ _) rfl ?_; clear hm; intro g1 w1 hm) | ((with_reducible refine gt_alloc 2 67 ?_); refine st_alloc rfl 2 rfl 67 rfl hm zero67 ?_; clear hm; intro g2 w2 hm) | ((with_reducible refine gt_alloc 3 67 ?_); refine st_alloc rfl 3 rfl 67 rfl hm zero67 ?_; clear hm; intro g3 w3 hm) | ((with_reducible refine gt_elem 66 ?_); refine st_elem rfl 66 _ _ rfl rfl rfl arr66 (by first | omega | assumption | (simp only [lens]; first | omega | assumption) | (simp [lens]; done) | (simp [lens]; omega)) (by first | omega | assumption | (simp only [lens]; first | omega | assumption) | (simp [lens]; done) | (simp [lens]; omega)) ?_) | ((with_reducible refine gt_load 5 ?_); (first | (refine st_get rfl 5 _ rfl hm rfl 0 rfl one5 (by first | omega | assumption | (simp only [lens]; first | omega | assumption) | (simp [lens]; done) | (simp [lens]; omega)) ?_) | (refine st_get rfl 5 _ rfl hm rfl 1 rfl one5 (by first | omega | assumption | (simp only [lens]; first | omega | assumption) | (simp [lens]; done) | (simp [lens]; omega)) ?_) | (refine st_get rfl 5 _ rfl hm rfl 2 rfl one5 (by first | omega | assumption | (simp only [lens]; first | omega | assumption) | (simp [lens]; done) | (simp [lens]; omega)) ?_) | (refine st_get rfl 5 _ rfl hm rfl 3 rfl one5 (by first | omega | assumption | (simp only [lens]; first | omega | assumption) | (simp [lens]; done) | (simp [lens]; omega)) ?_) | (refine st_get rfl 5 _ rfl hm rfl 4 rfl one5 (by first | omega | assumption | (simp only [lens]; first | omega | assumption) | (simp [lens]; done) | (simp [lens]; omega)) ?_))) | ((with_reducible refine gt_elem 67 ?_); refine st_elem rfl 67 _ _ rfl rfl rfl arr67 (by first | omega | assumption | (simp only [lens]; first | omega | assumption) | (simp [lens]; done) | (simp [lens]; omega)) (by first | omega | assumption | (simp only [lens]; first | omega | assumption) | (simp [lens]; done) | (simp [lens]; omega)) ?_) | ((with_reducible refine gt_store 5 ?_); (first | (refine st_set rfl 5 _ _ rfl hm rfl rfl 0 rfl one5 (by first | omega | assumption | (simp only [lens]; first | omega | assumption) | (simp [lens]; done) | (simp [lens]; omega)) ?_) | (refine st_set rfl 5 _ _ rfl hm rfl rfl 1 rfl one5 (by first | omega | assumption | (simp only [lens]; first | omega | assumption) | (simp [lens]; done) | (simp [lens]; omega)) ?_) | (refine st_set rfl 5 _ _ rfl hm rfl rfl 2 rfl one5 (by first | omega | assumption | (simp only [lens]; first | omega | assumption) | (simp [lens]; done) | (simp [lens]; omega)) ?_) | (refine st_set rfl 5 _ _ rfl hm rfl rfl 3 rfl one5 (by first | omega | assumption | (simp only [lens]; first | omega | assumption) | (simp [lens]; done) | (simp [lens]; omega)) ?_) | (refine st_set rfl 5 _ _ rfl hm rfl rfl 4 rfl one5 (by first | omega | assumption | (simp only [lens]; first | omega | assumption) | (simp [lens]; done) | (simp [lens]; omega)) ?_)); clear hm; intro ws hm; simp only [List.set_cons_zero, List.set_cons_succ] at hm) | ((with_reducible refine gt_load 67 ?_); (first | (refine st_load rfl 67 _ rfl hm rfl 0 rfl agg67 (by first | omega | assumption | (simp only [lens]; first | omega | assumption) | (simp [lens]; done) | (simp [lens]; omega)) ?_) | (refine st_load rfl 67 _ rfl hm rfl 1 rfl agg67 (by first | omega | assumption | (simp only [lens]; first | omega | assumption) | (simp [lens]; done) | (simp [lens]; omega)) ?_) | (refine st_load rfl 67 _ rfl hm rfl 2 rfl agg67 (by first | omega | assumption | (simp only [lens]; first | omega | assumption) | (simp [lens]; done) | (simp [lens]; omega)) ?_) | (refine st_load rfl 67 _ rfl hm rfl 3 rfl agg67 (by first | omega | assumption | (simp only [lens]; first | omega | assumption) | (simp [lens]; done) | (simp [lens]; omega)) ?_) | (refine st_load rfl 67 _ rfl hm rfl 4 rfl agg67 (by first | omega | assumption | (simp only [lens]; first | omega | assumption) | (simp [lens]; done) | (simp [lens]; omega)) ?_) | (refine st_part rfl 67 _ rfl hm rfl 0 rfl agg67 (by first | omega | assumption | (simp only [lens]; first | omega | assumption) | (simp [lens]; done) | (simp [lens]; omega)) ?_) | (refine st_part rfl 67 _ rfl hm rfl 1 rfl agg67 (by first | omega | assumption | (simp only [lens]; first | omega | assumption) | (simp [lens]; done) | (simp [lens]; omega)) ?_) | (refine st_part rfl 67 _ rfl hm rfl 2 rfl agg67 (by first | omega | assumption | (simp only [lens]; first | omega | assumption) | (simp [lens]; done) | (simp [lens]; omega)) ?_) | (refine st_part rfl 67 _ rfl hm rfl 3 rfl agg67 (by first | omega | assumption | (simp only [lens]; first | omega | assumption) | (simp [lens]; done) | (simp [lens]; omega)) ?_) | (refine st_part rfl 67 _ rfl hm rfl 4 rfl agg67 (by first | omega | assumption | (simp only [lens]; first | omega | assumption) | (simp [lens]; done) | (simp [lens]; omega)) ?_))) | ((with_reducible refine gt_store 67 ?_); (first | (refine st_full rfl 67 _ _ rfl hm rfl rfl 0 rfl agg67 (by first | omega | assumption | (simp only [lens]; first | omega | assumption) | (simp [lens]; done) | (simp [lens]; omega)) (by first | omega | assumption | (simp only [lens]; first | omega | assumption) | (simp [lens]; done) | (simp [lens]; omega)) ?_) | (refine st_full rfl 67 _ _ rfl hm rfl rfl 1 rfl agg67 (by first | omega | assumption | (simp only [lens]; first | omega | assumption) | (simp [lens]; done) | (simp [lens]; omega)) (by first | omega | assumption | (simp only [lens]; first | omega | assumption) | (simp [lens]; done) | (simp [lens]; omega)) ?_) | (refine st_full rfl 67 _ _ rfl hm rfl rfl 2 rfl agg67 (by first | omega | assumption | (simp only [lens]; first | omega | assumption) | (simp [lens]; done) | (simp [lens]; omega)) (by first | omega | assumption | (simp only [lens]; first | omega | assumption) | (simp [lens]; done) | (simp [lens]; omega)) ?_) | (refine st_full rfl 67 _ _ rfl hm rfl rfl 3 rfl agg67 (by first | omega | assumption | (simp only [lens]; first | omega | assumption) | (simp [lens]; done) | (simp [lens]; omega)) (by first | omega | assumption | (simp only [lens]; first | omega | assumption) | (simp [lens]; done) | (simp [lens]; omega)) ?_) | (refine st_full rfl 67 _ _ rfl hm rfl rfl 4 rfl agg67 (by first | omega | assumption | (simp only [lens]; first | omega | assumption) | (simp [lens]; done) | (simp [lens]; omega)) (by first | omega | assumption | (simp only [lens]; first | omega | assumption) | (simp [lens]; done) | (simp [lens]; omega)) ?_) | (refine st_put rfl 67 _ _ rfl hm rfl rfl 0 rfl agg67 (by first | omega | assumption | (simp only [lens]; first | omega | assumption) | (simp [lens]; done) | (simp [lens]; omega)) (by first | omega | assumption | (simp only [lens]; first | omega | assumption) | (simp [lens]; done) | (simp [lens]; omega)) ?_) | (refine st_put rfl 67 _ _ rfl hm rfl rfl 1 rfl agg67 (by first | omega | assumption | (simp only [lens]; first | omega | assumption) | (simp [lens]; done) | (simp [lens]; omega)) (by first | omega | assumption | (simp only [lens]; first | omega | assumption) | (simp [lens]; done) | (simp [lens]; omega)) ?_) | (refine st_put rfl 67 _ _ rfl hm rfl rfl 2 rfl agg67 (by first | omega | assumption | (simp only [lens]; first | omega | assumption) | (simp [lens]; done) | (simp [lens]; omega)) (by first | omega | assumption | (simp only [lens]; first | omega | assumption) | (simp [lens]; done) | (simp [lens]; omega)) ?_) | (refine st_put rfl 67 _ _ rfl hm rfl rfl 3 rfl agg67 (by first | omega | assumption | (simp only [lens]; first | omega | assumption) | (simp [lens]; done) | (simp [lens]; omega)) (by first | omega | assumption | (simp only [lens]; first | omega | assumption) | (simp [lens]; done) | (simp [lens]; omega)) ?_) | (refine st_put rfl 67 _ _ rfl hm rfl rfl 4 rfl agg67 (by first | omega | assumption | (simp only [lens]; first | omega | assumption) | (simp [lens]; done) | (simp [lens]; omega)) (by first | omega | assumption | (simp only [lens]; first | omega | assumption) | (simp [lens]; done) | (simp [lens]; omega)) ?_)); clear hm; intro ws hm; simp only [List.set_cons_zero, List.set_cons_succ] at hm))
  go_loopw [4] (fun v4 wr => ∃ i : Nat, i ≤ 24 ∧ v4 = .int .i64 i ∧ Mem w wr [⟨g3, vals .u8 (mixTo (zs 24) L 0 i), 67, true⟩, ⟨g2, vals .u8 (zs 24), 67, true⟩, ⟨g1, vals .u8 L, 66, true⟩]) (fun v4 _ => 24 - (intOf v4).toNat)
  case atStart => exact ⟨0, by omega, rfl, by rw [mixTo_zero]; exact hm⟩
  case round =>
    obtain ⟨i, hi, rfl, hm⟩ := hrel
    have hl2 := mixTo_length (zs 24) L 0 i (by rw [zs_length]; omega) (by omega)
    rw [zs_length] at hl2
    by_cases hlt : i < 24
    · go_wp2_with (first | fail | ((with_reducible refine gt_box 1 66 ?_); refine st_box rfl 1 rfl 66 _ rfl hm (v := .agg (vals _ _)) rfl (cs := vals _ _) rfl ?_; clear hm; intro g1 w1 hm) | ((with_reducible refine gt_alloc 2 67 ?_); refine st_alloc rfl 2 rfl 67 rfl hm zero67 ?_; clear hm; intro g2 w2 hm) | ((with_reducible refine gt_alloc 3 67 ?_); refine st_alloc rfl 3 rfl 67 rfl hm zero67 ?_; clear hm; intro g3 w3 hm) | ((with_reducible refine gt_elem 66 ?_); refine st_elem rfl 66 _ _ rfl rfl rfl arr66 (by first | omega | assumption | (simp only [lens]; first | omega | assumption) | (simp [lens]; done) | (simp [lens]; omega)) (by first | omega | assumption | (simp only [lens]; first | omega | assumption) | (simp [lens]; done) | (simp [lens]; omega)) ?_) | ((with_reducible refine gt_load 5 ?_); (first | (refine st_get rfl 5 _ rfl hm rfl 0 rfl one5 (by first | omega | assumption | (simp only [lens]; first | omega | assumption) | (simp [lens]; done) | (simp [lens]; omega)) ?_) | (refine st_get rfl 5 _ rfl hm rfl 1 rfl one5 (by first | omega | assumption | (simp only [lens]; first | omega | assumption) | (simp [lens]; done) | (simp [lens]; omega)) ?_) | (refine st_get rfl 5 _ rfl hm rfl 2 rfl one5 (by first | omega | assumption | (simp only [lens]; first | omega | assumption) | (simp [lens]; done) | (simp [lens]; omega)) ?_) | (refine st_get rfl 5 _ rfl hm rfl 3 rfl one5 (by first | omega | assumption | (simp only [lens]; first | omega | assumption) | (simp [lens]; done) | (simp [lens]; omega)) ?_) | (refine st_get rfl 5 _ rfl hm rfl 4 rfl one5 (by first | omega | assumption | (simp only [lens]; first | omega | assumption) | (simp [lens]; done) | (simp [lens]; omega)) ?_))) | ((with_reducible refine gt_elem 67 ?_); refine st_elem rfl 67 _ _ rfl rfl rfl arr67 (by first | omega | assumption | (simp only [lens]; first | omega | assumption) | (simp [lens]; done) | (simp [lens]; omega)) (by first | omega | assumption | (simp only [lens]; first | omega | assumption) | (simp [lens]; done) | (simp [lens]; omega)) ?_) | ((with_reducible refine gt_store 5 ?_); (first | (refine st_set rfl 5 _ _ rfl hm rfl rfl 0 rfl one5 (by first | omega | assumption | (simp only [lens]; first | omega | assumption) | (simp [lens]; done) | (simp [lens]; omega)) ?_) | (refine st_set rfl 5 _ _ rfl hm rfl rfl 1 rfl one5 (by first | omega | assumption | (simp only [lens]; first | omega | assumption) | (simp [lens]; done) | (simp [lens]; omega)) ?_) | (refine st_set rfl 5 _ _ rfl hm rfl rfl 2 rfl one5 (by first | omega | assumption | (simp only [lens]; first | omega | assumption) | (simp [lens]; done) | (simp [lens]; omega)) ?_) | (refine st_set rfl 5 _ _ rfl hm rfl rfl 3 rfl one5 (by first | omega | assumption | (simp only [lens]; first | omega | assumption) | (simp [lens]; done) | (simp [lens]; omega)) ?_) | (refine st_set rfl 5 _ _ rfl hm rfl rfl 4 rfl one5 (by first | omega | assumption | (simp only [lens]; first | omega | assumption) | (simp [lens]; done) | (simp [lens]; omega)) ?_)); clear hm; intro ws hm; simp only [List.set_cons_zero, List.set_cons_succ] at hm) | ((with_reducible refine gt_load 67 ?_); (first | (refine st_load rfl 67 _ rfl hm rfl 0 rfl agg67 (by first | omega | assumption | (simp only [lens]; first | omega | assumption) | (simp [lens]; done) | (simp [lens]; omega)) ?_) | (refine st_load rfl 67 _ rfl hm rfl 1 rfl agg67 (by first | omega | assumption | (simp only [lens]; first | omega | assumption) | (simp [lens]; done) | (simp [lens]; omega)) ?_) | (refine st_load rfl 67 _ rfl hm rfl 2 rfl agg67 (by first | omega | assumption | (simp only [lens]; first | omega | assumption) | (simp [lens]; done) | (simp [lens]; omega)) ?_) | (refine st_load rfl 67 _ rfl hm rfl 3 rfl agg67 (by first | omega | assumption | (simp only [lens]; first | omega | assumption) | (simp [lens]; done) | (simp [lens]; omega)) ?_) | (refine st_load rfl 67 _ rfl hm rfl 4 rfl agg67 (by first | omega | assumption | (simp only [lens]; first | omega | assumption) | (simp [lens]; done) | (simp [lens]; omega)) ?_) | (refine st_part rfl 67 _ rfl hm rfl 0 rfl agg67 (by first | omega | assumption | (simp only [lens]; first | omega | assumption) | (simp [lens]; done) | (simp [lens]; omega)) ?_) | (refine st_part rfl 67 _ rfl hm rfl 1 rfl agg67 (by first | omega | assumption | (simp only [lens]; first | omega | assumption) | (simp [lens]; done) | (simp [lens]; omega)) ?_) | (refine st_part rfl 67 _ rfl hm rfl 2 rfl agg67 (by first | omega | assumption | (simp only [lens]; first | omega | assumption) | (simp [lens]; done) | (simp [lens]; omega)) ?_) | (refine st_part rfl 67 _ rfl hm rfl 3 rfl agg67 (by first | omega | assumption | (simp only [lens]; first | omega | assumption) | (simp [lens]; done) | (simp [lens]; omega)) ?_) | (refine st_part rfl 67 _ rfl hm rfl 4 rfl agg67 (by first | omega | assumption | (simp only [lens]; first | omega | assumption) | (simp [lens]; done) | (simp [lens]; omega)) ?_))) | ((with_reducible refine gt_store 67 ?_); (first | (refine st_full rfl 67 _ _ rfl hm rfl rfl 0 rfl agg67 (by first | omega | assumption | (simp only [lens]; first | omega | assumption) | (simp [lens]; done) | (simp [lens]; omega)) (by first | omega | assumption | (simp only [lens]; first | omega | assumption) | (simp [lens]; done) | (simp [lens]; omega)) ?_) | (refine st_full rfl 67 _ _ rfl hm rfl rfl 1 rfl agg67 (by first | omega | assumption | (simp only [lens]; first | omega | assumption) | (simp [lens]; done) | (simp [lens]; omega)) (by first | omega | assumption | (simp only [lens]; first | omega | assumption) | (simp [lens]; done) | (simp [lens]; omega)) ?_) | (refine st_full rfl 67 _ _ rfl hm rfl rfl 2 rfl agg67 (by first | omega | assumption | (simp only [lens]; first | omega | assumption) | (simp [lens]; done) | (simp [lens]; omega)) (by first | omega | assumption | (simp only [lens]; first | omega | assumption) | (simp [lens]; done) | (simp [lens]; omega)) ?_) | (refine st_full rfl 67 _ _ rfl hm rfl rfl 3 rfl agg67 (by first | omega | assumption | (simp only [lens]; first | omega | assumption) | (simp [lens]; done) | (simp [lens]; omega)) (by first | omega | assumption | (simp only [lens]; first | omega | assumption) | (simp [lens]; done) | (simp [lens]; omega)) ?_) | (refine st_full rfl 67 _ _ rfl hm rfl rfl 4 rfl agg67 (by first | omega | assumption | (simp only [lens]; first | omega | assumption) | (simp [lens]; done) | (simp [lens]; omega)) (by first | omega | assumption | (simp only [lens]; first | omega | assumption) | (simp [lens]; done) | (simp [lens]; omega)) ?_) | (refine st_put rfl 67 _ _ rfl hm rfl rfl 0 rfl agg67 (by first | omega | assumption | (simp only [lens]; first | omega | assumption) | (simp [lens]; done) | (simp [lens]; omega)) (by first | omega | assumption | (simp only [lens]; first | omega | assumption) | (simp [lens]; done) | (simp [lens]; omega)) ?_) | (refine st_put rfl 67 _ _ rfl hm rfl rfl 1 rfl agg67 (by first | omega | assumption | (simp only [lens]; first | omega | assumption) | (simp [lens]; done) | (simp [lens]; omega)) (by first | omega | assumption | (simp only [lens]; first | omega | assumption) | (simp [lens]; done) | (simp [lens]; omega)) ?_) | (refine st_put rfl 67 _ _ rfl hm rfl rfl 2 rfl agg67 (by first | omega | assumption | (simp only [lens]; first | omega | assumption) | (simp [lens]; done) | (simp [lens]; omega)) (by first | omega | assumption | (simp only [lens]; first | omega | assumption) | (simp [lens]; done) | (simp [lens]; omega)) ?_) | (refine st_put rfl 67 _ _ rfl hm rfl rfl 3 rfl agg67 (by first | omega | assumption | (simp only [lens]; first | omega | assumption) | (simp [lens]; done) | (simp [lens]; omega)) (by first | omega | assumption | (simp only [lens]; first | omega | assumption) | (simp [lens]; done) | (simp [lens]; omega)) ?_) | (refine st_put rfl 67 _ _ rfl hm rfl rfl 4 rfl agg67 (by first | omega | assumption | (simp only [lens]; first | omega | assumption) | (simp [lens]; done) | (simp [lens]; omega)) (by first | omega | assumption | (simp only [lens]; first | omega | assumption) | (simp [lens]; done) | (simp [lens]; omega)) ?_)); clear hm; intro ws hm; simp only [List.set_cons_zero, List.set_cons_succ] at hm))
      go_roundw
      case rel =>
        refine ⟨i + 1, by omega, by go_num, ?_⟩
        rw [← mixTo_succ (zs 24) L 0 i (by rw [zs_length]; omega) (by omega)]
        simpa using hm
      case measure => simp [intOf]; omega
    · have HI := Aside0.mk (show mixTo (zs 24) L 0 i = L by
        have : i = 24 := by omega
        subst this
        unfold mixTo
        rw [List.take_zero, List.nil_append, List.take_of_length_le (by omega), List.drop_of_length_le (by rw [zs_length]; omega), List.append_nil])
      go_wp2_with (first | fail | ((with_reducible refine gt_box 1 66 ?_); refine st_box rfl 1 rfl 66 _ rfl hm (v := .agg (vals _ _)) rfl (cs := vals _ _) rfl ?_; clear hm; intro g1 w1 hm) | ((with_reducible refine gt_alloc 2 67 ?_); refine st_alloc rfl 2 rfl 67 rfl hm zero67 ?_; clear hm; intro g2 w2 hm) | ((with_reducible refine gt_alloc 3 67 ?_); refine st_alloc rfl 3 rfl 67 rfl hm zero67 ?_; clear hm; intro g3 w3 hm) | ((with_reducible refine gt_elem 66 ?_); refine st_elem rfl 66 _ _ rfl rfl rfl arr66 (by first | omega | assumption | (simp only [lens]; first | omega | assumption) | (simp [lens]; done) | (simp [lens]; omega)) (by first | omega | assumption | (simp only [lens]; first | omega | assumption) | (simp [lens]; done) | (simp [lens]; omega)) ?_) | ((with_reducible refine gt_load 5 ?_); (first | (refine st_get rfl 5 _ rfl hm rfl 0 rfl one5 (by first | omega | assumption | (simp only [lens]; first | omega | assumption) | (simp [lens]; done) | (simp [lens]; omega)) ?_) | (refine st_get rfl 5 _ rfl hm rfl 1 rfl one5 (by first | omega | assumption | (simp only [lens]; first | omega | assumption) | (simp [lens]; done) | (simp [lens]; omega)) ?_) | (refine st_get rfl 5 _ rfl hm rfl 2 rfl one5 (by first | omega | assumption | (simp only [lens]; first | omega | assumption) | (simp [lens]; done) | (simp [lens]; omega)) ?_) | (refine st_get rfl 5 _ rfl hm rfl 3 rfl one5 (by first | omega | assumption | (simp only [lens]; first | omega | assumption) | (simp [lens]; done) | (simp [lens]; omega)) ?_) | (refine st_get rfl 5 _ rfl hm rfl 4 rfl one5 (by first | omega | assumption | (simp only [lens]; first | omega | assumption) | (simp [lens]; done) | (simp [lens]; omega)) ?_))) | ((with_reducible refine gt_elem 67 ?_); refine st_elem rfl 67 _ _ rfl rfl rfl arr67 (by first | omega | assumption | (simp only [lens]; first | omega | assumption) | (simp [lens]; done) | (simp [lens]; omega)) (by first | omega | assumption | (simp only [lens]; first | omega | assumption) | (simp [lens]; done) | (simp [lens]; omega)) ?_) | ((with_reducible refine gt_store 5 ?_); (first | (refine st_set rfl 5 _ _ rfl hm rfl rfl 0 rfl one5 (by first | omega | assumption | (simp only [lens]; first | omega | assumption) | (simp [lens]; done) | (simp [lens]; omega)) ?_) | (refine st_set rfl 5 _ _ rfl hm rfl rfl 1 rfl one5 (by first | omega | assumption | (simp only [lens]; first | omega | assumption) | (simp [lens]; done) | (simp [lens]; omega)) ?_) | (refine st_set rfl 5 _ _ rfl hm rfl rfl 2 rfl one5 (by first | omega | assumption | (simp only [lens]; first | omega | assumption) | (simp [lens]; done) | (simp [lens]; omega)) ?_) | (refine st_set rfl 5 _ _ rfl hm rfl rfl 3 rfl one5 (by first | omega | assumption | (simp only [lens]; first | omega | assumption) | (simp [lens]; done) | (simp [lens]; omega)) ?_) | (refine st_set rfl 5 _ _ rfl hm rfl rfl 4 rfl one5 (by first | omega | assumption | (simp only [lens]; first | omega | assumption) | (simp [lens]; done) | (simp [lens]; omega)) ?_)); clear hm; intro ws hm; simp only [List.set_cons_zero, List.set_cons_succ] at hm) | ((with_reducible refine gt_load 67 ?_); (first | (refine st_load rfl 67 _ rfl hm rfl 0 rfl agg67 (by first | omega | assumption | (simp only [lens]; first | omega | assumption) | (simp [lens]; done) | (simp [lens]; omega)) ?_) | (refine st_load rfl 67 _ rfl hm rfl 1 rfl agg67 (by first | omega | assumption | (simp only [lens]; first | omega | assumption) | (simp [lens]; done) | (simp [lens]; omega)) ?_) | (refine st_load rfl 67 _ rfl hm rfl 2 rfl agg67 (by first | omega | assumption | (simp only [lens]; first | omega | assumption) | (simp [lens]; done) | (simp [lens]; omega)) ?_) | (refine st_load rfl 67 _ rfl hm rfl 3 rfl agg67 (by first | omega | assumption | (simp only [lens]; first | omega | assumption) | (simp [lens]; done) | (simp [lens]; omega)) ?_) | (refine st_load rfl 67 _ rfl hm rfl 4 rfl agg67 (by first | omega | assumption | (simp only [lens]; first | omega | assumption) | (simp [lens]; done) | (simp [lens]; omega)) ?_) | (refine st_part rfl 67 _ rfl hm rfl 0 rfl agg67 (by first | omega | assumption | (simp only [lens]; first | omega | assumption) | (simp [lens]; done) | (simp [lens]; omega)) ?_) | (refine st_part rfl 67 _ rfl hm rfl 1 rfl agg67 (by first | omega | assumption | (simp only [lens]; first | omega | assumption) | (simp [lens]; done) | (simp [lens]; omega)) ?_) | (refine st_part rfl 67 _ rfl hm rfl 2 rfl agg67 (by first | omega | assumption | (simp only [lens]; first | omega | assumption) | (simp [lens]; done) | (simp [lens]; omega)) ?_) | (refine st_part rfl 67 _ rfl hm rfl 3 rfl agg67 (by first | omega | assumption | (simp only [lens]; first | omega | assumption) | (simp [lens]; done) | (simp [lens]; omega)) ?_) | (refine st_part rfl 67 _ rfl hm rfl 4 rfl agg67 (by first | omega | assumption | (simp only [lens]; first | omega | assumption) | (simp [lens]; done) | (simp [lens]; omega)) ?_))) | ((with_reducible refine gt_store 67 ?_); (first | (refine st_full rfl 67 _ _ rfl hm rfl rfl 0 rfl agg67 (by first | omega | assumption | (simp only [lens]; first | omega | assumption) | (simp [lens]; done) | (simp [lens]; omega)) (by first | omega | assumption | (simp only [lens]; first | omega | assumption) | (simp [lens]; done) | (simp [lens]; omega)) ?_) | (refine st_full rfl 67 _ _ rfl hm rfl rfl 1 rfl agg67 (by first | omega | assumption | (simp only [lens]; first | omega | assumption) | (simp [lens]; done) | (simp [lens]; omega)) (by first | omega | assumption | (simp only [lens]; first | omega | assumption) | (simp [lens]; done) | (simp [lens]; omega)) ?_) | (refine st_full rfl 67 _ _ rfl hm rfl rfl 2 rfl agg67 (by first | omega | assumption | (simp only [lens]; first | omega | assumption) | (simp [lens]; done) | (simp [lens]; omega)) (by first | omega | assumption | (simp only [lens]; first | omega | assumption) | (simp [lens]; done) | (simp [lens]; omega)) ?_) | (refine st_full rfl 67 _ _ rfl hm rfl rfl 3 rfl agg67 (by first | omega | assumption | (simp only [lens]; first | omega | assumption) | (simp [lens]; done) | (simp [lens]; omega)) (by first | omega | assumption | (simp only [lens]; first | omega | assumption) | (simp [lens]; done) | (simp [lens]; omega)) ?_) | (refine st_full rfl 67 _ _ rfl hm rfl rfl 4 rfl agg67 (by first | omega | assumption | (simp only [lens]; first | omega | assumption) | (simp [lens]; done) | (simp [lens]; omega)) (by first | omega | assumption | (simp only [lens]; first | omega | assumption) | (simp [lens]; done) | (simp [lens]; omega)) ?_) | (refine st_put rfl 67 _ _ rfl hm rfl rfl 0 rfl agg67 (by first | omega | assumption | (simp only [lens]; first | omega | assumption) | (simp [lens]; done) | (simp [lens]; omega)) (by first | omega | assumption | (simp only [lens]; first | omega | assumption) | (simp [lens]; done) | (simp [lens]; omega)) ?_) | (refine st_put rfl 67 _ _ rfl hm rfl rfl 1 rfl agg67 (by first | omega | assumption | (simp only [lens]; first | omega | assumption) | (simp [lens]; done) | (simp [lens]; omega)) (by first | omega | assumption | (simp only [lens]; first | omega | assumption) | (simp [lens]; done) | (simp [lens]; omega)) ?_) | (refine st_put rfl 67 _ _ rfl hm rfl rfl 2 rfl agg67 (by first | omega | assumption | (simp only [lens]; first | omega | assumption) | (simp [lens]; done) | (simp [lens]; omega)) (by first | omega | assumption | (simp only [lens]; first | omega | assumption) | (simp [lens]; done) | (simp [lens]; omega)) ?_) | (refine st_put rfl 67 _ _ rfl hm rfl rfl 3 rfl agg67 (by first | omega | assumption | (simp only [lens]; first | omega | assumption) | (simp [lens]; done) | (simp [lens]; omega)) (by first | omega | assumption | (simp only [lens]; first | omega | assumption) | (simp [lens]; done) | (simp [lens]; omega)) ?_) | (refine st_put rfl 67 _ _ rfl hm rfl rfl 4 rfl agg67 (by first | omega | assumption | (simp only [lens]; first | omega | assumption) | (simp [lens]; done) | (simp [lens]; omega)) (by first | omega | assumption | (simp only [lens]; first | omega | assumption) | (simp [lens]; done) | (simp [lens]; omega)) ?_)); clear hm; intro ws hm; simp only [List.set_cons_zero, List.set_cons_succ] at hm))
      ((try simp only [Exit.inBlock, Exit.then]); (first | (refine ret_cell hm rfl rfl 1 rfl agg67 (by first | omega | assumption | (simp only [lens]; first | omega | assumption) | (simp [lens]; done) | (simp [lens]; omega)) rfl ?_) | (refine ret_cell_tmp hm rfl rfl 1 rfl agg67 (by first | omega | assumption | (simp only [lens]; first | omega | assumption) | (simp [lens]; done) | (simp [lens]; omega)) rfl ?_)))
      exact ⟨by rw [HI.out], hm.done rfl⟩
set_option maxHeartbeats 4000000 in
set_option maxRecDepth 100000 in
theorem eqFlagS_calls (A : Option Addr) (c : Nat) (l : List (List Int)) (A2 : Option Addr) (c2 : Nat) (w : World) (hr : Kd.C (kA .u8 24) w A l.length l) (hr2 : Kd.C (kA .u8 24) w A2 l.length l) (hn : l.length ≤ 1048576) :
    Calls Try.prog 21 #[.slice A l.length c, .slice A2 l.length c2] w fun e w' => e = .returned (.bool true) ∧ Below w.heap.size w w' := by
  have HR := Aside0.mk hr
  have HR2 := Aside0.mk hr2
  clear hr hr2
  go_enter Try.func21, Try.ntmps21
  go_wp2_with fail
  go_loopw [5] (fun v5 wr => ∃ i : Nat, i ≤ l.length ∧ v5 = .int .i64 i ∧ Aside0 (Below w.heap.size w wr)) (fun v5 _ => l.length - (intOf v5).toNat)
  case atStart => exact ⟨0, by omega, rfl, ⟨Below.refl _ _⟩⟩
  case round =>
    obtain ⟨i, hi, rfl, HB⟩ := hrel
    by_cases hlt : i < l.length
    · obtain ⟨ad, rfl, hx24, hcell⟩ := at_A HR.out i hlt
      obtain ⟨ad2, rfl, _, hcell2⟩ := at_A HR2.out i hlt
      have HC := Aside0.mk (fun W (hW : Below w.heap.size w W) => cells_of (p := ad.add (i * 24)) (k := .u8) (x := ra l i) (by rw [hx24]; exact fun j hj => pw_cell_below hW (hcell j hj)))
      have HC2 := Aside0.mk (fun W (hW : Below w.heap.size w W) => cells_of (p := ad2.add (i * 24)) (k := .u8) (x := ra l i) (by rw [hx24]; exact fun j hj => pw_cell_below hW (hcell2 j hj)))
      have HX24 := Aside0.mk (show ((ra l i).map (Value.int .u8)).length = 24 by rw [List.length_map]; exact hx24)
      have HEQ := Aside0.mk (fun W => eqFlag_calls (ra l i) (ra l i) W hx24 hx24)
      rw [decide_eq_true (rfl : ra l i = ra l i)] at HEQ
      clear hcell hcell2 hx24
      go_wp2_with fail
      refine start_ (n := 10) (S := fun w' => Below w.heap.size w w') (ds := []) #[false, false, false, false, false, false, false, false, false, false] (by kernel_rfl) rfl rfl (below_drew1 HB.out) (fun hHeld => ?_)
      refine pure_ (i := 0) (N := some 17) (v := ?_) (a' := ?_) #[true, false, false, false, false, false, false, false, false, false] rfl rfl (by kernel_rfl) (fun _ _ _ h => h) (Or.inl ⟨by rfl, ?_⟩) ?_ ?_
      rotate_left
      · intro w'
        go_simp
        with_reducible rfl
      rotate_left
      · simp only [Act.put, List.setIfInBounds_toArray, List.set_cons_zero, List.set_cons_succ, i64_w, i32_w]
        rfl
      refine pure_ (i := 1) (N := some 18) (v := ?_) (a' := ?_) #[true, true, false, false, false, false, false, false, false, false] rfl rfl (by kernel_rfl) (fun _ _ _ h => h) (Or.inl ⟨by rfl, ?_⟩) ?_ ?_
      rotate_left
      · intro w'
        go_simp
        with_reducible rfl
      rotate_left
      · simp only [Act.put, List.setIfInBounds_toArray, List.set_cons_zero, List.set_cons_succ, i64_w, i32_w]
        rfl
      refine pure_ (i := 2) (N := some 19) (v := ?_) (a' := ?_) #[true, true, true, false, false, false, false, false, false, false] rfl rfl (by kernel_rfl) (fun _ _ _ h => h) (Or.inl ⟨by rfl, ?_⟩) ?_ ?_
      rotate_left
      · intro w'
        go_simp
        with_reducible rfl
      rotate_left
      · simp only [Act.put, List.setIfInBounds_toArray, List.set_cons_zero, List.set_cons_succ, i64_w, i32_w]
        rfl
      refine pure_ (i := 4) (N := some 21) (v := ?_) (a' := ?_) #[true, true, true, false, true, false, false, false, false, false] rfl rfl (by kernel_rfl) (fun _ _ _ h => h) (Or.inl ⟨by rfl, ?_⟩) ?_ ?_
      rotate_left
      · intro w'
        go_simp
        with_reducible rfl
      rotate_left
      · simp only [Act.put, List.setIfInBounds_toArray, List.set_cons_zero, List.set_cons_succ, i64_w, i32_w]
        rfl
      refine pure_ (i := 5) (N := some 22) (v := ?_) (a' := ?_) #[true, true, true, false, true, true, false, false, false, false] rfl rfl (by kernel_rfl) (fun _ _ _ h => h) (Or.inl ⟨by rfl, ?_⟩) ?_ ?_
      rotate_left
      · intro w'
        go_simp
        with_reducible rfl
      rotate_left
      · simp only [Act.put, List.setIfInBounds_toArray, List.set_cons_zero, List.set_cons_succ, i64_w, i32_w]
        rfl
      refine pure_ (i := 6) (N := some 23) (v := ?_) (a' := ?_) #[true, true, true, false, true, true, true, false, false, false] rfl rfl (by kernel_rfl) (fun _ _ _ h => h) (Or.inl ⟨by rfl, ?_⟩) ?_ ?_
      rotate_left
      · intro w'
        go_simp
        with_reducible rfl
      rotate_left
      · simp only [Act.put, List.setIfInBounds_toArray, List.set_cons_zero, List.set_cons_succ, i64_w, i32_w]
        rfl
      refine take_ (i := 3) (N := some 20) (v := .agg (vals .u8 (ra l i))) (a' := ?_) #[true, true, true, true, true, true, true, false, false, false] rfl rfl (by kernel_rfl) (fun _ _ _ h => h) (Or.inl ⟨by rfl, ?_⟩) hHeld ?_ ?_
      · intro w' s0
        exact y_loadA (by rfl) (p := ad.add (i * 24)) (by rfl) (HC.out _ s0) aggFlag HX24.out
      rotate_left
      · simp only [Act.put, List.setIfInBounds_toArray, List.set_cons_zero, List.set_cons_succ, i64_w, i32_w]
        rfl
      refine take_ (i := 7) (N := some 24) (v := .agg (vals .u8 (ra l i))) (a' := ?_) #[true, true, true, true, true, true, true, true, false, false] rfl rfl (by kernel_rfl) (fun _ _ _ h => h) (Or.inl ⟨by rfl, ?_⟩) hHeld ?_ ?_
      · intro w' s0
        exact y_loadA (by rfl) (p := ad2.add (i * 24)) (by rfl) (HC2.out _ s0) aggFlag HX24.out
      rotate_left
      · simp only [Act.put, List.setIfInBounds_toArray, List.set_cons_zero, List.set_cons_succ, i64_w, i32_w]
        rfl
      refine one_ (i := 8) (N := some 25) #[true, true, true, true, true, true, true, true, true, false] rfl rfl (by kernel_rfl) (by decide) (fun K hK => ?_)
      refine goes_ Try.func46 (by kernel_rfl) rfl #[.agg (vals .u8 (ra l i)), .agg (vals .u8 (ra l i))] (by rfl) rfl rfl (by simp only [List.map_toArray, List.map_cons, List.map_nil]; rfl) ?_
      refine (HEQ.out _).mono ?_
      rintro e w5 ⟨rfl, h5⟩
      refine ⟨_, rfl, ?_⟩
      refine hK.out _ _ (hHeld.trans (h5.mono hHeld.size)) (fun hHeld => ?_)
      clear hK K
      refine norm_ (a' := ?_) ?_ ?_
      rotate_left
      · show Act.put _ (some 25) _ = _
        simp only [Act.put, List.setIfInBounds_toArray, List.set_cons_zero, List.set_cons_succ, i64_w, i32_w]
        rfl
      refine pure_ (i := 9) (N := some 26) (v := ?_) (a' := ?_) #[true, true, true, true, true, true, true, true, true, true] rfl rfl (by kernel_rfl) (fun _ _ _ h => h) (Or.inl ⟨by rfl, ?_⟩) ?_ ?_
      rotate_left
      · intro w'
        go_simp
        with_reducible rfl
      rotate_left
      · simp only [Act.put, List.setIfInBounds_toArray, List.set_cons_zero, List.set_cons_succ, i64_w, i32_w]
        rfl
      refine done_ (by kernel_rfl) ?_
      skip
      have HB2 := Aside0.mk hHeld
      clear hHeld
      go_wp2_with fail
      go_roundw
      case rel => exact ⟨i + 1, by omega, by go_num, HB2⟩
      case measure => simp [intOf]; omega
    · obtain rfl : i = l.length := by omega
      go_wp2_with fail
      go_ret
      exact ⟨rfl, HB.out⟩
theorem infoFlag : (Try.prog.info? 67).map (fun i => (i.zero, i.size, i.bytes)) = some (some (.agg (vals .u8 (zs 24))), 24, 24) := by kernel_rfl
theorem aggRaw24 : AggTy Try.prog 66 24 := ⟨by kernel_rfl, by kernel_rfl⟩
set_option maxHeartbeats 4000000 in
set_option maxRecDepth 100000 in
theorem toFlagS_calls (A : Option Addr) (c : Nat) (l : List (List Int)) (w : World) (hr : Kd.C (kA .u8 24) w A l.length l) (hl24 : ∀ x ∈ l, x.length = 24) (hn : l.length ≤ 1048576) :
    Calls Try.prog 18 #[.slice A l.length c] w fun e w' => ∃ g, e = .returned (.slice (some ⟨g, 0, none⟩) l.length l.length) ∧ w'.heap[g]? = some (.cells (vals .u8 l.flatten) 67 (0, 0)) ∧ w.heap.size ≤ g ∧ Below w.heap.size w w' := by
  have hm := Mem.start w
  have HR := Aside0.mk hr
  have HL := Aside0.mk hl24
  clear hr hl24
  go_enter Try.func18, Try.ntmps18
  go_wp2_with ((with_reducible refine gt_make 36 ?_); refine st_make rfl 36 67 _ _ rfl (n := l.length) rfl rfl Try.underlying36 infoFlag (by omega) (by omega) (by omega) hm ?_; clear hm; intro g w1 hm)
  go_loopw [4] (fun v4 wr => ∃ i : Nat, i ≤ l.length ∧ v4 = .int .i64 i ∧ Aside0 (Mem w wr [⟨g, vals .u8 ((l.take i).flatten ++ zs ((l.length - i) * 24)), 67, true⟩])) (fun v4 _ => l.length - (intOf v4).toNat)
  case atStart => exact ⟨0, by omega, rfl, ⟨by simpa using hm⟩⟩
  case round =>
    clear hm
    obtain ⟨i, hi, rfl, HM⟩ := hrel
    by_cases hlt : i < l.length
    · have HB := Aside0.mk (HM.out.done rfl)
      obtain ⟨ad, rfl, hx24, hcell⟩ := at_A (Kd.C_below HR.out HB.out) i hlt
      have HC := Aside0.mk (cells_of (p := ad.add (i * 24)) (k := .u8) (x := ra l i) (by rw [hx24]; exact hcell))
      have HX24 := Aside0.mk hx24
      have HX7 := Aside0.mk (show ((ra l i).map (Value.int .u8)).length = 24 by rw [List.length_map]; exact hx24)
      have HT := Aside0.mk (toFlag_calls (ra l i) wr hx24)
      have HS := Aside0.mk (flat_step l HL.out i hlt)
      have HLN := Aside0.mk (show i * 24 + 24 ≤ ((l.take i).flatten ++ zs ((l.length - i) * 24)).length by
        rw [List.length_append, zs_length, flat_len (n := 24) _ (fun x hx => HL.out x (List.mem_of_mem_take hx)), List.length_take, Nat.min_eq_left (by omega)]
        omega)
      have hm := HM.out
      clear hcell hx24 HM
      go_wp2_with (first
        | ((with_reducible refine gt_load 66 ?_); refine Kd.event_run rfl (y_loadA (by rfl) (p := ad.add (i * 24)) (by rfl) HC.out aggRaw24 HX7.out) ?_)
        | (go_at_call 41; refine HT.out.mono ?_; rintro e w5 ⟨rfl, h5⟩; replace hm := hm.after h5; clear h5)
        | ((with_reducible refine gt_store 67 ?_); refine st_put rfl 67 _ _ rfl hm (g := g) (i := i * 24) (S := ra l i) rfl rfl 0 rfl aggFlag HX24.out HLN.out ?_; intro w6 hm6; have HM6 := Aside0.mk hm6; clear hm6))
      go_roundw
      case rel => exact ⟨i + 1, by omega, by go_num, ⟨by have := HM6.out; rw [HS.out] at this; exact this⟩⟩
      case measure => simp [intOf]; omega
    · obtain rfl : i = l.length := by omega
      have HG := HM.out.mem (n := 0) rfl
      rw [List.take_length, Nat.sub_self, Nat.zero_mul, show zs 0 = [] from rfl, List.append_nil] at HG
      have HG2 := Aside0.mk HG
      clear HG
      go_wp2_with fail
      go_ret
      exact ⟨g, rfl, HG2.out, HM.out.own_ge 0 rfl, HM.out.done rfl⟩
end Go.Proofs.Ytodgnbcfihifiaa.Arr
