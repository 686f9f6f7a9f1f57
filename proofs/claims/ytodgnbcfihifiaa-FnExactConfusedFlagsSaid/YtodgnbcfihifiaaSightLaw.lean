/- The law's own functions on sights: how they are copied and compared. Condition: no list too long. -/
import Derived.Test.YtodgnbcfihifiaaSightImpl2
import Derived.BigQuiet
namespace Go.Proofs.Ytodgnbcfihifiaa.Arr
open Go.RowKit Go.Proofs.YtodgnbcfihifiaaW.PrintWords Go.Proofs.YtodgnbcfihifiaaW.PrintLast Go.Proofs.YtodgnbcfihifiaaW.PrintMore Go.Proofs.Ytodgnbcfihifiaa.U
set_option linter.unusedVariables false
set_option linter.unusedSimpArgs false

def mixTo (L S : List Int) (off n : Nat) : List Int := L.take off ++ S.take n ++ L.drop (off + n)
theorem mixTo_zero (L S : List Int) (off : Nat) : mixTo L S off 0 = L := by simp [mixTo]
theorem mixTo_length (L S : List Int) (off n : Nat) (h : off + n ≤ L.length) (hn : n ≤ S.length) : (mixTo L S off n).length = L.length := by
  simp [mixTo]; omega
theorem mixTo_succ (L S : List Int) (off n : Nat) (h : off + n < L.length) (hn : n < S.length) : (mixTo L S off n).set (off + n) (rd S n) = mixTo L S off (n + 1) := by
  unfold mixTo
  rw [rd_get S n hn]
  apply List.ext_getElem?
  intro j
  simp only [List.getElem?_set, List.getElem?_append, List.length_append, List.length_take, List.getElem?_take, List.getElem?_drop, List.length_drop]
  repeat' split
  all_goals first | rfl | omega | (congr 1; omega) | (rw [← List.getElem?_eq_getElem hn]; congr 1; omega) | (rw [List.getElem?_eq_none (by omega)]; symm; apply List.getElem?_eq_none; omega)
theorem rd_map (f : Int → Int) (L : List Int) (i : Nat) (h : i < L.length) : rd (L.map f) (i : Int) = f (rd L (i : Int)) := by
  rw [rd_get L i h, rd_get _ i (by simpa using h)]; simp
theorem rd_take (L : List Int) (i n : Nat) (h : i < n) (hl : i < L.length) : rd (L.take n) (i : Int) = rd L (i : Int) := by
  rw [rd_get L i hl, rd_get _ i (by simp; omega)]; simp
theorem rd_drop (L : List Int) (i n : Nat) (hl : n + i < L.length) : rd (L.drop n) (i : Int) = rd L ((n + i : Nat) : Int) := by
  rw [rd_get L _ hl, rd_get _ i (by simp; omega)]; simp
theorem halves (L : List Int) (h : L.length = 44) : L = (L.drop 0).take 40 ++ (L.drop 40).take 4 := by
  rw [List.drop_zero, List.take_of_length_le (l := L.drop 40) (by simp [h]), List.take_append_drop]
theorem list_eq {L L' : List Int} {n : Nat} (h1 : L.length = n) (h2 : L'.length = n) (h : ∀ j : Nat, j < n → rd L (j : Int) = rd L' (j : Int)) : L = L' :=
  toList h1 h2 fun j hj => rd_opt (by omega) (by omega) (h j hj)

set_option maxHeartbeats 4000000 in
set_option maxRecDepth 100000 in
theorem szSightS_calls (A : Option Addr) (c n : Nat) (left : Int) (w : World) (hn : n ≤ 9223372036854775807) (hl : left ≤ 1048576 ∧ 0 ≤ left) :
    Calls Try.prog 6 #[.slice A n c, .int .i64 left] w fun e w' => e = .returned (.int .i64 (if left - n < 0 then -1 else left - n)) ∧ Below w.heap.size w w' := by
  have hw : wrap64 (left - (n : Int)) = left - n := w64 (by omega) (by omega)
  by_cases h : left - (n : Int) < 0
  · rw [if_pos h]
    go_enter Try.func6, Try.ntmps6
    go_wp2_with fail
    go_ret
    exact ⟨rfl, Below.refl _ _⟩
  · rw [if_neg h]
    go_enter Try.func6, Try.ntmps6
    go_wp2_with fail
    go_ret
    exact ⟨rfl, Below.refl _ _⟩
set_option maxHeartbeats 4000000 in
set_option maxRecDepth 100000 in
theorem eqSight_calls (L L' : List Int) (w : World) (hl : L.length = 6) (hl' : L'.length = 6) : Calls Try.prog 30 #[.agg (vals .u8 L), .agg (vals .u8 L')] w fun e w' => e = .returned (.bool (decide (L = L'))) ∧ Below w.heap.size w w' := by
  have hm := Mem.start w
  go_enter Try.func30, Try.ntmps30
  go_wp2_with (first | fail | ((with_reducible refine gt_box 2 56 ?_); refine st_box rfl 2 rfl 56 _ rfl hm (v := .agg (vals _ _)) rfl (cs := vals _ _) rfl ?_; clear hm; intro g2 w2 hm) | ((with_reducible refine gt_box 3 56 ?_); refine st_box rfl 3 rfl 56 _ rfl hm (v := .agg (vals _ _)) rfl (cs := vals _ _) rfl ?_; clear hm; intro g3 w3 hm) | ((with_reducible refine gt_elem 56 ?_); refine st_elem rfl 56 _ _ rfl rfl rfl arr56 (by first | omega | assumption | (simp only [lens]; first | omega | assumption) | (simp [lens]; done) | (simp [lens]; omega)) (by first | omega | assumption | (simp only [lens]; first | omega | assumption) | (simp [lens]; done) | (simp [lens]; omega)) ?_) | ((with_reducible refine gt_load 5 ?_); (first | (refine st_get rfl 5 _ rfl hm rfl 0 rfl one5 (by first | omega | assumption | (simp only [lens]; first | omega | assumption) | (simp [lens]; done) | (simp [lens]; omega)) ?_) | (refine st_get rfl 5 _ rfl hm rfl 1 rfl one5 (by first | omega | assumption | (simp only [lens]; first | omega | assumption) | (simp [lens]; done) | (simp [lens]; omega)) ?_) | (refine st_get rfl 5 _ rfl hm rfl 2 rfl one5 (by first | omega | assumption | (simp only [lens]; first | omega | assumption) | (simp [lens]; done) | (simp [lens]; omega)) ?_) | (refine st_get rfl 5 _ rfl hm rfl 3 rfl one5 (by first | omega | assumption | (simp only [lens]; first | omega | assumption) | (simp [lens]; done) | (simp [lens]; omega)) ?_))))
  go_loopw [5] (fun v5 wr => ∃ i : Nat, i ≤ 6 ∧ v5 = .int .i64 i ∧ Aside0 (∀ j : Nat, j < i → rd L (j : Int) = rd L' (j : Int)) ∧ Mem w wr [⟨g3, vals .u8 L', 56, true⟩, ⟨g2, vals .u8 L, 56, true⟩]) (fun v5 _ => 6 - (intOf v5).toNat)
  case atStart => exact ⟨0, by omega, rfl, ⟨fun j hj => absurd hj (by omega)⟩, hm⟩
  case round =>
    obtain ⟨i, hi, rfl, HJ, hm⟩ := hrel
    by_cases hlt : i < 6
    · have hc1 := hm.get (n := 1) rfl i (by omega)
      have hc2 := hm.get (n := 0) rfl i (by omega)
      have HM := Aside0.mk hm
      clear hm
      generalize hx : rd L (i : Int) = x at *
      generalize hy : rd L' (i : Int) = y at *
      have HX := Aside0.mk hx
      have HY := Aside0.mk hy
      clear hx hy
      by_cases hxy : x = y
      · subst hxy
        go_wp2
        repeat (go_quiet (fail); try go_wp2)
        go_roundw
        case rel => exact ⟨i + 1, by omega, by go_num, ⟨fun j hj => by
          rcases Nat.lt_or_ge j i with h | h
          · exact HJ.out j h
          · obtain rfl : j = i := by omega
            rw [HX.out, HY.out]⟩, HM.out.drawn _⟩
        case measure => simp [intOf]; omega
      · have hd := Aside0.mk (show (x != y) = true by simpa using hxy)
        go_wp2
        go_quiet (fail)
        rw [hd.out]
        go_wp2
        go_ret
        refine ⟨?_, (HM.out.drawn _).done rfl⟩
        rw [decide_eq_false (p := L = L') (fun e => hxy (by rw [← HX.out, ← HY.out, e]))]; rfl
    · have HI := Aside0.mk (show i = 6 by omega)
      go_wp2_with (first | fail | ((with_reducible refine gt_box 2 56 ?_); refine st_box rfl 2 rfl 56 _ rfl hm (v := .agg (vals _ _)) rfl (cs := vals _ _) rfl ?_; clear hm; intro g2 w2 hm) | ((with_reducible refine gt_box 3 56 ?_); refine st_box rfl 3 rfl 56 _ rfl hm (v := .agg (vals _ _)) rfl (cs := vals _ _) rfl ?_; clear hm; intro g3 w3 hm) | ((with_reducible refine gt_elem 56 ?_); refine st_elem rfl 56 _ _ rfl rfl rfl arr56 (by first | omega | assumption | (simp only [lens]; first | omega | assumption) | (simp [lens]; done) | (simp [lens]; omega)) (by first | omega | assumption | (simp only [lens]; first | omega | assumption) | (simp [lens]; done) | (simp [lens]; omega)) ?_) | ((with_reducible refine gt_load 5 ?_); (first | (refine st_get rfl 5 _ rfl hm rfl 0 rfl one5 (by first | omega | assumption | (simp only [lens]; first | omega | assumption) | (simp [lens]; done) | (simp [lens]; omega)) ?_) | (refine st_get rfl 5 _ rfl hm rfl 1 rfl one5 (by first | omega | assumption | (simp only [lens]; first | omega | assumption) | (simp [lens]; done) | (simp [lens]; omega)) ?_) | (refine st_get rfl 5 _ rfl hm rfl 2 rfl one5 (by first | omega | assumption | (simp only [lens]; first | omega | assumption) | (simp [lens]; done) | (simp [lens]; omega)) ?_) | (refine st_get rfl 5 _ rfl hm rfl 3 rfl one5 (by first | omega | assumption | (simp only [lens]; first | omega | assumption) | (simp [lens]; done) | (simp [lens]; omega)) ?_))))
      go_ret
      refine ⟨?_, hm.done rfl⟩
      rw [decide_eq_true (p := L = L') (list_eq hl hl' (fun j hj => HJ.out j (by rw [HI.out]; exact hj)))]; rfl
set_option maxHeartbeats 4000000 in
set_option maxRecDepth 100000 in
theorem toSight_calls (L : List Int) (w : World) (hl : L.length = 6) : Calls Try.prog 27 #[.agg (vals .u8 L)] w fun e w' => e = .returned (.agg (vals .u8 L)) ∧ Below w.heap.size w w' := by
  have hm := Mem.start w
  go_enter Try.func27, Try.ntmps27
  go_wp2_with (first | fail | ((with_reducible refine gt_box 1 55 ?_); refine st_box rfl 1 rfl 55 _ rfl hm (v := .agg (vals _ _)) rfl (cs := vals _ _) rfl ?_; clear hm; intro g1 w1 hm) | ((with_reducible refine gt_alloc 2 56 ?_); refine st_alloc rfl 2 rfl 56 rfl hm zero56 ?_; clear hm; intro g2 w2 hm) | ((with_reducible refine gt_alloc 3 56 ?_); refine st_alloc rfl 3 rfl 56 rfl hm zero56 ?_; clear hm; intro g3 w3 hm) | ((with_reducible refine gt_elem 55 ?_); refine st_elem rfl 55 _ _ rfl rfl rfl arr55 (by first | omega | assumption | (simp only [lens]; first | omega | assumption) | (simp [lens]; done) | (simp [lens]; omega)) (by first | omega | assumption | (simp only [lens]; first | omega | assumption) | (simp [lens]; done) | (simp [lens]; omega)) ?_) | ((with_reducible refine gt_load 5 ?_); (first | (refine st_get rfl 5 _ rfl hm rfl 0 rfl one5 (by first | omega | assumption | (simp only [lens]; first | omega | assumption) | (simp [lens]; done) | (simp [lens]; omega)) ?_) | (refine st_get rfl 5 _ rfl hm rfl 1 rfl one5 (by first | omega | assumption | (simp only [lens]; first | omega | assumption) | (simp [lens]; done) | (simp [lens]; omega)) ?_) | (refine st_get rfl 5 _ rfl hm rfl 2 rfl one5 (by first | omega | assumption | (simp only [lens]; first | omega | assumption) | (simp [lens]; done) | (simp [lens]; omega)) ?_) | (refine st_get rfl 5 _ rfl hm rfl 3 rfl one5 (by first | omega | assumption | (simp only [lens]; first | omega | assumption) | (simp [lens]; done) | (simp [lens]; omega)) ?_) | (refine st_get rfl 5 _ rfl hm rfl 4 rfl one5 (by first | omega | assumption | (simp only [lens]; first | omega | assumption) | (simp [lens]; done) | (simp [lens]; omega)) ?_))) | ((with_reducible refine gt_elem 56 ?_); refine st_elem rfl 56 _ _ rfl rfl rfl arr56 (by first | omega | assumption | (simp only [lens]; first | omega | assumption) | (simp [lens]; done) | (simp [lens]; omega)) (by first | omega | assumption | (simp only [lens]; first | omega | assumption) | (simp [lens]; done) | (simp [lens]; omega)) ?_) | ((with_reducible refine gt_store 5 ?_); (first | (refine st_set rfl 5 _ _ rfl hm rfl rfl 0 rfl one5 (by first | omega | assumption | (simp only [lens]; first | omega | assumption) | (simp [lens]; done) | (simp [lens]; omega)) ?_) | (refine st_set rfl 5 _ _ rfl hm rfl rfl 1 rfl one5 (by first | omega | assumption | (simp only [lens]; first | omega | assumption) | (simp [lens]; done) | (simp [lens]; omega)) ?_) | (refine st_set rfl 5 _ _ rfl hm rfl rfl 2 rfl one5 (by first | omega | assumption | (simp only [lens]; first | omega | assumption) | (simp [lens]; done) | (simp [lens]; omega)) ?_) | (refine st_set rfl 5 _ _ rfl hm rfl rfl 3 rfl one5 (by first | omega | assumption | (simp only [lens]; first | omega | assumption) | (simp [lens]; done) | (simp [lens]; omega)) ?_) | (refine st_set rfl 5 _ _ rfl hm rfl rfl 4 rfl one5 (by first | omega | assumption | (simp only [lens]; first | omega | assumption) | (simp [lens]; done) | (simp [lens]; omega)) ?_)); clear hm; intro ws hm; simp only [List.set_cons_zero, List.set_cons_succ] at hm) | ((with_reducible refine gt_load 56 ?_); (first | (refine st_load rfl 56 _ rfl hm rfl 0 rfl agg56 (by first | omega | assumption | (simp only [lens]; first | omega | assumption) | (simp [lens]; done) | (simp [lens]; omega)) ?_) | (refine st_load rfl 56 _ rfl hm rfl 1 rfl agg56 (by first | omega | assumption | (simp only [lens]; first | omega | assumption) | (simp [lens]; done) | (simp [lens]; omega)) ?_) | (refine st_load rfl 56 _ rfl hm rfl 2 rfl agg56 (by first | omega | assumption | (simp only [lens]; first | omega | assumption) | (simp [lens]; done) | (simp [lens]; omega)) ?_) | (refine st_load rfl 56 _ rfl hm rfl 3 rfl agg56 (by first | omega | assumption | (simp only [lens]; first | omega | assumption) | (simp [lens]; done) | (simp [lens]; omega)) ?_) | (refine st_load rfl 56 _ rfl hm rfl 4 rfl agg56 (by first | omega | assumption | (simp only [lens]; first | omega | assumption) | (simp [lens]; done) | (simp [lens]; omega)) ?_) | (refine st_part rfl 56 _ rfl hm rfl 0 rfl agg56 (by first | omega | assumption | (simp only [lens]; first | omega | assumption) | (simp [lens]; done) | (simp [lens]; omega)) ?_) | (refine st_part rfl 56 _ rfl hm rfl 1 rfl agg56 (by first | omega | assumption | (simp only [lens]; first | omega | assumption) | (simp [lens]; done) | (simp [lens]; omega)) ?_) | (refine st_part rfl 56 _ rfl hm rfl 2 rfl agg56 (by first | omega | assumption | (simp only [lens]; first | omega | assumption) | (simp [lens]; done) | (simp [lens]; omega)) ?_) | (refine st_part rfl 56 _ rfl hm rfl 3 rfl agg56 (by first | omega | assumption | (simp only [lens]; first | omega | assumption) | (simp [lens]; done) | (simp [lens]; omega)) ?_) | (refine st_part rfl 56 _ rfl hm rfl 4 rfl agg56 (by first | omega | assumption | (simp only [lens]; first | omega | assumption) | (simp [lens]; done) | (simp [lens]; omega)) ?_))) | ((with_reducible refine gt_store 56 ?_); (first | (refine st_full rfl 56 _ _ rfl hm rfl rfl 0 rfl agg56 (by first | omega | assumption | (simp only [lens]; first | omega | assumption) | (simp [lens]; done) | (simp [lens]; omega)) (by first | omega | assumption | (simp only [lens]; first | omega | assumption) | (simp [lens]; done) | (simp [lens]; omega)) ?_) | (refine st_full rfl 56 _ _ rfl hm rfl rfl 1 rfl agg56 (by first | omega | assumption | (simp only [lens]; first | omega | assumption) | (simp [lens]; done) | (simp [lens]; omega)) (by first | omega | assumption | (simp only [lens]; first | omega | assumption) | (simp [lens]; done) | (simp [lens]; omega)) ?_) | (refine st_full rfl 56 _ _ rfl hm rfl rfl 2 rfl agg56 (by first | omega | assumption | (simp only [lens]; first | omega | assumption) | (simp [lens]; done) | (simp [lens]; omega)) (by first | omega | assumption | (simp only [lens]; first | omega | assumption) | (simp [lens]; done) | (simp [lens]; omega)) ?_) | (refine st_full rfl 56 _ _ rfl hm rfl rfl 3 rfl agg56 (by first | omega | assumption | (simp only [lens]; first | omega | assumption) | (simp [lens]; done) | (simp [lens]; omega)) (by first | omega | assumption | (simp only [lens]; first | omega | assumption) | (simp [lens]; done) | (simp [lens]; omega)) ?_) | (refine st_full rfl 56 _ _ rfl hm rfl rfl 4 rfl agg56 (by first | omega | assumption | (simp only [lens]; first | omega | assumption) | (simp [lens]; done) | (simp [lens]; omega)) (by first | omega | assumption | (simp only [lens]; first | omega | assumption) | (simp [lens]; done) | (simp [lens]; omega)) ?_) | (refine st_put rfl 56 _ _ rfl hm rfl rfl 0 rfl agg56 (by first | omega | assumption | (simp only [lens]; first | omega | assumption) | (simp [lens]; done) | (simp [lens]; omega)) (by first | omega | assumption | (simp only [lens]; first | omega | assumption) | (simp [lens]; done) | (simp [lens]; omega)) ?_) | (refine st_put rfl 56 _ _ rfl hm rfl rfl 1 rfl agg56 (by first | omega | assumption | (simp only [lens]; first | omega | assumption) | (simp [lens]; done) | (simp [lens]; omega)) (by first | omega | assumption | (simp only [lens]; first | omega | assumption) | (simp [lens]; done) | (simp [lens]; omega)) ?_) | (refine st_put rfl 56 _ _ rfl hm rfl rfl 2 rfl agg56 (by first | omega | assumption | (simp only [lens]; first | omega | assumption) | (simp [lens]; done) | (simp [lens]; omega)) (by first | omega | assumption | (simp only [lens]; first | omega | assumption) | (simp [lens]; done) | (simp [lens]; omega)) ?_) | (refine st_put rfl 56 _ _ rfl hm rfl rfl 3 rfl agg56 (by first | omega | assumption | (simp only [lens]; first | omega | assumption) | (simp [lens]; done) | (simp [lens]; omega)) (by first | omega | assumption | (simp only [lens]; first | omega | assumption) | (simp [lens]; done) | (simp [lens]; omega)) ?_) | (refine st_put rfl 56 _ _ rfl hm rfl rfl 4 rfl agg56 (by first | omega | assumption | (simp only [lens]; first | omega | assumption) | (simp [lens]; done) | (simp [lens]; omega)) (by first | omega | assumption | (simp only [lens]; first | omega | assumption) | (simp [lens]; done) | (simp [lens]; omega)) ?_)); clear hm; intro ws hm; simp only [List.set_cons_zero, List.set_cons_succ] at hm))
  go_loopw [4] (fun v4 wr => ∃ i : Nat, i ≤ 6 ∧ v4 = .int .i64 i ∧ Mem w wr [⟨g3, vals .u8 (mixTo (zs 6) L 0 i), 56, true⟩, ⟨g2, vals .u8 (zs 6), 56, true⟩, ⟨g1, vals .u8 L, 55, true⟩]) (fun v4 _ => 6 - (intOf v4).toNat)
  case atStart => exact ⟨0, by omega, rfl, by rw [mixTo_zero]; exact hm⟩
  case round =>
    obtain ⟨i, hi, rfl, hm⟩ := hrel
    have hl2 := mixTo_length (zs 6) L 0 i (by rw [zs_length]; omega) (by omega)
    rw [zs_length] at hl2
    by_cases hlt : i < 6
    · go_wp2_with (first | fail | ((with_reducible refine gt_box 1 55 ?_); refine st_box rfl 1 rfl 55 _ rfl hm (v := .agg (vals _ _)) rfl (cs := vals _ _) rfl ?_; clear hm; intro g1 w1 hm) | ((with_reducible refine gt_alloc 2 56 ?_); refine st_alloc rfl 2 rfl 56 rfl hm zero56 ?_; clear hm; intro g2 w2 hm) | ((with_reducible refine gt_alloc 3 56 ?_); refine st_alloc rfl 3 rfl 56 rfl hm zero56 ?_; clear hm; intro g3 w3 hm) | ((with_reducible refine gt_elem 55 ?_); refine st_elem rfl 55 _ _ rfl rfl rfl arr55 (by first | omega | assumption | (simp only [lens]; first | omega | assumption) | (simp [lens]; done) | (simp [lens]; omega)) (by first | omega | assumption | (simp only [lens]; first | omega | assumption) | (simp [lens]; done) | (simp [lens]; omega)) ?_) | ((with_reducible refine gt_load 5 ?_); (first | (refine st_get rfl 5 _ rfl hm rfl 0 rfl one5 (by first | omega | assumption | (simp only [lens]; first | omega | assumption) | (simp [lens]; done) | (simp [lens]; omega)) ?_) | (refine st_get rfl 5 _ rfl hm rfl 1 rfl one5 (by first | omega | assumption | (simp only [lens]; first | omega | assumption) | (simp [lens]; done) | (simp [lens]; omega)) ?_) | (refine st_get rfl 5 _ rfl hm rfl 2 rfl one5 (by first | omega | assumption | (simp only [lens]; first | omega | assumption) | (simp [lens]; done) | (simp [lens]; omega)) ?_) | (refine st_get rfl 5 _ rfl hm rfl 3 rfl one5 (by first | omega | assumption | (simp only [lens]; first | omega | assumption) | (simp [lens]; done) | (simp [lens]; omega)) ?_) | (refine st_get rfl 5 _ rfl hm rfl 4 rfl one5 (by first | omega | assumption | (simp only [lens]; first | omega | assumption) | (simp [lens]; done) | (simp [lens]; omega)) ?_))) | ((with_reducible refine gt_elem 56 ?_); refine st_elem rfl 56 _ _ rfl rfl rfl arr56 (by first | omega | assumption | (simp only [lens]; first | omega | assumption) | (simp [lens]; done) | (simp [lens]; omega)) (by first | omega | assumption | (simp only [lens]; first | omega | assumption) | (simp [lens]; done) | (simp [lens]; omega)) ?_) | ((with_reducible refine gt_store 5 ?_); (first | (refine st_set rfl 5 _ _ rfl hm rfl rfl 0 rfl one5 (by first | omega | assumption | (simp only [lens]; first | omega | assumption) | (simp [lens]; done) | (simp [lens]; omega)) ?_) | (refine st_set rfl 5 _ _ rfl hm rfl rfl 1 rfl one5 (by first | omega | assumption | (simp only [lens]; first | omega | assumption) | (simp [lens]; done) | (simp [lens]; omega)) ?_) | (refine st_set rfl 5 _ _ rfl hm rfl rfl 2 rfl one5 (by first | omega | assumption | (simp only [lens]; first | omega | assumption) | (simp [lens]; done) | (simp [lens]; omega)) ?_) | (refine st_set rfl 5 _ _ rfl hm rfl rfl 3 rfl one5 (by first | omega | assumption | (simp only [lens]; first | omega | assumption) | (simp [lens]; done) | (simp [lens]; omega)) ?_) | (refine st_set rfl 5 _ _ rfl hm rfl rfl 4 rfl one5 (by first | omega | assumption | (simp only [lens]; first | omega | assumption) | (simp [lens]; done) | (simp [lens]; omega)) ?_)); clear hm; intro ws hm; simp only [List.set_cons_zero, List.set_cons_succ] at hm) | ((with_reducible refine gt_load 56 ?_); (first | (refine st_load rfl 56 _ rfl hm rfl 0 rfl agg56 (by first | omega | assumption | (simp only [lens]; first | omega | assumption) | (simp [lens]; done) | (simp [lens]; omega)) ?_) | (refine st_load rfl 56 _ rfl hm rfl 1 rfl agg56 (by first | omega | assumption | (simp only [lens]; first | omega | assumption) | (simp [lens]; done) | (simp [lens]; omega)) ?_) | (refine st_load rfl 56 _ rfl hm rfl 2 rfl agg56 (by first | omega | assumption | (simp only [lens]; first | omega | assumption) | (simp [lens]; done) | (simp [lens]; omega)) ?_) | (refine st_load rfl 56 _ rfl hm rfl 3 rfl agg56 (by first | omega | assumption | (simp only [lens]; first | omega | assumption) | (simp [lens]; done) | (simp [lens]; omega)) ?_) | (refine st_load rfl 56 _ rfl hm rfl 4 rfl agg56 (by first | omega | assumption | (simp only [lens]; first | omega | assumption) | (simp [lens]; done) | (simp [lens]; omega)) ?_) | (refine st_part rfl 56 _ rfl hm rfl 0 rfl agg56 (by first | omega | assumption | (simp only [lens]; first | omega | assumption) | (simp [lens]; done) | (simp [lens]; omega)) ?_) | (refine st_part rfl 56 _ rfl hm rfl 1 rfl agg56 (by first | omega | assumption | (simp only [lens]; first | omega | assumption) | (simp [lens]; done) | (simp [lens]; omega)) ?_) | (refine st_part rfl 56 _ rfl hm rfl 2 rfl agg56 (by first | omega | assumption | (simp only [lens]; first | omega | assumption) | (simp [lens]; done) | (simp [lens]; omega)) ?_) | (refine st_part rfl 56 _ rfl hm rfl 3 rfl agg56 (by first | omega | assumption | (simp only [lens]; first | omega | assumption) | (simp [lens]; done) | (simp [lens]; omega)) ?_) | (refine st_part rfl 56 _ rfl hm rfl 4 rfl agg56 (by first | omega | assumption | (simp only [lens]; first | omega | assumption) | (simp [lens]; done) | (simp [lens]; omega)) ?_))) | ((with_reducible refine gt_store 56 ?_); (first | (refine st_full rfl 56 _ _ rfl hm rfl rfl 0 rfl agg56 (by first | omega | assumption | (simp only [lens]; first | omega | assumption) | (simp [lens]; done) | (simp [lens]; omega)) (by first | omega | assumption | (simp only [lens]; first | omega | assumption) | (simp [lens]; done) | (simp [lens]; omega)) ?_) | (refine st_full rfl 56 _ _ rfl hm rfl rfl 1 rfl agg56 (by first | omega | assumption | (simp only [lens]; first | omega | assumption) | (simp [lens]; done) | (simp [lens]; omega)) (by first | omega | assumption | (simp only [lens]; first | omega | assumption) | (simp [lens]; done) | (simp [lens]; omega)) ?_) | (refine st_full rfl 56 _ _ rfl hm rfl rfl 2 rfl agg56 (by first | omega | assumption | (simp only [lens]; first | omega | assumption) | (simp [lens]; done) | (simp [lens]; omega)) (by first | omega | assumption | (simp only [lens]; first | omega | assumption) | (simp [lens]; done) | (simp [lens]; omega)) ?_) | (refine st_full rfl 56 _ _ rfl hm rfl rfl 3 rfl agg56 (by first | omega | assumption | (simp only [lens]; first | omega | assumption) | (simp [lens]; done) | (simp [lens]; omega)) (by first | omega | assumption | (simp only [lens]; first | omega | assumption) | (simp [lens]; done) | (simp [lens]; omega)) ?_) | (refine st_full rfl 56 _ _ rfl hm rfl rfl 4 rfl agg56 (by first | omega | assumption | (simp only [lens]; first | omega | assumption) | (simp [lens]; done) | (simp [lens]; omega)) (by first | omega | assumption | (simp only [lens]; first | omega | assumption) | (simp [lens]; done) | (simp [lens]; omega)) ?_) | (refine st_put rfl 56 _ _ rfl hm rfl rfl 0 rfl agg56 (by first | omega | assumption | (simp only [lens]; first | omega | assumption) | (simp [lens]; done) | (simp [lens]; omega)) (by first | omega | assumption | (simp only [lens]; first | omega | assumption) | (simp [lens]; done) | (simp [lens]; omega)) ?_) | (refine st_put rfl 56 _ _ rfl hm rfl rfl 1 rfl agg56 (by first | omega | assumption | (simp only [lens]; first | omega | assumption) | (simp [lens]; done) | (simp [lens]; omega)) (by first | omega | assumption | (simp only [lens]; first | omega | assumption) | (simp [lens]; done) | (simp [lens]; omega)) ?_) | (refine st_put rfl 56 _ _ rfl hm rfl rfl 2 rfl agg56 (by first | omega | assumption | (simp only [lens]; first | omega | assumption) | (simp [lens]; done) | (simp [lens]; omega)) (by first | omega | assumption | (simp only [lens]; first | omega | assumption) | (simp [lens]; done) | (simp [lens]; omega)) ?_) | (refine st_put rfl 56 _ _ rfl hm rfl rfl 3 rfl agg56 (by first | omega | assumption | (simp only [lens]; first | omega | assumption) | (simp [lens]; done) | (simp [lens]; omega)) (by first | omega | assumption | (simp only [lens]; first | omega | assumption) | (simp [lens]; done) | (simp [lens]; omega)) ?_) | (refine st_put rfl 56 _ _ rfl hm rfl rfl 4 rfl agg56 (by first | omega | assumption | (simp only [lens]; first | omega | assumption) | (simp [lens]; done) | (simp [lens]; omega)) (by first | omega | assumption | (simp only [lens]; first | omega | assumption) | (simp [lens]; done) | (simp [lens]; omega)) ?_)); clear hm; intro ws hm; simp only [List.set_cons_zero, List.set_cons_succ] at hm))
      go_roundw
      case rel =>
        refine ⟨i + 1, by omega, by go_num, ?_⟩
        rw [← mixTo_succ (zs 6) L 0 i (by rw [zs_length]; omega) (by omega)]
        simpa using hm
      case measure => simp [intOf]; omega
    · have HI := Aside0.mk (show mixTo (zs 6) L 0 i = L by
        have : i = 6 := by omega
        subst this
        unfold mixTo
        rw [List.take_zero, List.nil_append, List.take_of_length_le (by omega), List.drop_of_length_le (by rw [zs_length]; omega), List.append_nil])
      go_wp2_with (first | fail | ((with_reducible refine gt_box 1 55 ?_); refine st_box rfl 1 rfl 55 _ rfl hm (v := .agg (vals _ _)) rfl (cs := vals _ _) rfl ?_; clear hm; intro g1 w1 hm) | ((with_reducible refine gt_alloc 2 56 ?_); refine st_alloc rfl 2 rfl 56 rfl hm zero56 ?_; clear hm; intro g2 w2 hm) | ((with_reducible refine gt_alloc 3 56 ?_); refine st_alloc rfl 3 rfl 56 rfl hm zero56 ?_; clear hm; intro g3 w3 hm) | ((with_reducible refine gt_elem 55 ?_); refine st_elem rfl 55 _ _ rfl rfl rfl arr55 (by first | omega | assumption | (simp only [lens]; first | omega | assumption) | (simp [lens]; done) | (simp [lens]; omega)) (by first | omega | assumption | (simp only [lens]; first | omega | assumption) | (simp [lens]; done) | (simp [lens]; omega)) ?_) | ((with_reducible refine gt_load 5 ?_); (first | (refine st_get rfl 5 _ rfl hm rfl 0 rfl one5 (by first | omega | assumption | (simp only [lens]; first | omega | assumption) | (simp [lens]; done) | (simp [lens]; omega)) ?_) | (refine st_get rfl 5 _ rfl hm rfl 1 rfl one5 (by first | omega | assumption | (simp only [lens]; first | omega | assumption) | (simp [lens]; done) | (simp [lens]; omega)) ?_) | (refine st_get rfl 5 _ rfl hm rfl 2 rfl one5 (by first | omega | assumption | (simp only [lens]; first | omega | assumption) | (simp [lens]; done) | (simp [lens]; omega)) ?_) | (refine st_get rfl 5 _ rfl hm rfl 3 rfl one5 (by first | omega | assumption | (simp only [lens]; first | omega | assumption) | (simp [lens]; done) | (simp [lens]; omega)) ?_) | (refine st_get rfl 5 _ rfl hm rfl 4 rfl one5 (by first | omega | assumption | (simp only [lens]; first | omega | assumption) | (simp [lens]; done) | (simp [lens]; omega)) ?_))) | ((with_reducible refine gt_elem 56 ?_); refine st_elem rfl 56 _ _ rfl rfl rfl arr56 (by first | omega | assumption | (simp only [lens]; first | omega | assumption) | (simp [lens]; done) | (simp [lens]; omega)) (by first | omega | assumption | (simp only [lens]; first | omega | assumption) | (simp [lens]; done) | (simp [lens]; omega)) ?_) | ((with_reducible refine gt_store 5 ?_); (first | (refine st_set rfl 5 _ _ rfl hm rfl rfl 0 rfl one5 (by first | omega | assumption | (simp only [lens]; first | omega | assumption) | (simp [lens]; done) | (simp [lens]; omega)) ?_) | (refine st_set rfl 5 _ _ rfl hm rfl rfl 1 rfl one5 (by first | omega | assumption | (simp only [lens]; first | omega | assumption) | (simp [lens]; done) | (simp [lens]; omega)) ?_) | (refine st_set rfl 5 _ _ rfl hm rfl rfl 2 rfl one5 (by first | omega | assumption | (simp only [lens]; first | omega | assumption) | (simp [lens]; done) | (simp [lens]; omega)) ?_) | (refine st_set rfl 5 _ _ rfl hm rfl rfl 3 rfl one5 (by first | omega | assumption | (simp only [lens]; first | omega | assumption) | (simp [lens]; done) | (simp [lens]; omega)) ?_) | (refine st_set rfl 5 _ _ rfl hm rfl rfl 4 rfl one5 (by first | omega | assumption | (simp only [lens]; first | omega | assumption) | (simp [lens]; done) | (simp [lens]; omega)) ?_)); clear hm; intro ws hm; simp only [List.set_cons_zero, List.set_cons_succ] at hm) | ((with_reducible refine gt_load 56 ?_); (first | (refine st_load rfl 56 _ rfl hm rfl 0 rfl agg56 (by first | omega | assumption | (simp only [lens]; first | omega | assumption) | (simp [lens]; done) | (simp [lens]; omega)) ?_) | (refine st_load rfl 56 _ rfl hm rfl 1 rfl agg56 (by first | omega | assumption | (simp only [lens]; first | omega | assumption) | (simp [lens]; done) | (simp [lens]; omega)) ?_) | (refine st_load rfl 56 _ rfl hm rfl 2 rfl agg56 (by first | omega | assumption | (simp only [lens]; first | omega | assumption) | (simp [lens]; done) | (simp [lens]; omega)) ?_) | (refine st_load rfl 56 _ rfl hm rfl 3 rfl agg56 (by first | omega | assumption | (simp only [lens]; first | omega | assumption) | (simp [lens]; done) | (simp [lens]; omega)) ?_) | (refine st_load rfl 56 _ rfl hm rfl 4 rfl agg56 (by first | omega | assumption | (simp only [lens]; first | omega | assumption) | (simp [lens]; done) | (simp [lens]; omega)) ?_) | (refine st_part rfl 56 _ rfl hm rfl 0 rfl agg56 (by first | omega | assumption | (simp only [lens]; first | omega | assumption) | (simp [lens]; done) | (simp [lens]; omega)) ?_) | (refine st_part rfl 56 _ rfl hm rfl 1 rfl agg56 (by first | omega | assumption | (simp only [lens]; first | omega | assumption) | (simp [lens]; done) | (simp [lens]; omega)) ?_) | (refine st_part rfl 56 _ rfl hm rfl 2 rfl agg56 (by first | omega | assumption | (simp only [lens]; first | omega | assumption) | (simp [lens]; done) | (simp [lens]; omega)) ?_) | (refine st_part rfl 56 _ rfl hm rfl 3 rfl agg56 (by first | omega | assumption | (simp only [lens]; first | omega | assumption) | (simp [lens]; done) | (simp [lens]; omega)) ?_) | (refine st_part rfl 56 _ rfl hm rfl 4 rfl agg56 (by first | omega | assumption | (simp only [lens]; first | omega | assumption) | (simp [lens]; done) | (simp [lens]; omega)) ?_))) | ((with_reducible refine gt_store 56 ?_); (first | (refine st_full rfl 56 _ _ rfl hm rfl rfl 0 rfl agg56 (by first | omega | assumption | (simp only [lens]; first | omega | assumption) | (simp [lens]; done) | (simp [lens]; omega)) (by first | omega | assumption | (simp only [lens]; first | omega | assumption) | (simp [lens]; done) | (simp [lens]; omega)) ?_) | (refine st_full rfl 56 _ _ rfl hm rfl rfl 1 rfl agg56 (by first | omega | assumption | (simp only [lens]; first | omega | assumption) | (simp [lens]; done) | (simp [lens]; omega)) (by first | omega | assumption | (simp only [lens]; first | omega | assumption) | (simp [lens]; done) | (simp [lens]; omega)) ?_) | (refine st_full rfl 56 _ _ rfl hm rfl rfl 2 rfl agg56 (by first | omega | assumption | (simp only [lens]; first | omega | assumption) | (simp [lens]; done) | (simp [lens]; omega)) (by first | omega | assumption | (simp only [lens]; first | omega | assumption) | (simp [lens]; done) | (simp [lens]; omega)) ?_) | (refine st_full rfl 56 _ _ rfl hm rfl rfl 3 rfl agg56 (by first | omega | assumption | (simp only [lens]; first | omega | assumption) | (simp [lens]; done) | (simp [lens]; omega)) (by first | omega | assumption | (simp only [lens]; first | omega | assumption) | (simp [lens]; done) | (simp [lens]; omega)) ?_) | (refine st_full rfl 56 _ _ rfl hm rfl rfl 4 rfl agg56 (by first | omega | assumption | (simp only [lens]; first | omega | assumption) | (simp [lens]; done) | (simp [lens]; omega)) (by first | omega | assumption | (simp only [lens]; first | omega | assumption) | (simp [lens]; done) | (simp [lens]; omega)) ?_) | (refine st_put rfl 56 _ _ rfl hm rfl rfl 0 rfl agg56 (by first | omega | assumption | (simp only [lens]; first | omega | assumption) | (simp [lens]; done) | (simp [lens]; omega)) (by first | omega | assumption | (simp only [lens]; first | omega | assumption) | (simp [lens]; done) | (simp [lens]; omega)) ?_) | (refine st_put rfl 56 _ _ rfl hm rfl rfl 1 rfl agg56 (by first | omega | assumption | (simp only [lens]; first | omega | assumption) | (simp [lens]; done) | (simp [lens]; omega)) (by first | omega | assumption | (simp only [lens]; first | omega | assumption) | (simp [lens]; done) | (simp [lens]; omega)) ?_) | (refine st_put rfl 56 _ _ rfl hm rfl rfl 2 rfl agg56 (by first | omega | assumption | (simp only [lens]; first | omega | assumption) | (simp [lens]; done) | (simp [lens]; omega)) (by first | omega | assumption | (simp only [lens]; first | omega | assumption) | (simp [lens]; done) | (simp [lens]; omega)) ?_) | (refine st_put rfl 56 _ _ rfl hm rfl rfl 3 rfl agg56 (by first | omega | assumption | (simp only [lens]; first | omega | assumption) | (simp [lens]; done) | (simp [lens]; omega)) (by first | omega | assumption | (simp only [lens]; first | omega | assumption) | (simp [lens]; done) | (simp [lens]; omega)) ?_) | (refine st_put rfl 56 _ _ rfl hm rfl rfl 4 rfl agg56 (by first | omega | assumption | (simp only [lens]; first | omega | assumption) | (simp [lens]; done) | (simp [lens]; omega)) (by first | omega | assumption | (simp only [lens]; first | omega | assumption) | (simp [lens]; done) | (simp [lens]; omega)) ?_)); clear hm; intro ws hm; simp only [List.set_cons_zero, List.set_cons_succ] at hm))
      ((try simp only [Exit.inBlock, Exit.then]); (first | (refine ret_cell hm rfl rfl 1 rfl agg56 (by first | omega | assumption | (simp only [lens]; first | omega | assumption) | (simp [lens]; done) | (simp [lens]; omega)) rfl ?_) | (refine ret_cell_tmp hm rfl rfl 1 rfl agg56 (by first | omega | assumption | (simp only [lens]; first | omega | assumption) | (simp [lens]; done) | (simp [lens]; omega)) rfl ?_)))
      exact ⟨by rw [HI.out], hm.done rfl⟩
set_option maxHeartbeats 4000000 in
set_option maxRecDepth 100000 in
theorem eqSightS_calls (A : Option Addr) (c : Nat) (l : List (List Int)) (A2 : Option Addr) (c2 : Nat) (w : World) (hr : Kd.C (kA .u8 6) w A l.length l) (hr2 : Kd.C (kA .u8 6) w A2 l.length l) (hn : l.length ≤ 1048576) :
    Calls Try.prog 10 #[.slice A l.length c, .slice A2 l.length c2] w fun e w' => e = .returned (.bool true) ∧ Below w.heap.size w w' := by
  have HR := Aside0.mk hr
  have HR2 := Aside0.mk hr2
  clear hr hr2
  go_enter Try.func10, Try.ntmps10
  go_wp2_with fail
  go_loopw [5] (fun v5 wr => ∃ i : Nat, i ≤ l.length ∧ v5 = .int .i64 i ∧ Aside0 (Below w.heap.size w wr)) (fun v5 _ => l.length - (intOf v5).toNat)
  case atStart => exact ⟨0, by omega, rfl, ⟨Below.refl _ _⟩⟩
  case round =>
    obtain ⟨i, hi, rfl, HB⟩ := hrel
    by_cases hlt : i < l.length
    · obtain ⟨ad, rfl, hx6, hcell⟩ := at_A HR.out i hlt
      obtain ⟨ad2, rfl, _, hcell2⟩ := at_A HR2.out i hlt
      have HC := Aside0.mk (fun W (hW : Below w.heap.size w W) => cells_of (p := ad.add (i * 6)) (k := .u8) (x := ra l i) (by rw [hx6]; exact fun j hj => pw_cell_below hW (hcell j hj)))
      have HC2 := Aside0.mk (fun W (hW : Below w.heap.size w W) => cells_of (p := ad2.add (i * 6)) (k := .u8) (x := ra l i) (by rw [hx6]; exact fun j hj => pw_cell_below hW (hcell2 j hj)))
      have HX6 := Aside0.mk (show ((ra l i).map (Value.int .u8)).length = 6 by rw [List.length_map]; exact hx6)
      have HEQ := Aside0.mk (fun W => eqSight_calls (ra l i) (ra l i) W hx6 hx6)
      rw [decide_eq_true (rfl : ra l i = ra l i)] at HEQ
      clear hcell hcell2 hx6
      go_wp2_with fail
      refine start_ (n := 10) (S := fun w' => Below w.heap.size w w') (ds := []) #[false, false, false, false, false, false, false, false, false, false] (by kernel_rfl) rfl rfl (below_drew1 HB.out) (fun hHeld => ?_)
      refine pure_ (i := 0) (N := some 17) (v := ?_) (a' := ?_) #[true, false, false, false, false, false, false, false, false, false] rfl rfl (by kernel_rfl) (fun _ _ _ h => h) (Or.inl ⟨by rfl, ?_⟩) ?_ ?_
      rotate_left
      · intro w'
        go_simp
        with_reducible rfl
      rotate_left
      · simp only [Act.put, List.setIfInBounds_toArray, List.set_cons_zero, List.set_cons_succ, i64_w, i32_w]
        rfl
      refine pure_ (i := 1) (N := some 18) (v := ?_) (a' := ?_) #[true, true, false, false, false, false, false, false, false, false] rfl rfl (by kernel_rfl) (fun _ _ _ h => h) (Or.inl ⟨by rfl, ?_⟩) ?_ ?_
      rotate_left
      · intro w'
        go_simp
        with_reducible rfl
      rotate_left
      · simp only [Act.put, List.setIfInBounds_toArray, List.set_cons_zero, List.set_cons_succ, i64_w, i32_w]
        rfl
      refine pure_ (i := 2) (N := some 19) (v := ?_) (a' := ?_) #[true, true, true, false, false, false, false, false, false, false] rfl rfl (by kernel_rfl) (fun _ _ _ h => h) (Or.inl ⟨by rfl, ?_⟩) ?_ ?_
      rotate_left
      · intro w'
        go_simp
        with_reducible rfl
      rotate_left
      · simp only [Act.put, List.setIfInBounds_toArray, List.set_cons_zero, List.set_cons_succ, i64_w, i32_w]
        rfl
      refine pure_ (i := 4) (N := some 21) (v := ?_) (a' := ?_) #[true, true, true, false, true, false, false, false, false, false] rfl rfl (by kernel_rfl) (fun _ _ _ h => h) (Or.inl ⟨by rfl, ?_⟩) ?_ ?_
      rotate_left
      · intro w'
        go_simp
        with_reducible rfl
      rotate_left
      · simp only [Act.put, List.setIfInBounds_toArray, List.set_cons_zero, List.set_cons_succ, i64_w, i32_w]
        rfl
      refine pure_ (i := 5) (N := some 22) (v := ?_) (a' := ?_) #[true, true, true, false, true, true, false, false, false, false] rfl rfl (by kernel_rfl) (fun _ _ _ h => h) (Or.inl ⟨by rfl, ?_⟩) ?_ ?_
      rotate_left
      · intro w'
        go_simp
        with_reducible rfl
      rotate_left
      · simp only [Act.put, List.setIfInBounds_toArray, List.set_cons_zero, List.set_cons_succ, i64_w, i32_w]
        rfl
      refine pure_ (i := 6) (N := some 23) (v := ?_) (a' := ?_) #[true, true, true, false, true, true, true, false, false, false] rfl rfl (by kernel_rfl) (fun _ _ _ h => h) (Or.inl ⟨by rfl, ?_⟩) ?_ ?_
      rotate_left
      · intro w'
        go_simp
        with_reducible rfl
      rotate_left
      · simp only [Act.put, List.setIfInBounds_toArray, List.set_cons_zero, List.set_cons_succ, i64_w, i32_w]
        rfl
      refine take_ (i := 3) (N := some 20) (v := .agg (vals .u8 (ra l i))) (a' := ?_) #[true, true, true, true, true, true, true, false, false, false] rfl rfl (by kernel_rfl) (fun _ _ _ h => h) (Or.inl ⟨by rfl, ?_⟩) hHeld ?_ ?_
      · intro w' s0
        exact y_loadA (by rfl) (p := ad.add (i * 6)) (by rfl) (HC.out _ s0) aggSight HX6.out
      rotate_left
      · simp only [Act.put, List.setIfInBounds_toArray, List.set_cons_zero, List.set_cons_succ, i64_w, i32_w]
        rfl
      refine take_ (i := 7) (N := some 24) (v := .agg (vals .u8 (ra l i))) (a' := ?_) #[true, true, true, true, true, true, true, true, false, false] rfl rfl (by kernel_rfl) (fun _ _ _ h => h) (Or.inl ⟨by rfl, ?_⟩) hHeld ?_ ?_
      · intro w' s0
        exact y_loadA (by rfl) (p := ad2.add (i * 6)) (by rfl) (HC2.out _ s0) aggSight HX6.out
      rotate_left
      · simp only [Act.put, List.setIfInBounds_toArray, List.set_cons_zero, List.set_cons_succ, i64_w, i32_w]
        rfl
      refine one_ (i := 8) (N := some 25) #[true, true, true, true, true, true, true, true, true, false] rfl rfl (by kernel_rfl) (by decide) (fun K hK => ?_)
      refine goes_ Try.func30 (by kernel_rfl) rfl #[.agg (vals .u8 (ra l i)), .agg (vals .u8 (ra l i))] (by rfl) rfl rfl (by simp only [List.map_toArray, List.map_cons, List.map_nil]; rfl) ?_
      refine (HEQ.out _).mono ?_
      rintro e w5 ⟨rfl, h5⟩
      refine ⟨_, rfl, ?_⟩
      refine hK.out _ _ (hHeld.trans (h5.mono hHeld.size)) (fun hHeld => ?_)
      clear hK K
      refine norm_ (a' := ?_) ?_ ?_
      rotate_left
      · show Act.put _ (some 25) _ = _
        simp only [Act.put, List.setIfInBounds_toArray, List.set_cons_zero, List.set_cons_succ, i64_w, i32_w]
        rfl
      refine pure_ (i := 9) (N := some 26) (v := ?_) (a' := ?_) #[true, true, true, true, true, true, true, true, true, true] rfl rfl (by kernel_rfl) (fun _ _ _ h => h) (Or.inl ⟨by rfl, ?_⟩) ?_ ?_
      rotate_left
      · intro w'
        go_simp
        with_reducible rfl
      rotate_left
      · simp only [Act.put, List.setIfInBounds_toArray, List.set_cons_zero, List.set_cons_succ, i64_w, i32_w]
        rfl
      refine done_ (by kernel_rfl) ?_
      skip
      have HB2 := Aside0.mk hHeld
      clear hHeld
      go_wp2_with fail
      go_roundw
      case rel => exact ⟨i + 1, by omega, by go_num, HB2⟩
      case measure => simp [intOf]; omega
    · obtain rfl : i = l.length := by omega
      go_wp2_with fail
      go_ret
      exact ⟨rfl, HB.out⟩
section
variable {P : Program} {ops : Array Oper} {rest : List Oper} {o : Oper} {a : Act} {w0 w : World} {M : List Ent} {Q : Exit → Act → World → Prop}
theorem made_vals {k : IntKind} {m : Nat} (hm : 0 < m) (n : Nat) : madeCells (vals k (zs m)) n = vals k (zs n) := by
  apply Array.ext
  · simp [madeCells, vals, zs]
  · intro i h1 h2
    have h3 : i % m < m := Nat.mod_lt _ hm
    simp [madeCells, vals, zs, h3]
/-- A row of arrays is made. -/
theorem st_make (hgd : o.guard = none) (t e : TypeId) (x y : Operand) (ho : o.op = .makeSlice t x y) {n : Nat} (hx : a.eval x = .int .i64 (n : Int)) (hy : a.eval y = .int .i64 (n : Int)) (ht : P.underlying t = some (.slice e)) {k : IntKind} {m bytes : Nat}
    (hinfo : (P.info? e).map (fun i => (i.zero, i.size, i.bytes)) = some (some (.agg (vals k (zs m))), m, bytes)) (hm0 : 0 < m) (hb : n * bytes ≤ 281474976710656) (hn : n ≤ 281474976710656) (hm : Mem w0 w M)
    (h : ∀ g w1, Mem w0 w1 (⟨g, vals k (zs (n * m)), e, true⟩ :: M) → wpList P ops Q rest (a.put o.dst (.slice (some ⟨g, 0, none⟩) n n)) w1) : wpList P ops Q (o :: rest) a w := by
  obtain ⟨i0, hi, hzz⟩ := Option.map_eq_some_iff.1 hinfo
  simp only [Prod.mk.injEq] at hzz
  obtain ⟨hz0, hz1, hz2⟩ := hzz
  have hr := run_make (P := P) w t e i0 (.agg (vals k (zs m))) ht hi hz0 .i64 .i64 (n : Int) (n : Int) (by omega) (by omega)
    (by
      have h3 : ((i0.bytes * n : Nat) : Int) ≤ 281474976710656 := by rw [hz2, Nat.mul_comm]; omega
      rwa [Int.natCast_mul] at h3) (by omega)
  simp only [Int.toNat_natCast] at hr
  rw [hz1, show (Value.agg (vals k (zs m))).cells = vals k (zs m) from rfl, made_vals hm0] at hr
  refine wpList_plain hgd fun K hK => ?_
  unfold Oper.wp execOp
  simp only [ho, hx, hy, Sem.run_bind, Sem.run_pure, Result.andThen_ok, hr]
  exact hK _ _ (h _ _ (hm.new _ _))
end
theorem flat_len {n : Nat} : ∀ (l : List (List Int)), (∀ x ∈ l, x.length = n) → l.flatten.length = l.length * n
  | [], _ => by simp
  | x :: r, h => by
    rw [List.flatten_cons, List.length_append, flat_len r (fun y hy => h y (List.mem_cons_of_mem _ hy)), h x List.mem_cons_self, List.length_cons, Nat.add_mul]
    omega
theorem flat_get {n : Nat} : ∀ (l : List (List Int)) (j i : Nat), (∀ x ∈ l, x.length = n) → (hj : j < l.length) → i < n → l.flatten[j * n + i]? = l[j][i]?
  | [], j, i, _, hj, _ => by simp at hj
  | x :: r, 0, i, h, _, hi => by
    rw [List.flatten_cons, List.getElem?_append_left (by rw [h x List.mem_cons_self]; omega)]
    simp
  | x :: r, j + 1, i, h, hj, hi => by
    have hx := h x List.mem_cons_self
    rw [List.flatten_cons, List.getElem?_append_right (by rw [hx, Nat.add_mul]; omega), hx, show (j + 1) * n + i - n = j * n + i by rw [Nat.add_mul]; omega]
    exact flat_get r j i (fun y hy => h y (List.mem_cons_of_mem _ hy)) (by simpa using hj) hi
/-- A row of arrays that lies in one block. -/
theorem C_of_flat {w : World} {g n : Nat} {k : IntKind} {l : List (List Int)} {t : TypeId} (hl : ∀ x ∈ l, x.length = n) (hn : l.length ≤ 1048576) (h : w.heap[g]? = some (.cells (vals k l.flatten) t (0, 0))) : Kd.C (kA k n) w (some ⟨g, 0, none⟩) l.length l := by
  refine ⟨rfl, by omega, fun _ => ⟨⟨g, 0, none⟩, rfl, fun j y hj => ?_⟩⟩
  obtain ⟨hlt, rfl⟩ := List.getElem?_eq_some_iff.1 hj
  have hx := hl _ (List.getElem_mem hlt)
  refine ⟨l[j].map (Value.int k), by rw [List.length_map]; exact hx, ⟨rfl, hx⟩, fun i u hu => ?_⟩
  have hi : i < n := by
    have := (List.getElem?_eq_some_iff.1 hu).1
    rw [List.length_map] at this
    omega
  show w.cell? ((⟨g, 0, none⟩ : Addr).add (j * n + i)) = some u
  have hadd : (⟨g, 0, none⟩ : Addr).add (j * n + i) = ⟨g, j * n + i, none⟩ := by unfold Addr.add; split <;> simp_all
  rw [hadd, cell_of_row w g (j * n + i) _ t (0, 0) h]
  rw [List.getElem?_map] at hu
  simp only [vals, List.getElem?_toArray, List.getElem?_map]
  rw [flat_get l j i hl hlt hi]
  exact hu
theorem flat_step {n : Nat} (l : List (List Int)) (hl : ∀ x ∈ l, x.length = n) (i : Nat) (hi : i < l.length) : ((l.take i).flatten ++ zs ((l.length - i) * n)).take (i * n) ++ ra l i ++ ((l.take i).flatten ++ zs ((l.length - i) * n)).drop (i * n + n) = (l.take (i + 1)).flatten ++ zs ((l.length - (i + 1)) * n) := by
  have h1 : (l.take i).flatten.length = i * n := by rw [flat_len _ (fun x hx => hl x (List.mem_of_mem_take hx)), List.length_take, Nat.min_eq_left (by omega)]
  rw [List.take_left' h1, show i * n + n = (l.take i).flatten.length + n by rw [h1], List.drop_append, List.take_add_one, List.getElem?_eq_getElem hi, ra_get l i hi]
  simp only [Option.toList, List.flatten_append, List.flatten_cons, List.flatten_nil, List.append_nil]
  rw [List.drop_of_length_le (by omega), List.nil_append]
  congr 1
  unfold zs
  rw [List.drop_replicate]
  congr 1
  obtain ⟨d, hd⟩ : ∃ d, l.length - i = d + 1 := ⟨l.length - i - 1, by omega⟩
  rw [show l.length - (i + 1) = d by omega, hd, Nat.add_mul]
  omega
theorem infoSight : (Try.prog.info? 56).map (fun i => (i.zero, i.size, i.bytes)) = some (some (.agg (vals .u8 (zs 6))), 6, 6) := by kernel_rfl
theorem aggRaw : AggTy Try.prog 55 6 := ⟨by kernel_rfl, by kernel_rfl⟩
theorem gt_make {P : Program} {ops : Array Oper} {rest : List Oper} {a : Act} {w : World} {Q : Exit → Act → World → Prop} {dst : Option Tmp} {x y : Operand} {tt : TypeId} {pos : String} {after : Array Edge} {g : Option (Nat × Bool)} (ty : Nat) (h : wpList P ops Q (⟨dst, .makeSlice ty x y, tt, pos, after, g⟩ :: rest) a w) : wpList P ops Q (⟨dst, .makeSlice ty x y, tt, pos, after, g⟩ :: rest) a w := h
set_option maxHeartbeats 4000000 in
set_option maxRecDepth 100000 in
theorem toSightS_calls (A : Option Addr) (c : Nat) (l : List (List Int)) (w : World) (hr : Kd.C (kA .u8 6) w A l.length l) (hl6 : ∀ x ∈ l, x.length = 6) (hn : l.length ≤ 1048576) :
    Calls Try.prog 8 #[.slice A l.length c] w fun e w' => ∃ A2, e = .returned (.slice A2 l.length l.length) ∧ Kd.C (kA .u8 6) w' A2 l.length l ∧ Below w.heap.size w w' := by
  have hm := Mem.start w
  have HR := Aside0.mk hr
  have HL := Aside0.mk hl6
  clear hr hl6
  go_enter Try.func8, Try.ntmps8
  go_wp2_with ((with_reducible refine gt_make 26 ?_); refine st_make rfl 26 56 _ _ rfl (n := l.length) rfl rfl Try.underlying26 infoSight (by omega) (by omega) (by omega) hm ?_; clear hm; intro g w1 hm)
  go_loopw [4] (fun v4 wr => ∃ i : Nat, i ≤ l.length ∧ v4 = .int .i64 i ∧ Aside0 (Mem w wr [⟨g, vals .u8 ((l.take i).flatten ++ zs ((l.length - i) * 6)), 56, true⟩])) (fun v4 _ => l.length - (intOf v4).toNat)
  case atStart => exact ⟨0, by omega, rfl, ⟨by simpa using hm⟩⟩
  case round =>
    clear hm
    obtain ⟨i, hi, rfl, HM⟩ := hrel
    by_cases hlt : i < l.length
    · have HB := Aside0.mk (HM.out.done rfl)
      obtain ⟨ad, rfl, hx6, hcell⟩ := at_A (Kd.C_below HR.out HB.out) i hlt
      have HC := Aside0.mk (cells_of (p := ad.add (i * 6)) (k := .u8) (x := ra l i) (by rw [hx6]; exact hcell))
      have HX6 := Aside0.mk hx6
      have HX7 := Aside0.mk (show ((ra l i).map (Value.int .u8)).length = 6 by rw [List.length_map]; exact hx6)
      have HT := Aside0.mk (toSight_calls (ra l i) wr hx6)
      have HS := Aside0.mk (flat_step l HL.out i hlt)
      have HLN := Aside0.mk (show i * 6 + 6 ≤ ((l.take i).flatten ++ zs ((l.length - i) * 6)).length by
        rw [List.length_append, zs_length, flat_len (n := 6) _ (fun x hx => HL.out x (List.mem_of_mem_take hx)), List.length_take, Nat.min_eq_left (by omega)]
        omega)
      have hm := HM.out
      clear hcell hx6 HM
      go_wp2_with (first
        | ((with_reducible refine gt_load 55 ?_); refine Kd.event_run rfl (y_loadA (by rfl) (p := ad.add (i * 6)) (by rfl) HC.out aggRaw HX7.out) ?_)
        | (go_at_call 27; refine HT.out.mono ?_; rintro e w5 ⟨rfl, h5⟩; replace hm := hm.after h5; clear h5)
        | ((with_reducible refine gt_store 56 ?_); refine st_put rfl 56 _ _ rfl hm (g := g) (i := i * 6) (S := ra l i) rfl rfl 0 rfl aggSight HX6.out HLN.out ?_; intro w6 hm6; have HM6 := Aside0.mk hm6; clear hm6))
      go_roundw
      case rel => exact ⟨i + 1, by omega, by go_num, ⟨by have := HM6.out; rw [HS.out] at this; exact this⟩⟩
      case measure => simp [intOf]; omega
    · obtain rfl : i = l.length := by omega
      have HG := HM.out.mem (n := 0) rfl
      rw [List.take_length, Nat.sub_self, Nat.zero_mul, show zs 0 = [] from rfl, List.append_nil] at HG
      have HG2 := Aside0.mk HG
      clear HG
      go_wp2_with fail
      go_ret
      exact ⟨some ⟨g, 0, none⟩, rfl, C_of_flat HL.out hn HG2.out, HM.out.done rfl⟩
end Go.Proofs.Ytodgnbcfihifiaa.Arr
