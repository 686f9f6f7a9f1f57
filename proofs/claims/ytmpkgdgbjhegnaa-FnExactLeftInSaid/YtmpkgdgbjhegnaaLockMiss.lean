/- Two lockers: what is missing. No condition. -/
import Derived.Test.YtmpkgdgbjhegnaaLockTwo
import Derived.Test.YtmpkgdgbjhegnaaLockEven2
namespace Go.Proofs.Ytmpkgdgbjhegnaa.Arr
open Go.RowKit Go.Proofs.YtmpkgdgbjhegnaaW.PrintWords Go.Proofs.YtmpkgdgbjhegnaaW.PrintLast Go.Proofs.YtmpkgdgbjhegnaaW.PrintMore Go.Proofs.Ytmpkgdgbjhegnaa.U Go.Proofs.Ytmpkgdgbjhegnaa.B
set_option linter.unusedVariables false
set_option linter.unusedSimpArgs false

/-- What would have to be added at one place. -/
def lack (a b : Int) : Int := if a < b then b - a else 0
theorem lack_b {a b : Int} (ha : 0 ≤ a ∧ a ≤ 1000) (hb : 0 ≤ b ∧ b ≤ 1000) : 0 ≤ lack a b ∧ lack a b ≤ 1000 := by unfold lack; split <;> omega

theorem set_same (L : List Int) (i : Nat) (hi : i < L.length) {v : Int} (h : L[i] = v) : L.set i v = L := by
  apply List.ext_getElem?
  intro j
  by_cases e : i = j
  · subst e
    rw [List.getElem?_set_self hi, List.getElem?_eq_getElem hi, h]
  · rw [List.getElem?_set_ne e]
theorem lens2 : ∀ (n : Nat) (L : List Int), (L.drop n).length = L.length - n := by simp
theorem mix_far (L S : List Int) (off i k : Nat) (h : off + i ≤ k) (hk : k < L.length) (hs : i ≤ S.length) : (mixTo L S off i)[k]? = L[k]? := by
  unfold mixTo
  rw [List.getElem?_append_right (by simp; omega)]
  simp [Nat.min_eq_left hs, Nat.min_eq_left (show off ≤ L.length by omega)]
  congr 1
  omega
/-- Where what was there holds what it held. -/
theorem Mem.keeps {w0 w : World} {M : List Ent} (h : Mem w0 w M) (hk : ∀ e ∈ M, e.own = true ∨ w0.heap[e.g]? = some (.cells e.cs e.t (0, 0))) : Below w0.heap.size w0 w :=
  ⟨h.os, h.tape, h.output, h.size, fun k hkl => by
    by_cases he : ∃ e ∈ M, e.g = k
    · obtain ⟨e, he, rfl⟩ := he
      rcases hk e he with ho | ho
      · have := (h.ent e he).2 ho; omega
      · rw [(h.ent e he).1, ho]
    · exact h.block k hkl fun e hm hg => he ⟨e, hm, hg⟩⟩
/-- What has not been written yet. -/
theorem mix_at (L S : List Int) (off i : Nat) (h : off + i < L.length) (hs : i ≤ S.length) (h0 : ∀ k (hk : k < L.length), off ≤ k → L[k] = 0) (hk : off + i < (mixTo L S off i).length) : (mixTo L S off i)[off + i] = 0 := by
  have e : (mixTo L S off i)[off + i]? = L[off + i]? := by
    unfold mixTo
    rw [List.getElem?_append_right (by simp; omega)]
    simp [Nat.min_eq_left hs, Nat.min_eq_left (show off ≤ L.length by omega)]
  rw [List.getElem?_eq_getElem hk, List.getElem?_eq_getElem h] at e
  rw [Option.some.inj e, h0 _ h (by omega)]
theorem lack_pos {x y : Int} (h : x < y) : lack x y = y - x := if_pos h
theorem lack_neg {x y : Int} (h : ¬ x < y) : lack x y = 0 := if_neg h
set_option maxHeartbeats 8000000 in
set_option maxRecDepth 100000 in
theorem l04Missing_calls (g g' : Nat) (L L' : List Int) (w : World) (hl : L.length = 44) (hl' : L'.length = 44) (hb : ∀ x ∈ L, 0 ≤ x ∧ x ≤ 1000) (hb' : ∀ x ∈ L', 0 ≤ x ∧ x ≤ 1000) (hg : w.heap[g]? = some (.cells (vals .i16 L) 26 (0, 0))) (hg' : w.heap[g']? = some (.cells (vals .i16 L') 26 (0, 0))) (hne : g ≠ g') :
    Calls Try.prog 71 #[.pointer (some ⟨g, 0, none⟩), .pointer (some ⟨g', 0, none⟩)] w fun e w' => e = .returned (.agg (vals .i16 (List.zipWith lack L L'))) ∧ Below w.heap.size w w' := by
  have hm := Mem.given2 hg hg' hne
  have HB := Aside0.mk hb
  have HB' := Aside0.mk hb'
  have HG := Aside0.mk hg
  have HG' := Aside0.mk hg'
  have hz := zip_length lack L L' hl hl'
  clear hb hb' hg hg'
  go_enter Try.func71, Try.ntmps71
  go_wp2_with (first | fail | ((with_reducible refine gt_alloc 4 26 ?_); refine st_alloc rfl 4 rfl 26 rfl hm zero26 ?_; clear hm; intro g4 w4 hm) | ((with_reducible refine gt_build 26 ?_); refine st_zero rfl 26 rfl built26 ?_) | ((with_reducible refine gt_alloc 5 26 ?_); refine st_alloc rfl 5 rfl 26 rfl hm zero26 ?_; clear hm; intro g5 w5 hm) | ((with_reducible refine gt_store 26 ?_); (first | (refine st_full rfl 26 _ _ rfl hm rfl rfl 0 rfl agg26 (by first | omega | assumption | (simp only [lens]; first | omega | assumption) | (simp [lens]; done) | (simp [lens]; omega)) (by first | omega | assumption | (simp only [lens]; first | omega | assumption) | (simp [lens]; done) | (simp [lens]; omega)) ?_) | (refine st_full rfl 26 _ _ rfl hm rfl rfl 1 rfl agg26 (by first | omega | assumption | (simp only [lens]; first | omega | assumption) | (simp [lens]; done) | (simp [lens]; omega)) (by first | omega | assumption | (simp only [lens]; first | omega | assumption) | (simp [lens]; done) | (simp [lens]; omega)) ?_) | (refine st_full rfl 26 _ _ rfl hm rfl rfl 2 rfl agg26 (by first | omega | assumption | (simp only [lens]; first | omega | assumption) | (simp [lens]; done) | (simp [lens]; omega)) (by first | omega | assumption | (simp only [lens]; first | omega | assumption) | (simp [lens]; done) | (simp [lens]; omega)) ?_) | (refine st_full rfl 26 _ _ rfl hm rfl rfl 3 rfl agg26 (by first | omega | assumption | (simp only [lens]; first | omega | assumption) | (simp [lens]; done) | (simp [lens]; omega)) (by first | omega | assumption | (simp only [lens]; first | omega | assumption) | (simp [lens]; done) | (simp [lens]; omega)) ?_)); clear hm; intro ws hm; simp only [List.set_cons_zero, List.set_cons_succ] at hm) | ((with_reducible refine gt_field 26 0 ?_); refine st_field rfl 26 _ 0 rfl rfl field26_0 ?_) | ((with_reducible refine gt_elem 23 ?_); refine st_elem rfl 23 _ _ rfl rfl rfl arr23 (by first | omega | assumption | (simp only [lens]; first | omega | assumption) | (simp [lens]; done) | (simp [lens]; omega)) (by first | omega | assumption | (simp only [lens]; first | omega | assumption) | (simp [lens]; done) | (simp [lens]; omega)) ?_) | ((with_reducible refine gt_load 22 ?_); (first | (refine st_get rfl 22 _ rfl hm rfl 0 rfl one22 (by first | omega | assumption | (simp only [lens]; first | omega | assumption) | (simp [lens]; done) | (simp [lens]; omega)) ?_) | (refine st_get rfl 22 _ rfl hm rfl 1 rfl one22 (by first | omega | assumption | (simp only [lens]; first | omega | assumption) | (simp [lens]; done) | (simp [lens]; omega)) ?_) | (refine st_get rfl 22 _ rfl hm rfl 2 rfl one22 (by first | omega | assumption | (simp only [lens]; first | omega | assumption) | (simp [lens]; done) | (simp [lens]; omega)) ?_) | (refine st_get rfl 22 _ rfl hm rfl 3 rfl one22 (by first | omega | assumption | (simp only [lens]; first | omega | assumption) | (simp [lens]; done) | (simp [lens]; omega)) ?_))) | ((with_reducible refine gt_store 22 ?_); (first | (refine st_set rfl 22 _ _ rfl hm rfl rfl 0 rfl one22 (by first | omega | assumption | (simp only [lens]; first | omega | assumption) | (simp [lens]; done) | (simp [lens]; omega)) ?_) | (refine st_set rfl 22 _ _ rfl hm rfl rfl 1 rfl one22 (by first | omega | assumption | (simp only [lens]; first | omega | assumption) | (simp [lens]; done) | (simp [lens]; omega)) ?_) | (refine st_set rfl 22 _ _ rfl hm rfl rfl 2 rfl one22 (by first | omega | assumption | (simp only [lens]; first | omega | assumption) | (simp [lens]; done) | (simp [lens]; omega)) ?_) | (refine st_set rfl 22 _ _ rfl hm rfl rfl 3 rfl one22 (by first | omega | assumption | (simp only [lens]; first | omega | assumption) | (simp [lens]; done) | (simp [lens]; omega)) ?_)); clear hm; intro ws hm; simp only [List.set_cons_zero, List.set_cons_succ] at hm) | ((with_reducible refine gt_field 26 1 ?_); refine st_field rfl 26 _ 1 rfl rfl field26_1 ?_) | ((with_reducible refine gt_elem 24 ?_); refine st_elem rfl 24 _ _ rfl rfl rfl arr24 (by first | omega | assumption | (simp only [lens]; first | omega | assumption) | (simp [lens]; done) | (simp [lens]; omega)) (by first | omega | assumption | (simp only [lens]; first | omega | assumption) | (simp [lens]; done) | (simp [lens]; omega)) ?_) | ((with_reducible refine gt_load 26 ?_); (first | (refine st_load rfl 26 _ rfl hm rfl 0 rfl agg26 (by first | omega | assumption | (simp only [lens]; first | omega | assumption) | (simp [lens]; done) | (simp [lens]; omega)) ?_) | (refine st_load rfl 26 _ rfl hm rfl 1 rfl agg26 (by first | omega | assumption | (simp only [lens]; first | omega | assumption) | (simp [lens]; done) | (simp [lens]; omega)) ?_) | (refine st_load rfl 26 _ rfl hm rfl 2 rfl agg26 (by first | omega | assumption | (simp only [lens]; first | omega | assumption) | (simp [lens]; done) | (simp [lens]; omega)) ?_) | (refine st_load rfl 26 _ rfl hm rfl 3 rfl agg26 (by first | omega | assumption | (simp only [lens]; first | omega | assumption) | (simp [lens]; done) | (simp [lens]; omega)) ?_))))
  go_loopw [6] (fun v6 wr => ∃ i : Nat, i ≤ 40 ∧ v6 = .int .i64 i ∧ Mem w wr [⟨g5, vals .i16 (mixTo (zs 44) (List.zipWith lack L L') 0 i), 26, true⟩, ⟨g4, vals .i16 (zs 44), 26, true⟩, ⟨g, vals .i16 L, 26, false⟩, ⟨g', vals .i16 L', 26, false⟩]) (fun v6 _ => 40 - (intOf v6).toNat)
  case atStart => exact ⟨0, by omega, rfl, by rw [mixTo_zero]; exact hm⟩
  case round =>
    obtain ⟨i, hi, rfl, hm⟩ := hrel
    have hl2 := mixTo_length (zs 44) (List.zipWith lack L L') 0 i (by rw [zs_length]; omega) (by omega)
    rw [zs_length] at hl2
    by_cases hlt : i < 40
    · have hc1 := hm.get (n := 2) rfl (i) (by omega)
      have hc2 := hm.get (n := 3) rfl (i) (by omega)
      have HZ := Aside0.mk (rd_zip lack L L' i (by omega) (by omega))
      have hx := HB.out _ (rd_in L (i) (by omega))
      have hy := HB'.out _ (rd_in L' (i) (by omega))
      generalize hX : rd L (i : Int) = x at *
      generalize hY : rd L' (i : Int) = y at *
      have HX := Aside0.mk hX
      have HY := Aside0.mk hY
      have HW := Aside0.mk (show IntKind.i16.wrap (max (y - x) 0) = max (y - x) 0 from w16_small (by omega) (by omega))
      clear hX hY
      by_cases hxy : x < y
      · have hd := decide_eq_true hxy
        have HW2 := Aside0.mk (show IntKind.i16.wrap (y - x) = y - x from w16_small (by omega) (by omega))
        have HM := Aside0.mk hm
        clear hm
        go_wp2
        go_quiet (fail)
        have hm := HM.out.drawn (wr.drawn + nq)
        replace hm : Mem w (wr.drewN nq) _ := hm
        have hd1 := hm.get (n := 2) rfl (i) (by omega)
        have hd2 := hm.get (n := 3) rfl (i) (by omega)
        rw [HX.out] at hd1
        rw [HY.out] at hd2
        clear HM hc1 hc2
        generalize wr.drewN nq = w2 at *
        have HM := Aside0.mk hm
        clear hm
        go_wp2
        go_still_tail 16, (by kernel_rfl)
        have hm := HM.out.drawn (w2.drawn + 1)
        go_wp2_with (first | fail | ((with_reducible refine gt_alloc 4 26 ?_); refine st_alloc rfl 4 rfl 26 rfl hm zero26 ?_; clear hm; intro g4 w4 hm) | ((with_reducible refine gt_build 26 ?_); refine st_zero rfl 26 rfl built26 ?_) | ((with_reducible refine gt_alloc 5 26 ?_); refine st_alloc rfl 5 rfl 26 rfl hm zero26 ?_; clear hm; intro g5 w5 hm) | ((with_reducible refine gt_store 26 ?_); (first | (refine st_full rfl 26 _ _ rfl hm rfl rfl 0 rfl agg26 (by first | omega | assumption | (simp only [lens]; first | omega | assumption) | (simp [lens]; done) | (simp [lens]; omega)) (by first | omega | assumption | (simp only [lens]; first | omega | assumption) | (simp [lens]; done) | (simp [lens]; omega)) ?_) | (refine st_full rfl 26 _ _ rfl hm rfl rfl 1 rfl agg26 (by first | omega | assumption | (simp only [lens]; first | omega | assumption) | (simp [lens]; done) | (simp [lens]; omega)) (by first | omega | assumption | (simp only [lens]; first | omega | assumption) | (simp [lens]; done) | (simp [lens]; omega)) ?_) | (refine st_full rfl 26 _ _ rfl hm rfl rfl 2 rfl agg26 (by first | omega | assumption | (simp only [lens]; first | omega | assumption) | (simp [lens]; done) | (simp [lens]; omega)) (by first | omega | assumption | (simp only [lens]; first | omega | assumption) | (simp [lens]; done) | (simp [lens]; omega)) ?_) | (refine st_full rfl 26 _ _ rfl hm rfl rfl 3 rfl agg26 (by first | omega | assumption | (simp only [lens]; first | omega | assumption) | (simp [lens]; done) | (simp [lens]; omega)) (by first | omega | assumption | (simp only [lens]; first | omega | assumption) | (simp [lens]; done) | (simp [lens]; omega)) ?_)); clear hm; intro ws hm; simp only [List.set_cons_zero, List.set_cons_succ] at hm) | ((with_reducible refine gt_field 26 0 ?_); refine st_field rfl 26 _ 0 rfl rfl field26_0 ?_) | ((with_reducible refine gt_elem 23 ?_); refine st_elem rfl 23 _ _ rfl rfl rfl arr23 (by first | omega | assumption | (simp only [lens]; first | omega | assumption) | (simp [lens]; done) | (simp [lens]; omega)) (by first | omega | assumption | (simp only [lens]; first | omega | assumption) | (simp [lens]; done) | (simp [lens]; omega)) ?_) | ((with_reducible refine gt_load 22 ?_); (first | (refine st_get rfl 22 _ rfl hm rfl 0 rfl one22 (by first | omega | assumption | (simp only [lens]; first | omega | assumption) | (simp [lens]; done) | (simp [lens]; omega)) ?_) | (refine st_get rfl 22 _ rfl hm rfl 1 rfl one22 (by first | omega | assumption | (simp only [lens]; first | omega | assumption) | (simp [lens]; done) | (simp [lens]; omega)) ?_) | (refine st_get rfl 22 _ rfl hm rfl 2 rfl one22 (by first | omega | assumption | (simp only [lens]; first | omega | assumption) | (simp [lens]; done) | (simp [lens]; omega)) ?_) | (refine st_get rfl 22 _ rfl hm rfl 3 rfl one22 (by first | omega | assumption | (simp only [lens]; first | omega | assumption) | (simp [lens]; done) | (simp [lens]; omega)) ?_))) | ((with_reducible refine gt_store 22 ?_); (first | (refine st_set rfl 22 _ _ rfl hm rfl rfl 0 rfl one22 (by first | omega | assumption | (simp only [lens]; first | omega | assumption) | (simp [lens]; done) | (simp [lens]; omega)) ?_) | (refine st_set rfl 22 _ _ rfl hm rfl rfl 1 rfl one22 (by first | omega | assumption | (simp only [lens]; first | omega | assumption) | (simp [lens]; done) | (simp [lens]; omega)) ?_) | (refine st_set rfl 22 _ _ rfl hm rfl rfl 2 rfl one22 (by first | omega | assumption | (simp only [lens]; first | omega | assumption) | (simp [lens]; done) | (simp [lens]; omega)) ?_) | (refine st_set rfl 22 _ _ rfl hm rfl rfl 3 rfl one22 (by first | omega | assumption | (simp only [lens]; first | omega | assumption) | (simp [lens]; done) | (simp [lens]; omega)) ?_)); clear hm; intro ws hm; simp only [List.set_cons_zero, List.set_cons_succ] at hm) | ((with_reducible refine gt_field 26 1 ?_); refine st_field rfl 26 _ 1 rfl rfl field26_1 ?_) | ((with_reducible refine gt_elem 24 ?_); refine st_elem rfl 24 _ _ rfl rfl rfl arr24 (by first | omega | assumption | (simp only [lens]; first | omega | assumption) | (simp [lens]; done) | (simp [lens]; omega)) (by first | omega | assumption | (simp only [lens]; first | omega | assumption) | (simp [lens]; done) | (simp [lens]; omega)) ?_) | ((with_reducible refine gt_load 26 ?_); (first | (refine st_load rfl 26 _ rfl hm rfl 0 rfl agg26 (by first | omega | assumption | (simp only [lens]; first | omega | assumption) | (simp [lens]; done) | (simp [lens]; omega)) ?_) | (refine st_load rfl 26 _ rfl hm rfl 1 rfl agg26 (by first | omega | assumption | (simp only [lens]; first | omega | assumption) | (simp [lens]; done) | (simp [lens]; omega)) ?_) | (refine st_load rfl 26 _ rfl hm rfl 2 rfl agg26 (by first | omega | assumption | (simp only [lens]; first | omega | assumption) | (simp [lens]; done) | (simp [lens]; omega)) ?_) | (refine st_load rfl 26 _ rfl hm rfl 3 rfl agg26 (by first | omega | assumption | (simp only [lens]; first | omega | assumption) | (simp [lens]; done) | (simp [lens]; omega)) ?_))))
        go_roundw
        case rel =>
          refine ⟨i + 1, by omega, by go_num, ?_⟩
          rw [HW2.out] at hm
          rw [← mixTo_succ (zs 44) (List.zipWith lack L L') 0 i (by rw [zs_length]; omega) (by omega), HZ.out, lack_pos hxy]
          simpa using hm
        case measure => simp [intOf]; omega
      · have hd := decide_eq_false hxy
        have HM := Aside0.mk hm
        have HS := Aside0.mk (show mixTo (zs 44) (List.zipWith lack L L') 0 i = mixTo (zs 44) (List.zipWith lack L L') 0 (i + 1) by
          have e := mixTo_succ (zs 44) (List.zipWith lack L L') 0 i (by rw [zs_length]; omega) (by omega)
          rw [HZ.out, lack_neg hxy] at e
          rw [← e]
          exact (set_same _ _ (by omega) (mix_at (zs 44) (List.zipWith lack L L') 0 i (by rw [zs_length]; omega) (by omega) (fun k hk _ => List.getElem_replicate _) _)).symm)
        clear hm
        go_wp2
        go_quiet (fail)
        go_wp2
        go_roundw
        case rel => exact ⟨i + 1, by omega, by go_num, by rw [← HS.out]; exact HM.out.drawn (wr.drawn + nq)⟩
        case measure => simp [intOf]; omega
    · have HI := Aside0.mk (show i = 40 by omega)
      have HF0 : Aside0 (∀ k (hk : k < (mixTo (zs 44) (List.zipWith lack L L') 0 i).length), 40 ≤ k → (mixTo (zs 44) (List.zipWith lack L L') 0 i)[k] = 0) := ⟨fun k hk h40 => by
        have e := mix_far (zs 44) (List.zipWith lack L L') 0 i k (by omega) (by rw [zs_length]; omega) (by omega)
        rw [List.getElem?_eq_getElem hk, List.getElem?_eq_getElem (by rw [zs_length]; omega)] at e
        rw [Option.some.inj e]
        exact List.getElem_replicate _⟩
      generalize hF : mixTo (zs 44) (List.zipWith lack L L') 0 i = F at *
      have HF := Aside0.mk hF
      clear hF
      go_wp2_with (first | fail | ((with_reducible refine gt_alloc 4 26 ?_); refine st_alloc rfl 4 rfl 26 rfl hm zero26 ?_; clear hm; intro g4 w4 hm) | ((with_reducible refine gt_build 26 ?_); refine st_zero rfl 26 rfl built26 ?_) | ((with_reducible refine gt_alloc 5 26 ?_); refine st_alloc rfl 5 rfl 26 rfl hm zero26 ?_; clear hm; intro g5 w5 hm) | ((with_reducible refine gt_store 26 ?_); (first | (refine st_full rfl 26 _ _ rfl hm rfl rfl 0 rfl agg26 (by first | omega | assumption | (simp only [lens]; first | omega | assumption) | (simp [lens]; done) | (simp [lens]; omega)) (by first | omega | assumption | (simp only [lens]; first | omega | assumption) | (simp [lens]; done) | (simp [lens]; omega)) ?_) | (refine st_full rfl 26 _ _ rfl hm rfl rfl 1 rfl agg26 (by first | omega | assumption | (simp only [lens]; first | omega | assumption) | (simp [lens]; done) | (simp [lens]; omega)) (by first | omega | assumption | (simp only [lens]; first | omega | assumption) | (simp [lens]; done) | (simp [lens]; omega)) ?_) | (refine st_full rfl 26 _ _ rfl hm rfl rfl 2 rfl agg26 (by first | omega | assumption | (simp only [lens]; first | omega | assumption) | (simp [lens]; done) | (simp [lens]; omega)) (by first | omega | assumption | (simp only [lens]; first | omega | assumption) | (simp [lens]; done) | (simp [lens]; omega)) ?_) | (refine st_full rfl 26 _ _ rfl hm rfl rfl 3 rfl agg26 (by first | omega | assumption | (simp only [lens]; first | omega | assumption) | (simp [lens]; done) | (simp [lens]; omega)) (by first | omega | assumption | (simp only [lens]; first | omega | assumption) | (simp [lens]; done) | (simp [lens]; omega)) ?_)); clear hm; intro ws hm; simp only [List.set_cons_zero, List.set_cons_succ] at hm) | ((with_reducible refine gt_field 26 0 ?_); refine st_field rfl 26 _ 0 rfl rfl field26_0 ?_) | ((with_reducible refine gt_elem 23 ?_); refine st_elem rfl 23 _ _ rfl rfl rfl arr23 (by first | omega | assumption | (simp only [lens]; first | omega | assumption) | (simp [lens]; done) | (simp [lens]; omega)) (by first | omega | assumption | (simp only [lens]; first | omega | assumption) | (simp [lens]; done) | (simp [lens]; omega)) ?_) | ((with_reducible refine gt_load 22 ?_); (first | (refine st_get rfl 22 _ rfl hm rfl 0 rfl one22 (by first | omega | assumption | (simp only [lens]; first | omega | assumption) | (simp [lens]; done) | (simp [lens]; omega)) ?_) | (refine st_get rfl 22 _ rfl hm rfl 1 rfl one22 (by first | omega | assumption | (simp only [lens]; first | omega | assumption) | (simp [lens]; done) | (simp [lens]; omega)) ?_) | (refine st_get rfl 22 _ rfl hm rfl 2 rfl one22 (by first | omega | assumption | (simp only [lens]; first | omega | assumption) | (simp [lens]; done) | (simp [lens]; omega)) ?_) | (refine st_get rfl 22 _ rfl hm rfl 3 rfl one22 (by first | omega | assumption | (simp only [lens]; first | omega | assumption) | (simp [lens]; done) | (simp [lens]; omega)) ?_))) | ((with_reducible refine gt_store 22 ?_); (first | (refine st_set rfl 22 _ _ rfl hm rfl rfl 0 rfl one22 (by first | omega | assumption | (simp only [lens]; first | omega | assumption) | (simp [lens]; done) | (simp [lens]; omega)) ?_) | (refine st_set rfl 22 _ _ rfl hm rfl rfl 1 rfl one22 (by first | omega | assumption | (simp only [lens]; first | omega | assumption) | (simp [lens]; done) | (simp [lens]; omega)) ?_) | (refine st_set rfl 22 _ _ rfl hm rfl rfl 2 rfl one22 (by first | omega | assumption | (simp only [lens]; first | omega | assumption) | (simp [lens]; done) | (simp [lens]; omega)) ?_) | (refine st_set rfl 22 _ _ rfl hm rfl rfl 3 rfl one22 (by first | omega | assumption | (simp only [lens]; first | omega | assumption) | (simp [lens]; done) | (simp [lens]; omega)) ?_)); clear hm; intro ws hm; simp only [List.set_cons_zero, List.set_cons_succ] at hm) | ((with_reducible refine gt_field 26 1 ?_); refine st_field rfl 26 _ 1 rfl rfl field26_1 ?_) | ((with_reducible refine gt_elem 24 ?_); refine st_elem rfl 24 _ _ rfl rfl rfl arr24 (by first | omega | assumption | (simp only [lens]; first | omega | assumption) | (simp [lens]; done) | (simp [lens]; omega)) (by first | omega | assumption | (simp only [lens]; first | omega | assumption) | (simp [lens]; done) | (simp [lens]; omega)) ?_) | ((with_reducible refine gt_load 26 ?_); (first | (refine st_load rfl 26 _ rfl hm rfl 0 rfl agg26 (by first | omega | assumption | (simp only [lens]; first | omega | assumption) | (simp [lens]; done) | (simp [lens]; omega)) ?_) | (refine st_load rfl 26 _ rfl hm rfl 1 rfl agg26 (by first | omega | assumption | (simp only [lens]; first | omega | assumption) | (simp [lens]; done) | (simp [lens]; omega)) ?_) | (refine st_load rfl 26 _ rfl hm rfl 2 rfl agg26 (by first | omega | assumption | (simp only [lens]; first | omega | assumption) | (simp [lens]; done) | (simp [lens]; omega)) ?_) | (refine st_load rfl 26 _ rfl hm rfl 3 rfl agg26 (by first | omega | assumption | (simp only [lens]; first | omega | assumption) | (simp [lens]; done) | (simp [lens]; omega)) ?_))))
      go_loopw [7] (fun v7 wr => ∃ i : Nat, i ≤ 4 ∧ v7 = .int .i64 i ∧ Mem w wr [⟨g5, vals .i16 (mixTo F ((List.zipWith lack L L').drop 40) 40 i), 26, true⟩, ⟨g4, vals .i16 (zs 44), 26, true⟩, ⟨g, vals .i16 L, 26, false⟩, ⟨g', vals .i16 L', 26, false⟩]) (fun v7 _ => 4 - (intOf v7).toNat)
      case atStart => exact ⟨0, by omega, rfl, by rw [mixTo_zero]; exact hm⟩
      case round =>
        obtain ⟨i2, hi2, rfl, hm⟩ := hrel
        have hl3 := mixTo_length F ((List.zipWith lack L L').drop 40) 40 i2 (by omega) (by simp only [lens2]; omega)
        by_cases hlt : i2 < 4
        · have hc1 := hm.get (n := 2) rfl (40 + i2) (by omega)
          have hc2 := hm.get (n := 3) rfl (40 + i2) (by omega)
          have HZ := Aside0.mk ((rd_drop (List.zipWith lack L L') i2 40 (by omega)).trans (rd_zip lack L L' (40 + i2) (by omega) (by omega)))
          have hx := HB.out _ (rd_in L (40 + i2) (by omega))
          have hy := HB'.out _ (rd_in L' (40 + i2) (by omega))
          generalize hX : rd L ((40 + i2 : Nat) : Int) = x at *
          generalize hY : rd L' ((40 + i2 : Nat) : Int) = y at *
          have HX := Aside0.mk hX
          have HY := Aside0.mk hY
          have HW := Aside0.mk (show IntKind.i16.wrap (max (y - x) 0) = max (y - x) 0 from w16_small (by omega) (by omega))
          clear hX hY
          by_cases hxy : x < y
          · have hd := decide_eq_true hxy
            have HW2 := Aside0.mk (show IntKind.i16.wrap (y - x) = y - x from w16_small (by omega) (by omega))
            have HM := Aside0.mk hm
            clear hm
            go_wp2
            go_quiet (fail)
            have hm := HM.out.drawn (wr.drawn + nq)
            replace hm : Mem w (wr.drewN nq) _ := hm
            have hd1 := hm.get (n := 2) rfl (40 + i2) (by omega)
            have hd2 := hm.get (n := 3) rfl (40 + i2) (by omega)
            rw [HX.out] at hd1
            rw [HY.out] at hd2
            clear HM hc1 hc2
            generalize wr.drewN nq = w2 at *
            have HM := Aside0.mk hm
            clear hm
            go_wp2
            go_still_tail 16, (by kernel_rfl)
            have hm := HM.out.drawn (w2.drawn + 1)
            go_wp2_with (first | fail | ((with_reducible refine gt_alloc 4 26 ?_); refine st_alloc rfl 4 rfl 26 rfl hm zero26 ?_; clear hm; intro g4 w4 hm) | ((with_reducible refine gt_build 26 ?_); refine st_zero rfl 26 rfl built26 ?_) | ((with_reducible refine gt_alloc 5 26 ?_); refine st_alloc rfl 5 rfl 26 rfl hm zero26 ?_; clear hm; intro g5 w5 hm) | ((with_reducible refine gt_store 26 ?_); (first | (refine st_full rfl 26 _ _ rfl hm rfl rfl 0 rfl agg26 (by first | omega | assumption | (simp only [lens]; first | omega | assumption) | (simp [lens]; done) | (simp [lens]; omega)) (by first | omega | assumption | (simp only [lens]; first | omega | assumption) | (simp [lens]; done) | (simp [lens]; omega)) ?_) | (refine st_full rfl 26 _ _ rfl hm rfl rfl 1 rfl agg26 (by first | omega | assumption | (simp only [lens]; first | omega | assumption) | (simp [lens]; done) | (simp [lens]; omega)) (by first | omega | assumption | (simp only [lens]; first | omega | assumption) | (simp [lens]; done) | (simp [lens]; omega)) ?_) | (refine st_full rfl 26 _ _ rfl hm rfl rfl 2 rfl agg26 (by first | omega | assumption | (simp only [lens]; first | omega | assumption) | (simp [lens]; done) | (simp [lens]; omega)) (by first | omega | assumption | (simp only [lens]; first | omega | assumption) | (simp [lens]; done) | (simp [lens]; omega)) ?_) | (refine st_full rfl 26 _ _ rfl hm rfl rfl 3 rfl agg26 (by first | omega | assumption | (simp only [lens]; first | omega | assumption) | (simp [lens]; done) | (simp [lens]; omega)) (by first | omega | assumption | (simp only [lens]; first | omega | assumption) | (simp [lens]; done) | (simp [lens]; omega)) ?_)); clear hm; intro ws hm; simp only [List.set_cons_zero, List.set_cons_succ] at hm) | ((with_reducible refine gt_field 26 0 ?_); refine st_field rfl 26 _ 0 rfl rfl field26_0 ?_) | ((with_reducible refine gt_elem 23 ?_); refine st_elem rfl 23 _ _ rfl rfl rfl arr23 (by first | omega | assumption | (simp only [lens]; first | omega | assumption) | (simp [lens]; done) | (simp [lens]; omega)) (by first | omega | assumption | (simp only [lens]; first | omega | assumption) | (simp [lens]; done) | (simp [lens]; omega)) ?_) | ((with_reducible refine gt_load 22 ?_); (first | (refine st_get rfl 22 _ rfl hm rfl 0 rfl one22 (by first | omega | assumption | (simp only [lens]; first | omega | assumption) | (simp [lens]; done) | (simp [lens]; omega)) ?_) | (refine st_get rfl 22 _ rfl hm rfl 1 rfl one22 (by first | omega | assumption | (simp only [lens]; first | omega | assumption) | (simp [lens]; done) | (simp [lens]; omega)) ?_) | (refine st_get rfl 22 _ rfl hm rfl 2 rfl one22 (by first | omega | assumption | (simp only [lens]; first | omega | assumption) | (simp [lens]; done) | (simp [lens]; omega)) ?_) | (refine st_get rfl 22 _ rfl hm rfl 3 rfl one22 (by first | omega | assumption | (simp only [lens]; first | omega | assumption) | (simp [lens]; done) | (simp [lens]; omega)) ?_))) | ((with_reducible refine gt_store 22 ?_); (first | (refine st_set rfl 22 _ _ rfl hm rfl rfl 0 rfl one22 (by first | omega | assumption | (simp only [lens]; first | omega | assumption) | (simp [lens]; done) | (simp [lens]; omega)) ?_) | (refine st_set rfl 22 _ _ rfl hm rfl rfl 1 rfl one22 (by first | omega | assumption | (simp only [lens]; first | omega | assumption) | (simp [lens]; done) | (simp [lens]; omega)) ?_) | (refine st_set rfl 22 _ _ rfl hm rfl rfl 2 rfl one22 (by first | omega | assumption | (simp only [lens]; first | omega | assumption) | (simp [lens]; done) | (simp [lens]; omega)) ?_) | (refine st_set rfl 22 _ _ rfl hm rfl rfl 3 rfl one22 (by first | omega | assumption | (simp only [lens]; first | omega | assumption) | (simp [lens]; done) | (simp [lens]; omega)) ?_)); clear hm; intro ws hm; simp only [List.set_cons_zero, List.set_cons_succ] at hm) | ((with_reducible refine gt_field 26 1 ?_); refine st_field rfl 26 _ 1 rfl rfl field26_1 ?_) | ((with_reducible refine gt_elem 24 ?_); refine st_elem rfl 24 _ _ rfl rfl rfl arr24 (by first | omega | assumption | (simp only [lens]; first | omega | assumption) | (simp [lens]; done) | (simp [lens]; omega)) (by first | omega | assumption | (simp only [lens]; first | omega | assumption) | (simp [lens]; done) | (simp [lens]; omega)) ?_) | ((with_reducible refine gt_load 26 ?_); (first | (refine st_load rfl 26 _ rfl hm rfl 0 rfl agg26 (by first | omega | assumption | (simp only [lens]; first | omega | assumption) | (simp [lens]; done) | (simp [lens]; omega)) ?_) | (refine st_load rfl 26 _ rfl hm rfl 1 rfl agg26 (by first | omega | assumption | (simp only [lens]; first | omega | assumption) | (simp [lens]; done) | (simp [lens]; omega)) ?_) | (refine st_load rfl 26 _ rfl hm rfl 2 rfl agg26 (by first | omega | assumption | (simp only [lens]; first | omega | assumption) | (simp [lens]; done) | (simp [lens]; omega)) ?_) | (refine st_load rfl 26 _ rfl hm rfl 3 rfl agg26 (by first | omega | assumption | (simp only [lens]; first | omega | assumption) | (simp [lens]; done) | (simp [lens]; omega)) ?_))))
            go_roundw
            case rel =>
              refine ⟨i2 + 1, by omega, by go_num, ?_⟩
              rw [HW2.out] at hm
              rw [← mixTo_succ F ((List.zipWith lack L L').drop 40) 40 i2 (by omega) (by simp only [lens2]; omega), HZ.out, lack_pos hxy]
              simpa using hm
            case measure => simp [intOf]; omega
          · have hd := decide_eq_false hxy
            have HM := Aside0.mk hm
            have HS := Aside0.mk (show mixTo F ((List.zipWith lack L L').drop 40) 40 i2 = mixTo F ((List.zipWith lack L L').drop 40) 40 (i2 + 1) by
              have e := mixTo_succ F ((List.zipWith lack L L').drop 40) 40 i2 (by omega) (by simp only [lens2]; omega)
              rw [HZ.out, lack_neg hxy] at e
              rw [← e]
              exact (set_same _ _ (by omega) (mix_at F ((List.zipWith lack L L').drop 40) 40 i2 (by omega) (by simp only [lens2]; omega) HF0.out _)).symm)
            clear hm
            go_wp2
            go_quiet (fail)
            go_wp2
            go_roundw
            case rel => exact ⟨i2 + 1, by omega, by go_num, by rw [← HS.out]; exact HM.out.drawn (wr.drawn + nq)⟩
            case measure => simp [intOf]; omega
        · have HI2 := Aside0.mk (show i2 = 4 by omega)
          go_wp2_with (first | fail | ((with_reducible refine gt_alloc 4 26 ?_); refine st_alloc rfl 4 rfl 26 rfl hm zero26 ?_; clear hm; intro g4 w4 hm) | ((with_reducible refine gt_build 26 ?_); refine st_zero rfl 26 rfl built26 ?_) | ((with_reducible refine gt_alloc 5 26 ?_); refine st_alloc rfl 5 rfl 26 rfl hm zero26 ?_; clear hm; intro g5 w5 hm) | ((with_reducible refine gt_store 26 ?_); (first | (refine st_full rfl 26 _ _ rfl hm rfl rfl 0 rfl agg26 (by first | omega | assumption | (simp only [lens]; first | omega | assumption) | (simp [lens]; done) | (simp [lens]; omega)) (by first | omega | assumption | (simp only [lens]; first | omega | assumption) | (simp [lens]; done) | (simp [lens]; omega)) ?_) | (refine st_full rfl 26 _ _ rfl hm rfl rfl 1 rfl agg26 (by first | omega | assumption | (simp only [lens]; first | omega | assumption) | (simp [lens]; done) | (simp [lens]; omega)) (by first | omega | assumption | (simp only [lens]; first | omega | assumption) | (simp [lens]; done) | (simp [lens]; omega)) ?_) | (refine st_full rfl 26 _ _ rfl hm rfl rfl 2 rfl agg26 (by first | omega | assumption | (simp only [lens]; first | omega | assumption) | (simp [lens]; done) | (simp [lens]; omega)) (by first | omega | assumption | (simp only [lens]; first | omega | assumption) | (simp [lens]; done) | (simp [lens]; omega)) ?_) | (refine st_full rfl 26 _ _ rfl hm rfl rfl 3 rfl agg26 (by first | omega | assumption | (simp only [lens]; first | omega | assumption) | (simp [lens]; done) | (simp [lens]; omega)) (by first | omega | assumption | (simp only [lens]; first | omega | assumption) | (simp [lens]; done) | (simp [lens]; omega)) ?_)); clear hm; intro ws hm; simp only [List.set_cons_zero, List.set_cons_succ] at hm) | ((with_reducible refine gt_field 26 0 ?_); refine st_field rfl 26 _ 0 rfl rfl field26_0 ?_) | ((with_reducible refine gt_elem 23 ?_); refine st_elem rfl 23 _ _ rfl rfl rfl arr23 (by first | omega | assumption | (simp only [lens]; first | omega | assumption) | (simp [lens]; done) | (simp [lens]; omega)) (by first | omega | assumption | (simp only [lens]; first | omega | assumption) | (simp [lens]; done) | (simp [lens]; omega)) ?_) | ((with_reducible refine gt_load 22 ?_); (first | (refine st_get rfl 22 _ rfl hm rfl 0 rfl one22 (by first | omega | assumption | (simp only [lens]; first | omega | assumption) | (simp [lens]; done) | (simp [lens]; omega)) ?_) | (refine st_get rfl 22 _ rfl hm rfl 1 rfl one22 (by first | omega | assumption | (simp only [lens]; first | omega | assumption) | (simp [lens]; done) | (simp [lens]; omega)) ?_) | (refine st_get rfl 22 _ rfl hm rfl 2 rfl one22 (by first | omega | assumption | (simp only [lens]; first | omega | assumption) | (simp [lens]; done) | (simp [lens]; omega)) ?_) | (refine st_get rfl 22 _ rfl hm rfl 3 rfl one22 (by first | omega | assumption | (simp only [lens]; first | omega | assumption) | (simp [lens]; done) | (simp [lens]; omega)) ?_))) | ((with_reducible refine gt_store 22 ?_); (first | (refine st_set rfl 22 _ _ rfl hm rfl rfl 0 rfl one22 (by first | omega | assumption | (simp only [lens]; first | omega | assumption) | (simp [lens]; done) | (simp [lens]; omega)) ?_) | (refine st_set rfl 22 _ _ rfl hm rfl rfl 1 rfl one22 (by first | omega | assumption | (simp only [lens]; first | omega | assumption) | (simp [lens]; done) | (simp [lens]; omega)) ?_) | (refine st_set rfl 22 _ _ rfl hm rfl rfl 2 rfl one22 (by first | omega | assumption | (simp only [lens]; first | omega | assumption) | (simp [lens]; done) | (simp [lens]; omega)) ?_) | (refine st_set rfl 22 _ _ rfl hm rfl rfl 3 rfl one22 (by first | omega | assumption | (simp only [lens]; first | omega | assumption) | (simp [lens]; done) | (simp [lens]; omega)) ?_)); clear hm; intro ws hm; simp only [List.set_cons_zero, List.set_cons_succ] at hm) | ((with_reducible refine gt_field 26 1 ?_); refine st_field rfl 26 _ 1 rfl rfl field26_1 ?_) | ((with_reducible refine gt_elem 24 ?_); refine st_elem rfl 24 _ _ rfl rfl rfl arr24 (by first | omega | assumption | (simp only [lens]; first | omega | assumption) | (simp [lens]; done) | (simp [lens]; omega)) (by first | omega | assumption | (simp only [lens]; first | omega | assumption) | (simp [lens]; done) | (simp [lens]; omega)) ?_) | ((with_reducible refine gt_load 26 ?_); (first | (refine st_load rfl 26 _ rfl hm rfl 0 rfl agg26 (by first | omega | assumption | (simp only [lens]; first | omega | assumption) | (simp [lens]; done) | (simp [lens]; omega)) ?_) | (refine st_load rfl 26 _ rfl hm rfl 1 rfl agg26 (by first | omega | assumption | (simp only [lens]; first | omega | assumption) | (simp [lens]; done) | (simp [lens]; omega)) ?_) | (refine st_load rfl 26 _ rfl hm rfl 2 rfl agg26 (by first | omega | assumption | (simp only [lens]; first | omega | assumption) | (simp [lens]; done) | (simp [lens]; omega)) ?_) | (refine st_load rfl 26 _ rfl hm rfl 3 rfl agg26 (by first | omega | assumption | (simp only [lens]; first | omega | assumption) | (simp [lens]; done) | (simp [lens]; omega)) ?_))))
          ((try simp only [Exit.inBlock, Exit.then]); (first | (refine ret_cell hm rfl rfl 1 rfl agg26 (by first | omega | assumption | (simp only [lens]; first | omega | assumption) | (simp [lens]; done) | (simp [lens]; omega)) rfl ?_) | (refine ret_cell_tmp hm rfl rfl 1 rfl agg26 (by first | omega | assumption | (simp only [lens]; first | omega | assumption) | (simp [lens]; done) | (simp [lens]; omega)) rfl ?_)))
          refine ⟨by rw [← HF.out, HI.out, HI2.out, mix_all _ hz], ?_⟩
          refine hm.keeps fun e he => ?_
          simp only [List.mem_cons, List.not_mem_nil, or_false] at he
          rcases he with rfl | rfl | rfl | rfl
          · exact Or.inl rfl
          · exact Or.inl rfl
          · exact Or.inr HG.out
          · exact Or.inr HG'.out
theorem okL_k {L : List Int} (h : okL L = true) : ∀ x ∈ L, 0 ≤ x ∧ x ≤ 1000 := fun x hx => by have := okL_in h x hx; omega
theorem lacks_small {L L' : List Int} (hl : L.length = 44) (hl' : L'.length = 44) (hb : ∀ x ∈ L, 0 ≤ x ∧ x ≤ 1000) (hb' : ∀ x ∈ L', 0 ≤ x ∧ x ≤ 1000) :
    (List.zipWith (fun a b => mx (wrap64 (b - a)) 0) L L').map w16 = List.zipWith lack L L' := by
  refine list_eq (n := 44) (by rw [List.length_map]; exact zip_length _ _ _ hl hl') (zip_length _ _ _ hl hl') fun j hj => ?_
  have h1 := hb _ (rd_in L j (by omega))
  have h2 := hb' _ (rd_in L' j (by omega))
  rw [rd_map _ _ _ (by rw [zip_length _ _ _ hl hl']; exact hj), rd_zip _ L L' j (by omega) (by omega), rd_zip _ L L' j (by omega) (by omega), w64 (by omega) (by omega)]
  unfold mx lack
  split <;> split <;> first | (exact w16_small (by omega) (by omega)) | omega | (rw [w16_small (by omega) (by omega)]; omega)

set_option maxHeartbeats 4000000 in
set_option maxRecDepth 100000 in
theorem specMissing_calls (L L' : List Int) (w : World) (hl : L.length = 44) (hw : Fits .i16 L) (hl' : L'.length = 44) (hw' : Fits .i16 L') : Calls Try.prog 33 #[.agg (vals .i16 L), .agg (vals .i16 L')] w fun e w' =>
    e = .returned (if okL L = true ∧ okL L' = true then .tuple #[.agg (vals .i16 (List.zipWith lack L L')), .int .i64 0] else .tuple #[.agg (vals .i16 (zs 44)), .int .i64 1]) ∧ Below w.heap.size w w' := by
  have hm := Mem.start w
  have HW := Aside0.mk hw
  have HW' := Aside0.mk hw'
  have hz := zip_length lack L L' hl hl'
  clear hw hw'
  have HK : Aside0 (okL L = okL L) := ⟨rfl⟩
  have HK' : Aside0 (okL L' = okL L') := ⟨rfl⟩
  generalize hb : okL L = b at HK ⊢
  generalize hb' : okL L' = b' at HK' ⊢
  have HB := Aside0.mk hb
  have HB' := Aside0.mk hb'
  clear hb hb' HK HK'
  cases b <;> cases b'
  all_goals
    go_enter Try.func33, Try.ntmps33
    go_wp2_with (first
      | (first | fail | ((with_reducible refine gt_box 2 26 ?_); refine st_box rfl 2 rfl 26 _ rfl hm (v := .agg (vals _ _)) rfl (cs := vals _ _) rfl ?_; clear hm; intro g2 w2 hm) | ((with_reducible refine gt_box 3 26 ?_); refine st_box rfl 3 rfl 26 _ rfl hm (v := .agg (vals _ _)) rfl (cs := vals _ _) rfl ?_; clear hm; intro g3 w3 hm) | ((with_reducible refine gt_alloc 4 26 ?_); refine st_alloc rfl 4 rfl 26 rfl hm zero26 ?_; clear hm; intro g4 w4 hm) | ((with_reducible refine gt_build 26 ?_); refine st_zero rfl 26 rfl built26 ?_) | ((with_reducible refine gt_store 26 ?_); (first | (refine st_full rfl 26 _ _ rfl hm rfl rfl 0 rfl agg26 (by first | omega | assumption | (simp only [lens]; first | omega | assumption) | (simp [lens]; done) | (simp [lens]; omega)) (by first | omega | assumption | (simp only [lens]; first | omega | assumption) | (simp [lens]; done) | (simp [lens]; omega)) ?_) | (refine st_full rfl 26 _ _ rfl hm rfl rfl 1 rfl agg26 (by first | omega | assumption | (simp only [lens]; first | omega | assumption) | (simp [lens]; done) | (simp [lens]; omega)) (by first | omega | assumption | (simp only [lens]; first | omega | assumption) | (simp [lens]; done) | (simp [lens]; omega)) ?_) | (refine st_full rfl 26 _ _ rfl hm rfl rfl 2 rfl agg26 (by first | omega | assumption | (simp only [lens]; first | omega | assumption) | (simp [lens]; done) | (simp [lens]; omega)) (by first | omega | assumption | (simp only [lens]; first | omega | assumption) | (simp [lens]; done) | (simp [lens]; omega)) ?_) | (refine st_full rfl 26 _ _ rfl hm rfl rfl 3 rfl agg26 (by first | omega | assumption | (simp only [lens]; first | omega | assumption) | (simp [lens]; done) | (simp [lens]; omega)) (by first | omega | assumption | (simp only [lens]; first | omega | assumption) | (simp [lens]; done) | (simp [lens]; omega)) ?_) | (refine st_full rfl 26 _ _ rfl hm rfl rfl 4 rfl agg26 (by first | omega | assumption | (simp only [lens]; first | omega | assumption) | (simp [lens]; done) | (simp [lens]; omega)) (by first | omega | assumption | (simp only [lens]; first | omega | assumption) | (simp [lens]; done) | (simp [lens]; omega)) ?_)); clear hm; intro ws hm; simp only [List.set_cons_zero, List.set_cons_succ] at hm))
      | (go_at_call 54; first
          | (with_reducible refine (l04Ok_calls g2 L _ hl HW.out (hm.mem (n := 2) rfl)).mono ?_; rintro e wa ⟨rfl, hb⟩; replace hm := hm.after hb; clear hb; rw [HB.out])
          | (with_reducible refine (l04Ok_calls g3 L' _ hl' HW'.out (hm.mem (n := 1) rfl)).mono ?_; rintro e wa ⟨rfl, hb⟩; replace hm := hm.after hb; clear hb; rw [HB'.out]))
      | (go_at_call 71; refine (l04Missing_calls g2 g3 L L' _ hl hl' (okL_k HB.out) (okL_k HB'.out) (hm.mem (n := 2) rfl) (hm.mem (n := 1) rfl) (fun e => by have := hm.apart 2 1 _ _ rfl rfl e; omega)).mono ?_; rintro e wa ⟨rfl, hb⟩; replace hm := hm.after hb; clear hb))
    ((try simp only [Exit.inBlock, Exit.then]); (first | (refine ret_cell hm rfl rfl 0 rfl agg26 (by first | omega | assumption | (simp only [lens]; first | omega | assumption) | (simp [lens]; done) | (simp [lens]; omega)) rfl ?_) | (refine ret_cell_tmp hm rfl rfl 0 rfl agg26 (by first | omega | assumption | (simp only [lens]; first | omega | assumption) | (simp [lens]; done) | (simp [lens]; omega)) rfl ?_)))
    exact ⟨rfl, hm.done rfl⟩

set_option maxHeartbeats 4000000 in
set_option maxRecDepth 100000 in
theorem implMissing_calls (L L' : List Int) (w : World) (hl : L.length = 44) (hw : Fits .i16 L) (hl' : L'.length = 44) (hw' : Fits .i16 L') : Calls Try.prog 34 #[.agg (vals .i16 L), .agg (vals .i16 L')] w fun e w' =>
    e = .returned (if okL L = true ∧ okL L' = true then .tuple #[.agg (vals .i16 (List.zipWith lack L L')), .int .i64 0] else .tuple #[.agg (vals .i16 (zs 44)), .int .i64 1]) ∧ Below w.heap.size w w' := by
  have hm := Mem.start w
  have HW := Aside0.mk hw
  have HW' := Aside0.mk hw'
  clear hw hw'
  by_cases hok : okL L = true ∧ okL L' = true
  · rw [if_pos hok]
    have HK := Aside0.mk (show (if [L, L'].all okL = true then (0 : Int) else 1) = 0 by simp [hok])
    have HS := Aside0.mk (lacks_small hl hl' (okL_k hok.1) (okL_k hok.2))
    have hz := zip_length (fun a b => mx (wrap64 (b - a)) 0) L L' hl hl'
    clear hok
    go_enter Try.func34, Try.ntmps34
    go_wp2_with (first
      | (first | fail | ((with_reducible refine gt_box 2 26 ?_); refine st_box rfl 2 rfl 26 _ rfl hm (v := .agg (vals _ _)) rfl (cs := vals _ _) rfl ?_; clear hm; intro g2 w2 hm) | ((with_reducible refine gt_box 3 26 ?_); refine st_box rfl 3 rfl 26 _ rfl hm (v := .agg (vals _ _)) rfl (cs := vals _ _) rfl ?_; clear hm; intro g3 w3 hm) | ((with_reducible refine gt_alloc 4 26 ?_); refine st_alloc rfl 4 rfl 26 rfl hm zero26 ?_; clear hm; intro g4 w4 hm) | ((with_reducible refine gt_load 26 ?_); (first | (refine st_load rfl 26 _ rfl hm rfl 0 rfl agg26 (by first | omega | assumption | (simp only [lens]; first | omega | assumption) | (simp [lens]; done) | (simp [lens]; omega)) ?_) | (refine st_load rfl 26 _ rfl hm rfl 1 rfl agg26 (by first | omega | assumption | (simp only [lens]; first | omega | assumption) | (simp [lens]; done) | (simp [lens]; omega)) ?_) | (refine st_load rfl 26 _ rfl hm rfl 2 rfl agg26 (by first | omega | assumption | (simp only [lens]; first | omega | assumption) | (simp [lens]; done) | (simp [lens]; omega)) ?_) | (refine st_load rfl 26 _ rfl hm rfl 3 rfl agg26 (by first | omega | assumption | (simp only [lens]; first | omega | assumption) | (simp [lens]; done) | (simp [lens]; omega)) ?_) | (refine st_load rfl 26 _ rfl hm rfl 4 rfl agg26 (by first | omega | assumption | (simp only [lens]; first | omega | assumption) | (simp [lens]; done) | (simp [lens]; omega)) ?_))) | ((with_reducible refine gt_build 26 ?_); refine st_zero rfl 26 rfl built26 ?_) | ((with_reducible refine gt_store 26 ?_); (first | (refine st_full rfl 26 _ _ rfl hm rfl rfl 0 rfl agg26 (by first | omega | assumption | (simp only [lens]; first | omega | assumption) | (simp [lens]; done) | (simp [lens]; omega)) (by first | omega | assumption | (simp only [lens]; first | omega | assumption) | (simp [lens]; done) | (simp [lens]; omega)) ?_) | (refine st_full rfl 26 _ _ rfl hm rfl rfl 1 rfl agg26 (by first | omega | assumption | (simp only [lens]; first | omega | assumption) | (simp [lens]; done) | (simp [lens]; omega)) (by first | omega | assumption | (simp only [lens]; first | omega | assumption) | (simp [lens]; done) | (simp [lens]; omega)) ?_) | (refine st_full rfl 26 _ _ rfl hm rfl rfl 2 rfl agg26 (by first | omega | assumption | (simp only [lens]; first | omega | assumption) | (simp [lens]; done) | (simp [lens]; omega)) (by first | omega | assumption | (simp only [lens]; first | omega | assumption) | (simp [lens]; done) | (simp [lens]; omega)) ?_) | (refine st_full rfl 26 _ _ rfl hm rfl rfl 3 rfl agg26 (by first | omega | assumption | (simp only [lens]; first | omega | assumption) | (simp [lens]; done) | (simp [lens]; omega)) (by first | omega | assumption | (simp only [lens]; first | omega | assumption) | (simp [lens]; done) | (simp [lens]; omega)) ?_) | (refine st_full rfl 26 _ _ rfl hm rfl rfl 4 rfl agg26 (by first | omega | assumption | (simp only [lens]; first | omega | assumption) | (simp [lens]; done) | (simp [lens]; omega)) (by first | omega | assumption | (simp only [lens]; first | omega | assumption) | (simp [lens]; done) | (simp [lens]; omega)) ?_)); clear hm; intro ws hm; simp only [List.set_cons_zero, List.set_cons_succ] at hm) | (refine st_lit2 rfl 9 rfl 105 _ _ rfl hm rfl rfl Try.underlying105 agg26 zero26 (by first | omega | assumption | (simp only [lens]; first | omega | assumption) | (simp [lens]; done) | (simp [lens]; omega)) (by first | omega | assumption | (simp only [lens]; first | omega | assumption) | (simp [lens]; done) | (simp [lens]; omega)) (by decide) (by decide) ?_; clear hm; intro g9 w9 hm))
      | (go_at_call 62; refine (lockerCode_calls _ [L, L'] _ (lks2 hm (n := 0) rfl hl HW.out hl' HW'.out) (by simp)).mono ?_; rintro e wa ⟨rfl, hb⟩; replace hm := hm.after hb; clear hb; rw [HK.out]))
    refine start_ (n := 8) (S := fun w' => Mem w w' [⟨g9, vals .i16 (L ++ L'), 26, true⟩, ⟨g4, vals .i16 (zs 44), 26, true⟩, ⟨g3, vals .i16 L', 26, true⟩, ⟨g2, vals .i16 L, 26, true⟩]) (ds := [6]) #[false, false, false, false, false, false, false, false] (by kernel_rfl) rfl rfl (hm.drawn _) (fun hHeld => ?_)
    refine take_ (i := 0) (N := some 15) (v := .agg (vals .i16 L)) (a' := ?_) #[true, false, false, false, false, false, false, false] rfl rfl (by kernel_rfl) (fun _ _ _ h => h) (Or.inl ⟨by rfl, ?_⟩) hHeld ?_ ?_
    · intro w' s0
      exact y_load (by rfl) (by rfl) 3 (by rfl) agg26 (by first | omega | assumption | (simp only [lens]; first | omega | assumption) | (simp [lens]; done) | (simp [lens]; omega)) w' s0
    rotate_left
    · simp only [Act.put, List.setIfInBounds_toArray, List.set_cons_zero, List.set_cons_succ, i64_w, i32_w]
      rfl
    refine take_ (i := 2) (N := some 17) (v := .agg (vals .i16 L')) (a' := ?_) #[true, false, true, false, false, false, false, false] rfl rfl (by kernel_rfl) (fun _ _ _ h => h) (Or.inl ⟨by rfl, ?_⟩) hHeld ?_ ?_
    · intro w' s0
      exact y_load (by rfl) (by rfl) 2 (by rfl) agg26 (by first | omega | assumption | (simp only [lens]; first | omega | assumption) | (simp [lens]; done) | (simp [lens]; omega)) w' s0
    rotate_left
    · simp only [Act.put, List.setIfInBounds_toArray, List.set_cons_zero, List.set_cons_succ, i64_w, i32_w]
      rfl
    refine one_ (i := 1) (N := some 16) #[true, true, true, false, false, false, false, false] rfl rfl (by kernel_rfl) (by decide) (fun K hK => ?_)
    refine goes_ Try.func57 (by kernel_rfl) rfl #[.agg (vals .i16 L)] (by rfl) rfl rfl (by simp only [List.map_toArray, List.map_cons, List.map_nil]; rfl) ?_
    refine (pieces_calls L _ hl HW.out).mono ?_
    rintro e w3 ⟨rfl, hb⟩
    refine ⟨_, rfl, ?_⟩
    refine hK.out _ _ (hHeld.after hb) (fun hHeld => ?_)
    clear hK K
    refine norm_ (a' := ?_) ?_ ?_
    rotate_left
    · show Act.put _ (some 16) _ = _
      simp only [Act.put, List.setIfInBounds_toArray, List.set_cons_zero, List.set_cons_succ, i64_w, i32_w]
      rfl
    refine one_ (i := 3) (N := some 18) #[true, true, true, true, false, false, false, false] rfl rfl (by kernel_rfl) (by decide) (fun K hK => ?_)
    refine goes_ Try.func57 (by kernel_rfl) rfl #[.agg (vals .i16 L')] (by rfl) rfl rfl (by simp only [List.map_toArray, List.map_cons, List.map_nil]; rfl) ?_
    refine (pieces_calls L' _ hl' HW'.out).mono ?_
    rintro e w3 ⟨rfl, hb⟩
    refine ⟨_, rfl, ?_⟩
    refine hK.out _ _ (hHeld.after hb) (fun hHeld => ?_)
    clear hK K
    refine norm_ (a' := ?_) ?_ ?_
    rotate_left
    · show Act.put _ (some 18) _ = _
      simp only [Act.put, List.setIfInBounds_toArray, List.set_cons_zero, List.set_cons_succ, i64_w, i32_w]
      rfl
    refine one_ (i := 4) (N := some 19) #[true, true, true, true, true, false, false, false] rfl rfl (by kernel_rfl) (by decide) (fun K hK => ?_)
    refine goes_ Try.func72 (by kernel_rfl) rfl #[.agg (vals .i64 L), .agg (vals .i64 L')] (by rfl) rfl rfl (by simp only [List.map_toArray, List.map_cons, List.map_nil]; rfl) ?_
    refine (lacks_calls L L' _ hl hl').mono ?_
    rintro e w3 ⟨rfl, hb⟩
    refine ⟨_, rfl, ?_⟩
    refine hK.out _ _ (hHeld.after hb) (fun hHeld => ?_)
    clear hK K
    refine norm_ (a' := ?_) ?_ ?_
    rotate_left
    · show Act.put _ (some 19) _ = _
      simp only [Act.put, List.setIfInBounds_toArray, List.set_cons_zero, List.set_cons_succ, i64_w, i32_w]
      rfl
    refine one_ (i := 5) (N := some 20) #[true, true, true, true, true, true, false, false] rfl rfl (by kernel_rfl) (by decide) (fun K hK => ?_)
    refine goes_ Try.func51 (by kernel_rfl) rfl #[.agg (vals .i64 (List.zipWith (fun a b => mx (wrap64 (b - a)) 0) L L'))] (by rfl) rfl rfl (by simp only [List.map_toArray, List.map_cons, List.map_nil]; rfl) ?_
    refine (locker_calls _ _ hz).mono ?_
    rintro e w3 ⟨rfl, hb⟩
    refine ⟨_, rfl, ?_⟩
    refine hK.out _ _ (hHeld.after hb) (fun hHeld => ?_)
    clear hK K
    refine norm_ (a' := ?_) ?_ ?_
    rotate_left
    · show Act.put _ (some 20) _ = _
      simp only [Act.put, List.setIfInBounds_toArray, List.set_cons_zero, List.set_cons_succ, i64_w, i32_w]
      rfl
    refine last_ (i := 6) (N := none) #[true, true, true, true, true, true, true, false] rfl rfl (by kernel_rfl) (by decide) (fun K hK => ?_)
    refine skip_ (by rfl) rfl (y_store (by rfl) (by rfl) (by rfl) 1 hHeld (by rfl) agg26 (by first | omega | assumption | (simp only [lens]; first | omega | assumption) | (simp [lens]; done) | (simp [lens]; omega)) (by first | omega | assumption | (simp only [lens]; first | omega | assumption) | (simp [lens]; done) | (simp [lens]; omega))) ?_
    have hm := hHeld.row (n := 1) rfl (vals .i16 (List.map w16 (List.zipWith (fun a b => mx (wrap64 (b - a)) 0) L L')))
    refine hK.out _ _ ?_
    clear hK K
    refine norm_ (a' := ?_) ?_ ?_
    rotate_left
    · rfl
    refine pure_ (i := 7) (N := some 5) (v := ?_) (a' := ?_) #[true, true, true, true, true, true, true, true] rfl rfl (by kernel_rfl) (fun _ _ _ h => h) (Or.inl ⟨by rfl, ?_⟩) ?_ ?_
    rotate_left
    · intro w'
      go_simp
      with_reducible rfl
    rotate_left
    · simp only [Act.put, List.setIfInBounds_toArray, List.set_cons_zero, List.set_cons_succ, i64_w, i32_w]
      rfl
    refine done_ (by kernel_rfl) ?_
    simp only [List.set_cons_zero, List.set_cons_succ] at hm
    go_wp2_with fail
    ((try simp only [Exit.inBlock, Exit.then]); (first | (refine ret_cell hm rfl rfl 1 rfl agg26 (by first | omega | assumption | (simp only [lens]; first | omega | assumption) | (simp [lens]; done) | (simp [lens]; omega)) rfl ?_) | (refine ret_cell_tmp hm rfl rfl 1 rfl agg26 (by first | omega | assumption | (simp only [lens]; first | omega | assumption) | (simp [lens]; done) | (simp [lens]; omega)) rfl ?_)))
    exact ⟨by rw [HS.out]; rfl, hm.done rfl⟩
  · rw [if_neg hok]
    have HK := Aside0.mk (show (if [L, L'].all okL = true then (0 : Int) else 1) = 1 by rw [if_neg]; simpa using hok)
    clear hok
    go_enter Try.func34, Try.ntmps34
    go_wp2_with (first
      | (first | fail | ((with_reducible refine gt_box 2 26 ?_); refine st_box rfl 2 rfl 26 _ rfl hm (v := .agg (vals _ _)) rfl (cs := vals _ _) rfl ?_; clear hm; intro g2 w2 hm) | ((with_reducible refine gt_box 3 26 ?_); refine st_box rfl 3 rfl 26 _ rfl hm (v := .agg (vals _ _)) rfl (cs := vals _ _) rfl ?_; clear hm; intro g3 w3 hm) | ((with_reducible refine gt_alloc 4 26 ?_); refine st_alloc rfl 4 rfl 26 rfl hm zero26 ?_; clear hm; intro g4 w4 hm) | ((with_reducible refine gt_load 26 ?_); (first | (refine st_load rfl 26 _ rfl hm rfl 0 rfl agg26 (by first | omega | assumption | (simp only [lens]; first | omega | assumption) | (simp [lens]; done) | (simp [lens]; omega)) ?_) | (refine st_load rfl 26 _ rfl hm rfl 1 rfl agg26 (by first | omega | assumption | (simp only [lens]; first | omega | assumption) | (simp [lens]; done) | (simp [lens]; omega)) ?_) | (refine st_load rfl 26 _ rfl hm rfl 2 rfl agg26 (by first | omega | assumption | (simp only [lens]; first | omega | assumption) | (simp [lens]; done) | (simp [lens]; omega)) ?_) | (refine st_load rfl 26 _ rfl hm rfl 3 rfl agg26 (by first | omega | assumption | (simp only [lens]; first | omega | assumption) | (simp [lens]; done) | (simp [lens]; omega)) ?_) | (refine st_load rfl 26 _ rfl hm rfl 4 rfl agg26 (by first | omega | assumption | (simp only [lens]; first | omega | assumption) | (simp [lens]; done) | (simp [lens]; omega)) ?_))) | ((with_reducible refine gt_build 26 ?_); refine st_zero rfl 26 rfl built26 ?_) | ((with_reducible refine gt_store 26 ?_); (first | (refine st_full rfl 26 _ _ rfl hm rfl rfl 0 rfl agg26 (by first | omega | assumption | (simp only [lens]; first | omega | assumption) | (simp [lens]; done) | (simp [lens]; omega)) (by first | omega | assumption | (simp only [lens]; first | omega | assumption) | (simp [lens]; done) | (simp [lens]; omega)) ?_) | (refine st_full rfl 26 _ _ rfl hm rfl rfl 1 rfl agg26 (by first | omega | assumption | (simp only [lens]; first | omega | assumption) | (simp [lens]; done) | (simp [lens]; omega)) (by first | omega | assumption | (simp only [lens]; first | omega | assumption) | (simp [lens]; done) | (simp [lens]; omega)) ?_) | (refine st_full rfl 26 _ _ rfl hm rfl rfl 2 rfl agg26 (by first | omega | assumption | (simp only [lens]; first | omega | assumption) | (simp [lens]; done) | (simp [lens]; omega)) (by first | omega | assumption | (simp only [lens]; first | omega | assumption) | (simp [lens]; done) | (simp [lens]; omega)) ?_) | (refine st_full rfl 26 _ _ rfl hm rfl rfl 3 rfl agg26 (by first | omega | assumption | (simp only [lens]; first | omega | assumption) | (simp [lens]; done) | (simp [lens]; omega)) (by first | omega | assumption | (simp only [lens]; first | omega | assumption) | (simp [lens]; done) | (simp [lens]; omega)) ?_) | (refine st_full rfl 26 _ _ rfl hm rfl rfl 4 rfl agg26 (by first | omega | assumption | (simp only [lens]; first | omega | assumption) | (simp [lens]; done) | (simp [lens]; omega)) (by first | omega | assumption | (simp only [lens]; first | omega | assumption) | (simp [lens]; done) | (simp [lens]; omega)) ?_)); clear hm; intro ws hm; simp only [List.set_cons_zero, List.set_cons_succ] at hm) | (refine st_lit2 rfl 9 rfl 105 _ _ rfl hm rfl rfl Try.underlying105 agg26 zero26 (by first | omega | assumption | (simp only [lens]; first | omega | assumption) | (simp [lens]; done) | (simp [lens]; omega)) (by first | omega | assumption | (simp only [lens]; first | omega | assumption) | (simp [lens]; done) | (simp [lens]; omega)) (by decide) (by decide) ?_; clear hm; intro g9 w9 hm))
      | (go_at_call 62; refine (lockerCode_calls _ [L, L'] _ (lks2 hm (n := 0) rfl hl HW.out hl' HW'.out) (by simp)).mono ?_; rintro e wa ⟨rfl, hb⟩; replace hm := hm.after hb; clear hb; rw [HK.out]))
    ((try simp only [Exit.inBlock, Exit.then]); (first | (refine ret_cell hm rfl rfl 1 rfl agg26 (by first | omega | assumption | (simp only [lens]; first | omega | assumption) | (simp [lens]; done) | (simp [lens]; omega)) rfl ?_) | (refine ret_cell_tmp hm rfl rfl 1 rfl agg26 (by first | omega | assumption | (simp only [lens]; first | omega | assumption) | (simp [lens]; done) | (simp [lens]; omega)) rfl ?_)))
    exact ⟨rfl, hm.done rfl⟩
end Go.Proofs.Ytmpkgdgbjhegnaa.Arr
