/- How far two flags are apart, seen from afar: the reference's l01Far, the program's afar. Condition: the flags' numbers are colours. -/
import Derived.Test.YtodgnbcfihifiaaBlurImpl
import Derived.BigQuiet
import Derived.Laws.CopyOwn
import Derived.Test.YtodgnbcfihifiaaPFx1
namespace Go.Proofs.Ytodgnbcfihifiaa.Arr
open Go.RowKit Go.Proofs.YtodgnbcfihifiaaW.PrintWords Go.Proofs.YtodgnbcfihifiaaW.PrintLast Go.Proofs.YtodgnbcfihifiaaW.PrintMore Go.Proofs.Ytodgnbcfihifiaa.U Go.Proofs.Ytodgnbcfihifiaa.F
set_option linter.unusedVariables false
set_option linter.unusedSimpArgs false

def farF (x y : List Int) : Int := difN (blurN x 6) (blurN y 6) 6
theorem farF_b (x y : List Int) : 0 ≤ farF x y ∧ farF x y ≤ 6 := difN_b _ _ 6
section
variable {P : Program} {o : Oper} {a : Act} {w : World}
theorem y_storeRowF {ty : TypeId} {x y : Operand} (ho : o.op = .store ty x y) {g : Nat} {cs old : Array Value} {t : TypeId} (hx : a.eval x = .pointer (some ⟨g, 0, none⟩)) (hy : a.eval y = .agg cs) (hb : w.heap[g]? = some (.cells old t (0, 0)))
    (hi : (P.info? ty).map (·.size) = some cs.size) (hold : old.size = cs.size) (h1 : cs.all (·.oneCell') = true) : (execOp a.eval o).run P w = .ok .skip (w.setRow g cs) := by
  have h := run_storeVar_row (P := P) w g t ty old cs hb hi hold h1
  unfold execOp
  simp only [ho, hx, hy, Instr.storeAt, Instr.sureAddr, Sem.run_bind, Sem.run_pure, Result.andThen_ok, h]
end
theorem far_rowF {w : World} {g k : Nat} {cs : Array Value} {o : Obj} (h : w.heap[k]? = some o) (hne : k ≠ g) : (w.setRow g cs).heap[k]? = some o := (setRow_other _ g k cs hne).trans h
theorem infoRaw : (Try.prog.info? 55).map (·.size) = some 6 := by kernel_rfl
/-- Colours. -/
abbrev Col (x : List Int) : Prop := ∀ k : Nat, k < 24 → 0 ≤ rd x (k : Int) ∧ rd x (k : Int) ≤ 5
set_option maxHeartbeats 4000000 in
set_option maxRecDepth 100000 in
theorem l01Far_calls (p q : Addr) (x y : List Int) (w : World) (hx : Col x) (hy : Col y) (h1 : ∀ j : Nat, j < 24 → w.cell? (p.add j) = some (.int .u8 (rd x (j : Int)))) (h2 : ∀ j : Nat, j < 24 → w.cell? (q.add j) = some (.int .u8 (rd y (j : Int)))) :
    Calls Try.prog 40 #[.pointer (some p), .pointer (some q)] w fun e w' => e = .returned (.int .i64 (farF x y)) ∧ Below w.heap.size w w' := by
  have hm := Mem.start w
  have HP := Aside0.mk (fun W (hW : Below w.heap.size w W) => l01Blur_calls p x W hx (fun j hj => pw_cell_below hW (h1 j hj)))
  have HQ := Aside0.mk (fun W (hW : Below w.heap.size w W) => l01Blur_calls q y W hy (fun j hj => pw_cell_below hW (h2 j hj)))
  have hlx := blurN_length x 6
  have hly := blurN_length y 6
  unfold farF
  clear hx hy h1 h2
  generalize blurN x 6 = X at *
  generalize blurN y 6 = Y at *
  go_enter Try.func40, Try.ntmps40
  go_wp2_with (first
    | (go_at_call 63; (with_reducible refine (HQ.out _ (hm.done rfl)).mono ?_); rintro e w2 ⟨rfl, h⟩; have HQ1 := Aside0.mk HP1.out; replace hm := hm.after h; clear h)
    | (go_at_call 63; (with_reducible refine (HP.out _ (hm.done rfl)).mono ?_); rintro e w1 ⟨rfl, h⟩; have HP1 := Aside0.mk (rfl : 0 = 0); replace hm := hm.after h; clear h)
    | (first | fail | ((with_reducible refine gt_alloc 5 55 ?_); refine st_alloc rfl 5 rfl 55 rfl hm zero55 ?_; clear hm; intro g5 w5 hm) | ((with_reducible refine gt_store 55 ?_); (first | (refine st_full rfl 55 _ _ rfl hm rfl rfl 0 rfl agg55 (by first | omega | assumption | (simp only [lens]; first | omega | assumption) | (simp [lens]; done) | (simp [lens]; omega)) (by first | omega | assumption | (simp only [lens]; first | omega | assumption) | (simp [lens]; done) | (simp [lens]; omega)) ?_) | (refine st_full rfl 55 _ _ rfl hm rfl rfl 1 rfl agg55 (by first | omega | assumption | (simp only [lens]; first | omega | assumption) | (simp [lens]; done) | (simp [lens]; omega)) (by first | omega | assumption | (simp only [lens]; first | omega | assumption) | (simp [lens]; done) | (simp [lens]; omega)) ?_) | (refine st_full rfl 55 _ _ rfl hm rfl rfl 2 rfl agg55 (by first | omega | assumption | (simp only [lens]; first | omega | assumption) | (simp [lens]; done) | (simp [lens]; omega)) (by first | omega | assumption | (simp only [lens]; first | omega | assumption) | (simp [lens]; done) | (simp [lens]; omega)) ?_) | (refine st_full rfl 55 _ _ rfl hm rfl rfl 3 rfl agg55 (by first | omega | assumption | (simp only [lens]; first | omega | assumption) | (simp [lens]; done) | (simp [lens]; omega)) (by first | omega | assumption | (simp only [lens]; first | omega | assumption) | (simp [lens]; done) | (simp [lens]; omega)) ?_) | (refine st_put rfl 55 _ _ rfl hm rfl rfl 0 rfl agg55 (by first | omega | assumption | (simp only [lens]; first | omega | assumption) | (simp [lens]; done) | (simp [lens]; omega)) (by first | omega | assumption | (simp only [lens]; first | omega | assumption) | (simp [lens]; done) | (simp [lens]; omega)) ?_) | (refine st_put rfl 55 _ _ rfl hm rfl rfl 1 rfl agg55 (by first | omega | assumption | (simp only [lens]; first | omega | assumption) | (simp [lens]; done) | (simp [lens]; omega)) (by first | omega | assumption | (simp only [lens]; first | omega | assumption) | (simp [lens]; done) | (simp [lens]; omega)) ?_) | (refine st_put rfl 55 _ _ rfl hm rfl rfl 2 rfl agg55 (by first | omega | assumption | (simp only [lens]; first | omega | assumption) | (simp [lens]; done) | (simp [lens]; omega)) (by first | omega | assumption | (simp only [lens]; first | omega | assumption) | (simp [lens]; done) | (simp [lens]; omega)) ?_) | (refine st_put rfl 55 _ _ rfl hm rfl rfl 3 rfl agg55 (by first | omega | assumption | (simp only [lens]; first | omega | assumption) | (simp [lens]; done) | (simp [lens]; omega)) (by first | omega | assumption | (simp only [lens]; first | omega | assumption) | (simp [lens]; done) | (simp [lens]; omega)) ?_)); clear hm; intro ws hm; simp only [List.set_cons_zero, List.set_cons_succ] at hm) | ((with_reducible refine gt_alloc 6 55 ?_); refine st_alloc rfl 6 rfl 55 rfl hm zero55 ?_; clear hm; intro g6 w6 hm) | ((with_reducible refine gt_elem 55 ?_); refine st_elem rfl 55 _ _ rfl rfl rfl arr55 (by first | omega | assumption | (simp only [lens]; first | omega | assumption) | (simp [lens]; done) | (simp [lens]; omega)) (by first | omega | assumption | (simp only [lens]; first | omega | assumption) | (simp [lens]; done) | (simp [lens]; omega)) ?_) | ((with_reducible refine gt_load 5 ?_); (first | (refine st_get rfl 5 _ rfl hm rfl 0 rfl one5 (by first | omega | assumption | (simp only [lens]; first | omega | assumption) | (simp [lens]; done) | (simp [lens]; omega)) ?_) | (refine st_get rfl 5 _ rfl hm rfl 1 rfl one5 (by first | omega | assumption | (simp only [lens]; first | omega | assumption) | (simp [lens]; done) | (simp [lens]; omega)) ?_) | (refine st_get rfl 5 _ rfl hm rfl 2 rfl one5 (by first | omega | assumption | (simp only [lens]; first | omega | assumption) | (simp [lens]; done) | (simp [lens]; omega)) ?_) | (refine st_get rfl 5 _ rfl hm rfl 3 rfl one5 (by first | omega | assumption | (simp only [lens]; first | omega | assumption) | (simp [lens]; done) | (simp [lens]; omega)) ?_)))))
  go_loopw [8, 7] (fun v8 v7 wr => ∃ i : Nat, i ≤ 6 ∧ v8 = .int .i64 i ∧ v7 = .int .i64 (difN X Y i) ∧ Mem w wr [⟨g6, vals .u8 Y, 55, true⟩, ⟨g5, vals .u8 X, 55, true⟩]) (fun v8 _ _ => 6 - (intOf v8).toNat)
  case atStart => exact ⟨0, by omega, rfl, rfl, hm⟩
  case round =>
    clear hm
    obtain ⟨i, hi, rfl, rfl, hm⟩ := hrel
    by_cases hlt : i < 6
    · have hv1 := hm.get (n := 1) rfl i (by omega)
      have hv2 := hm.get (n := 0) rfl i (by omega)
      have hdb := difN_b X Y i
      have HDS := Aside0.mk (show difN X Y (i + 1) = difN X Y i + (if rd X (i : Int) = rd Y (i : Int) then 0 else 1) from rfl)
      generalize difN X Y i = dd at *
      generalize rd X (i : Int) = u at *
      generalize rd Y (i : Int) = v at *
      by_cases huv : u = v
      · have hb : (u != v) = false := by rw [bne_eq_false_iff_eq]; exact huv
        have HU := Aside0.mk huv
        clear huv
        go_wp2_with (first | fail | ((with_reducible refine gt_alloc 5 55 ?_); refine st_alloc rfl 5 rfl 55 rfl hm zero55 ?_; clear hm; intro g5 w5 hm) | ((with_reducible refine gt_store 55 ?_); (first | (refine st_full rfl 55 _ _ rfl hm rfl rfl 0 rfl agg55 (by first | omega | assumption | (simp only [lens]; first | omega | assumption) | (simp [lens]; done) | (simp [lens]; omega)) (by first | omega | assumption | (simp only [lens]; first | omega | assumption) | (simp [lens]; done) | (simp [lens]; omega)) ?_) | (refine st_full rfl 55 _ _ rfl hm rfl rfl 1 rfl agg55 (by first | omega | assumption | (simp only [lens]; first | omega | assumption) | (simp [lens]; done) | (simp [lens]; omega)) (by first | omega | assumption | (simp only [lens]; first | omega | assumption) | (simp [lens]; done) | (simp [lens]; omega)) ?_) | (refine st_full rfl 55 _ _ rfl hm rfl rfl 2 rfl agg55 (by first | omega | assumption | (simp only [lens]; first | omega | assumption) | (simp [lens]; done) | (simp [lens]; omega)) (by first | omega | assumption | (simp only [lens]; first | omega | assumption) | (simp [lens]; done) | (simp [lens]; omega)) ?_) | (refine st_full rfl 55 _ _ rfl hm rfl rfl 3 rfl agg55 (by first | omega | assumption | (simp only [lens]; first | omega | assumption) | (simp [lens]; done) | (simp [lens]; omega)) (by first | omega | assumption | (simp only [lens]; first | omega | assumption) | (simp [lens]; done) | (simp [lens]; omega)) ?_) | (refine st_put rfl 55 _ _ rfl hm rfl rfl 0 rfl agg55 (by first | omega | assumption | (simp only [lens]; first | omega | assumption) | (simp [lens]; done) | (simp [lens]; omega)) (by first | omega | assumption | (simp only [lens]; first | omega | assumption) | (simp [lens]; done) | (simp [lens]; omega)) ?_) | (refine st_put rfl 55 _ _ rfl hm rfl rfl 1 rfl agg55 (by first | omega | assumption | (simp only [lens]; first | omega | assumption) | (simp [lens]; done) | (simp [lens]; omega)) (by first | omega | assumption | (simp only [lens]; first | omega | assumption) | (simp [lens]; done) | (simp [lens]; omega)) ?_) | (refine st_put rfl 55 _ _ rfl hm rfl rfl 2 rfl agg55 (by first | omega | assumption | (simp only [lens]; first | omega | assumption) | (simp [lens]; done) | (simp [lens]; omega)) (by first | omega | assumption | (simp only [lens]; first | omega | assumption) | (simp [lens]; done) | (simp [lens]; omega)) ?_) | (refine st_put rfl 55 _ _ rfl hm rfl rfl 3 rfl agg55 (by first | omega | assumption | (simp only [lens]; first | omega | assumption) | (simp [lens]; done) | (simp [lens]; omega)) (by first | omega | assumption | (simp only [lens]; first | omega | assumption) | (simp [lens]; done) | (simp [lens]; omega)) ?_)); clear hm; intro ws hm; simp only [List.set_cons_zero, List.set_cons_succ] at hm) | ((with_reducible refine gt_alloc 6 55 ?_); refine st_alloc rfl 6 rfl 55 rfl hm zero55 ?_; clear hm; intro g6 w6 hm) | ((with_reducible refine gt_elem 55 ?_); refine st_elem rfl 55 _ _ rfl rfl rfl arr55 (by first | omega | assumption | (simp only [lens]; first | omega | assumption) | (simp [lens]; done) | (simp [lens]; omega)) (by first | omega | assumption | (simp only [lens]; first | omega | assumption) | (simp [lens]; done) | (simp [lens]; omega)) ?_) | ((with_reducible refine gt_load 5 ?_); (first | (refine st_get rfl 5 _ rfl hm rfl 0 rfl one5 (by first | omega | assumption | (simp only [lens]; first | omega | assumption) | (simp [lens]; done) | (simp [lens]; omega)) ?_) | (refine st_get rfl 5 _ rfl hm rfl 1 rfl one5 (by first | omega | assumption | (simp only [lens]; first | omega | assumption) | (simp [lens]; done) | (simp [lens]; omega)) ?_) | (refine st_get rfl 5 _ rfl hm rfl 2 rfl one5 (by first | omega | assumption | (simp only [lens]; first | omega | assumption) | (simp [lens]; done) | (simp [lens]; omega)) ?_) | (refine st_get rfl 5 _ rfl hm rfl 3 rfl one5 (by first | omega | assumption | (simp only [lens]; first | omega | assumption) | (simp [lens]; done) | (simp [lens]; omega)) ?_))))
        go_quiet (fail)
        go_wp2_with fail
        go_roundw
        case rel => exact ⟨i + 1, by omega, by go_num, by rw [HDS.out, if_pos HU.out, Int.add_zero], hm.drawn _⟩
        case measure => simp [intOf]; omega
      · have hb : (u != v) = true := by rw [bne_iff_ne]; exact huv
        have hw : wrap64 (dd + 1) = dd + 1 := w64 (by omega) (by omega)
        go_wp2_with (first | fail | ((with_reducible refine gt_alloc 5 55 ?_); refine st_alloc rfl 5 rfl 55 rfl hm zero55 ?_; clear hm; intro g5 w5 hm) | ((with_reducible refine gt_store 55 ?_); (first | (refine st_full rfl 55 _ _ rfl hm rfl rfl 0 rfl agg55 (by first | omega | assumption | (simp only [lens]; first | omega | assumption) | (simp [lens]; done) | (simp [lens]; omega)) (by first | omega | assumption | (simp only [lens]; first | omega | assumption) | (simp [lens]; done) | (simp [lens]; omega)) ?_) | (refine st_full rfl 55 _ _ rfl hm rfl rfl 1 rfl agg55 (by first | omega | assumption | (simp only [lens]; first | omega | assumption) | (simp [lens]; done) | (simp [lens]; omega)) (by first | omega | assumption | (simp only [lens]; first | omega | assumption) | (simp [lens]; done) | (simp [lens]; omega)) ?_) | (refine st_full rfl 55 _ _ rfl hm rfl rfl 2 rfl agg55 (by first | omega | assumption | (simp only [lens]; first | omega | assumption) | (simp [lens]; done) | (simp [lens]; omega)) (by first | omega | assumption | (simp only [lens]; first | omega | assumption) | (simp [lens]; done) | (simp [lens]; omega)) ?_) | (refine st_full rfl 55 _ _ rfl hm rfl rfl 3 rfl agg55 (by first | omega | assumption | (simp only [lens]; first | omega | assumption) | (simp [lens]; done) | (simp [lens]; omega)) (by first | omega | assumption | (simp only [lens]; first | omega | assumption) | (simp [lens]; done) | (simp [lens]; omega)) ?_) | (refine st_put rfl 55 _ _ rfl hm rfl rfl 0 rfl agg55 (by first | omega | assumption | (simp only [lens]; first | omega | assumption) | (simp [lens]; done) | (simp [lens]; omega)) (by first | omega | assumption | (simp only [lens]; first | omega | assumption) | (simp [lens]; done) | (simp [lens]; omega)) ?_) | (refine st_put rfl 55 _ _ rfl hm rfl rfl 1 rfl agg55 (by first | omega | assumption | (simp only [lens]; first | omega | assumption) | (simp [lens]; done) | (simp [lens]; omega)) (by first | omega | assumption | (simp only [lens]; first | omega | assumption) | (simp [lens]; done) | (simp [lens]; omega)) ?_) | (refine st_put rfl 55 _ _ rfl hm rfl rfl 2 rfl agg55 (by first | omega | assumption | (simp only [lens]; first | omega | assumption) | (simp [lens]; done) | (simp [lens]; omega)) (by first | omega | assumption | (simp only [lens]; first | omega | assumption) | (simp [lens]; done) | (simp [lens]; omega)) ?_) | (refine st_put rfl 55 _ _ rfl hm rfl rfl 3 rfl agg55 (by first | omega | assumption | (simp only [lens]; first | omega | assumption) | (simp [lens]; done) | (simp [lens]; omega)) (by first | omega | assumption | (simp only [lens]; first | omega | assumption) | (simp [lens]; done) | (simp [lens]; omega)) ?_)); clear hm; intro ws hm; simp only [List.set_cons_zero, List.set_cons_succ] at hm) | ((with_reducible refine gt_alloc 6 55 ?_); refine st_alloc rfl 6 rfl 55 rfl hm zero55 ?_; clear hm; intro g6 w6 hm) | ((with_reducible refine gt_elem 55 ?_); refine st_elem rfl 55 _ _ rfl rfl rfl arr55 (by first | omega | assumption | (simp only [lens]; first | omega | assumption) | (simp [lens]; done) | (simp [lens]; omega)) (by first | omega | assumption | (simp only [lens]; first | omega | assumption) | (simp [lens]; done) | (simp [lens]; omega)) ?_) | ((with_reducible refine gt_load 5 ?_); (first | (refine st_get rfl 5 _ rfl hm rfl 0 rfl one5 (by first | omega | assumption | (simp only [lens]; first | omega | assumption) | (simp [lens]; done) | (simp [lens]; omega)) ?_) | (refine st_get rfl 5 _ rfl hm rfl 1 rfl one5 (by first | omega | assumption | (simp only [lens]; first | omega | assumption) | (simp [lens]; done) | (simp [lens]; omega)) ?_) | (refine st_get rfl 5 _ rfl hm rfl 2 rfl one5 (by first | omega | assumption | (simp only [lens]; first | omega | assumption) | (simp [lens]; done) | (simp [lens]; omega)) ?_) | (refine st_get rfl 5 _ rfl hm rfl 3 rfl one5 (by first | omega | assumption | (simp only [lens]; first | omega | assumption) | (simp [lens]; done) | (simp [lens]; omega)) ?_))))
        go_quiet (fail)
        go_wp2_with fail
        go_roundw
        case rel => exact ⟨i + 1, by omega, by go_num, by rw [HDS.out, if_neg huv], hm.drawn _⟩
        case measure => simp [intOf]; omega
    · have HI := Aside0.mk (show i = 6 by omega)
      go_wp2_with fail
      go_ret
      exact ⟨by rw [← HI.out]; rfl, hm.done rfl⟩
/-- A variable is made where the order is drawn. -/
theorem s_alloc {P : Program} {oi : Oper} {a : Act} {w : World} {ops : Array Oper} {N : Option Tmp} {K : Act → World → Prop} {Q : Exit → Act → World → Prop} {ty : TypeId} (hw : Region.wanted oi (yielded ops a.tmps) = true) (hN : oi.dst = N) (ho : oi.op = .alloc ty) {cs : Array Value} (hzt : ZeroTy P ty cs)
    (h : ∀ g w1, w1.heap[g]? = some (.cells cs ty (0, 0)) → w.heap.size ≤ g → Below w.heap.size w w1 → K (a.put N (.pointer (some ⟨g, 0, none⟩))) w1) : if Region.wanted oi (yielded ops a.tmps) = true then Oper.wp P oi a w K Q else K (a.put N undef) w := by
  obtain ⟨z, hz, rfl⟩ := hzt
  refine value_ hw hN (v := .pointer (some ⟨w.heap.size, 0, none⟩)) (w1 := w.alloc (.cells z.cells ty)) ?_ (h _ _ (Go.heap_alloc_new w _) (Nat.le_refl _) (below_alloc (Below.refl _ _) _))
  unfold execOp
  simp only [ho, Sem.run_bind, run_alloc hz, Sem.run_pure, Result.andThen_ok]
set_option maxHeartbeats 8000000 in
set_option maxRecDepth 100000 in
theorem afar_calls (x y : List Int) (w : World) (hx : Col x) (hy : Col y) (hlx : x.length = 24) (hly : y.length = 24) :
    Calls Try.prog 45 #[.agg (vals .u8 x), .agg (vals .u8 y)] w fun e w' => e = .returned (.int .i64 (farF x y)) ∧ Below w.heap.size w w' := by
  have hm := Mem.start w
  have HBX := Aside0.mk (fun W => blur_calls x W hlx hx)
  have HBY := Aside0.mk (fun W => blur_calls y W hly hy)
  have HSX := Aside0.mk (show (vals .u8 x).size = 24 by rw [vals_size]; exact hlx)
  have HSY := Aside0.mk (show (vals .u8 y).size = 24 by rw [vals_size]; exact hly)
  have hl1 := blurN_length x 6
  have hl2 := blurN_length y 6
  have HB1 := Aside0.mk (show (vals .u8 (blurN x 6)).size = 6 by rw [vals_size]; exact hl1)
  have HB2 := Aside0.mk (show (vals .u8 (blurN y 6)).size = 6 by rw [vals_size]; exact hl2)
  obtain ⟨k1, hk1⟩ := (unlike_ev (blurN x 6) (blurN y 6) (by omega) (by omega)).rounds
  have HUN : Aside0 (∀ (ga gb : Nat) (W : World), W.heap[ga]? = some (.cells (vals .u8 (blurN x 6)) 55 (0, 0)) → W.heap[gb]? = some (.cells (vals .u8 (blurN y 6)) 55 (0, 0)) → Calls Try.prog 51 #[.slice (some ⟨ga, 0, none⟩) 6 6, .slice (some ⟨gb, 0, none⟩) 6 6] W fun e w' => e = .returned (.int .i64 (farF x y)) ∧ Below W.heap.size W w') := ⟨fun ga gb W h1 h2 => by
    have := impl_unlike.calls k1 (some ⟨ga, 0, none⟩) 6 (blurN x 6) (some ⟨gb, 0, none⟩) 6 (blurN y 6) _ W (C_of_cells (by omega) (cells_row h1)) (by omega) (C_of_cells (by omega) (cells_row h2)) (by omega) hk1
    rw [hl1, hl2] at this
    refine this.mono ?_
    rintro e w' ⟨rfl, h⟩
    exact ⟨rfl, h.below⟩⟩
  clear hx hy hlx hly hl1 hl2 hk1
  generalize farF x y = R at *
  generalize blurN x 6 = X at *
  generalize blurN y 6 = Y at *
  go_enter Try.func45, Try.ntmps45
  go_wp2_with (first | fail | ((with_reducible refine gt_box 2 67 ?_); refine st_box rfl 2 rfl 67 _ rfl hm (v := .agg (vals _ _)) rfl (cs := vals _ _) rfl ?_; clear hm; intro g2 w2 hm) | ((with_reducible refine gt_box 3 67 ?_); refine st_box rfl 3 rfl 67 _ rfl hm (v := .agg (vals _ _)) rfl (cs := vals _ _) rfl ?_; clear hm; intro g3 w3 hm) | ((with_reducible refine gt_load 67 ?_); (first | (refine st_load rfl 67 _ rfl hm rfl 0 rfl agg67 (by first | omega | assumption | (simp only [lens]; first | omega | assumption) | (simp [lens]; done) | (simp [lens]; omega)) ?_) | (refine st_load rfl 67 _ rfl hm rfl 1 rfl agg67 (by first | omega | assumption | (simp only [lens]; first | omega | assumption) | (simp [lens]; done) | (simp [lens]; omega)) ?_) | (refine st_load rfl 67 _ rfl hm rfl 2 rfl agg67 (by first | omega | assumption | (simp only [lens]; first | omega | assumption) | (simp [lens]; done) | (simp [lens]; omega)) ?_) | (refine st_load rfl 67 _ rfl hm rfl 3 rfl agg67 (by first | omega | assumption | (simp only [lens]; first | omega | assumption) | (simp [lens]; done) | (simp [lens]; omega)) ?_) | (refine st_load rfl 67 _ rfl hm rfl 4 rfl agg67 (by first | omega | assumption | (simp only [lens]; first | omega | assumption) | (simp [lens]; done) | (simp [lens]; omega)) ?_) | (refine st_load rfl 67 _ rfl hm rfl 5 rfl agg67 (by first | omega | assumption | (simp only [lens]; first | omega | assumption) | (simp [lens]; done) | (simp [lens]; omega)) ?_) | (refine st_part rfl 67 _ rfl hm rfl 0 rfl agg67 (by first | omega | assumption | (simp only [lens]; first | omega | assumption) | (simp [lens]; done) | (simp [lens]; omega)) ?_) | (refine st_part rfl 67 _ rfl hm rfl 1 rfl agg67 (by first | omega | assumption | (simp only [lens]; first | omega | assumption) | (simp [lens]; done) | (simp [lens]; omega)) ?_) | (refine st_part rfl 67 _ rfl hm rfl 2 rfl agg67 (by first | omega | assumption | (simp only [lens]; first | omega | assumption) | (simp [lens]; done) | (simp [lens]; omega)) ?_) | (refine st_part rfl 67 _ rfl hm rfl 3 rfl agg67 (by first | omega | assumption | (simp only [lens]; first | omega | assumption) | (simp [lens]; done) | (simp [lens]; omega)) ?_) | (refine st_part rfl 67 _ rfl hm rfl 4 rfl agg67 (by first | omega | assumption | (simp only [lens]; first | omega | assumption) | (simp [lens]; done) | (simp [lens]; omega)) ?_) | (refine st_part rfl 67 _ rfl hm rfl 5 rfl agg67 (by first | omega | assumption | (simp only [lens]; first | omega | assumption) | (simp [lens]; done) | (simp [lens]; omega)) ?_))) | ((with_reducible refine gt_alloc 5 55 ?_); refine st_alloc rfl 5 rfl 55 rfl hm zero55 ?_; clear hm; intro g5 w5 hm) | ((with_reducible refine gt_alloc 6 55 ?_); refine st_alloc rfl 6 rfl 55 rfl hm zero55 ?_; clear hm; intro g6 w6 hm) | ((with_reducible refine gt_store 55 ?_); (first | (refine st_full rfl 55 _ _ rfl hm rfl rfl 0 rfl agg55 (by first | omega | assumption | (simp only [lens]; first | omega | assumption) | (simp [lens]; done) | (simp [lens]; omega)) (by first | omega | assumption | (simp only [lens]; first | omega | assumption) | (simp [lens]; done) | (simp [lens]; omega)) ?_) | (refine st_full rfl 55 _ _ rfl hm rfl rfl 1 rfl agg55 (by first | omega | assumption | (simp only [lens]; first | omega | assumption) | (simp [lens]; done) | (simp [lens]; omega)) (by first | omega | assumption | (simp only [lens]; first | omega | assumption) | (simp [lens]; done) | (simp [lens]; omega)) ?_) | (refine st_full rfl 55 _ _ rfl hm rfl rfl 2 rfl agg55 (by first | omega | assumption | (simp only [lens]; first | omega | assumption) | (simp [lens]; done) | (simp [lens]; omega)) (by first | omega | assumption | (simp only [lens]; first | omega | assumption) | (simp [lens]; done) | (simp [lens]; omega)) ?_) | (refine st_full rfl 55 _ _ rfl hm rfl rfl 3 rfl agg55 (by first | omega | assumption | (simp only [lens]; first | omega | assumption) | (simp [lens]; done) | (simp [lens]; omega)) (by first | omega | assumption | (simp only [lens]; first | omega | assumption) | (simp [lens]; done) | (simp [lens]; omega)) ?_) | (refine st_full rfl 55 _ _ rfl hm rfl rfl 4 rfl agg55 (by first | omega | assumption | (simp only [lens]; first | omega | assumption) | (simp [lens]; done) | (simp [lens]; omega)) (by first | omega | assumption | (simp only [lens]; first | omega | assumption) | (simp [lens]; done) | (simp [lens]; omega)) ?_) | (refine st_full rfl 55 _ _ rfl hm rfl rfl 5 rfl agg55 (by first | omega | assumption | (simp only [lens]; first | omega | assumption) | (simp [lens]; done) | (simp [lens]; omega)) (by first | omega | assumption | (simp only [lens]; first | omega | assumption) | (simp [lens]; done) | (simp [lens]; omega)) ?_) | (refine st_put rfl 55 _ _ rfl hm rfl rfl 0 rfl agg55 (by first | omega | assumption | (simp only [lens]; first | omega | assumption) | (simp [lens]; done) | (simp [lens]; omega)) (by first | omega | assumption | (simp only [lens]; first | omega | assumption) | (simp [lens]; done) | (simp [lens]; omega)) ?_) | (refine st_put rfl 55 _ _ rfl hm rfl rfl 1 rfl agg55 (by first | omega | assumption | (simp only [lens]; first | omega | assumption) | (simp [lens]; done) | (simp [lens]; omega)) (by first | omega | assumption | (simp only [lens]; first | omega | assumption) | (simp [lens]; done) | (simp [lens]; omega)) ?_) | (refine st_put rfl 55 _ _ rfl hm rfl rfl 2 rfl agg55 (by first | omega | assumption | (simp only [lens]; first | omega | assumption) | (simp [lens]; done) | (simp [lens]; omega)) (by first | omega | assumption | (simp only [lens]; first | omega | assumption) | (simp [lens]; done) | (simp [lens]; omega)) ?_) | (refine st_put rfl 55 _ _ rfl hm rfl rfl 3 rfl agg55 (by first | omega | assumption | (simp only [lens]; first | omega | assumption) | (simp [lens]; done) | (simp [lens]; omega)) (by first | omega | assumption | (simp only [lens]; first | omega | assumption) | (simp [lens]; done) | (simp [lens]; omega)) ?_) | (refine st_put rfl 55 _ _ rfl hm rfl rfl 4 rfl agg55 (by first | omega | assumption | (simp only [lens]; first | omega | assumption) | (simp [lens]; done) | (simp [lens]; omega)) (by first | omega | assumption | (simp only [lens]; first | omega | assumption) | (simp [lens]; done) | (simp [lens]; omega)) ?_) | (refine st_put rfl 55 _ _ rfl hm rfl rfl 5 rfl agg55 (by first | omega | assumption | (simp only [lens]; first | omega | assumption) | (simp [lens]; done) | (simp [lens]; omega)) (by first | omega | assumption | (simp only [lens]; first | omega | assumption) | (simp [lens]; done) | (simp [lens]; omega)) ?_)); clear hm; intro ws hm; simp only [List.set_cons_zero, List.set_cons_succ] at hm))
  have HG := Aside0.mk (show Below w.heap.size w w3 ∧ w3.heap[g2]? = some (.cells (vals .u8 x) 67 (0, 0)) ∧ w3.heap[g3]? = some (.cells (vals .u8 y) 67 (0, 0)) from ⟨hm.done rfl, hm.mem (n := 1) rfl, hm.mem (n := 0) rfl⟩)
  clear hm
  refine start_ (n := 8) (S := fun w' => Below w.heap.size w w' ∧ w'.heap[g2]? = some (.cells (vals .u8 x) 67 (0, 0)) ∧ w'.heap[g3]? = some (.cells (vals .u8 y) 67 (0, 0))) (ds := [6, 7]) #[false, false, false, false, false, false, false, false] (by kernel_rfl) rfl rfl (⟨below_drew1 HG.out.1, HG.out.2.1, HG.out.2.2⟩) (fun hHeld => ?_)
  refine take_ (i := 0) (N := some 7) (v := .agg (vals .u8 x)) (a' := ?_) #[true, false, false, false, false, false, false, false] rfl rfl (by kernel_rfl) (fun _ _ _ h => h) (Or.inl ⟨by rfl, ?_⟩) hHeld ?_ ?_
  · intro w' s0
    exact y_rowA (by rfl) (by rfl) s0.2.1 aggFlag HSX.out
  rotate_left
  · simp only [Act.put, List.setIfInBounds_toArray, List.set_cons_zero, List.set_cons_succ, i64_w, i32_w]
    rfl
  refine take_ (i := 2) (N := some 9) (v := .agg (vals .u8 y)) (a' := ?_) #[true, false, true, false, false, false, false, false] rfl rfl (by kernel_rfl) (fun _ _ _ h => h) (Or.inl ⟨by rfl, ?_⟩) hHeld ?_ ?_
  · intro w' s0
    exact y_rowA (by rfl) (by rfl) s0.2.2 aggFlag HSY.out
  rotate_left
  · simp only [Act.put, List.setIfInBounds_toArray, List.set_cons_zero, List.set_cons_succ, i64_w, i32_w]
    rfl
  refine join_ (σ := Nat × Nat) 2 #[true, true, true, true, true, true, false, false] (fun s => [(8, .agg (vals .u8 X)), (10, .agg (vals .u8 Y)), (5, .pointer (some ⟨s.1, 0, none⟩)), (6, .pointer (some ⟨s.2, 0, none⟩))]) (fun s w' => (Below w.heap.size w w' ∧ w'.heap[g2]? = some (.cells (vals .u8 x) 67 (0, 0)) ∧ w'.heap[g3]? = some (.cells (vals .u8 y) 67 (0, 0))) ∧ w'.heap[s.1]? = some (.cells (vals .u8 (zs 6)) 55 (0, 0)) ∧ w'.heap[s.2]? = some (.cells (vals .u8 (zs 6)) 55 (0, 0)) ∧ s.1 ≠ s.2 ∧ w.heap.size ≤ s.1 ∧ w.heap.size ≤ s.2) ?_ ?_
  rotate_left
  · intro hJ
    refine three_ (i := 1) (j := 4) (k := 5) (Ni := some 8) (Nj := some 5) (Nk := some 6) #[true, true, true, false, false, false, false, false] #[true, false, true, false, true, false, false, false] #[true, false, true, false, false, true, false, false] rfl rfl rfl rfl rfl rfl (by kernel_rfl) (by decide) (by decide) (by decide) (fun K hK => ?_) (fun K hK => ?_) (fun K hK => ?_)
    · skip
      refine goes_ Try.func64 (by kernel_rfl) rfl #[.agg (vals .u8 x)] (by rfl) rfl rfl (by simp only [List.map_toArray, List.map_cons, List.map_nil]; rfl) ?_
      refine (HBX.out _).mono ?_
      rintro e w8 ⟨rfl, h⟩
      (try replace H5 := Aside0.mk ((h.block _ (lt_of_some H5.out)).trans H5.out))
      (try replace H6 := Aside0.mk ((h.block _ (lt_of_some H6.out)).trans H6.out))
      refine ⟨_, rfl, ?_⟩
      refine hK.out _ _ (⟨hHeld.1.trans (h.mono hHeld.1.size), (h.block _ (lt_of_some hHeld.2.1)).trans hHeld.2.1, (h.block _ (lt_of_some hHeld.2.2)).trans hHeld.2.2⟩) (fun hHeld => ?_)
      clear hK K
      refine norm_ (a' := ?_) ?_ ?_
      rotate_left
      · show Act.put _ (some 8) _ = _
        simp only [Act.put, List.setIfInBounds_toArray, List.set_cons_zero, List.set_cons_succ, i64_w, i32_w]
        rfl
      refine three_ (i := 3) (j := 4) (k := 5) (Ni := some 10) (Nj := some 5) (Nk := some 6) #[true, true, true, true, false, false, false, false] #[true, true, true, false, true, false, false, false] #[true, true, true, false, false, true, false, false] rfl rfl rfl rfl rfl rfl (by kernel_rfl) (by decide) (by decide) (by decide) (fun K hK => ?_) (fun K hK => ?_) (fun K hK => ?_)
      · skip
        refine goes_ Try.func64 (by kernel_rfl) rfl #[.agg (vals .u8 y)] (by rfl) rfl rfl (by simp only [List.map_toArray, List.map_cons, List.map_nil]; rfl) ?_
        refine (HBY.out _).mono ?_
        rintro e w10 ⟨rfl, h⟩
        (try replace H5 := Aside0.mk ((h.block _ (lt_of_some H5.out)).trans H5.out))
        (try replace H6 := Aside0.mk ((h.block _ (lt_of_some H6.out)).trans H6.out))
        refine ⟨_, rfl, ?_⟩
        refine hK.out _ _ (⟨hHeld.1.trans (h.mono hHeld.1.size), (h.block _ (lt_of_some hHeld.2.1)).trans hHeld.2.1, (h.block _ (lt_of_some hHeld.2.2)).trans hHeld.2.2⟩) (fun hHeld => ?_)
        clear hK K
        refine norm_ (a' := ?_) ?_ ?_
        rotate_left
        · show Act.put _ (some 10) _ = _
          simp only [Act.put, List.setIfInBounds_toArray, List.set_cons_zero, List.set_cons_succ, i64_w, i32_w]
          rfl
        refine two_ (i := 4) (j := 5) (Ni := some 5) (Nj := some 6) #[true, true, true, true, true, false, false, false] #[true, true, true, true, false, true, false, false] rfl rfl rfl rfl (by kernel_rfl) (by decide) (by decide) (fun K hK => ?_) (fun K hK => ?_)
        · skip
          refine s_alloc (by rfl) rfl rfl zero55 ?_
          intro g5 w5 hg5 hge h
          have H5 := Aside0.mk hg5
          have HG5 := Aside0.mk (Nat.le_trans hHeld.1.size hge)
          (try have HNE := Aside0.mk (show g5 ≠ g6 by have := lt_of_some H6.out; omega))
          (try replace H6 := Aside0.mk ((h.block _ (lt_of_some H6.out)).trans H6.out))
          clear hg5 hge
          refine hK.out _ _ (⟨hHeld.1.trans (h.mono hHeld.1.size), (h.block _ (lt_of_some hHeld.2.1)).trans hHeld.2.1, (h.block _ (lt_of_some hHeld.2.2)).trans hHeld.2.2⟩) (fun hHeld => ?_)
          clear hK K
          refine norm_ (a' := ?_) ?_ ?_
          rotate_left
          · show Act.put _ (some 5) _ = _
            simp only [Act.put, List.setIfInBounds_toArray, List.set_cons_zero, List.set_cons_succ, i64_w, i32_w]
            rfl
          refine one_ (i := 5) (N := some 6) #[true, true, true, true, true, true, false, false] rfl rfl (by kernel_rfl) (by decide) (fun K hK => ?_)
          refine s_alloc (by rfl) rfl rfl zero55 ?_
          intro g6 w6 hg6 hge h
          have H6 := Aside0.mk hg6
          have HG6 := Aside0.mk (Nat.le_trans hHeld.1.size hge)
          (try have HNE := Aside0.mk (show g5 ≠ g6 by have := lt_of_some H5.out; omega))
          (try replace H5 := Aside0.mk ((h.block _ (lt_of_some H5.out)).trans H5.out))
          clear hg6 hge
          refine hK.out _ _ (⟨hHeld.1.trans (h.mono hHeld.1.size), (h.block _ (lt_of_some hHeld.2.1)).trans hHeld.2.1, (h.block _ (lt_of_some hHeld.2.2)).trans hHeld.2.2⟩) (fun hHeld => ?_)
          clear hK K
          refine norm_ (a' := ?_) ?_ ?_
          rotate_left
          · show Act.put _ (some 6) _ = _
            simp only [Act.put, List.setIfInBounds_toArray, List.set_cons_zero, List.set_cons_succ, i64_w, i32_w]
            rfl
          exact norm_ (by first | (simp only [putAll, Act.put, List.setIfInBounds_toArray, List.set_cons_zero, List.set_cons_succ]; done) | (simp only [putAll, Act.put, List.setIfInBounds_toArray, List.set_cons_zero, List.set_cons_succ]; rfl)) (hJ (g5, g6) _ ⟨hHeld, H5.out, H6.out, HNE.out, HG5.out, HG6.out⟩)
        · skip
          refine s_alloc (by rfl) rfl rfl zero55 ?_
          intro g6 w6 hg6 hge h
          have H6 := Aside0.mk hg6
          have HG6 := Aside0.mk (Nat.le_trans hHeld.1.size hge)
          (try have HNE := Aside0.mk (show g5 ≠ g6 by have := lt_of_some H5.out; omega))
          (try replace H5 := Aside0.mk ((h.block _ (lt_of_some H5.out)).trans H5.out))
          clear hg6 hge
          refine hK.out _ _ (⟨hHeld.1.trans (h.mono hHeld.1.size), (h.block _ (lt_of_some hHeld.2.1)).trans hHeld.2.1, (h.block _ (lt_of_some hHeld.2.2)).trans hHeld.2.2⟩) (fun hHeld => ?_)
          clear hK K
          refine norm_ (a' := ?_) ?_ ?_
          rotate_left
          · show Act.put _ (some 6) _ = _
            simp only [Act.put, List.setIfInBounds_toArray, List.set_cons_zero, List.set_cons_succ, i64_w, i32_w]
            rfl
          refine one_ (i := 4) (N := some 5) #[true, true, true, true, true, true, false, false] rfl rfl (by kernel_rfl) (by decide) (fun K hK => ?_)
          refine s_alloc (by rfl) rfl rfl zero55 ?_
          intro g5 w5 hg5 hge h
          have H5 := Aside0.mk hg5
          have HG5 := Aside0.mk (Nat.le_trans hHeld.1.size hge)
          (try have HNE := Aside0.mk (show g5 ≠ g6 by have := lt_of_some H6.out; omega))
          (try replace H6 := Aside0.mk ((h.block _ (lt_of_some H6.out)).trans H6.out))
          clear hg5 hge
          refine hK.out _ _ (⟨hHeld.1.trans (h.mono hHeld.1.size), (h.block _ (lt_of_some hHeld.2.1)).trans hHeld.2.1, (h.block _ (lt_of_some hHeld.2.2)).trans hHeld.2.2⟩) (fun hHeld => ?_)
          clear hK K
          refine norm_ (a' := ?_) ?_ ?_
          rotate_left
          · show Act.put _ (some 5) _ = _
            simp only [Act.put, List.setIfInBounds_toArray, List.set_cons_zero, List.set_cons_succ, i64_w, i32_w]
            rfl
          exact norm_ (by first | (simp only [putAll, Act.put, List.setIfInBounds_toArray, List.set_cons_zero, List.set_cons_succ]; done) | (simp only [putAll, Act.put, List.setIfInBounds_toArray, List.set_cons_zero, List.set_cons_succ]; rfl)) (hJ (g5, g6) _ ⟨hHeld, H5.out, H6.out, HNE.out, HG5.out, HG6.out⟩)
      · skip
        refine s_alloc (by rfl) rfl rfl zero55 ?_
        intro g5 w5 hg5 hge h
        have H5 := Aside0.mk hg5
        have HG5 := Aside0.mk (Nat.le_trans hHeld.1.size hge)
        (try have HNE := Aside0.mk (show g5 ≠ g6 by have := lt_of_some H6.out; omega))
        (try replace H6 := Aside0.mk ((h.block _ (lt_of_some H6.out)).trans H6.out))
        clear hg5 hge
        refine hK.out _ _ (⟨hHeld.1.trans (h.mono hHeld.1.size), (h.block _ (lt_of_some hHeld.2.1)).trans hHeld.2.1, (h.block _ (lt_of_some hHeld.2.2)).trans hHeld.2.2⟩) (fun hHeld => ?_)
        clear hK K
        refine norm_ (a' := ?_) ?_ ?_
        rotate_left
        · show Act.put _ (some 5) _ = _
          simp only [Act.put, List.setIfInBounds_toArray, List.set_cons_zero, List.set_cons_succ, i64_w, i32_w]
          rfl
        refine two_ (i := 3) (j := 5) (Ni := some 10) (Nj := some 6) #[true, true, true, true, true, false, false, false] #[true, true, true, false, true, true, false, false] rfl rfl rfl rfl (by kernel_rfl) (by decide) (by decide) (fun K hK => ?_) (fun K hK => ?_)
        · skip
          refine goes_ Try.func64 (by kernel_rfl) rfl #[.agg (vals .u8 y)] (by rfl) rfl rfl (by simp only [List.map_toArray, List.map_cons, List.map_nil]; rfl) ?_
          refine (HBY.out _).mono ?_
          rintro e w10 ⟨rfl, h⟩
          (try replace H5 := Aside0.mk ((h.block _ (lt_of_some H5.out)).trans H5.out))
          (try replace H6 := Aside0.mk ((h.block _ (lt_of_some H6.out)).trans H6.out))
          refine ⟨_, rfl, ?_⟩
          refine hK.out _ _ (⟨hHeld.1.trans (h.mono hHeld.1.size), (h.block _ (lt_of_some hHeld.2.1)).trans hHeld.2.1, (h.block _ (lt_of_some hHeld.2.2)).trans hHeld.2.2⟩) (fun hHeld => ?_)
          clear hK K
          refine norm_ (a' := ?_) ?_ ?_
          rotate_left
          · show Act.put _ (some 10) _ = _
            simp only [Act.put, List.setIfInBounds_toArray, List.set_cons_zero, List.set_cons_succ, i64_w, i32_w]
            rfl
          refine one_ (i := 5) (N := some 6) #[true, true, true, true, true, true, false, false] rfl rfl (by kernel_rfl) (by decide) (fun K hK => ?_)
          refine s_alloc (by rfl) rfl rfl zero55 ?_
          intro g6 w6 hg6 hge h
          have H6 := Aside0.mk hg6
          have HG6 := Aside0.mk (Nat.le_trans hHeld.1.size hge)
          (try have HNE := Aside0.mk (show g5 ≠ g6 by have := lt_of_some H5.out; omega))
          (try replace H5 := Aside0.mk ((h.block _ (lt_of_some H5.out)).trans H5.out))
          clear hg6 hge
          refine hK.out _ _ (⟨hHeld.1.trans (h.mono hHeld.1.size), (h.block _ (lt_of_some hHeld.2.1)).trans hHeld.2.1, (h.block _ (lt_of_some hHeld.2.2)).trans hHeld.2.2⟩) (fun hHeld => ?_)
          clear hK K
          refine norm_ (a' := ?_) ?_ ?_
          rotate_left
          · show Act.put _ (some 6) _ = _
            simp only [Act.put, List.setIfInBounds_toArray, List.set_cons_zero, List.set_cons_succ, i64_w, i32_w]
            rfl
          exact norm_ (by first | (simp only [putAll, Act.put, List.setIfInBounds_toArray, List.set_cons_zero, List.set_cons_succ]; done) | (simp only [putAll, Act.put, List.setIfInBounds_toArray, List.set_cons_zero, List.set_cons_succ]; rfl)) (hJ (g5, g6) _ ⟨hHeld, H5.out, H6.out, HNE.out, HG5.out, HG6.out⟩)
        · skip
          refine s_alloc (by rfl) rfl rfl zero55 ?_
          intro g6 w6 hg6 hge h
          have H6 := Aside0.mk hg6
          have HG6 := Aside0.mk (Nat.le_trans hHeld.1.size hge)
          (try have HNE := Aside0.mk (show g5 ≠ g6 by have := lt_of_some H5.out; omega))
          (try replace H5 := Aside0.mk ((h.block _ (lt_of_some H5.out)).trans H5.out))
          clear hg6 hge
          refine hK.out _ _ (⟨hHeld.1.trans (h.mono hHeld.1.size), (h.block _ (lt_of_some hHeld.2.1)).trans hHeld.2.1, (h.block _ (lt_of_some hHeld.2.2)).trans hHeld.2.2⟩) (fun hHeld => ?_)
          clear hK K
          refine norm_ (a' := ?_) ?_ ?_
          rotate_left
          · show Act.put _ (some 6) _ = _
            simp only [Act.put, List.setIfInBounds_toArray, List.set_cons_zero, List.set_cons_succ, i64_w, i32_w]
            rfl
          refine one_ (i := 3) (N := some 10) #[true, true, true, true, true, true, false, false] rfl rfl (by kernel_rfl) (by decide) (fun K hK => ?_)
          refine goes_ Try.func64 (by kernel_rfl) rfl #[.agg (vals .u8 y)] (by rfl) rfl rfl (by simp only [List.map_toArray, List.map_cons, List.map_nil]; rfl) ?_
          refine (HBY.out _).mono ?_
          rintro e w10 ⟨rfl, h⟩
          (try replace H5 := Aside0.mk ((h.block _ (lt_of_some H5.out)).trans H5.out))
          (try replace H6 := Aside0.mk ((h.block _ (lt_of_some H6.out)).trans H6.out))
          refine ⟨_, rfl, ?_⟩
          refine hK.out _ _ (⟨hHeld.1.trans (h.mono hHeld.1.size), (h.block _ (lt_of_some hHeld.2.1)).trans hHeld.2.1, (h.block _ (lt_of_some hHeld.2.2)).trans hHeld.2.2⟩) (fun hHeld => ?_)
          clear hK K
          refine norm_ (a' := ?_) ?_ ?_
          rotate_left
          · show Act.put _ (some 10) _ = _
            simp only [Act.put, List.setIfInBounds_toArray, List.set_cons_zero, List.set_cons_succ, i64_w, i32_w]
            rfl
          exact norm_ (by first | (simp only [putAll, Act.put, List.setIfInBounds_toArray, List.set_cons_zero, List.set_cons_succ]; done) | (simp only [putAll, Act.put, List.setIfInBounds_toArray, List.set_cons_zero, List.set_cons_succ]; rfl)) (hJ (g5, g6) _ ⟨hHeld, H5.out, H6.out, HNE.out, HG5.out, HG6.out⟩)
      · skip
        refine s_alloc (by rfl) rfl rfl zero55 ?_
        intro g6 w6 hg6 hge h
        have H6 := Aside0.mk hg6
        have HG6 := Aside0.mk (Nat.le_trans hHeld.1.size hge)
        (try have HNE := Aside0.mk (show g5 ≠ g6 by have := lt_of_some H5.out; omega))
        (try replace H5 := Aside0.mk ((h.block _ (lt_of_some H5.out)).trans H5.out))
        clear hg6 hge
        refine hK.out _ _ (⟨hHeld.1.trans (h.mono hHeld.1.size), (h.block _ (lt_of_some hHeld.2.1)).trans hHeld.2.1, (h.block _ (lt_of_some hHeld.2.2)).trans hHeld.2.2⟩) (fun hHeld => ?_)
        clear hK K
        refine norm_ (a' := ?_) ?_ ?_
        rotate_left
        · show Act.put _ (some 6) _ = _
          simp only [Act.put, List.setIfInBounds_toArray, List.set_cons_zero, List.set_cons_succ, i64_w, i32_w]
          rfl
        refine two_ (i := 3) (j := 4) (Ni := some 10) (Nj := some 5) #[true, true, true, true, false, true, false, false] #[true, true, true, false, true, true, false, false] rfl rfl rfl rfl (by kernel_rfl) (by decide) (by decide) (fun K hK => ?_) (fun K hK => ?_)
        · skip
          refine goes_ Try.func64 (by kernel_rfl) rfl #[.agg (vals .u8 y)] (by rfl) rfl rfl (by simp only [List.map_toArray, List.map_cons, List.map_nil]; rfl) ?_
          refine (HBY.out _).mono ?_
          rintro e w10 ⟨rfl, h⟩
          (try replace H5 := Aside0.mk ((h.block _ (lt_of_some H5.out)).trans H5.out))
          (try replace H6 := Aside0.mk ((h.block _ (lt_of_some H6.out)).trans H6.out))
          refine ⟨_, rfl, ?_⟩
          refine hK.out _ _ (⟨hHeld.1.trans (h.mono hHeld.1.size), (h.block _ (lt_of_some hHeld.2.1)).trans hHeld.2.1, (h.block _ (lt_of_some hHeld.2.2)).trans hHeld.2.2⟩) (fun hHeld => ?_)
          clear hK K
          refine norm_ (a' := ?_) ?_ ?_
          rotate_left
          · show Act.put _ (some 10) _ = _
            simp only [Act.put, List.setIfInBounds_toArray, List.set_cons_zero, List.set_cons_succ, i64_w, i32_w]
            rfl
          refine one_ (i := 4) (N := some 5) #[true, true, true, true, true, true, false, false] rfl rfl (by kernel_rfl) (by decide) (fun K hK => ?_)
          refine s_alloc (by rfl) rfl rfl zero55 ?_
          intro g5 w5 hg5 hge h
          have H5 := Aside0.mk hg5
          have HG5 := Aside0.mk (Nat.le_trans hHeld.1.size hge)
          (try have HNE := Aside0.mk (show g5 ≠ g6 by have := lt_of_some H6.out; omega))
          (try replace H6 := Aside0.mk ((h.block _ (lt_of_some H6.out)).trans H6.out))
          clear hg5 hge
          refine hK.out _ _ (⟨hHeld.1.trans (h.mono hHeld.1.size), (h.block _ (lt_of_some hHeld.2.1)).trans hHeld.2.1, (h.block _ (lt_of_some hHeld.2.2)).trans hHeld.2.2⟩) (fun hHeld => ?_)
          clear hK K
          refine norm_ (a' := ?_) ?_ ?_
          rotate_left
          · show Act.put _ (some 5) _ = _
            simp only [Act.put, List.setIfInBounds_toArray, List.set_cons_zero, List.set_cons_succ, i64_w, i32_w]
            rfl
          exact norm_ (by first | (simp only [putAll, Act.put, List.setIfInBounds_toArray, List.set_cons_zero, List.set_cons_succ]; done) | (simp only [putAll, Act.put, List.setIfInBounds_toArray, List.set_cons_zero, List.set_cons_succ]; rfl)) (hJ (g5, g6) _ ⟨hHeld, H5.out, H6.out, HNE.out, HG5.out, HG6.out⟩)
        · skip
          refine s_alloc (by rfl) rfl rfl zero55 ?_
          intro g5 w5 hg5 hge h
          have H5 := Aside0.mk hg5
          have HG5 := Aside0.mk (Nat.le_trans hHeld.1.size hge)
          (try have HNE := Aside0.mk (show g5 ≠ g6 by have := lt_of_some H6.out; omega))
          (try replace H6 := Aside0.mk ((h.block _ (lt_of_some H6.out)).trans H6.out))
          clear hg5 hge
          refine hK.out _ _ (⟨hHeld.1.trans (h.mono hHeld.1.size), (h.block _ (lt_of_some hHeld.2.1)).trans hHeld.2.1, (h.block _ (lt_of_some hHeld.2.2)).trans hHeld.2.2⟩) (fun hHeld => ?_)
          clear hK K
          refine norm_ (a' := ?_) ?_ ?_
          rotate_left
          · show Act.put _ (some 5) _ = _
            simp only [Act.put, List.setIfInBounds_toArray, List.set_cons_zero, List.set_cons_succ, i64_w, i32_w]
            rfl
          refine one_ (i := 3) (N := some 10) #[true, true, true, true, true, true, false, false] rfl rfl (by kernel_rfl) (by decide) (fun K hK => ?_)
          refine goes_ Try.func64 (by kernel_rfl) rfl #[.agg (vals .u8 y)] (by rfl) rfl rfl (by simp only [List.map_toArray, List.map_cons, List.map_nil]; rfl) ?_
          refine (HBY.out _).mono ?_
          rintro e w10 ⟨rfl, h⟩
          (try replace H5 := Aside0.mk ((h.block _ (lt_of_some H5.out)).trans H5.out))
          (try replace H6 := Aside0.mk ((h.block _ (lt_of_some H6.out)).trans H6.out))
          refine ⟨_, rfl, ?_⟩
          refine hK.out _ _ (⟨hHeld.1.trans (h.mono hHeld.1.size), (h.block _ (lt_of_some hHeld.2.1)).trans hHeld.2.1, (h.block _ (lt_of_some hHeld.2.2)).trans hHeld.2.2⟩) (fun hHeld => ?_)
          clear hK K
          refine norm_ (a' := ?_) ?_ ?_
          rotate_left
          · show Act.put _ (some 10) _ = _
            simp only [Act.put, List.setIfInBounds_toArray, List.set_cons_zero, List.set_cons_succ, i64_w, i32_w]
            rfl
          exact norm_ (by first | (simp only [putAll, Act.put, List.setIfInBounds_toArray, List.set_cons_zero, List.set_cons_succ]; done) | (simp only [putAll, Act.put, List.setIfInBounds_toArray, List.set_cons_zero, List.set_cons_succ]; rfl)) (hJ (g5, g6) _ ⟨hHeld, H5.out, H6.out, HNE.out, HG5.out, HG6.out⟩)
    · skip
      refine s_alloc (by rfl) rfl rfl zero55 ?_
      intro g5 w5 hg5 hge h
      have H5 := Aside0.mk hg5
      have HG5 := Aside0.mk (Nat.le_trans hHeld.1.size hge)
      (try have HNE := Aside0.mk (show g5 ≠ g6 by have := lt_of_some H6.out; omega))
      (try replace H6 := Aside0.mk ((h.block _ (lt_of_some H6.out)).trans H6.out))
      clear hg5 hge
      refine hK.out _ _ (⟨hHeld.1.trans (h.mono hHeld.1.size), (h.block _ (lt_of_some hHeld.2.1)).trans hHeld.2.1, (h.block _ (lt_of_some hHeld.2.2)).trans hHeld.2.2⟩) (fun hHeld => ?_)
      clear hK K
      refine norm_ (a' := ?_) ?_ ?_
      rotate_left
      · show Act.put _ (some 5) _ = _
        simp only [Act.put, List.setIfInBounds_toArray, List.set_cons_zero, List.set_cons_succ, i64_w, i32_w]
        rfl
      refine two_ (i := 1) (j := 5) (Ni := some 8) (Nj := some 6) #[true, true, true, false, true, false, false, false] #[true, false, true, false, true, true, false, false] rfl rfl rfl rfl (by kernel_rfl) (by decide) (by decide) (fun K hK => ?_) (fun K hK => ?_)
      · skip
        refine goes_ Try.func64 (by kernel_rfl) rfl #[.agg (vals .u8 x)] (by rfl) rfl rfl (by simp only [List.map_toArray, List.map_cons, List.map_nil]; rfl) ?_
        refine (HBX.out _).mono ?_
        rintro e w8 ⟨rfl, h⟩
        (try replace H5 := Aside0.mk ((h.block _ (lt_of_some H5.out)).trans H5.out))
        (try replace H6 := Aside0.mk ((h.block _ (lt_of_some H6.out)).trans H6.out))
        refine ⟨_, rfl, ?_⟩
        refine hK.out _ _ (⟨hHeld.1.trans (h.mono hHeld.1.size), (h.block _ (lt_of_some hHeld.2.1)).trans hHeld.2.1, (h.block _ (lt_of_some hHeld.2.2)).trans hHeld.2.2⟩) (fun hHeld => ?_)
        clear hK K
        refine norm_ (a' := ?_) ?_ ?_
        rotate_left
        · show Act.put _ (some 8) _ = _
          simp only [Act.put, List.setIfInBounds_toArray, List.set_cons_zero, List.set_cons_succ, i64_w, i32_w]
          rfl
        refine two_ (i := 3) (j := 5) (Ni := some 10) (Nj := some 6) #[true, true, true, true, true, false, false, false] #[true, true, true, false, true, true, false, false] rfl rfl rfl rfl (by kernel_rfl) (by decide) (by decide) (fun K hK => ?_) (fun K hK => ?_)
        · skip
          refine goes_ Try.func64 (by kernel_rfl) rfl #[.agg (vals .u8 y)] (by rfl) rfl rfl (by simp only [List.map_toArray, List.map_cons, List.map_nil]; rfl) ?_
          refine (HBY.out _).mono ?_
          rintro e w10 ⟨rfl, h⟩
          (try replace H5 := Aside0.mk ((h.block _ (lt_of_some H5.out)).trans H5.out))
          (try replace H6 := Aside0.mk ((h.block _ (lt_of_some H6.out)).trans H6.out))
          refine ⟨_, rfl, ?_⟩
          refine hK.out _ _ (⟨hHeld.1.trans (h.mono hHeld.1.size), (h.block _ (lt_of_some hHeld.2.1)).trans hHeld.2.1, (h.block _ (lt_of_some hHeld.2.2)).trans hHeld.2.2⟩) (fun hHeld => ?_)
          clear hK K
          refine norm_ (a' := ?_) ?_ ?_
          rotate_left
          · show Act.put _ (some 10) _ = _
            simp only [Act.put, List.setIfInBounds_toArray, List.set_cons_zero, List.set_cons_succ, i64_w, i32_w]
            rfl
          refine one_ (i := 5) (N := some 6) #[true, true, true, true, true, true, false, false] rfl rfl (by kernel_rfl) (by decide) (fun K hK => ?_)
          refine s_alloc (by rfl) rfl rfl zero55 ?_
          intro g6 w6 hg6 hge h
          have H6 := Aside0.mk hg6
          have HG6 := Aside0.mk (Nat.le_trans hHeld.1.size hge)
          (try have HNE := Aside0.mk (show g5 ≠ g6 by have := lt_of_some H5.out; omega))
          (try replace H5 := Aside0.mk ((h.block _ (lt_of_some H5.out)).trans H5.out))
          clear hg6 hge
          refine hK.out _ _ (⟨hHeld.1.trans (h.mono hHeld.1.size), (h.block _ (lt_of_some hHeld.2.1)).trans hHeld.2.1, (h.block _ (lt_of_some hHeld.2.2)).trans hHeld.2.2⟩) (fun hHeld => ?_)
          clear hK K
          refine norm_ (a' := ?_) ?_ ?_
          rotate_left
          · show Act.put _ (some 6) _ = _
            simp only [Act.put, List.setIfInBounds_toArray, List.set_cons_zero, List.set_cons_succ, i64_w, i32_w]
            rfl
          exact norm_ (by first | (simp only [putAll, Act.put, List.setIfInBounds_toArray, List.set_cons_zero, List.set_cons_succ]; done) | (simp only [putAll, Act.put, List.setIfInBounds_toArray, List.set_cons_zero, List.set_cons_succ]; rfl)) (hJ (g5, g6) _ ⟨hHeld, H5.out, H6.out, HNE.out, HG5.out, HG6.out⟩)
        · skip
          refine s_alloc (by rfl) rfl rfl zero55 ?_
          intro g6 w6 hg6 hge h
          have H6 := Aside0.mk hg6
          have HG6 := Aside0.mk (Nat.le_trans hHeld.1.size hge)
          (try have HNE := Aside0.mk (show g5 ≠ g6 by have := lt_of_some H5.out; omega))
          (try replace H5 := Aside0.mk ((h.block _ (lt_of_some H5.out)).trans H5.out))
          clear hg6 hge
          refine hK.out _ _ (⟨hHeld.1.trans (h.mono hHeld.1.size), (h.block _ (lt_of_some hHeld.2.1)).trans hHeld.2.1, (h.block _ (lt_of_some hHeld.2.2)).trans hHeld.2.2⟩) (fun hHeld => ?_)
          clear hK K
          refine norm_ (a' := ?_) ?_ ?_
          rotate_left
          · show Act.put _ (some 6) _ = _
            simp only [Act.put, List.setIfInBounds_toArray, List.set_cons_zero, List.set_cons_succ, i64_w, i32_w]
            rfl
          refine one_ (i := 3) (N := some 10) #[true, true, true, true, true, true, false, false] rfl rfl (by kernel_rfl) (by decide) (fun K hK => ?_)
          refine goes_ Try.func64 (by kernel_rfl) rfl #[.agg (vals .u8 y)] (by rfl) rfl rfl (by simp only [List.map_toArray, List.map_cons, List.map_nil]; rfl) ?_
          refine (HBY.out _).mono ?_
          rintro e w10 ⟨rfl, h⟩
          (try replace H5 := Aside0.mk ((h.block _ (lt_of_some H5.out)).trans H5.out))
          (try replace H6 := Aside0.mk ((h.block _ (lt_of_some H6.out)).trans H6.out))
          refine ⟨_, rfl, ?_⟩
          refine hK.out _ _ (⟨hHeld.1.trans (h.mono hHeld.1.size), (h.block _ (lt_of_some hHeld.2.1)).trans hHeld.2.1, (h.block _ (lt_of_some hHeld.2.2)).trans hHeld.2.2⟩) (fun hHeld => ?_)
          clear hK K
          refine norm_ (a' := ?_) ?_ ?_
          rotate_left
          · show Act.put _ (some 10) _ = _
            simp only [Act.put, List.setIfInBounds_toArray, List.set_cons_zero, List.set_cons_succ, i64_w, i32_w]
            rfl
          exact norm_ (by first | (simp only [putAll, Act.put, List.setIfInBounds_toArray, List.set_cons_zero, List.set_cons_succ]; done) | (simp only [putAll, Act.put, List.setIfInBounds_toArray, List.set_cons_zero, List.set_cons_succ]; rfl)) (hJ (g5, g6) _ ⟨hHeld, H5.out, H6.out, HNE.out, HG5.out, HG6.out⟩)
      · skip
        refine s_alloc (by rfl) rfl rfl zero55 ?_
        intro g6 w6 hg6 hge h
        have H6 := Aside0.mk hg6
        have HG6 := Aside0.mk (Nat.le_trans hHeld.1.size hge)
        (try have HNE := Aside0.mk (show g5 ≠ g6 by have := lt_of_some H5.out; omega))
        (try replace H5 := Aside0.mk ((h.block _ (lt_of_some H5.out)).trans H5.out))
        clear hg6 hge
        refine hK.out _ _ (⟨hHeld.1.trans (h.mono hHeld.1.size), (h.block _ (lt_of_some hHeld.2.1)).trans hHeld.2.1, (h.block _ (lt_of_some hHeld.2.2)).trans hHeld.2.2⟩) (fun hHeld => ?_)
        clear hK K
        refine norm_ (a' := ?_) ?_ ?_
        rotate_left
        · show Act.put _ (some 6) _ = _
          simp only [Act.put, List.setIfInBounds_toArray, List.set_cons_zero, List.set_cons_succ, i64_w, i32_w]
          rfl
        refine one_ (i := 1) (N := some 8) #[true, true, true, false, true, true, false, false] rfl rfl (by kernel_rfl) (by decide) (fun K hK => ?_)
        refine goes_ Try.func64 (by kernel_rfl) rfl #[.agg (vals .u8 x)] (by rfl) rfl rfl (by simp only [List.map_toArray, List.map_cons, List.map_nil]; rfl) ?_
        refine (HBX.out _).mono ?_
        rintro e w8 ⟨rfl, h⟩
        (try replace H5 := Aside0.mk ((h.block _ (lt_of_some H5.out)).trans H5.out))
        (try replace H6 := Aside0.mk ((h.block _ (lt_of_some H6.out)).trans H6.out))
        refine ⟨_, rfl, ?_⟩
        refine hK.out _ _ (⟨hHeld.1.trans (h.mono hHeld.1.size), (h.block _ (lt_of_some hHeld.2.1)).trans hHeld.2.1, (h.block _ (lt_of_some hHeld.2.2)).trans hHeld.2.2⟩) (fun hHeld => ?_)
        clear hK K
        refine norm_ (a' := ?_) ?_ ?_
        rotate_left
        · show Act.put _ (some 8) _ = _
          simp only [Act.put, List.setIfInBounds_toArray, List.set_cons_zero, List.set_cons_succ, i64_w, i32_w]
          rfl
        refine one_ (i := 3) (N := some 10) #[true, true, true, true, true, true, false, false] rfl rfl (by kernel_rfl) (by decide) (fun K hK => ?_)
        refine goes_ Try.func64 (by kernel_rfl) rfl #[.agg (vals .u8 y)] (by rfl) rfl rfl (by simp only [List.map_toArray, List.map_cons, List.map_nil]; rfl) ?_
        refine (HBY.out _).mono ?_
        rintro e w10 ⟨rfl, h⟩
        (try replace H5 := Aside0.mk ((h.block _ (lt_of_some H5.out)).trans H5.out))
        (try replace H6 := Aside0.mk ((h.block _ (lt_of_some H6.out)).trans H6.out))
        refine ⟨_, rfl, ?_⟩
        refine hK.out _ _ (⟨hHeld.1.trans (h.mono hHeld.1.size), (h.block _ (lt_of_some hHeld.2.1)).trans hHeld.2.1, (h.block _ (lt_of_some hHeld.2.2)).trans hHeld.2.2⟩) (fun hHeld => ?_)
        clear hK K
        refine norm_ (a' := ?_) ?_ ?_
        rotate_left
        · show Act.put _ (some 10) _ = _
          simp only [Act.put, List.setIfInBounds_toArray, List.set_cons_zero, List.set_cons_succ, i64_w, i32_w]
          rfl
        exact norm_ (by first | (simp only [putAll, Act.put, List.setIfInBounds_toArray, List.set_cons_zero, List.set_cons_succ]; done) | (simp only [putAll, Act.put, List.setIfInBounds_toArray, List.set_cons_zero, List.set_cons_succ]; rfl)) (hJ (g5, g6) _ ⟨hHeld, H5.out, H6.out, HNE.out, HG5.out, HG6.out⟩)
    · skip
      refine s_alloc (by rfl) rfl rfl zero55 ?_
      intro g6 w6 hg6 hge h
      have H6 := Aside0.mk hg6
      have HG6 := Aside0.mk (Nat.le_trans hHeld.1.size hge)
      (try have HNE := Aside0.mk (show g5 ≠ g6 by have := lt_of_some H5.out; omega))
      (try replace H5 := Aside0.mk ((h.block _ (lt_of_some H5.out)).trans H5.out))
      clear hg6 hge
      refine hK.out _ _ (⟨hHeld.1.trans (h.mono hHeld.1.size), (h.block _ (lt_of_some hHeld.2.1)).trans hHeld.2.1, (h.block _ (lt_of_some hHeld.2.2)).trans hHeld.2.2⟩) (fun hHeld => ?_)
      clear hK K
      refine norm_ (a' := ?_) ?_ ?_
      rotate_left
      · show Act.put _ (some 6) _ = _
        simp only [Act.put, List.setIfInBounds_toArray, List.set_cons_zero, List.set_cons_succ, i64_w, i32_w]
        rfl
      refine two_ (i := 1) (j := 4) (Ni := some 8) (Nj := some 5) #[true, true, true, false, false, true, false, false] #[true, false, true, false, true, true, false, false] rfl rfl rfl rfl (by kernel_rfl) (by decide) (by decide) (fun K hK => ?_) (fun K hK => ?_)
      · skip
        refine goes_ Try.func64 (by kernel_rfl) rfl #[.agg (vals .u8 x)] (by rfl) rfl rfl (by simp only [List.map_toArray, List.map_cons, List.map_nil]; rfl) ?_
        refine (HBX.out _).mono ?_
        rintro e w8 ⟨rfl, h⟩
        (try replace H5 := Aside0.mk ((h.block _ (lt_of_some H5.out)).trans H5.out))
        (try replace H6 := Aside0.mk ((h.block _ (lt_of_some H6.out)).trans H6.out))
        refine ⟨_, rfl, ?_⟩
        refine hK.out _ _ (⟨hHeld.1.trans (h.mono hHeld.1.size), (h.block _ (lt_of_some hHeld.2.1)).trans hHeld.2.1, (h.block _ (lt_of_some hHeld.2.2)).trans hHeld.2.2⟩) (fun hHeld => ?_)
        clear hK K
        refine norm_ (a' := ?_) ?_ ?_
        rotate_left
        · show Act.put _ (some 8) _ = _
          simp only [Act.put, List.setIfInBounds_toArray, List.set_cons_zero, List.set_cons_succ, i64_w, i32_w]
          rfl
        refine two_ (i := 3) (j := 4) (Ni := some 10) (Nj := some 5) #[true, true, true, true, false, true, false, false] #[true, true, true, false, true, true, false, false] rfl rfl rfl rfl (by kernel_rfl) (by decide) (by decide) (fun K hK => ?_) (fun K hK => ?_)
        · skip
          refine goes_ Try.func64 (by kernel_rfl) rfl #[.agg (vals .u8 y)] (by rfl) rfl rfl (by simp only [List.map_toArray, List.map_cons, List.map_nil]; rfl) ?_
          refine (HBY.out _).mono ?_
          rintro e w10 ⟨rfl, h⟩
          (try replace H5 := Aside0.mk ((h.block _ (lt_of_some H5.out)).trans H5.out))
          (try replace H6 := Aside0.mk ((h.block _ (lt_of_some H6.out)).trans H6.out))
          refine ⟨_, rfl, ?_⟩
          refine hK.out _ _ (⟨hHeld.1.trans (h.mono hHeld.1.size), (h.block _ (lt_of_some hHeld.2.1)).trans hHeld.2.1, (h.block _ (lt_of_some hHeld.2.2)).trans hHeld.2.2⟩) (fun hHeld => ?_)
          clear hK K
          refine norm_ (a' := ?_) ?_ ?_
          rotate_left
          · show Act.put _ (some 10) _ = _
            simp only [Act.put, List.setIfInBounds_toArray, List.set_cons_zero, List.set_cons_succ, i64_w, i32_w]
            rfl
          refine one_ (i := 4) (N := some 5) #[true, true, true, true, true, true, false, false] rfl rfl (by kernel_rfl) (by decide) (fun K hK => ?_)
          refine s_alloc (by rfl) rfl rfl zero55 ?_
          intro g5 w5 hg5 hge h
          have H5 := Aside0.mk hg5
          have HG5 := Aside0.mk (Nat.le_trans hHeld.1.size hge)
          (try have HNE := Aside0.mk (show g5 ≠ g6 by have := lt_of_some H6.out; omega))
          (try replace H6 := Aside0.mk ((h.block _ (lt_of_some H6.out)).trans H6.out))
          clear hg5 hge
          refine hK.out _ _ (⟨hHeld.1.trans (h.mono hHeld.1.size), (h.block _ (lt_of_some hHeld.2.1)).trans hHeld.2.1, (h.block _ (lt_of_some hHeld.2.2)).trans hHeld.2.2⟩) (fun hHeld => ?_)
          clear hK K
          refine norm_ (a' := ?_) ?_ ?_
          rotate_left
          · show Act.put _ (some 5) _ = _
            simp only [Act.put, List.setIfInBounds_toArray, List.set_cons_zero, List.set_cons_succ, i64_w, i32_w]
            rfl
          exact norm_ (by first | (simp only [putAll, Act.put, List.setIfInBounds_toArray, List.set_cons_zero, List.set_cons_succ]; done) | (simp only [putAll, Act.put, List.setIfInBounds_toArray, List.set_cons_zero, List.set_cons_succ]; rfl)) (hJ (g5, g6) _ ⟨hHeld, H5.out, H6.out, HNE.out, HG5.out, HG6.out⟩)
        · skip
          refine s_alloc (by rfl) rfl rfl zero55 ?_
          intro g5 w5 hg5 hge h
          have H5 := Aside0.mk hg5
          have HG5 := Aside0.mk (Nat.le_trans hHeld.1.size hge)
          (try have HNE := Aside0.mk (show g5 ≠ g6 by have := lt_of_some H6.out; omega))
          (try replace H6 := Aside0.mk ((h.block _ (lt_of_some H6.out)).trans H6.out))
          clear hg5 hge
          refine hK.out _ _ (⟨hHeld.1.trans (h.mono hHeld.1.size), (h.block _ (lt_of_some hHeld.2.1)).trans hHeld.2.1, (h.block _ (lt_of_some hHeld.2.2)).trans hHeld.2.2⟩) (fun hHeld => ?_)
          clear hK K
          refine norm_ (a' := ?_) ?_ ?_
          rotate_left
          · show Act.put _ (some 5) _ = _
            simp only [Act.put, List.setIfInBounds_toArray, List.set_cons_zero, List.set_cons_succ, i64_w, i32_w]
            rfl
          refine one_ (i := 3) (N := some 10) #[true, true, true, true, true, true, false, false] rfl rfl (by kernel_rfl) (by decide) (fun K hK => ?_)
          refine goes_ Try.func64 (by kernel_rfl) rfl #[.agg (vals .u8 y)] (by rfl) rfl rfl (by simp only [List.map_toArray, List.map_cons, List.map_nil]; rfl) ?_
          refine (HBY.out _).mono ?_
          rintro e w10 ⟨rfl, h⟩
          (try replace H5 := Aside0.mk ((h.block _ (lt_of_some H5.out)).trans H5.out))
          (try replace H6 := Aside0.mk ((h.block _ (lt_of_some H6.out)).trans H6.out))
          refine ⟨_, rfl, ?_⟩
          refine hK.out _ _ (⟨hHeld.1.trans (h.mono hHeld.1.size), (h.block _ (lt_of_some hHeld.2.1)).trans hHeld.2.1, (h.block _ (lt_of_some hHeld.2.2)).trans hHeld.2.2⟩) (fun hHeld => ?_)
          clear hK K
          refine norm_ (a' := ?_) ?_ ?_
          rotate_left
          · show Act.put _ (some 10) _ = _
            simp only [Act.put, List.setIfInBounds_toArray, List.set_cons_zero, List.set_cons_succ, i64_w, i32_w]
            rfl
          exact norm_ (by first | (simp only [putAll, Act.put, List.setIfInBounds_toArray, List.set_cons_zero, List.set_cons_succ]; done) | (simp only [putAll, Act.put, List.setIfInBounds_toArray, List.set_cons_zero, List.set_cons_succ]; rfl)) (hJ (g5, g6) _ ⟨hHeld, H5.out, H6.out, HNE.out, HG5.out, HG6.out⟩)
      · skip
        refine s_alloc (by rfl) rfl rfl zero55 ?_
        intro g5 w5 hg5 hge h
        have H5 := Aside0.mk hg5
        have HG5 := Aside0.mk (Nat.le_trans hHeld.1.size hge)
        (try have HNE := Aside0.mk (show g5 ≠ g6 by have := lt_of_some H6.out; omega))
        (try replace H6 := Aside0.mk ((h.block _ (lt_of_some H6.out)).trans H6.out))
        clear hg5 hge
        refine hK.out _ _ (⟨hHeld.1.trans (h.mono hHeld.1.size), (h.block _ (lt_of_some hHeld.2.1)).trans hHeld.2.1, (h.block _ (lt_of_some hHeld.2.2)).trans hHeld.2.2⟩) (fun hHeld => ?_)
        clear hK K
        refine norm_ (a' := ?_) ?_ ?_
        rotate_left
        · show Act.put _ (some 5) _ = _
          simp only [Act.put, List.setIfInBounds_toArray, List.set_cons_zero, List.set_cons_succ, i64_w, i32_w]
          rfl
        refine one_ (i := 1) (N := some 8) #[true, true, true, false, true, true, false, false] rfl rfl (by kernel_rfl) (by decide) (fun K hK => ?_)
        refine goes_ Try.func64 (by kernel_rfl) rfl #[.agg (vals .u8 x)] (by rfl) rfl rfl (by simp only [List.map_toArray, List.map_cons, List.map_nil]; rfl) ?_
        refine (HBX.out _).mono ?_
        rintro e w8 ⟨rfl, h⟩
        (try replace H5 := Aside0.mk ((h.block _ (lt_of_some H5.out)).trans H5.out))
        (try replace H6 := Aside0.mk ((h.block _ (lt_of_some H6.out)).trans H6.out))
        refine ⟨_, rfl, ?_⟩
        refine hK.out _ _ (⟨hHeld.1.trans (h.mono hHeld.1.size), (h.block _ (lt_of_some hHeld.2.1)).trans hHeld.2.1, (h.block _ (lt_of_some hHeld.2.2)).trans hHeld.2.2⟩) (fun hHeld => ?_)
        clear hK K
        refine norm_ (a' := ?_) ?_ ?_
        rotate_left
        · show Act.put _ (some 8) _ = _
          simp only [Act.put, List.setIfInBounds_toArray, List.set_cons_zero, List.set_cons_succ, i64_w, i32_w]
          rfl
        refine one_ (i := 3) (N := some 10) #[true, true, true, true, true, true, false, false] rfl rfl (by kernel_rfl) (by decide) (fun K hK => ?_)
        refine goes_ Try.func64 (by kernel_rfl) rfl #[.agg (vals .u8 y)] (by rfl) rfl rfl (by simp only [List.map_toArray, List.map_cons, List.map_nil]; rfl) ?_
        refine (HBY.out _).mono ?_
        rintro e w10 ⟨rfl, h⟩
        (try replace H5 := Aside0.mk ((h.block _ (lt_of_some H5.out)).trans H5.out))
        (try replace H6 := Aside0.mk ((h.block _ (lt_of_some H6.out)).trans H6.out))
        refine ⟨_, rfl, ?_⟩
        refine hK.out _ _ (⟨hHeld.1.trans (h.mono hHeld.1.size), (h.block _ (lt_of_some hHeld.2.1)).trans hHeld.2.1, (h.block _ (lt_of_some hHeld.2.2)).trans hHeld.2.2⟩) (fun hHeld => ?_)
        clear hK K
        refine norm_ (a' := ?_) ?_ ?_
        rotate_left
        · show Act.put _ (some 10) _ = _
          simp only [Act.put, List.setIfInBounds_toArray, List.set_cons_zero, List.set_cons_succ, i64_w, i32_w]
          rfl
        exact norm_ (by first | (simp only [putAll, Act.put, List.setIfInBounds_toArray, List.set_cons_zero, List.set_cons_succ]; done) | (simp only [putAll, Act.put, List.setIfInBounds_toArray, List.set_cons_zero, List.set_cons_succ]; rfl)) (hJ (g5, g6) _ ⟨hHeld, H5.out, H6.out, HNE.out, HG5.out, HG6.out⟩)
  rintro ⟨g5, g6⟩ wj ⟨hHeld, hj1, hj2, hj3, hj4, hj5⟩
  have H5 := Aside0.mk hj1
  have H6 := Aside0.mk hj2
  have HNE := Aside0.mk hj3
  have HG5 := Aside0.mk hj4
  have HG6 := Aside0.mk hj5
  clear hj1 hj2 hj3 hj4 hj5
  dsimp only at H5 H6 HNE HG5 HG6
  refine norm_ (a' := ?_) ?_ ?_
  rotate_left
  · simp only [putAll, Act.put, List.setIfInBounds_toArray, List.set_cons_zero, List.set_cons_succ]
    rfl
  refine last_ (i := 6) (N := none) #[true, true, true, true, true, true, true, false] rfl rfl (by kernel_rfl) (by decide) (fun K hK => ?_)
  refine skip_ (by rfl) rfl (y_storeRowF (cs := vals .u8 X) (by rfl) (by rfl) (by rfl) H5.out (by rw [HB1.out]; exact infoRaw) (by rw [HB1.out]; rfl) vals_one) ?_
  refine hK.out _ _ ?_
  clear hK K
  refine last_ (i := 7) (N := none) #[true, true, true, true, true, true, true, true] rfl rfl (by kernel_rfl) (by decide) (fun K hK => ?_)
  refine skip_ (by rfl) rfl (y_storeRowF (cs := vals .u8 Y) (by rfl) (by rfl) (by rfl) (far_rowF H6.out (fun e => HNE.out e.symm)) (by rw [HB2.out]; exact infoRaw) (by rw [HB2.out]; rfl) vals_one) ?_
  refine hK.out _ _ ?_
  clear hK K
  refine done_ (by kernel_rfl) ?_
  skip
  have HW := Aside0.mk (show Below w.heap.size w ((wj.setRow g5 (vals .u8 X)).setRow g6 (vals .u8 Y)) ∧ ((wj.setRow g5 (vals .u8 X)).setRow g6 (vals .u8 Y)).heap[g5]? = some (.cells (vals .u8 X) 55 (0, 0)) ∧ ((wj.setRow g5 (vals .u8 X)).setRow g6 (vals .u8 Y)).heap[g6]? = some (.cells (vals .u8 Y) 55 (0, 0)) from
    ⟨Go.below_setRow (Go.below_setRow hHeld.1 HG5.out _) HG6.out _, far_rowF (setRow_heap _ _ _ _ _ _ H5.out) HNE.out, setRow_heap _ _ _ _ _ _ (far_rowF H6.out (fun e => HNE.out e.symm))⟩)
  clear hHeld
  go_wp2_with fail
  refine start_ (n := 4) (S := fun w' => Below w.heap.size w w' ∧ w'.heap[g5]? = some (.cells (vals .u8 X) 55 (0, 0)) ∧ w'.heap[g6]? = some (.cells (vals .u8 Y) 55 (0, 0))) (ds := []) #[false, false, false, false] (by kernel_rfl) rfl rfl (⟨below_drew1 HW.out.1, HW.out.2.1, HW.out.2.2⟩) (fun hHeld => ?_)
  refine pure_ (i := 0) (N := some 11) (v := ?_) (a' := ?_) #[true, false, false, false] rfl rfl (by kernel_rfl) (fun _ _ _ h => h) (Or.inl ⟨by rfl, ?_⟩) ?_ ?_
  rotate_left
  · intro w'
    go_simp
    with_reducible rfl
  rotate_left
  · simp only [Act.put, List.setIfInBounds_toArray, List.set_cons_zero, List.set_cons_succ, i64_w, i32_w]
    rfl
  refine pure_ (i := 1) (N := some 12) (v := ?_) (a' := ?_) #[true, true, false, false] rfl rfl (by kernel_rfl) (fun _ _ _ h => h) (Or.inl ⟨by rfl, ?_⟩) ?_ ?_
  rotate_left
  · intro w'
    go_simp
    with_reducible rfl
  rotate_left
  · simp only [Act.put, List.setIfInBounds_toArray, List.set_cons_zero, List.set_cons_succ, i64_w, i32_w]
    rfl
  refine one_ (i := 2) (N := some 13) #[true, true, true, false] rfl rfl (by kernel_rfl) (by decide) (fun K hK => ?_)
  refine goes_ Try.func51 (by kernel_rfl) rfl #[.slice (some ⟨g5, 0, none⟩) 6 6, .slice (some ⟨g6, 0, none⟩) 6 6] (by rfl) rfl rfl (by simp only [List.map_toArray, List.map_cons, List.map_nil]; rfl) ?_
  refine (HUN.out g5 g6 _ hHeld.2.1 hHeld.2.2).mono ?_
  rintro e w13 ⟨rfl, h⟩
  refine ⟨_, rfl, ?_⟩
  refine hK.out _ _ (⟨hHeld.1.trans (h.mono hHeld.1.size), (h.block _ (lt_of_some hHeld.2.1)).trans hHeld.2.1, (h.block _ (lt_of_some hHeld.2.2)).trans hHeld.2.2⟩) (fun hHeld => ?_)
  clear hK K
  refine norm_ (a' := ?_) ?_ ?_
  rotate_left
  · show Act.put _ (some 13) _ = _
    simp only [Act.put, List.setIfInBounds_toArray, List.set_cons_zero, List.set_cons_succ, i64_w, i32_w]
    rfl
  refine pure_ (i := 3) (N := some 4) (v := ?_) (a' := ?_) #[true, true, true, true] rfl rfl (by kernel_rfl) (fun _ _ _ h => h) (Or.inl ⟨by rfl, ?_⟩) ?_ ?_
  rotate_left
  · intro w'
    go_simp
    with_reducible rfl
  rotate_left
  · simp only [Act.put, List.setIfInBounds_toArray, List.set_cons_zero, List.set_cons_succ, i64_w, i32_w]
    rfl
  refine done_ (by kernel_rfl) ?_
  skip
  go_wp2_with fail
  go_ret
  exact ⟨rfl, hHeld.1⟩
end Go.Proofs.Ytodgnbcfihifiaa.Arr
