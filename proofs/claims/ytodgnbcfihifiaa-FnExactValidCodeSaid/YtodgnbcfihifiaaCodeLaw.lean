/- The law's own functions on codes. Condition: no list too long. -/
import Derived.Test.YtodgnbcfihifiaaFlagLaw
import Derived.Laws.CopyOwn
import Derived.BigQuiet
import Derived.Test.YtodgnbcfihifiaaPWx1
import Derived.Test.YtodgnbcfihifiaaPWx2
namespace Go.Proofs.Ytodgnbcfihifiaa.Arr
open Go.RowKit Go.Proofs.YtodgnbcfihifiaaW.PrintWords Go.Proofs.YtodgnbcfihifiaaW.PrintLast Go.Proofs.YtodgnbcfihifiaaW.PrintMore Go.Proofs.Ytodgnbcfihifiaa.U Go.Proofs.Ytodgnbcfihifiaa.W
set_option linter.unusedVariables false
set_option linter.unusedSimpArgs false

section
variable {P : Program} {o : Oper} {a : Act} {w : World}
/-- A store of a whole variable. -/
theorem y_storeRow {ty : TypeId} {x y : Operand} (ho : o.op = .store ty x y) {g : Nat} {cs old : Array Value} {t : TypeId} (hx : a.eval x = .pointer (some ⟨g, 0, none⟩)) (hy : a.eval y = .agg cs) (hb : w.heap[g]? = some (.cells old t (0, 0)))
    (hi : (P.info? ty).map (·.size) = some cs.size) (hold : old.size = cs.size) (h1 : cs.all (·.oneCell') = true) : (execOp a.eval o).run P w = .ok .skip (w.setRow g cs) := by
  have h := run_storeVar_row (P := P) w g t ty old cs hb hi hold h1
  unfold execOp
  simp only [ho, hx, hy, Instr.storeAt, Instr.sureAddr, Sem.run_bind, Sem.run_pure, Result.andThen_ok, h]
theorem ret_row {fn : Func} {R : Ending → World → Prop} {p : Tmp} {ty : TypeId} {g m : Nat} {cs : Array Value} {t : TypeId} (hb : w.heap[g]? = some (.cells cs t (0, 0))) (h : fn.results = #[.cell p ty]) (hp : a.tmps.getD p undef = .pointer (some ⟨g, 0, none⟩))
    (hi2 : AggTy P ty m) (hl : cs.size = m) (hd : a.defers = []) (hR : R (.returned (.agg cs)) w) : bodyPost P fn R .ret a w := by
  obtain ⟨hd2, hi0⟩ := hi2
  have hi : (P.info? ty).map (·.size) = some cs.size := by rw [hl]; exact hi0
  cases hu : P.underlying ty with
  | none => simp [hu] at hd2
  | some d =>
    have hld := run_loadVar_row (P := P) w g t ty cs (0, 0) d hb hu (by cases d <;> simp_all) hi
    refine bodyPost_ret (v := .agg cs) ?_ hd hR
    have hp' : a.tmps[p]?.getD undef = .pointer (some ⟨g, 0, none⟩) := by simpa using hp
    simp [results, h, hp', asAddr, hld]
/-- A store of one cell. -/
theorem y_store1 {ty : TypeId} {x y : Operand} (ho : o.op = .store ty x y) {g i : Nat} {v u : Value} {cs : Array Value} {t : TypeId} (hx : a.eval x = .pointer (some ⟨g, i, none⟩)) (hy : a.eval y = v) (hc : w.heap[g]? = some (.cells cs t (0, 0))) (hi : cs[i]? = some u) (h1 : OneTy P ty) (hv : v.cells = #[v]) (hv1 : v.oneCell' = true) : (execOp a.eval o).run P w = .ok .skip (w.setCell ⟨g, i, none⟩ v) := by
  have hst : (storeVar ty ⟨g, i, none⟩ v).run P w = .ok () (w.setCell ⟨g, i, none⟩ v) := run_store1 h1.2 hv ((cell_of_row w g i cs t (0, 0) hc).trans hi) (frozen_of_row w g i cs t hc) hv1
  unfold execOp
  simp only [ho, hx, hy, Instr.storeAt, Instr.sureAddr, Sem.run_bind, Sem.run_pure, Result.andThen_ok, hst]
end
theorem far_set {w : World} {g k i : Nat} {v : Value} {o : Obj} (h : w.heap[k]? = some o) (hne : k ≠ g) : (w.setCell ⟨g, i, none⟩ v).heap[k]? = some o := (Below.heap_setCell w ⟨g, i, none⟩ v k hne).trans h
theorem far_row {w : World} {g k : Nat} {cs : Array Value} {o : Obj} (h : w.heap[k]? = some o) (hne : k ≠ g) : (w.setRow g cs).heap[k]? = some o := (setRow_other _ g k cs hne).trans h
theorem infoCode : (Try.prog.info? 39).map (·.size) = some 2 := by kernel_rfl
theorem typesW : ∀ q, q ∈ 86 :: kWd.E → q ≠ 39 := by
  intro q hq
  simp [kWd, Kd.slice, Kd.int, Kd.scalar] at hq
  omega
/-- What is known once the variables are there. -/
structure Bx (w : World) (g1 g2 g3 : Nat) (ca cb : Array Value) (W : World) : Prop where
  bel : Below w.heap.size w W
  one : W.heap[g1]? = some (.cells ca 33 (0, 0))
  two : W.heap[g2]? = some (.cells #[.slice none 0 0, .slice none 0 0] 39 (0, 0))
  three : W.heap[g3]? = some (.cells cb 39 (0, 0))
  ne : g1 ≠ g3 ∧ g2 ≠ g3
  ge2 : w.heap.size ≤ g2
  ge3 : w.heap.size ≤ g3
theorem Bx.below {w : World} {g1 g2 g3 : Nat} {ca cb : Array Value} {W W' : World} (h : Bx w g1 g2 g3 ca cb W) (hb : Below W.heap.size W W') : Bx w g1 g2 g3 ca cb W' :=
  ⟨h.bel.trans (hb.mono h.bel.size), (hb.block _ (lt_of_some h.one)).trans h.one, (hb.block _ (lt_of_some h.two)).trans h.two, (hb.block _ (lt_of_some h.three)).trans h.three, h.ne, h.ge2, h.ge3⟩
theorem Bx.set {w : World} {g1 g2 g3 : Nat} {ca cb cb' : Array Value} {W : World} (h : Bx w g1 g2 g3 ca cb W) (i : Nat) (v : Value) (e : cb.setIfInBounds i v = cb') : Bx w g1 g2 g3 ca cb' (W.setCell ⟨g3, i, none⟩ v) :=
  ⟨below_set h.bel h.ge3, far_set h.one h.ne.1, far_set h.two h.ne.2, blk_put h.three i v e, h.ne, h.ge2, h.ge3⟩
set_option maxHeartbeats 4000000 in
set_option maxRecDepth 100000 in
theorem toCode_calls (A1 : Option Addr) (c1 : Nat) (fs : List (List Int)) (A2 : Option Addr) (c2 : Nat) (ws : List (List Int)) (w : World) (hr1 : Kd.C (kA .u8 24) w A1 fs.length fs) (hr2 : Kd.C kWd w A2 ws.length ws) (hc2 : ws.length ≤ c2) (hn1 : fs.length ≤ 1048576) (hl24 : ∀ x ∈ fs, x.length = 24) (hn2 : ws.length ≤ 1048576) (hls : ∀ x ∈ ws, x.length ≤ 1048576) :
    Calls Try.prog 13 #[.agg #[.slice A1 fs.length c1, .slice A2 ws.length c2]] w fun e w' => ∃ B1 B2 d2, e = .returned (.agg #[.slice B1 fs.length fs.length, .slice B2 ws.length d2]) ∧ Kd.C (kA .u8 24) w' B1 fs.length fs ∧ Kd.C kWd w' B2 ws.length ws ∧ ws.length ≤ d2 ∧ Below w.heap.size w w' := by
  have hm := Mem.start w
  have HTF := Aside0.mk (fun W (hW : Below w.heap.size w W) => toFlagS_calls A1 c1 fs W (Kd.C_below hr1 hW) hl24 hn1)
  obtain ⟨k, hk⟩ := (toWordS_ev ws hn2 hls).rounds
  have HTW := Aside0.mk (fun W (hW : Below w.heap.size w W) => laws_toWordS.calls k A2 c2 ws ws W (Kd.C_below hr2 hW) hc2 hk)
  have HL := Aside0.mk hl24
  clear hr1 hr2 hk hls hl24
  go_enter Try.func13, Try.ntmps13
  go_wp2_with (first
    | ((with_reducible refine gt_box 1 33 ?_); refine st_box rfl 1 rfl 33 _ rfl hm rfl (cs := #[.slice A1 fs.length c1, .slice A2 ws.length c2]) rfl ?_; clear hm; intro g1 w1 hm)
    | ((with_reducible refine gt_alloc 2 39 ?_); refine st_alloc rfl 2 rfl 39 rfl hm zeroCode ?_; clear hm; intro g2 w2 hm)
    | ((with_reducible refine gt_alloc 3 39 ?_); refine st_alloc rfl 3 rfl 39 rfl hm zeroCode ?_; clear hm; intro g3 w3 hm; have HX := Aside0.mk (Bx.mk (hm.done rfl) (hm.mem (n := 2) rfl) (hm.mem (n := 1) rfl) (hm.mem (n := 0) rfl) ⟨hm.ne 2 0 (by decide) rfl rfl, hm.ne 1 0 (by decide) rfl rfl⟩ (hm.own_ge 1 rfl) (hm.own_ge 0 rfl) : Bx w g1 g2 g3 #[.slice A1 fs.length c1, .slice A2 ws.length c2] #[.slice none 0 0, .slice none 0 0] w3); have hc0 := (blk_cell HX.out.one 0).trans rfl; clear hm)
    | (go_at_call 18; refine (HTF.out _ HX.out.bel).mono ?_; rintro e w4 ⟨gF, rfl, hF, hgF, h4⟩; have HX4 := Aside0.mk (HX.out.below h4); have HF4 := Aside0.mk hF; have HGF := Aside0.mk (show gF ≠ g2 ∧ gF ≠ g3 by have := lt_of_some HX.out.two; have := lt_of_some HX.out.three; omega); clear hF hgF h4)
    | ((with_reducible refine gt_store 36 ?_); refine store_event rfl rfl rfl (y_store1 rfl (g := g3) (i := 0) (v := .slice (some ⟨gF, 0, none⟩) fs.length fs.length) rfl rfl HX4.out.three rfl oneFS rfl rfl) ?_; rintro _ rfl; have HX5 := Aside0.mk (HX4.out.set 0 (.slice (some ⟨gF, 0, none⟩) fs.length fs.length) rfl); have HF5 := Aside0.mk (far_set (g := g3) (i := 0) (v := .slice (some ⟨gF, 0, none⟩) fs.length fs.length) HF4.out HGF.out.2); have hc1 := (blk_cell HX5.out.one 1).trans rfl)
    | (go_at_call 33; refine (HTW.out _ HX5.out.bel).mono ?_; rintro e w6 ⟨v6, rfl, hs, h6⟩; obtain ⟨B6, d6, rfl, _, _⟩ := Kd.S_reads hs; have HX6 := Aside0.mk (HX5.out.below h6); have HF6 := Aside0.mk ((h6.block _ (lt_of_some HF5.out)).trans HF5.out); have HS6 := Aside0.mk (Kd.S_types (Kd.S_types hs HX6.out.three typesW) HX6.out.two typesW); clear hs h6)
    | ((with_reducible refine gt_store 37 ?_); refine store_event rfl rfl rfl (y_store1 rfl (g := g3) (i := 1) (v := .slice B6 ws.length d6) rfl rfl HX6.out.three rfl oneWS rfl rfl) ?_; rintro _ rfl; have HX7 := Aside0.mk (HX6.out.set 1 (.slice B6 ws.length d6) rfl); have HF7 := Aside0.mk (far_set (g := g3) (i := 1) (v := .slice B6 ws.length d6) HF6.out HGF.out.2); have HS7 := Aside0.mk (Kd.S_step HS6.out (w1 := w6.setCell ⟨g3, 1, none⟩ (.slice B6 ws.length d6)) (fun k hk _ => Below.heap_setCell w6 ⟨g3, 1, none⟩ _ k hk.1.2)))
    | ((with_reducible refine gt_load 39 ?_); refine Kd.event_run rfl (y_rowA (by rfl) (by rfl) HX7.out.three aggCode rfl) ?_)
    | ((with_reducible refine gt_store 39 ?_); refine store_event rfl rfl rfl (y_storeRow (cs := #[.slice (some ⟨gF, 0, none⟩) fs.length fs.length, .slice B6 ws.length d6]) rfl rfl rfl HX7.out.two infoCode rfl (by simp [Array.all_eq_true, Value.oneCell'])) ?_; rintro _ rfl))
  try simp only [Exit.inBlock, Exit.then]
  refine ret_row (cs := #[.slice (some ⟨gF, 0, none⟩) fs.length fs.length, .slice B6 ws.length d6]) (setRow_heap _ _ _ _ _ _ HX7.out.two) rfl rfl aggCode rfl rfl ?_
  have hS8 := Kd.S_step HS7.out (w1 := (w6.setCell ⟨g3, 1, none⟩ (.slice B6 ws.length d6)).setRow g2 #[.slice (some ⟨gF, 0, none⟩) fs.length fs.length, .slice B6 ws.length d6]) (fun k hk _ => setRow_other _ g2 k _ hk.2)
  obtain ⟨_, hd, hC⟩ := Kd.S_reads' hS8
  exact ⟨some ⟨gF, 0, none⟩, B6, d6, rfl, C_of_flat HL.out hn1 (far_row HF7.out HGF.out.1), hC, hd, Go.below_setRow HX7.out.bel HX7.out.ge2 _⟩
set_option maxHeartbeats 4000000 in
set_option maxRecDepth 100000 in
theorem eqCode_calls (A1 : Option Addr) (c1 : Nat) (fs : List (List Int)) (A2 : Option Addr) (c2 : Nat) (ws : List (List Int)) (B1 : Option Addr) (d1 : Nat) (B2 : Option Addr) (d2 : Nat) (w : World) (hr1 : Kd.C (kA .u8 24) w A1 fs.length fs) (hr2 : Kd.C kWd w A2 ws.length ws) (hc2 : ws.length ≤ c2) (hs1 : Kd.C (kA .u8 24) w B1 fs.length fs) (hs2 : Kd.C kWd w B2 ws.length ws) (hd2 : ws.length ≤ d2) (hn1 : fs.length ≤ 1048576) (hn2 : ws.length ≤ 1048576) (hls : ∀ x ∈ ws, x.length ≤ 1048576) :
    Calls Try.prog 15 #[.agg #[.slice A1 fs.length c1, .slice A2 ws.length c2], .agg #[.slice B1 fs.length d1, .slice B2 ws.length d2]] w fun e w' => e = .returned (.bool true) ∧ Below w.heap.size w w' := by
  have hm := Mem.start w
  have HEF := Aside0.mk (fun W (hW : Below w.heap.size w W) => eqFlagS_calls A1 c1 fs B1 d1 W (Kd.C_below hr1 hW) (Kd.C_below hs1 hW) hn1)
  obtain ⟨k, hk⟩ := (eqWordS_refl ws hn2 hls).rounds
  have HEW := Aside0.mk (fun W (hW : Below w.heap.size w W) => laws_eqWordS.calls k A2 c2 ws B2 d2 ws true W (Kd.C_below hr2 hW) hc2 (Kd.C_below hs2 hW) hd2 hk)
  clear hr1 hr2 hs1 hs2 hk hls
  go_enter Try.func15, Try.ntmps15
  go_wp2_with (first
    | ((with_reducible refine gt_box 2 39 ?_); refine st_box rfl 2 rfl 39 _ rfl hm rfl (cs := #[.slice A1 fs.length c1, .slice A2 ws.length c2]) rfl ?_; clear hm; intro g1 w1 hm)
    | ((with_reducible refine gt_box 3 39 ?_); refine st_box rfl 3 rfl 39 _ rfl hm rfl (cs := #[.slice B1 fs.length d1, .slice B2 ws.length d2]) rfl ?_; clear hm; intro g2 w2 hm; have HA := Aside0.mk (hm.mem (n := 1) rfl); have HB := Aside0.mk (hm.mem (n := 0) rfl); have HW := Aside0.mk (hm.done rfl); have hc0 := (blk_cell HA.out 0).trans rfl; have hc1 := (blk_cell HB.out 0).trans rfl; clear hm)
    | (go_at_call 21; refine (HEF.out _ HW.out).mono ?_; rintro e w3 ⟨rfl, h3⟩; have HW3 := Aside0.mk (below_then HW.out h3); have hc2a := (blk_cell ((h3.block _ (lt_of_some HA.out)).trans HA.out) 1).trans rfl; have hc2b := (blk_cell ((h3.block _ (lt_of_some HB.out)).trans HB.out) 1).trans rfl; clear h3)
    | (go_at_call 37; refine (HEW.out _ HW3.out).mono ?_; rintro e w4 ⟨rfl, h4⟩; have HW4 := Aside0.mk (below_then HW3.out h4.below); clear h4))
  go_ret
  exact ⟨rfl, HW4.out⟩
end Go.Proofs.Ytodgnbcfihifiaa.Arr
