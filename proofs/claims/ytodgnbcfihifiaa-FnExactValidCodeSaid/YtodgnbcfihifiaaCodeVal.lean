/- For all codes the program's ValidCode returns what the reference's returns, and changes nothing. No condition. -/
import Derived.Test.YtodgnbcfihifiaaCodeLaw
import Derived.BigQuiet
-- law FnExactValidCode
namespace Go.Proofs.Ytodgnbcfihifiaa.Arr
open Go.RowKit Go.Proofs.YtodgnbcfihifiaaW.PrintWords Go.Proofs.YtodgnbcfihifiaaW.PrintLast Go.Proofs.YtodgnbcfihifiaaW.PrintMore Go.Proofs.Ytodgnbcfihifiaa.U Go.Proofs.Ytodgnbcfihifiaa.W
set_option linter.unusedVariables false
set_option linter.unusedSimpArgs false

section
open Go.Deep Go.Proofs.Ytodgnbcfihifiaa.Open
variable {P : Program} {t : TypeId}
/-- A struct of two rows. -/
theorem opens_rows {α β : Type} {e0 e1 : TypeId} {d0 : Kd α} {d1 : Kd β} {wf0 : α → Prop} {wf1 : β → Prop} {f0 f1 : Field} (ht : P.underlying t = some (.struct #[f0, f1])) (h0 : P.underlying f0.type = some (.slice e0)) (h1 : P.underlying f1.type = some (.slice e1))
    (c0 : P.cellsOf f0.type = 1) (c1 : P.cellsOf f1.type = 1) (ct : P.cellsOf t = 2) (o0 : f0.offset = 0) (o1 : f1.offset = 1) (hc0 : P.cellsOf e0 = d0.sz) (he0 : Opens P e0 d0 wf0) (hc1 : P.cellsOf e1 = d1.sz) (he1 : Opens P e1 d1 wf1)
    {H : Type} (enc : TypeId × Value → H) (w : World) (held : Bool) (fuel : Nat) (cs : List Value) (x : DataW H × List MemPlace) (h : DataW.trod enc P w 0 (fun _ => true) held fuel t cs = some x) :
    ∃ (A0 : Option Addr) (m0 : Nat) (l0 : List α) (A1 : Option Addr) (m1 : Nat) (l1 : List β), cs = [.slice A0 l0.length m0, .slice A1 l1.length m1] ∧ l0.length ≤ m0 ∧ Kd.C d0 w A0 l0.length l0 ∧ WfL wf0 l0 ∧ l1.length ≤ m1 ∧ Kd.C d1 w A1 l1.length l1 ∧ WfL wf1 l1 := by
  obtain ⟨y0, y1, n, rfl, hl, g0, g1⟩ := Go.ChangeShapes.trod_struct2 ht h
  rw [ct] at hl
  match cs, hl with
  | [v0, v1], _ =>
    rw [o0, c0] at g0
    rw [o1, c1] at g1
    obtain ⟨l0, ⟨A0, m0, e0', hm0, hC0⟩, wl0⟩ := opens_slice h0 hc0 he0 enc w held n _ _ g0
    obtain ⟨l1, ⟨A1, m1, e1', hm1, hC1⟩, wl1⟩ := opens_slice h1 hc1 he1 enc w held n _ _ g1
    cases e0'
    cases e1'
    exact ⟨A0, m0, l0, A1, m1, l1, rfl, hm0, hC0, wl0, hm1, hC1, wl1⟩
theorem agg_two {v v0 v1 : Value} (h : v.cells.toList = [v0, v1]) : v = .agg #[v0, v1] := by
  have : ∃ cs, v = .agg cs := by
    cases v <;> first | exact ⟨_, rfl⟩ | (simp [Value.cells] at h)
  obtain ⟨cs, rfl⟩ := this
  have h2 : cs.toList = [v0, v1] := h
  rw [← h2]
end
set_option maxHeartbeats 8000000 in
set_option maxRecDepth 100000 in
theorem law_FnExactValidCode (w : World) (A1 : Option Addr) (c1 : Nat) (fs : List (List Int)) (A2 : Option Addr) (c2 : Nat) (ws : List (List Int)) (hr1 : Kd.C (kA .u8 24) w A1 fs.length fs) (hc1 : fs.length ≤ c1) (wf1 : WfL (fun x : List Int => x.length = 24 ∧ ∀ z ∈ x, WfI .u8 z) fs) (hr2 : Kd.C kWd w A2 ws.length ws) (hc2 : ws.length ≤ c2) (wf2 : WfL (WfL (WfI .u8)) ws) :
    Calls Try.prog 4 #[.agg #[.slice A1 fs.length c1, .slice A2 ws.length c2]] w fun e w' => e = .returned (.bool true) ∧ Below w.heap.size w w' := by
  have hm := Mem.start w
  have hm1 := Kd.C_max hr1
  have hm2 := Kd.C_max hr2
  obtain ⟨r, hp, hz⟩ := szCode_ex fs ws (by omega) wf2.1 (fun x hx => (wf2.2 x hx).1)
  have HZ := Aside0.mk (fun W (hW : Below w.heap.size w W) => hz A1 c1 A2 c2 W (Kd.C_below hr2 hW) hc2)
  have hby : ∀ x ∈ ws, Bytes x := fun x hx => Bytes.of (wf2.2 x hx).2
  by_cases hr0 : r < 0
  · clear hr1 hr2 wf1 wf2 hm1 hm2 hz hp hby
    go_enter Try.func4, Try.ntmps4
    go_wp2_with (first
      | ((with_reducible refine gt_box 1 33 ?_); refine st_box rfl 1 rfl 33 _ rfl hm rfl (cs := #[.slice A1 fs.length c1, .slice A2 ws.length c2]) rfl ?_; clear hm; intro g1 w1 hm; have HG := Aside0.mk (hm.mem (n := 0) rfl); have HB := Aside0.mk (hm.done rfl); clear hm)
      | ((with_reducible refine gt_load 33 ?_); refine Kd.event_run rfl (y_rowA (by rfl) (by rfl) HG.out aggCodeL rfl) ?_)
      | (go_at_call 11; refine (HZ.out _ HB.out).mono ?_; rintro e w2 ⟨rfl, h2⟩; have HB2 := Aside0.mk (below_then HB.out h2); have HG2 := Aside0.mk ((h2.block _ (lt_of_some HG.out)).trans HG.out); clear h2))
    go_ret
    exact ⟨rfl, HB2.out⟩
  · obtain ⟨hn1, hn2, hls⟩ := hp (by omega)
    have HT := Aside0.mk (fun W (hW : Below w.heap.size w W) => toCode_calls A1 c1 fs A2 c2 ws W (Kd.C_below hr1 hW) (Kd.C_below hr2 hW) hc2 hn1 (fun x hx => (wf1.2 x hx).1) hn2 hls)
    have HSP := Aside0.mk (fun W B1 d1 B2 d2 h1 h2 h3 => specValidCode_calls B1 d1 fs B2 d2 ws W h1 h2 h3 hn1 hn2 hls hby)
    have HIM := Aside0.mk (fun W B1 d1 B2 d2 h1 h2 h3 => implValidCode_calls B1 d1 fs B2 d2 ws W h1 h2 h3 hn1)
    have HEQ := Aside0.mk (fun W A1 c1 A2 c2 B1 d1 B2 d2 h1 h2 h3 h4 h5 h6 => eqCode_calls A1 c1 fs A2 c2 ws B1 d1 B2 d2 W h1 h2 h3 h4 h5 h6 hn1 hn2 hls)
    rw [okCode_eq fs ws hby] at HIM
    generalize okCode fs ws = b at *
    clear hr1 hr2 wf1 wf2 hm1 hm2 hz hp hby hls
    go_enter Try.func4, Try.ntmps4
    go_wp2_with (first
      | (go_at_call 14; refine (HIM.out _ D1 fs.length D2 f2 HA6.out HW6.out HD16.out).mono ?_; rintro e w18 ⟨rfl, h⟩; have HB18 := Aside0.mk (below_then HB6.out h); have HG18 := Aside0.mk ((h.block _ (lt_of_some HG6.out)).trans HG6.out); have HX18 := Aside0.mk ((h.block _ (lt_of_some HX6.out)).trans HX6.out); have HA18 := Aside0.mk (Kd.C_below HA6.out h); have HW18 := Aside0.mk (Kd.C_below HW6.out h); clear h)
      | ((with_reducible refine gt_load 39 ?_); refine Kd.event_run rfl (y_rowA (by rfl) (by rfl) HX6.out aggCode rfl) ?_)
      | ((with_reducible refine gt_store 39 ?_); refine st_store rfl 39 _ _ rfl hm2 (g := g5) (cs := #[.slice D1 fs.length fs.length, .slice D2 ws.length f2]) rfl rfl 0 rfl infoCode rfl (by simp [Array.all_eq_true, Value.oneCell']) ?_; clear hm2; intro w6 hm2; simp only [List.set_cons_zero] at hm2; have HX6 := Aside0.mk (hm2.mem (n := 0) rfl); have HS6 := Aside0.mk (hm2.done rfl); have HB6 := Aside0.mk (below_then HB16.out HS6.out); have HG6 := Aside0.mk ((HS6.out.block _ (lt_of_some HG16.out)).trans HG16.out); have HA6 := Aside0.mk (Kd.C_below HA16.out HS6.out); have HW6 := Aside0.mk (Kd.C_below HW16.out HS6.out); clear hm2)
      | ((with_reducible refine gt_alloc 5 39 ?_); refine st_alloc rfl 5 rfl 39 rfl hm2 zeroCode ?_; clear hm2; intro g5 w5 hm2)
      | (go_at_call 13; refine (HT.out _ HB14.out).mono ?_; rintro e w16 ⟨D1, D2, f2, rfl, ha, hw, hd, h⟩; have HB16 := Aside0.mk (below_then HB14.out h); have HG16 := Aside0.mk ((h.block _ (lt_of_some HG14.out)).trans HG14.out); have HA16 := Aside0.mk ha; have HW16 := Aside0.mk hw; have HD16 := Aside0.mk hd; have hm2 := Mem.start w16; clear ha hw hd h)
      | (go_at_call 12; refine (HSP.out _ B1 fs.length B2 d2 HA13.out HW13.out HD13.out).mono ?_; rintro e w14 ⟨rfl, h⟩; have HB14 := Aside0.mk (below_then HB13.out h); have HG14 := Aside0.mk ((h.block _ (lt_of_some HG13.out)).trans HG13.out); clear h)
      | (go_at_call 13; refine (HT.out _ HB2.out).mono ?_; rintro e w13 ⟨B1, B2, d2, rfl, ha, hw, hd, h⟩; have HB13 := Aside0.mk (below_then HB2.out h); have HG13 := Aside0.mk ((h.block _ (lt_of_some HG2.out)).trans HG2.out); have HA13 := Aside0.mk ha; have HW13 := Aside0.mk hw; have HD13 := Aside0.mk hd; clear ha hw hd h)
      | (go_at_call 11; refine (HZ.out _ HB.out).mono ?_; rintro e w2 ⟨rfl, h2⟩; have HB2 := Aside0.mk (below_then HB.out h2); have HG2 := Aside0.mk ((h2.block _ (lt_of_some HG.out)).trans HG.out); clear h2)
      | ((with_reducible refine gt_load 33 ?_); refine Kd.event_run rfl (y_rowA (by rfl) (by rfl) HG14.out aggCodeL rfl) ?_)
      | ((with_reducible refine gt_load 33 ?_); refine Kd.event_run rfl (y_rowA (by rfl) (by rfl) HG2.out aggCodeL rfl) ?_)
      | ((with_reducible refine gt_load 33 ?_); refine Kd.event_run rfl (y_rowA (by rfl) (by rfl) HG.out aggCodeL rfl) ?_)
      | ((with_reducible refine gt_box 1 33 ?_); refine st_box rfl 1 rfl 33 _ rfl hm rfl (cs := #[.slice A1 fs.length c1, .slice A2 ws.length c2]) rfl ?_; clear hm; intro g1 w1 hm; have HG := Aside0.mk (hm.mem (n := 0) rfl); have HB := Aside0.mk (hm.done rfl); clear hm))
    refine start_ (n := 5) (S := fun w' => Below w18.heap.size w18 w') (ds := []) #[false, false, false, false, false] (by kernel_rfl) rfl rfl (below_drew1 (Below.refl _ _)) (fun hHeld => ?_)
    refine take_ (i := 0) (N := some 22) (v := .agg #[.slice D1 fs.length fs.length, .slice D2 ws.length f2]) (a' := ?_) #[true, false, false, false, false] rfl rfl (by kernel_rfl) (fun _ _ _ h => h) (Or.inl ⟨by rfl, ?_⟩) hHeld ?_ ?_
    · intro w' s0
      exact y_rowA (by rfl) (by rfl) ((s0.block _ (lt_of_some HX18.out)).trans HX18.out) aggCode rfl
    rotate_left
    · simp only [Act.put, List.setIfInBounds_toArray, List.set_cons_zero, List.set_cons_succ, i64_w, i32_w]
      rfl
    refine take_ (i := 1) (N := some 23) (v := .agg #[.slice A1 fs.length c1, .slice A2 ws.length c2]) (a' := ?_) #[true, true, false, false, false] rfl rfl (by kernel_rfl) (fun _ _ _ h => h) (Or.inl ⟨by rfl, ?_⟩) hHeld ?_ ?_
    · intro w' s0
      exact y_rowA (by rfl) (by rfl) ((s0.block _ (lt_of_some HG18.out)).trans HG18.out) aggCodeL rfl
    rotate_left
    · simp only [Act.put, List.setIfInBounds_toArray, List.set_cons_zero, List.set_cons_succ, i64_w, i32_w]
      rfl
    refine one_ (i := 2) (N := some 24) #[true, true, true, false, false] rfl rfl (by kernel_rfl) (by decide) (fun K hK => ?_)
    refine goes_ Try.func13 (by kernel_rfl) rfl #[.agg #[.slice A1 fs.length c1, .slice A2 ws.length c2]] (by rfl) rfl rfl (by simp only [List.map_toArray, List.map_cons, List.map_nil]; rfl) ?_
    refine (HT.out _ (below_then HB18.out hHeld)).mono ?_
    rintro e w24 ⟨E1, E2, e2, rfl, ha, hw, hd, h⟩
    have HA24 := Aside0.mk ha
    have HW24 := Aside0.mk hw
    have HD24 := Aside0.mk hd
    have HS24 := Aside0.mk (hHeld.trans (h.mono hHeld.size))
    clear ha hw hd h
    refine ⟨_, rfl, ?_⟩
    refine hK.out _ _ (HS24.out) (fun hHeld => ?_)
    clear hK K
    refine norm_ (a' := ?_) ?_ ?_
    rotate_left
    · show Act.put _ (some 24) _ = _
      simp only [Act.put, List.setIfInBounds_toArray, List.set_cons_zero, List.set_cons_succ, i64_w, i32_w]
      rfl
    refine one_ (i := 3) (N := some 25) #[true, true, true, true, false] rfl rfl (by kernel_rfl) (by decide) (fun K hK => ?_)
    refine goes_ Try.func15 (by kernel_rfl) rfl #[.agg #[.slice D1 fs.length fs.length, .slice D2 ws.length f2], .agg #[.slice E1 fs.length fs.length, .slice E2 ws.length e2]] (by rfl) rfl rfl (by simp only [List.map_toArray, List.map_cons, List.map_nil]; rfl) ?_
    refine (HEQ.out _ D1 fs.length D2 f2 E1 fs.length E2 e2 (Kd.C_below HA18.out HS24.out) (Kd.C_below HW18.out HS24.out) HD16.out HA24.out HW24.out HD24.out).mono ?_
    rintro e w25 ⟨rfl, h⟩
    refine ⟨_, rfl, ?_⟩
    refine hK.out _ _ (hHeld.trans (h.mono hHeld.size)) (fun hHeld => ?_)
    clear hK K
    refine norm_ (a' := ?_) ?_ ?_
    rotate_left
    · show Act.put _ (some 25) _ = _
      simp only [Act.put, List.setIfInBounds_toArray, List.set_cons_zero, List.set_cons_succ, i64_w, i32_w]
      rfl
    refine pure_ (i := 4) (N := some 26) (v := ?_) (a' := ?_) #[true, true, true, true, true] rfl rfl (by kernel_rfl) (fun _ _ _ h => h) (Or.inl ⟨by rfl, ?_⟩) ?_ ?_
    rotate_left
    · intro w'
      go_simp
      with_reducible rfl
    rotate_left
    · simp only [Act.put, List.setIfInBounds_toArray, List.set_cons_zero, List.set_cons_succ, i64_w, i32_w]
      rfl
    refine done_ (by kernel_rfl) ?_
    skip
    have HF := Aside0.mk (below_then HB18.out hHeld)
    clear hHeld
    go_wp2_with fail
    go_ret
    exact ⟨rfl, HF.out⟩
end Go.Proofs.Ytodgnbcfihifiaa.Arr
