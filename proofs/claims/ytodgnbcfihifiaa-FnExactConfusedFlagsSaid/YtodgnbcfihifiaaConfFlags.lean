/- For all sets of flags the program's ConfusedFlags returns what the reference's returns, and changes nothing. No condition. -/
import Derived.Test.YtodgnbcfihifiaaConfMark
-- law FnExactConfusedFlags
namespace Go.Proofs.Ytodgnbcfihifiaa.Arr
open Go.RowKit Go.Proofs.YtodgnbcfihifiaaW.PrintWords Go.Proofs.YtodgnbcfihifiaaW.PrintLast Go.Proofs.YtodgnbcfihifiaaW.PrintMore Go.Proofs.Ytodgnbcfihifiaa.U Go.Proofs.Ytodgnbcfihifiaa.F
set_option linter.unusedVariables false
set_option linter.unusedSimpArgs false

theorem below_at {w w1 w2 : World} {B : Nat} (h1 : Below w.heap.size w w1) (h2 : Below B w1 w2) (hB : w.heap.size ≤ B) : Below w.heap.size w w2 := h1.trans (h2.mono hB)
set_option maxHeartbeats 8000000 in
set_option maxRecDepth 100000 in
theorem law_FnExactConfusedFlags (w : World) (A : Option Addr) (c : Nat) (l : List (List Int)) (hr : Kd.C (kA .u8 24) w A l.length l) (hc : l.length ≤ c) (wf : WfL (fun x : List Int => x.length = 24 ∧ ∀ z ∈ x, WfI .u8 z) l) (i : Int) (_ : (Lit.int .i64 i).wf = true) (most : Int) (_ : (Lit.int .i64 most).wf = true) :
    Calls Try.prog 5 #[.slice A l.length c, .int .i64 i, .int .i64 most] w fun e w' => e = .returned (.bool true) ∧ Below w.heap.size w w' := by
  have hm1 := Kd.C_max hr
  have HZ := Aside0.mk (fun W => szFlagS_calls A c l.length 1048576 W (by omega) (by omega))
  by_cases c1 : (1048576 : Int) - l.length < 0
  · rw [if_pos c1] at HZ
    clear hr wf c1
    go_enter Try.func5, Try.ntmps5
    go_wp2_with (go_at_call 16; refine (HZ.out _).mono ?_; rintro e wz ⟨rfl, h⟩; have HBZ := Aside0.mk h; clear h)
    go_ret
    exact ⟨rfl, HBZ.out⟩
  · rw [if_neg c1] at HZ
    have hn : l.length ≤ 1048576 := by omega
    have hl24 : ∀ x ∈ l, x.length = 24 := fun x hx => (wf.2 x hx).1
    have hp : FlagsP l := fun x hx => ⟨(wf.2 x hx).1, Bytes.of (wf.2 x hx).2⟩
    have HT := Aside0.mk (fun W (hW : Below w.heap.size w W) => toFlagS_calls A c l W (Kd.C_below hr hW) hl24 hn)
    have HSP := Aside0.mk (fun W B d h => specConfused_calls B d l i most W h hn hp)
    have HIM := Aside0.mk (fun W B d h => implConfused_calls B d l i most W h hn hp)
    have HFL := Aside0.mk (fun (g : Nat) (W : World) (h : W.heap[g]? = some (.cells (vals .u8 l.flatten) 67 (0, 0))) => C_of_flat hl24 hn h)
    have HFZ := Aside0.mk (show (vals .u8 l.flatten).size = l.length * 24 by rw [vals_size]; exact flat_len l hl24)
    have hxn : (confW l i most).1.length ≤ 1048576 := by
      unfold confW
      split
      · split
        · exact Nat.le_trans (confL_len l i most l.length) hn
        · simp
      · simp
    have hz0 : ¬ ((1048576 : Int) - l.length < 0) := c1
    have hz1 : (1048576 : Int) - l.length ≥ 0 := by omega
    generalize (1048576 : Int) - l.length = z at *
    generalize (confW l i most).2 = q at *
    generalize (confW l i most).1 = xs at *
    have hmk : ¬ (1 + 24 * (l.length : Int) < 0) := by omega
    have hmx : ¬ (1 + (xs.length : Int) < 0) := by omega
    clear hr wf hl24 hp c1
    go_enter Try.func5, Try.ntmps5
    go_wp2_with (first
      | (go_at_call 24; refine (heldF_calls _ Ax cx xs.length _ HX13.out hxn).mono ?_; rintro e w15 ⟨rfl, h⟩; have HB15 := Aside0.mk (below_then HB13.out h); clear h)
      | (go_at_call 20; refine (eqF_calls _ Ah ch _ Aw cw xs _ HH12.out HW12.out hxn).mono ?_; rintro e w13 ⟨rfl, h⟩; have HB13 := Aside0.mk (below_then HB12.out h); have HX13 := Aside0.mk (HX12.out.below h); clear h)
      | (go_at_call 19; refine (HIM.out _ (some ⟨g11, 0, none⟩) _ (HFL.out _ _ HG11.out)).mono ?_; rintro e w12 ⟨v12, rfl, hv, h⟩; obtain ⟨Ah, ch, rfl, hir⟩ := IR.of hv; have HH12 := Aside0.mk hir; have HB12 := Aside0.mk (below_then HB11.out h); have HX12 := Aside0.mk (HX11.out.below h); have HW12 := Aside0.mk (HW11.out.below h); clear h hv hir)
      | (go_at_call 18; refine (HT.out _ HB10.out).mono ?_; rintro e w11 ⟨g11, rfl, hg, hge, h⟩; have HG11 := Aside0.mk hg; have HB11 := Aside0.mk (below_then HB10.out h); have HX11 := Aside0.mk (HX10.out.below h); have HW11 := Aside0.mk (HW10.out.below h); clear h hg hge)
      | (go_at_call 24; refine (heldF_calls _ Ax cx xs.length _ HX9.out hxn).mono ?_; rintro e w10 ⟨rfl, h⟩; have HB10 := Aside0.mk (below_then HB9.out h); have HX10 := Aside0.mk (HX9.out.below h); have HW10 := Aside0.mk (HW9.out.below h); clear h)
      | (go_at_call 23; refine (markInt64S_calls _ Ax cx xs _ HX8.out hxn).mono ?_; rintro e w9 ⟨rfl, hx, hb, ho⟩; have HX9 := Aside0.mk hx; have HB9 := Aside0.mk (below_at HB8.out hb HBS.out); have HW9 := Aside0.mk (HW8.out.keep (fun k e => ho k (HNE.out k e))); clear hx hb ho)
      | (go_at_call 20; refine (eqF_calls _ Ax cx _ Aw cw xs _ HX7.out HW7.out hxn).mono ?_; rintro e w8 ⟨rfl, h⟩; have HB8 := Aside0.mk (below_then HB7.out h); have HX8 := Aside0.mk (HX7.out.below h); have HW8 := Aside0.mk (HW7.out.below h); clear h)
      | (go_at_call 22; refine (markFlagS_calls g2 l.length _ _ HG6.out HFZ.out hn).mono ?_; rintro e w7 ⟨rfl, h⟩; have HB7 := Aside0.mk (below_at HB6.out (h.bel _ (Nat.le_refl _)) HGE.out); have HX7 := Aside0.mk (HX6.out.keep (fun k e => h.oth k (HNX.out k e))); have HW7 := Aside0.mk (HW6.out.keep (fun k e => h.oth k (HNW.out k e))); clear h)
      | (go_at_call 21; refine (eqFlagS_calls (some ⟨g2, 0, none⟩) _ l (some ⟨g5, 0, none⟩) _ _ (HFL.out _ _ HG5.out.1) (HFL.out _ _ HG5.out.2) hn).mono ?_; rintro e w6 ⟨rfl, h⟩; have HB6 := Aside0.mk (below_then HB5.out h); have HX6 := Aside0.mk (HX5.out.below h); have HW6 := Aside0.mk (HW5.out.below h); have HG6 := Aside0.mk ((h.block _ (lt_of_some HG5.out.1)).trans HG5.out.1); clear h)
      | (go_at_call 18; refine (HT.out _ HB4.out).mono ?_; rintro e w5 ⟨g5, rfl, hg, hge, h⟩; have HG5 := Aside0.mk (And.intro ((h.block _ (lt_of_some HG4.out)).trans HG4.out) hg); have HB5 := Aside0.mk (below_then HB4.out h); have HX5 := Aside0.mk (HX4.out.below h); have HW5 := Aside0.mk (HW4.out.below h); clear h hg hge)
      | (go_at_call 20; refine (eqF_calls _ Ax cx _ Aw cw xs _ HX3.out HW3.out hxn).mono ?_; rintro e w4 ⟨rfl, h⟩; have HB4 := Aside0.mk (below_then HB3.out h); have HX4 := Aside0.mk (HX3.out.below h); have HW4 := Aside0.mk (HW3.out.below h); have HG4 := Aside0.mk ((h.block _ (lt_of_some HG3.out)).trans HG3.out); clear h)
      | (go_at_call 19; refine (HIM.out _ (some ⟨g2, 0, none⟩) _ (HFL.out _ _ HG2.out)).mono ?_; rintro e w3 ⟨v3, rfl, hv, h⟩; obtain ⟨Ax, cx, rfl, hir⟩ := IR.of hv; have HX3 := Aside0.mk hir; have HB3 := Aside0.mk (below_then HB2.out h); have HW3 := Aside0.mk (HW2.out.below h); have HG3 := Aside0.mk ((h.block _ (lt_of_some HG2.out)).trans HG2.out); have HNX := Aside0.mk (fun k (e : Ax = some ⟨k, 0, none⟩) => show k ≠ g2 from fun e2 => by have h3 := (hir.lt e).1; have h4 := lt_of_some HG2.out; omega); have HNE := Aside0.mk (fun k (e : Aw = some ⟨k, 0, none⟩) => show Ax ≠ some ⟨k, 0, none⟩ from fun e2 => by have h3 := (hir.lt e2).1; have h4 := (HW2.out.lt e).2; omega); have HBS := Aside0.mk HB2.out.size; clear h hv hir)
      | (go_at_call 18; refine (HT.out _ HB1.out).mono ?_; rintro e w2 ⟨g2, rfl, hg, hge, h⟩; have HG2 := Aside0.mk hg; have HGE := Aside0.mk (Nat.le_trans HB1.out.size hge); have HB2 := Aside0.mk (below_then HB1.out h); have HW2 := Aside0.mk (HW1.out.below h); have HNW := Aside0.mk (fun k (e : Aw = some ⟨k, 0, none⟩) => show k ≠ g2 from fun e2 => by have h3 := (HW1.out.lt e).2; omega); clear h hg hge)
      | (go_at_call 17; refine (HSP.out _ (some ⟨g0, 0, none⟩) _ (HFL.out _ _ HG0.out)).mono ?_; rintro e w1 ⟨v1, rfl, hv, h⟩; obtain ⟨Aw, cw, rfl, hir⟩ := IR.of hv; have HW1 := Aside0.mk hir; have HB1 := Aside0.mk (below_then HB0.out h); clear h hv hir)
      | (go_at_call 18; refine (HT.out _ HBZ.out).mono ?_; rintro e w0 ⟨g0, rfl, hg, hge, h⟩; have HG0 := Aside0.mk hg; have HB0 := Aside0.mk (below_then HBZ.out h); clear h hg hge)
      | (go_at_call 16; refine (HZ.out _).mono ?_; rintro e wz ⟨rfl, h⟩; have HBZ := Aside0.mk h; clear h))
    go_ret
    exact ⟨rfl, HB15.out⟩
end Go.Proofs.Ytodgnbcfihifiaa.Arr
