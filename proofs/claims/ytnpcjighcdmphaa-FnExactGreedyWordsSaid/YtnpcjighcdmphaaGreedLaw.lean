/- For all arguments the program's GreedyWords returns what the reference's returns, in memory of its own. No condition. -/
import Derived.Test.YtnpcjighcdmphaaGreedWalk
import Derived.BigQuiet
import Derived.Test.YtnpcjighcdmphaaPGx2
import Derived.Test.YtnpcjighcdmphaaPGx3
import Derived.Test.YtnpcjighcdmphaaPGx4
-- law FnExactGreedyWords
namespace Go.Proofs.Ytnpcjighcdmphaa.Arr
open Go.RowKit Go.Proofs.YtnpcjighcdmphaaW.PrintWords Go.Proofs.YtnpcjighcdmphaaW.PrintLast Go.Proofs.YtnpcjighcdmphaaW.PrintMore Go.Proofs.Ytnpcjighcdmphaa.U Go.Proofs.Ytnpcjighcdmphaa.G
set_option linter.unusedVariables false
set_option linter.unusedSimpArgs false

set_option maxHeartbeats 4000000 in
set_option maxRecDepth 100000 in
theorem markWordS_calls (A : Option Addr) (c : Nat) (xs : List (List Int)) (ok : Nat → Prop) (w0 w : World) (hB : Below w0.heap.size w0 w) (hS : Kd.S kWd 32 w w0.heap.size ok (.slice A xs.length c) xs) (hn : xs.length ≤ 5000) (h8 : ∀ x ∈ xs, x.length ≤ 8) :
    Calls Try.prog 7 #[.slice A xs.length c, .int .i64 1] w fun e w' => e = .returned (.int .i64 (1 + (off xs xs.length : Int))) ∧ Kd.S kWd 32 w' w0.heap.size (fun k => ok k ∨ w.heap.size ≤ k) (.slice A xs.length c) (marked xs xs.length) ∧ Below w0.heap.size w0 w' ∧ Kept w w' ok := by
  have HC := Aside0.mk (show Kd.S kWd 32 w w0.heap.size (fun k => ok k ∨ w.heap.size ≤ k) (.slice A xs.length c) (marked xs 0) ∧ Below w0.heap.size w0 w ∧ Kept w w ok from ⟨by rw [marked_zero]; exact Kd.S_mono hS (fun k hk => .inl hk), hB, Kept.refl _ _⟩)
  have HO8 := Aside0.mk (off_le xs h8)
  have H8 := Aside0.mk h8
  clear hB hS h8
  go_enter Try.func7, Try.ntmps7
  go_wp2_with fail
  go_loopw [5, 1] (fun v5 v1 wr => ∃ i : Nat, i ≤ xs.length ∧ v5 = .int .i64 i ∧ v1 = .int .i64 (1 + (off xs i : Int)) ∧ Aside0 (Kd.S kWd 32 wr w0.heap.size (fun k => ok k ∨ w.heap.size ≤ k) (.slice A xs.length c) (marked xs i) ∧ Below w0.heap.size w0 wr ∧ Kept w wr ok)) (fun v5 _ _ => xs.length - (intOf v5).toNat)
  case atStart => exact ⟨0, by omega, rfl, by simp [off], HC⟩
  case round =>
    clear HC
    obtain ⟨i, hi, rfl, rfl, HU⟩ := hrel
    by_cases hlt : i < xs.length
    · have hltI : (i : Int) < (xs.length : Int) := by omega
      obtain ⟨hS, hB, hK⟩ := HU.out
      obtain ⟨g, hA⟩ : ∃ g, A = some ⟨g, 0, none⟩ := by
        obtain ⟨g, cap, hv, _⟩ := Kd.S_form hS (by rw [marked_len]; omega)
        injection hv with hA _ _
        exact ⟨g, hA⟩
      subst hA
      obtain ⟨oki, cl, hcl, hM, hcc, hoki, hH⟩ := Kd.S_lend hS ([] : List Int) (i : Int) (by omega) (by omega)
      have hxi : (marked xs i).getD (i : Int).toNat [] = xs[i] := by
        rw [Int.toNat_natCast, List.getD_eq_getElem?_getD, marked_at xs i i hlt, if_neg (by omega)]
        rfl
      rw [hxi] at hM
      obtain ⟨v, hcl2, hR⟩ := hM
      subst hcl2
      have HCELL := Aside0.mk (show wr.cell? ⟨g, i, none⟩ = some v by
        have := hcc 0 v rfl
        rw [Int.toNat_natCast] at this
        simpa [kWd, Kd.slice] using this)
      have hx8 := H8.out _ (List.getElem_mem hlt)
      have hoi := HO8.out i
      have HOS := Aside0.mk (off_succ xs i hlt)
      obtain ⟨k, hk⟩ := (markWord_ev xs[i] (1 + (off xs i : Int)) (by omega) (by omega)).rounds
      have HMW := Aside0.mk (laws_markWord.calls k oki v xs[i] (1 + (off xs i : Int)) _ _ w0 wr hB hR hk)
      have HN := Aside0.mk (fun w2 (h1 : Kd.R (Kd.int .u8) 5 w2 w0.heap.size (fun k_ => (oki k_ ∨ wr.heap.size ≤ k_)) v (marks xs[i].length (1 + (off xs i : Int)))) (h2 : Below w0.heap.size w0 w2) (h3 : Kept wr w2 oki) =>
        show Kd.S kWd 32 w2 w0.heap.size (fun k => ok k ∨ w.heap.size ≤ k) (.slice (some ⟨g, 0, none⟩) xs.length c) (marked xs (i + 1)) ∧ Below w0.heap.size w0 w2 ∧ Kept w w2 ok by
          refine ⟨?_, h2, Kept.then_ hK h3 (fun k hk => (hoki k hk).1)⟩
          have hH2 := Kd.H_step (Kd.H_widen hH) (w1 := w2) (fun k _ hn hlt => h3.2 k hlt (fun ho => hn (.inl ho)))
          have hS2 := Kd.H_back hH2 (x' := marks xs[i].length (1 + (off xs i : Int))) ⟨v, rfl, h1⟩ (fun k hk => by
            rcases hk with hk | hk
            · exact .inl hk
            · exact .inr ⟨.inr (by have := hK.1; omega), hk⟩)
          rw [Int.toNat_natCast, marked_set xs i hlt] at hS2
          exact hS2)
      generalize hmk : marks xs[i].length (1 + (off xs i : Int)) = mk at *
      have hvs := Kd.R_slice hR
      have hw1 : wrap64 ((i : Int) + 1) = ((i + 1 : Nat) : Int) := by rw [w64 (by omega) (by omega)]; omega
      clear hS hB hK hcc hoki hH hR hxi hk hmk HU hx8 hoi
      obtain ⟨Ai, ci, rfl⟩ := hvs
      generalize hq : off xs i = q at *
      go_wp2_with (first
        | ((with_reducible refine gt_load 32 ?_); refine Kd.event_run rfl (y_cellG (by rfl) (by rfl) oneWd HCELL.out) ?_)
        | (go_at_call 25; refine HMW.out.mono ?_; rintro e w2 ⟨rfl, h1, h2, h3⟩; have HX := Aside0.mk (HN.out w2 h1 h2 h3); clear h1 h2 h3))
      go_roundw
      case rel => exact ⟨i + 1, by omega, by go_num, by rw [HOS.out]; congr 1; omega, HX⟩
      case measure => simp [intOf]; omega
    · obtain rfl : i = xs.length := by omega
      go_wp2_with fail
      go_ret
      exact ⟨rfl, HU.out.1, HU.out.2.1, HU.out.2.2⟩
/-- The reference's words and the program's, as they lie. -/
structure GL (w : World) (N1 : Nat) (vw vx : Value) (xs ys : List (List Int)) (W : World) : Prop where
  bel : Below w.heap.size w W
  n1 : w.heap.size ≤ N1 ∧ N1 ≤ W.heap.size
  spec : Kd.S kWd 32 W w.heap.size (fun k => k < N1) vw xs
  impl : Kd.S kWd 32 W w.heap.size (fun k => N1 ≤ k) vx ys
theorem GL.below {w W W1 : World} {N1 : Nat} {vw vx : Value} {xs ys : List (List Int)} (h : GL w N1 vw vx xs ys W) (hb : Below W.heap.size W W1) : GL w N1 vw vx xs ys W1 :=
  ⟨below_then h.bel hb, ⟨h.n1.1, Nat.le_trans h.n1.2 hb.size⟩, Kd.S_below h.spec hb, Kd.S_below h.impl hb⟩
theorem GL.mk_ {w w1 w2 : World} {vw vx : Value} {xs : List (List Int)} (hb1 : Below w.heap.size w w1) (hs : Kd.S kWd 32 w1 w.heap.size (fun _ => True) vw xs) (hb2 : Below w1.heap.size w1 w2) (hx : Kd.S kWd 32 w2 w1.heap.size (fun _ => True) vx xs) : GL w w1.heap.size vw vx xs xs w2 :=
  ⟨below_then hb1 hb2, ⟨hb1.size, hb2.size⟩, Kd.S_mono (Kd.S_old hs hb2) (fun k hk => hk.2), Kd.S_lower (Kd.S_mono (Kd.S_bound hx) (fun k hk => hk.2.1)) hb1.size⟩
theorem GL.mark {w W W1 : World} {N1 : Nat} {vw vx : Value} {xs ys zs : List (List Int)} (h : GL w N1 vw vx xs ys W) (hs : Kd.S kWd 32 W1 w.heap.size (fun k => N1 ≤ k ∨ W.heap.size ≤ k) vx zs) (hb : Below w.heap.size w W1) (hk : Kept W W1 (fun k => N1 ≤ k)) : GL w N1 vw vx xs zs W1 :=
  ⟨hb, ⟨h.n1.1, Nat.le_trans h.n1.2 hk.1⟩, Kd.S_step h.spec (fun k ho hlt => hk.2 k hlt (by omega)), Kd.S_mono hs (fun k ho => by have := h.n1.2; omega)⟩
theorem eqWS_calls (A : Option Addr) (c : Nat) (A2 : Option Addr) (c2 : Nat) (xs : List (List Int)) (b1 b2 : Nat) (ok1 ok2 : Nat → Prop) (w : World) (h1 : Kd.S kWd 32 w b1 ok1 (.slice A xs.length c) xs) (h2 : Kd.S kWd 32 w b2 ok2 (.slice A2 xs.length c2) xs) (hn : xs.length ≤ 5000) (h8 : ∀ x ∈ xs, x.length ≤ 8) :
    Calls Try.prog 6 #[.slice A xs.length c, .slice A2 xs.length c2] w fun e w' => e = .returned (.bool true) ∧ Below w.heap.size w w' := by
  obtain ⟨k, hk⟩ := (eqWordS_refl xs (by omega) (fun x hx => by have := h8 x hx; omega)).rounds
  refine (laws_eqWordS.calls k A c xs A2 c2 xs true w (Kd.S_reads' h1).2.2 (Kd.S_reads' h1).2.1 (Kd.S_reads' h2).2.2 (Kd.S_reads' h2).2.1 hk).mono ?_
  rintro e w' ⟨rfl, h⟩
  exact ⟨rfl, h.below⟩
theorem heldWS_calls (A : Option Addr) (c : Nat) (xs : List (List Int)) (b : Nat) (ok : Nat → Prop) (w : World) (h : Kd.S kWd 32 w b ok (.slice A xs.length c) (marked xs xs.length)) (hn : xs.length ≤ 5000) (h8 : ∀ x ∈ xs, x.length ≤ 8) :
    Calls Try.prog 8 #[.slice A xs.length c, .int .i64 1] w fun e w' => e = .returned (.int .i64 (1 + (off xs xs.length : Int))) ∧ Below w.heap.size w w' := by
  obtain ⟨k, hk⟩ := (heldWordS_ev xs hn h8).rounds
  have := laws_heldWordS.calls k A c (marked xs xs.length) 1 _ w (Kd.S_reads' h).2.2 (by rw [marked_len]; exact (Kd.S_reads' h).2.1) hk
  rw [marked_len] at this
  refine this.mono ?_
  rintro e w' ⟨rfl, h⟩
  exact ⟨rfl, h.below⟩
set_option maxHeartbeats 8000000 in
set_option maxRecDepth 100000 in
theorem law_FnExactGreedyWords (b : Int) (_ : (Lit.int .i64 b).wf = true) (len : Int) (_ : (Lit.int .i64 len).wf = true) (a : Int) (_ : (Lit.int .i64 a).wf = true) (most : Int) (_ : (Lit.int .i64 most).wf = true) (w : World) :
    Calls Try.prog 3 #[.int .i64 b, .int .i64 len, .int .i64 a, .int .i64 most] w fun e w' => e = .returned (.bool true) ∧ Below w.heap.size w w' := by
  obtain ⟨k, hk⟩ := (specGreedy_ev b len a most).rounds
  have HSP := Aside0.mk (spec_GreedyWords.calls k b len a most (greedyW b len a most).1 (greedyW b len a most).2 w hk)
  have HIM := Aside0.mk (fun W => implGreedy_calls b len a most W)
  have HFEW := Aside0.mk (greedyW_few b len a most)
  clear hk
  generalize (greedyW b len a most).2 = q at *
  generalize (greedyW b len a most).1 = xs at *
  have hmq : ¬ (1 + (off xs xs.length : Int) < 0) := by omega
  go_enter Try.func3, Try.ntmps3
  go_wp2_with (first
    | (go_at_call 8; refine (heldWS_calls Ax cx xs _ _ _ HG6.out.impl HFEW.out.1 HFEW.out.2).mono ?_; rintro e w7 ⟨rfl, h⟩; have HG7 := Aside0.mk (HG6.out.below h); clear h)
    | (go_at_call 6; refine (eqWS_calls Ah ch Aw cw xs _ _ _ _ _ HH5.out HG5.out.spec HFEW.out.1 HFEW.out.2).mono ?_; rintro e w6 ⟨rfl, h⟩; have HG6 := Aside0.mk (HG5.out.below h); clear h)
    | (go_at_call 5; refine (HIM.out w4).mono ?_; rintro e w5 ⟨v5, rfl, hs, hb⟩; obtain ⟨Ah, ch, rfl⟩ := Kd.S_slice hs; have HH5 := Aside0.mk hs; have HG5 := Aside0.mk (HG4.out.below hb); clear hs hb)
    | (go_at_call 8; refine (heldWS_calls Ax cx xs _ _ _ HG3.out.impl HFEW.out.1 HFEW.out.2).mono ?_; rintro e w4 ⟨rfl, h⟩; have HG4 := Aside0.mk (HG3.out.below h); clear h)
    | (go_at_call 7; refine (markWordS_calls Ax cx xs _ w _ HG2.out.bel HG2.out.impl HFEW.out.1 HFEW.out.2).mono ?_; rintro e w3 ⟨rfl, hs, hb, hk⟩; have HG3 := Aside0.mk (HG2.out.mark hs hb hk); clear hs hb hk)
    | (go_at_call 6; refine (eqWS_calls Ax cx Aw cw xs _ _ _ _ _ HG1.out.impl HG1.out.spec HFEW.out.1 HFEW.out.2).mono ?_; rintro e w2 ⟨rfl, h⟩; have HG2 := Aside0.mk (HG1.out.below h); clear h)
    | (go_at_call 5; refine (HIM.out w0).mono ?_; rintro e w1 ⟨v1, rfl, hs, hb⟩; obtain ⟨Ax, cx, rfl⟩ := Kd.S_slice hs; have HG1 := Aside0.mk (GL.mk_ HS0.out.2 HS0.out.1 hb hs); clear hs hb)
    | (go_at_call 4; refine HSP.out.mono ?_; rintro e w0 ⟨v0, rfl, hs, hb⟩; obtain ⟨Aw, cw, rfl⟩ := Kd.S_slice hs; have HS0 := Aside0.mk (And.intro hs hb); clear hs hb))
  go_ret
  exact ⟨rfl, HG7.out.bel⟩
end Go.Proofs.Ytnpcjighcdmphaa.Arr
