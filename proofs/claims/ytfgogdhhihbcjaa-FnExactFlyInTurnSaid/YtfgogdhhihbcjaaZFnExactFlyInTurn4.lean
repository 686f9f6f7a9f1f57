/- The texts that the statement FnExactFlyInTurn needs, part 4: contracts of the program's functions and plain laws, without what it does not reach. No condition beyond what each theorem says. -/
import Derived.Below
import Derived.Deep.Draws
import Derived.Deep.AppendLies
import Derived.Maps.AppendAt
import Derived.OwnWalk
import Derived.Laws.BytesArg
import Derived.Laws.MakeOwn
import Derived.Laws.OwnMore
import Derived.Deep.OwnRows
import Derived.Tactics
import Derived.Lib.ConvBytes
import Derived.Laws.Slices
import Derived.WalkKit
import Derived.KernelRfl
import Derived.RowKit3
import Derived.Deep.LoopGhost
import Derived.Deep.QuietTactic
import Derived.BigQuiet
import Derived.WideLaws
import Derived.Deep.DeepCutAuto
import Derived.Deep.CutBlock
import Derived.Deep.RegionHeld3
import Derived.Laws.Rows
import Derived.Lib.AppendStr
import Derived.ArgAppend
import Derived.Laws.IdiomCopy
import Derived.RowKit
import Derived.Laws.Tables
import Derived.BigFrame
import Derived.Laws.CopyRow
import Derived.Laws.ResultCell
import Derived.OrdersHeld
import Derived.Laws.BitsLemmas
import Derived.Laws.StructEq
import Derived.Test.YtfgogdhhihbcjaaProg
import Derived.WalkSpells
import Derived.StillTailTactics
import Derived.Laws.CopyOwn
import Derived.ProofKit
import Derived.OpenShut
import Derived.Deep.Slices
import Derived.Lib.SmallJoins
import Derived.ChangeSame
import Derived.Test.YtfgogdhhihbcjaaRows
import Derived.ShutString
import Derived.ChangeOld
import Derived.SizedLaws
import Derived.Test.YtfgogdhhihbcjaaZFnExactFlyInTurn3
namespace Go.Proofs.Ytfgogdhhihbcjaa.Arr
open Go.RowKit Go.Proofs.YtfgogdhhihbcjaaW.PrintWords Go.Proofs.YtfgogdhhihbcjaaW.PrintLast Go.Proofs.YtfgogdhhihbcjaaW.PrintMore Go.Proofs.Ytfgogdhhihbcjaa.U Go.Proofs.Ytfgogdhhihbcjaa.H
set_option linter.unusedVariables false
set_option linter.unusedSimpArgs false
theorem toListL {l l' : List (List Int)} {n : Nat} (h1 : l.length = n) (h2 : l'.length = n) (h : ∀ j, j < n → l[j]? = l'[j]?) : l = l' := by
 apply List.ext_getElem?
 intro j
 rcases Nat.lt_or_ge j n with hj | hj
 ·exact h j hj
 ·rw [List.getElem?_eq_none (by omega), List.getElem?_eq_none (by omega)]
def offs (xs : List (List Int)) (i : Nat) : Nat := ((xs.take i).map List.length).sum
theorem offs_succ (xs : List (List Int)) (i : Nat) (h : i < xs.length) : offs xs (i + 1) = offs xs i + xs[i].length := by
 unfold offs
 rw [List.take_succ_eq_append_getElem h, List.map_append, List.sum_append, List.map_cons, List.map_nil, List.sum_cons, List.sum_nil, Nat.add_zero]
theorem offs_le (xs : List (List Int)) (h8 : ∀ x ∈ xs, x.length ≤ 1048576) : ∀ i, offs xs i ≤ 1048576 * i
 | 0 => by simp [offs]
 | i + 1 => by
  rcases Nat.lt_or_ge i xs.length with h | h
  ·rw [offs_succ xs i h]
   have := offs_le xs h8 i
   have := h8 _ (List.getElem_mem h)
   omega
  ·have := offs_le xs h8 i
   unfold offs at this ⊢
   rw [List.take_of_length_le (by omega)] at this ⊢
   omega
theorem szMeaning_ev (l : List Int) (a : Int) (ha : 0 ≤ a ∧ a ≤ 1048576) (hl : l.length ≤ maxLen) : laws_szMeaning.f l a = some (if a < (l.length : Int) then -1 else a - l.length) := by
 unfold laws_szMeaning.f
 unfold maxLen at hl
 rw [w64 (by omega) (by omega)]
 by_cases h : a < (l.length : Int)
 ·rw [if_pos (by omega), if_pos h]
 ·rw [if_neg (by omega), if_neg h]
theorem szMeaningS_ev (l : List (List Int)) (a : Int) (ha : 0 ≤ a ∧ a ≤ 1048576) (hl : l.length ≤ maxLen) (hls : ∀ x ∈ l, x.length ≤ maxLen) :
  ∃ r, Ev (fun k => laws_szMeaningS.f k l a) r ∧ r ≤ a ∧ (0 ≤ r → (l.length : Int) ≤ a ∧ ∀ x ∈ l, (x.length : Int) ≤ a) := by
 unfold laws_szMeaningS.f
 have hl2 := hl
 unfold maxLen at hl2
 rw [w64 (x := a - (l.length : Int)) (by omega) (by omega)]
 by_cases h : a - (l.length : Int) < 0
 ·exact ⟨-1, pos h (cons rfl), by omega, fun h => by omega⟩
 have key : ∀ (d i : Nat) (b : Int), i + d = l.length → 0 ≤ b → b ≤ a → (∀ j : Nat, j < i → ((rd_L1 l (j : Int)).length : Int) ≤ a) →
   ∃ r, Ev (fun k => laws_szMeaningS.l0 k l b (i : Int)) r ∧ r ≤ a ∧ (0 ≤ r → ∀ j : Nat, j < l.length → ((rd_L1 l (j : Int)).length : Int) ≤ a) := by
  intro d
  induction d with
  | zero =>
   intro i b hi hb0 hb1 hp
   refine ⟨b, ?_, hb1, fun _ j hj => hp j (by omega)⟩
   refine Ev.step (fun k => by rw [laws_szMeaningS.l0]) ?_
   exact neg (by omega) (Ev.now _)
  | succ d ih =>
   intro i b hi hb0 hb1 hp
   have hm : (rd_L1 l (i : Int)).length ≤ maxLen := by rw [rdM_get l i (by omega)]; exact hls _ (List.getElem_mem _)
   have hs := szMeaning_ev (rd_L1 l (i : Int)) b ⟨hb0, by omega⟩ hm
   by_cases hc : b < ((rd_L1 l (i : Int)).length : Int)
   ·rw [if_pos hc] at hs
    refine ⟨-1, ?_, by omega, fun h => by omega⟩
    refine Ev.step (fun k => by rw [laws_szMeaningS.l0]) ?_
    exact pos (by omega) (pos (by omega) (bindc hs (pos (by omega) (cons rfl))))
   ·rw [if_neg hc] at hs
    obtain ⟨r, hr, h1, h2⟩ := ih (i + 1) (b - ((rd_L1 l (i : Int)).length : Int)) (by omega) (by omega) (by omega) (fun j hj => by
     rcases Nat.lt_or_ge j i with h | h
     ·exact hp j h
     ·obtain rfl : j = i := by omega
      omega)
    refine ⟨r, ?_, h1, h2⟩
    refine Ev.step (fun k => by rw [laws_szMeaningS.l0]) ?_
    refine pos (by omega) (pos (by omega) (bindc hs (neg (by omega) ?_)))
    rw [w64 (x := (i : Int) + 1) (by omega) (by omega)]; exact hr
 obtain ⟨r, hr, h1, h2⟩ := key l.length 0 (a - (l.length : Int)) (by omega) (by omega) (by omega) (fun j hj => by omega)
 refine ⟨r, neg h hr, h1, fun h0 => ⟨by omega, fun x hx => ?_⟩⟩
 obtain ⟨j, hj, rfl⟩ := List.getElem_of_mem hx
 have := h2 h0 j hj
 rwa [rdM_get l j hj] at this
theorem guardMeaningS (l : List (List Int)) (wf : WfL (WfL (WfI .i8)) l) : ∃ r : Int, (∀ (A0 : Option Addr) (c0 : Nat) (w : World), Kd.C kH w A0 l.length l → l.length ≤ c0 → Calls Try.prog 15 #[.slice A0 l.length c0, .int .i64 1048576] w fun e w' => e = .returned (.int .i64 r) ∧ Below w.heap.size w w') ∧
  (0 ≤ r → l.length ≤ 1048576 ∧ (∀ x ∈ l, x.length ≤ 1048576) ∧ ∀ x ∈ l, Small8 x) := by
 obtain ⟨r, hev, _, h0⟩ := szMeaningS_ev l 1048576 (by omega) wf.1 (fun x hx => (wf.2 x hx).1)
 obtain ⟨k, hk⟩ := hev.rounds
 refine ⟨r, fun A0 c0 w hr hc => (laws_szMeaningS.calls k A0 c0 l 1048576 r w hr hc hk).mono fun e w' ⟨h1, h2⟩ => ⟨h1, by first | exact h2 | exact h2.below⟩, fun h => ?_⟩
 obtain ⟨h1, h2⟩ := h0 h
 refine ⟨by omega, fun x hx => by have := h2 x hx; omega, fun x hx => ⟨by have := h2 x hx; omega, fun y hy => wfi8 ((wf.2 x hx).2 y hy)⟩⟩
theorem toMeaningS_ev (l : List (List Int)) (hn : l.length ≤ 1048576) (hls : ∀ x ∈ l, x.length ≤ 1048576) : Ev (fun k => laws_toMeaningS.f k l) l := by
 unfold laws_toMeaningS.f
 refine pos (by omega) (pos (by omega) ?_)
 rw [Int.toNat_natCast]
 refine iter (F := fun k (s : List (List Int) × Int) => laws_toMeaningS.l0 k l s.1 s.2) (fun i s => s.2 = (i : Int) ∧ s.1.length = l.length ∧ ∀ j, j < i → s.1[j]? = l[j]?) l l.length ?_ ?_ 0 (List.replicate l.length [], 0) (by omega) ⟨rfl, by simp, fun j hj => by omega⟩
 ·rintro i ⟨s, x⟩ hi ⟨rfl, hl, hp⟩
  dsimp only at hl hp
  refine .inl ⟨(s.set i (rd_L1 l (i : Int)), ((i + 1 : Nat) : Int)), ⟨rfl, by simpa using hl, fun j hj => ?_⟩, fun hk => ?_⟩
  ·dsimp only
   by_cases e : j = i
   ·subst e; rw [List.getElem?_set_self (by omega), rdM_get l j hi, List.getElem?_eq_getElem hi]
   ·rw [List.getElem?_set_ne (by omega)]; exact hp j (by omega)
  ·refine Ev.step (fun k => by rw [laws_toMeaningS.l0]) ?_
   dsimp only
   have hm : (rd_L1 l (i : Int)).length ≤ 1048576 := by rw [rdM_get l i hi]; exact hls _ (List.getElem_mem _)
   refine pos (by omega) (pos (by omega) (Ev.bind (toMeaning_ev _ (by omega)) (pos (by omega) ?_)))
   rw [w64 (by omega) (by omega), Int.toNat_natCast]; exact hk
 ·rintro ⟨s, x⟩ ⟨rfl, hl, hp⟩
  dsimp only at hl hp
  refine Ev.step (fun k => by rw [laws_toMeaningS.l0]) ?_
  exact neg (by omega) (cons (toListL hl rfl hp))
theorem toMeaningS_calls (A0 : Option Addr) (c0 : Nat) (l : List (List Int)) (w : World) (hr : Kd.C kH w A0 l.length l) (hc : l.length ≤ c0) (hn : l.length ≤ 1048576) (hls : ∀ x ∈ l, x.length ≤ 1048576) :
  Calls Try.prog 17 #[.slice A0 l.length c0] w fun e w' => ∃ v, e = .returned v ∧ Kd.S kH 33 w' w.heap.size (fun _ => True) v l ∧ Below w.heap.size w w' := by
 obtain ⟨k, hk⟩ := (toMeaningS_ev l hn hls).rounds
 exact laws_toMeaningS.calls k A0 c0 l l w hr hc hk
theorem eqMeaningS_refl (l : List (List Int)) (hn : l.length ≤ 1048576) (hls : ∀ x ∈ l, x.length ≤ 1048576) : Ev (fun k => laws_eqMeaningS.f k l l) true := by
 unfold laws_eqMeaningS.f
 refine pos rfl ?_
 refine iter (F := fun k (s : Int) => laws_eqMeaningS.l0 k l l s) (fun i s => s = (i : Int)) _ l.length ?_ ?_ 0 0 (by omega) rfl
 ·rintro i s hi rfl
  have hm : (rd_L1 l (i : Int)).length ≤ 1048576 := by rw [rdM_get l i hi]; exact hls _ (List.getElem_mem _)
  refine .inl ⟨((i + 1 : Nat) : Int), rfl, fun hk => ?_⟩
  refine Ev.step (fun k => by rw [laws_eqMeaningS.l0]) ?_
  refine pos (by omega) (pos (by omega) (pos (by omega) (Ev.bind (eqMeaning_refl (rd_L1 l (i : Int)) (by omega)) (pos rfl ?_))))
  rw [w64 (by omega) (by omega)]; exact hk
 ·rintro s rfl
  refine Ev.step (fun k => by rw [laws_eqMeaningS.l0]) ?_
  exact neg (by omega) (cons rfl)
theorem eqMeaningS_calls (A : Option Addr) (c : Nat) (A2 : Option Addr) (c2 : Nat) (xs : List (List Int)) (b1 b2 : Nat) (ok1 ok2 : Nat → Prop) (w : World) (h1 : Kd.S kH 33 w b1 ok1 (.slice A xs.length c) xs) (h2 : Kd.S kH 33 w b2 ok2 (.slice A2 xs.length c2) xs) (hn : xs.length ≤ 1048576) (h8 : ∀ x ∈ xs, x.length ≤ 1048576) :
  Calls Try.prog 20 #[.slice A xs.length c, .slice A2 xs.length c2] w fun e w' => e = .returned (.bool true) ∧ Below w.heap.size w w' := by
 obtain ⟨k, hk⟩ := (eqMeaningS_refl xs hn h8).rounds
 refine (laws_eqMeaningS.calls k A c xs A2 c2 xs true w (Kd.S_reads' h1).2.2 (Kd.S_reads' h1).2.1 (Kd.S_reads' h2).2.2 (Kd.S_reads' h2).2.1 hk).mono ?_
 rintro e w' ⟨rfl, h⟩
 exact ⟨rfl, h.below⟩
def markedMeaning (xs : List (List Int)) (i : Nat) : List (List Int) := xs.mapIdx fun j x => if j < i then marksMeaning x.length (1 + (offs xs j : Int)) else x
theorem markedMeaning_len (xs : List (List Int)) (i : Nat) : (markedMeaning xs i).length = xs.length := by simp [markedMeaning]
theorem markedMeaning_zero (xs : List (List Int)) : markedMeaning xs 0 = xs := by
 apply List.ext_getElem?
 intro j
 simp [markedMeaning, List.getElem?_mapIdx]
theorem markedMeaning_at (xs : List (List Int)) (i j : Nat) (hj : j < xs.length) : (markedMeaning xs i)[j]? = some (if j < i then marksMeaning xs[j].length (1 + (offs xs j : Int)) else xs[j]) := by
 simp [markedMeaning, List.getElem?_mapIdx, List.getElem?_eq_getElem hj]
theorem markedMeaning_set (xs : List (List Int)) (i : Nat) (h : i < xs.length) : (markedMeaning xs i).set i (marksMeaning xs[i].length (1 + (offs xs i : Int))) = markedMeaning xs (i + 1) := by
 refine toListL (n := xs.length) (by rw [List.length_set, markedMeaning_len]) (markedMeaning_len _ _) fun j hj => ?_
 rw [markedMeaning_at xs (i + 1) j hj]
 by_cases e : i = j
 ·subst e
  rw [List.getElem?_set_self (by rw [markedMeaning_len]; exact h), if_pos (by omega)]
 ·rw [List.getElem?_set_ne e, markedMeaning_at xs i j hj]
  by_cases hji : j < i
  ·rw [if_pos hji, if_pos (by omega)]
  ·rw [if_neg hji, if_neg (by omega)]
theorem oneMeaning : OneTy Try.prog 33 := ⟨by kernel_rfl, by kernel_rfl⟩
set_option maxHeartbeats 4000000 in
set_option maxRecDepth 100000 in
theorem markMeaningS_calls (A : Option Addr) (c : Nat) (xs : List (List Int)) (ok : Nat → Prop) (w0 w : World) (hB : Below w0.heap.size w0 w) (hS : Kd.S kH 33 w w0.heap.size ok (.slice A xs.length c) xs) (hn : xs.length ≤ 1048576) (h8 : ∀ x ∈ xs, x.length ≤ 1048576) :
  Calls Try.prog 21 #[.slice A xs.length c, .int .i64 1] w fun e w' => e = .returned (.int .i64 (1 + (offs xs xs.length : Int))) ∧ Kd.S kH 33 w' w0.heap.size (fun k => ok k ∨ w.heap.size ≤ k) (.slice A xs.length c) (markedMeaning xs xs.length) ∧ Below w0.heap.size w0 w' ∧ Kept w w' ok := by
 have HC := Aside0.mk (show Kd.S kH 33 w w0.heap.size (fun k => ok k ∨ w.heap.size ≤ k) (.slice A xs.length c) (markedMeaning xs 0) ∧ Below w0.heap.size w0 w ∧ Kept w w ok from ⟨by rw [markedMeaning_zero]; exact Kd.S_mono hS (fun k hk => .inl hk), hB, Kept.refl _ _⟩)
 have HO8 := Aside0.mk (offs_le xs h8)
 have H8 := Aside0.mk h8
 clear hB hS h8
 go_enter Try.func21, Try.ntmps21
 go_wp2_with fail
 go_loopw [5, 1] (fun v5 v1 wr => ∃ i : Nat, i ≤ xs.length ∧ v5 = .int .i64 i ∧ v1 = .int .i64 (1 + (offs xs i : Int)) ∧ Aside0 (Kd.S kH 33 wr w0.heap.size (fun k => ok k ∨ w.heap.size ≤ k) (.slice A xs.length c) (markedMeaning xs i) ∧ Below w0.heap.size w0 wr ∧ Kept w wr ok)) (fun v5 _ _ => xs.length - (intOf v5).toNat)
 case atStart => exact ⟨0, by omega, rfl, by simp [offs], HC⟩
 case round =>
  clear HC
  obtain ⟨i, hi, rfl, rfl, HU⟩ := hrel
  by_cases hlt : i < xs.length
  ·have hltI : (i : Int) < (xs.length : Int) := by omega
   obtain ⟨hS, hB, hK⟩ := HU.out
   obtain ⟨g, hA⟩ : ∃ g, A = some ⟨g, 0, none⟩ := by
    obtain ⟨g, cap, hv, _⟩ := Kd.S_form hS (by rw [markedMeaning_len]; omega)
    injection hv with hA _ _
    exact ⟨g, hA⟩
   subst hA
   obtain ⟨oki, cl, hcl, hM, hcc, hoki, hH⟩ := Kd.S_lend hS ([] : List Int) (i : Int) (by omega) (by omega)
   have hxi : (markedMeaning xs i).getD (i : Int).toNat [] = xs[i] := by
    rw [Int.toNat_natCast, List.getD_eq_getElem?_getD, markedMeaning_at xs i i hlt, if_neg (by omega)]
    rfl
   rw [hxi] at hM
   obtain ⟨v, hcl2, hR⟩ := hM
   subst hcl2
   have HCELL := Aside0.mk (show wr.cell? ⟨g, i, none⟩ = some v by
    have := hcc 0 v rfl
    rw [Int.toNat_natCast] at this
    simpa [kH, Kd.slice] using this)
   have hx8 := H8.out _ (List.getElem_mem hlt)
   have hoi := HO8.out i
   have HOS := Aside0.mk (offs_succ xs i hlt)
   obtain ⟨k, hk⟩ := (markMeaning_ev xs[i] (1 + (offs xs i : Int)) (by omega) (by omega)).rounds
   have HMW := Aside0.mk (laws_markMeaning.calls k oki v xs[i] (1 + (offs xs i : Int)) _ _ w0 wr hB hR hk)
   have HN := Aside0.mk (fun w2 (h1 : Kd.R (Kd.int .i8) 64 w2 w0.heap.size (fun k_ => (oki k_ ∨ wr.heap.size ≤ k_)) v (marksMeaning xs[i].length (1 + (offs xs i : Int)))) (h2 : Below w0.heap.size w0 w2) (h3 : Kept wr w2 oki) =>
    show Kd.S kH 33 w2 w0.heap.size (fun k => ok k ∨ w.heap.size ≤ k) (.slice (some ⟨g, 0, none⟩) xs.length c) (markedMeaning xs (i + 1)) ∧ Below w0.heap.size w0 w2 ∧ Kept w w2 ok by
     refine ⟨?_, h2, Kept.then_ hK h3 (fun k hk => (hoki k hk).1)⟩
     have hH2 := Kd.H_step (Kd.H_widen hH) (w1 := w2) (fun k _ hn hlt => h3.2 k hlt (fun ho => hn (.inl ho)))
     have hS2 := Kd.H_back hH2 (x' := marksMeaning xs[i].length (1 + (offs xs i : Int))) ⟨v, rfl, h1⟩ (fun k hk => by
      rcases hk with hk | hk
      ·exact .inl hk
      ·exact .inr ⟨.inr (by have := hK.1; omega), hk⟩)
     rw [Int.toNat_natCast, markedMeaning_set xs i hlt] at hS2
     exact hS2)
   generalize hmk : marksMeaning xs[i].length (1 + (offs xs i : Int)) = mk at *
   have hvs := Kd.R_slice hR
   have hw1 : wrap64 ((i : Int) + 1) = ((i + 1 : Nat) : Int) := by rw [w64 (by omega) (by omega)]; omega
   clear hS hB hK hcc hoki hH hR hxi hk hmk HU hx8 hoi
   obtain ⟨Ai, ci, rfl⟩ := hvs
   generalize hq : offs xs i = q at *
   go_wp2_with (first
    | ((with_reducible refine gt_load 33 ?_); refine Kd.event_run rfl (y_cell (by rfl) (by rfl) oneMeaning HCELL.out) ?_)
    | (go_at_call 12; refine HMW.out.mono ?_; rintro e w2 ⟨rfl, h1, h2, h3⟩; have HX := Aside0.mk (HN.out w2 h1 h2 h3); clear h1 h2 h3))
   go_roundw
   case rel => exact ⟨i + 1, by omega, by go_num, by rw [HOS.out]; congr 1; omega, HX⟩
   case measure => simp [intOf]; omega
  ·obtain rfl : i = xs.length := by omega
   go_wp2_with fail
   go_ret
   exact ⟨rfl, HU.out.1, HU.out.2.1, HU.out.2.2⟩
end Go.Proofs.Ytfgogdhhihbcjaa.Arr
namespace Go.Proofs.Ytfgogdhhihbcjaa.Arr
open Go.RowKit Go.Proofs.YtfgogdhhihbcjaaW.PrintWords Go.Proofs.YtfgogdhhihbcjaaW.PrintLast Go.Proofs.YtfgogdhhihbcjaaW.PrintMore Go.Proofs.Ytfgogdhhihbcjaa.U Go.Proofs.Ytfgogdhhihbcjaa.H
set_option linter.unusedVariables false
set_option linter.unusedSimpArgs false
theorem leaves_good (m : List Int) (L : List Int) (hl : L.length = 44) (hm : ∀ x ∈ m, PlainN x) : ∀ (d : Nat) (h : List Int) (g : Int), h.length + d = m.length → (∀ x ∈ h, NumH x) → (∀ j : Nat, j < 44 → 0 ≤ rd (pile L h (-1) h.length) (j : Int)) →
  ∀ x ∈ leaves m 4 (enough L) d h g, (∀ y ∈ x, NumH y) ∧ ∀ j : Nat, j < 44 → 0 ≤ rd (pile L x (-1) x.length) (j : Int)
 | 0, h, g, hd, hn, hp, x, hx => by
  rw [leaves, List.mem_singleton] at hx
  subst hx
  exact ⟨hn, hp⟩
 | d + 1, h, g, hd, hn, hp, x, hx => by
  rw [leaves] at hx
  split at hx
  ·refine leaves_good m L hl hm d (h ++ [-10]) _ (by simp; omega) (fun y hy => ?_) (fun j hj => ?_) x hx
   ·rcases List.mem_append.1 hy with h1 | h1
    ·exact hn y h1
    ·rw [List.mem_singleton] at h1
     exact .inl h1
   ·rw [pile_snoc, bump, if_pos rfl]
    exact hp j hj
  ·rename_i hb
   obtain ⟨n, hno, hx⟩ := List.mem_flatMap.1 hx
   split at hx
   ·rename_i hk
    obtain ⟨hn10, hnn⟩ := opts_num hm (by omega) hb n hno
    refine leaves_good m L hl hm d (h ++ [n]) g (by simp; omega) (fun y hy => ?_) (fun j hj => ?_) x hx
    ·rcases List.mem_append.1 hy with h1 | h1
     ·exact hn y h1
     ·rw [List.mem_singleton] at h1
      rw [h1]
      exact hnn
    ·rw [pile_snoc, rd_bump _ _ _ j (by rw [pile_length, hl]; exact hj)]
     have h0 := hp j hj
     unfold enough at hk
     rw [decide_eq_true_eq] at hk
     split
     ·rename_i hc
      rw [hc.2] at h0 ⊢
      omega
     ·omega
   ·cases hx
abbrev allW (L m : List Int) : List (List Int) := leaves m 4 (enough L) m.length [] 0
structure GoodF (L x : List Int) : Prop where
 len : x.length ≤ 8
 num : ∀ y ∈ x, NumH y
 low : ∀ j : Nat, j < 44 → 0 ≤ rd (pile L x (-1) x.length) (j : Int)
theorem allW_good {L m : List Int} (hl : L.length = 44) (hp : plainM m = true) (hL : ∀ j : Nat, j < 44 → 0 ≤ rd L (j : Int)) : ∀ x ∈ allW L m, GoodF L x := fun x hx => by
 obtain ⟨hpn, _, h8⟩ := plainM_N hp
 have h1 := leaves_good m L hl hpn m.length [] 0 (by simp) (by simp) (by simpa [pile] using hL) x hx
 refine ⟨?_, h1.1, h1.2⟩
 rw [leaves_len m 4 (enough L) m.length [] 0 x hx]
 simpa using h8
theorem pile_neg_le {L h : List Int} (hl : L.length = 44) (i : Nat) (j : Nat) (hj : j < 44) : rd L (j : Int) - i ≤ rd (pile L h (-1) i) (j : Int) ∧ rd (pile L h (-1) i) (j : Int) ≤ rd L (j : Int) := by
 have h1 := rd_pile_neg L h j hj hl i
 have h2 := pile_small h i j hj
 omega
theorem less_pile {L h : List Int} (hl : L.length = 44) (hL : ∀ j : Nat, j < 44 → 0 ≤ rd L (j : Int) ∧ rd L (j : Int) ≤ 20000) (hh : h.length ≤ 8) : List.zipWith (fun a b => wrap64 (a - b)) L (pile (zs 44) h 1 h.length) = pile L h (-1) h.length := by
 have hz : (pile (zs 44) h 1 h.length).length = 44 := by rw [pile_length, zs_length]
 refine list_eq (zip_length _ _ _ hl hz) (by rw [pile_length, hl]) fun j hj => ?_
 rw [rd_zip _ L _ j (by omega) (by omega), rd_pile_neg L h j hj hl]
 have h1 := hL j hj
 have h2 := pile_small h h.length j hj
 rw [w64 (by omega) (by omega)]
def flyW (L : List Int) (ms : List (List Int)) : Nat → List Int × List Int
 | 0 => (L, [])
 | i + 1 => match allW (flyW L ms i).1 (rd_L1 ms (i : Int)) with
  | [] => flyW L ms i
  | h :: _ => (pile (flyW L ms i).1 h (-1) h.length, (flyW L ms i).2 ++ [(i : Int)])
structure FlyOk (s : List Int × List Int) (i : Nat) : Prop where
 len : s.1.length = 44
 bd : ∀ j : Nat, j < 44 → 0 ≤ rd s.1 (j : Int) ∧ rd s.1 (j : Int) ≤ 20000
 few : s.2.length ≤ i
theorem flyW_ok {L : List Int} {ms : List (List Int)} (hl : L.length = 44) (hL : ∀ j : Nat, j < 44 → 0 ≤ rd L (j : Int) ∧ rd L (j : Int) ≤ 20000) (hp : ∀ m ∈ ms, plainM m = true) : ∀ i, i ≤ ms.length → FlyOk (flyW L ms i) i
 | 0, _ => ⟨hl, hL, Nat.le_refl _⟩
 | i + 1, hi => by
  have ih := flyW_ok hl hL hp i (by omega)
  rw [flyW]
  split
  ·exact ⟨ih.len, ih.bd, Nat.le_succ_of_le ih.few⟩
  ·rename_i h r he
   have hg := allW_good (m := rd_L1 ms (i : Int)) ih.len (by rw [rdM_get ms i (by omega)]; exact hp _ (List.getElem_mem _)) (fun j hj => (ih.bd j hj).1) h (by rw [he]; simp)
   refine ⟨by rw [pile_length]; exact ih.len, fun j hj => ⟨hg.low j hj, ?_⟩, ?_⟩
   ·show rd (pile (flyW L ms i).1 h (-1) h.length) (j : Int) ≤ 20000
    have h1 := pile_neg_le ih.len (h := h) h.length j hj
    have h2 := ih.bd j hj
    omega
   ·show ((flyW L ms i).2 ++ [(i : Int)]).length ≤ i + 1
    have := ih.few
    simp
    omega
theorem flyW_none {L : List Int} {ms : List (List Int)} {i : Nat} (h : allW (flyW L ms i).1 (rd_L1 ms (i : Int)) = []) : flyW L ms (i + 1) = flyW L ms i := by rw [flyW, h]
theorem flyW_some {L : List Int} {ms : List (List Int)} {i : Nat} {x : List Int} {r : List (List Int)} (h : allW (flyW L ms i).1 (rd_L1 ms (i : Int)) = x :: r) : flyW L ms (i + 1) = (pile (flyW L ms i).1 x (-1) x.length, (flyW L ms i).2 ++ [(i : Int)]) := by rw [flyW, h]
def flyRes (L : List Int) (ms : List (List Int)) : List Int × Int := if codeMs L ms = 0 then ((flyW L ms ms.length).2, 0) else ([], codeMs L ms)
theorem codeMs_cases (L : List Int) (ms : List (List Int)) : codeMs L ms = 0 ∨ codeMs L ms = 1 ∨ codeMs L ms = 3 := by
 unfold codeMs
 split
 ·split
  ·split
   ·exact .inl rfl
   ·exact .inr (.inr rfl)
  ·exact .inr (.inl rfl)
 ·exact .inr (.inl rfl)
theorem codeMs_ok {L : List Int} {ms : List (List Int)} (h : codeMs L ms = 0) : okL L = true ∧ (∀ m ∈ ms, plainM m = true) ∧ ms.length ≤ 6 := by
 unfold codeMs at h
 split at h
 ·rename_i h1
  split at h
  ·rename_i h2
   split at h
   ·rename_i h3
    refine ⟨h1, fun m hm => ?_, by omega⟩
    have := List.any_eq_false.1 h2 m hm
    simpa using this
   ·cases h
  ·cases h
 ·cases h
structure OB (w : World) (g : Nat) (cs : Array Value) (t : TypeId) (v : Value) (out : List Int) (W : World) : Prop where
 bel : Below w.heap.size w W
 ge : w.heap.size ≤ g
 box : W.heap[g]? = some (.cells cs t (0, 0))
 own : Kd.R (Kd.int .i64) 2 W w.heap.size (fun k => k ≠ g) v out
section
variable {w W W1 : World} {g : Nat} {cs cs2 : Array Value} {t : TypeId} {v v1 : Value} {out out1 : List Int}
theorem OB.below (h : OB w g cs t v out W) (hb : Below W.heap.size W W1) : OB w g cs t v out W1 :=
 ⟨below_then h.bel hb, h.ge, (hb.block _ (lt_of_some h.box)).trans h.box, Kd.R_below h.own hb⟩
theorem OB.fr1 (h : OB w g cs t v out W) (hf : Fr1 g cs2 t W W1) : OB w g cs2 t v out W1 :=
 ⟨⟨hf.os.trans h.bel.os, hf.tape.trans h.bel.tape, hf.output.trans h.bel.output, Nat.le_trans h.bel.size hf.size, fun k hk => (hf.other k (Nat.lt_of_lt_of_le hk h.bel.size) (by have := h.ge; omega)).trans (h.bel.block k hk)⟩, h.ge, hf.now, Kd.R_step h.own (fun k ho hlt => hf.other k hlt ho)⟩
theorem OB.grown (h : OB w g cs t v out W) (ho : Kd.R (Kd.int .i64) 2 W1 w.heap.size (fun k => k ≠ g) v1 out1) (hb : Below w.heap.size w W1) (hg : W.grownBy W1 v.ownBlock) : OB w g cs t v1 out1 W1 :=
 ⟨hb, h.ge, (hg.block _ (lt_of_some h.box) (Kd.R_away h.own (fun k hk => hk))).trans h.box, ho⟩
theorem OB.fresh (h : OB w g cs t v out W) {k : Nat} (hk : W.heap.size ≤ k) : k ≠ g := by
 have := lt_of_some h.box
 omega
end
theorem infoI64O : (Try.prog.info? 2).map (fun i => (i.zero, i.size, i.bytes)) = some (some (.int .i64 0), 1, 8) := by kernel_rfl
set_option maxHeartbeats 4000000 in
set_option maxRecDepth 100000 in
theorem l04Meant_calls (g : Nat) (L : List Int) (A0 : Option Addr) (c0 : Nat) (ms : List (List Int)) (w : World) (hg : w.heap[g]? = some (.cells (vals .i16 L) 31 (0, 0))) (hl : L.length = 44) (hw : Fits .i16 L) (hr : Kd.C kH w A0 ms.length ms) (hc : ms.length ≤ c0) (hs : ∀ x ∈ ms, Small8 x) (hn : ms.length ≤ 1048576) :
  Calls Try.prog 38 #[.pointer (some ⟨g, 0, none⟩), .slice A0 ms.length c0] w fun e w' => e = .returned (.int .i64 (codeMs L ms)) ∧ Below w.heap.size w w' := by
 have HOK := Aside0.mk (l04Ok_calls g L w hl hw hg)
 have HPL := Aside0.mk (fun A c x W (hx : x ∈ ms) (hC : Kd.C (Kd.int .i8) W A x.length x) (hc' : x.length ≤ c) => l02Plain_calls A c x W hC hc' (hs x hx))
 have HR := Aside0.mk hr
 clear hr hs hw
 by_cases hok : okL L = true
 ·rw [hok] at HOK
  have HC0 := Aside0.mk (show codeMs L ms = if ms.any (fun m => !plainM m) = false then (if (ms.length : Int) ≤ 6 then 0 else 3) else 1 by unfold codeMs; rw [if_pos hok])
  clear hok
  go_enter Try.func38, Try.ntmps38
  go_wp2_with (go_at_call 29; refine HOK.out.mono ?_; rintro e w1 ⟨rfl, h⟩; have HB1 := Aside0.mk h; clear h)
  go_loopw [5] (fun v5 wr => ∃ i : Nat, i ≤ ms.length ∧ v5 = .int .i64 i ∧ Aside0 (Below w.heap.size w wr) ∧ Aside0 (∀ j : Nat, j < i → plainM (rd_L1 ms (j : Int)) = true)) (fun v5 _ => ms.length - (intOf v5).toNat)
  case atStart => exact ⟨0, Nat.zero_le _, rfl, HB1, ⟨fun j hj => absurd hj (by omega)⟩⟩
  case round =>
   clear HB1
   obtain ⟨i, hi, rfl, HB, HP⟩ := hrel
   by_cases hlt : i < ms.length
   ·have hx := List.getElem?_eq_getElem hlt
    have hx2 := rdM_get ms i hlt
    obtain ⟨ad, A1, c1, rfl, hcell, hl1, hC1⟩ := at_L1 (Kd.C_below HR.out HB.out) (i : Int) (by omega) (by omega)
    rw [Int.toNat_natCast] at hcell
    rw [← hx2] at hx
    generalize hxx : rd_L1 ms (i : Int) = x at *
    have HM := Aside0.mk (HPL.out A1 c1 x _ (List.mem_of_getElem? hx) hC1 hl1)
    have HX := Aside0.mk hx
    have HXX := Aside0.mk hxx
    clear hx hC1 hx2 hxx
    cases hp : plainM x with
    | false =>
     have HANY := Aside0.mk (show codeMs L ms = 1 by
      rw [HC0.out, if_neg]
      intro h
      have := List.any_eq_false.1 h x (List.mem_of_getElem? HX.out)
      rw [hp] at this
      exact this rfl)
     rw [hp] at HM
     clear hp
     go_wp2_with (go_at_call 30; refine HM.out.mono ?_; rintro e w1 ⟨rfl, hb1⟩; have HB1 := Aside0.mk hb1; clear hb1)
     go_ret
     exact ⟨by rw [HANY.out]; rfl, below_then HB.out HB1.out⟩
    | true =>
     have HPX := Aside0.mk hp
     rw [hp] at HM
     clear hp
     go_wp2_with (go_at_call 30; refine HM.out.mono ?_; rintro e w1 ⟨rfl, hb1⟩; have HB1 := Aside0.mk hb1; clear hb1)
     go_roundw
     case rel => exact ⟨i + 1, by omega, by go_num, ⟨below_then HB.out HB1.out⟩, ⟨fun j hj => by
      rcases Nat.lt_or_ge j i with h | h
      ·exact HP.out j h
      ·obtain rfl : j = i := by omega
       rw [HXX.out]
       exact HPX.out⟩⟩
     case measure => simp [intOf]; omega
   ·have HI := Aside0.mk (show ms.any (fun m => !plainM m) = false by
     rw [List.any_eq_false]
     intro x hx
     obtain ⟨j, hj, rfl⟩ := List.getElem_of_mem hx
     have := HP.out j (by omega)
     rw [rdM_get ms j hj] at this
     simp [this])
    rw [if_pos HI.out] at HC0
    by_cases h6 : (ms.length : Int) ≤ 6
    ·rw [if_pos h6] at HC0
     go_wp2_with fail
     go_ret
     exact ⟨by rw [HC0.out]; rfl, HB.out⟩
    ·rw [if_neg h6] at HC0
     go_wp2_with fail
     go_ret
     exact ⟨by rw [HC0.out]; rfl, HB.out⟩
 ·rw [show okL L = false by cases h : okL L with | true => exact absurd h hok | false => rfl] at HOK
  have HC0 := Aside0.mk (show codeMs L ms = 1 by unfold codeMs; rw [if_neg hok])
  clear hok
  go_enter Try.func38, Try.ntmps38
  go_wp2_with (go_at_call 29; refine HOK.out.mono ?_; rintro e w1 ⟨rfl, h⟩; have HB1 := Aside0.mk h; clear h)
  go_ret
  exact ⟨by rw [HC0.out]; rfl, HB1.out⟩
end Go.Proofs.Ytfgogdhhihbcjaa.Arr
namespace Go.Proofs.Ytfgogdhhihbcjaa.Arr
open Go.RowKit Go.Proofs.YtfgogdhhihbcjaaW.PrintWords Go.Proofs.YtfgogdhhihbcjaaW.PrintLast Go.Proofs.YtfgogdhhihbcjaaW.PrintMore Go.Proofs.Ytfgogdhhihbcjaa.U Go.Proofs.Ytfgogdhhihbcjaa.H
set_option linter.unusedVariables false
set_option linter.unusedSimpArgs false
set_option maxHeartbeats 8000000 in
set_option maxRecDepth 100000 in
theorem specFly_calls (L : List Int) (A0 : Option Addr) (c0 : Nat) (ms : List (List Int)) (w : World) (hl : L.length = 44) (hw : Fits .i16 L) (hr : Kd.C kH w A0 ms.length ms) (hc : ms.length ≤ c0) (hs : ∀ x ∈ ms, Small8 x) (hn : ms.length ≤ 1048576) :
  Calls Try.prog 16 #[.agg (vals .i16 L), .slice A0 ms.length c0] w fun e w' => ∃ v, e = .returned (.tuple #[v, .int .i64 (flyRes L ms).2]) ∧ Kd.R (Kd.int .i64) 2 w' w.heap.size (fun _ => True) v (flyRes L ms).1 ∧ Below w.heap.size w w' := by
 have hm := Mem.start w
 have HMT := Aside0.mk (fun g W (hW : Below w.heap.size w W) (hg : W.heap[g]? = some (.cells (vals .i16 L) 31 (0, 0))) => l04Meant_calls g L A0 c0 ms W hg hl hw (Kd.C_below hr hW) hc hs hn)
 rcases codeMs_cases L ms with h0 | h0 | h0
 ·rw [h0] at HMT
  have HRES := Aside0.mk (show flyRes L ms = ((flyW L ms ms.length).2, 0) by unfold flyRes; rw [if_pos h0])
  obtain ⟨hok, hpl, h6⟩ := codeMs_ok h0
  have HOKW := Aside0.mk (flyW_ok (L := L) (ms := ms) hl (okL_bd hok hl) hpl)
  have HPL := Aside0.mk hpl
  have HR := Aside0.mk hr
  clear hr hs hw hok hpl h0
  go_enter Try.func16, Try.ntmps16
  go_wp2_with (first
   | ((with_reducible refine gt_box 2 31 ?_); refine st_box rfl 2 rfl 31 _ rfl hm (v := .agg (vals _ _)) rfl (cs := vals _ _) rfl ?_; clear hm; intro g2 w1 hm; have HGE := Aside0.mk (show w.heap.size ≤ g2 from (hm.ent _ (List.mem_cons_self ..)).2 rfl); have HB1 := Aside0.mk (hm.done rfl); have HG1 := Aside0.mk (hm.mem (n := 0) rfl); clear hm)
   | (go_at_call 38; refine (HMT.out _ _ HB1.out HG1.out).mono ?_; rintro e w2 ⟨rfl, h⟩; have HB2 := Aside0.mk (below_then HB1.out h); have HG2 := Aside0.mk ((h.block _ (lt_of_some HG1.out)).trans HG1.out); clear h)
   | ((with_reducible refine gate_dst (N := 16) rfl ?_); refine Kd.R_lit (Kd.int .i64) (w0 := w) w.heap.size 2 ?hg (N := 16) ?hd (xs := []) (inner := []) (ok := fun k => k ≠ g2) (okp := fun k => k ≠ g2) ?hr ?hp (fun _ hk => hk) (show _ ≠ g2 by have := lt_of_some HG2.out; omega) HB2.out HB2.out.size (by simp) ?_; (case hd => rfl); (case hg => rfl); (case hr => first | (go_simp; done) | (go_simp; rfl)); (case hp => exact (Reps.none _ _)); intro v16 w3 ho hb hgr _; have HOB := Aside0.mk (OB.mk hb HGE.out ((hgr.block _ (lt_of_some HG2.out) (by simp)).trans HG2.out) ho); clear ho hb hgr))
  go_loopw [8, 7] (fun v8 v7 wr => ∃ i : Nat, i ≤ ms.length ∧ v8 = .int .i64 i ∧ Aside0 (OB w g2 (vals .i16 (flyW L ms i).1) 31 v7 (flyW L ms i).2 wr)) (fun v8 _ _ => ms.length - (intOf v8).toNat)
  case atStart => exact ⟨0, by omega, rfl, HOB⟩
  case round =>
   clear HOB HG2 HB2 HG1 HB1
   obtain ⟨i, hi, rfl, HO⟩ := hrel
   obtain ⟨A7, c7, rfl⟩ := Kd.R_slice HO.out.own
   by_cases hlt : i < ms.length
   ·have hx2 := rdM_get ms i hlt
    obtain ⟨ad, A1, c1, rfl, hcell, hl1, hC1⟩ := at_L1 (Kd.C_below HR.out HO.out.bel) (i : Int) (by omega) (by omega)
    rw [Int.toNat_natCast] at hcell
    have hok := HOKW.out i hi
    have hpx : plainM (rd_L1 ms (i : Int)) = true := by rw [hx2]; exact HPL.out _ (List.getElem_mem hlt)
    obtain ⟨hpn, _, hp8⟩ := plainM_N hpx
    have HGD := Aside0.mk (allW_good (m := rd_L1 ms (i : Int)) hok.len hpx (fun j hj => (hok.bd j hj).1))
    have HNO := Aside0.mk (flyW_none (L := L) (ms := ms) (i := i))
    have HSO := Aside0.mk (fun x r => flyW_some (L := L) (ms := ms) (i := i) (x := x) (r := r))
    have HFW := Aside0.mk (HOKW.out (i + 1) (by omega)).few
    have hfew := hok.few
    have HAL := Aside0.mk (l04All_calls g2 (flyW L ms i).1 A1 c1 (rd_L1 ms (i : Int)) wr HO.out.box hok.len hok.bd hC1 hpn hp8)
    change Aside0 (Calls _ _ _ _ fun e w' => ∃ v, e = .returned v ∧ LS wr v (allW (flyW L ms i).1 (rd_L1 ms (i : Int))) w') at HAL
    have HL44 := Aside0.mk hok.len
    have HBD := Aside0.mk hok.bd
    have hw1 : wrap64 ((i : Int) + 1) = ((i + 1 : Nat) : Int) := by rw [w64 (by omega) (by omega)]; omega
    clear hx2 hok hpx hpn hp8 hC1
    generalize hlv : allW (flyW L ms i).1 (rd_L1 ms (i : Int)) = lv at *
    generalize rd_L1 ms (i : Int) = m at *
    generalize hF1 : (flyW L ms i).1 = H at *
    generalize hF2 : (flyW L ms i).2 = out at *
    have HF := Aside0.mk (show flyW L ms i = (H, out) by rw [← hF1, ← hF2])
    clear hF1 hF2 hlv
    cases lv with
    | nil =>
     replace HNO := Aside0.mk (HNO.out rfl)
     clear HSO HGD
     go_wp2_with (first
      | (go_at_call 31; refine HAL.out.mono ?_; rintro e w9 ⟨v9, rfl, hls⟩; obtain ⟨A9, c9, rfl⟩ := Kd.S_slice hls.own; have HO9 := Aside0.mk (HO.out.below hls.bel); clear hls))
     go_roundw
     case rel => exact ⟨i + 1, by omega, by go_num, by rw [HNO.out, HF.out]; exact HO9⟩
     case measure => simp [intOf]; omega
    | cons h r =>
     have hgh := HGD.out h (by simp)
     have HNM := Aside0.mk hgh.num
     have HGL := Aside0.mk hgh.len
     replace HSO := Aside0.mk (HSO.out h r rfl)
     clear hgh HGD HNO
     go_wp2_with (first
      | (go_at_call 31; refine HAL.out.mono ?_; rintro e w9 ⟨v9, rfl, hls⟩; obtain ⟨g9, N, c9, vh, hN, rfl, hce, hoe⟩ := hls.head; obtain ⟨Ah, ch, rfl⟩ := Kd.R_slice hoe; have HCE := Aside0.mk hce; have HH := Aside0.mk (Kd.R_mono (Kd.R_bound hoe) (fun k hk => show k ≠ g2 from HO.out.fresh hk.2.1)); have HO9 := Aside0.mk (HO.out.below hls.bel); have hn0 : ((N : Int) > 0) := (by omega); clear hce hoe hls)
      | ((with_reducible refine gt_load 28 ?_); refine Kd.event_run rfl (y_cell (by rfl) (by rfl) oneHo HCE.out) ?_)
      | (go_at_call 39; refine (l04Add_calls g2 H Ah ch h (-1) _ HO9.out.box (fun W cs hf => (Kd.R_reads' (Kd.R_step HH.out (fun k ho hlt => hf.other k hlt ho))).2.2) (Kd.R_reads' HH.out).2.1 HL44.out HNM.out (by have := HGL.out; omega) (fun i hi j hj => by have h1 := pile_neg_le HL44.out (h := h) i j hj; have h2 := HBD.out j hj; have h3 := HGL.out; omega)).mono ?_; rintro e w10 ⟨rfl, hf⟩; have HO10 := Aside0.mk (HO9.out.fr1 hf); clear hf)
      | ((with_reducible refine gate_builtin (b := .append) (xs := #[.tmp 35, .tmp 37]) rfl ?_); at_builtin; refine Kd.R_append (Kd.int .i64) (w0 := w) w.heap.size rfl (.tmp 35) (.tmp 37) 42 2 (.int .i64 0) 8 rfl Try.underlying42 infoI64O rfl (by decide) (by omega) (.slice A7 out.length c7) out (i : Int) [.int .i64 (i : Int)] (fun k => k ≠ g2) (fun _ => False) rfl rfl rfl (fun _ hk => hk.elim) (fun k hk => HO10.out.fresh hk) HO10.out.own HO10.out.bel HO10.out.bel.size (by omega) ?_; intro v7 w11 ho11 hb11 hg11 _; have HO11 := Aside0.mk (HO10.out.grown ho11 hb11 hg11); clear ho11 hb11 hg11))
     go_roundw
     case rel => exact ⟨i + 1, by omega, by go_num, by rw [HSO.out]; exact HO11⟩
     case measure => simp [intOf]; omega
   ·obtain rfl : i = ms.length := by omega
    go_wp2_with fail
    go_ret2
    exact ⟨_, by rw [HRES.out]; rfl, by rw [HRES.out]; exact Kd.R_mono HO.out.own (fun _ _ => trivial), HO.out.bel⟩
 all_goals
  rw [h0] at HMT
  have HRES := Aside0.mk (show flyRes L ms = ([], codeMs L ms) by unfold flyRes; rw [if_neg (by rw [h0]; decide)])
  rw [h0] at HRES
  clear hr hs hw h0
  go_enter Try.func16, Try.ntmps16
  go_wp2_with (first
   | ((with_reducible refine gt_box 2 31 ?_); refine st_box rfl 2 rfl 31 _ rfl hm (v := .agg (vals _ _)) rfl (cs := vals _ _) rfl ?_; clear hm; intro g2 w1 hm; have HB1 := Aside0.mk (hm.done rfl); have HG1 := Aside0.mk (hm.mem (n := 0) rfl); clear hm)
   | (go_at_call 38; refine (HMT.out _ _ HB1.out HG1.out).mono ?_; rintro e w2 ⟨rfl, h⟩; have HB2 := Aside0.mk (below_then HB1.out h); clear h)
   | ((with_reducible refine gate_dst (N := 14) rfl ?_); refine Kd.R_lit (Kd.int .i64) (w0 := w) w.heap.size 2 ?hg (N := 14) ?hd (xs := []) (inner := []) (ok := fun _ => True) (okp := fun _ => True) ?hr ?hp (fun _ hk => hk) trivial HB2.out HB2.out.size (by simp) ?_; (case hd => rfl); (case hg => rfl); (case hr => first | (go_simp; done) | (go_simp; rfl)); (case hp => exact (Reps.none _ _)); intro v14 w3 ho hb _ _; have HE := Aside0.mk (And.intro ho hb); clear ho hb))
  go_ret2
  exact ⟨_, by rw [HRES.out]; rfl, by rw [HRES.out]; exact HE.out.1, HE.out.2⟩
end Go.Proofs.Ytfgogdhhihbcjaa.Arr
namespace Go.Proofs.Ytfgogdhhihbcjaa.Arr
open Go.RowKit Go.Proofs.YtfgogdhhihbcjaaW.PrintWords Go.Proofs.YtfgogdhhihbcjaaW.PrintLast Go.Proofs.YtfgogdhhihbcjaaW.PrintMore Go.Proofs.Ytfgogdhhihbcjaa.U Go.Proofs.Ytfgogdhhihbcjaa.H
set_option linter.unusedVariables false
set_option linter.unusedSimpArgs false
section
variable {P : Program} {o : Oper} {a : Act} {w : World}
theorem y_storeRowO {ty : TypeId} {x y : Operand} (ho : o.op = .store ty x y) {g : Nat} {cs old : Array Value} {t : TypeId} (hx : a.eval x = .pointer (some ⟨g, 0, none⟩)) (hy : a.eval y = .agg cs) (hb : w.heap[g]? = some (.cells old t (0, 0)))
  (hi : (P.info? ty).map (·.size) = some cs.size) (hold : old.size = cs.size) (h1 : cs.all (·.oneCell') = true) : (execOp a.eval o).run P w = .ok .skip (w.setRow g cs) := by
 have h := run_storeVar_row (P := P) w g t ty old cs hb hi hold h1
 unfold execOp
 simp only [ho, hx, hy, Instr.storeAt, Instr.sureAddr, Sem.run_bind, Sem.run_pure, Result.andThen_ok, h]
end
theorem oneI64O : OneTy Try.prog 2 := ⟨by kernel_rfl, by kernel_rfl⟩
theorem zeroI64O : ZeroTy Try.prog 2 (vals .i64 [0]) := ⟨.int .i64 0, by kernel_rfl, rfl⟩
theorem row1I {w : World} {g : Nat} {z : Int} (h : w.heap[g]? = some (.cells (vals .i64 [z]) 2 (0, 0))) : ReadsRow (fun (x : Int) cs => cs = [Value.int .i64 x]) 1 w (some ⟨g, 0, none⟩) 1 [z] := by
 refine ⟨rfl, by omega, fun _ => ⟨_, rfl, fun j y hj => ?_⟩⟩
 have hj0 : j = 0 := by
  have := (List.getElem?_eq_some_iff.1 hj).1
  simp at this; omega
 subst hj0
 cases hj
 refine ⟨_, rfl, rfl, fun i u hu => ?_⟩
 rcases i with _ | i
 ·cases hu
  exact cell1 h
 ·simp at hu
theorem aggPc : AggTy Try.prog 71 44 := ⟨by kernel_rfl, by kernel_rfl⟩
theorem OB.store {w W : World} {g : Nat} {cs cs2 : Array Value} {t : TypeId} {v : Value} {out : List Int} (h : OB w g cs t v out W) : OB w g cs2 t v out (W.setRow g cs2) :=
 ⟨Go.below_setRow h.bel h.ge _, h.ge, setRow_heap _ _ _ _ _ _ h.box, Kd.R_step h.own (fun k hk _ => setRow_other _ g k _ hk)⟩
theorem OB.drew {w W : World} {g : Nat} {cs : Array Value} {t : TypeId} {v : Value} {out : List Int} (h : OB w g cs t v out W) : OB w g cs t v out W.drew := h.below (below_drew (Below.refl _ _))
structure BX (w : World) (g : Nat) (cs : Array Value) (t : TypeId) (W : World) : Prop where
 bel : Below w.heap.size w W
 ge : w.heap.size ≤ g
 box : W.heap[g]? = some (.cells cs t (0, 0))
section
variable {w W W1 : World} {g : Nat} {cs : Array Value} {t : TypeId} {v : Value} {out : List Int}
theorem BX.below (h : BX w g cs t W) (hb : Below W.heap.size W W1) : BX w g cs t W1 := ⟨below_then h.bel hb, h.ge, (hb.block _ (lt_of_some h.box)).trans h.box⟩
theorem BX.grown (h : BX w g cs t W) (hb : Below w.heap.size w W1) (hg : W.grownBy W1 v.ownBlock) (hr : Kd.R (Kd.int .i64) 2 W w.heap.size (fun k => k ≠ g) v out) : BX w g cs t W1 := ⟨hb, h.ge, (hg.block _ (lt_of_some h.box) (Kd.R_away hr (fun k hk => hk))).trans h.box⟩
theorem BX.fresh (h : BX w g cs t W) {k : Nat} (hk : W.heap.size ≤ k) : k ≠ g := by
 have := lt_of_some h.box
 omega
end
set_option maxHeartbeats 8000000 in
set_option maxRecDepth 100000 in
theorem implFly_calls (L : List Int) (A0 : Option Addr) (c0 : Nat) (ms : List (List Int)) (w : World) (hl : L.length = 44) (hw : Fits .i16 L) (hr : Kd.C kH w A0 ms.length ms) (hc : ms.length ≤ c0) (hs : ∀ x ∈ ms, Small8 x) (hn : ms.length ≤ 1048576) :
  Calls Try.prog 18 #[.agg (vals .i16 L), .slice A0 ms.length c0] w fun e w' => ∃ v, e = .returned (.tuple #[v, .int .i64 (flyRes L ms).2]) ∧ Kd.R (Kd.int .i64) 2 w' w.heap.size (fun _ => True) v (flyRes L ms).1 ∧ Below w.heap.size w w' := by
 have hm := Mem.start w
 have HMT := Aside0.mk (fun W (hW : Below w.heap.size w W) => meaningCode_calls L A0 c0 ms W hl hw (Kd.C_below hr hW) hc hs hn)
 have HPC := Aside0.mk (fun W => pieces_calls L W hl hw)
 have HXL := Aside0.mk hl
 rcases codeMs_cases L ms with h0 | h0 | h0
 ·rw [h0] at HMT
  have HRES := Aside0.mk (show flyRes L ms = ((flyW L ms ms.length).2, 0) by unfold flyRes; rw [if_pos h0])
  obtain ⟨hok, hpl, h6⟩ := codeMs_ok h0
  have HOKW := Aside0.mk (flyW_ok (L := L) (ms := ms) hl (okL_bd hok hl) hpl)
  have HPL := Aside0.mk hpl
  have HR := Aside0.mk hr
  clear hr hs hw hok hpl h0 hl
  go_enter Try.func18, Try.ntmps18
  go_wp2_with (first
   | ((with_reducible refine gt_box 2 31 ?_); refine st_box rfl 2 rfl 31 _ rfl hm (v := .agg (vals _ _)) rfl (cs := vals _ _) rfl ?_; clear hm; intro g2 w1 hm; have HB1 := Aside0.mk (hm.done rfl); have HG1 := Aside0.mk (hm.mem (n := 0) rfl); clear hm)
   | ((with_reducible refine gt_load 31 ?_); refine Kd.event_run rfl (y_rowA (by rfl) (by rfl) HG2.out aggLk (by rw [vals_size]; exact HXL.out)) ?_)
   | ((with_reducible refine gt_load 31 ?_); refine Kd.event_run rfl (y_rowA (by rfl) (by rfl) HG1.out aggLk (by rw [vals_size]; exact HXL.out)) ?_)
   | (go_at_call 34; refine (HMT.out _ HB1.out).mono ?_; rintro e w2 ⟨rfl, h⟩; have HB2 := Aside0.mk (below_then HB1.out h); have HG2 := Aside0.mk ((h.block _ (lt_of_some HG1.out)).trans HG1.out); clear h)
   | (go_at_call 36; refine (HPC.out _).mono ?_; rintro e w3 ⟨rfl, h⟩; have HB3 := Aside0.mk (below_then HB2.out h); clear h)
   | ((with_reducible refine gate_dst (N := 21) rfl ?_); refine Kd.R_lit (Kd.int .i64) (w0 := w) w.heap.size 2 ?hg (N := 21) ?hd (xs := []) (inner := []) (ok := fun _ => True) (okp := fun _ => True) ?hr ?hp (fun _ hk => hk) trivial HB3.out HB3.out.size (by simp) ?_; (case hd => rfl); (case hg => rfl); (case hr => first | (go_simp; done) | (go_simp; rfl)); (case hp => exact (Reps.none _ _)); intro v21 w4 ho hb hgr _; have HO4 := Aside0.mk (Kd.R_bound ho); have HB4 := Aside0.mk hb; have hm4 := Mem.start w4; clear ho hb hgr)
   | ((with_reducible refine gt_alloc 7 71 ?_); refine st_alloc rfl 7 rfl 71 rfl hm4 zero71 ?_; clear hm4; intro g7 w5 hm5; have HG5 := Aside0.mk (hm5.mem (n := 0) rfl); have HGE := Aside0.mk (hm5.own_ge 0 rfl); have HB5 := Aside0.mk (hm5.done rfl); clear hm5)
   | ((with_reducible refine gt_store 71 ?_); refine wpList_store_row rfl 71 _ _ rfl g7 (vals .i64 L) rfl rfl _ _ HG5.out (by rw [vals_size, HXL.out]; exact aggPc.2) (by rw [vals_size, vals_size, HXL.out, zs_length]) vals_one ?_))
  have HOB : Aside0 (OB w g7 (vals .i64 L) 71 v21 [] (w5.setRow g7 (vals .i64 L))) := ⟨OB.store (cs := vals .i64 (zs 44)) ⟨below_then HB4.out HB5.out, Nat.le_trans HB4.out.size HGE.out, HG5.out, Kd.R_below (Kd.R_mono HO4.out (fun k hk => show k ≠ g7 by have := hk.2.2.1; have := HGE.out; omega)) HB5.out⟩⟩
  go_loopw [24, 8] (fun v24 v8 wr => ∃ i : Nat, i ≤ ms.length ∧ v24 = .int .i64 i ∧ Aside0 (OB w g7 (vals .i64 (flyW L ms i).1) 71 v8 (flyW L ms i).2 wr)) (fun v24 _ _ => ms.length - (intOf v24).toNat)
  case atStart => exact ⟨0, by omega, rfl, HOB⟩
  case round =>
   clear HOB HG5 HGE HB5 HB4 HO4 HG2 HB3 HB2 HG1 HB1
   obtain ⟨i, hi, rfl, HO⟩ := hrel
   obtain ⟨A8, c8, rfl⟩ := Kd.R_slice HO.out.own
   by_cases hlt : i < ms.length
   ·have hx2 := rdM_get ms i hlt
    obtain ⟨ad, A1, c1, rfl, hcell, hl1, hC1⟩ := at_L1 (Kd.C_below HR.out HO.out.bel) (i : Int) (by omega) (by omega)
    rw [Int.toNat_natCast] at hcell
    have hok := HOKW.out i hi
    have hpx : plainM (rd_L1 ms (i : Int)) = true := by rw [hx2]; exact HPL.out _ (List.getElem_mem hlt)
    obtain ⟨hpn, _, hp8⟩ := plainM_N hpx
    have HGD := Aside0.mk (allW_good (m := rd_L1 ms (i : Int)) hok.len hpx (fun j hj => (hok.bd j hj).1))
    have HNO := Aside0.mk (flyW_none (L := L) (ms := ms) (i := i))
    have HSO := Aside0.mk (fun x r => flyW_some (L := L) (ms := ms) (i := i) (x := x) (r := r))
    have hfew := hok.few
    have HAL := Aside0.mk (first_calls A1 c1 (rd_L1 ms (i : Int)) (flyW L ms i).1 wr hC1 hl1 hpn (by omega) hok.len (fun j hj => by have := hok.bd j hj; omega))
    change Aside0 (Calls _ _ _ _ fun e w' => ∃ (v : Value) (b : Bool), e = .returned (.tuple #[v, .bool b]) ∧ FirstRes wr.heap.size (allW (flyW L ms i).1 (rd_L1 ms (i : Int))).head? v b w' ∧ Below wr.heap.size wr w') at HAL
    have HL44 := Aside0.mk hok.len
    have HBD := Aside0.mk hok.bd
    have hw1 : wrap64 ((i : Int) + 1) = ((i + 1 : Nat) : Int) := by rw [w64 (by omega) (by omega)]; omega
    clear hx2 hok hpx hpn hp8 hC1
    generalize hlv : allW (flyW L ms i).1 (rd_L1 ms (i : Int)) = lv at *
    generalize rd_L1 ms (i : Int) = m at *
    generalize hF1 : (flyW L ms i).1 = H at *
    generalize hF2 : (flyW L ms i).2 = out at *
    have HF := Aside0.mk (show flyW L ms i = (H, out) by rw [← hF1, ← hF2])
    clear hF1 hF2 hlv
    cases lv with
    | nil =>
     replace HNO := Aside0.mk (HNO.out rfl)
     clear HSO HGD
     go_wp2_with (first
      | ((with_reducible refine gt_load 71 ?_); refine Kd.event_run rfl (y_rowA (by rfl) (by rfl) HO.out.box aggPc (by rw [vals_size]; exact HL44.out)) ?_)
      | (go_at_call 35; refine HAL.out.mono ?_; rintro e w9 ⟨v9, b9, rfl, hf, h⟩; obtain ⟨rfl, rfl⟩ := FirstRes.nil_ hf; clear hf; have HO9 := Aside0.mk (HO.out.below h); clear h))
     go_roundw
     case rel => exact ⟨i + 1, by omega, by go_num, by rw [HNO.out, HF.out]; exact HO9⟩
     case measure => simp [intOf]; omega
    | cons h r =>
     have hgh := HGD.out h (by simp)
     have HNM := Aside0.mk hgh.num
     have HGL := Aside0.mk hgh.len
     replace HSO := Aside0.mk (HSO.out h r rfl)
     have HLS := Aside0.mk (less_pile HL44.out HBD.out HGL.out)
     clear hgh HGD HNO
     go_wp2_with (first
      | ((with_reducible refine gt_load 71 ?_); refine Kd.event_run rfl (y_rowA (by rfl) (by rfl) HO.out.box aggPc (by rw [vals_size]; exact HL44.out)) ?_)
      | (go_at_call 35; refine HAL.out.mono ?_; rintro e w9 ⟨v9, b9, rfl, hf, h9⟩; obtain ⟨rfl, ho⟩ := FirstRes.some_ hf; obtain ⟨Ah, ch, rfl⟩ := Kd.R_slice ho; have HH := Aside0.mk ho; clear hf ho; have HO9 := Aside0.mk (HO.out.below h9); clear h9))
     have HRO := Aside0.mk HO9.out.own
     have HROD := Aside0.mk (Kd.R_below HRO.out (below_drew (Below.refl _ _)))
     have HHH := Aside0.mk (Kd.R_below HH.out (below_drew (Below.refl _ _)))
     have HX9 : Aside0 (BX w g7 (vals .i64 H) 71 w9) := ⟨HO9.out.bel, HO9.out.ge, HO9.out.box⟩
     refine start_ (n := 10) (S := fun w' => BX w g7 (vals .i64 H) 71 w') (ds := [8]) #[false, false, false, false, false, false, false, false, false, false] (by kernel_rfl) rfl rfl (HX9.out.below (below_drew (Below.refl _ _))) (fun hHeld => ?_)
     refine pure_ (i := 1) (N := some 37) (v := ?_) (a' := ?_) #[false, true, false, false, false, false, false, false, false, false] rfl rfl (by kernel_rfl) (fun _ _ _ h => h) (Or.inl ⟨by rfl, ?_⟩) ?_ ?_
     rotate_left
     ·intro w'
      go_simp
      with_reducible rfl
     rotate_left
     ·simp only [Act.put, List.setIfInBounds_toArray, List.set_cons_zero, List.set_cons_succ, i64_w, i32_w]
      rfl
     refine pure_ (i := 4) (N := some 40) (v := ?_) (a' := ?_) #[false, true, false, false, true, false, false, false, false, false] rfl rfl (by kernel_rfl) (fun _ _ _ h => h) (Or.inl ⟨by rfl, ?_⟩) ?_ ?_
     rotate_left
     ·intro w'
      go_simp
      with_reducible rfl
     rotate_left
     ·simp only [Act.put, List.setIfInBounds_toArray, List.set_cons_zero, List.set_cons_succ, i64_w, i32_w]
      rfl
     refine pure_ (i := 5) (N := some 41) (v := ?_) (a' := ?_) #[false, true, false, false, true, true, false, false, false, false] rfl rfl (by kernel_rfl) (fun _ _ _ h => h) (Or.inl ⟨by rfl, ?_⟩) ?_ ?_
     rotate_left
     ·intro w'
      go_simp
      with_reducible rfl
     rotate_left
     ·simp only [Act.put, List.setIfInBounds_toArray, List.set_cons_zero, List.set_cons_succ, i64_w, i32_w]
      rfl
     refine take_ (i := 0) (N := some 36) (v := .agg (vals .i64 H)) (a' := ?_) #[true, true, false, false, true, true, false, false, false, false] rfl rfl (by kernel_rfl) (fun _ _ _ h => h) (Or.inl ⟨by rfl, ?_⟩) hHeld ?_ ?_
     ·intro w' s0
      exact y_rowA (by rfl) (by rfl) s0.box aggPc (by rw [vals_size]; exact HL44.out)
     rotate_left
     ·simp only [Act.put, List.setIfInBounds_toArray, List.set_cons_zero, List.set_cons_succ, i64_w, i32_w]
      rfl
     refine join_ (σ := Nat) 3 #[true, true, true, true, true, true, true, false, false, false] (fun gb => [(38, .agg (vals .i64 (pile (zs 44) h 1 h.length))), (39, .agg (vals .i64 (pile H h (-1) h.length))), (42, .slice (some ⟨gb, 0, none⟩) 1 1)]) (fun gb w' => BX w g7 (vals .i64 H) 71 w' ∧ Kd.R (Kd.int .i64) 2 w' w.heap.size (fun k => k ≠ g7) (.slice A8 out.length c8) out ∧ w'.heap[gb]? = some (.cells (vals .i64 [(i : Int)]) 2 (0, 0))) ?_ ?_
     rotate_left
     ·intro hJ
      refine two_ (i := 2) (j := 6) (Ni := some 38) (Nj := some 42) #[true, true, true, false, true, true, false, false, false, false] #[true, true, false, false, true, true, true, false, false, false] rfl rfl rfl rfl (by kernel_rfl) (by decide) (by decide) (fun K hK => ?_) (fun K hK => ?_)
      ·skip
       refine goes_ Try.func41 (by kernel_rfl) rfl #[.slice Ah h.length ch] (by rfl) rfl rfl (by simp only [List.map_toArray, List.map_cons, List.map_nil]; rfl) ?_
       refine (hoistPieces_calls Ah ch h _ (Kd.R_reads' HHH.out).2.2 (Kd.R_reads' HHH.out).2.1 HNM.out (by have := HGL.out; omega)).mono ?_
       rintro e w38 ⟨rfl, hb⟩
       replace HROD := Aside0.mk (Kd.R_below HROD.out hb)
       (try replace HGB := Aside0.mk ((hb.block _ (lt_of_some HGB.out)).trans HGB.out))
       refine ⟨_, rfl, ?_⟩
       refine hK.out _ _ (hHeld.below hb) (fun hHeld => ?_)
       clear hK K
       refine norm_ (a' := ?_) ?_ ?_
       rotate_left
       ·show Act.put _ (some 38) _ = _
        simp only [Act.put, List.setIfInBounds_toArray, List.set_cons_zero, List.set_cons_succ, i64_w, i32_w]
        rfl
       refine two_ (i := 3) (j := 6) (Ni := some 39) (Nj := some 42) #[true, true, true, true, true, true, false, false, false, false] #[true, true, true, false, true, true, true, false, false, false] rfl rfl rfl rfl (by kernel_rfl) (by decide) (by decide) (fun K hK => ?_) (fun K hK => ?_)
       ·skip
        refine goes_ Try.func40 (by kernel_rfl) rfl #[.agg (vals .i64 H), .agg (vals .i64 (pile (zs 44) h 1 h.length))] (by rfl) rfl rfl (by simp only [List.map_toArray, List.map_cons, List.map_nil]; rfl) ?_
        refine (less_calls H _ _ HL44.out (by rw [pile_length, zs_length])).mono ?_
        rw [HLS.out]
        rintro e w39 ⟨rfl, hb⟩
        replace HROD := Aside0.mk (Kd.R_below HROD.out hb)
        (try replace HGB := Aside0.mk ((hb.block _ (lt_of_some HGB.out)).trans HGB.out))
        refine ⟨_, rfl, ?_⟩
        refine hK.out _ _ (hHeld.below hb) (fun hHeld => ?_)
        clear hK K
        refine norm_ (a' := ?_) ?_ ?_
        rotate_left
        ·show Act.put _ (some 39) _ = _
         simp only [Act.put, List.setIfInBounds_toArray, List.set_cons_zero, List.set_cons_succ, i64_w, i32_w]
         rfl
        refine one_ (i := 6) (N := some 42) #[true, true, true, true, true, true, true, false, false, false] rfl rfl (by kernel_rfl) (by decide) (fun K hK => ?_)
        refine s_lit2 (z := (i : Int)) (by rfl) rfl rfl rfl Try.underlying42 oneI64O zeroI64O ?_
        intro gb wg hgb hge hfb
        have HGB := Aside0.mk hgb
        replace HROD := Aside0.mk (Kd.R_below HROD.out hfb.to_below)
        (try replace HHH := Aside0.mk (Kd.R_below HHH.out hfb.to_below))
        clear hgb hge
        refine hK.out _ _ (hHeld.below hfb.to_below) (fun hHeld => ?_)
        clear hK K
        refine norm_ (a' := ?_) ?_ ?_
        rotate_left
        ·show Act.put _ (some 42) _ = _
         simp only [Act.put, List.setIfInBounds_toArray, List.set_cons_zero, List.set_cons_succ, i64_w, i32_w]
         rfl
        exact norm_ (by first | (simp only [putAll, Act.put, List.setIfInBounds_toArray, List.set_cons_zero, List.set_cons_succ]; done) | (simp only [putAll, Act.put, List.setIfInBounds_toArray, List.set_cons_zero, List.set_cons_succ]; rfl)) (hJ gb _ ⟨hHeld, HROD.out, HGB.out⟩)
       ·skip
        refine s_lit2 (z := (i : Int)) (by rfl) rfl rfl rfl Try.underlying42 oneI64O zeroI64O ?_
        intro gb wg hgb hge hfb
        have HGB := Aside0.mk hgb
        replace HROD := Aside0.mk (Kd.R_below HROD.out hfb.to_below)
        (try replace HHH := Aside0.mk (Kd.R_below HHH.out hfb.to_below))
        clear hgb hge
        refine hK.out _ _ (hHeld.below hfb.to_below) (fun hHeld => ?_)
        clear hK K
        refine norm_ (a' := ?_) ?_ ?_
        rotate_left
        ·show Act.put _ (some 42) _ = _
         simp only [Act.put, List.setIfInBounds_toArray, List.set_cons_zero, List.set_cons_succ, i64_w, i32_w]
         rfl
        refine one_ (i := 3) (N := some 39) #[true, true, true, true, true, true, true, false, false, false] rfl rfl (by kernel_rfl) (by decide) (fun K hK => ?_)
        refine goes_ Try.func40 (by kernel_rfl) rfl #[.agg (vals .i64 H), .agg (vals .i64 (pile (zs 44) h 1 h.length))] (by rfl) rfl rfl (by simp only [List.map_toArray, List.map_cons, List.map_nil]; rfl) ?_
        refine (less_calls H _ _ HL44.out (by rw [pile_length, zs_length])).mono ?_
        rw [HLS.out]
        rintro e w39 ⟨rfl, hb⟩
        replace HROD := Aside0.mk (Kd.R_below HROD.out hb)
        (try replace HGB := Aside0.mk ((hb.block _ (lt_of_some HGB.out)).trans HGB.out))
        refine ⟨_, rfl, ?_⟩
        refine hK.out _ _ (hHeld.below hb) (fun hHeld => ?_)
        clear hK K
        refine norm_ (a' := ?_) ?_ ?_
        rotate_left
        ·show Act.put _ (some 39) _ = _
         simp only [Act.put, List.setIfInBounds_toArray, List.set_cons_zero, List.set_cons_succ, i64_w, i32_w]
         rfl
        exact norm_ (by first | (simp only [putAll, Act.put, List.setIfInBounds_toArray, List.set_cons_zero, List.set_cons_succ]; done) | (simp only [putAll, Act.put, List.setIfInBounds_toArray, List.set_cons_zero, List.set_cons_succ]; rfl)) (hJ gb _ ⟨hHeld, HROD.out, HGB.out⟩)
      ·skip
       refine s_lit2 (z := (i : Int)) (by rfl) rfl rfl rfl Try.underlying42 oneI64O zeroI64O ?_
       intro gb wg hgb hge hfb
       have HGB := Aside0.mk hgb
       replace HROD := Aside0.mk (Kd.R_below HROD.out hfb.to_below)
       (try replace HHH := Aside0.mk (Kd.R_below HHH.out hfb.to_below))
       clear hgb hge
       refine hK.out _ _ (hHeld.below hfb.to_below) (fun hHeld => ?_)
       clear hK K
       refine norm_ (a' := ?_) ?_ ?_
       rotate_left
       ·show Act.put _ (some 42) _ = _
        simp only [Act.put, List.setIfInBounds_toArray, List.set_cons_zero, List.set_cons_succ, i64_w, i32_w]
        rfl
       refine one_ (i := 2) (N := some 38) #[true, true, true, false, true, true, true, false, false, false] rfl rfl (by kernel_rfl) (by decide) (fun K hK => ?_)
       refine goes_ Try.func41 (by kernel_rfl) rfl #[.slice Ah h.length ch] (by rfl) rfl rfl (by simp only [List.map_toArray, List.map_cons, List.map_nil]; rfl) ?_
       refine (hoistPieces_calls Ah ch h _ (Kd.R_reads' HHH.out).2.2 (Kd.R_reads' HHH.out).2.1 HNM.out (by have := HGL.out; omega)).mono ?_
       rintro e w38 ⟨rfl, hb⟩
       replace HROD := Aside0.mk (Kd.R_below HROD.out hb)
       (try replace HGB := Aside0.mk ((hb.block _ (lt_of_some HGB.out)).trans HGB.out))
       refine ⟨_, rfl, ?_⟩
       refine hK.out _ _ (hHeld.below hb) (fun hHeld => ?_)
       clear hK K
       refine norm_ (a' := ?_) ?_ ?_
       rotate_left
       ·show Act.put _ (some 38) _ = _
        simp only [Act.put, List.setIfInBounds_toArray, List.set_cons_zero, List.set_cons_succ, i64_w, i32_w]
        rfl
       refine one_ (i := 3) (N := some 39) #[true, true, true, true, true, true, true, false, false, false] rfl rfl (by kernel_rfl) (by decide) (fun K hK => ?_)
       refine goes_ Try.func40 (by kernel_rfl) rfl #[.agg (vals .i64 H), .agg (vals .i64 (pile (zs 44) h 1 h.length))] (by rfl) rfl rfl (by simp only [List.map_toArray, List.map_cons, List.map_nil]; rfl) ?_
       refine (less_calls H _ _ HL44.out (by rw [pile_length, zs_length])).mono ?_
       rw [HLS.out]
       rintro e w39 ⟨rfl, hb⟩
       replace HROD := Aside0.mk (Kd.R_below HROD.out hb)
       (try replace HGB := Aside0.mk ((hb.block _ (lt_of_some HGB.out)).trans HGB.out))
       refine ⟨_, rfl, ?_⟩
       refine hK.out _ _ (hHeld.below hb) (fun hHeld => ?_)
       clear hK K
       refine norm_ (a' := ?_) ?_ ?_
       rotate_left
       ·show Act.put _ (some 39) _ = _
        simp only [Act.put, List.setIfInBounds_toArray, List.set_cons_zero, List.set_cons_succ, i64_w, i32_w]
        rfl
       exact norm_ (by first | (simp only [putAll, Act.put, List.setIfInBounds_toArray, List.set_cons_zero, List.set_cons_succ]; done) | (simp only [putAll, Act.put, List.setIfInBounds_toArray, List.set_cons_zero, List.set_cons_succ]; rfl)) (hJ gb _ ⟨hHeld, HROD.out, HGB.out⟩)
     rintro gb wj ⟨hHeld, hj1, hj2⟩
     have HROJ := Aside0.mk hj1
     have HGB := Aside0.mk hj2
     clear hj1 hj2
     refine norm_ (a' := ?_) ?_ ?_
     rotate_left
     ·simp only [putAll, Act.put, List.setIfInBounds_toArray, List.set_cons_zero, List.set_cons_succ]
      rfl
     refine one_ (i := 7) (N := some 43) #[true, true, true, true, true, true, true, true, false, false] rfl rfl (by kernel_rfl) (by decide) (fun K hK => ?_)
     refine Kd.R_append_rows_step (Kd.int .i64) (w0 := w) w.heap.size (by rfl) (.tmp 40) (.tmp 42) 42 2 (.int .i64 0) 8 rfl Try.underlying42 infoI64O rfl (by decide) (by omega) (.slice A8 out.length c8) out [(i : Int)] (some ⟨gb, 0, none⟩) 1 1 (fun k => k ≠ g7) (fun _ => False) rfl rfl HROJ.out (row1I HGB.out) (fun _ _ h => h) (fun _ h => h.elim) (fun k hk => hHeld.fresh hk) hHeld.bel hHeld.bel.size (by omega) ?_
     intro v8 w11 ho11 hb11 hg11 _
     have HO11 := Aside0.mk (OB.mk hb11 hHeld.ge (hHeld.grown hb11 hg11 HROJ.out).box ho11)
     clear ho11
     refine hK.out _ _ (hHeld.grown hb11 hg11 HROJ.out) (fun hHeld => ?_)
     clear hK K
     refine norm_ (a' := ?_) ?_ ?_
     rotate_left
     ·show Act.put _ (some 43) _ = _
      simp only [Act.put, List.setIfInBounds_toArray, List.set_cons_zero, List.set_cons_succ, i64_w, i32_w]
      rfl
     refine last_ (i := 8) (N := none) #[true, true, true, true, true, true, true, true, true, false] rfl rfl (by kernel_rfl) (by decide) (fun K hK => ?_)
     refine skip_ (by rfl) rfl (y_storeRowO (cs := vals .i64 (pile H h (-1) h.length)) (by rfl) (by rfl) (by rfl) HO11.out.box (by rw [vals_size, pile_length, HL44.out]; exact aggPc.2) (by rw [vals_size, vals_size, pile_length]) vals_one) ?_
     refine hK.out _ _ ?_
     clear hK K
     refine pure_ (i := 9) (N := some 8) (v := ?_) (a' := ?_) #[true, true, true, true, true, true, true, true, true, true] rfl rfl (by kernel_rfl) (fun _ _ _ h => h) (Or.inl ⟨by rfl, ?_⟩) ?_ ?_
     rotate_left
     ·intro w'
      go_simp
      with_reducible rfl
     rotate_left
     ·simp only [Act.put, List.setIfInBounds_toArray, List.set_cons_zero, List.set_cons_succ, i64_w, i32_w]
      rfl
     refine done_ (by kernel_rfl) ?_
     skip
     go_wp2_with fail
     go_roundw
     case rel => exact ⟨i + 1, by omega, by go_num, by rw [HSO.out]; exact ⟨HO11.out.store⟩⟩
     case measure => simp [intOf]; omega
   ·obtain rfl : i = ms.length := by omega
    go_wp2_with fail
    go_ret2
    exact ⟨_, by rw [HRES.out]; rfl, by rw [HRES.out]; exact Kd.R_mono HO.out.own (fun _ _ => trivial), HO.out.bel⟩
 all_goals
  rw [h0] at HMT
  have HRES := Aside0.mk (show flyRes L ms = ([], codeMs L ms) by unfold flyRes; rw [if_neg (by rw [h0]; decide)])
  rw [h0] at HRES
  clear hr hs hw h0 hl
  go_enter Try.func18, Try.ntmps18
  go_wp2_with (first
   | ((with_reducible refine gt_box 2 31 ?_); refine st_box rfl 2 rfl 31 _ rfl hm (v := .agg (vals _ _)) rfl (cs := vals _ _) rfl ?_; clear hm; intro g2 w1 hm; have HB1 := Aside0.mk (hm.done rfl); have HG1 := Aside0.mk (hm.mem (n := 0) rfl); clear hm)
   | ((with_reducible refine gt_load 31 ?_); refine Kd.event_run rfl (y_rowA (by rfl) (by rfl) HG1.out aggLk (by rw [vals_size]; exact HXL.out)) ?_)
   | (go_at_call 34; refine (HMT.out _ HB1.out).mono ?_; rintro e w2 ⟨rfl, h⟩; have HB2 := Aside0.mk (below_then HB1.out h); clear h))
  go_ret2
  exact ⟨_, by rw [HRES.out]; rfl, by rw [HRES.out]; exact Kd.R_nil _ _ _ _ _, HB2.out⟩
end Go.Proofs.Ytfgogdhhihbcjaa.Arr
namespace Go.Proofs.Ytfgogdhhihbcjaa.Arr
open Go.RowKit Go.Proofs.YtfgogdhhihbcjaaW.PrintWords Go.Proofs.YtfgogdhhihbcjaaW.PrintLast Go.Proofs.YtfgogdhhihbcjaaW.PrintMore Go.Proofs.Ytfgogdhhihbcjaa.U Go.Proofs.Ytfgogdhhihbcjaa.H
set_option linter.unusedVariables false
set_option linter.unusedSimpArgs false
abbrev RowP := World → Nat → (Nat → Prop) → Prop
structure IsRow (p : RowP) : Prop where
 mono : ∀ {W : World} {b : Nat} {ok ok' : Nat → Prop}, p W b ok → (∀ k, ok k → ok' k) → p W b ok'
 bound : ∀ {W : World} {b : Nat} {ok : Nat → Prop}, p W b ok → p W b (fun k => ok k ∧ b ≤ k ∧ k < W.heap.size)
 lower : ∀ {W : World} {b b' : Nat} {ok : Nat → Prop}, p W b ok → b' ≤ b → p W b' ok
 step : ∀ {W W1 : World} {b : Nat} {ok : Nat → Prop}, p W b ok → (∀ k, ok k → k < W.heap.size → W1.heap[k]? = W.heap[k]?) → p W1 b ok
theorem IsRow.below {p : RowP} (h : IsRow p) {W W1 : World} {b : Nat} {ok : Nat → Prop} (hp : p W b ok) (hb : Below W.heap.size W W1) : p W1 b ok := h.step hp (fun k _ hk => hb.block k hk)
abbrev PI (v : Value) (xs : List Int) : RowP := fun W b ok => Kd.R (Kd.int .i64) 2 W b ok v xs
abbrev PS (e : TypeId) (v : Value) (xs : List (List Int)) : RowP := fun W b ok => Kd.S kH e W b ok v xs
theorem isPI (v : Value) (xs : List Int) : IsRow (PI v xs) := ⟨fun h => Kd.R_mono h, fun h => Kd.R_mono (Kd.R_bound h) (fun k hk => ⟨hk.1, hk.2.1, hk.2.2.1⟩), fun h => Kd.R_lower h, fun h => Kd.R_step h⟩
theorem isPS (e : TypeId) (v : Value) (xs : List (List Int)) : IsRow (PS e v xs) := ⟨fun h => Kd.S_mono h, fun h => Kd.S_mono (Kd.S_bound h) (fun k hk => ⟨hk.1, hk.2.1, hk.2.2.1⟩), fun h => Kd.S_lower h, fun h => Kd.S_step h⟩
structure T2 (w : World) (S1 S2 g2 : Nat) (L : List Int) (ps pm : RowP) (W : World) : Prop where
 bel : Below w.heap.size w W
 n : w.heap.size ≤ S1 ∧ S1 ≤ S2 ∧ S2 ≤ W.heap.size
 g2l : g2 < S1
 box : W.heap[g2]? = some (.cells (vals .i16 L) 26 (0, 0))
 is_ : IsRow ps ∧ IsRow pm
 spec : ps W w.heap.size (fun k => k < S1)
 mean : pm W w.heap.size (fun k => S1 ≤ k ∧ k < S2)
structure T3 (w : World) (S1 S2 g2 : Nat) (L : List Int) (ps pm pi : RowP) (W : World) : Prop where
 bel : Below w.heap.size w W
 n : w.heap.size ≤ S1 ∧ S1 ≤ S2 ∧ S2 ≤ W.heap.size
 g2l : g2 < S1
 box : W.heap[g2]? = some (.cells (vals .i16 L) 26 (0, 0))
 is_ : IsRow ps ∧ IsRow pm ∧ IsRow pi
 spec : ps W w.heap.size (fun k => k < S1)
 mean : pm W w.heap.size (fun k => S1 ≤ k ∧ k < S2)
 impl : pi W w.heap.size (fun k => S2 ≤ k)
structure T1 (w : World) (S1 S2 g2 : Nat) (L : List Int) (ps pi : RowP) (W : World) : Prop where
 bel : Below w.heap.size w W
 n : w.heap.size ≤ S1 ∧ S1 ≤ S2 ∧ S2 ≤ W.heap.size
 g2l : g2 < S1
 box : W.heap[g2]? = some (.cells (vals .i16 L) 26 (0, 0))
 is_ : IsRow ps ∧ IsRow pi
 spec : ps W w.heap.size (fun k => k < S1)
 impl : pi W w.heap.size (fun k => S2 ≤ k)
section
variable {w w4 w5 W W1 : World} {S1 S2 g2 : Nat} {L : List Int} {ps pm pi : RowP}
theorem T2.mk_ (hs : IsRow ps) (hm : IsRow pm) (hb : Below w.heap.size w w4) (hg : w4.heap[g2]? = some (.cells (vals .i16 L) 26 (0, 0))) (ho : ps w4 w.heap.size (fun _ => True)) (hx : pm w5 w4.heap.size (fun _ => True)) (h : Below w4.heap.size w4 w5) : T2 w w4.heap.size w5.heap.size g2 L ps pm w5 :=
 ⟨below_then hb h, ⟨hb.size, h.size, Nat.le_refl _⟩, lt_of_some hg, (h.block _ (lt_of_some hg)).trans hg, ⟨hs, hm⟩, hs.below (hs.mono (hs.bound ho) (fun k hk => hk.2.2)) h, hm.lower (hm.mono (hm.bound hx) (fun k hk => ⟨hk.2.1, hk.2.2⟩)) hb.size⟩
theorem T2.below (h : T2 w S1 S2 g2 L ps pm W) (hb : Below W.heap.size W W1) : T2 w S1 S2 g2 L ps pm W1 :=
 ⟨below_then h.bel hb, ⟨h.n.1, h.n.2.1, Nat.le_trans h.n.2.2 hb.size⟩, h.g2l, (hb.block _ (lt_of_some h.box)).trans h.box, h.is_, h.is_.1.below h.spec hb, h.is_.2.below h.mean hb⟩
theorem T2.impl (h : T2 w S1 S2 g2 L ps pm W) (pi : RowP) (hi : IsRow pi) (ho : pi W1 W.heap.size (fun _ => True)) (hb : Below W.heap.size W W1) : T3 w S1 S2 g2 L ps pm pi W1 :=
 ⟨below_then h.bel hb, ⟨h.n.1, h.n.2.1, Nat.le_trans h.n.2.2 hb.size⟩, h.g2l, (hb.block _ (lt_of_some h.box)).trans h.box, ⟨h.is_.1, h.is_.2, hi⟩, h.is_.1.below h.spec hb, h.is_.2.below h.mean hb, hi.lower (hi.mono (hi.bound ho) (fun k hk => Nat.le_trans h.n.2.2 hk.2.1)) h.bel.size⟩
theorem T3.below (h : T3 w S1 S2 g2 L ps pm pi W) (hb : Below W.heap.size W W1) : T3 w S1 S2 g2 L ps pm pi W1 :=
 ⟨below_then h.bel hb, ⟨h.n.1, h.n.2.1, Nat.le_trans h.n.2.2 hb.size⟩, h.g2l, (hb.block _ (lt_of_some h.box)).trans h.box, h.is_, h.is_.1.below h.spec hb, h.is_.2.1.below h.mean hb, h.is_.2.2.below h.impl hb⟩
theorem T3.mark (h : T3 w S1 S2 g2 L ps pm pi W) (hb : Below w.heap.size w W1) (hk : Kept W W1 (fun k => S1 ≤ k ∧ k < S2)) : T1 w S1 S2 g2 L ps pi W1 :=
 ⟨hb, ⟨h.n.1, h.n.2.1, Nat.le_trans h.n.2.2 hk.1⟩, h.g2l, (hk.2 _ (lt_of_some h.box) (fun e => by have := h.g2l; omega)).trans h.box, ⟨h.is_.1, h.is_.2.2⟩, h.is_.1.step h.spec (fun k ho hlt => hk.2 k hlt (by omega)), h.is_.2.2.step h.impl (fun k ho hlt => hk.2 k hlt (by omega))⟩
theorem T1.below (h : T1 w S1 S2 g2 L ps pi W) (hb : Below W.heap.size W W1) : T1 w S1 S2 g2 L ps pi W1 :=
 ⟨below_then h.bel hb, ⟨h.n.1, h.n.2.1, Nat.le_trans h.n.2.2 hb.size⟩, h.g2l, (hb.block _ (lt_of_some h.box)).trans h.box, h.is_, h.is_.1.below h.spec hb, h.is_.2.below h.impl hb⟩
theorem T1.mark (h : T1 w S1 S2 g2 L ps pi W) (pj : RowP) (hj : IsRow pj) (hr : pj W1 w.heap.size (fun k => S2 ≤ k ∨ W.heap.size ≤ k)) (hb : Below w.heap.size w W1) (hk : Kept W W1 (fun k => S2 ≤ k)) : T1 w S1 S2 g2 L ps pj W1 :=
 ⟨hb, ⟨h.n.1, h.n.2.1, Nat.le_trans h.n.2.2 hk.1⟩, h.g2l, (hk.2 _ (lt_of_some h.box) (by have := h.g2l; have := h.n.2.1; omega)).trans h.box, ⟨h.is_.1, hj⟩, h.is_.1.step h.spec (fun k ho hlt => hk.2 k hlt (by have := h.n.2.1; omega)), hj.mono hr (fun k ho => by have := h.n.2.2; omega)⟩
end
theorem aggL3 : AggTy Try.prog 26 44 := ⟨by kernel_rfl, by kernel_rfl⟩
end Go.Proofs.Ytfgogdhhihbcjaa.Arr
namespace Go.Proofs.Ytfgogdhhihbcjaa.H
open Go.RowKit Go.Proofs.YtfgogdhhihbcjaaW.PrintWords Go.Proofs.YtfgogdhhihbcjaaW.PrintLast Go.Proofs.Ytfgogdhhihbcjaa.U
set_option linter.unusedVariables false
set_option linter.unusedSimpArgs false
theorem eqInt64S_l0 (l : List Int) (hn : l.length ≤ 9223372036854775806) : ∀ (d i : Nat), i + d = l.length → Ev (fun k => laws_eqInt64S.l0 k l l (i : Int)) true := by
 intro d
 induction d with
 | zero =>
  intro i hi
  refine Ev.step (f := fun _ => some true) (fun k => ?_) (cons rfl)
  simp only [laws_eqInt64S.l0]; rw [if_neg (by omega)]
 | succ d ih =>
  intro i hi
  refine Ev.step (f := fun k => laws_eqInt64S.l0 k l l ((i + 1 : Nat) : Int)) (fun k => ?_) (ih (i + 1) (by omega))
  simp only [laws_eqInt64S.l0]; rw [if_pos (by omega), if_pos (by omega), if_pos (by omega), if_pos trivial, w64 (by omega) (by omega)]; rfl
theorem eqInt64S_refl (l : List Int) (hn : l.length ≤ 9223372036854775806) : Ev (fun k => laws_eqInt64S.f k l l) true := by
 unfold laws_eqInt64S.f
 exact pos rfl (eqInt64S_l0 l hn l.length 0 (by omega))
end Go.Proofs.Ytfgogdhhihbcjaa.H
namespace Go.Proofs.Ytfgogdhhihbcjaa.H
open Go.RowKit Go.Proofs.YtfgogdhhihbcjaaW.PrintWords Go.Proofs.YtfgogdhhihbcjaaW.PrintLast Go.Proofs.Ytfgogdhhihbcjaa.U
set_option linter.unusedVariables false
set_option linter.unusedSimpArgs false
def marksInt64S (n : Nat) (a : Int) : List Int := (List.range n).map fun (j : Nat) => a + (j : Int)
theorem marksInt64S_length (n : Nat) (a : Int) : (marksInt64S n a).length = n := by simp [marksInt64S]
theorem markInt64S_l0 (n : Nat) (a : Int) (ha : 0 ≤ a) (hb : a + n ≤ 9223372036854775806) : ∀ (d i : Nat) (x0 : List Int), i + d = n → x0.length = n → (∀ j, j < i → x0[j]? = (marksInt64S n a)[j]?) →
  Ev (fun k => laws_markInt64S.l0 k x0 (a + i) (i : Int)) (a + n, marksInt64S n a) := by
 intro d
 induction d with
 | zero =>
  intro i x0 hi hl hp
  obtain rfl : i = n := by omega
  refine Ev.step (f := fun _ => some (a + i, x0)) (fun k => by simp only [laws_markInt64S.l0]; rw [if_neg (by omega)]) (cons ?_)
  rw [show x0 = marksInt64S i a from List.ext_getElem? fun j => by
   rcases Nat.lt_or_ge j i with h | h
   ·exact hp j h
   ·rw [List.getElem?_eq_none (by omega), List.getElem?_eq_none (by rw [marksInt64S_length]; omega)]]
 | succ d ih =>
  intro i x0 hi hl hp
  refine Ev.step (f := fun k => laws_markInt64S.l0 k (x0.set i (a + (i : Int))) (a + ((i + 1 : Nat) : Int)) ((i + 1 : Nat) : Int)) (fun k => ?_) (ih (i + 1) _ (by omega) (by simpa using hl) ?_)
  ·simp only [laws_markInt64S.l0]; rw [if_pos (by omega), if_pos (by omega), w64 (by omega) (by omega), w64 (by omega) (by omega), show a + (i : Int) + 1 = a + ((i + 1 : Nat) : Int) by omega, show (i : Int) + 1 = ((i + 1 : Nat) : Int) by omega, Int.toNat_natCast]
  ·intro j hj
   by_cases e : j = i
   ·subst e
    rw [List.getElem?_set_self (by omega)]
    simp [marksInt64S, List.getElem?_map, List.getElem?_range (show j < n by omega)]
   ·rw [List.getElem?_set_ne (by omega)]; exact hp j (by omega)
theorem markInt64S_ev (l : List Int) (a : Int) (ha : 0 ≤ a) (hb : a + l.length ≤ 9223372036854775806) : Ev (fun k => laws_markInt64S.f k l a) (a + l.length, marksInt64S l.length a) := by
 have := markInt64S_l0 l.length a ha hb l.length 0 l (by omega) rfl (fun j hj => by omega)
 simpa [laws_markInt64S.f] using this
end Go.Proofs.Ytfgogdhhihbcjaa.H
namespace Go.Proofs.Ytfgogdhhihbcjaa.H
open Go.RowKit Go.Proofs.YtfgogdhhihbcjaaW.PrintWords Go.Proofs.YtfgogdhhihbcjaaW.PrintLast Go.Proofs.Ytfgogdhhihbcjaa.U
set_option linter.unusedVariables false
set_option linter.unusedSimpArgs false
theorem heldInt64S_l0 (n : Nat) (a : Int) (ha : 0 ≤ a) (hb : a + n ≤ 9223372036854775806) : ∀ (d i : Nat), i + d = n →
  Ev (fun k => laws_heldInt64S.l0 k (marksInt64S n a) (a + i) (i : Int)) (a + n) := by
 intro d
 induction d with
 | zero =>
  intro i hi
  obtain rfl : i = n := by omega
  exact Ev.step (f := fun _ => some (a + i)) (fun k => by simp only [laws_heldInt64S.l0]; rw [marksInt64S_length, if_neg (by omega)]) (cons rfl)
 | succ d ih =>
  intro i hi
  refine Ev.step (f := fun k => laws_heldInt64S.l0 k (marksInt64S n a) (a + ((i + 1 : Nat) : Int)) ((i + 1 : Nat) : Int)) (fun k => ?_) (ih (i + 1) (by omega))
  have hr : rd (marksInt64S n a) i = a + (i : Int) := by
   rw [rd_get _ i (by rw [marksInt64S_length]; omega)]
   simp [marksInt64S]
  simp only [laws_heldInt64S.l0]; rw [marksInt64S_length, if_pos (by omega), if_pos (by omega), if_pos hr, w64 (by omega) (by omega), w64 (by omega) (by omega), show a + (i : Int) + 1 = a + ((i + 1 : Nat) : Int) by omega]; rfl
theorem heldInt64S_ev (n : Nat) (a : Int) (ha : 0 ≤ a) (hb : a + n ≤ 9223372036854775806) : Ev (fun k => laws_heldInt64S.f k (marksInt64S n a) a) (a + n) := by
 have := heldInt64S_l0 n a ha hb n 0 (by omega)
 simpa [laws_heldInt64S.f] using this
end Go.Proofs.Ytfgogdhhihbcjaa.H
namespace Go.Proofs.Ytfgogdhhihbcjaa.Arr
open Go.RowKit Go.Proofs.YtfgogdhhihbcjaaW.PrintWords Go.Proofs.YtfgogdhhihbcjaaW.PrintLast Go.Proofs.YtfgogdhhihbcjaaW.PrintMore Go.Proofs.Ytfgogdhhihbcjaa.U Go.Proofs.Ytfgogdhhihbcjaa.H
set_option linter.unusedVariables false
set_option linter.unusedSimpArgs false
theorem flyRes_len (L : List Int) (ms : List (List Int)) : (flyRes L ms).1.length ≤ 6 := by
 unfold flyRes
 split
 ·rename_i h
  obtain ⟨hok, hpl, h6⟩ := codeMs_ok h
  by_cases hl : L.length = 44
  ·have := (flyW_ok (L := L) (ms := ms) hl (okL_bd hok hl) hpl ms.length (Nat.le_refl _)).few
   dsimp only
   omega
  ·have key : ∀ i, (flyW L ms i).2.length ≤ i := by
    intro i
    induction i with
    | zero => simp [flyW]
    | succ i ih =>
     rw [flyW]
     split
     ·omega
     ·simp
      omega
   have := key ms.length
   dsimp only
   omega
 ·simp
theorem eqI_calls (A1 : Option Addr) (c1 : Nat) (A2 : Option Addr) (c2 : Nat) (xs : List Int) (b1 b2 : Nat) (ok1 ok2 : Nat → Prop) (w : World) (h1 : PI (.slice A1 xs.length c1) xs w b1 ok1) (h2 : PI (.slice A2 xs.length c2) xs w b2 ok2) (hn : xs.length ≤ 6) :
  Calls Try.prog 19 #[.slice A1 xs.length c1, .slice A2 xs.length c2] w fun e w' => e = .returned (.bool true) ∧ Below w.heap.size w w' := by
 obtain ⟨k, hk⟩ := (eqInt64S_refl xs (by omega)).rounds
 refine (laws_eqInt64S.calls k A1 c1 xs A2 c2 xs true w (Kd.R_reads' h1).2.2 (Kd.R_reads' h1).2.1 (Kd.R_reads' h2).2.2 (Kd.R_reads' h2).2.1 hk).mono ?_
 rintro e w' ⟨rfl, h⟩
 exact ⟨rfl, h.below⟩
theorem heldI_calls (A : Option Addr) (c n : Nat) (b : Nat) (ok : Nat → Prop) (w : World) (h : PI (.slice A n c) (marksInt64S n 1) w b ok) (hn : n ≤ 6) :
  Calls Try.prog 23 #[.slice A n c, .int .i64 1] w fun e w' => e = .returned (.int .i64 (1 + (n : Int))) ∧ Below w.heap.size w w' := by
 obtain ⟨k, hk⟩ := (heldInt64S_ev n 1 (by omega) (by omega)).rounds
 have := laws_heldInt64S.calls k A c (marksInt64S n 1) 1 _ w (Kd.R_reads' h).2.2 (by rw [marksInt64S_length]; exact (Kd.R_reads' h).2.1) hk
 rw [marksInt64S_length] at this
 refine this.mono ?_
 rintro e w' ⟨rfl, h⟩
 exact ⟨rfl, h.below⟩
set_option maxHeartbeats 8000000 in
set_option maxRecDepth 100000 in
theorem law_FnExactFlyInTurn (w : World) (L : List Int) (hl : L.length = 44) (hw : ∀ z ∈ L, (Lit.int .i16 z).wf = true) (A : Option Addr) (c : Nat) (ms : List (List Int)) (hr : Kd.C kH w A ms.length ms) (hc : ms.length ≤ c) (wf : WfL (WfL (WfI .i8)) ms) :
  Calls Try.prog 4 #[.agg (vals .i16 L), .slice A ms.length c] w fun e w' => e = .returned (.bool true) ∧ Below w.heap.size w w' := by
 have hm := Mem.start w
 obtain ⟨r, hG, h0⟩ := guardMeaningS ms wf
 have HR := Aside0.mk hr
 have HGU := Aside0.mk (fun W (hW : Below w.heap.size w W) => hG A c W (Kd.C_below hr hW) hc)
 clear hG
 by_cases hneg : r < 0
 ·clear hr wf hw
  go_enter Try.func4, Try.ntmps4
  go_wp2_with (first
   | (go_at_call 15; refine (HGU.out _ HB1.out).mono ?_; rintro e w2 ⟨rfl, h⟩; have HB2 := Aside0.mk (below_then HB1.out h); clear h)
   | ((with_reducible refine gt_box 2 26 ?_); refine st_box rfl 2 rfl 26 _ rfl hm (v := .agg (vals _ _)) rfl (cs := vals _ _) rfl ?_; clear hm; intro g2 w1 hm; have HB1 := Aside0.mk (hm.done rfl); clear hm))
  go_ret
  exact ⟨rfl, HB2.out⟩
 ·obtain ⟨hn, hls, hs⟩ := h0 (by omega)
  have HTM := Aside0.mk (fun W (hW : Below w.heap.size w W) => toMeaningS_calls A c ms W (Kd.C_below hr hW) hc hn hls)
  have HTL := Aside0.mk (fun W => toLocker_calls L W hl)
  have HSP := Aside0.mk (fun W A1 c1 b ok (h : PS 33 (.slice A1 ms.length c1) ms W b ok) => specFly_calls L A1 c1 ms W hl hw (Kd.S_reads' h).2.2 (Kd.S_reads' h).2.1 hs hn)
  have HIM := Aside0.mk (fun W A1 c1 b ok (h : PS 33 (.slice A1 ms.length c1) ms W b ok) => implFly_calls L A1 c1 ms W hl hw (Kd.S_reads' h).2.2 (Kd.S_reads' h).2.1 hs hn)
  have HMM := Aside0.mk (fun A1 c1 (P : Nat → Prop) W (hB : Below w.heap.size w W) (h : PS 33 (.slice A1 ms.length c1) ms W w.heap.size P) => markMeaningS_calls A1 c1 ms P w W hB h hn hls)
  have HEM := Aside0.mk (fun A1 c1 A2 c2 b1 b2 ok1 ok2 W (h1 : PS 33 (.slice A1 ms.length c1) ms W b1 ok1) (h2 : PS 33 (.slice A2 ms.length c2) ms W b2 ok2) => eqMeaningS_calls A1 c1 A2 c2 ms b1 b2 ok1 ok2 W h1 h2 hn hls)
  have HX6 := Aside0.mk (flyRes_len L ms)
  have hof := offs_le ms hls ms.length
  obtain ⟨kh, hkh⟩ := (markInt64S_ev (flyRes L ms).1 1 (by omega) (by have := HX6.out; omega)).rounds
  have HMI := Aside0.mk (fun (P : Nat → Prop) v W (hB : Below w.heap.size w W) (h : PI v (flyRes L ms).1 W w.heap.size P) => laws_markInt64S.calls kh P v (flyRes L ms).1 1 _ _ w W hB h hkh)
  generalize (flyRes L ms).2 = q at *
  generalize (flyRes L ms).1 = xs at *
  have hmk : ¬ (1 + (offs ms ms.length : Int) < 0) := by omega
  have hmx : ¬ (1 + (xs.length : Int) < 0) := by omega
  generalize offs ms ms.length = om at *
  clear hr wf hs hkh hw hls hof h0
  go_enter Try.func4, Try.ntmps4
  go_wp2_with (first
   | (go_at_call 23; refine (heldI_calls Ag cg xs.length _ _ _ HL19.out.impl HX6.out).mono ?_; rintro e w20 ⟨rfl, h⟩; have HE := Aside0.mk (below_then HL19.out.bel h); clear h)
   | (go_at_call 19; refine (eqI_calls Ah ch Aw cw xs _ _ _ _ _ HO18.out HL18.out.spec HX6.out).mono ?_; rintro e w19 ⟨rfl, h⟩; have HL19 := Aside0.mk (HL18.out.below h); clear h)
   | (go_at_call 18; refine (HIM.out _ A17 c17 _ _ HR17.out).mono ?_; rintro e w18 ⟨v18, rfl, ho, h⟩; obtain ⟨Ah, ch, rfl⟩ := Kd.R_slice ho; have HO18 := Aside0.mk ho; have HL18 := Aside0.mk (HL17.out.below h); clear h ho)
   | (go_at_call 17; refine (HTM.out _ HL16.out.bel).mono ?_; rintro e w17 ⟨v17, rfl, ho, h⟩; obtain ⟨A17, c17, rfl⟩ := Kd.S_slice ho; have HR17 := Aside0.mk ho; have HL17 := Aside0.mk (HL16.out.below h); clear h ho)
   | (go_at_call 7; refine (HTL.out w15).mono ?_; rintro e w16 ⟨rfl, h⟩; have HL16 := Aside0.mk (HL15.out.below h); clear h)
   | ((with_reducible refine gt_load 26 ?_); refine Kd.event_run rfl (y_rowA (by rfl) (by rfl) HL15.out.box aggL3 (by rw [vals_size]; exact hl)) ?_)
   | (go_at_call 23; refine (heldI_calls Ag cg xs.length _ _ _ HL14.out.impl HX6.out).mono ?_; rintro e w15 ⟨rfl, h⟩; have HL15 := Aside0.mk (HL14.out.below h); clear h)
   | (go_at_call 22; refine (HMI.out _ _ _ HL13.out.bel HL13.out.impl).mono ?_; rintro e w14 ⟨rfl, hr, hb, hk⟩; have HL14 := Aside0.mk (HL13.out.mark (PI _ _) (isPI _ _) hr hb hk); clear hr hb hk)
   | (go_at_call 19; refine (eqI_calls Ag cg Aw cw xs _ _ _ _ _ HL12.out.impl HL12.out.spec HX6.out).mono ?_; rintro e w13 ⟨rfl, h⟩; have HL13 := Aside0.mk (HL12.out.below h); clear h)
   | (go_at_call 21; refine (HMM.out _ _ _ _ HL11.out.bel HL11.out.mean).mono ?_; rintro e w12 ⟨rfl, hr, hb, hk⟩; have HL12 := Aside0.mk (HL11.out.mark hb hk); clear hr hb hk)
   | (go_at_call 20; refine (HEM.out Am cm A10 c10 _ _ _ _ _ HL10.out.mean HR10.out).mono ?_; rintro e w11 ⟨rfl, h⟩; have HL11 := Aside0.mk (HL10.out.below h); clear h)
   | (go_at_call 17; refine (HTM.out _ HL9.out.bel).mono ?_; rintro e w10 ⟨v10, rfl, ho, h⟩; obtain ⟨A10, c10, rfl⟩ := Kd.S_slice ho; have HR10 := Aside0.mk ho; have HL10 := Aside0.mk (HL9.out.below h); clear h ho)
   | (go_at_call 19; refine (eqI_calls Ag cg Aw cw xs _ _ _ _ _ HL8.out.impl HL8.out.spec HX6.out).mono ?_; rintro e w9 ⟨rfl, h⟩; have HL9 := Aside0.mk (HL8.out.below h); clear h)
   | (go_at_call 18; refine (HIM.out _ Am cm _ _ HG7.out.mean).mono ?_; rintro e w8 ⟨v8, rfl, ho, h⟩; obtain ⟨Ag, cg, rfl⟩ := Kd.R_slice ho; have HL8 := Aside0.mk (HG7.out.impl (PI _ _) (isPI _ _) ho h); clear h ho)
   | (go_at_call 7; refine (HTL.out w6).mono ?_; rintro e w7 ⟨rfl, h⟩; have HG7 := Aside0.mk (HG6.out.below h); clear h)
   | ((with_reducible refine gt_load 26 ?_); refine Kd.event_run rfl (y_rowA (by rfl) (by rfl) HG6.out.box aggL3 (by rw [vals_size]; exact hl)) ?_)
   | (go_at_call 17; refine (HTM.out _ HB5.out).mono ?_; rintro e w6 ⟨v6, rfl, ho, h⟩; obtain ⟨Am, cm, rfl⟩ := Kd.S_slice ho; have HG6 := Aside0.mk (T2.mk_ (ps := PI (.slice Aw xs.length cw) xs) (pm := PS 33 (.slice Am ms.length cm) ms) (isPI _ _) (isPS _ _ _) HB5.out HG5.out HO5.out ho h); clear h ho)
   | (go_at_call 16; refine (HSP.out _ A4 c4 _ _ HR4.out).mono ?_; rintro e w5 ⟨v5, rfl, ho, h⟩; obtain ⟨Aw, cw, rfl⟩ := Kd.R_slice ho; have HO5 := Aside0.mk (Kd.R_lower ho HB4.out.size); have HB5 := Aside0.mk (below_then HB4.out h); have HG5 := Aside0.mk ((h.block _ (lt_of_some HG4.out)).trans HG4.out); clear h ho)
   | (go_at_call 17; refine (HTM.out _ HB3.out).mono ?_; rintro e w4 ⟨v4, rfl, ho, h⟩; obtain ⟨A4, c4, rfl⟩ := Kd.S_slice ho; have HR4 := Aside0.mk ho; have HB4 := Aside0.mk (below_then HB3.out h); have HG4 := Aside0.mk ((h.block _ (lt_of_some HG3.out)).trans HG3.out); clear h ho)
   | (go_at_call 7; refine (HTL.out w2).mono ?_; rintro e w3 ⟨rfl, h⟩; have HB3 := Aside0.mk (below_then HB2.out h); have HG3 := Aside0.mk ((h.block _ (lt_of_some HG2.out)).trans HG2.out); clear h)
   | ((with_reducible refine gt_load 26 ?_); refine Kd.event_run rfl (y_rowA (by rfl) (by rfl) HG2.out aggL3 (by rw [vals_size]; exact hl)) ?_)
   | (go_at_call 15; refine (HGU.out _ HB1.out).mono ?_; rintro e w2 ⟨rfl, h⟩; have HB2 := Aside0.mk (below_then HB1.out h); have HG2 := Aside0.mk ((h.block _ (lt_of_some HG1.out)).trans HG1.out); clear h)
   | ((with_reducible refine gt_box 2 26 ?_); refine st_box rfl 2 rfl 26 _ rfl hm (v := .agg (vals _ _)) rfl (cs := vals _ _) rfl ?_; clear hm; intro g2 w1 hm; have HB1 := Aside0.mk (hm.done rfl); have HG1 := Aside0.mk (hm.mem (n := 0) rfl); clear hm))
  go_ret
  exact ⟨rfl, HE.out⟩
end Go.Proofs.Ytfgogdhhihbcjaa.Arr
namespace Go.Proofs.Ytfgogdhhihbcjaa.Open
open Go.RowKit Go.Proofs.YtfgogdhhihbcjaaW.PrintWords Go.Proofs.Ytfgogdhhihbcjaa.U Go.Deep
set_option linter.unusedVariables false
set_option linter.unusedSimpArgs false
def Opens {α : Type} (P : Program) (t : TypeId) (d : Kd α) (wf : α → Prop) : Prop :=
 ∀ {H : Type} (enc : TypeId × Value → H) (w : World) (held : Bool) (fuel : Nat) (cs : List Value) (x : DataW H × List MemPlace),
  DataW.trod enc P w 0 (fun _ => true) held fuel t cs = some x → ∃ a, d.K w a cs ∧ wf a
section
variable {P : Program} {t : TypeId}
theorem opens_int {k : IntKind} (ht : P.underlying t = some (.int k)) : Opens P t (Kd.int k) (WfI k) := by
 intro H enc w held fuel cs x h
 obtain ⟨n, rfl, _, hw⟩ := DataW.trod_int ht h
 exact ⟨n, rfl, hw⟩
theorem list_of {α : Type} (n : Nat) (p : Nat → α → Prop) (h : ∀ i, i < n → ∃ a, p i a) : ∃ l : List α, l.length = n ∧ ∀ (i : Nat) (a : α), l[i]? = some a → p i a := by
 induction n with
 | zero => exact ⟨[], rfl, fun i a hi => by simp at hi⟩
 | succ n ih =>
  obtain ⟨l, hl, hp⟩ := ih (fun i hi => h i (by omega))
  obtain ⟨a, ha⟩ := h n (by omega)
  refine ⟨l ++ [a], by simp [hl], fun i b hb => ?_⟩
  rcases Nat.lt_or_ge i l.length with hi | hi
  ·rw [List.getElem?_append_left hi] at hb; exact hp i b hb
  ·rw [List.getElem?_append_right hi] at hb
   have : i - l.length = 0 := by
    rcases Nat.eq_zero_or_pos (i - l.length) with h0 | h0
    ·exact h0
    ·rw [List.getElem?_eq_none (by simp; omega)] at hb; cases hb
   rw [this] at hb
   simp at hb
   subst hb
   obtain rfl : i = n := by omega
   exact ha
theorem add_mul (a : Addr) (i m j : Nat) : (a.add (i * m)).add j = a.add (i * m + j) := by
 unfold Addr.add
 by_cases h1 : i * m = 0 <;> by_cases h2 : j = 0 <;> simp [h1, h2] <;> omega
theorem opens_slice {α : Type} {e : TypeId} {d : Kd α} {wf : α → Prop} (ht : P.underlying t = some (.slice e)) (hc : P.cellsOf e = d.sz) (he : Opens P e d wf) : Opens P t (Kd.slice e d) (WfL wf) := by
 intro H enc w held fuel cs x h
 rcases open_slice ht h with ⟨rfl, _⟩ | ⟨a, len, cap, m, n, D, Pl, rfl, hb, hl, hm, hmm, rfl, hx⟩
 ·exact ⟨[], ⟨none, 0, rfl, Nat.le_refl _, Kd.C_nil d w⟩, by simp [WfL, maxLen]⟩
 ·simp only [if_true] at hmm
  subst hmm
  have each : ∀ i, i < len → ∃ y : α, (∃ cs', w.cells? 0 (a.add (i * P.cellsOf e)) (P.cellsOf e) = some cs' ∧ d.K w y cs') ∧ wf y := by
   intro i hi
   obtain ⟨cs', h1, h2⟩ := hx i (by omega)
   obtain ⟨y, hy, hwf⟩ := he enc w held n cs' _ h2
   exact ⟨y, ⟨cs', h1, hy⟩, hwf⟩
  obtain ⟨l, hll, hp⟩ := list_of len _ each
  refine ⟨l, ⟨some a, m, by rw [hll], by omega, ⟨rfl, by rw [hll]; unfold maxLen at hm; omega, fun _ => ⟨a, rfl, fun j y hj => ?_⟩⟩⟩, by rw [hll]; omega, fun y hy => ?_⟩
  ·obtain ⟨⟨cs', h1, h2⟩, _⟩ := hp j y hj
   refine ⟨cs', d.K_len h2, h2, fun i u hu => ?_⟩
   obtain ⟨_, hlen, hcell⟩ := World.cells?_some h1
   have hi : i < P.cellsOf e := by rw [← hlen]; exact (List.getElem?_eq_some_iff.1 hu).1
   have := hcell i hi
   rw [add_mul, hc, hu] at this
   exact this
  ·obtain ⟨j, hj, rfl⟩ := List.getElem_of_mem hy
   exact (hp j _ (List.getElem?_eq_getElem hj)).2
end
end Go.Proofs.Ytfgogdhhihbcjaa.Open
namespace Go.Proofs.Ytfgogdhhihbcjaa.Arr
open Go.RowKit Go.Proofs.YtfgogdhhihbcjaaW.PrintWords Go.Proofs.Ytfgogdhhihbcjaa.U
set_option linter.unusedVariables false
set_option linter.unusedSimpArgs false
theorem list_of' {α : Type} (n : Nat) (p : Nat → α → Prop) (h : ∀ i, i < n → ∃ a, p i a) : ∃ l : List α, l.length = n ∧ ∀ (i : Nat) (a : α), l[i]? = some a → p i a := by
 induction n with
 | zero => exact ⟨[], rfl, fun i a hi => by simp at hi⟩
 | succ n ih =>
  obtain ⟨l, hl, hp⟩ := ih (fun i hi => h i (by omega))
  obtain ⟨a, ha⟩ := h n (by omega)
  refine ⟨l ++ [a], by simp [hl], fun i b hb => ?_⟩
  rcases Nat.lt_or_ge i l.length with hi | hi
  ·rw [List.getElem?_append_left hi] at hb; exact hp i b hb
  ·rw [List.getElem?_append_right hi] at hb
   have : i - l.length = 0 := by
    rcases Nat.eq_zero_or_pos (i - l.length) with h0 | h0
    ·exact h0
    ·rw [List.getElem?_eq_none (by simp; omega)] at hb; cases hb
   rw [this] at hb
   simp at hb
   subst hb
   obtain rfl : i = n := by omega
   exact ha
section
variable {H : Type} {enc : TypeId × Value → H} {P : Program} {w : World} {base : Nat} {spare : Nat → Bool} {held : Bool} {fuel : Nat} {t : TypeId} {cs : List Value} {x : DataW H × List MemPlace}
theorem opens_arr {k : IntKind} {n : Nat} {e : TypeId} (ht : P.underlying t = some (.array n e)) (he : P.underlying e = some (.int k)) (hc : P.cellsOf e = 1) (hct : P.cellsOf t = n)
  (h : DataW.trod enc P w base spare held fuel t cs = some x) : ∃ L : List Int, L.length = n ∧ cs = L.map (Value.int k) ∧ ∀ z ∈ L, (Lit.int k z).wf = true := by
 obtain ⟨xs, m, rfl, rfl, hl, hlen, hx⟩ := DataW.trod_array ht h
 rw [hct] at hl
 have each : ∀ i, i < n → ∃ z : Int, cs[i]? = some (.int k z) ∧ (Lit.int k z).wf = true := by
  intro i hi
  have hxi := hx i hi
  rw [List.getElem?_eq_getElem (by omega), hc, Nat.mul_one] at hxi
  obtain ⟨z, hz, _, hw⟩ := DataW.trod_int he hxi
  refine ⟨z, ?_, hw⟩
  rw [List.drop_eq_getElem_cons (by omega), List.take_succ_cons] at hz
  injection hz with hz _
  rw [List.getElem?_eq_getElem (by omega), hz]
 obtain ⟨L, hL, hp⟩ := list_of' n _ each
 refine ⟨L, hL, ?_, fun z hz => ?_⟩
 ·apply List.ext_getElem?
  intro j
  rcases Nat.lt_or_ge j n with hj | hj
  ·rw [(hp j _ (List.getElem?_eq_getElem (by omega))).1]
   simp [List.getElem?_eq_getElem (show j < L.length by omega)]
  ·rw [List.getElem?_eq_none (by omega), List.getElem?_eq_none (by simp; omega)]
 ·obtain ⟨j, hj, rfl⟩ := List.getElem_of_mem hz
  exact (hp j _ (List.getElem?_eq_getElem hj)).2
theorem opens_two {k : IntKind} {n0 n1 : Nat} {e0 e1 : TypeId} {f0 f1 : Field} (ht : P.underlying t = some (.struct #[f0, f1])) (ht0 : P.underlying f0.type = some (.array n0 e0)) (ht1 : P.underlying f1.type = some (.array n1 e1))
  (he0 : P.underlying e0 = some (.int k)) (he1 : P.underlying e1 = some (.int k)) (hc0 : P.cellsOf e0 = 1) (hc1 : P.cellsOf e1 = 1) (hct0 : P.cellsOf f0.type = n0) (hct1 : P.cellsOf f1.type = n1) (hct : P.cellsOf t = n0 + n1)
  (ho0 : f0.offset = 0) (ho1 : f1.offset = n0)
  (h : DataW.trod enc P w base spare held fuel t cs = some x) : ∃ L : List Int, L.length = n0 + n1 ∧ cs = L.map (Value.int k) ∧ ∀ z ∈ L, (Lit.int k z).wf = true := by
 obtain ⟨y0, y1, m, rfl, hl, h0, h1⟩ := Go.ChangeShapes.trod_struct2 ht h
 obtain ⟨L0, hl0, hc0, hw0⟩ := opens_arr ht0 he0 hc0 hct0 h0
 obtain ⟨L1, hl1, hc1, hw1⟩ := opens_arr ht1 he1 hc1 hct1 h1
 rw [ho0, hct0, List.drop_zero] at hc0
 rw [ho1, hct1, List.take_of_length_le (by simp; omega)] at hc1
 refine ⟨L0 ++ L1, by simp; omega, ?_, fun z hz => ?_⟩
 ·rw [List.map_append, ← hc0, ← hc1, List.take_append_drop]
 ·rcases List.mem_append.1 hz with hz | hz
  ·exact hw0 z hz
  ·exact hw1 z hz
theorem agg_of {k : IntKind} {v : Value} {L : List Int} {m : Nat} (hm : L.length = m + 2) (h : v.cells.toList = L.map (Value.int k)) : v = .agg (vals k L) := by
 have hsz : v.cells.toList.length = m + 2 := by rw [h]; simpa using hm
 have : ∃ cs, v = .agg cs := by
  cases v <;> first | exact ⟨_, rfl⟩ | (simp [Value.cells] at hsz)
 obtain ⟨cs, rfl⟩ := this
 have h2 : cs.toList = L.map (Value.int k) := h
 unfold vals
 rw [← h2]
end
end Go.Proofs.Ytfgogdhhihbcjaa.Arr
