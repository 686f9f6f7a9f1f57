/- The texts that the statement FnExactHoistsFrom needs, part 4: contracts of the program's functions and plain laws, without what it does not reach. No condition beyond what each theorem says. -/
import Derived.Below
import Derived.Deep.Draws
import Derived.Deep.AppendLies
import Derived.Maps.AppendAt
import Derived.OwnWalk
import Derived.Laws.BytesArg
import Derived.Laws.MakeOwn
import Derived.Laws.OwnMore
import Derived.Deep.OwnRows
import Derived.Tactics
import Derived.Lib.ConvBytes
import Derived.Laws.Slices
import Derived.WalkKit
import Derived.KernelRfl
import Derived.RowKit3
import Derived.Deep.LoopGhost
import Derived.Deep.QuietTactic
import Derived.BigQuiet
import Derived.WideLaws
import Derived.Deep.DeepCutAuto
import Derived.Deep.CutBlock
import Derived.Deep.RegionHeld3
import Derived.Laws.Rows
import Derived.Lib.AppendStr
import Derived.ArgAppend
import Derived.Laws.IdiomCopy
import Derived.RowKit
import Derived.Laws.Tables
import Derived.BigFrame
import Derived.Laws.CopyRow
import Derived.Laws.ResultCell
import Derived.OrdersHeld
import Derived.Laws.BitsLemmas
import Derived.Laws.StructEq
import Derived.Test.YtfgogdhhihbcjaaProg
import Derived.WalkSpells
import Derived.StillTailTactics
import Derived.Laws.CopyOwn
import Derived.ProofKit
import Derived.OpenShut
import Derived.Deep.Slices
import Derived.Lib.SmallJoins
import Derived.ChangeSame
import Derived.Test.YtfgogdhhihbcjaaRows
import Derived.ShutString
import Derived.ChangeOld
import Derived.SizedLaws
import Derived.Test.YtfgogdhhihbcjaaZFnExactHoistsFrom3
namespace Go.Proofs.Ytfgogdhhihbcjaa.Arr
open Go.RowKit Go.Proofs.YtfgogdhhihbcjaaW.PrintWords Go.Proofs.YtfgogdhhihbcjaaW.PrintLast Go.Proofs.YtfgogdhhihbcjaaW.PrintMore Go.Proofs.Ytfgogdhhihbcjaa.U Go.Proofs.Ytfgogdhhihbcjaa.H
set_option linter.unusedVariables false
set_option linter.unusedSimpArgs false
theorem leaves_good (m : List Int) (L : List Int) (hl : L.length = 44) (hm : ∀ x ∈ m, PlainN x) : ∀ (d : Nat) (h : List Int) (g : Int), h.length + d = m.length → (∀ x ∈ h, NumH x) → (∀ j : Nat, j < 44 → 0 ≤ rd (pile L h (-1) h.length) (j : Int)) →
  ∀ x ∈ leaves m 4 (enough L) d h g, (∀ y ∈ x, NumH y) ∧ ∀ j : Nat, j < 44 → 0 ≤ rd (pile L x (-1) x.length) (j : Int)
 | 0, h, g, hd, hn, hp, x, hx => by
  rw [leaves, List.mem_singleton] at hx
  subst hx
  exact ⟨hn, hp⟩
 | d + 1, h, g, hd, hn, hp, x, hx => by
  rw [leaves] at hx
  split at hx
  ·refine leaves_good m L hl hm d (h ++ [-10]) _ (by simp; omega) (fun y hy => ?_) (fun j hj => ?_) x hx
   ·rcases List.mem_append.1 hy with h1 | h1
    ·exact hn y h1
    ·rw [List.mem_singleton] at h1
     exact .inl h1
   ·rw [pile_snoc, bump, if_pos rfl]
    exact hp j hj
  ·rename_i hb
   obtain ⟨n, hno, hx⟩ := List.mem_flatMap.1 hx
   split at hx
   ·rename_i hk
    obtain ⟨hn10, hnn⟩ := opts_num hm (by omega) hb n hno
    refine leaves_good m L hl hm d (h ++ [n]) g (by simp; omega) (fun y hy => ?_) (fun j hj => ?_) x hx
    ·rcases List.mem_append.1 hy with h1 | h1
     ·exact hn y h1
     ·rw [List.mem_singleton] at h1
      rw [h1]
      exact hnn
    ·rw [pile_snoc, rd_bump _ _ _ j (by rw [pile_length, hl]; exact hj)]
     have h0 := hp j hj
     unfold enough at hk
     rw [decide_eq_true_eq] at hk
     split
     ·rename_i hc
      rw [hc.2] at h0 ⊢
      omega
     ·omega
   ·cases hx
abbrev allW (L m : List Int) : List (List Int) := leaves m 4 (enough L) m.length [] 0
structure GoodF (L x : List Int) : Prop where
 len : x.length ≤ 8
 num : ∀ y ∈ x, NumH y
 low : ∀ j : Nat, j < 44 → 0 ≤ rd (pile L x (-1) x.length) (j : Int)
theorem allW_good {L m : List Int} (hl : L.length = 44) (hp : plainM m = true) (hL : ∀ j : Nat, j < 44 → 0 ≤ rd L (j : Int)) : ∀ x ∈ allW L m, GoodF L x := fun x hx => by
 obtain ⟨hpn, _, h8⟩ := plainM_N hp
 have h1 := leaves_good m L hl hpn m.length [] 0 (by simp) (by simp) (by simpa [pile] using hL) x hx
 refine ⟨?_, h1.1, h1.2⟩
 rw [leaves_len m 4 (enough L) m.length [] 0 x hx]
 simpa using h8
theorem pile_neg_le {L h : List Int} (hl : L.length = 44) (i : Nat) (j : Nat) (hj : j < 44) : rd L (j : Int) - i ≤ rd (pile L h (-1) i) (j : Int) ∧ rd (pile L h (-1) i) (j : Int) ≤ rd L (j : Int) := by
 have h1 := rd_pile_neg L h j hj hl i
 have h2 := pile_small h i j hj
 omega
theorem less_pile {L h : List Int} (hl : L.length = 44) (hL : ∀ j : Nat, j < 44 → 0 ≤ rd L (j : Int) ∧ rd L (j : Int) ≤ 20000) (hh : h.length ≤ 8) : List.zipWith (fun a b => wrap64 (a - b)) L (pile (zs 44) h 1 h.length) = pile L h (-1) h.length := by
 have hz : (pile (zs 44) h 1 h.length).length = 44 := by rw [pile_length, zs_length]
 refine list_eq (zip_length _ _ _ hl hz) (by rw [pile_length, hl]) fun j hj => ?_
 rw [rd_zip _ L _ j (by omega) (by omega), rd_pile_neg L h j hj hl]
 have h1 := hL j hj
 have h2 := pile_small h h.length j hj
 rw [w64 (by omega) (by omega)]
theorem codeMs_cases (L : List Int) (ms : List (List Int)) : codeMs L ms = 0 ∨ codeMs L ms = 1 ∨ codeMs L ms = 3 := by
 unfold codeMs
 split
 ·split
  ·split
   ·exact .inl rfl
   ·exact .inr (.inr rfl)
  ·exact .inr (.inl rfl)
 ·exact .inr (.inl rfl)
theorem codeMs_ok {L : List Int} {ms : List (List Int)} (h : codeMs L ms = 0) : okL L = true ∧ (∀ m ∈ ms, plainM m = true) ∧ ms.length ≤ 6 := by
 unfold codeMs at h
 split at h
 ·rename_i h1
  split at h
  ·rename_i h2
   split at h
   ·rename_i h3
    refine ⟨h1, fun m hm => ?_, by omega⟩
    have := List.any_eq_false.1 h2 m hm
    simpa using this
   ·cases h
  ·cases h
 ·cases h
structure OB (w : World) (g : Nat) (cs : Array Value) (t : TypeId) (v : Value) (out : List Int) (W : World) : Prop where
 bel : Below w.heap.size w W
 ge : w.heap.size ≤ g
 box : W.heap[g]? = some (.cells cs t (0, 0))
 own : Kd.R (Kd.int .i64) 2 W w.heap.size (fun k => k ≠ g) v out
section
variable {w W W1 : World} {g : Nat} {cs cs2 : Array Value} {t : TypeId} {v v1 : Value} {out out1 : List Int}
theorem OB.below (h : OB w g cs t v out W) (hb : Below W.heap.size W W1) : OB w g cs t v out W1 :=
 ⟨below_then h.bel hb, h.ge, (hb.block _ (lt_of_some h.box)).trans h.box, Kd.R_below h.own hb⟩
theorem OB.fr1 (h : OB w g cs t v out W) (hf : Fr1 g cs2 t W W1) : OB w g cs2 t v out W1 :=
 ⟨⟨hf.os.trans h.bel.os, hf.tape.trans h.bel.tape, hf.output.trans h.bel.output, Nat.le_trans h.bel.size hf.size, fun k hk => (hf.other k (Nat.lt_of_lt_of_le hk h.bel.size) (by have := h.ge; omega)).trans (h.bel.block k hk)⟩, h.ge, hf.now, Kd.R_step h.own (fun k ho hlt => hf.other k hlt ho)⟩
theorem OB.grown (h : OB w g cs t v out W) (ho : Kd.R (Kd.int .i64) 2 W1 w.heap.size (fun k => k ≠ g) v1 out1) (hb : Below w.heap.size w W1) (hg : W.grownBy W1 v.ownBlock) : OB w g cs t v1 out1 W1 :=
 ⟨hb, h.ge, (hg.block _ (lt_of_some h.box) (Kd.R_away h.own (fun k hk => hk))).trans h.box, ho⟩
end
set_option maxHeartbeats 4000000 in
set_option maxRecDepth 100000 in
theorem l04Meant_calls (g : Nat) (L : List Int) (A0 : Option Addr) (c0 : Nat) (ms : List (List Int)) (w : World) (hg : w.heap[g]? = some (.cells (vals .i16 L) 31 (0, 0))) (hl : L.length = 44) (hw : Fits .i16 L) (hr : Kd.C kH w A0 ms.length ms) (hc : ms.length ≤ c0) (hs : ∀ x ∈ ms, Small8 x) (hn : ms.length ≤ 1048576) :
  Calls Try.prog 38 #[.pointer (some ⟨g, 0, none⟩), .slice A0 ms.length c0] w fun e w' => e = .returned (.int .i64 (codeMs L ms)) ∧ Below w.heap.size w w' := by
 have HOK := Aside0.mk (l04Ok_calls g L w hl hw hg)
 have HPL := Aside0.mk (fun A c x W (hx : x ∈ ms) (hC : Kd.C (Kd.int .i8) W A x.length x) (hc' : x.length ≤ c) => l02Plain_calls A c x W hC hc' (hs x hx))
 have HR := Aside0.mk hr
 clear hr hs hw
 by_cases hok : okL L = true
 ·rw [hok] at HOK
  have HC0 := Aside0.mk (show codeMs L ms = if ms.any (fun m => !plainM m) = false then (if (ms.length : Int) ≤ 6 then 0 else 3) else 1 by unfold codeMs; rw [if_pos hok])
  clear hok
  go_enter Try.func38, Try.ntmps38
  go_wp2_with (go_at_call 29; refine HOK.out.mono ?_; rintro e w1 ⟨rfl, h⟩; have HB1 := Aside0.mk h; clear h)
  go_loopw [5] (fun v5 wr => ∃ i : Nat, i ≤ ms.length ∧ v5 = .int .i64 i ∧ Aside0 (Below w.heap.size w wr) ∧ Aside0 (∀ j : Nat, j < i → plainM (rd_L1 ms (j : Int)) = true)) (fun v5 _ => ms.length - (intOf v5).toNat)
  case atStart => exact ⟨0, Nat.zero_le _, rfl, HB1, ⟨fun j hj => absurd hj (by omega)⟩⟩
  case round =>
   clear HB1
   obtain ⟨i, hi, rfl, HB, HP⟩ := hrel
   by_cases hlt : i < ms.length
   ·have hx := List.getElem?_eq_getElem hlt
    have hx2 := rdM_get ms i hlt
    obtain ⟨ad, A1, c1, rfl, hcell, hl1, hC1⟩ := at_L1 (Kd.C_below HR.out HB.out) (i : Int) (by omega) (by omega)
    rw [Int.toNat_natCast] at hcell
    rw [← hx2] at hx
    generalize hxx : rd_L1 ms (i : Int) = x at *
    have HM := Aside0.mk (HPL.out A1 c1 x _ (List.mem_of_getElem? hx) hC1 hl1)
    have HX := Aside0.mk hx
    have HXX := Aside0.mk hxx
    clear hx hC1 hx2 hxx
    cases hp : plainM x with
    | false =>
     have HANY := Aside0.mk (show codeMs L ms = 1 by
      rw [HC0.out, if_neg]
      intro h
      have := List.any_eq_false.1 h x (List.mem_of_getElem? HX.out)
      rw [hp] at this
      exact this rfl)
     rw [hp] at HM
     clear hp
     go_wp2_with (go_at_call 30; refine HM.out.mono ?_; rintro e w1 ⟨rfl, hb1⟩; have HB1 := Aside0.mk hb1; clear hb1)
     go_ret
     exact ⟨by rw [HANY.out]; rfl, below_then HB.out HB1.out⟩
    | true =>
     have HPX := Aside0.mk hp
     rw [hp] at HM
     clear hp
     go_wp2_with (go_at_call 30; refine HM.out.mono ?_; rintro e w1 ⟨rfl, hb1⟩; have HB1 := Aside0.mk hb1; clear hb1)
     go_roundw
     case rel => exact ⟨i + 1, by omega, by go_num, ⟨below_then HB.out HB1.out⟩, ⟨fun j hj => by
      rcases Nat.lt_or_ge j i with h | h
      ·exact HP.out j h
      ·obtain rfl : j = i := by omega
       rw [HXX.out]
       exact HPX.out⟩⟩
     case measure => simp [intOf]; omega
   ·have HI := Aside0.mk (show ms.any (fun m => !plainM m) = false by
     rw [List.any_eq_false]
     intro x hx
     obtain ⟨j, hj, rfl⟩ := List.getElem_of_mem hx
     have := HP.out j (by omega)
     rw [rdM_get ms j hj] at this
     simp [this])
    rw [if_pos HI.out] at HC0
    by_cases h6 : (ms.length : Int) ≤ 6
    ·rw [if_pos h6] at HC0
     go_wp2_with fail
     go_ret
     exact ⟨by rw [HC0.out]; rfl, HB.out⟩
    ·rw [if_neg h6] at HC0
     go_wp2_with fail
     go_ret
     exact ⟨by rw [HC0.out]; rfl, HB.out⟩
 ·rw [show okL L = false by cases h : okL L with | true => exact absurd h hok | false => rfl] at HOK
  have HC0 := Aside0.mk (show codeMs L ms = 1 by unfold codeMs; rw [if_neg hok])
  clear hok
  go_enter Try.func38, Try.ntmps38
  go_wp2_with (go_at_call 29; refine HOK.out.mono ?_; rintro e w1 ⟨rfl, h⟩; have HB1 := Aside0.mk h; clear h)
  go_ret
  exact ⟨by rw [HC0.out]; rfl, HB1.out⟩
end Go.Proofs.Ytfgogdhhihbcjaa.Arr
namespace Go.Proofs.Ytfgogdhhihbcjaa.Arr
open Go.RowKit Go.Proofs.YtfgogdhhihbcjaaW.PrintWords Go.Proofs.YtfgogdhhihbcjaaW.PrintLast Go.Proofs.YtfgogdhhihbcjaaW.PrintMore Go.Proofs.Ytfgogdhhihbcjaa.U Go.Proofs.Ytfgogdhhihbcjaa.H
set_option linter.unusedVariables false
set_option linter.unusedSimpArgs false
abbrev GoR := (List (List Int) × Int) × Int
def tryAll (f : List Int → Int → GoR) (budget : Int) : List (List Int) → Int → GoR
 | [], t => (([], 6), t)
 | x :: r, t => if t = budget then (([], 7), t) else if (f x (t + 1)).1.2 = 6 then tryAll f budget r (f x (t + 1)).2 else f x (t + 1)
def goW (ms : List (List Int)) (budget : Int) : Nat → List Int → List (List Int) → Int → GoR
 | 0, _, done, t => ((done, 0), t)
 | d + 1, L, done, t => tryAll (fun x t => goW ms budget d (pile L x (-1) x.length) (done ++ [x]) t) budget (allW L (rd_L1 ms (done.length : Int))) t
structure GoOk (ms : List (List Int)) (budget : Int) (t : Int) (r : GoR) : Prop where
 code : r.1.2 = 0 ∨ r.1.2 = 6 ∨ r.1.2 = 7
 lo : t ≤ r.2
 hi : r.2 ≤ budget
 over : r.1.2 = 7 → r.2 = budget
 none : r.1.2 ≠ 0 → r.1.1 = []
 some : r.1.2 = 0 → r.1.1.length = ms.length ∧ ∀ x ∈ r.1.1, x.length ≤ 8
theorem tryAll_ok {ms : List (List Int)} {budget : Int} {f : List Int → Int → GoR} : ∀ {l : List (List Int)} {t : Int}, (∀ x ∈ l, ∀ t, t ≤ budget → GoOk ms budget t (f x t)) → t ≤ budget → GoOk ms budget t (tryAll f budget l t)
 | [], t, _, ht => ⟨.inr (.inl rfl), Int.le_refl _, ht, fun h => (by cases h), fun _ => rfl, fun h => (by cases h)⟩
 | x :: r, t, hf, ht => by
  rw [tryAll]
  by_cases h : t = budget
  ·rw [if_pos h]
   exact ⟨.inr (.inr rfl), Int.le_refl _, ht, fun _ => h, fun _ => rfl, fun h => (by cases h)⟩
  ·rw [if_neg h]
   have h1 := hf x (by simp) (t + 1) (by omega)
   by_cases h6 : (f x (t + 1)).1.2 = 6
   ·rw [if_pos h6]
    have h2 := tryAll_ok (l := r) (t := (f x (t + 1)).2) (fun y hy => hf y (by simp [hy])) h1.hi
    exact ⟨h2.code, by have := h1.lo; have := h2.lo; omega, h2.hi, h2.over, h2.none, h2.some⟩
   ·rw [if_neg h6]
    exact ⟨h1.code, by have := h1.lo; omega, h1.hi, h1.over, h1.none, h1.some⟩
theorem goW_ok {ms : List (List Int)} {budget : Int} (hp : ∀ m ∈ ms, plainM m = true) : ∀ (d : Nat) (L : List Int) (done : List (List Int)) (t : Int), done.length + d = ms.length → L.length = 44 → (∀ j : Nat, j < 44 → 0 ≤ rd L (j : Int)) → (∀ x ∈ done, x.length ≤ 8) → t ≤ budget → GoOk ms budget t (goW ms budget d L done t)
 | 0, L, done, t, hd, hl, hL, h8, ht => ⟨.inl rfl, Int.le_refl _, ht, fun h => (by cases h), fun h => absurd rfl h, fun _ => ⟨show done.length = ms.length by simpa using hd, h8⟩⟩
 | d + 1, L, done, t, hd, hl, hL, h8, ht => by
  rw [goW]
  refine tryAll_ok (fun x hx t ht => ?_) ht
  have hg := allW_good (m := rd_L1 ms (done.length : Int)) hl (by rw [rdM_get ms done.length (by omega)]; exact hp _ (List.getElem_mem _)) hL x hx
  refine goW_ok hp d _ _ t (by simp; omega) (by rw [pile_length]; exact hl) hg.low (fun y hy => ?_) ht
  rcases List.mem_append.1 hy with h | h
  ·exact h8 y h
  ·rw [List.mem_singleton] at h
   rw [h]
   exact hg.len
theorem tryAll_stop {f : List Int → Int → GoR} {budget : Int} {x : List Int} {r : List (List Int)} {t : Int} (h : t = budget) : tryAll f budget (x :: r) t = (([], 7), t) := by rw [tryAll, if_pos h]
theorem tryAll_next {f : List Int → Int → GoR} {budget : Int} {x : List Int} {r : List (List Int)} {t : Int} (h : t ≠ budget) (h6 : (f x (t + 1)).1.2 = 6) : tryAll f budget (x :: r) t = tryAll f budget r (f x (t + 1)).2 := by rw [tryAll, if_neg h, if_pos h6]
theorem tryAll_found {f : List Int → Int → GoR} {budget : Int} {x : List Int} {r : List (List Int)} {t : Int} (h : t ≠ budget) (h6 : (f x (t + 1)).1.2 ≠ 6) : tryAll f budget (x :: r) t = f x (t + 1) := by rw [tryAll, if_neg h, if_neg h6]
abbrev ShpV := Option Addr × Nat × Nat
def kdV : Kd ShpV := Kd.scalar (fun x => Value.slice x.1 x.2.1 x.2.2) (fun _ => rfl)
theorem infoV : (Try.prog.info? 28).map (fun i => (i.zero, i.size, i.bytes)) = some (some (.slice none 0 0), 1, 24) := by kernel_rfl
def LV (b N : Nat) (W : World) (v : Value) (ss : List ShpV) (hs : List (List Int)) : Prop :=
 ss.length = hs.length ∧ Kd.R kdV 28 W b (fun _ => True) v ss ∧ ∃ f : Nat → Nat, ∀ (j : Nat) (x : List Int) (s : ShpV), hs[j]? = some x → ss[j]? = some s → Kd.R (Kd.int .i8) 64 W b (fun k => f k = j ∧ k < N) (.slice s.1 s.2.1 s.2.2) x
section
variable {b N N' : Nat} {W W1 : World} {v v1 : Value} {ss : List ShpV} {hs : List (List Int)}
theorem LV.nil (h : Kd.R kdV 28 W b (fun _ => True) v []) : LV b N W v [] [] := ⟨rfl, h, fun _ => 0, fun j x s hj => by simp at hj⟩
theorem LV.step (h : LV b N W v ss hs) (hm : ∀ (k : Nat) (t : TypeId) (cs : Array Value), W.heap[k]? = some (.cells cs t (0, 0)) → (t = 28 ∨ t = 64) → W1.heap[k]? = W.heap[k]?) : LV b N W1 v ss hs := by
 obtain ⟨h1, h2, f, h3⟩ := h
 refine ⟨h1, ?_, f, fun j x s hj hs => ?_⟩
 ·exact Kd.R_mono (Kd.R_move (Kd.R_bound h2) (fun k hk => by
   obtain ⟨_, _, _, q, hq, cells, hc⟩ := hk
   rw [List.mem_cons] at hq
   rcases hq with hq | hq
   ·exact hm k q cells hc (.inl hq)
   ·simp [kdV, Kd.scalar] at hq)) (fun _ _ => trivial)
 ·exact Kd.R_mono (Kd.R_move (Kd.R_bound (h3 j x s hj hs)) (fun k hk => by
   obtain ⟨_, _, _, q, hq, cells, hc⟩ := hk
   rw [List.mem_cons] at hq
   rcases hq with hq | hq
   ·exact hm k q cells hc (.inr hq)
   ·simp [Kd.int, Kd.scalar] at hq)) (fun _ hk => hk.1)
theorem LV.below (h : LV b N W v ss hs) (hb : Below W.heap.size W W1) : LV b N W1 v ss hs := h.step (fun k t cs hk _ => hb.block k (lt_of_some hk))
theorem LV.frB {B : List Nat} (h : LV b N W v ss hs) (hf : FrB B W W1) (hB : ∀ g ∈ B, ∃ cs t, W.heap[g]? = some (.cells cs t (0, 0)) ∧ t ≠ 28 ∧ t ≠ 64) : LV b N W1 v ss hs :=
 h.step (fun k t cs hk ht => hf.other k (lt_of_some hk) (fun hm => by
  obtain ⟨cs2, t2, h2, hn1, hn2⟩ := hB k hm
  rw [hk] at h2
  injection h2 with h2
  injection h2 with _ h2
  rcases ht with ht | ht
  ·exact hn1 (h2.symm.trans ht)
  ·exact hn2 (h2.symm.trans ht)))
theorem LV.push (h : LV b N W v ss hs) (hm : ∀ (k : Nat) (t : TypeId) (cs : Array Value), W.heap[k]? = some (.cells cs t (0, 0)) → (t = 28 ∨ t = 64) → W1.heap[k]? = W.heap[k]?) {x : List Int} {s : ShpV} (hr : Kd.R kdV 28 W1 b (fun _ => True) v1 (ss ++ [s])) (hx : Kd.R (Kd.int .i8) 64 W1 b (fun k => N ≤ k ∧ k < N') (.slice s.1 s.2.1 s.2.2) x) (hn : N ≤ N') : LV b N' W1 v1 (ss ++ [s]) (hs ++ [x]) := by
 obtain ⟨h1, _, f, h3⟩ := h.step hm
 refine ⟨by simp [h1], hr, fun k => if k < N then f k else hs.length, fun j y q hj hq => ?_⟩
 rcases Nat.lt_or_ge j hs.length with hlt | hge
 ·rw [List.getElem?_append_left hlt] at hj
  rw [List.getElem?_append_left (by omega)] at hq
  refine Kd.R_mono (h3 j y q hj hq) (fun k hk => ⟨?_, by omega⟩)
  dsimp only
  rw [if_pos hk.2]
  exact hk.1
 ·have hj1 := (List.getElem?_eq_some_iff.1 hj).1
  simp at hj1
  obtain rfl : j = hs.length := by omega
  simp at hj
  rw [← h1] at hq
  simp at hq
  subst hj hq
  refine Kd.R_mono hx (fun k hk => ⟨?_, hk.2⟩)
  dsimp only
  rw [if_neg (by omega)]
theorem LV.toS (h : LV b N W v ss hs) : Kd.S kH 28 W b (fun _ => True) v hs := by
 obtain ⟨h1, h2, f, h3⟩ := h
 have hty := Kd.R_typed h2
 obtain ⟨_, inner, ho, hr⟩ := h2
 refine ⟨f, fun _ _ => trivial, inner, by rw [List.length_zipIdx, ← h1]; exact ho, by rw [List.length_zipIdx, ← h1]; exact hr.1, fun j p hj => ?_⟩
 have hj1 : j < hs.length := by
  have := (List.getElem?_eq_some_iff.1 hj).1
  simpa using this
 have hx := List.getElem?_eq_getElem hj1
 have hp : p = (hs[j], j) := by
  have := Kd.zip_at hx
  rw [hj] at this
  exact Option.some.inj this
 subst hp
 have hs1 := List.getElem?_eq_getElem (show j < ss.length by omega)
 have hM := hr.2 j _ hs1
 have hcs : (inner.drop (j * 1)).take 1 = [Value.slice ss[j].1 ss[j].2.1 ss[j].2.2] := hM
 refine ⟨_, hcs, Kd.R_mono (Kd.R_bound (h3 j _ _ hx hs1)) (fun k hk => ⟨⟨trivial, fun e => ?_⟩, hk.1.1⟩)⟩
 obtain ⟨_, _, _, q, hq, cells, hc⟩ := hk
 obtain ⟨cells2, hc2⟩ := hty k e.symm
 rw [hc] at hc2
 injection hc2 with hc2
 injection hc2 with _ hc2
 rw [List.mem_cons] at hq
 rcases hq with hq | hq
 ·rw [hq] at hc2
  exact absurd hc2 (by decide)
 ·simp [Kd.int, Kd.scalar] at hq
end
section
variable {P : Program} {ops : Array Oper} {rest : List Oper} {o : Oper} {a : Act} {w : World} {Q : Exit → Act → World → Prop}
theorem st_at (hgd : o.guard = none) (ty : TypeId) (x y : Operand) (ho : o.op = .store ty x y) {g i : Nat} {v u : Value} {cs : Array Value} {t : TypeId} (hx : a.eval x = .pointer (some ⟨g, i, none⟩)) (hy : a.eval y = v) (hb : w.heap[g]? = some (.cells cs t (0, 0))) (hi : cs[i]? = some u) (h1 : OneTy P ty) (hv : v.cells = #[v]) (hv1 : v.oneCell' = true)
  (h : wpList P ops Q rest (a.put o.dst undef) (w.setCell ⟨g, i, none⟩ v)) : wpList P ops Q (o :: rest) a w := by
 refine wpList_plain hgd fun K hK => ?_
 unfold Oper.wp execOp
 have hst : (storeVar ty ⟨g, i, none⟩ v).run P w = .ok () (w.setCell ⟨g, i, none⟩ v) := run_store1 h1.2 hv ((blk_cell hb i).trans hi) (blk_frozen hb i) hv1
 simp only [ho, hx, hy, Instr.storeAt, Instr.sureAddr, Sem.run_bind, Sem.run_pure, Result.andThen_ok, hst]
 exact hK _ _ h
end
end Go.Proofs.Ytfgogdhhihbcjaa.Arr
namespace Go.Proofs.Ytfgogdhhihbcjaa.Arr
open Go.RowKit Go.Proofs.YtfgogdhhihbcjaaW.PrintWords Go.Proofs.YtfgogdhhihbcjaaW.PrintLast Go.Proofs.YtfgogdhhihbcjaaW.PrintMore Go.Proofs.Ytfgogdhhihbcjaa.U Go.Proofs.Ytfgogdhhihbcjaa.H
set_option linter.unusedVariables false
set_option linter.unusedSimpArgs false
section
variable {P : Program} {o : Oper} {a : Act} {w : World}
end
theorem oneI64O : OneTy Try.prog 2 := ⟨by kernel_rfl, by kernel_rfl⟩
theorem zeroI64O : ZeroTy Try.prog 2 (vals .i64 [0]) := ⟨.int .i64 0, by kernel_rfl, rfl⟩
theorem aggPc : AggTy Try.prog 71 44 := ⟨by kernel_rfl, by kernel_rfl⟩
theorem OB.drew {w W : World} {g : Nat} {cs : Array Value} {t : TypeId} {v : Value} {out : List Int} (h : OB w g cs t v out W) : OB w g cs t v out W.drew := h.below (below_drew (Below.refl _ _))
structure BX (w : World) (g : Nat) (cs : Array Value) (t : TypeId) (W : World) : Prop where
 bel : Below w.heap.size w W
 ge : w.heap.size ≤ g
 box : W.heap[g]? = some (.cells cs t (0, 0))
section
variable {w W W1 : World} {g : Nat} {cs : Array Value} {t : TypeId} {v : Value} {out : List Int}
theorem BX.below (h : BX w g cs t W) (hb : Below W.heap.size W W1) : BX w g cs t W1 := ⟨below_then h.bel hb, h.ge, (hb.block _ (lt_of_some h.box)).trans h.box⟩
theorem BX.grown (h : BX w g cs t W) (hb : Below w.heap.size w W1) (hg : W.grownBy W1 v.ownBlock) (hr : Kd.R (Kd.int .i64) 2 W w.heap.size (fun k => k ≠ g) v out) : BX w g cs t W1 := ⟨hb, h.ge, (hg.block _ (lt_of_some h.box) (Kd.R_away hr (fun k hk => hk))).trans h.box⟩
end
end Go.Proofs.Ytfgogdhhihbcjaa.Arr
namespace Go.Proofs.Ytfgogdhhihbcjaa.Arr
open Go.RowKit Go.Proofs.YtfgogdhhihbcjaaW.PrintWords Go.Proofs.YtfgogdhhihbcjaaW.PrintLast Go.Proofs.YtfgogdhhihbcjaaW.PrintMore Go.Proofs.Ytfgogdhhihbcjaa.U Go.Proofs.Ytfgogdhhihbcjaa.H
set_option linter.unusedVariables false
set_option linter.unusedSimpArgs false
abbrev scC (Al : Option Addr) (n cl : Nat) (budget t : Int) : Array Value := #[.slice Al n cl, .int .i64 budget, .int .i64 t]
structure GB (w0 W : World) (gs : Nat) (Al : Option Addr) (n cl : Nat) (budget t : Int) (gl : Nat) (L : List Int) (N : Nat) (vd : Value) (ss : List ShpV) (done : List (List Int)) (v8 : Value) (all : List (List Int)) (W1 : World) : Prop where
 fr : FrB [gs] W W1
 bel : Below w0.heap.size w0 W1
 ge : w0.heap.size ≤ gs
 box : W1.heap[gs]? = some (.cells (scC Al n cl budget t) 80 (0, 0))
 lock : W1.heap[gl]? = some (.cells (vals .i16 L) 31 (0, 0))
 done_ : LV w0.heap.size N W1 vd ss done
 all_ : Kd.S kH 28 W1 W.heap.size (fun _ => True) v8 all
section
variable {w0 W W1 W2 : World} {gs : Nat} {Al : Option Addr} {n cl : Nat} {budget t t2 : Int} {gl : Nat} {L : List Int} {N : Nat} {vd : Value} {ss : List ShpV} {done : List (List Int)} {v8 : Value} {all : List (List Int)}
theorem FrB.keeps {g : Nat} {w w1 w2 : World} (hf : FrB [g] w1 w2) (hg : w.heap.size ≤ g) (hb : Below w.heap.size w w1) : Below w.heap.size w w2 :=
 ⟨hf.os.trans hb.os, hf.tape.trans hb.tape, hf.output.trans hb.output, Nat.le_trans hb.size hf.size, fun k hk => (hf.other k (Nat.lt_of_lt_of_le hk hb.size) (by simp; omega)).trans (hb.block k hk)⟩
theorem GB.next (h : GB w0 W gs Al n cl budget t gl L N vd ss done v8 all W1) (hf : FrB [gs] W1 W2) (hb : W2.heap[gs]? = some (.cells (scC Al n cl budget t2) 80 (0, 0))) : GB w0 W gs Al n cl budget t2 gl L N vd ss done v8 all W2 :=
 ⟨h.fr.trans hf, hf.keeps h.ge h.bel, h.ge, hb, hf.row h.lock (by simp; exact blk_ne h.lock h.box (by decide)), h.done_.frB hf (fun g hg => by rw [List.mem_singleton] at hg; subst hg; exact ⟨_, _, h.box, by decide, by decide⟩),
  Kd.S_mono (Kd.S_step (Kd.S_types h.all_ h.box (fun q hq => by simp [kH, Kd.slice, Kd.int, Kd.scalar] at hq; rcases hq with rfl | rfl <;> decide)) (fun k hk hlt => hf.other k hlt (by simp; exact hk.2))) (fun _ _ => trivial)⟩
theorem GB.below (h : GB w0 W gs Al n cl budget t gl L N vd ss done v8 all W1) (hb : Below W1.heap.size W1 W2) : GB w0 W gs Al n cl budget t gl L N vd ss done v8 all W2 := h.next (FrB.below hb) ((hb.block _ (lt_of_some h.box)).trans h.box)
theorem GB.set (h : GB w0 W gs Al n cl budget t gl L N vd ss done v8 all W1) : GB w0 W gs Al n cl budget t2 gl L N vd ss done v8 all (W1.setCell ⟨gs, 2, none⟩ (.int .i64 t2)) :=
 h.next ((FrB.refl [gs] W1).set _ _ (.inl (by simp))) (by have := heap_setCell_same W1 gs 2 _ _ (.int .i64 t2) h.box; exact this)
structure GX (b : Nat) (x : List Int) (Ax : Option Addr) (cx : Nat) (p : Addr) (W1 : World) : Prop where
 cell : W1.cell? p = some (.slice Ax x.length cx)
 row : Kd.R (Kd.int .i8) 64 W1 b (fun _ => True) (.slice Ax x.length cx) x
theorem GX.below {b : Nat} {x : List Int} {Ax : Option Addr} {cx : Nat} {p : Addr} (h : GX b x Ax cx p W1) (hb : Below W1.heap.size W1 W2) : GX b x Ax cx p W2 := ⟨(FrB.below hb : FrB [] W1 W2).read h.cell, Kd.R_below h.row hb⟩
theorem GB.elem {g8 c8 : Nat} (h : GB w0 W gs Al n cl budget t gl L N vd ss done (.slice (some ⟨g8, 0, none⟩) all.length c8) all W1) (i : Nat) (hi : i < all.length) : ∃ Ax cx, GX W.heap.size all[i] Ax cx ⟨g8, i, none⟩ W1 := by
 obtain ⟨cl, hcl, hM, hcc⟩ := Kd.S_get h.all_ ([] : List Int) (i : Int) (by omega) (by omega)
 obtain ⟨vh, rfl, hR⟩ := hM
 have hx : all.getD (i : Int).toNat [] = all[i] := by
  rw [Int.toNat_natCast, List.getD_eq_getElem?_getD, List.getElem?_eq_getElem hi]
  rfl
 rw [hx] at hR
 obtain ⟨Ax, cx, rfl⟩ := Kd.R_slice hR
 refine ⟨Ax, cx, ?_, Kd.R_mono hR (fun _ _ => trivial)⟩
 have := hcc 0 _ rfl
 rw [Int.toNat_natCast] at this
 rcases Nat.eq_zero_or_pos i with h0 | h0
 ·subst h0
  simpa [Addr.add, kH, Kd.slice] using this
 ·have hi0 : ¬ i = 0 := by omega
  simpa [Addr.add, kH, Kd.slice, hi0] using this
end
section
variable {P : Program} {o : Oper} {a : Act} {w : World}
theorem s_litV {ops : Array Oper} {N : Option Tmp} {K : Act → World → Prop} {Q : Exit → Act → World → Prop} {e : TypeId} {u : Value} (hw : Region.wanted o (yielded ops a.tmps) = true) (hN : o.dst = N) (hrun : (execOp a.eval o).run P w = .ok (.value (.slice (some ⟨w.heap.size, 0, none⟩) 1 1)) (w.alloc (.cells #[u] e)))
  (h : ∀ g w1, w1.heap[g]? = some (.cells #[u] e (0, 0)) → w.heap.size ≤ g → FrB [] w w1 → K (a.put N (.slice (some ⟨g, 0, none⟩) 1 1)) w1) : if Region.wanted o (yielded ops a.tmps) = true then Oper.wp P o a w K Q else K (a.put N undef) w :=
 value_ hw hN hrun (h _ _ (Go.heap_alloc_new w _) (Nat.le_refl _) ((FrB.refl [] w).alloc _))
end
theorem row1V {w : World} {g : Nat} {s : ShpV} (h : w.heap[g]? = some (.cells #[.slice s.1 s.2.1 s.2.2] 28 (0, 0))) : ReadsRow (fun (x : ShpV) cs => cs = [Value.slice x.1 x.2.1 x.2.2]) 1 w (some ⟨g, 0, none⟩) 1 [s] := by
 refine ⟨rfl, by omega, fun _ => ⟨_, rfl, fun j y hj => ?_⟩⟩
 have hj0 : j = 0 := by
  have := (List.getElem?_eq_some_iff.1 hj).1
  simp at this; omega
 subst hj0
 cases hj
 refine ⟨_, rfl, rfl, fun i u hu => ?_⟩
 rcases i with _ | i
 ·cases hu
  exact cell1 h
 ·simp at hu
theorem lt_step {a i : Nat} (h : i < a) : a - (i + 1) < a - i := by omega
theorem le_step {a b c : Int} (h1 : a ≤ b) (h2 : b + 1 ≤ c) : a ≤ c := by omega
theorem oneMsS : OneTy Try.prog 45 := ⟨by kernel_rfl, by kernel_rfl⟩
set_option maxHeartbeats 16000000 in
set_option maxRecDepth 100000 in
theorem go_calls {w0 : World} (gs : Nat) (Al : Option Addr) (cl : Nat) (ms : List (List Int)) (budget : Int) (hr : Kd.C kH w0 Al ms.length ms) (hp : ∀ m ∈ ms, plainM m = true) (hbd : 0 ≤ budget ∧ budget ≤ 20000) (h6 : ms.length ≤ 6) :
  ∀ (d : Nat) (L : List Int) (gl : Nat) (done : List (List Int)) (Ad : Option Addr) (cd : Nat) (ss : List ShpV) (N : Nat) (t : Int) (W : World), done.length + d = ms.length → L.length = 44 → (∀ j : Nat, j < 44 → 0 ≤ rd L (j : Int) ∧ rd L (j : Int) ≤ 20000) → (∀ x ∈ done, x.length ≤ 8) → 0 ≤ t → t ≤ budget →
   w0.heap.size ≤ gs → Below w0.heap.size w0 W → W.heap[gs]? = some (.cells (scC Al ms.length cl budget t) 80 (0, 0)) → W.heap[gl]? = some (.cells (vals .i16 L) 31 (0, 0)) → N ≤ W.heap.size → LV w0.heap.size N W (.slice Ad done.length cd) ss done →
   Calls Try.prog 43 #[.pointer (some ⟨gs, 0, none⟩), .pointer (some ⟨gl, 0, none⟩), .slice Ad done.length cd] W fun e w' => ∃ v, e = .returned (.tuple #[v, .int .i64 (goW ms budget d L done t).1.2]) ∧ Kd.S kH 28 w' w0.heap.size (fun _ => True) v (goW ms budget d L done t).1.1 ∧
    w'.heap[gs]? = some (.cells (scC Al ms.length cl budget (goW ms budget d L done t).2) 80 (0, 0)) ∧ FrB [gs] W w' := by
 intro d
 induction d with
 | zero =>
  intro L gl done Ad cd ss N t W hd hl hL h8 ht0 ht hge hbel hbox hlock hN hdone
  have hc0 := (blk_cell hbox 0).trans rfl
  have hdl : ((done.length : Int) == (ms.length : Int)) = true := by rw [beq_iff_eq]; omega
  have HE := Aside0.mk (And.intro hdone.toS hbox)
  clear hr hp hL h8 hbel hbox hlock hdone
  go_enter Try.func43, Try.ntmps43
  go_wp2_with fail
  go_ret2
  exact ⟨_, rfl, HE.out.1, HE.out.2, FrB.refl _ _⟩
 | succ d ih =>
  intro L gl done Ad cd ss N t W hd hl hL h8 ht0 ht hge hbel hbox hlock hN hdone
  have hc0 := (blk_cell hbox 0).trans rfl
  have hdl : ((done.length : Int) == (ms.length : Int)) = false := by rw [beq_eq_false_iff_ne]; omega
  have hlt : done.length < ms.length := by omega
  have hx2 := rdM_get ms done.length hlt
  obtain ⟨ad, A1, c1, rfl, hcell, hl1, hC1⟩ := at_L1 (Kd.C_below hr hbel) (done.length : Int) (by omega) (by omega)
  rw [Int.toNat_natCast] at hcell
  have hpx : plainM (rd_L1 ms (done.length : Int)) = true := by rw [hx2]; exact hp _ (List.getElem_mem hlt)
  obtain ⟨hpn, _, hp8⟩ := plainM_N hpx
  have HGD := Aside0.mk (allW_good (m := rd_L1 ms (done.length : Int)) hl hpx (fun j hj => (hL j hj).1))
  have HAL := Aside0.mk (l04All_calls gl L A1 c1 (rd_L1 ms (done.length : Int)) W hlock hl hL hC1 hpn hp8)
  change Aside0 (Calls _ _ _ _ fun e w' => ∃ v, e = .returned v ∧ LS W v (allW L (rd_L1 ms (done.length : Int))) w') at HAL
  have HRES := Aside0.mk (show goW ms budget (d + 1) L done t = tryAll (fun x t => goW ms budget d (pile L x (-1) x.length) (done ++ [x]) t) budget (allW L (rd_L1 ms (done.length : Int))) t from rfl)
  have hfewA : (allW L (rd_L1 ms (done.length : Int))).length ≤ 390625 := Nat.le_trans (leaves_le _ 4 (by omega) _ _ _ _) (Nat.le_trans (Nat.pow_le_pow_right (by omega) hp8) (by decide))
  have HL44 := Aside0.mk hl
  have HBD := Aside0.mk hL
  have HSTART := Aside0.mk (And.intro hbel (And.intro hge (And.intro hbox (And.intro hlock hdone))))
  have hd6 : done.length ≤ 5 := by omega
  have HREC := Aside0.mk (fun (x : List Int) (hx : GoodF L x) (g10 : Nat) (A73 : Option Addr) (c73 : Nat) (ss2 : List ShpV) (N2 : Nat) (t2 : Int) (W5 : World) (h0 : 0 ≤ t2) (hb2 : t2 ≤ budget) (hbl : Below w0.heap.size w0 W5) (hbx : W5.heap[gs]? = some (.cells (scC (some ad) ms.length cl budget t2) 80 (0, 0))) (hlk : W5.heap[g10]? = some (.cells (vals .i16 (pile L x (-1) x.length)) 31 (0, 0))) (hN2 : N2 ≤ W5.heap.size) (hlv : LV w0.heap.size N2 W5 (.slice A73 (done ++ [x]).length c73) ss2 (done ++ [x])) =>
   ih (pile L x (-1) x.length) g10 (done ++ [x]) A73 c73 ss2 N2 t2 W5 (by simp; omega) (by rw [pile_length]; exact hl) (fun j hj => ⟨hx.low j hj, by have h1 := pile_neg_le hl (h := x) x.length j hj; have h2 := hL j hj; omega⟩) (fun y hy => by
    rcases List.mem_append.1 hy with h | h
    ·exact h8 y h
    ·rw [List.mem_singleton] at h
     rw [h]
     exact hx.len) h0 hb2 hge hbl hbx hlk hN2 hlv)
  have HOK := Aside0.mk (fun (x : List Int) (hx : GoodF L x) (t2 : Int) (hb2 : t2 ≤ budget) => goW_ok (ms := ms) (budget := budget) hp d (pile L x (-1) x.length) (done ++ [x]) t2 (by simp; omega) (by rw [pile_length]; exact hl) hx.low (fun y hy => by
    rcases List.mem_append.1 hy with h | h
    ·exact h8 y h
    ·rw [List.mem_singleton] at h
     rw [h]
     exact hx.len) hb2)
  clear ih hr hp hL h8 hbel hlock hdone hx2 hpx hpn hp8 hC1 hbox
  generalize goW ms budget (d + 1) L done t = res at *
  generalize hF : (fun (x : List Int) (t : Int) => goW ms budget d (pile L x (-1) x.length) (done ++ [x]) t) = F at *
  have hFx : ∀ x t, goW ms budget d (pile L x (-1) x.length) (done ++ [x]) t = F x t := fun x t => by rw [← hF]
  simp only [hFx] at HREC HOK
  clear hFx hF
  generalize hAllE : allW L (rd_L1 ms (done.length : Int)) = all at *
  clear hAllE
  generalize rd_L1 ms (done.length : Int) = m at *
  go_enter Try.func43, Try.ntmps43
  go_wp2_with (go_at_call 31; refine HAL.out.mono ?_; rintro e w1 ⟨v8, rfl, hls⟩; obtain ⟨A8, c8, rfl⟩ := Kd.S_slice hls.own; have HG1 := Aside0.mk (GB.mk (FrB.below hls.bel : FrB [gs] W w1) (below_then HSTART.out.1 hls.bel) HSTART.out.2.1 ((hls.bel.block _ (lt_of_some HSTART.out.2.2.1)).trans HSTART.out.2.2.1) ((hls.bel.block _ (lt_of_some HSTART.out.2.2.2.1)).trans HSTART.out.2.2.2.1) (HSTART.out.2.2.2.2.below hls.bel) hls.own); clear hls)
  clear hc0 hcell
  go_loopw [9] (fun v9 wr => ∃ (i : Nat) (t2 : Int), i ≤ all.length ∧ v9 = .int .i64 i ∧ Aside0 (GB w0 W gs (some ad) ms.length cl budget t2 gl L N (.slice Ad done.length cd) ss done (.slice A8 all.length c8) all wr) ∧ t ≤ t2 ∧ t2 ≤ budget ∧ Aside0 (res = tryAll F budget (all.drop i) t2)) (fun v9 _ => all.length - (intOf v9).toNat)
  case atStart => exact ⟨0, t, by omega, rfl, HG1, Int.le_refl _, ht, ⟨by rw [HRES.out]; rfl⟩⟩
  case round =>
   clear HG1
   obtain ⟨i, t2, hi, rfl, HG, ht1, ht2, HT⟩ := hrel
   by_cases hia : i < all.length
   ·obtain ⟨g8, hA8⟩ : ∃ g8, A8 = some ⟨g8, 0, none⟩ := by
     obtain ⟨g, cap, hv, _⟩ := Kd.S_form HG.out.all_ (by omega)
     injection hv with hA _ _
     exact ⟨g, hA⟩
    subst hA8
    have hdr := List.drop_eq_getElem_cons hia
    rw [hdr] at HT
    have HGX0 := Aside0.mk (fun W1 t3 (h : GB w0 W gs (some ad) ms.length cl budget t3 gl L N (.slice Ad done.length cd) ss done (.slice (some ⟨g8, 0, none⟩) all.length c8) all W1) => h.elem i hia)
    have hgx := HGD.out all[i] (List.getElem_mem hia)
    have HGOOD := Aside0.mk hgx
    have hx8 := hgx.len
    have HDR := Aside0.mk hdr
    clear hdr hgx
    generalize all[i] = x at *
    by_cases htb : t2 = budget
    ·have HT2 := Aside0.mk (HT.out.trans (tryAll_stop htb))
     have htbb : (t2 == budget) = true := by rw [beq_iff_eq]; exact htb
     go_wp2_with fail
     refine start_ (n := 9) (S := fun w' => GB w0 W gs (some ad) ms.length cl budget t2 gl L N (.slice Ad done.length cd) ss done (.slice (some ⟨g8, 0, none⟩) all.length c8) all w') (ds := []) #[false, false, false, false, false, false, false, false, false] (by kernel_rfl) rfl rfl (HG.out.below (below_drew (Below.refl _ _))) (fun hHeld => ?_)
     refine pure_ (i := 0) (N := some 38) (v := ?_) (a' := ?_) #[true, false, false, false, false, false, false, false, false] rfl rfl (by kernel_rfl) (fun _ _ _ h => h) (Or.inl ⟨by rfl, ?_⟩) ?_ ?_
     rotate_left
     ·intro w'
      go_simp
      with_reducible rfl
     rotate_left
     ·simp only [Act.put, List.setIfInBounds_toArray, List.set_cons_zero, List.set_cons_succ, i64_w, i32_w]
      rfl
     refine pure_ (i := 1) (N := some 39) (v := ?_) (a' := ?_) #[true, true, false, false, false, false, false, false, false] rfl rfl (by kernel_rfl) (fun _ _ _ h => h) (Or.inl ⟨by rfl, ?_⟩) ?_ ?_
     rotate_left
     ·intro w'
      go_simp
      with_reducible rfl
     rotate_left
     ·simp only [Act.put, List.setIfInBounds_toArray, List.set_cons_zero, List.set_cons_succ, i64_w, i32_w]
      rfl
     refine pure_ (i := 2) (N := some 40) (v := ?_) (a' := ?_) #[true, true, true, false, false, false, false, false, false] rfl rfl (by kernel_rfl) (fun _ _ _ h => h) (Or.inl ⟨by rfl, ?_⟩) ?_ ?_
     rotate_left
     ·intro w'
      go_simp
      with_reducible rfl
     rotate_left
     ·simp only [Act.put, List.setIfInBounds_toArray, List.set_cons_zero, List.set_cons_succ, i64_w, i32_w]
      rfl
     refine pure_ (i := 4) (N := some 42) (v := ?_) (a' := ?_) #[true, true, true, false, true, false, false, false, false] rfl rfl (by kernel_rfl) (fun _ _ _ h => h) (Or.inl ⟨by rfl, ?_⟩) ?_ ?_
     rotate_left
     ·intro w'
      go_simp
      with_reducible rfl
     rotate_left
     ·simp only [Act.put, List.setIfInBounds_toArray, List.set_cons_zero, List.set_cons_succ, i64_w, i32_w]
      rfl
     refine pure_ (i := 5) (N := some 43) (v := ?_) (a' := ?_) #[true, true, true, false, true, true, false, false, false] rfl rfl (by kernel_rfl) (fun _ _ _ h => h) (Or.inl ⟨by rfl, ?_⟩) ?_ ?_
     rotate_left
     ·intro w'
      go_simp
      with_reducible rfl
     rotate_left
     ·simp only [Act.put, List.setIfInBounds_toArray, List.set_cons_zero, List.set_cons_succ, i64_w, i32_w]
      rfl
     refine pure_ (i := 6) (N := some 44) (v := ?_) (a' := ?_) #[true, true, true, false, true, true, true, false, false] rfl rfl (by kernel_rfl) (fun _ _ _ h => h) (Or.inl ⟨by rfl, ?_⟩) ?_ ?_
     rotate_left
     ·intro w'
      go_simp
      with_reducible rfl
     rotate_left
     ·simp only [Act.put, List.setIfInBounds_toArray, List.set_cons_zero, List.set_cons_succ, i64_w, i32_w]
      rfl
     refine take_ (i := 3) (N := some 41) (v := .int .i64 t2) (a' := ?_) #[true, true, true, true, true, true, true, false, false] rfl rfl (by kernel_rfl) (fun _ _ _ h => h) (Or.inl ⟨by rfl, ?_⟩) hHeld ?_ ?_
     ·intro w' s0
      exact y_cell (by rfl) (by rfl) oneI64O ((blk_cell s0.box 2).trans rfl)
     rotate_left
     ·simp only [Act.put, List.setIfInBounds_toArray, List.set_cons_zero, List.set_cons_succ, i64_w, i32_w]
      rfl
     refine take_ (i := 7) (N := some 45) (v := .int .i64 budget) (a' := ?_) #[true, true, true, true, true, true, true, true, false] rfl rfl (by kernel_rfl) (fun _ _ _ h => h) (Or.inl ⟨by rfl, ?_⟩) hHeld ?_ ?_
     ·intro w' s0
      exact y_cell (by rfl) (by rfl) oneI64O ((blk_cell s0.box 1).trans rfl)
     rotate_left
     ·simp only [Act.put, List.setIfInBounds_toArray, List.set_cons_zero, List.set_cons_succ, i64_w, i32_w]
      rfl
     refine pure_ (i := 8) (N := some 46) (v := ?_) (a' := ?_) #[true, true, true, true, true, true, true, true, true] rfl rfl (by kernel_rfl) (fun _ _ _ h => h) (Or.inl ⟨by rfl, ?_⟩) ?_ ?_
     rotate_left
     ·intro w'
      go_simp
      with_reducible rfl
     rotate_left
     ·simp only [Act.put, List.setIfInBounds_toArray, List.set_cons_zero, List.set_cons_succ, i64_w, i32_w]
      rfl
     refine done_ (by kernel_rfl) ?_
     skip
     go_wp2_with ((with_reducible refine gate_dst (N := 47) rfl ?_); refine Kd.R_lit kdV (w0 := w0) w0.heap.size 28 ?hg (N := 47) ?hd (xs := []) (inner := []) (ok := fun _ => True) (okp := fun _ => True) ?hr ?hp (fun _ hk => hk) trivial hHeld.bel hHeld.bel.size (by simp) ?_; (case hd => rfl); (case hg => rfl); (case hr => first | (go_simp; done) | (go_simp; rfl)); (case hp => exact (Reps.none _ _)); intro v47 w2 ho hb hgr _; have HE := Aside0.mk (LV.nil (N := 0) ho).toS; have HBX := Aside0.mk (hHeld.box); have HFR := Aside0.mk (hHeld.fr); have HGR := Aside0.mk hgr; clear ho hb hgr hHeld)
     go_ret2
     exact ⟨_, by rw [HT2.out]; rfl, by rw [HT2.out]; exact HE.out, by rw [HT2.out]; exact (HGR.out.block _ (lt_of_some HBX.out) (by simp)).trans HBX.out, HFR.out.grown HGR.out (by simp)⟩
    ·have htbb : (t2 == budget) = false := by rw [beq_eq_false_iff_ne]; exact htb
     have hw1 : wrap64 (t2 + 1) = t2 + 1 := w64 (by omega) (by omega)
     have hwi : wrap64 ((i : Int) + 1) = ((i + 1 : Nat) : Int) := by rw [w64 (by omega) (by omega)]; omega
     have HOKX := HOK.out x HGOOD.out (t2 + 1) (by omega)
     have HNX := Aside0.mk (fun (h6 : (F x (t2 + 1)).1.2 = 6) => HT.out.trans (tryAll_next htb h6))
     have HFD := Aside0.mk (fun (h6 : (F x (t2 + 1)).1.2 ≠ 6) => HT.out.trans (tryAll_found htb h6))
     have HRX := Aside0.mk (fun g10 A73 c73 ss2 N2 W5 => HREC.out x HGOOD.out g10 A73 c73 ss2 N2 (t2 + 1) W5 (by omega) (by omega))
     have hlo := HOKX.lo
     have hhi := HOKX.hi
     have hcode := HOKX.code
     clear HOKX HREC HOK
     generalize F x (t2 + 1) = r at *
     obtain ⟨⟨ro, rc⟩, rt⟩ := r
     dsimp only at HNX HFD HRX hlo hhi hcode
     go_wp2_with fail
     refine start_ (n := 9) (S := fun w' => GB w0 W gs (some ad) ms.length cl budget t2 gl L N (.slice Ad done.length cd) ss done (.slice (some ⟨g8, 0, none⟩) all.length c8) all w') (ds := []) #[false, false, false, false, false, false, false, false, false] (by kernel_rfl) rfl rfl (HG.out.below (below_drew (Below.refl _ _))) (fun hHeld => ?_)
     refine pure_ (i := 0) (N := some 38) (v := ?_) (a' := ?_) #[true, false, false, false, false, false, false, false, false] rfl rfl (by kernel_rfl) (fun _ _ _ h => h) (Or.inl ⟨by rfl, ?_⟩) ?_ ?_
     rotate_left
     ·intro w'
      go_simp
      with_reducible rfl
     rotate_left
     ·simp only [Act.put, List.setIfInBounds_toArray, List.set_cons_zero, List.set_cons_succ, i64_w, i32_w]
      rfl
     refine pure_ (i := 1) (N := some 39) (v := ?_) (a' := ?_) #[true, true, false, false, false, false, false, false, false] rfl rfl (by kernel_rfl) (fun _ _ _ h => h) (Or.inl ⟨by rfl, ?_⟩) ?_ ?_
     rotate_left
     ·intro w'
      go_simp
      with_reducible rfl
     rotate_left
     ·simp only [Act.put, List.setIfInBounds_toArray, List.set_cons_zero, List.set_cons_succ, i64_w, i32_w]
      rfl
     refine pure_ (i := 2) (N := some 40) (v := ?_) (a' := ?_) #[true, true, true, false, false, false, false, false, false] rfl rfl (by kernel_rfl) (fun _ _ _ h => h) (Or.inl ⟨by rfl, ?_⟩) ?_ ?_
     rotate_left
     ·intro w'
      go_simp
      with_reducible rfl
     rotate_left
     ·simp only [Act.put, List.setIfInBounds_toArray, List.set_cons_zero, List.set_cons_succ, i64_w, i32_w]
      rfl
     refine pure_ (i := 4) (N := some 42) (v := ?_) (a' := ?_) #[true, true, true, false, true, false, false, false, false] rfl rfl (by kernel_rfl) (fun _ _ _ h => h) (Or.inl ⟨by rfl, ?_⟩) ?_ ?_
     rotate_left
     ·intro w'
      go_simp
      with_reducible rfl
     rotate_left
     ·simp only [Act.put, List.setIfInBounds_toArray, List.set_cons_zero, List.set_cons_succ, i64_w, i32_w]
      rfl
     refine pure_ (i := 5) (N := some 43) (v := ?_) (a' := ?_) #[true, true, true, false, true, true, false, false, false] rfl rfl (by kernel_rfl) (fun _ _ _ h => h) (Or.inl ⟨by rfl, ?_⟩) ?_ ?_
     rotate_left
     ·intro w'
      go_simp
      with_reducible rfl
     rotate_left
     ·simp only [Act.put, List.setIfInBounds_toArray, List.set_cons_zero, List.set_cons_succ, i64_w, i32_w]
      rfl
     refine pure_ (i := 6) (N := some 44) (v := ?_) (a' := ?_) #[true, true, true, false, true, true, true, false, false] rfl rfl (by kernel_rfl) (fun _ _ _ h => h) (Or.inl ⟨by rfl, ?_⟩) ?_ ?_
     rotate_left
     ·intro w'
      go_simp
      with_reducible rfl
     rotate_left
     ·simp only [Act.put, List.setIfInBounds_toArray, List.set_cons_zero, List.set_cons_succ, i64_w, i32_w]
      rfl
     refine take_ (i := 3) (N := some 41) (v := .int .i64 t2) (a' := ?_) #[true, true, true, true, true, true, true, false, false] rfl rfl (by kernel_rfl) (fun _ _ _ h => h) (Or.inl ⟨by rfl, ?_⟩) hHeld ?_ ?_
     ·intro w' s0
      exact y_cell (by rfl) (by rfl) oneI64O ((blk_cell s0.box 2).trans rfl)
     rotate_left
     ·simp only [Act.put, List.setIfInBounds_toArray, List.set_cons_zero, List.set_cons_succ, i64_w, i32_w]
      rfl
     refine take_ (i := 7) (N := some 45) (v := .int .i64 budget) (a' := ?_) #[true, true, true, true, true, true, true, true, false] rfl rfl (by kernel_rfl) (fun _ _ _ h => h) (Or.inl ⟨by rfl, ?_⟩) hHeld ?_ ?_
     ·intro w' s0
      exact y_cell (by rfl) (by rfl) oneI64O ((blk_cell s0.box 1).trans rfl)
     rotate_left
     ·simp only [Act.put, List.setIfInBounds_toArray, List.set_cons_zero, List.set_cons_succ, i64_w, i32_w]
      rfl
     refine pure_ (i := 8) (N := some 46) (v := ?_) (a' := ?_) #[true, true, true, true, true, true, true, true, true] rfl rfl (by kernel_rfl) (fun _ _ _ h => h) (Or.inl ⟨by rfl, ?_⟩) ?_ ?_
     rotate_left
     ·intro w'
      go_simp
      with_reducible rfl
     rotate_left
     ·simp only [Act.put, List.setIfInBounds_toArray, List.set_cons_zero, List.set_cons_succ, i64_w, i32_w]
      rfl
     refine done_ (by kernel_rfl) ?_
     skip
     generalize wr.drew = wd at *
     have HGD2 := Aside0.mk hHeld
     have hc2 := (blk_cell hHeld.box 2).trans rfl
     clear hHeld
     go_wp2_with (first
      | ((with_reducible refine gt_store 2 ?_); refine st_at rfl 2 _ _ rfl (g := gs) (i := 2) (v := .int .i64 (t2 + 1)) rfl rfl HGD2.out.box rfl oneI64O rfl rfl ?_; clear hc2; have HG2 := Aside0.mk (HGD2.out.set (t2 := t2 + 1)); generalize wd.setCell ⟨gs, 2, none⟩ (Value.int .i64 (t2 + 1)) = w2 at *; obtain ⟨Ax, cx, hgx⟩ := HGX0.out _ _ HG2.out; have HX2 := Aside0.mk hgx; clear hgx; have hm2 := Mem.start w2)
      | ((with_reducible refine gt_load 31 ?_); refine Kd.event_run rfl (y_rowA (by rfl) (by rfl) HG2.out.lock aggLk (by rw [vals_size]; exact HL44.out)) ?_)
      | ((with_reducible refine gt_alloc 10 31 ?_); refine st_alloc rfl 10 rfl 31 rfl hm2 zero31 ?_; clear hm2; intro g10 w3 hm3; have HB3 := Aside0.mk (hm3.done rfl); have HX3 := Aside0.mk (hm3.mem (n := 0) rfl); have HGE := Aside0.mk (hm3.own_ge 0 rfl); clear hm3)
      | ((with_reducible refine gt_store 31 ?_); refine wpList_store_row rfl 31 _ _ rfl g10 (vals .i16 L) rfl rfl _ _ HX3.out (by rw [vals_size, HL44.out]; exact aggLk.2) (by rw [vals_size, vals_size, HL44.out, zs_length]) vals_one ?_; have HB4 := Aside0.mk (Go.below_setRow HB3.out HGE.out (vals .i16 L)); have HL4 := Aside0.mk (setRow_heap _ _ _ (vals .i16 L) _ _ HX3.out); generalize w3.setRow g10 (vals .i16 L) = w4 at *; have HX4 := Aside0.mk (HX2.out.below HB4.out))
      | ((with_reducible refine gt_load 28 ?_); refine Kd.event_run rfl (y_cell (by rfl) (by rfl) oneHo HX4.out.cell) ?_)
      | (go_at_call 39; refine (l04Add_calls g10 L Ax cx x (-1) _ HL4.out (fun W2 cs hf => (Kd.R_reads' (Kd.R_step (Kd.R_types HX4.out.row HL4.out (fun q hq => by simp [Kd.int, Kd.scalar] at hq; rcases hq with rfl; decide)) (fun k ho hlt => hf.other k hlt ho.2))).2.2) (Kd.R_reads' HX4.out.row).2.1 HL44.out HGOOD.out.num (by omega) (fun i hi j hj => by have h1 := pile_neg_le HL44.out (h := x) i j hj; have h2 := HBD.out j hj; omega)).mono ?_; rintro e w5 ⟨rfl, hf⟩; have HL5 := Aside0.mk hf.now; have HB5 := Aside0.mk ((FrB.fr1 (B := [g10]) hf (by simp)).keeps HGE.out HB4.out); clear hf))
     have HX5 := Aside0.mk (HX2.out.below HB5.out)
     have HG5 := Aside0.mk (HG2.out.below HB5.out)
     have hlen := HG5.out.done_.1
     have HLL := Aside0.mk (show (ss ++ [((Ax, x.length, cx) : ShpV)]).length = (done ++ [x]).length by simp [hlen])
     have HRD5 := Aside0.mk (show Kd.C kdV w5 Ad done.length ss by have := Kd.R_reads' HG5.out.done_.2.1; rw [this.1]; exact this.2.2)
     have HWL := Aside0.mk HSTART.out.1.size
     have hsl : ss.length ≤ 5 := by omega
     refine start_ (n := 16) (S := fun w' => FrB [] w5 w') (ds := [10]) #[false, false, false, false, false, false, false, false, false, false, false, false, false, false, false, false] (by kernel_rfl) rfl rfl (FrB.below (below_drew (Below.refl _ _))) (fun hHeld => ?_)
     refine pure_ (i := 0) (N := some 64) (v := ?_) (a' := ?_) #[true, false, false, false, false, false, false, false, false, false, false, false, false, false, false, false] rfl rfl (by kernel_rfl) (fun _ _ _ h => h) (Or.inl ⟨by rfl, ?_⟩) ?_ ?_
     rotate_left
     ·intro w'
      go_simp
      with_reducible rfl
     rotate_left
     ·simp only [Act.put, List.setIfInBounds_toArray, List.set_cons_zero, List.set_cons_succ, i64_w, i32_w]
      rfl
     refine pure_ (i := 2) (N := some 66) (v := ?_) (a' := ?_) #[true, false, true, false, false, false, false, false, false, false, false, false, false, false, false, false] rfl rfl (by kernel_rfl) (fun _ _ _ h => h) (Or.inl ⟨by rfl, ?_⟩) ?_ ?_
     rotate_left
     ·intro w'
      go_simp
      with_reducible rfl
     rotate_left
     ·simp only [Act.put, List.setIfInBounds_toArray, List.set_cons_zero, List.set_cons_succ, i64_w, i32_w]
      rfl
     refine pure_ (i := 4) (N := some 68) (v := ?_) (a' := ?_) #[true, false, true, false, true, false, false, false, false, false, false, false, false, false, false, false] rfl rfl (by kernel_rfl) (fun _ _ _ h => h) (Or.inl ⟨by rfl, ?_⟩) ?_ ?_
     rotate_left
     ·intro w'
      go_simp
      with_reducible rfl
     rotate_left
     ·simp only [Act.put, List.setIfInBounds_toArray, List.set_cons_zero, List.set_cons_succ, i64_w, i32_w]
      rfl
     refine pure_ (i := 5) (N := some 69) (v := ?_) (a' := ?_) #[true, false, true, false, true, true, false, false, false, false, false, false, false, false, false, false] rfl rfl (by kernel_rfl) (fun _ _ _ h => h) (Or.inl ⟨by rfl, ?_⟩) ?_ ?_
     rotate_left
     ·intro w'
      go_simp
      with_reducible rfl
     rotate_left
     ·simp only [Act.put, List.setIfInBounds_toArray, List.set_cons_zero, List.set_cons_succ, i64_w, i32_w]
      rfl
     refine pure_ (i := 6) (N := some 70) (v := ?_) (a' := ?_) #[true, false, true, false, true, true, true, false, false, false, false, false, false, false, false, false] rfl rfl (by kernel_rfl) (fun _ _ _ h => h) (Or.inl ⟨by rfl, ?_⟩) ?_ ?_
     rotate_left
     ·intro w'
      go_simp
      with_reducible rfl
     rotate_left
     ·simp only [Act.put, List.setIfInBounds_toArray, List.set_cons_zero, List.set_cons_succ, i64_w, i32_w]
      rfl
     refine take_ (i := 7) (N := some 71) (v := .slice Ax x.length cx) (a' := ?_) #[true, false, true, false, true, true, true, true, false, false, false, false, false, false, false, false] rfl rfl (by kernel_rfl) (fun _ _ _ h => h) (Or.inl ⟨by rfl, ?_⟩) hHeld ?_ ?_
     ·intro w' s0
      exact y_cell (by rfl) (by rfl) oneHo (s0.read HX5.out.cell)
     rotate_left
     ·simp only [Act.put, List.setIfInBounds_toArray, List.set_cons_zero, List.set_cons_succ, i64_w, i32_w]
      rfl
     refine join_ (σ := Value × Value × Nat) 7 #[true, true, true, true, true, true, true, true, true, false, false, false, false, false, false, false] (fun s => [(65, s.1), (67, s.2.1), (72, .slice (some ⟨s.2.2, 0, none⟩) 1 1)]) (fun s w' => FrB [] w5 w' ∧ Kd.R kdV 28 w' w5.heap.size (fun _ => True) s.2.1 ss ∧ w'.heap[s.2.2]? = some (.cells #[.slice Ax x.length cx] 28 (0, 0))) ?_ ?_
     rotate_left
     ·intro hJ
      refine two_ (i := 1) (j := 8) (Ni := some 65) (Nj := some 72) #[true, true, true, false, true, true, true, true, false, false, false, false, false, false, false, false] #[true, false, true, false, true, true, true, true, true, false, false, false, false, false, false, false] rfl rfl rfl rfl (by kernel_rfl) (by decide) (by decide) (fun K hK => ?_) (fun K hK => ?_)
      ·skip
       refine Kd.R_lit_step kdV (w0 := w5) w5.heap.size 28 (by rfl) (N := 65) rfl (xs := []) (inner := []) (ok := fun _ => True) (okp := fun _ => True) (by first | (go_simp; done) | (go_simp; rfl)) (Reps.none _ _) (fun _ h => h) trivial hHeld.to_below hHeld.size (by simp) ?_
       intro v1 w1 ho1 hb1 hg1 hat1
       have HO1 := Aside0.mk ho1
       (try have HNE := Aside0.mk (show some gb ≠ v1.ownBlock from fun e => by obtain ⟨b, hb, hle⟩ := hat1; rw [hb] at e; injection e with e; have := lt_of_some HGB.out; omega))
       (try replace HGB := Aside0.mk ((hg1.block _ (lt_of_some HGB.out) (by simp)).trans HGB.out))
       clear ho1 hg1 hat1
       refine hK.out _ _ (FrB.below hb1) (fun hHeld => ?_)
       clear hK K
       refine norm_ (a' := ?_) ?_ ?_
       rotate_left
       ·show Act.put _ (some 65) _ = _
        simp only [Act.put, List.setIfInBounds_toArray, List.set_cons_zero, List.set_cons_succ, i64_w, i32_w]
        rfl
       refine two_ (i := 3) (j := 8) (Ni := some 67) (Nj := some 72) #[true, true, true, true, true, true, true, true, false, false, false, false, false, false, false, false] #[true, true, true, false, true, true, true, true, true, false, false, false, false, false, false, false] rfl rfl rfl rfl (by kernel_rfl) (by decide) (by decide) (fun K hK => ?_) (fun K hK => ?_)
       ·skip
        refine Kd.R_append_rows_step kdV (w0 := w5) w5.heap.size (by rfl) (.tmp 65) (.tmp 66) 52 28 (.slice none 0 0) 24 rfl Try.underlying52 infoV rfl (by decide) (by decide) v1 [] ss Ad done.length cd (fun _ => True) (fun _ => False) rfl rfl HO1.out (Kd.C_below HRD5.out hHeld.to_below) (fun _ _ h => h) (fun _ h => h.elim) (fun _ _ => trivial) hHeld.to_below hHeld.size (by simp; omega) ?_
        intro v2 w2 ho2 hb2 hg2 hat2
        have HO2 := Aside0.mk ho2
        (try replace HGB := Aside0.mk ((hg2.block _ (lt_of_some HGB.out) HNE.out).trans HGB.out))
        clear ho2 hg2 hat2
        refine hK.out _ _ (FrB.below hb2) (fun hHeld => ?_)
        clear hK K
        refine norm_ (a' := ?_) ?_ ?_
        rotate_left
        ·show Act.put _ (some 67) _ = _
         simp only [Act.put, List.setIfInBounds_toArray, List.set_cons_zero, List.set_cons_succ, i64_w, i32_w]
         rfl
        refine one_ (i := 8) (N := some 72) #[true, true, true, true, true, true, true, true, true, false, false, false, false, false, false, false] rfl rfl (by kernel_rfl) (by decide) (fun K hK => ?_)
        refine s_litV (u := .slice Ax x.length cx) (e := 28) (by rfl) rfl (by first | (go_simp; done) | (go_simp; rfl)) ?_
        intro gb wg hgb hge hfb
        (try have HNE := Aside0.mk (show some gb ≠ v1.ownBlock from fun e => by have := Kd.R_lt HO1.out gb e.symm; omega))
        have HGB := Aside0.mk hgb
        (try replace HO2 := Aside0.mk (Kd.R_below HO2.out hfb.to_below))
        (try replace HO1 := Aside0.mk (Kd.R_below HO1.out hfb.to_below))
        clear hgb hge
        refine hK.out _ _ (hHeld.trans hfb) (fun hHeld => ?_)
        clear hK K
        refine norm_ (a' := ?_) ?_ ?_
        rotate_left
        ·show Act.put _ (some 72) _ = _
         simp only [Act.put, List.setIfInBounds_toArray, List.set_cons_zero, List.set_cons_succ, i64_w, i32_w]
         rfl
        exact norm_ (by first | (simp only [putAll, Act.put, List.setIfInBounds_toArray, List.set_cons_zero, List.set_cons_succ]; done) | (simp only [putAll, Act.put, List.setIfInBounds_toArray, List.set_cons_zero, List.set_cons_succ]; rfl)) (hJ (v1, v2, gb) _ ⟨hHeld, HO2.out, HGB.out⟩)
       ·skip
        refine s_litV (u := .slice Ax x.length cx) (e := 28) (by rfl) rfl (by first | (go_simp; done) | (go_simp; rfl)) ?_
        intro gb wg hgb hge hfb
        (try have HNE := Aside0.mk (show some gb ≠ v1.ownBlock from fun e => by have := Kd.R_lt HO1.out gb e.symm; omega))
        have HGB := Aside0.mk hgb
        (try replace HO2 := Aside0.mk (Kd.R_below HO2.out hfb.to_below))
        (try replace HO1 := Aside0.mk (Kd.R_below HO1.out hfb.to_below))
        clear hgb hge
        refine hK.out _ _ (hHeld.trans hfb) (fun hHeld => ?_)
        clear hK K
        refine norm_ (a' := ?_) ?_ ?_
        rotate_left
        ·show Act.put _ (some 72) _ = _
         simp only [Act.put, List.setIfInBounds_toArray, List.set_cons_zero, List.set_cons_succ, i64_w, i32_w]
         rfl
        refine one_ (i := 3) (N := some 67) #[true, true, true, true, true, true, true, true, true, false, false, false, false, false, false, false] rfl rfl (by kernel_rfl) (by decide) (fun K hK => ?_)
        refine Kd.R_append_rows_step kdV (w0 := w5) w5.heap.size (by rfl) (.tmp 65) (.tmp 66) 52 28 (.slice none 0 0) 24 rfl Try.underlying52 infoV rfl (by decide) (by decide) v1 [] ss Ad done.length cd (fun _ => True) (fun _ => False) rfl rfl HO1.out (Kd.C_below HRD5.out hHeld.to_below) (fun _ _ h => h) (fun _ h => h.elim) (fun _ _ => trivial) hHeld.to_below hHeld.size (by simp; omega) ?_
        intro v2 w2 ho2 hb2 hg2 hat2
        have HO2 := Aside0.mk ho2
        (try replace HGB := Aside0.mk ((hg2.block _ (lt_of_some HGB.out) HNE.out).trans HGB.out))
        clear ho2 hg2 hat2
        refine hK.out _ _ (FrB.below hb2) (fun hHeld => ?_)
        clear hK K
        refine norm_ (a' := ?_) ?_ ?_
        rotate_left
        ·show Act.put _ (some 67) _ = _
         simp only [Act.put, List.setIfInBounds_toArray, List.set_cons_zero, List.set_cons_succ, i64_w, i32_w]
         rfl
        exact norm_ (by first | (simp only [putAll, Act.put, List.setIfInBounds_toArray, List.set_cons_zero, List.set_cons_succ]; done) | (simp only [putAll, Act.put, List.setIfInBounds_toArray, List.set_cons_zero, List.set_cons_succ]; rfl)) (hJ (v1, v2, gb) _ ⟨hHeld, HO2.out, HGB.out⟩)
      ·skip
       refine s_litV (u := .slice Ax x.length cx) (e := 28) (by rfl) rfl (by first | (go_simp; done) | (go_simp; rfl)) ?_
       intro gb wg hgb hge hfb
       (try have HNE := Aside0.mk (show some gb ≠ v1.ownBlock from fun e => by have := Kd.R_lt HO1.out gb e.symm; omega))
       have HGB := Aside0.mk hgb
       (try replace HO2 := Aside0.mk (Kd.R_below HO2.out hfb.to_below))
       (try replace HO1 := Aside0.mk (Kd.R_below HO1.out hfb.to_below))
       clear hgb hge
       refine hK.out _ _ (hHeld.trans hfb) (fun hHeld => ?_)
       clear hK K
       refine norm_ (a' := ?_) ?_ ?_
       rotate_left
       ·show Act.put _ (some 72) _ = _
        simp only [Act.put, List.setIfInBounds_toArray, List.set_cons_zero, List.set_cons_succ, i64_w, i32_w]
        rfl
       refine one_ (i := 1) (N := some 65) #[true, true, true, false, true, true, true, true, true, false, false, false, false, false, false, false] rfl rfl (by kernel_rfl) (by decide) (fun K hK => ?_)
       refine Kd.R_lit_step kdV (w0 := w5) w5.heap.size 28 (by rfl) (N := 65) rfl (xs := []) (inner := []) (ok := fun _ => True) (okp := fun _ => True) (by first | (go_simp; done) | (go_simp; rfl)) (Reps.none _ _) (fun _ h => h) trivial hHeld.to_below hHeld.size (by simp) ?_
       intro v1 w1 ho1 hb1 hg1 hat1
       have HO1 := Aside0.mk ho1
       (try have HNE := Aside0.mk (show some gb ≠ v1.ownBlock from fun e => by obtain ⟨b, hb, hle⟩ := hat1; rw [hb] at e; injection e with e; have := lt_of_some HGB.out; omega))
       (try replace HGB := Aside0.mk ((hg1.block _ (lt_of_some HGB.out) (by simp)).trans HGB.out))
       clear ho1 hg1 hat1
       refine hK.out _ _ (FrB.below hb1) (fun hHeld => ?_)
       clear hK K
       refine norm_ (a' := ?_) ?_ ?_
       rotate_left
       ·show Act.put _ (some 65) _ = _
        simp only [Act.put, List.setIfInBounds_toArray, List.set_cons_zero, List.set_cons_succ, i64_w, i32_w]
        rfl
       refine one_ (i := 3) (N := some 67) #[true, true, true, true, true, true, true, true, true, false, false, false, false, false, false, false] rfl rfl (by kernel_rfl) (by decide) (fun K hK => ?_)
       refine Kd.R_append_rows_step kdV (w0 := w5) w5.heap.size (by rfl) (.tmp 65) (.tmp 66) 52 28 (.slice none 0 0) 24 rfl Try.underlying52 infoV rfl (by decide) (by decide) v1 [] ss Ad done.length cd (fun _ => True) (fun _ => False) rfl rfl HO1.out (Kd.C_below HRD5.out hHeld.to_below) (fun _ _ h => h) (fun _ h => h.elim) (fun _ _ => trivial) hHeld.to_below hHeld.size (by simp; omega) ?_
       intro v2 w2 ho2 hb2 hg2 hat2
       have HO2 := Aside0.mk ho2
       (try replace HGB := Aside0.mk ((hg2.block _ (lt_of_some HGB.out) HNE.out).trans HGB.out))
       clear ho2 hg2 hat2
       refine hK.out _ _ (FrB.below hb2) (fun hHeld => ?_)
       clear hK K
       refine norm_ (a' := ?_) ?_ ?_
       rotate_left
       ·show Act.put _ (some 67) _ = _
        simp only [Act.put, List.setIfInBounds_toArray, List.set_cons_zero, List.set_cons_succ, i64_w, i32_w]
        rfl
       exact norm_ (by first | (simp only [putAll, Act.put, List.setIfInBounds_toArray, List.set_cons_zero, List.set_cons_succ]; done) | (simp only [putAll, Act.put, List.setIfInBounds_toArray, List.set_cons_zero, List.set_cons_succ]; rfl)) (hJ (v1, v2, gb) _ ⟨hHeld, HO2.out, HGB.out⟩)
     rintro ⟨v1, v2, gb⟩ wj ⟨hHeld, hj1, hj2⟩
     have HO2 := Aside0.mk hj1
     have HGB := Aside0.mk hj2
     clear hj1 hj2
     dsimp only at HO2 HGB
     refine norm_ (a' := ?_) ?_ ?_
     rotate_left
     ·simp only [putAll, Act.put, List.setIfInBounds_toArray, List.set_cons_zero, List.set_cons_succ]
      rfl
     refine one_ (i := 9) (N := some 73) #[true, true, true, true, true, true, true, true, true, true, false, false, false, false, false, false] rfl rfl (by kernel_rfl) (by decide) (fun K hK => ?_)
     refine Kd.R_append_rows_step kdV (w0 := w5) w5.heap.size (by rfl) (.tmp 67) (.tmp 72) 52 28 (.slice none 0 0) 24 rfl Try.underlying52 infoV rfl (by decide) (by decide) v2 ss [(Ax, x.length, cx)] (some ⟨gb, 0, none⟩) 1 1 (fun _ => True) (fun _ => False) rfl rfl HO2.out (row1V HGB.out) (fun _ _ h => h) (fun _ h => h.elim) (fun _ _ => trivial) hHeld.to_below hHeld.size (by omega) ?_
     intro v3 w3 ho3 hb3 hg3 hat3
     obtain ⟨A73, c73, hv73⟩ := Kd.R_slice ho3
     rw [HLL.out] at hv73
     subst hv73
     have HO3 := Aside0.mk (Kd.R_lower ho3 HG5.out.bel.size)
     clear ho3 hg3 hat3
     refine hK.out _ _ (FrB.below hb3) (fun hHeld => ?_)
     clear hK K
     refine norm_ (a' := ?_) ?_ ?_
     rotate_left
     ·show Act.put _ (some 73) _ = _
      simp only [Act.put, List.setIfInBounds_toArray, List.set_cons_zero, List.set_cons_succ, i64_w, i32_w]
      rfl
     refine last_ (i := 10) (N := some 74) #[true, true, true, true, true, true, true, true, true, true, true, false, false, false, false, false] rfl rfl (by kernel_rfl) (by decide) (fun K hK => ?_)
     refine goes_ Try.func43 (by kernel_rfl) rfl #[.pointer (some ⟨gs, 0, none⟩), .pointer (some ⟨g10, 0, none⟩), .slice A73 (done ++ [x]).length c73] (by rfl) rfl rfl (by simp only [List.map_toArray, List.map_cons, List.map_nil]; rfl) ?_
     refine (HRX.out g10 A73 c73 (ss ++ [(Ax, x.length, cx)]) _ _ (below_then HG5.out.bel hHeld.to_below) (hHeld.row HG5.out.box (by simp)) (hHeld.row HL5.out (by simp)) (Nat.le_refl _) (HG5.out.done_.push (fun k t cs hk _ => hHeld.other k (lt_of_some hk) (by simp)) HO3.out (Kd.R_lower (Kd.R_mono (Kd.R_bound (Kd.R_below HX5.out.row hHeld.to_below)) (fun k hk => ⟨Nat.le_trans hN hk.2.1, hk.2.2.1⟩)) HWL.out) (Nat.le_trans hN (Nat.le_trans HG5.out.fr.size hHeld.size)))).mono ?_
     rintro e w7 ⟨v7, rfl, hS, hbx, hf⟩
     refine ⟨_, rfl, ?_⟩
     refine hK.out _ _ ?_
     clear hK K
     refine norm_ (a' := ?_) ?_ ?_
     rotate_left
     ·show Act.put _ (some 74) _ = _
      simp only [Act.put, List.setIfInBounds_toArray, List.set_cons_zero, List.set_cons_succ, i64_w, i32_w]
      rfl
     refine pure_ (i := 11) (N := some 63) (v := ?_) (a' := ?_) #[true, true, true, true, true, true, true, true, true, true, true, true, false, false, false, false] rfl rfl (by kernel_rfl) (fun _ _ _ h => h) (Or.inl ⟨by rfl, ?_⟩) ?_ ?_
     rotate_left
     ·intro w'
      go_simp
      with_reducible rfl
     rotate_left
     ·simp only [Act.put, List.setIfInBounds_toArray, List.set_cons_zero, List.set_cons_succ, i64_w, i32_w]
      rfl
     refine pure_ (i := 12) (N := some 75) (v := ?_) (a' := ?_) #[true, true, true, true, true, true, true, true, true, true, true, true, true, false, false, false] rfl rfl (by kernel_rfl) (fun _ _ _ h => h) (Or.inl ⟨by rfl, ?_⟩) ?_ ?_
     rotate_left
     ·intro w'
      go_simp
      with_reducible rfl
     rotate_left
     ·simp only [Act.put, List.setIfInBounds_toArray, List.set_cons_zero, List.set_cons_succ, i64_w, i32_w]
      rfl
     refine pure_ (i := 13) (N := some 76) (v := ?_) (a' := ?_) #[true, true, true, true, true, true, true, true, true, true, true, true, true, true, false, false] rfl rfl (by kernel_rfl) (fun _ _ _ h => h) (Or.inl ⟨by rfl, ?_⟩) ?_ ?_
     rotate_left
     ·intro w'
      go_simp
      with_reducible rfl
     rotate_left
     ·simp only [Act.put, List.setIfInBounds_toArray, List.set_cons_zero, List.set_cons_succ, i64_w, i32_w]
      rfl
     refine pure_ (i := 14) (N := some 11) (v := ?_) (a' := ?_) #[true, true, true, true, true, true, true, true, true, true, true, true, true, true, true, false] rfl rfl (by kernel_rfl) (fun _ _ _ h => h) (Or.inl ⟨by rfl, ?_⟩) ?_ ?_
     rotate_left
     ·intro w'
      go_simp
      with_reducible rfl
     rotate_left
     ·simp only [Act.put, List.setIfInBounds_toArray, List.set_cons_zero, List.set_cons_succ, i64_w, i32_w]
      rfl
     refine pure_ (i := 15) (N := some 12) (v := ?_) (a' := ?_) #[true, true, true, true, true, true, true, true, true, true, true, true, true, true, true, true] rfl rfl (by kernel_rfl) (fun _ _ _ h => h) (Or.inl ⟨by rfl, ?_⟩) ?_ ?_
     rotate_left
     ·intro w'
      go_simp
      with_reducible rfl
     rotate_left
     ·simp only [Act.put, List.setIfInBounds_toArray, List.set_cons_zero, List.set_cons_succ, i64_w, i32_w]
      rfl
     refine done_ (by kernel_rfl) ?_
     have HG7 := Aside0.mk ((HG5.out.below hHeld.to_below).next hf hbx)
     have HS7 := Aside0.mk hS
     clear hS hbx hf hHeld
     rcases hcode with rfl | rfl | rfl
     ·have HF0 := Aside0.mk (HFD.out (by decide))
      clear HFD HNX
      go_wp2_with fail
      go_ret2
      exact ⟨_, by rw [HF0.out]; rfl, by rw [HF0.out]; exact HS7.out, by rw [HF0.out]; exact HG7.out.box, HG7.out.fr⟩
     ·have HN6 := Aside0.mk (HNX.out rfl)
      have hle : t ≤ rt := le_step ht1 hlo
      have hms : all.length - (i + 1) < all.length - i := lt_step hia
      clear HFD HNX hlo hsl hlen hx8 hw1 hd6 hd hlt ht0 hge hbd h6 hN ht1 ht2 htb
      go_wp2_with fail
      go_roundw
      case rel => exact ⟨i + 1, rt, hia, by go_num, HG7, hle, hhi, HN6⟩
      case measure =>
       simp [intOf]
       exact hms
     ·have HF0 := Aside0.mk (HFD.out (by decide))
      clear HFD HNX
      go_wp2_with fail
      go_ret2
      exact ⟨_, by rw [HF0.out]; rfl, by rw [HF0.out]; exact HS7.out, by rw [HF0.out]; exact HG7.out.box, HG7.out.fr⟩
   ·obtain rfl : i = all.length := by omega
    have HT2 := Aside0.mk (show res = (([], 6), t2) by rw [HT.out, List.drop_length]; rfl)
    have HBX := Aside0.mk HG.out.box
    go_wp2_with ((with_reducible refine gate_dst (N := 81) rfl ?_); refine Kd.R_lit kdV (w0 := w0) w0.heap.size 28 ?hg (N := 81) ?hd (xs := []) (inner := []) (ok := fun _ => True) (okp := fun _ => True) ?hr ?hp (fun _ hk => hk) trivial HG.out.bel HG.out.bel.size (by simp) ?_; (case hd => rfl); (case hg => rfl); (case hr => first | (go_simp; done) | (go_simp; rfl)); (case hp => exact (Reps.none _ _)); intro v81 w2 ho hb hgr _; have HE := Aside0.mk (LV.nil (N := 0) ho).toS; have HGR := Aside0.mk hgr; clear ho hb hgr)
    go_ret2
    exact ⟨_, by rw [HT2.out]; rfl, by rw [HT2.out]; exact HE.out, by rw [HT2.out]; exact (HGR.out.block _ (lt_of_some HBX.out) (by simp)).trans HBX.out, HG.out.fr.grown HGR.out (by simp)⟩
end Go.Proofs.Ytfgogdhhihbcjaa.Arr
namespace Go.Proofs.Ytfgogdhhihbcjaa.Arr
open Go.RowKit Go.Proofs.YtfgogdhhihbcjaaW.PrintWords Go.Proofs.YtfgogdhhihbcjaaW.PrintLast Go.Proofs.YtfgogdhhihbcjaaW.PrintMore Go.Proofs.Ytfgogdhhihbcjaa.U Go.Proofs.Ytfgogdhhihbcjaa.H
set_option linter.unusedVariables false
set_option linter.unusedSimpArgs false
def hsCode (L : List Int) (ms : List (List Int)) (budget : Int) : Int := if codeMs L ms = 0 then (if 0 ≤ budget ∧ budget ≤ 20000 then 0 else 2) else codeMs L ms
def hsW (L : List Int) (ms : List (List Int)) (budget : Int) : List (List Int) × Int × Int :=
 if hsCode L ms budget = 0 then (if (goW ms budget ms.length L [] 0).1.2 = 0 then ((goW ms budget ms.length L [] 0).1.1, (goW ms budget ms.length L [] 0).2, 0) else ([], 0, (goW ms budget ms.length L [] 0).1.2)) else ([], 0, hsCode L ms budget)
theorem l00In_calls (a lo hi : Int) (w : World) : Calls Try.prog 42 #[.int .i64 a, .int .i64 lo, .int .i64 hi] w fun e w' => e = .returned (.bool (decide (lo ≤ a ∧ a ≤ hi))) ∧ Below w.heap.size w w' := by
 refine (spec_l00In.calls a lo hi (decide (lo ≤ a ∧ a ≤ hi)) w ?_).mono ?_
 ·unfold spec_l00In.f
  by_cases h : lo ≤ a
  ·rw [if_pos (by omega)]; simp [h]
  ·rw [if_neg (by omega), decide_eq_false (fun e => h e.1)]
 ·rintro e w' ⟨rfl, hb⟩
  exact ⟨rfl, by first | exact hb | exact hb.below⟩
set_option maxHeartbeats 8000000 in
set_option maxRecDepth 100000 in
theorem specHoists_calls (L : List Int) (A0 : Option Addr) (c0 : Nat) (ms : List (List Int)) (budget : Int) (w : World) (hl : L.length = 44) (hw : Fits .i16 L) (hr : Kd.C kH w A0 ms.length ms) (hc : ms.length ≤ c0) (hs : ∀ x ∈ ms, Small8 x) (hn : ms.length ≤ 1048576) :
  Calls Try.prog 24 #[.agg (vals .i16 L), .slice A0 ms.length c0, .int .i64 budget] w fun e w' => ∃ v, e = .returned (.tuple #[v, .int .i64 (hsW L ms budget).2.1, .int .i64 (hsW L ms budget).2.2]) ∧ Kd.S kH 28 w' w.heap.size (fun _ => True) v (hsW L ms budget).1 ∧ Below w.heap.size w w' := by
 have hm := Mem.start w
 have HMT := Aside0.mk (fun g W (hW : Below w.heap.size w W) (hg : W.heap[g]? = some (.cells (vals .i16 L) 31 (0, 0))) => l04Meant_calls g L A0 c0 ms W hg hl hw (Kd.C_below hr hW) hc hs hn)
 have HIN := Aside0.mk (fun W => l00In_calls budget 0 20000 W)
 rcases codeMs_cases L ms with h0 | h0 | h0
 ·rw [h0] at HMT
  by_cases hb : 0 ≤ budget ∧ budget ≤ 20000
  ·have HRES0 := Aside0.mk (show hsW L ms budget = (if (goW ms budget ms.length L [] 0).1.2 = 0 then ((goW ms budget ms.length L [] 0).1.1, (goW ms budget ms.length L [] 0).2, 0) else ([], 0, (goW ms budget ms.length L [] 0).1.2)) by unfold hsW; rw [if_pos (by unfold hsCode; rw [if_pos h0, if_pos hb])])
   rw [decide_eq_true hb] at HIN
   obtain ⟨hok, hpl, h6⟩ := codeMs_ok h0
   have hgo := goW_ok (ms := ms) (budget := budget) hpl ms.length L [] 0 (by simp) hl (fun j hj => (okL_bd hok hl j hj).1) (by simp) hb.1
   have HGO := Aside0.mk (fun gs gl Ad cd W (hge : w.heap.size ≤ gs) (hbel : Below w.heap.size w W) (hbx : W.heap[gs]? = some (.cells (scC A0 ms.length c0 budget 0) 80 (0, 0))) (hlk : W.heap[gl]? = some (.cells (vals .i16 L) 31 (0, 0))) (hlv : LV w.heap.size 0 W (.slice Ad ([] : List (List Int)).length cd) [] []) => go_calls (w0 := w) gs A0 c0 ms budget hr hpl hb h6 ms.length L gl [] Ad cd [] 0 0 W (by simp) hl (okL_bd hok hl) (by simp) (Int.le_refl _) hb.1 hge hbel hbx hlk (Nat.zero_le _) hlv)
   have hcode := hgo.code
   have HNN := Aside0.mk hgo.none
   clear hr hs hw hok hpl h0 hgo
   generalize goW ms budget ms.length L [] 0 = r at *
   obtain ⟨⟨ro, rc⟩, rt⟩ := r
   dsimp only at HRES0 HGO hcode HNN
   rcases hcode with rfl | rfl | rfl
   ·have HRES := Aside0.mk (HRES0.out.trans (if_pos rfl))
    clear HRES0 HNN
    go_enter Try.func24, Try.ntmps24
    go_wp2_with (first
     | ((with_reducible refine gt_box 3 31 ?_); refine st_box rfl 3 rfl 31 _ rfl hm (v := .agg (vals _ _)) rfl (cs := vals _ _) rfl ?_; clear hm; intro g3 w1 hm; have HB1 := Aside0.mk (hm.done rfl); have HG1 := Aside0.mk (hm.mem (n := 0) rfl); clear hm)
     | (go_at_call 38; refine (HMT.out _ _ HB1.out HG1.out).mono ?_; rintro e w2 ⟨rfl, h⟩; have HB2 := Aside0.mk (below_then HB1.out h); have HG2 := Aside0.mk ((h.block _ (lt_of_some HG1.out)).trans HG1.out); clear h)
     | (go_at_call 42; refine (HIN.out _).mono ?_; rintro e w3 ⟨rfl, h⟩; have HB3 := Aside0.mk (below_then HB2.out h); have HG3 := Aside0.mk ((h.block _ (lt_of_some HG2.out)).trans HG2.out); clear h; have hm3 := Mem.start w3)
     | ((with_reducible refine gt_box 29 80 ?_); refine st_box rfl 29 rfl 80 _ rfl hm3 (v := .agg (scC A0 ms.length c0 budget 0)) rfl (cs := scC A0 ms.length c0 budget 0) rfl ?_; clear hm3; intro g10 w4 hm4; have HB4 := Aside0.mk (below_then HB3.out (hm4.done rfl)); have HG4 := Aside0.mk (((hm4.done rfl).block _ (lt_of_some HG3.out)).trans HG3.out); have HS4 := Aside0.mk (hm4.mem (n := 0) rfl); have HGE := Aside0.mk (Nat.le_trans HB3.out.size (hm4.own_ge 0 rfl)); clear hm4)
     | ((with_reducible refine gate_dst (N := 32) rfl ?_); refine Kd.R_lit kdV (w0 := w) w.heap.size 28 ?hg (N := 32) ?hd (xs := []) (inner := []) (ok := fun _ => True) (okp := fun _ => True) ?hr ?hp (fun _ hk => hk) trivial HB4.out HB4.out.size (by simp) ?_; (case hd => rfl); (case hg => rfl); (case hr => first | (go_simp; done) | (go_simp; rfl)); (case hp => exact (Reps.none _ _)); intro v32 w5 ho hb hgr _; obtain ⟨A32, c32, rfl⟩ := Kd.R_slice ho; have HLV := Aside0.mk (LV.nil (N := 0) ho); have HB5 := Aside0.mk hb; have HG5 := Aside0.mk ((hgr.block _ (lt_of_some HG4.out) (by simp)).trans HG4.out); have HS5 := Aside0.mk ((hgr.block _ (lt_of_some HS4.out) (by simp)).trans HS4.out); clear ho hb hgr)
     | (go_at_call 43; refine (HGO.out g10 g3 A32 c32 _ HGE.out HB5.out HS5.out HG5.out HLV.out).mono ?_; rintro e w6 ⟨v6, rfl, hS, hbx, hf⟩; have HS6 := Aside0.mk hS; have HX6 := Aside0.mk hbx; have HB6 := Aside0.mk (hf.keeps HGE.out HB5.out); clear hS hbx hf))
    refine start_ (n := 8) (S := fun w' => Below w6.heap.size w6 w') (ds := []) #[false, false, false, false, false, false, false, false] (by kernel_rfl) rfl rfl (below_drew (Below.refl _ _)) (fun hHeld => ?_)
    refine pure_ (i := 0) (N := some 40) (v := ?_) (a' := ?_) #[true, false, false, false, false, false, false, false] rfl rfl (by kernel_rfl) (fun _ _ _ h => h) (Or.inl ⟨by rfl, ?_⟩) ?_ ?_
    rotate_left
    ·intro w'
     go_simp
     with_reducible rfl
    rotate_left
    ·simp only [Act.put, List.setIfInBounds_toArray, List.set_cons_zero, List.set_cons_succ, i64_w, i32_w]
     rfl
    refine pure_ (i := 1) (N := some 41) (v := ?_) (a' := ?_) #[true, true, false, false, false, false, false, false] rfl rfl (by kernel_rfl) (fun _ _ _ h => h) (Or.inl ⟨by rfl, ?_⟩) ?_ ?_
    rotate_left
    ·intro w'
     go_simp
     with_reducible rfl
    rotate_left
    ·simp only [Act.put, List.setIfInBounds_toArray, List.set_cons_zero, List.set_cons_succ, i64_w, i32_w]
     rfl
    refine pure_ (i := 2) (N := some 42) (v := ?_) (a' := ?_) #[true, true, true, false, false, false, false, false] rfl rfl (by kernel_rfl) (fun _ _ _ h => h) (Or.inl ⟨by rfl, ?_⟩) ?_ ?_
    rotate_left
    ·intro w'
     go_simp
     with_reducible rfl
    rotate_left
    ·simp only [Act.put, List.setIfInBounds_toArray, List.set_cons_zero, List.set_cons_succ, i64_w, i32_w]
     rfl
    refine pure_ (i := 3) (N := some 43) (v := ?_) (a' := ?_) #[true, true, true, true, false, false, false, false] rfl rfl (by kernel_rfl) (fun _ _ _ h => h) (Or.inl ⟨by rfl, ?_⟩) ?_ ?_
    rotate_left
    ·intro w'
     go_simp
     with_reducible rfl
    rotate_left
    ·simp only [Act.put, List.setIfInBounds_toArray, List.set_cons_zero, List.set_cons_succ, i64_w, i32_w]
     rfl
    refine pure_ (i := 5) (N := some 6) (v := ?_) (a' := ?_) #[true, true, true, true, false, true, false, false] rfl rfl (by kernel_rfl) (fun _ _ _ h => h) (Or.inl ⟨by rfl, ?_⟩) ?_ ?_
    rotate_left
    ·intro w'
     go_simp
     with_reducible rfl
    rotate_left
    ·simp only [Act.put, List.setIfInBounds_toArray, List.set_cons_zero, List.set_cons_succ, i64_w, i32_w]
     rfl
    refine take_ (i := 4) (N := some 44) (v := .int .i64 rt) (a' := ?_) #[true, true, true, true, true, true, false, false] rfl rfl (by kernel_rfl) (fun _ _ _ h => h) (Or.inl ⟨by rfl, ?_⟩) hHeld ?_ ?_
    ·intro w' s0
     exact y_cell (by rfl) (by rfl) oneI64O ((FrB.below s0 : FrB [] w6 w').read ((blk_cell HX6.out 2).trans rfl))
    rotate_left
    ·simp only [Act.put, List.setIfInBounds_toArray, List.set_cons_zero, List.set_cons_succ, i64_w, i32_w]
     rfl
    refine pure_ (i := 6) (N := some 7) (v := ?_) (a' := ?_) #[true, true, true, true, true, true, true, false] rfl rfl (by kernel_rfl) (fun _ _ _ h => h) (Or.inl ⟨by rfl, ?_⟩) ?_ ?_
    rotate_left
    ·intro w'
     go_simp
     with_reducible rfl
    rotate_left
    ·simp only [Act.put, List.setIfInBounds_toArray, List.set_cons_zero, List.set_cons_succ, i64_w, i32_w]
     rfl
    refine pure_ (i := 7) (N := some 8) (v := ?_) (a' := ?_) #[true, true, true, true, true, true, true, true] rfl rfl (by kernel_rfl) (fun _ _ _ h => h) (Or.inl ⟨by rfl, ?_⟩) ?_ ?_
    rotate_left
    ·intro w'
     go_simp
     with_reducible rfl
    rotate_left
    ·simp only [Act.put, List.setIfInBounds_toArray, List.set_cons_zero, List.set_cons_succ, i64_w, i32_w]
     rfl
    refine done_ (by kernel_rfl) ?_
    skip
    go_wp2_with fail
    go_ret3
    exact ⟨_, by rw [HRES.out]; rfl, by rw [HRES.out]; exact Kd.S_below HS6.out hHeld, below_then HB6.out hHeld⟩
   ·have HRES := Aside0.mk (HRES0.out.trans (if_neg (by decide)))
    clear HRES0 HNN
    go_enter Try.func24, Try.ntmps24
    go_wp2_with (first
     | ((with_reducible refine gate_dst (N := 38) rfl ?_); refine Kd.R_lit kdV (w0 := w) w.heap.size 28 ?hg (N := 38) ?hd (xs := []) (inner := []) (ok := fun _ => True) (okp := fun _ => True) ?hr ?hp (fun _ hk => hk) trivial HB6.out HB6.out.size (by simp) ?_; (case hd => rfl); (case hg => rfl); (case hr => first | (go_simp; done) | (go_simp; rfl)); (case hp => exact (Reps.none _ _)); intro vE wE ho hb _ _; have HE := Aside0.mk (And.intro (LV.nil (N := 0) ho).toS hb); clear ho hb)
     | ((with_reducible refine gt_box 3 31 ?_); refine st_box rfl 3 rfl 31 _ rfl hm (v := .agg (vals _ _)) rfl (cs := vals _ _) rfl ?_; clear hm; intro g3 w1 hm; have HB1 := Aside0.mk (hm.done rfl); have HG1 := Aside0.mk (hm.mem (n := 0) rfl); clear hm)
     | (go_at_call 38; refine (HMT.out _ _ HB1.out HG1.out).mono ?_; rintro e w2 ⟨rfl, h⟩; have HB2 := Aside0.mk (below_then HB1.out h); have HG2 := Aside0.mk ((h.block _ (lt_of_some HG1.out)).trans HG1.out); clear h)
     | (go_at_call 42; refine (HIN.out _).mono ?_; rintro e w3 ⟨rfl, h⟩; have HB3 := Aside0.mk (below_then HB2.out h); have HG3 := Aside0.mk ((h.block _ (lt_of_some HG2.out)).trans HG2.out); clear h; have hm3 := Mem.start w3)
     | ((with_reducible refine gt_box 29 80 ?_); refine st_box rfl 29 rfl 80 _ rfl hm3 (v := .agg (scC A0 ms.length c0 budget 0)) rfl (cs := scC A0 ms.length c0 budget 0) rfl ?_; clear hm3; intro g10 w4 hm4; have HB4 := Aside0.mk (below_then HB3.out (hm4.done rfl)); have HG4 := Aside0.mk (((hm4.done rfl).block _ (lt_of_some HG3.out)).trans HG3.out); have HS4 := Aside0.mk (hm4.mem (n := 0) rfl); have HGE := Aside0.mk (Nat.le_trans HB3.out.size (hm4.own_ge 0 rfl)); clear hm4)
     | ((with_reducible refine gate_dst (N := 32) rfl ?_); refine Kd.R_lit kdV (w0 := w) w.heap.size 28 ?hg (N := 32) ?hd (xs := []) (inner := []) (ok := fun _ => True) (okp := fun _ => True) ?hr ?hp (fun _ hk => hk) trivial HB4.out HB4.out.size (by simp) ?_; (case hd => rfl); (case hg => rfl); (case hr => first | (go_simp; done) | (go_simp; rfl)); (case hp => exact (Reps.none _ _)); intro v32 w5 ho hb hgr _; obtain ⟨A32, c32, rfl⟩ := Kd.R_slice ho; have HLV := Aside0.mk (LV.nil (N := 0) ho); have HB5 := Aside0.mk hb; have HG5 := Aside0.mk ((hgr.block _ (lt_of_some HG4.out) (by simp)).trans HG4.out); have HS5 := Aside0.mk ((hgr.block _ (lt_of_some HS4.out) (by simp)).trans HS4.out); clear ho hb hgr)
     | (go_at_call 43; refine (HGO.out g10 g3 A32 c32 _ HGE.out HB5.out HS5.out HG5.out HLV.out).mono ?_; rintro e w6 ⟨v6, rfl, hS, hbx, hf⟩; have HS6 := Aside0.mk hS; have HX6 := Aside0.mk hbx; have HB6 := Aside0.mk (hf.keeps HGE.out HB5.out); clear hS hbx hf))
    go_ret3
    exact ⟨_, by rw [HRES.out]; rfl, by rw [HRES.out]; exact HE.out.1, HE.out.2⟩
   ·have HRES := Aside0.mk (HRES0.out.trans (if_neg (by decide)))
    clear HRES0 HNN
    go_enter Try.func24, Try.ntmps24
    go_wp2_with (first
     | ((with_reducible refine gate_dst (N := 38) rfl ?_); refine Kd.R_lit kdV (w0 := w) w.heap.size 28 ?hg (N := 38) ?hd (xs := []) (inner := []) (ok := fun _ => True) (okp := fun _ => True) ?hr ?hp (fun _ hk => hk) trivial HB6.out HB6.out.size (by simp) ?_; (case hd => rfl); (case hg => rfl); (case hr => first | (go_simp; done) | (go_simp; rfl)); (case hp => exact (Reps.none _ _)); intro vE wE ho hb _ _; have HE := Aside0.mk (And.intro (LV.nil (N := 0) ho).toS hb); clear ho hb)
     | ((with_reducible refine gt_box 3 31 ?_); refine st_box rfl 3 rfl 31 _ rfl hm (v := .agg (vals _ _)) rfl (cs := vals _ _) rfl ?_; clear hm; intro g3 w1 hm; have HB1 := Aside0.mk (hm.done rfl); have HG1 := Aside0.mk (hm.mem (n := 0) rfl); clear hm)
     | (go_at_call 38; refine (HMT.out _ _ HB1.out HG1.out).mono ?_; rintro e w2 ⟨rfl, h⟩; have HB2 := Aside0.mk (below_then HB1.out h); have HG2 := Aside0.mk ((h.block _ (lt_of_some HG1.out)).trans HG1.out); clear h)
     | (go_at_call 42; refine (HIN.out _).mono ?_; rintro e w3 ⟨rfl, h⟩; have HB3 := Aside0.mk (below_then HB2.out h); have HG3 := Aside0.mk ((h.block _ (lt_of_some HG2.out)).trans HG2.out); clear h; have hm3 := Mem.start w3)
     | ((with_reducible refine gt_box 29 80 ?_); refine st_box rfl 29 rfl 80 _ rfl hm3 (v := .agg (scC A0 ms.length c0 budget 0)) rfl (cs := scC A0 ms.length c0 budget 0) rfl ?_; clear hm3; intro g10 w4 hm4; have HB4 := Aside0.mk (below_then HB3.out (hm4.done rfl)); have HG4 := Aside0.mk (((hm4.done rfl).block _ (lt_of_some HG3.out)).trans HG3.out); have HS4 := Aside0.mk (hm4.mem (n := 0) rfl); have HGE := Aside0.mk (Nat.le_trans HB3.out.size (hm4.own_ge 0 rfl)); clear hm4)
     | ((with_reducible refine gate_dst (N := 32) rfl ?_); refine Kd.R_lit kdV (w0 := w) w.heap.size 28 ?hg (N := 32) ?hd (xs := []) (inner := []) (ok := fun _ => True) (okp := fun _ => True) ?hr ?hp (fun _ hk => hk) trivial HB4.out HB4.out.size (by simp) ?_; (case hd => rfl); (case hg => rfl); (case hr => first | (go_simp; done) | (go_simp; rfl)); (case hp => exact (Reps.none _ _)); intro v32 w5 ho hb hgr _; obtain ⟨A32, c32, rfl⟩ := Kd.R_slice ho; have HLV := Aside0.mk (LV.nil (N := 0) ho); have HB5 := Aside0.mk hb; have HG5 := Aside0.mk ((hgr.block _ (lt_of_some HG4.out) (by simp)).trans HG4.out); have HS5 := Aside0.mk ((hgr.block _ (lt_of_some HS4.out) (by simp)).trans HS4.out); clear ho hb hgr)
     | (go_at_call 43; refine (HGO.out g10 g3 A32 c32 _ HGE.out HB5.out HS5.out HG5.out HLV.out).mono ?_; rintro e w6 ⟨v6, rfl, hS, hbx, hf⟩; have HS6 := Aside0.mk hS; have HX6 := Aside0.mk hbx; have HB6 := Aside0.mk (hf.keeps HGE.out HB5.out); clear hS hbx hf))
    go_ret3
    exact ⟨_, by rw [HRES.out]; rfl, by rw [HRES.out]; exact HE.out.1, HE.out.2⟩
  ·have HRES := Aside0.mk (show hsW L ms budget = ([], 0, 2) by
    have h2 : hsCode L ms budget = 2 := by unfold hsCode; rw [if_pos h0, if_neg hb]
    unfold hsW
    rw [if_neg (by rw [h2]; decide), h2])
   rw [decide_eq_false hb] at HIN
   clear hr hs hw h0
   go_enter Try.func24, Try.ntmps24
   go_wp2_with (first
    | ((with_reducible refine gate_dst (N := 24) rfl ?_); refine Kd.R_lit kdV (w0 := w) w.heap.size 28 ?hg (N := 24) ?hd (xs := []) (inner := []) (ok := fun _ => True) (okp := fun _ => True) ?hr ?hp (fun _ hk => hk) trivial HB3.out HB3.out.size (by simp) ?_; (case hd => rfl); (case hg => rfl); (case hr => first | (go_simp; done) | (go_simp; rfl)); (case hp => exact (Reps.none _ _)); intro vE wE ho hb _ _; have HE := Aside0.mk (And.intro (LV.nil (N := 0) ho).toS hb); clear ho hb)
    | ((with_reducible refine gt_box 3 31 ?_); refine st_box rfl 3 rfl 31 _ rfl hm (v := .agg (vals _ _)) rfl (cs := vals _ _) rfl ?_; clear hm; intro g3 w1 hm; have HB1 := Aside0.mk (hm.done rfl); have HG1 := Aside0.mk (hm.mem (n := 0) rfl); clear hm)
    | (go_at_call 38; refine (HMT.out _ _ HB1.out HG1.out).mono ?_; rintro e w2 ⟨rfl, h⟩; have HB2 := Aside0.mk (below_then HB1.out h); have HG2 := Aside0.mk ((h.block _ (lt_of_some HG1.out)).trans HG1.out); clear h)
    | (go_at_call 42; refine (HIN.out _).mono ?_; rintro e w3 ⟨rfl, h⟩; have HB3 := Aside0.mk (below_then HB2.out h); have HG3 := Aside0.mk ((h.block _ (lt_of_some HG2.out)).trans HG2.out); clear h; have hm3 := Mem.start w3))
   go_ret3
   exact ⟨_, by rw [HRES.out]; rfl, by rw [HRES.out]; exact HE.out.1, HE.out.2⟩
 all_goals
  rw [h0] at HMT
  have HRES := Aside0.mk (show hsW L ms budget = ([], 0, codeMs L ms) by
   have h2 : hsCode L ms budget = codeMs L ms := by unfold hsCode; rw [if_neg (by rw [h0]; decide)]
   unfold hsW
   rw [if_neg (by rw [h2, h0]; decide), h2])
  rw [h0] at HRES
  clear hr hs hw h0
  go_enter Try.func24, Try.ntmps24
  go_wp2_with (first
   | ((with_reducible refine gate_dst (N := 24) rfl ?_); refine Kd.R_lit kdV (w0 := w) w.heap.size 28 ?hg (N := 24) ?hd (xs := []) (inner := []) (ok := fun _ => True) (okp := fun _ => True) ?hr ?hp (fun _ hk => hk) trivial HB2.out HB2.out.size (by simp) ?_; (case hd => rfl); (case hg => rfl); (case hr => first | (go_simp; done) | (go_simp; rfl)); (case hp => exact (Reps.none _ _)); intro vE wE ho hb _ _; have HE := Aside0.mk (And.intro (LV.nil (N := 0) ho).toS hb); clear ho hb)
   | ((with_reducible refine gt_box 3 31 ?_); refine st_box rfl 3 rfl 31 _ rfl hm (v := .agg (vals _ _)) rfl (cs := vals _ _) rfl ?_; clear hm; intro g3 w1 hm; have HB1 := Aside0.mk (hm.done rfl); have HG1 := Aside0.mk (hm.mem (n := 0) rfl); clear hm)
   | (go_at_call 38; refine (HMT.out _ _ HB1.out HG1.out).mono ?_; rintro e w2 ⟨rfl, h⟩; have HB2 := Aside0.mk (below_then HB1.out h); have HG2 := Aside0.mk ((h.block _ (lt_of_some HG1.out)).trans HG1.out); clear h))
  go_ret3
  exact ⟨_, by rw [HRES.out]; rfl, by rw [HRES.out]; exact HE.out.1, HE.out.2⟩
end Go.Proofs.Ytfgogdhhihbcjaa.Arr
namespace Go.Proofs.Ytfgogdhhihbcjaa.Arr
open Go.RowKit Go.Proofs.YtfgogdhhihbcjaaW.PrintWords Go.Proofs.YtfgogdhhihbcjaaW.PrintLast Go.Proofs.YtfgogdhhihbcjaaW.PrintMore Go.Proofs.Ytfgogdhhihbcjaa.U Go.Proofs.Ytfgogdhhihbcjaa.H
set_option linter.unusedVariables false
set_option linter.unusedSimpArgs false
abbrev flC (Al : Option Addr) (n cl : Nat) (budget t : Int) (over : Bool) (v : Value) : Array Value := #[.slice Al n cl, .int .i64 budget, .int .i64 t, .bool over, v]
structure FlS where
 t : Int
 over : Bool
 done : Bool
 out : List (List Int)
def flStep (F : List Int → Int → GoR) (budget : Int) (s : FlS) (h : List Int) : FlS × Bool :=
 if s.t = budget then (⟨s.t, true, s.done, s.out⟩, false) else (⟨(F h (s.t + 1)).2, decide ((F h (s.t + 1)).1.2 = 7), decide ((F h (s.t + 1)).1.2 = 0), (F h (s.t + 1)).1.1⟩, decide ((F h (s.t + 1)).1.2 = 6))
theorem runL_fl (F : List Int → Int → GoR) (budget : Int) : ∀ (l : List (List Int)) (s : FlS), s.over = false → s.done = false →
  ∃ o, runL (flStep F budget) s l = (⟨(tryAll F budget l s.t).2, decide ((tryAll F budget l s.t).1.2 = 7), decide ((tryAll F budget l s.t).1.2 = 0), o⟩, decide ((tryAll F budget l s.t).1.2 = 6)) ∧ ((tryAll F budget l s.t).1.2 = 0 → o = (tryAll F budget l s.t).1.1)
 | [], s, h1, h2 => by
  refine ⟨s.out, ?_, fun h => by simp [tryAll] at h⟩
  rw [runL]
  obtain ⟨t, ov, dn, out⟩ := s
  dsimp only at h1 h2
  subst h1 h2
  simp [tryAll]
 | x :: r, s, h1, h2 => by
  rw [runL]
  by_cases hb : s.t = budget
  ·have hs : flStep F budget s x = (⟨s.t, true, s.done, s.out⟩, false) := by unfold flStep; rw [if_pos hb]
   rw [tryAll_stop hb, hs]
   exact ⟨s.out, by rw [if_neg (by simp), h2]; simp, fun h => by simp at h⟩
  ·have hs : flStep F budget s x = (⟨(F x (s.t + 1)).2, decide ((F x (s.t + 1)).1.2 = 7), decide ((F x (s.t + 1)).1.2 = 0), (F x (s.t + 1)).1.1⟩, decide ((F x (s.t + 1)).1.2 = 6)) := by unfold flStep; rw [if_neg hb]
   by_cases h6 : (F x (s.t + 1)).1.2 = 6
   ·obtain ⟨o, ho, ho2⟩ := runL_fl F budget r ⟨(F x (s.t + 1)).2, decide ((F x (s.t + 1)).1.2 = 7), decide ((F x (s.t + 1)).1.2 = 0), (F x (s.t + 1)).1.1⟩ (by rw [h6]; rfl) (by rw [h6]; rfl)
    rw [tryAll_next hb h6, hs]
    exact ⟨o, by rw [if_pos (by simp [h6])]; exact ho, ho2⟩
   ·rw [tryAll_found hb h6, hs]
    exact ⟨_, by rw [if_neg (by simp [h6])]; simp [h6], fun _ => rfl⟩
def LVok (K : Nat → Prop) (v : Value) (ss : List ShpV) : Prop := (∀ k, v.ownBlock = some k → K k) ∧ ∀ s ∈ ss, ∀ k, (Value.slice s.1 s.2.1 s.2.2).ownBlock = some k → K k
theorem LV.toSK {b N : Nat} {W : World} {v : Value} {ss : List ShpV} {hs : List (List Int)} {K : Nat → Prop} (h : LV b N W v ss hs) (hK : LVok K v ss) : Kd.S kH 28 W b K v hs := by
 obtain ⟨h1, h2, f, h3⟩ := h
 have hty := Kd.R_typed h2
 obtain ⟨_, inner, ho, hr⟩ := h2
 refine ⟨f, hK.1, inner, by rw [List.length_zipIdx, ← h1]; exact ho, by rw [List.length_zipIdx, ← h1]; exact hr.1, fun j p hj => ?_⟩
 have hj1 : j < hs.length := by
  have := (List.getElem?_eq_some_iff.1 hj).1
  simpa using this
 have hx := List.getElem?_eq_getElem hj1
 have hp : p = (hs[j], j) := by
  have := Kd.zip_at hx
  rw [hj] at this
  exact Option.some.inj this
 subst hp
 have hs1 := List.getElem?_eq_getElem (show j < ss.length by omega)
 have hM := hr.2 j _ hs1
 have hcs : (inner.drop (j * 1)).take 1 = [Value.slice ss[j].1 ss[j].2.1 ss[j].2.2] := hM
 have hrow := h3 j _ _ hx hs1
 have hf := hrow.1
 refine ⟨_, hcs, Kd.R_mono (Kd.R_tight rfl hrow) (fun k hk => ⟨⟨hK.2 _ (List.getElem_mem _) k hk.symm, fun e => ?_⟩, (hf k hk.symm).1⟩)⟩
 obtain ⟨cells, hc⟩ := Kd.R_typed hrow k hk.symm
 obtain ⟨cells2, hc2⟩ := hty k e.symm
 rw [hc] at hc2
 injection hc2 with hc2
 injection hc2 with _ hc2
 exact absurd hc2 (by decide)
structure IG (wH w0 : World) (gf g7 : Nat) (Al : Option Addr) (n cl : Nat) (budget : Int) (K : Nat → Prop) (base : Nat) (s : FlS) (W : World) : Prop where
 fr : FrB [gf, g7] wH W
 box : ∃ A m c, W.heap[gf]? = some (.cells (flC Al n cl budget s.t s.over (.slice A m c)) 87 (0, 0)) ∧ (s.done = true → Kd.S kH 28 W w0.heap.size (fun k => K k ∨ base ≤ k) (.slice A m c) s.out)
 var : W.heap[g7]? = some (.cells #[.bool s.done] 4 (0, 0))
 lo : 0 ≤ s.t
 hi : s.t ≤ budget
 ov : s.over = true → s.t = budget
theorem IG.stab {wH w0 : World} {gf g7 : Nat} {Al : Option Addr} {n cl : Nat} {budget : Int} {K : Nat → Prop} {base : Nat} {s : FlS} {w1 w2 : World} {gh : Nat} (h : IG wH w0 gf g7 Al n cl budget K base s w1) (hK : ∀ k, K k → k < wH.heap.size) (hlt : gh < base) (hni : gh ∉ [gf, g7]) (hge : wH.heap.size ≤ gh) (hf : FrB [gh] w1 w2) : IG wH w0 gf g7 Al n cl budget K base s w2 := by
 obtain ⟨A, m, c, hb, hS⟩ := h.box
 simp only [List.mem_cons, List.not_mem_nil, or_false, not_or] at hni
 exact ⟨⟨hf.os.trans h.fr.os, hf.tape.trans h.fr.tape, hf.output.trans h.fr.output, Nat.le_trans h.fr.size hf.size, fun k hk hn => (hf.other k (Nat.lt_of_lt_of_le hk h.fr.size) (by simp; omega)).trans (h.fr.other k hk hn)⟩,
  ⟨A, m, c, hf.row hb (by simp; exact fun e => hni.1 e.symm), fun hd => Kd.S_step (hS hd) (fun k hk hl => hf.other k hl (by
   simp
   rcases hk with hk | hk
   ·have := hK k hk; omega
   ·omega))⟩, hf.row h.var (by simp; exact fun e => hni.2 e.symm), h.lo, h.hi, h.ov⟩
theorem oneHsS : OneTy Try.prog 52 := ⟨by kernel_rfl, by kernel_rfl⟩
theorem oneBoolF : OneTy Try.prog 4 := ⟨by kernel_rfl, by kernel_rfl⟩
theorem onePf : OneTy Try.prog 85 := ⟨by kernel_rfl, by kernel_rfl⟩
section
variable {P : Program} {o : Oper} {a : Act} {w : World}
theorem y_setAt {ty : TypeId} {x y : Operand} (ho : o.op = .store ty x y) {g i : Nat} {v u : Value} {cs : Array Value} {t : TypeId} (hx : a.eval x = .pointer (some ⟨g, i, none⟩)) (hy : a.eval y = v) (hb : w.heap[g]? = some (.cells cs t (0, 0))) (hi : cs[i]? = some u) (h1 : OneTy P ty) (hv : v.cells = #[v]) (hv1 : v.oneCell' = true) : (execOp a.eval o).run P w = .ok .skip (w.setCell ⟨g, i, none⟩ v) := by
 have hst : (storeVar ty ⟨g, i, none⟩ v).run P w = .ok () (w.setCell ⟨g, i, none⟩ v) := run_store1 h1.2 hv ((blk_cell hb i).trans hi) (blk_frozen hb i) hv1
 unfold execOp
 simp only [ho, hx, hy, Instr.storeAt, Instr.sureAddr, Sem.run_bind, Sem.run_pure, Result.andThen_ok, hst]
end
set_option maxHeartbeats 1000000 in
set_option maxRecDepth 100000 in
theorem cloneV_calls (A0 : Option Addr) (c0 n : Nat) (ss : List ShpV) (w : World) (hr0 : Kd.C kdV w A0 n ss) (hn : ss.length ≤ 1000) :
  Calls Try.prog 60 #[.slice A0 n c0] w fun e w' => ∃ v0_ : Value, e = .returned v0_ ∧ Kd.R kdV 28 w' w.heap.size (fun _ => True) v0_ ss ∧ Below w.heap.size w w' := by
 have HR0 := Aside0.mk hr0
 have hln := hr0.1
 clear hr0
 have heq := fun (W : World) (n c : Nat) => Lib.run_eql_slice_nil (P := Try.prog) W 52 28 A0 n c 0 0 Try.underlying52
 cases A0 with
 | none =>
  have h0 : ss = [] := by
   rcases Nat.eq_zero_or_pos ss.length with h | h
   ·exact List.eq_nil_of_length_eq_zero h
   ·obtain ⟨ad, e, _⟩ := HR0.out.2.2 (by omega); cases e
  go_enter Try.func60, Try.ntmps60
  go_wp2_with fail
  go_ret
  exact ⟨_, rfl, by rw [h0]; exact Kd.R_nil _ _ _ _ _, Below.refl _ _⟩
 | some ad =>
  go_enter Try.func60, Try.ntmps60
  go_wp2_with (first
   | ((with_reducible refine gate_dst (N := 5) rfl ?_); refine Kd.R_lit kdV _ 28 ?hg (N := 5) ?hd (xs := ([] : List ShpV)) (inner := []) (ok := fun _ => True) (okp := fun _ => True) ?hr ?hp (fun _ hk => hk) trivial (Below.refl _ _) (Nat.le_refl _) (by simp) ?_; (case hd => rfl); (case hg => rfl); (case hr => first | (go_simp; done) | (go_simp; rfl)); (case hp => exact (Reps.none _ _)); intro v1 w1 ho hb _ _; have HO := Aside0.mk ho; have HB := Aside0.mk hb; clear ho hb)
   | ((with_reducible refine gate_builtin (b := .append) (xs := #[.tmp 5, .tmp 6]) rfl ?_); at_builtin; refine Kd.R_append_rows kdV (w0 := w) w.heap.size rfl (.tmp 5) (.tmp 6) 52 28 (.slice none 0 0) 24 rfl Try.underlying52 infoV rfl (by decide) (by omega) v1 [] ss _ _ _ (fun _ => True) (fun _ => False) rfl rfl ?aO ?aR (fun _ _ h => h) (fun _ h => h.elim) (fun _ _ => trivial) ?aB ?aS ?aL ?_; (case aR => exact Kd.C_below HR0.out HB.out); (case aB => exact HB.out); (case aO => exact HO.out); (case aS => exact HB.out.size); (case aL => simp; omega); intro v2 w2 ho hb _ _; have HO2 := Aside0.mk ho; have HB2 := Aside0.mk hb; clear ho hb))
  go_ret
  exact ⟨_, rfl, HO2.out, HB2.out⟩
theorem fly1_enters (a : Array Value) (W : World) : (callFunc 59 a).run Try.prog W = .ok (.enter 59 a) W := by kernel_rfl
end Go.Proofs.Ytfgogdhhihbcjaa.Arr
namespace Go.Proofs.Ytfgogdhhihbcjaa.Arr
open Go.RowKit Go.Proofs.YtfgogdhhihbcjaaW.PrintWords Go.Proofs.YtfgogdhhihbcjaaW.PrintLast Go.Proofs.YtfgogdhhihbcjaaW.PrintMore Go.Proofs.Ytfgogdhhihbcjaa.U Go.Proofs.Ytfgogdhhihbcjaa.H
set_option linter.unusedVariables false
set_option linter.unusedSimpArgs false
def FlyPost (w0 : World) (gf : Nat) (Al : Option Addr) (n cl : Nat) (budget : Int) (K : Nat → Prop) (r : GoR) (W : World) (e : Ending) (w' : World) : Prop :=
 e = .returned (.bool (decide (r.1.2 = 0))) ∧ (∃ A m c, w'.heap[gf]? = some (.cells (flC Al n cl budget r.2 (decide (r.1.2 = 7)) (.slice A m c)) 87 (0, 0)) ∧ (r.1.2 = 0 → Kd.S kH 28 w' w0.heap.size (fun k => K k ∨ W.heap.size ≤ k) (.slice A m c) r.1.1)) ∧ FrB [gf] W w'
set_option maxHeartbeats 16000000 in
set_option maxRecDepth 100000 in
theorem flyOne_calls {w0 wH : World} (gf g3 g4 g5 g7 : Nat) (Al : Option Addr) (n cl : Nat) (budget : Int) (Z : Nat → Prop) (H : List Int) (done : List (List Int)) (Ad : Option Addr) (cd : Nat) (ss : List ShpV) (N : Nat) (F : List Int → Int → GoR)
  (hb0 : Below w0.heap.size w0 wH) (hgf : w0.heap.size ≤ gf) (hg7 : w0.heap.size ≤ g7) (h3 : wH.heap[g3]? = some (.cells #[.pointer (some ⟨gf, 0, none⟩)] 85 (0, 0))) (h4 : wH.heap[g4]? = some (.cells (vals .i64 H) 71 (0, 0))) (h5 : wH.heap[g5]? = some (.cells #[.slice Ad done.length cd] 52 (0, 0)))
  (hgf0 : ∃ cs, wH.heap[gf]? = some (.cells cs 87 (0, 0))) (hg70 : ∃ cs, wH.heap[g7]? = some (.cells cs 4 (0, 0)))
  (hN : N ≤ wH.heap.size) (hlv : LV w0.heap.size N wH (.slice Ad done.length cd) ss done) (hlo : LVok Z (.slice Ad done.length cd) ss) (hKl : ∀ k, Z k → k < wH.heap.size) (hH : H.length = 44) (hHb : ∀ j : Nat, j < 44 → 0 ≤ rd H (j : Int) ∧ rd H (j : Int) ≤ 20000) (hd5 : done.length ≤ 5) (hbd : 0 ≤ budget ∧ budget ≤ 20000)
  (hok : ∀ (x : List Int), GoodF H x → ∀ t, t ≤ budget → ((F x t).1.2 = 0 ∨ (F x t).1.2 = 6 ∨ (F x t).1.2 = 7) ∧ t ≤ (F x t).2 ∧ (F x t).2 ≤ budget ∧ ((F x t).1.2 = 7 → (F x t).2 = budget))
  (hrec : ∀ (x : List Int), GoodF H x → ∀ (A73 : Option Addr) (c73 : Nat) (ss2 : List ShpV) (N2 : Nat) (t2 : Int) (W5 : World) (K5 : Nat → Prop) (A : Option Addr) (m c : Nat), 0 ≤ t2 → t2 ≤ budget → Below w0.heap.size w0 W5 → W5.heap[gf]? = some (.cells (flC Al n cl budget t2 false (.slice A m c)) 87 (0, 0)) → N2 ≤ W5.heap.size →
   LV w0.heap.size N2 W5 (.slice A73 (done ++ [x]).length c73) ss2 (done ++ [x]) → LVok K5 (.slice A73 (done ++ [x]).length c73) ss2 → (∀ k, K5 k → k < W5.heap.size) →
   Calls Try.prog 47 #[.pointer (some ⟨gf, 0, none⟩), .agg (vals .i64 (pile H x (-1) x.length)), .slice A73 (done ++ [x]).length c73] W5 (FlyPost w0 gf Al n cl budget K5 (F x t2) W5))
  (base : Nat) (s : FlS) (h : List Int) (v : Value) (w1 : World) (hq : GoodF H h) (hI : IG wH w0 gf g7 Al n cl budget Z base s w1) (ho : Own base w1 v h) (hwb : wH.heap.size ≤ base) (hbw : base ≤ w1.heap.size) :
  Calls Try.prog 59 (#[v] ++ #[.pointer (some ⟨g3, 0, none⟩), .pointer (some ⟨g4, 0, none⟩), .pointer (some ⟨g5, 0, none⟩), .pointer (some ⟨g7, 0, none⟩)]) w1 fun e w' => e = .returned (.bool (flStep F budget s h).2) ∧ IG wH w0 gf g7 Al n cl budget Z base (flStep F budget s h).1 w' ∧ FrB [gf, g7] w1 w' := by
 obtain ⟨Ah, ch, rfl⟩ := Kd.R_slice ho
 show Calls Try.prog 59 #[.slice Ah h.length ch, .pointer (some ⟨g3, 0, none⟩), .pointer (some ⟨g4, 0, none⟩), .pointer (some ⟨g5, 0, none⟩), .pointer (some ⟨g7, 0, none⟩)] w1 _
 obtain ⟨csf, hgf0⟩ := hgf0
 obtain ⟨cs7, hg70⟩ := hg70
 have n3f : g3 ≠ gf := blk_ne h3 hgf0 (by decide)
 have n4f : g4 ≠ gf := blk_ne h4 hgf0 (by decide)
 have n5f : g5 ≠ gf := blk_ne h5 hgf0 (by decide)
 have n7f : g7 ≠ gf := blk_ne hg70 hgf0 (by decide)
 have n37 : g3 ≠ g7 := blk_ne h3 hg70 (by decide)
 have n47 : g4 ≠ g7 := blk_ne h4 hg70 (by decide)
 have n57 : g5 ≠ g7 := blk_ne h5 hg70 (by decide)
 have l3 := lt_of_some h3
 have lf := lt_of_some hgf0
 have l7 := lt_of_some hg70
 obtain ⟨A, m, c, hbx, hS⟩ := hI.box
 have H3 := Aside0.mk (hI.fr.row h3 (by simp; exact ⟨n3f, n37⟩))
 have H4 := Aside0.mk (hI.fr.row h4 (by simp; exact ⟨n4f, n47⟩))
 have H5 := Aside0.mk (hI.fr.row h5 (by simp; exact ⟨n5f, n57⟩))
 have HX := Aside0.mk hbx
 have HI := Aside0.mk hI
 have HSS := Aside0.mk hS
 have HO := Aside0.mk ho
 have hlo0 := hI.lo
 have hhi0 := hI.hi
 have hc3 := cell1 H3.out
 by_cases htb : s.t = budget
 ·have htbb : (s.t == budget) = true := by rw [beq_iff_eq]; exact htb
  have HST := Aside0.mk (show flStep F budget s h = (⟨s.t, true, s.done, s.out⟩, false) by unfold flStep; rw [if_pos htb])
  have HKl := Aside0.mk hKl
  clear hrec hok hlv hlo hKl hHb hq hI ho hS hbx h3 h4 h5 hgf0 hg70 hb0
  generalize flStep F budget s h = st at *
  go_enter Try.func59, Try.ntmps59
  go_wp2_with fail
  refine start_ (n := 9) (S := fun w' => FrB [] w1 w') (ds := []) #[false, false, false, false, false, false, false, false, false] (by kernel_rfl) rfl rfl (FrB.below (below_drew (Below.refl _ _))) (fun hHeld => ?_)
  refine take_ (i := 0) (N := some 7) (v := .pointer (some ⟨gf, 0, none⟩)) (a' := ?_) #[true, false, false, false, false, false, false, false, false] rfl rfl (by kernel_rfl) (fun _ _ _ h => h) (Or.inl ⟨by rfl, ?_⟩) hHeld ?_ ?_
  ·intro w' s0
   exact y_cell (by rfl) (by rfl) onePf (s0.read hc3)
  rotate_left
  ·simp only [Act.put, List.setIfInBounds_toArray, List.set_cons_zero, List.set_cons_succ, i64_w, i32_w]
   rfl
  refine pure_ (i := 1) (N := some 8) (v := ?_) (a' := ?_) #[true, true, false, false, false, false, false, false, false] rfl rfl (by kernel_rfl) (fun _ _ _ h => h) (Or.inl ⟨by rfl, ?_⟩) ?_ ?_
  rotate_left
  ·intro w'
   go_simp
   with_reducible rfl
  rotate_left
  ·simp only [Act.put, List.setIfInBounds_toArray, List.set_cons_zero, List.set_cons_succ, i64_w, i32_w]
   rfl
  refine pure_ (i := 2) (N := some 9) (v := ?_) (a' := ?_) #[true, true, true, false, false, false, false, false, false] rfl rfl (by kernel_rfl) (fun _ _ _ h => h) (Or.inl ⟨by rfl, ?_⟩) ?_ ?_
  rotate_left
  ·intro w'
   go_simp
   with_reducible rfl
  rotate_left
  ·simp only [Act.put, List.setIfInBounds_toArray, List.set_cons_zero, List.set_cons_succ, i64_w, i32_w]
   rfl
  refine take_ (i := 3) (N := some 10) (v := .int .i64 s.t) (a' := ?_) #[true, true, true, true, false, false, false, false, false] rfl rfl (by kernel_rfl) (fun _ _ _ h => h) (Or.inl ⟨by rfl, ?_⟩) hHeld ?_ ?_
  ·intro w' s0
   exact y_cell (by rfl) (by rfl) oneI64O (s0.read ((blk_cell HX.out 2).trans rfl))
  rotate_left
  ·simp only [Act.put, List.setIfInBounds_toArray, List.set_cons_zero, List.set_cons_succ, i64_w, i32_w]
   rfl
  refine take_ (i := 4) (N := some 11) (v := .pointer (some ⟨gf, 0, none⟩)) (a' := ?_) #[true, true, true, true, true, false, false, false, false] rfl rfl (by kernel_rfl) (fun _ _ _ h => h) (Or.inl ⟨by rfl, ?_⟩) hHeld ?_ ?_
  ·intro w' s0
   exact y_cell (by rfl) (by rfl) onePf (s0.read hc3)
  rotate_left
  ·simp only [Act.put, List.setIfInBounds_toArray, List.set_cons_zero, List.set_cons_succ, i64_w, i32_w]
   rfl
  refine pure_ (i := 5) (N := some 12) (v := ?_) (a' := ?_) #[true, true, true, true, true, true, false, false, false] rfl rfl (by kernel_rfl) (fun _ _ _ h => h) (Or.inl ⟨by rfl, ?_⟩) ?_ ?_
  rotate_left
  ·intro w'
   go_simp
   with_reducible rfl
  rotate_left
  ·simp only [Act.put, List.setIfInBounds_toArray, List.set_cons_zero, List.set_cons_succ, i64_w, i32_w]
   rfl
  refine pure_ (i := 6) (N := some 13) (v := ?_) (a' := ?_) #[true, true, true, true, true, true, true, false, false] rfl rfl (by kernel_rfl) (fun _ _ _ h => h) (Or.inl ⟨by rfl, ?_⟩) ?_ ?_
  rotate_left
  ·intro w'
   go_simp
   with_reducible rfl
  rotate_left
  ·simp only [Act.put, List.setIfInBounds_toArray, List.set_cons_zero, List.set_cons_succ, i64_w, i32_w]
   rfl
  refine take_ (i := 7) (N := some 14) (v := .int .i64 budget) (a' := ?_) #[true, true, true, true, true, true, true, true, false] rfl rfl (by kernel_rfl) (fun _ _ _ h => h) (Or.inl ⟨by rfl, ?_⟩) hHeld ?_ ?_
  ·intro w' s0
   exact y_cell (by rfl) (by rfl) oneI64O (s0.read ((blk_cell HX.out 1).trans rfl))
  rotate_left
  ·simp only [Act.put, List.setIfInBounds_toArray, List.set_cons_zero, List.set_cons_succ, i64_w, i32_w]
   rfl
  refine pure_ (i := 8) (N := some 15) (v := ?_) (a' := ?_) #[true, true, true, true, true, true, true, true, true] rfl rfl (by kernel_rfl) (fun _ _ _ h => h) (Or.inl ⟨by rfl, ?_⟩) ?_ ?_
  rotate_left
  ·intro w'
   go_simp
   with_reducible rfl
  rotate_left
  ·simp only [Act.put, List.setIfInBounds_toArray, List.set_cons_zero, List.set_cons_succ, i64_w, i32_w]
   rfl
  refine done_ (by kernel_rfl) ?_
  skip
  replace hc3 := hHeld.read hc3
  have HXD := Aside0.mk (hHeld.row HX.out (by simp))
  have HFD := Aside0.mk hHeld
  clear hHeld
  generalize w1.drew = wd at *
  go_wp2_with ((with_reducible refine gt_store 4 ?_); refine st_at rfl 4 _ _ rfl (g := gf) (i := 3) (v := .bool true) rfl rfl HXD.out rfl oneBoolF rfl rfl ?_; have HFS := Aside0.mk ((HFD.out.mono (B' := [gf]) (by simp)).trans ((FrB.refl [gf] wd).set ⟨gf, 3, none⟩ (.bool true) (.inl (by simp)))); have HXS := Aside0.mk (heap_setCell_same wd gf 3 _ _ (.bool true) HXD.out); generalize wd.setCell ⟨gf, 3, none⟩ (Value.bool true) = w2 at *)
  go_ret
  rw [HST.out]
  refine ⟨rfl, ⟨HI.out.fr.trans (HFS.out.mono (by simp)), ⟨A, m, c, HXS.out, fun hd => Kd.S_mono (Kd.S_step (Kd.S_types (HSS.out hd) HX.out (fun q hq => by simp [kH, Kd.slice, Kd.int, Kd.scalar] at hq; rcases hq with rfl | rfl <;> decide)) (fun k hk hl => HFS.out.other k hl (by simp; exact hk.2))) (fun k hk => hk.1)⟩, HFS.out.row HI.out.var (by simp; exact n7f), hlo0, hhi0, fun _ => htb⟩, HFS.out.mono (by simp)⟩
 ·have htbb : (s.t == budget) = false := by rw [beq_eq_false_iff_ne]; exact htb
  have hw1 : wrap64 (s.t + 1) = s.t + 1 := w64 (by omega) (by omega)
  have hov : s.over = false := by
   cases ho : s.over with
   | false => rfl
   | true => exact absurd (hI.ov ho) htb
  rw [hov] at HX
  have hOKX := hok h hq (s.t + 1) (by omega)
  have HST := Aside0.mk (show flStep F budget s h = (⟨(F h (s.t + 1)).2, decide ((F h (s.t + 1)).1.2 = 7), decide ((F h (s.t + 1)).1.2 = 0), (F h (s.t + 1)).1.1⟩, decide ((F h (s.t + 1)).1.2 = 6)) by unfold flStep; rw [if_neg htb])
  have HRX := Aside0.mk (fun A73 c73 ss2 N2 W5 K5 => hrec h hq A73 c73 ss2 N2 (s.t + 1) W5 K5 A m c (by omega) (by omega))
  unfold FlyPost at HRX
  obtain ⟨hcode, hlo1, hhi1, hov7⟩ := hOKX
  have HLV1 := Aside0.mk (hlv.frB hI.fr (fun g hg => by
   simp only [List.mem_cons, List.not_mem_nil, or_false] at hg
   rcases hg with rfl | rfl
   ·exact ⟨_, _, hgf0, by decide, by decide⟩
   ·exact ⟨_, _, hg70, by decide, by decide⟩))
  have HB1 := Aside0.mk (hI.fr)
  have HB0 := Aside0.mk hb0
  have HLO := Aside0.mk hlo
  have HKl := Aside0.mk hKl
  have HQ := Aside0.mk hq
  have HLS := Aside0.mk (less_pile hH hHb hq.len)
  have hx8 := hq.len
  have hWs := hI.fr.size
  clear hrec hok hlv hlo hKl hHb hq hI ho hS hbx h3 h4 h5 hgf0 hg70 hb0
  generalize flStep F budget s h = st at *
  generalize F h (s.t + 1) = r at *
  obtain ⟨⟨ro, rc⟩, rt⟩ := r
  dsimp only at HST HRX hcode hlo1 hhi1 hov7
  obtain ⟨b0, hb0⟩ : ∃ b, decide (rc = 0) = b := ⟨_, rfl⟩
  obtain ⟨b7, hb7⟩ : ∃ b, decide (rc = 7) = b := ⟨_, rfl⟩
  simp only [hb0, hb7] at HST HRX
  have HCB : (rc = 0 ∧ b0 = true ∧ b7 = false) ∨ (rc = 6 ∧ b0 = false ∧ b7 = false) ∨ (rc = 7 ∧ b0 = false ∧ b7 = true) := by
   rcases hcode with h | h | h
   ·subst h; exact .inl ⟨rfl, hb0.symm.trans rfl, hb7.symm.trans rfl⟩
   ·subst h; exact .inr (.inl ⟨rfl, hb0.symm.trans rfl, hb7.symm.trans rfl⟩)
   ·subst h; exact .inr (.inr ⟨rfl, hb0.symm.trans rfl, hb7.symm.trans rfl⟩)
  have HB0R := Aside0.mk (show b0 = true → rc = 0 from fun e => by rw [← hb0] at e; exact of_decide_eq_true e)
  have HB7R := Aside0.mk (show b7 = true → rt = budget from fun e => by rw [← hb7] at e; exact hov7 (of_decide_eq_true e))
  clear hb0 hb7 hcode hov7
  go_enter Try.func59, Try.ntmps59
  go_wp2_with fail
  refine start_ (n := 9) (S := fun w' => FrB [] w1 w') (ds := []) #[false, false, false, false, false, false, false, false, false] (by kernel_rfl) rfl rfl (FrB.below (below_drew (Below.refl _ _))) (fun hHeld => ?_)
  refine take_ (i := 0) (N := some 7) (v := .pointer (some ⟨gf, 0, none⟩)) (a' := ?_) #[true, false, false, false, false, false, false, false, false] rfl rfl (by kernel_rfl) (fun _ _ _ h => h) (Or.inl ⟨by rfl, ?_⟩) hHeld ?_ ?_
  ·intro w' s0
   exact y_cell (by rfl) (by rfl) onePf (s0.read hc3)
  rotate_left
  ·simp only [Act.put, List.setIfInBounds_toArray, List.set_cons_zero, List.set_cons_succ, i64_w, i32_w]
   rfl
  refine pure_ (i := 1) (N := some 8) (v := ?_) (a' := ?_) #[true, true, false, false, false, false, false, false, false] rfl rfl (by kernel_rfl) (fun _ _ _ h => h) (Or.inl ⟨by rfl, ?_⟩) ?_ ?_
  rotate_left
  ·intro w'
   go_simp
   with_reducible rfl
  rotate_left
  ·simp only [Act.put, List.setIfInBounds_toArray, List.set_cons_zero, List.set_cons_succ, i64_w, i32_w]
   rfl
  refine pure_ (i := 2) (N := some 9) (v := ?_) (a' := ?_) #[true, true, true, false, false, false, false, false, false] rfl rfl (by kernel_rfl) (fun _ _ _ h => h) (Or.inl ⟨by rfl, ?_⟩) ?_ ?_
  rotate_left
  ·intro w'
   go_simp
   with_reducible rfl
  rotate_left
  ·simp only [Act.put, List.setIfInBounds_toArray, List.set_cons_zero, List.set_cons_succ, i64_w, i32_w]
   rfl
  refine take_ (i := 3) (N := some 10) (v := .int .i64 s.t) (a' := ?_) #[true, true, true, true, false, false, false, false, false] rfl rfl (by kernel_rfl) (fun _ _ _ h => h) (Or.inl ⟨by rfl, ?_⟩) hHeld ?_ ?_
  ·intro w' s0
   exact y_cell (by rfl) (by rfl) oneI64O (s0.read ((blk_cell HX.out 2).trans rfl))
  rotate_left
  ·simp only [Act.put, List.setIfInBounds_toArray, List.set_cons_zero, List.set_cons_succ, i64_w, i32_w]
   rfl
  refine take_ (i := 4) (N := some 11) (v := .pointer (some ⟨gf, 0, none⟩)) (a' := ?_) #[true, true, true, true, true, false, false, false, false] rfl rfl (by kernel_rfl) (fun _ _ _ h => h) (Or.inl ⟨by rfl, ?_⟩) hHeld ?_ ?_
  ·intro w' s0
   exact y_cell (by rfl) (by rfl) onePf (s0.read hc3)
  rotate_left
  ·simp only [Act.put, List.setIfInBounds_toArray, List.set_cons_zero, List.set_cons_succ, i64_w, i32_w]
   rfl
  refine pure_ (i := 5) (N := some 12) (v := ?_) (a' := ?_) #[true, true, true, true, true, true, false, false, false] rfl rfl (by kernel_rfl) (fun _ _ _ h => h) (Or.inl ⟨by rfl, ?_⟩) ?_ ?_
  rotate_left
  ·intro w'
   go_simp
   with_reducible rfl
  rotate_left
  ·simp only [Act.put, List.setIfInBounds_toArray, List.set_cons_zero, List.set_cons_succ, i64_w, i32_w]
   rfl
  refine pure_ (i := 6) (N := some 13) (v := ?_) (a' := ?_) #[true, true, true, true, true, true, true, false, false] rfl rfl (by kernel_rfl) (fun _ _ _ h => h) (Or.inl ⟨by rfl, ?_⟩) ?_ ?_
  rotate_left
  ·intro w'
   go_simp
   with_reducible rfl
  rotate_left
  ·simp only [Act.put, List.setIfInBounds_toArray, List.set_cons_zero, List.set_cons_succ, i64_w, i32_w]
   rfl
  refine take_ (i := 7) (N := some 14) (v := .int .i64 budget) (a' := ?_) #[true, true, true, true, true, true, true, true, false] rfl rfl (by kernel_rfl) (fun _ _ _ h => h) (Or.inl ⟨by rfl, ?_⟩) hHeld ?_ ?_
  ·intro w' s0
   exact y_cell (by rfl) (by rfl) oneI64O (s0.read ((blk_cell HX.out 1).trans rfl))
  rotate_left
  ·simp only [Act.put, List.setIfInBounds_toArray, List.set_cons_zero, List.set_cons_succ, i64_w, i32_w]
   rfl
  refine pure_ (i := 8) (N := some 15) (v := ?_) (a' := ?_) #[true, true, true, true, true, true, true, true, true] rfl rfl (by kernel_rfl) (fun _ _ _ h => h) (Or.inl ⟨by rfl, ?_⟩) ?_ ?_
  rotate_left
  ·intro w'
   go_simp
   with_reducible rfl
  rotate_left
  ·simp only [Act.put, List.setIfInBounds_toArray, List.set_cons_zero, List.set_cons_succ, i64_w, i32_w]
   rfl
  refine done_ (by kernel_rfl) ?_
  skip
  replace hc3 := hHeld.read hc3
  have HXD := Aside0.mk (hHeld.row HX.out (by simp))
  have hcf2 := (blk_cell HXD.out 2).trans rfl
  have HFD := Aside0.mk hHeld
  clear hHeld
  generalize w1.drew = wd at *
  go_wp2_with ((with_reducible refine gt_store 2 ?_); refine st_at rfl 2 _ _ rfl (g := gf) (i := 2) (v := .int .i64 (s.t + 1)) rfl rfl HXD.out rfl oneI64O rfl rfl ?_; have HFS := Aside0.mk ((HFD.out.mono (B' := [gf]) (by simp)).trans ((FrB.refl [gf] wd).set ⟨gf, 2, none⟩ (.int .i64 (s.t + 1)) (.inl (by simp)))); have HXS := Aside0.mk (heap_setCell_same wd gf 2 _ _ (.int .i64 (s.t + 1)) HXD.out); generalize wd.setCell ⟨gf, 2, none⟩ (Value.int .i64 (s.t + 1)) = w2 at *)
  have HXF : Aside0 (w2.heap[gf]? = some (.cells (flC Al n cl budget (s.t + 1) false (.slice A m c)) 87 (0, 0))) := ⟨HXS.out⟩
  have H3B := Aside0.mk (HFS.out.row H3.out (by simp; exact n3f))
  have H4B := Aside0.mk (HFS.out.row H4.out (by simp; exact n4f))
  have H5B := Aside0.mk (HFS.out.row H5.out (by simp; exact n5f))
  have H7B := Aside0.mk (HFS.out.row HI.out.var (by simp; exact n7f))
  have HLV2 := Aside0.mk (HLV1.out.frB HFS.out (fun g hg => by rw [List.mem_singleton] at hg; subst hg; exact ⟨_, _, HX.out, by decide, by decide⟩))
  have HO2 := Aside0.mk (Kd.R_mono (Kd.R_step (Kd.R_types HO.out HX.out (fun q hq => by simp [Kd.int, Kd.scalar] at hq; rcases hq with rfl; decide)) (fun k hk hl => HFS.out.other k hl (by simp; exact hk.2))) (fun _ _ => trivial) : Kd.R (Kd.int .i8) 64 w2 base (fun _ => True) (.slice Ah h.length ch) h)
  have hlen := HLV2.out.1
  have HRD2 := Aside0.mk (show Kd.C kdV w2 Ad done.length ss by have := Kd.R_reads' HLV2.out.2.1; rw [this.1]; exact this.2.2)
  have hs2 := HFS.out.size
  have hbw0 : w0.heap.size ≤ w2.heap.size := Nat.le_trans HB0.out.size (Nat.le_trans hWs hs2)
  have hss : ss.length ≤ 5 := by omega
  have HLL := Aside0.mk (show (ss ++ [((Ah, h.length, ch) : ShpV)]).length = (done ++ [h]).length by simp [hlen])
  have HBL2 := Aside0.mk (show Below w0.heap.size w0 w2 from HFS.out.keeps hgf (FrB.past (FrB.below HB0.out : FrB [] w0 wH) HB1.out (fun b hb => by simp only [List.mem_cons, List.not_mem_nil, or_false] at hb; rcases hb with rfl | rfl; exact hgf; exact hg7)).to_below)
  have HKS := Aside0.mk (fun (W : World) (A35 : Option Addr) (c35 : Nat) (hsz : w2.heap.size ≤ W.heap.size) (hb1 : ∀ k, (Value.slice A35 (done ++ [h]).length c35).ownBlock = some k → w2.heap.size ≤ k) (hb2 : ∀ k, (Value.slice A35 (done ++ [h]).length c35).ownBlock = some k → k < W.heap.size) => show LVok (fun k => (Z k ∨ base ≤ k) ∧ k < W.heap.size) (.slice A35 (done ++ [h]).length c35) (ss ++ [((Ah, h.length, ch) : ShpV)]) from ⟨fun k hk => ⟨.inr (Nat.le_trans hbw (Nat.le_trans hs2 (hb1 k hk))), hb2 k hk⟩, fun s hs k hk => by
   rcases List.mem_append.1 hs with hs | hs
   ·have h1 := HLO.out.2 s hs k hk
    have h2 := HKl.out k h1
    exact ⟨.inl h1, by omega⟩
   ·rw [List.mem_singleton] at hs
    subst hs
    have h1 := Kd.R_base HO2.out k hk
    have h2 := Kd.R_lt HO2.out k hk
    exact ⟨.inr h1, by omega⟩⟩)
  have HBW := Aside0.mk (FrB.below (below_drew (Below.refl w2.heap.size w2)) : FrB [] w2 w2.drew)
  clear hc3 hcf2 HXD HFD HXS HLV1
  refine start_ (n := 12) (S := fun w' => FrB [gf] w2 w') (ds := [11]) #[false, false, false, false, false, false, false, false, false, false, false, false] (by kernel_rfl) rfl rfl (FrB.below (below_drew (Below.refl _ _))) (fun hHeld => ?_)
  refine pure_ (i := 2) (N := some 28) (v := ?_) (a' := ?_) #[false, false, true, false, false, false, false, false, false, false, false, false] rfl rfl (by kernel_rfl) (fun _ _ _ h => h) (Or.inl ⟨by rfl, ?_⟩) ?_ ?_
  rotate_left
  ·intro w'
   go_simp
   with_reducible rfl
  rotate_left
  ·simp only [Act.put, List.setIfInBounds_toArray, List.set_cons_zero, List.set_cons_succ, i64_w, i32_w]
   rfl
  refine pure_ (i := 7) (N := some 33) (v := ?_) (a' := ?_) #[false, false, true, false, false, false, false, true, false, false, false, false] rfl rfl (by kernel_rfl) (fun _ _ _ h => h) (Or.inl ⟨by rfl, ?_⟩) ?_ ?_
  rotate_left
  ·intro w'
   go_simp
   with_reducible rfl
  rotate_left
  ·simp only [Act.put, List.setIfInBounds_toArray, List.set_cons_zero, List.set_cons_succ, i64_w, i32_w]
   rfl
  refine take_ (i := 0) (N := some 26) (v := .pointer (some ⟨gf, 0, none⟩)) (a' := ?_) #[true, false, true, false, false, false, false, true, false, false, false, false] rfl rfl (by kernel_rfl) (fun _ _ _ h => h) (Or.inl ⟨by rfl, ?_⟩) hHeld ?_ ?_
  ·intro w' s0
   exact y_cell (by rfl) (by rfl) onePf (cell1 (s0.row H3B.out (by simp; exact n3f)))
  rotate_left
  ·simp only [Act.put, List.setIfInBounds_toArray, List.set_cons_zero, List.set_cons_succ, i64_w, i32_w]
   rfl
  refine take_ (i := 1) (N := some 27) (v := .agg (vals .i64 H)) (a' := ?_) #[true, true, true, false, false, false, false, true, false, false, false, false] rfl rfl (by kernel_rfl) (fun _ _ _ h => h) (Or.inl ⟨by rfl, ?_⟩) hHeld ?_ ?_
  ·intro w' s0
   exact y_rowA (by rfl) (by rfl) (s0.row H4B.out (by simp; exact n4f)) aggPc (by rw [vals_size]; exact hH)
  rotate_left
  ·simp only [Act.put, List.setIfInBounds_toArray, List.set_cons_zero, List.set_cons_succ, i64_w, i32_w]
   rfl
  refine take_ (i := 5) (N := some 31) (v := .slice Ad done.length cd) (a' := ?_) #[true, true, true, false, false, true, false, true, false, false, false, false] rfl rfl (by kernel_rfl) (fun _ _ _ h => h) (Or.inl ⟨by rfl, ?_⟩) hHeld ?_ ?_
  ·intro w' s0
   exact y_cell (by rfl) (by rfl) oneHsS (cell1 (s0.row H5B.out (by simp; exact n5f)))
  rotate_left
  ·simp only [Act.put, List.setIfInBounds_toArray, List.set_cons_zero, List.set_cons_succ, i64_w, i32_w]
   rfl
  refine join_ (σ := Value × Nat) 3 #[true, true, true, true, true, true, true, true, true, false, false, false] (fun s => [(29, .agg (vals .i64 (pile (zs 44) h 1 h.length))), (30, .agg (vals .i64 (pile H h (-1) h.length))), (32, s.1), (34, .slice (some ⟨s.2, 0, none⟩) 1 1)]) (fun s w' => FrB [gf] w2 w' ∧ FrB [] w2 w' ∧ Kd.R kdV 28 w' w2.heap.size (fun _ => True) s.1 ss ∧ w'.heap[s.2]? = some (.cells #[.slice Ah h.length ch] 28 (0, 0))) ?_ ?_
  rotate_left
  ·intro hJ
   refine two_ (i := 3) (j := 8) (Ni := some 29) (Nj := some 34) #[true, true, true, true, false, true, false, true, false, false, false, false] #[true, true, true, false, false, true, false, true, true, false, false, false] rfl rfl rfl rfl (by kernel_rfl) (by decide) (by decide) (fun K hK => ?_) (fun K hK => ?_)
   ·skip
    refine goes_ Try.func41 (by kernel_rfl) rfl #[.slice Ah h.length ch] (by rfl) rfl rfl (by simp only [List.map_toArray, List.map_cons, List.map_nil]; rfl) ?_
    refine (hoistPieces_calls Ah ch h _ (Kd.R_reads' (Kd.R_below HO2.out HBW.out.to_below)).2.2 (Kd.R_reads' HO2.out).2.1 HQ.out.num (by omega)).mono ?_
    rintro e w38 ⟨rfl, hb⟩
    replace HBW := Aside0.mk (HBW.out.trans (FrB.below hb))
    (try replace HGB := Aside0.mk ((hb.block _ (lt_of_some HGB.out)).trans HGB.out))
    refine ⟨_, rfl, ?_⟩
    refine hK.out _ _ (hHeld.trans (FrB.below hb)) (fun hHeld => ?_)
    clear hK K
    refine norm_ (a' := ?_) ?_ ?_
    rotate_left
    ·show Act.put _ (some 29) _ = _
     simp only [Act.put, List.setIfInBounds_toArray, List.set_cons_zero, List.set_cons_succ, i64_w, i32_w]
     rfl
    refine two_ (i := 4) (j := 8) (Ni := some 30) (Nj := some 34) #[true, true, true, true, true, true, false, true, false, false, false, false] #[true, true, true, true, false, true, false, true, true, false, false, false] rfl rfl rfl rfl (by kernel_rfl) (by decide) (by decide) (fun K hK => ?_) (fun K hK => ?_)
    ·skip
     refine goes_ Try.func40 (by kernel_rfl) rfl #[.agg (vals .i64 H), .agg (vals .i64 (pile (zs 44) h 1 h.length))] (by rfl) rfl rfl (by simp only [List.map_toArray, List.map_cons, List.map_nil]; rfl) ?_
     refine (less_calls H _ _ hH (by rw [pile_length, zs_length])).mono ?_
     rw [HLS.out]
     rintro e w39 ⟨rfl, hb⟩
     replace HBW := Aside0.mk (HBW.out.trans (FrB.below hb))
     (try replace HGB := Aside0.mk ((hb.block _ (lt_of_some HGB.out)).trans HGB.out))
     refine ⟨_, rfl, ?_⟩
     refine hK.out _ _ (hHeld.trans (FrB.below hb)) (fun hHeld => ?_)
     clear hK K
     refine norm_ (a' := ?_) ?_ ?_
     rotate_left
     ·show Act.put _ (some 30) _ = _
      simp only [Act.put, List.setIfInBounds_toArray, List.set_cons_zero, List.set_cons_succ, i64_w, i32_w]
      rfl
     refine two_ (i := 6) (j := 8) (Ni := some 32) (Nj := some 34) #[true, true, true, true, true, true, true, true, false, false, false, false] #[true, true, true, true, true, true, false, true, true, false, false, false] rfl rfl rfl rfl (by kernel_rfl) (by decide) (by decide) (fun K hK => ?_) (fun K hK => ?_)
     ·skip
      refine goes_ Try.func60 (by kernel_rfl) rfl #[.slice Ad done.length cd] (by rfl) rfl rfl (by simp only [List.map_toArray, List.map_cons, List.map_nil]; rfl) ?_
      refine (cloneV_calls Ad cd done.length ss _ (Kd.C_below HRD2.out HBW.out.to_below) (by omega)).mono ?_
      rintro e w40 ⟨v32, rfl, ho32, hb⟩
      have HO32 := Aside0.mk (Kd.R_lower ho32 HBW.out.size)
      replace HBW := Aside0.mk (HBW.out.trans (FrB.below hb))
      (try replace HGB := Aside0.mk ((hb.block _ (lt_of_some HGB.out)).trans HGB.out))
      clear ho32
      refine ⟨_, rfl, ?_⟩
      refine hK.out _ _ (hHeld.trans (FrB.below hb)) (fun hHeld => ?_)
      clear hK K
      refine norm_ (a' := ?_) ?_ ?_
      rotate_left
      ·show Act.put _ (some 32) _ = _
       simp only [Act.put, List.setIfInBounds_toArray, List.set_cons_zero, List.set_cons_succ, i64_w, i32_w]
       rfl
      refine one_ (i := 8) (N := some 34) #[true, true, true, true, true, true, true, true, true, false, false, false] rfl rfl (by kernel_rfl) (by decide) (fun K hK => ?_)
      refine s_litV (u := .slice Ah h.length ch) (e := 28) (by rfl) rfl (by first | (go_simp; done) | (go_simp; rfl)) ?_
      intro gb wg hgb hge hfb
      have HGB := Aside0.mk hgb
      replace HBW := Aside0.mk (HBW.out.trans hfb)
      (try replace HO32 := Aside0.mk (Kd.R_below HO32.out hfb.to_below))
      clear hgb hge
      refine hK.out _ _ (hHeld.trans (hfb.mono (by simp))) (fun hHeld => ?_)
      clear hK K
      refine norm_ (a' := ?_) ?_ ?_
      rotate_left
      ·show Act.put _ (some 34) _ = _
       simp only [Act.put, List.setIfInBounds_toArray, List.set_cons_zero, List.set_cons_succ, i64_w, i32_w]
       rfl
      exact norm_ (by first | (simp only [putAll, Act.put, List.setIfInBounds_toArray, List.set_cons_zero, List.set_cons_succ]; done) | (simp only [putAll, Act.put, List.setIfInBounds_toArray, List.set_cons_zero, List.set_cons_succ]; rfl)) (hJ (v32, gb) _ ⟨hHeld, HBW.out, HO32.out, HGB.out⟩)
     ·skip
      refine s_litV (u := .slice Ah h.length ch) (e := 28) (by rfl) rfl (by first | (go_simp; done) | (go_simp; rfl)) ?_
      intro gb wg hgb hge hfb
      have HGB := Aside0.mk hgb
      replace HBW := Aside0.mk (HBW.out.trans hfb)
      (try replace HO32 := Aside0.mk (Kd.R_below HO32.out hfb.to_below))
      clear hgb hge
      refine hK.out _ _ (hHeld.trans (hfb.mono (by simp))) (fun hHeld => ?_)
      clear hK K
      refine norm_ (a' := ?_) ?_ ?_
      rotate_left
      ·show Act.put _ (some 34) _ = _
       simp only [Act.put, List.setIfInBounds_toArray, List.set_cons_zero, List.set_cons_succ, i64_w, i32_w]
       rfl
      refine one_ (i := 6) (N := some 32) #[true, true, true, true, true, true, true, true, true, false, false, false] rfl rfl (by kernel_rfl) (by decide) (fun K hK => ?_)
      refine goes_ Try.func60 (by kernel_rfl) rfl #[.slice Ad done.length cd] (by rfl) rfl rfl (by simp only [List.map_toArray, List.map_cons, List.map_nil]; rfl) ?_
      refine (cloneV_calls Ad cd done.length ss _ (Kd.C_below HRD2.out HBW.out.to_below) (by omega)).mono ?_
      rintro e w40 ⟨v32, rfl, ho32, hb⟩
      have HO32 := Aside0.mk (Kd.R_lower ho32 HBW.out.size)
      replace HBW := Aside0.mk (HBW.out.trans (FrB.below hb))
      (try replace HGB := Aside0.mk ((hb.block _ (lt_of_some HGB.out)).trans HGB.out))
      clear ho32
      refine ⟨_, rfl, ?_⟩
      refine hK.out _ _ (hHeld.trans (FrB.below hb)) (fun hHeld => ?_)
      clear hK K
      refine norm_ (a' := ?_) ?_ ?_
      rotate_left
      ·show Act.put _ (some 32) _ = _
       simp only [Act.put, List.setIfInBounds_toArray, List.set_cons_zero, List.set_cons_succ, i64_w, i32_w]
       rfl
      exact norm_ (by first | (simp only [putAll, Act.put, List.setIfInBounds_toArray, List.set_cons_zero, List.set_cons_succ]; done) | (simp only [putAll, Act.put, List.setIfInBounds_toArray, List.set_cons_zero, List.set_cons_succ]; rfl)) (hJ (v32, gb) _ ⟨hHeld, HBW.out, HO32.out, HGB.out⟩)
    ·skip
     refine s_litV (u := .slice Ah h.length ch) (e := 28) (by rfl) rfl (by first | (go_simp; done) | (go_simp; rfl)) ?_
     intro gb wg hgb hge hfb
     have HGB := Aside0.mk hgb
     replace HBW := Aside0.mk (HBW.out.trans hfb)
     (try replace HO32 := Aside0.mk (Kd.R_below HO32.out hfb.to_below))
     clear hgb hge
     refine hK.out _ _ (hHeld.trans (hfb.mono (by simp))) (fun hHeld => ?_)
     clear hK K
     refine norm_ (a' := ?_) ?_ ?_
     rotate_left
     ·show Act.put _ (some 34) _ = _
      simp only [Act.put, List.setIfInBounds_toArray, List.set_cons_zero, List.set_cons_succ, i64_w, i32_w]
      rfl
     refine one_ (i := 4) (N := some 30) #[true, true, true, true, true, true, false, true, true, false, false, false] rfl rfl (by kernel_rfl) (by decide) (fun K hK => ?_)
     refine goes_ Try.func40 (by kernel_rfl) rfl #[.agg (vals .i64 H), .agg (vals .i64 (pile (zs 44) h 1 h.length))] (by rfl) rfl rfl (by simp only [List.map_toArray, List.map_cons, List.map_nil]; rfl) ?_
     refine (less_calls H _ _ hH (by rw [pile_length, zs_length])).mono ?_
     rw [HLS.out]
     rintro e w39 ⟨rfl, hb⟩
     replace HBW := Aside0.mk (HBW.out.trans (FrB.below hb))
     (try replace HGB := Aside0.mk ((hb.block _ (lt_of_some HGB.out)).trans HGB.out))
     refine ⟨_, rfl, ?_⟩
     refine hK.out _ _ (hHeld.trans (FrB.below hb)) (fun hHeld => ?_)
     clear hK K
     refine norm_ (a' := ?_) ?_ ?_
     rotate_left
     ·show Act.put _ (some 30) _ = _
      simp only [Act.put, List.setIfInBounds_toArray, List.set_cons_zero, List.set_cons_succ, i64_w, i32_w]
      rfl
     refine one_ (i := 6) (N := some 32) #[true, true, true, true, true, true, true, true, true, false, false, false] rfl rfl (by kernel_rfl) (by decide) (fun K hK => ?_)
     refine goes_ Try.func60 (by kernel_rfl) rfl #[.slice Ad done.length cd] (by rfl) rfl rfl (by simp only [List.map_toArray, List.map_cons, List.map_nil]; rfl) ?_
     refine (cloneV_calls Ad cd done.length ss _ (Kd.C_below HRD2.out HBW.out.to_below) (by omega)).mono ?_
     rintro e w40 ⟨v32, rfl, ho32, hb⟩
     have HO32 := Aside0.mk (Kd.R_lower ho32 HBW.out.size)
     replace HBW := Aside0.mk (HBW.out.trans (FrB.below hb))
     (try replace HGB := Aside0.mk ((hb.block _ (lt_of_some HGB.out)).trans HGB.out))
     clear ho32
     refine ⟨_, rfl, ?_⟩
     refine hK.out _ _ (hHeld.trans (FrB.below hb)) (fun hHeld => ?_)
     clear hK K
     refine norm_ (a' := ?_) ?_ ?_
     rotate_left
     ·show Act.put _ (some 32) _ = _
      simp only [Act.put, List.setIfInBounds_toArray, List.set_cons_zero, List.set_cons_succ, i64_w, i32_w]
      rfl
     exact norm_ (by first | (simp only [putAll, Act.put, List.setIfInBounds_toArray, List.set_cons_zero, List.set_cons_succ]; done) | (simp only [putAll, Act.put, List.setIfInBounds_toArray, List.set_cons_zero, List.set_cons_succ]; rfl)) (hJ (v32, gb) _ ⟨hHeld, HBW.out, HO32.out, HGB.out⟩)
   ·skip
    refine s_litV (u := .slice Ah h.length ch) (e := 28) (by rfl) rfl (by first | (go_simp; done) | (go_simp; rfl)) ?_
    intro gb wg hgb hge hfb
    have HGB := Aside0.mk hgb
    replace HBW := Aside0.mk (HBW.out.trans hfb)
    (try replace HO32 := Aside0.mk (Kd.R_below HO32.out hfb.to_below))
    clear hgb hge
    refine hK.out _ _ (hHeld.trans (hfb.mono (by simp))) (fun hHeld => ?_)
    clear hK K
    refine norm_ (a' := ?_) ?_ ?_
    rotate_left
    ·show Act.put _ (some 34) _ = _
     simp only [Act.put, List.setIfInBounds_toArray, List.set_cons_zero, List.set_cons_succ, i64_w, i32_w]
     rfl
    refine one_ (i := 3) (N := some 29) #[true, true, true, true, false, true, false, true, true, false, false, false] rfl rfl (by kernel_rfl) (by decide) (fun K hK => ?_)
    refine goes_ Try.func41 (by kernel_rfl) rfl #[.slice Ah h.length ch] (by rfl) rfl rfl (by simp only [List.map_toArray, List.map_cons, List.map_nil]; rfl) ?_
    refine (hoistPieces_calls Ah ch h _ (Kd.R_reads' (Kd.R_below HO2.out HBW.out.to_below)).2.2 (Kd.R_reads' HO2.out).2.1 HQ.out.num (by omega)).mono ?_
    rintro e w38 ⟨rfl, hb⟩
    replace HBW := Aside0.mk (HBW.out.trans (FrB.below hb))
    (try replace HGB := Aside0.mk ((hb.block _ (lt_of_some HGB.out)).trans HGB.out))
    refine ⟨_, rfl, ?_⟩
    refine hK.out _ _ (hHeld.trans (FrB.below hb)) (fun hHeld => ?_)
    clear hK K
    refine norm_ (a' := ?_) ?_ ?_
    rotate_left
    ·show Act.put _ (some 29) _ = _
     simp only [Act.put, List.setIfInBounds_toArray, List.set_cons_zero, List.set_cons_succ, i64_w, i32_w]
     rfl
    refine one_ (i := 4) (N := some 30) #[true, true, true, true, true, true, false, true, true, false, false, false] rfl rfl (by kernel_rfl) (by decide) (fun K hK => ?_)
    refine goes_ Try.func40 (by kernel_rfl) rfl #[.agg (vals .i64 H), .agg (vals .i64 (pile (zs 44) h 1 h.length))] (by rfl) rfl rfl (by simp only [List.map_toArray, List.map_cons, List.map_nil]; rfl) ?_
    refine (less_calls H _ _ hH (by rw [pile_length, zs_length])).mono ?_
    rw [HLS.out]
    rintro e w39 ⟨rfl, hb⟩
    replace HBW := Aside0.mk (HBW.out.trans (FrB.below hb))
    (try replace HGB := Aside0.mk ((hb.block _ (lt_of_some HGB.out)).trans HGB.out))
    refine ⟨_, rfl, ?_⟩
    refine hK.out _ _ (hHeld.trans (FrB.below hb)) (fun hHeld => ?_)
    clear hK K
    refine norm_ (a' := ?_) ?_ ?_
    rotate_left
    ·show Act.put _ (some 30) _ = _
     simp only [Act.put, List.setIfInBounds_toArray, List.set_cons_zero, List.set_cons_succ, i64_w, i32_w]
     rfl
    refine one_ (i := 6) (N := some 32) #[true, true, true, true, true, true, true, true, true, false, false, false] rfl rfl (by kernel_rfl) (by decide) (fun K hK => ?_)
    refine goes_ Try.func60 (by kernel_rfl) rfl #[.slice Ad done.length cd] (by rfl) rfl rfl (by simp only [List.map_toArray, List.map_cons, List.map_nil]; rfl) ?_
    refine (cloneV_calls Ad cd done.length ss _ (Kd.C_below HRD2.out HBW.out.to_below) (by omega)).mono ?_
    rintro e w40 ⟨v32, rfl, ho32, hb⟩
    have HO32 := Aside0.mk (Kd.R_lower ho32 HBW.out.size)
    replace HBW := Aside0.mk (HBW.out.trans (FrB.below hb))
    (try replace HGB := Aside0.mk ((hb.block _ (lt_of_some HGB.out)).trans HGB.out))
    clear ho32
    refine ⟨_, rfl, ?_⟩
    refine hK.out _ _ (hHeld.trans (FrB.below hb)) (fun hHeld => ?_)
    clear hK K
    refine norm_ (a' := ?_) ?_ ?_
    rotate_left
    ·show Act.put _ (some 32) _ = _
     simp only [Act.put, List.setIfInBounds_toArray, List.set_cons_zero, List.set_cons_succ, i64_w, i32_w]
     rfl
    exact norm_ (by first | (simp only [putAll, Act.put, List.setIfInBounds_toArray, List.set_cons_zero, List.set_cons_succ]; done) | (simp only [putAll, Act.put, List.setIfInBounds_toArray, List.set_cons_zero, List.set_cons_succ]; rfl)) (hJ (v32, gb) _ ⟨hHeld, HBW.out, HO32.out, HGB.out⟩)
  rintro ⟨v32, gb⟩ wj ⟨hHeld, hj0, hj1, hj2⟩
  replace HBW := Aside0.mk hj0
  have HO32 := Aside0.mk hj1
  have HGB := Aside0.mk hj2
  clear hj0 hj1 hj2
  dsimp only at HO32 HGB
  refine norm_ (a' := ?_) ?_ ?_
  rotate_left
  ·simp only [putAll, Act.put, List.setIfInBounds_toArray, List.set_cons_zero, List.set_cons_succ]
   rfl
  refine one_ (i := 9) (N := some 35) #[true, true, true, true, true, true, true, true, true, true, false, false] rfl rfl (by kernel_rfl) (by decide) (fun K hK => ?_)
  refine Kd.R_append_rows_step kdV (w0 := w2) w2.heap.size (by rfl) (.tmp 32) (.tmp 34) 52 28 (.slice none 0 0) 24 rfl Try.underlying52 infoV rfl (by decide) (by decide) v32 ss [(Ah, h.length, ch)] (some ⟨gb, 0, none⟩) 1 1 (fun _ => True) (fun _ => False) rfl rfl HO32.out (row1V HGB.out) (fun _ _ h => h) (fun _ h => h.elim) (fun _ _ => trivial) HBW.out.to_below HBW.out.size (by omega) ?_
  intro v35 w35 ho35 hb35 hg35 hat35
  obtain ⟨A35, c35, hv35⟩ := Kd.R_slice ho35
  rw [HLL.out] at hv35
  subst hv35
  have HOB := Aside0.mk (And.intro (Kd.R_base ho35) (Kd.R_lt ho35))
  have HO35 := Aside0.mk (Kd.R_lower ho35 hbw0)
  have HBE : Aside0 (FrB [] w2 w35) := ⟨FrB.below hb35⟩
  clear ho35 hg35 hat35
  refine hK.out _ _ (FrB.below hb35) (fun hHeld => ?_)
  clear hK K
  refine norm_ (a' := ?_) ?_ ?_
  rotate_left
  ·show Act.put _ (some 35) _ = _
   simp only [Act.put, List.setIfInBounds_toArray, List.set_cons_zero, List.set_cons_succ, i64_w, i32_w]
   rfl
  refine one_ (i := 10) (N := some 36) #[true, true, true, true, true, true, true, true, true, true, true, false] rfl rfl (by kernel_rfl) (by decide) (fun K hK => ?_)
  refine goes_ Try.func47 (by kernel_rfl) rfl #[.pointer (some ⟨gf, 0, none⟩), .agg (vals .i64 (pile H h (-1) h.length)), .slice A35 (done ++ [h]).length c35] (by rfl) rfl rfl (by simp only [List.map_toArray, List.map_cons, List.map_nil]; rfl) ?_
  refine (HRX.out A35 c35 (ss ++ [(Ah, h.length, ch)]) _ w35 (fun k => (Z k ∨ base ≤ k) ∧ k < w35.heap.size) (below_then HBL2.out HBE.out.to_below) (HBE.out.row HXF.out (by simp)) (Nat.le_refl _) (HLV2.out.push (fun k t cs hk _ => HBE.out.other k (lt_of_some hk) (by simp)) HO35.out (Kd.R_lower (Kd.R_mono (Kd.R_bound (Kd.R_below HO2.out HBE.out.to_below)) (fun k hk => ⟨Nat.le_trans hN (Nat.le_trans hwb hk.2.1), hk.2.2.1⟩)) (Nat.le_trans HB0.out.size hwb)) (Nat.le_trans hN (Nat.le_trans hWs (Nat.le_trans hs2 HBE.out.size)))) (HKS.out w35 A35 c35 HBE.out.size HOB.out.1 HOB.out.2) (fun k hk => hk.2)).mono ?_
  rintro e w7 ⟨rfl, ⟨A7, m7, c7, hbx7, hS7⟩, hf7⟩
  have HX7 := Aside0.mk hbx7
  have HS7 := Aside0.mk hS7
  have hsz7 := HBE.out.size
  have HV7 := Aside0.mk ((hHeld.trans hf7).row H7B.out (by simp; exact n7f))
  have H37 := Aside0.mk ((hHeld.trans hf7).row H3B.out (by simp; exact n3f))
  refine ⟨_, rfl, ?_⟩
  refine hK.out _ _ (hHeld.trans hf7) (fun hHeld => ?_)
  clear hK K
  refine norm_ (a' := ?_) ?_ ?_
  rotate_left
  ·show Act.put _ (some 36) _ = _
   simp only [Act.put, List.setIfInBounds_toArray, List.set_cons_zero, List.set_cons_succ, i64_w, i32_w]
   rfl
  refine last_ (i := 11) (N := none) #[true, true, true, true, true, true, true, true, true, true, true, true] rfl rfl (by kernel_rfl) (by decide) (fun K hK => ?_)
  refine skip_ (by rfl) rfl (y_setAt (g := g7) (i := 0) (v := .bool b0) (by rfl) (by rfl) (by rfl) HV7.out rfl oneBoolF rfl rfl) ?_
  refine hK.out _ _ ?_
  clear hK K
  refine done_ (by kernel_rfl) ?_
  skip
  have HV8 : Aside0 ((w7.setCell ⟨g7, 0, none⟩ (.bool b0)).heap[g7]? = some (.cells #[.bool b0] 4 (0, 0))) := ⟨heap_setCell_same w7 g7 0 _ _ (.bool b0) HV7.out⟩
  have HF8 := Aside0.mk ((FrB.refl [g7] w7).set ⟨g7, 0, none⟩ (.bool b0) (.inl (by simp)))
  have HS8 := Aside0.mk (fun (hd : b0 = true) => Kd.S_set (HS7.out (HB0R.out hd)) HV7.out (fun q hq => by simp [kH, Kd.slice, Kd.int, Kd.scalar] at hq; rcases hq with rfl | rfl <;> decide) 0 (.bool b0))
  have HT8 := Aside0.mk (((HFS.out.mono (B' := [gf, g7]) (by simp)).trans (hHeld.mono (by simp))).trans (HF8.out.mono (by simp)))
  clear HS7 HBW HBE HO32 HGB HOB HO35 HB0R hHeld hf7 HRX HLV2 HRD2 HKS HLO HLL
  generalize w7.setCell ⟨g7, 0, none⟩ (Value.bool b0) = w8 at *
  have hc7 := cell1 HV8.out
  have hc3 := cell1 (HF8.out.row H37.out (by simp; exact n37))
  have HX8 := Aside0.mk (HF8.out.row HX7.out (by simp; exact fun e => n7f e.symm))
  have hcf3 := (blk_cell HX8.out 3).trans rfl
  have HIG := Aside0.mk (show IG wH w0 gf g7 Al n cl budget Z base ⟨rt, b7, b0, ro⟩ w8 from ⟨HI.out.fr.trans HT8.out, ⟨A7, m7, c7, HX8.out, fun hd => Kd.S_mono (HS8.out hd) (fun k hk => by
   rcases hk with hk | hk
   ·exact hk.1
   ·exact .inr (by omega))⟩, HV8.out, by dsimp only; omega, hhi1, HB7R.out⟩)
  clear HX8 HS8 HV8 HF8 HX7 H37 HV7 HB7R HFS HO2 HXF H3B H4B H5B H7B HBL2 HI HSS HX H3 H4 H5 HO HB1 HB0 HKl
  rcases HCB with ⟨rfl, rfl, rfl⟩ | ⟨rfl, rfl, rfl⟩ | ⟨rfl, rfl, rfl⟩
  all_goals
   go_wp2_with fail
   go_ret
   rw [HST.out]
   exact ⟨rfl, HIG.out, HT8.out⟩
end Go.Proofs.Ytfgogdhhihbcjaa.Arr
namespace Go.Proofs.Ytfgogdhhihbcjaa.Arr
open Go.RowKit Go.Proofs.YtfgogdhhihbcjaaW.PrintWords Go.Proofs.YtfgogdhhihbcjaaW.PrintLast Go.Proofs.YtfgogdhhihbcjaaW.PrintMore Go.Proofs.Ytfgogdhhihbcjaa.U Go.Proofs.Ytfgogdhhihbcjaa.H
set_option linter.unusedVariables false
set_option linter.unusedSimpArgs false
theorem oneMeF : OneTy Try.prog 33 := ⟨by kernel_rfl, by kernel_rfl⟩
set_option maxHeartbeats 16000000 in
set_option maxRecDepth 100000 in
theorem fly_calls {w0 : World} (gf : Nat) (Al : Option Addr) (cl : Nat) (ms : List (List Int)) (budget : Int) (hr : Kd.C kH w0 Al ms.length ms) (hp : ∀ m ∈ ms, plainM m = true) (hbd : 0 ≤ budget ∧ budget ≤ 20000) (h6 : ms.length ≤ 6) (hgf : w0.heap.size ≤ gf) :
  ∀ (d : Nat) (H : List Int) (done : List (List Int)) (Ad : Option Addr) (cd : Nat) (ss : List ShpV) (N : Nat) (t : Int) (W : World) (Z : Nat → Prop) (A : Option Addr) (m c : Nat), done.length + d = ms.length → H.length = 44 → (∀ j : Nat, j < 44 → 0 ≤ rd H (j : Int) ∧ rd H (j : Int) ≤ 20000) → (∀ x ∈ done, x.length ≤ 8) → 0 ≤ t → t ≤ budget →
   Below w0.heap.size w0 W → W.heap[gf]? = some (.cells (flC Al ms.length cl budget t false (.slice A m c)) 87 (0, 0)) → N ≤ W.heap.size → LV w0.heap.size N W (.slice Ad done.length cd) ss done → LVok Z (.slice Ad done.length cd) ss → (∀ k, Z k → k < W.heap.size) →
   Calls Try.prog 47 #[.pointer (some ⟨gf, 0, none⟩), .agg (vals .i64 H), .slice Ad done.length cd] W (FlyPost w0 gf Al ms.length cl budget Z (goW ms budget d H done t) W) := by
 intro d
 induction d with
 | zero =>
  intro H done Ad cd ss N t W Z A m c hd hl hL h8 ht0 ht hbel hbox hN hlv hlo hZ
  have hdl : ((done.length : Int) == (ms.length : Int)) = true := by rw [beq_iff_eq]; omega
  have HX := Aside0.mk hbox
  have HS := Aside0.mk (hlv.toSK hlo)
  have hm := Mem.start W
  have HXL := Aside0.mk hl
  clear hr hp hL h8 hbel hbox hlv hlo hZ hl
  unfold FlyPost
  go_enter Try.func47, Try.ntmps47
  go_wp2_with (first
   | ((with_reducible refine gt_box 3 85 ?_); refine st_box rfl 3 rfl 85 _ rfl hm (v := .pointer (some ⟨gf, 0, none⟩)) rfl (cs := #[.pointer (some ⟨gf, 0, none⟩)]) rfl ?_; clear hm; intro g3 wa hm)
   | ((with_reducible refine gt_box 4 71 ?_); refine st_box rfl 4 rfl 71 _ rfl hm (v := .agg (vals _ _)) rfl (cs := vals _ _) rfl ?_; clear hm; intro g4 wb hm)
   | ((with_reducible refine gt_box 5 52 ?_); refine st_box rfl 5 rfl 52 _ rfl hm (v := .slice Ad done.length cd) rfl (cs := #[.slice Ad done.length cd]) rfl ?_; clear hm; intro g5 wc hm; have H3 := Aside0.mk (hm.mem (n := 2) rfl); have H5 := Aside0.mk (hm.mem (n := 0) rfl); have HB := Aside0.mk (hm.done rfl); clear hm))
  have HXC := Aside0.mk ((HB.out.block _ (lt_of_some HX.out)).trans HX.out)
  refine start_ (n := 8) (S := fun w' => FrB [] wc w') (ds := []) #[false, false, false, false, false, false, false, false] (by kernel_rfl) rfl rfl (FrB.below (below_drew (Below.refl _ _))) (fun hHeld => ?_)
  refine take_ (i := 0) (N := some 8) (v := .slice Ad done.length cd) (a' := ?_) #[true, false, false, false, false, false, false, false] rfl rfl (by kernel_rfl) (fun _ _ _ h => h) (Or.inl ⟨by rfl, ?_⟩) hHeld ?_ ?_
  ·intro w' s0
   exact y_cell (by rfl) (by rfl) oneHsS (s0.read (cell1 H5.out))
  rotate_left
  ·simp only [Act.put, List.setIfInBounds_toArray, List.set_cons_zero, List.set_cons_succ, i64_w, i32_w]
   rfl
  refine pure_ (i := 1) (N := some 9) (v := ?_) (a' := ?_) #[true, true, false, false, false, false, false, false] rfl rfl (by kernel_rfl) (fun _ _ _ h => h) (Or.inl ⟨by rfl, ?_⟩) ?_ ?_
  rotate_left
  ·intro w'
   go_simp
   with_reducible rfl
  rotate_left
  ·simp only [Act.put, List.setIfInBounds_toArray, List.set_cons_zero, List.set_cons_succ, i64_w, i32_w]
   rfl
  refine take_ (i := 2) (N := some 10) (v := .pointer (some ⟨gf, 0, none⟩)) (a' := ?_) #[true, true, true, false, false, false, false, false] rfl rfl (by kernel_rfl) (fun _ _ _ h => h) (Or.inl ⟨by rfl, ?_⟩) hHeld ?_ ?_
  ·intro w' s0
   exact y_cell (by rfl) (by rfl) onePf (s0.read (cell1 H3.out))
  rotate_left
  ·simp only [Act.put, List.setIfInBounds_toArray, List.set_cons_zero, List.set_cons_succ, i64_w, i32_w]
   rfl
  refine pure_ (i := 3) (N := some 11) (v := ?_) (a' := ?_) #[true, true, true, true, false, false, false, false] rfl rfl (by kernel_rfl) (fun _ _ _ h => h) (Or.inl ⟨by rfl, ?_⟩) ?_ ?_
  rotate_left
  ·intro w'
   go_simp
   with_reducible rfl
  rotate_left
  ·simp only [Act.put, List.setIfInBounds_toArray, List.set_cons_zero, List.set_cons_succ, i64_w, i32_w]
   rfl
  refine pure_ (i := 4) (N := some 12) (v := ?_) (a' := ?_) #[true, true, true, true, true, false, false, false] rfl rfl (by kernel_rfl) (fun _ _ _ h => h) (Or.inl ⟨by rfl, ?_⟩) ?_ ?_
  rotate_left
  ·intro w'
   go_simp
   with_reducible rfl
  rotate_left
  ·simp only [Act.put, List.setIfInBounds_toArray, List.set_cons_zero, List.set_cons_succ, i64_w, i32_w]
   rfl
  refine take_ (i := 5) (N := some 13) (v := .slice Al ms.length cl) (a' := ?_) #[true, true, true, true, true, true, false, false] rfl rfl (by kernel_rfl) (fun _ _ _ h => h) (Or.inl ⟨by rfl, ?_⟩) hHeld ?_ ?_
  ·intro w' s0
   exact y_cell (by rfl) (by rfl) oneMsS (s0.read ((blk_cell HXC.out 0).trans rfl))
  rotate_left
  ·simp only [Act.put, List.setIfInBounds_toArray, List.set_cons_zero, List.set_cons_succ, i64_w, i32_w]
   rfl
  refine pure_ (i := 6) (N := some 14) (v := ?_) (a' := ?_) #[true, true, true, true, true, true, true, false] rfl rfl (by kernel_rfl) (fun _ _ _ h => h) (Or.inl ⟨by rfl, ?_⟩) ?_ ?_
  rotate_left
  ·intro w'
   go_simp
   with_reducible rfl
  rotate_left
  ·simp only [Act.put, List.setIfInBounds_toArray, List.set_cons_zero, List.set_cons_succ, i64_w, i32_w]
   rfl
  refine pure_ (i := 7) (N := some 15) (v := ?_) (a' := ?_) #[true, true, true, true, true, true, true, true] rfl rfl (by kernel_rfl) (fun _ _ _ h => h) (Or.inl ⟨by rfl, ?_⟩) ?_ ?_
  rotate_left
  ·intro w'
   go_simp
   with_reducible rfl
  rotate_left
  ·simp only [Act.put, List.setIfInBounds_toArray, List.set_cons_zero, List.set_cons_succ, i64_w, i32_w]
   rfl
  refine done_ (by kernel_rfl) ?_
  skip
  have hc3 := hHeld.read (cell1 H3.out)
  have hc5 := hHeld.read (cell1 H5.out)
  have HXD := Aside0.mk (hHeld.row HXC.out (by simp))
  have HBD := Aside0.mk (below_then HB.out hHeld.to_below)
  clear hHeld
  generalize wc.drew = wd at *
  go_wp2_with ((with_reducible refine gt_store 52 ?_); refine st_at rfl 52 _ _ rfl (g := gf) (i := 4) (v := .slice Ad done.length cd) rfl rfl HXD.out rfl oneHsS rfl rfl ?_)
  go_ret
  refine ⟨rfl, ⟨Ad, done.length, cd, heap_setCell_same wd gf 4 _ _ (.slice Ad done.length cd) HXD.out, fun _ => ?_⟩, (FrB.below HBD.out : FrB [gf] W wd).trans ((FrB.refl [gf] wd).set ⟨gf, 4, none⟩ (.slice Ad done.length cd) (.inl (by simp)))⟩
  exact Kd.S_mono (Kd.S_set (Kd.S_below HS.out HBD.out) HXD.out (fun q hq => by simp [kH, Kd.slice, Kd.int, Kd.scalar] at hq; rcases hq with rfl | rfl <;> decide) 4 _) (fun k hk => .inl hk)
 | succ d ih =>
  intro H done Ad cd ss N t W Z A m c hd hl hL h8 ht0 ht hbel hbox hN hlv hlo hZ
  have hdl : ((done.length : Int) == (ms.length : Int)) = false := by rw [beq_eq_false_iff_ne]; omega
  have hlt : done.length < ms.length := by omega
  have hx2 := rdM_get ms done.length hlt
  obtain ⟨ad, A1, c1, rfl, hcell0, hl1, hC1⟩ := at_L1 hr (done.length : Int) (by omega) (by omega)
  rw [Int.toNat_natCast] at hcell0
  have hpx : plainM (rd_L1 ms (done.length : Int)) = true := by rw [hx2]; exact hp _ (List.getElem_mem hlt)
  obtain ⟨hpn, _, hp8⟩ := plainM_N hpx
  have HHO := Aside0.mk (fun (g3 g4 g5 g7 : Nat) (wH : World) (hbW : Below W.heap.size W wH) (h3 : wH.heap[g3]? = some (.cells #[.pointer (some ⟨gf, 0, none⟩)] 85 (0, 0))) (h4 : wH.heap[g4]? = some (.cells (vals .i64 H) 71 (0, 0))) (h5 : wH.heap[g5]? = some (.cells #[.slice Ad done.length cd] 52 (0, 0))) (h7 : wH.heap[g7]? = some (.cells #[.bool false] 4 (0, 0))) (hge7 : W.heap.size ≤ g7) =>
   have hg7 : w0.heap.size ≤ g7 := Nat.le_trans hbel.size hge7
   have hb0 : Below w0.heap.size w0 wH := below_then hbel hbW
   have hxf : wH.heap[gf]? = some (.cells (flC (some ad) ms.length cl budget t false (.slice A m c)) 87 (0, 0)) := (hbW.block _ (lt_of_some hbox)).trans hbox
   have hKl : ∀ k, Z k → k < wH.heap.size := fun k hk => Nat.lt_of_lt_of_le (hZ k hk) hbW.size
   hoistsQ_calls (flStep (fun x t => goW ms budget d (pile H x (-1) x.length) (done ++ [x]) t) budget) (IG wH w0 gf g7 (some ad) ms.length cl budget Z) (GoodF H) 59 #[.pointer (some ⟨g3, 0, none⟩), .pointer (some ⟨g4, 0, none⟩), .pointer (some ⟨g5, 0, none⟩), .pointer (some ⟨g7, 0, none⟩)] [gf, g7] ⟨t, false, false, []⟩ A1 c1 (rd_L1 ms (done.length : Int)) H wH fly1_enters
    (fun b hb => by
     simp only [List.mem_cons, List.not_mem_nil, or_false] at hb
     rcases hb with rfl | rfl
     ·exact lt_of_some hxf
     ·exact lt_of_some h7)
    (fun W2 hW2 => Kd.C_below hC1 (FrB.past (FrB.below hb0 : FrB [] w0 wH) hW2 (fun b hb => by
     simp only [List.mem_cons, List.not_mem_nil, or_false] at hb
     rcases hb with rfl | rfl
     ·exact hgf
     ·exact hg7)).to_below)
    hl1 hpn (by omega) hl (fun j hj => by have := hL j hj; omega)
    (fun w1 hf => ⟨hf.mono (by simp), ⟨A, m, c, hf.row hxf (by simp), fun h => by cases h⟩, hf.row h7 (by simp), ht0, ht, fun h => by cases h⟩)
    (allW_good (m := rd_L1 ms (done.length : Int)) hl hpx (fun j hj => (hL j hj).1))
    (fun base s h v w1 hq hI ho hBb hwb hbw => flyOne_calls (w0 := w0) (wH := wH) gf g3 g4 g5 g7 (some ad) ms.length cl budget Z H done Ad cd ss N (fun x t => goW ms budget d (pile H x (-1) x.length) (done ++ [x]) t) hb0 hgf hg7 h3 h4 h5 ⟨_, hxf⟩ ⟨_, h7⟩ (Nat.le_trans hN hbW.size) (hlv.below hbW) hlo hKl hl hL (by omega) hbd
     (fun x hx t2 ht2 => by
      have hg := goW_ok (ms := ms) (budget := budget) hp d (pile H x (-1) x.length) (done ++ [x]) t2 (by simp; omega) (by rw [pile_length]; exact hl) hx.low (fun y hy => by
       rcases List.mem_append.1 hy with h | h
       ·exact h8 y h
       ·rw [List.mem_singleton] at h
        rw [h]
        exact hx.len) ht2
      exact ⟨hg.code, hg.lo, hg.hi, hg.over⟩)
     (fun x hx A73 c73 ss2 N2 t2 W5 K5 A2 m2 c2 h0 hb2 hbl hbx hN2 hlv2 hlo2 hK5 => ih (pile H x (-1) x.length) (done ++ [x]) A73 c73 ss2 N2 t2 W5 K5 A2 m2 c2 (by simp; omega) (by rw [pile_length]; exact hl) (fun j hj => ⟨hx.low j hj, by have h1 := pile_neg_le hl (h := x) x.length j hj; have h2 := hL j hj; omega⟩) (fun y hy => by
      rcases List.mem_append.1 hy with h | h
      ·exact h8 y h
      ·rw [List.mem_singleton] at h
       rw [h]
       exact hx.len) h0 hb2 hbl hbx hN2 hlv2 hlo2 hK5)
     base s h v w1 hq hI ho hwb hbw)
    (fun base s gh w1 w2 hI hlt hni hge hf => hI.stab hKl hlt hni hge hf))
  have HRUN := Aside0.mk (runL_fl (fun x t => goW ms budget d (pile H x (-1) x.length) (done ++ [x]) t) budget (allW H (rd_L1 ms (done.length : Int))) ⟨t, false, false, []⟩ rfl rfl)
  change Aside0 (∃ o, runL (flStep (fun x t => goW ms budget d (pile H x (-1) x.length) (done ++ [x]) t) budget) ⟨t, false, false, []⟩ (leaves (rd_L1 ms (done.length : Int)) 4 (enough H) (rd_L1 ms (done.length : Int)).length [] 0) = ((⟨(goW ms budget (d + 1) H done t).2, decide ((goW ms budget (d + 1) H done t).1.2 = 7), decide ((goW ms budget (d + 1) H done t).1.2 = 0), o⟩ : FlS), decide ((goW ms budget (d + 1) H done t).1.2 = 6)) ∧ ((goW ms budget (d + 1) H done t).1.2 = 0 → o = (goW ms budget (d + 1) H done t).1.1)) at HRUN
  have HX := Aside0.mk hbox
  have HC0 := Aside0.mk hcell0
  have HB0 := Aside0.mk hbel
  have hm := Mem.start W
  have HXL := Aside0.mk hl
  clear ih hr hp hL h8 hbel hbox hlv hlo hZ hl hx2 hpx hpn hp8 hC1 hcell0
  generalize goW ms budget (d + 1) H done t = r at *
  generalize hstp : flStep (fun x t => goW ms budget d (pile H x (-1) x.length) (done ++ [x]) t) budget = stp at *
  clear hstp
  generalize hlvs : leaves (rd_L1 ms (done.length : Int)) 4 (enough H) (rd_L1 ms (done.length : Int)).length [] 0 = lv at *
  clear hlvs
  generalize rd_L1 ms (done.length : Int) = mm at *
  unfold FlyPost
  go_enter Try.func47, Try.ntmps47
  go_wp2_with (first
   | ((with_reducible refine gt_box 3 85 ?_); refine st_box rfl 3 rfl 85 _ rfl hm (v := .pointer (some ⟨gf, 0, none⟩)) rfl (cs := #[.pointer (some ⟨gf, 0, none⟩)]) rfl ?_; clear hm; intro g3 wa hm)
   | ((with_reducible refine gt_box 4 71 ?_); refine st_box rfl 4 rfl 71 _ rfl hm (v := .agg (vals _ _)) rfl (cs := vals _ _) rfl ?_; clear hm; intro g4 wb hm)
   | ((with_reducible refine gt_box 5 52 ?_); refine st_box rfl 5 rfl 52 _ rfl hm (v := .slice Ad done.length cd) rfl (cs := #[.slice Ad done.length cd]) rfl ?_; clear hm; intro g5 wc hm; have H3 := Aside0.mk (hm.mem (n := 2) rfl); have H4 := Aside0.mk (hm.mem (n := 1) rfl); have H5 := Aside0.mk (hm.mem (n := 0) rfl); have HB := Aside0.mk (hm.done rfl); clear hm))
  have HXC := Aside0.mk ((HB.out.block _ (lt_of_some HX.out)).trans HX.out)
  refine start_ (n := 8) (S := fun w' => FrB [] wc w') (ds := []) #[false, false, false, false, false, false, false, false] (by kernel_rfl) rfl rfl (FrB.below (below_drew (Below.refl _ _))) (fun hHeld => ?_)
  refine take_ (i := 0) (N := some 8) (v := .slice Ad done.length cd) (a' := ?_) #[true, false, false, false, false, false, false, false] rfl rfl (by kernel_rfl) (fun _ _ _ h => h) (Or.inl ⟨by rfl, ?_⟩) hHeld ?_ ?_
  ·intro w' s0
   exact y_cell (by rfl) (by rfl) oneHsS (s0.read (cell1 H5.out))
  rotate_left
  ·simp only [Act.put, List.setIfInBounds_toArray, List.set_cons_zero, List.set_cons_succ, i64_w, i32_w]
   rfl
  refine pure_ (i := 1) (N := some 9) (v := ?_) (a' := ?_) #[true, true, false, false, false, false, false, false] rfl rfl (by kernel_rfl) (fun _ _ _ h => h) (Or.inl ⟨by rfl, ?_⟩) ?_ ?_
  rotate_left
  ·intro w'
   go_simp
   with_reducible rfl
  rotate_left
  ·simp only [Act.put, List.setIfInBounds_toArray, List.set_cons_zero, List.set_cons_succ, i64_w, i32_w]
   rfl
  refine take_ (i := 2) (N := some 10) (v := .pointer (some ⟨gf, 0, none⟩)) (a' := ?_) #[true, true, true, false, false, false, false, false] rfl rfl (by kernel_rfl) (fun _ _ _ h => h) (Or.inl ⟨by rfl, ?_⟩) hHeld ?_ ?_
  ·intro w' s0
   exact y_cell (by rfl) (by rfl) onePf (s0.read (cell1 H3.out))
  rotate_left
  ·simp only [Act.put, List.setIfInBounds_toArray, List.set_cons_zero, List.set_cons_succ, i64_w, i32_w]
   rfl
  refine pure_ (i := 3) (N := some 11) (v := ?_) (a' := ?_) #[true, true, true, true, false, false, false, false] rfl rfl (by kernel_rfl) (fun _ _ _ h => h) (Or.inl ⟨by rfl, ?_⟩) ?_ ?_
  rotate_left
  ·intro w'
   go_simp
   with_reducible rfl
  rotate_left
  ·simp only [Act.put, List.setIfInBounds_toArray, List.set_cons_zero, List.set_cons_succ, i64_w, i32_w]
   rfl
  refine pure_ (i := 4) (N := some 12) (v := ?_) (a' := ?_) #[true, true, true, true, true, false, false, false] rfl rfl (by kernel_rfl) (fun _ _ _ h => h) (Or.inl ⟨by rfl, ?_⟩) ?_ ?_
  rotate_left
  ·intro w'
   go_simp
   with_reducible rfl
  rotate_left
  ·simp only [Act.put, List.setIfInBounds_toArray, List.set_cons_zero, List.set_cons_succ, i64_w, i32_w]
   rfl
  refine take_ (i := 5) (N := some 13) (v := .slice (some ad) ms.length cl) (a' := ?_) #[true, true, true, true, true, true, false, false] rfl rfl (by kernel_rfl) (fun _ _ _ h => h) (Or.inl ⟨by rfl, ?_⟩) hHeld ?_ ?_
  ·intro w' s0
   exact y_cell (by rfl) (by rfl) oneMsS (s0.read ((blk_cell HXC.out 0).trans rfl))
  rotate_left
  ·simp only [Act.put, List.setIfInBounds_toArray, List.set_cons_zero, List.set_cons_succ, i64_w, i32_w]
   rfl
  refine pure_ (i := 6) (N := some 14) (v := ?_) (a' := ?_) #[true, true, true, true, true, true, true, false] rfl rfl (by kernel_rfl) (fun _ _ _ h => h) (Or.inl ⟨by rfl, ?_⟩) ?_ ?_
  rotate_left
  ·intro w'
   go_simp
   with_reducible rfl
  rotate_left
  ·simp only [Act.put, List.setIfInBounds_toArray, List.set_cons_zero, List.set_cons_succ, i64_w, i32_w]
   rfl
  refine pure_ (i := 7) (N := some 15) (v := ?_) (a' := ?_) #[true, true, true, true, true, true, true, true] rfl rfl (by kernel_rfl) (fun _ _ _ h => h) (Or.inl ⟨by rfl, ?_⟩) ?_ ?_
  rotate_left
  ·intro w'
   go_simp
   with_reducible rfl
  rotate_left
  ·simp only [Act.put, List.setIfInBounds_toArray, List.set_cons_zero, List.set_cons_succ, i64_w, i32_w]
   rfl
  refine done_ (by kernel_rfl) ?_
  skip
  have HFD := Aside0.mk hHeld
  clear hHeld
  generalize wc.drew = wd at *
  have hm7 := Mem.start wd
  go_wp2_with (first
   | ((with_reducible refine gt_alloc 7 4 ?_); refine st_alloc rfl 7 rfl 4 rfl hm7 zeroBool ?_; clear hm7; intro g7 we0 hm7)
   | ((with_reducible refine gt_store 4 ?_); refine st_one rfl 4 _ _ rfl hm7 rfl rfl 0 rfl oneBool rfl rfl ?_; clear hm7; intro we hm7; simp only [List.set_cons_zero, List.set_cons_succ] at hm7))
  have H7 := Aside0.mk (hm7.mem (n := 0) rfl)
  have hge7 := hm7.own_ge 0 rfl
  have HFE := Aside0.mk (HFD.out.trans (FrB.below (hm7.done rfl) : FrB [] wd we))
  have hGE : W.heap.size ≤ g7 := Nat.le_trans (Nat.le_trans HB.out.size HFD.out.size) hge7
  have H3E := Aside0.mk (HFE.out.row H3.out (by simp))
  have H4E := Aside0.mk (HFE.out.row H4.out (by simp))
  have H5E := Aside0.mk (HFE.out.row H5.out (by simp))
  have HXE := Aside0.mk (HFE.out.row HXC.out (by simp))
  have HBE := Aside0.mk (below_then HB.out HFE.out.to_below)
  have hcE := (FrB.below (below_then HB0.out HBE.out) : FrB [] w0 we).read HC0.out
  clear hm7 hge7
  refine start_ (n := 11) (S := fun w' => FrB [] we w') (ds := [10]) #[false, false, false, false, false, false, false, false, false, false, false] (by kernel_rfl) rfl rfl (FrB.below (below_drew (Below.refl _ _))) (fun hHeld => ?_)
  refine take_ (i := 0) (N := some 20) (v := .pointer (some ⟨gf, 0, none⟩)) (a' := ?_) #[true, false, false, false, false, false, false, false, false, false, false] rfl rfl (by kernel_rfl) (fun _ _ _ h => h) (Or.inl ⟨by rfl, ?_⟩) hHeld ?_ ?_
  ·intro w' s0
   exact y_cell (by rfl) (by rfl) onePf (s0.read (cell1 H3E.out))
  rotate_left
  ·simp only [Act.put, List.setIfInBounds_toArray, List.set_cons_zero, List.set_cons_succ, i64_w, i32_w]
   rfl
  refine pure_ (i := 1) (N := some 21) (v := ?_) (a' := ?_) #[true, true, false, false, false, false, false, false, false, false, false] rfl rfl (by kernel_rfl) (fun _ _ _ h => h) (Or.inl ⟨by rfl, ?_⟩) ?_ ?_
  rotate_left
  ·intro w'
   go_simp
   with_reducible rfl
  rotate_left
  ·simp only [Act.put, List.setIfInBounds_toArray, List.set_cons_zero, List.set_cons_succ, i64_w, i32_w]
   rfl
  refine pure_ (i := 2) (N := some 22) (v := ?_) (a' := ?_) #[true, true, true, false, false, false, false, false, false, false, false] rfl rfl (by kernel_rfl) (fun _ _ _ h => h) (Or.inl ⟨by rfl, ?_⟩) ?_ ?_
  rotate_left
  ·intro w'
   go_simp
   with_reducible rfl
  rotate_left
  ·simp only [Act.put, List.setIfInBounds_toArray, List.set_cons_zero, List.set_cons_succ, i64_w, i32_w]
   rfl
  refine take_ (i := 3) (N := some 23) (v := .slice (some ad) ms.length cl) (a' := ?_) #[true, true, true, true, false, false, false, false, false, false, false] rfl rfl (by kernel_rfl) (fun _ _ _ h => h) (Or.inl ⟨by rfl, ?_⟩) hHeld ?_ ?_
  ·intro w' s0
   exact y_cell (by rfl) (by rfl) oneMsS (s0.read ((blk_cell HXE.out 0).trans rfl))
  rotate_left
  ·simp only [Act.put, List.setIfInBounds_toArray, List.set_cons_zero, List.set_cons_succ, i64_w, i32_w]
   rfl
  refine take_ (i := 4) (N := some 24) (v := .slice Ad done.length cd) (a' := ?_) #[true, true, true, true, true, false, false, false, false, false, false] rfl rfl (by kernel_rfl) (fun _ _ _ h => h) (Or.inl ⟨by rfl, ?_⟩) hHeld ?_ ?_
  ·intro w' s0
   exact y_cell (by rfl) (by rfl) oneHsS (s0.read (cell1 H5E.out))
  rotate_left
  ·simp only [Act.put, List.setIfInBounds_toArray, List.set_cons_zero, List.set_cons_succ, i64_w, i32_w]
   rfl
  refine pure_ (i := 5) (N := some 25) (v := ?_) (a' := ?_) #[true, true, true, true, true, true, false, false, false, false, false] rfl rfl (by kernel_rfl) (fun _ _ _ h => h) (Or.inl ⟨by rfl, ?_⟩) ?_ ?_
  rotate_left
  ·intro w'
   go_simp
   with_reducible rfl
  rotate_left
  ·simp only [Act.put, List.setIfInBounds_toArray, List.set_cons_zero, List.set_cons_succ, i64_w, i32_w]
   rfl
  refine pure_ (i := 6) (N := some 26) (v := ?_) (a' := ?_) #[true, true, true, true, true, true, true, false, false, false, false] rfl rfl (by kernel_rfl) (fun _ _ _ h => h) (Or.inl ⟨by rfl, ?_⟩) ?_ ?_
  rotate_left
  ·intro w'
   go_simp
   with_reducible rfl
  rotate_left
  ·simp only [Act.put, List.setIfInBounds_toArray, List.set_cons_zero, List.set_cons_succ, i64_w, i32_w]
   rfl
  refine take_ (i := 7) (N := some 27) (v := .slice A1 mm.length c1) (a' := ?_) #[true, true, true, true, true, true, true, true, false, false, false] rfl rfl (by kernel_rfl) (fun _ _ _ h => h) (Or.inl ⟨by rfl, ?_⟩) hHeld ?_ ?_
  ·intro w' s0
   exact y_cell (by rfl) (by rfl) oneMeF (s0.read hcE)
  rotate_left
  ·simp only [Act.put, List.setIfInBounds_toArray, List.set_cons_zero, List.set_cons_succ, i64_w, i32_w]
   rfl
  refine take_ (i := 8) (N := some 28) (v := .agg (vals .i64 H)) (a' := ?_) #[true, true, true, true, true, true, true, true, true, false, false] rfl rfl (by kernel_rfl) (fun _ _ _ h => h) (Or.inl ⟨by rfl, ?_⟩) hHeld ?_ ?_
  ·intro w' s0
   exact y_rowA (by rfl) (by rfl) (s0.row H4E.out (by simp)) aggPc (by rw [vals_size]; exact HXL.out)
  rotate_left
  ·simp only [Act.put, List.setIfInBounds_toArray, List.set_cons_zero, List.set_cons_succ, i64_w, i32_w]
   rfl
  refine take_ (i := 9) (N := some 29) (v := .func (.func 59) #[] #[.pointer (some ⟨g3, 0, none⟩), .pointer (some ⟨g4, 0, none⟩), .pointer (some ⟨g5, 0, none⟩), .pointer (some ⟨g7, 0, none⟩)]) (a' := ?_) #[true, true, true, true, true, true, true, true, true, true, false] rfl rfl (by kernel_rfl) (fun _ _ _ h => h) (Or.inl ⟨by rfl, ?_⟩) hHeld ?_ ?_
  ·intro w' s0
   exact (by first | rfl | (go_simp; done) | (go_simp; rfl))
  rotate_left
  ·simp only [Act.put, List.setIfInBounds_toArray, List.set_cons_zero, List.set_cons_succ, i64_w, i32_w]
   rfl
  refine last_ (i := 10) (N := some 30) #[true, true, true, true, true, true, true, true, true, true, true] rfl rfl (by kernel_rfl) (by decide) (fun K hK => ?_)
  refine goes_ Try.func54 (by kernel_rfl) rfl #[.slice A1 mm.length c1, .agg (vals .i64 H), .func (.func 59) #[] #[.pointer (some ⟨g3, 0, none⟩), .pointer (some ⟨g4, 0, none⟩), .pointer (some ⟨g5, 0, none⟩), .pointer (some ⟨g7, 0, none⟩)]] (by rfl) rfl rfl (by simp only [List.map_toArray, List.map_cons, List.map_nil]; rfl) ?_
  refine (HHO.out g3 g4 g5 g7 _ (below_then HBE.out hHeld.to_below) (hHeld.row H3E.out (by simp)) (hHeld.row H4E.out (by simp)) (hHeld.row H5E.out (by simp)) (hHeld.row H7.out (by simp)) hGE).mono ?_
  rintro e w7 ⟨base, s', on, rfl, hrun, hwb, hbw, hI7, hf7⟩
  refine ⟨_, rfl, ?_⟩
  refine hK.out _ _ ?_
  clear hK K
  refine norm_ (a' := ?_) ?_ ?_
  rotate_left
  ·show Act.put _ (some 30) _ = _
   simp only [Act.put, List.setIfInBounds_toArray, List.set_cons_zero, List.set_cons_succ, i64_w, i32_w]
   rfl
  refine done_ (by kernel_rfl) ?_
  skip
  obtain ⟨o, ho, ho2⟩ := HRUN.out
  have hs' := hrun.symm.trans ho
  injection hs' with hs' _
  subst hs'
  obtain ⟨A7, m7, c7, hx7, hS7⟩ := hI7.box
  have HX7 := Aside0.mk hx7
  have HS7 := Aside0.mk hS7
  have HO2 := Aside0.mk ho2
  have hc7 := cell1 hI7.var
  have HSZ := Aside0.mk (Nat.le_trans (below_then HBE.out hHeld.to_below).size hwb)
  have hBW := below_then HBE.out hHeld.to_below
  have HF7 : Aside0 (FrB [gf] W w7) := ⟨⟨hf7.os.trans hBW.os, hf7.tape.trans hBW.tape, hf7.output.trans hBW.output, Nat.le_trans hBW.size hf7.size, fun k hk hn => (hf7.other k (Nat.lt_of_lt_of_le hk hBW.size) (by simp at hn ⊢; exact ⟨hn, by omega⟩)).trans (hBW.block k hk)⟩⟩
  clear hrun ho ho2 hx7 hS7 hI7 hf7 hHeld HHO HRUN hBW
  go_wp2_with fail
  go_ret
  exact ⟨rfl, ⟨A7, m7, c7, HX7.out, fun h => by
   have := HS7.out (decide_eq_true h)
   rw [HO2.out h] at this
   exact Kd.S_mono this (fun k hk => by
    rcases hk with hk | hk
    ·exact .inl hk
    ·exact .inr (Nat.le_trans HSZ.out hk))⟩, HF7.out⟩
end Go.Proofs.Ytfgogdhhihbcjaa.Arr
namespace Go.Proofs.Ytfgogdhhihbcjaa.Arr
open Go.RowKit Go.Proofs.YtfgogdhhihbcjaaW.PrintWords Go.Proofs.YtfgogdhhihbcjaaW.PrintLast Go.Proofs.YtfgogdhhihbcjaaW.PrintMore Go.Proofs.Ytfgogdhhihbcjaa.U Go.Proofs.Ytfgogdhhihbcjaa.H
set_option linter.unusedVariables false
set_option linter.unusedSimpArgs false
theorem C_ints2 {w : World} {g : Nat} {a b : Int} {t : TypeId} (h : w.heap[g]? = some (.cells (vals .i64 [a, b]) t (0, 0))) : Kd.C (Kd.int .i64) w (some ⟨g, 0, none⟩) 2 [a, b] := by
 refine ⟨rfl, by omega, fun _ => ⟨_, rfl, fun j y hj => ?_⟩⟩
 refine ⟨[.int .i64 y], rfl, rfl, fun i u hu => ?_⟩
 match i, hu with
 | 0, hu =>
  obtain rfl := Option.some.inj hu
  have hadd : (⟨g, 0, none⟩ : Addr).add (j * 1 + 0) = ⟨g, j, none⟩ := by unfold Addr.add; split <;> simp_all
  show w.cell? ((⟨g, 0, none⟩ : Addr).add (j * 1 + 0)) = _
  rw [hadd, cell_of_row w g j _ _ (0, 0) h]
  simp only [vals, List.getElem?_toArray, List.getElem?_map, hj]
  rfl
 | i + 1, hu => simp at hu
section
variable {P : Program} {ops : Array Oper} {rest : List Oper} {o : Oper} {a : Act} {w0 w : World} {M : List Ent} {Q : Exit → Act → World → Prop}
theorem st_ints2 (hgd : o.guard = none) (d : Nat) (hdst : o.dst = some d) (t : TypeId) (x y : Operand) (ho : o.op = .buildSlice t 2 #[(0, x), (1, y)]) (hm : Mem w0 w M) {k : IntKind} {z z' : Int} {e : TypeId} (hx : a.eval x = .int k z) (hy : a.eval y = .int k z') (hu : P.underlying t = some (.slice e))
  (he : OneTy P e) (hz : ZeroTy P e (vals k [0]))
  (h : ∀ g w1, Mem w0 w1 (⟨g, vals k [z, z'], e, true⟩ :: M) → wpList P ops Q rest (a.put (some d) (.slice (some ⟨g, 0, none⟩) 2 2)) w1) : wpList P ops Q (o :: rest) a w := by
 obtain ⟨zz, hz, hzc⟩ := hz
 obtain ⟨_, hi⟩ := he
 refine wpList_plain hgd fun K hK => ?_
 rw [← hdst] at h
 unfold Oper.wp execOp
 cases hq : P.info? e with
 | none => simp [hq] at hi
 | some i =>
  have hs : i.size = 1 := by simpa [hq] using hi
  have hz' : i.zero = some zz := by simpa [hq] using hz
  have hf := fill_int (k := k) (z := z) (cells := (Array.range (2 * 1)).map (zz.cells[· % zz.cells.size]!)) (off := 0) (place := fun i => some (i * 1, 1)) (i := 0) (rest := [(1, .int k z')]) (by simp) (by simp)
  rw [fill_int (k := k) (z := z') (off := 1) (by simp) (by simp)] at hf
  have hc : (((Array.range (2 * 1)).map (zz.cells[· % zz.cells.size]!)).setIfInBounds 0 (.int k z)).setIfInBounds 1 (.int k z') = vals k [z, z'] := by
   rw [show Array.range (2 * 1) = #[0, 1] from rfl]
   generalize (fun x => zz.cells[x % zz.cells.size]!) = f
   simp [vals]
  rw [hc] at hf
  have hrun : (Instr.buildSlice t 2 #[(0, .int k z), (1, .int k z')]).run P w = .ok (.slice (some ⟨w.heap.size, 0, none⟩) 2 2) (w.alloc (.cells (vals k [z, z']) e)) := by
   simp only [Instr.buildSlice, Sem.run_bind, run_underlying hu w, Result.andThen_ok, sizeOf, typeInfo, run_program, hq, Sem.run_pure, hs, zeroValue, hz']
   rw [if_neg (by omega), if_neg (by omega)]
   simp only [Sem.run_bind, Sem.run_pure, Result.andThen_ok, hq, hz', hf, run_program]
   simp [Instr.fill, newRow, Sem.run_bind]
  simp only [ho, List.map_toArray, List.map_cons, List.map_nil, hx, hy, Sem.run_bind, hrun, Sem.run_pure, Result.andThen_ok]
  exact hK _ _ (h _ _ (hm.new _ _))
end
def fst2 (a b : Int) : Int := if a = 0 then b else a
theorem firstOf_calls (g : Nat) (a b : Int) (w : World) (h : w.heap[g]? = some (.cells (vals .i64 [a, b]) 2 (0, 0))) :
  Calls Try.prog 44 #[.slice (some ⟨g, 0, none⟩) 2 2] w fun e w' => e = .returned (.int .i64 (fst2 a b)) ∧ Below w.heap.size w w' := by
 refine (impl_firstOf.calls 4 _ 2 [a, b] (fst2 a b) w (C_ints2 h) (by simp) ?_).mono ?_
 ·unfold impl_firstOf.f fst2
  by_cases ha : a = 0
  ·by_cases hb : b = 0
   ·simp [impl_firstOf.l0, rd, ha, hb, wrap64]
   ·simp [impl_firstOf.l0, rd, ha, hb, wrap64]
  ·simp [impl_firstOf.l0, rd, ha, wrap64]
 ·rintro e w' ⟨rfl, hb⟩
  exact ⟨rfl, by first | exact hb | exact hb.below⟩
set_option maxHeartbeats 8000000 in
set_option maxRecDepth 100000 in
theorem implHoists_calls (L : List Int) (A0 : Option Addr) (c0 : Nat) (ms : List (List Int)) (budget : Int) (w : World) (hl : L.length = 44) (hw : Fits .i16 L) (hr : Kd.C kH w A0 ms.length ms) (hc : ms.length ≤ c0) (hs : ∀ x ∈ ms, Small8 x) (hn : ms.length ≤ 1048576) :
  Calls Try.prog 25 #[.agg (vals .i16 L), .slice A0 ms.length c0, .int .i64 budget] w fun e w' => ∃ v, e = .returned (.tuple #[v, .int .i64 (hsW L ms budget).2.1, .int .i64 (hsW L ms budget).2.2]) ∧ Kd.S kH 28 w' w.heap.size (fun _ => True) v (hsW L ms budget).1 ∧ Below w.heap.size w w' := by
 have hm := Mem.start w
 have HMT := Aside0.mk (fun W (hW : Below w.heap.size w W) => meaningCode_calls L A0 c0 ms W hl hw (Kd.C_below hr hW) hc hs hn)
 have HIN := Aside0.mk (fun W => within_calls budget 0 20000 W)
 have HPC := Aside0.mk (fun W => pieces_calls L W hl hw)
 have HXL := Aside0.mk hl
 rcases codeMs_cases L ms with h0 | h0 | h0
 ·rw [h0] at HMT
  by_cases hb : 0 ≤ budget ∧ budget ≤ 20000
  ·have HRES0 := Aside0.mk (show hsW L ms budget = (if (goW ms budget ms.length L [] 0).1.2 = 0 then ((goW ms budget ms.length L [] 0).1.1, (goW ms budget ms.length L [] 0).2, 0) else ([], 0, (goW ms budget ms.length L [] 0).1.2)) by unfold hsW; rw [if_pos (by unfold hsCode; rw [if_pos h0, if_pos hb])])
   rw [decide_eq_true hb] at HIN
   have HFS : Aside0 (fst2 0 0 = 0) := ⟨rfl⟩
   obtain ⟨hok, hpl, h6⟩ := codeMs_ok h0
   have hgo := goW_ok (ms := ms) (budget := budget) hpl ms.length L [] 0 (by simp) hl (fun j hj => (okL_bd hok hl j hj).1) (by simp) hb.1
   have HFL := Aside0.mk (fun gf W (hge : w.heap.size ≤ gf) (hbel : Below w.heap.size w W) (hbx : W.heap[gf]? = some (.cells (flC A0 ms.length c0 budget 0 false (.slice none 0 0)) 87 (0, 0))) => fly_calls (w0 := w) gf A0 c0 ms budget hr hpl hb h6 hge ms.length L [] none 0 [] 0 0 W (fun _ => False) none 0 0 (by simp) hl (okL_bd hok hl) (by simp) (Int.le_refl _) hb.1 hbel hbx (Nat.zero_le _) (LV.nil (Kd.R_nil _ _ _ _ _)) ⟨fun k hk => by simp [Value.ownBlock] at hk, fun s hs => by simp at hs⟩ (fun k hk => hk.elim))
   unfold FlyPost at HFL
   have hcode := hgo.code
   have HNN := Aside0.mk hgo.none
   clear hr hs hw hok hpl h0 hgo hl
   generalize goW ms budget ms.length L [] 0 = r at *
   obtain ⟨⟨ro, rc⟩, rt⟩ := r
   dsimp only at HRES0 HFL hcode HNN
   rcases hcode with rfl | rfl | rfl
   ·have HRES := Aside0.mk (HRES0.out.trans (if_pos rfl))
    clear HRES0 HNN
    go_enter Try.func25, Try.ntmps25
    go_wp2_with (first
     | ((with_reducible refine gt_box 3 31 ?_); refine st_box rfl 3 rfl 31 _ rfl hm (v := .agg (vals _ _)) rfl (cs := vals _ _) rfl ?_; clear hm; intro g3 w1 hm; have HB1 := Aside0.mk (hm.done rfl); have HG1 := Aside0.mk (hm.mem (n := 0) rfl); clear hm)
     | ((with_reducible refine gt_load 31 ?_); refine Kd.event_run rfl (y_rowA (by rfl) (by rfl) HG6.out aggLk (by rw [vals_size]; exact HXL.out)) ?_)
     | ((with_reducible refine gt_load 31 ?_); refine Kd.event_run rfl (y_rowA (by rfl) (by rfl) HG7.out aggLk (by rw [vals_size]; exact HXL.out)) ?_)
     | ((with_reducible refine gt_load 31 ?_); refine Kd.event_run rfl (y_rowA (by rfl) (by rfl) HG1.out aggLk (by rw [vals_size]; exact HXL.out)) ?_)
     | (go_at_call 34; refine (HMT.out _ HB1.out).mono ?_; rintro e w2 ⟨rfl, h⟩; have HB2 := Aside0.mk (below_then HB1.out h); have HG2 := Aside0.mk ((h.block _ (lt_of_some HG1.out)).trans HG1.out); clear h)
     | (go_at_call 46; refine (HIN.out _).mono ?_; rintro e w3 ⟨rfl, h⟩; have HB3 := Aside0.mk (below_then HB2.out h); have HG3 := Aside0.mk ((h.block _ (lt_of_some HG2.out)).trans HG2.out); clear h)
     | (go_at_call 45; refine (unless_callsH _ _ _).mono ?_; rintro e w4 ⟨rfl, h⟩; have HB4 := Aside0.mk (below_then HB3.out h); have HG4 := Aside0.mk ((h.block _ (lt_of_some HG3.out)).trans HG3.out); clear h; have hm4 := Mem.start w4)
     | (refine st_ints2 rfl 17 rfl 42 _ _ rfl hm4 rfl rfl Try.underlying42 oneI64O zeroI64O ?_; clear hm4; intro g17 w5 hm5; have HB5 := Aside0.mk (below_then HB4.out (hm5.done rfl)); have HG5 := Aside0.mk (((hm5.done rfl).block _ (lt_of_some HG4.out)).trans HG4.out); have H17 := Aside0.mk (hm5.mem (n := 0) rfl); clear hm5)
     | (go_at_call 44; refine (firstOf_calls g17 _ _ _ H17.out).mono ?_; rintro e w6 ⟨rfl, h⟩; rw [HFS.out]; have HB6 := Aside0.mk (below_then HB5.out h); have HG6 := Aside0.mk ((h.block _ (lt_of_some HG5.out)).trans HG5.out); clear h; have hm6 := Mem.start w6)
     | ((with_reducible refine gt_box 25 87 ?_); refine st_box rfl 25 rfl 87 _ rfl hm6 (v := .agg (flC A0 ms.length c0 budget 0 false (.slice none 0 0))) rfl (cs := flC A0 ms.length c0 budget 0 false (.slice none 0 0)) rfl ?_; clear hm6; intro gf w7 hm7; have HB7 := Aside0.mk (below_then HB6.out (hm7.done rfl)); have HG7 := Aside0.mk (((hm7.done rfl).block _ (lt_of_some HG6.out)).trans HG6.out); have HF7 := Aside0.mk (hm7.mem (n := 0) rfl); have HGE := Aside0.mk (Nat.le_trans HB6.out.size (hm7.own_ge 0 rfl)); clear hm7)
     | (go_at_call 36; refine (HPC.out _).mono ?_; rintro e w8 ⟨rfl, h⟩; have HB8 := Aside0.mk (below_then HB7.out h); have HF8 := Aside0.mk ((h.block _ (lt_of_some HF7.out)).trans HF7.out); clear h)
     | (go_at_call 47; refine (HFL.out gf w8 HGE.out HB8.out HF8.out).mono ?_; rintro e w9 ⟨rfl, ⟨A9, m9, c9, hx9, hS9⟩, hf9⟩; have HX9 := Aside0.mk hx9; have HS9 := Aside0.mk hS9; have HB9 := Aside0.mk (hf9.keeps HGE.out HB8.out); have hc92 := (blk_cell hx9 2).trans rfl; have hc93 := (blk_cell hx9 3).trans rfl; have hc94 := (blk_cell hx9 4).trans rfl; clear hx9 hS9 hf9))
    refine start_ (n := 11) (S := fun w' => Below w9.heap.size w9 w') (ds := []) #[false, false, false, false, false, false, false, false, false, false, false] (by kernel_rfl) rfl rfl (below_drew (Below.refl _ _)) (fun hHeld => ?_)
    refine pure_ (i := 0) (N := some 31) (v := ?_) (a' := ?_) #[true, false, false, false, false, false, false, false, false, false, false] rfl rfl (by kernel_rfl) (fun _ _ _ h => h) (Or.inl ⟨by rfl, ?_⟩) ?_ ?_
    rotate_left
    ·intro w'
     go_simp
     with_reducible rfl
    rotate_left
    ·simp only [Act.put, List.setIfInBounds_toArray, List.set_cons_zero, List.set_cons_succ, i64_w, i32_w]
     rfl
    refine pure_ (i := 1) (N := some 32) (v := ?_) (a' := ?_) #[true, true, false, false, false, false, false, false, false, false, false] rfl rfl (by kernel_rfl) (fun _ _ _ h => h) (Or.inl ⟨by rfl, ?_⟩) ?_ ?_
    rotate_left
    ·intro w'
     go_simp
     with_reducible rfl
    rotate_left
    ·simp only [Act.put, List.setIfInBounds_toArray, List.set_cons_zero, List.set_cons_succ, i64_w, i32_w]
     rfl
    refine pure_ (i := 2) (N := some 33) (v := ?_) (a' := ?_) #[true, true, true, false, false, false, false, false, false, false, false] rfl rfl (by kernel_rfl) (fun _ _ _ h => h) (Or.inl ⟨by rfl, ?_⟩) ?_ ?_
    rotate_left
    ·intro w'
     go_simp
     with_reducible rfl
    rotate_left
    ·simp only [Act.put, List.setIfInBounds_toArray, List.set_cons_zero, List.set_cons_succ, i64_w, i32_w]
     rfl
    refine pure_ (i := 4) (N := some 35) (v := ?_) (a' := ?_) #[true, true, true, false, true, false, false, false, false, false, false] rfl rfl (by kernel_rfl) (fun _ _ _ h => h) (Or.inl ⟨by rfl, ?_⟩) ?_ ?_
    rotate_left
    ·intro w'
     go_simp
     with_reducible rfl
    rotate_left
    ·simp only [Act.put, List.setIfInBounds_toArray, List.set_cons_zero, List.set_cons_succ, i64_w, i32_w]
     rfl
    refine pure_ (i := 5) (N := some 36) (v := ?_) (a' := ?_) #[true, true, true, false, true, true, false, false, false, false, false] rfl rfl (by kernel_rfl) (fun _ _ _ h => h) (Or.inl ⟨by rfl, ?_⟩) ?_ ?_
    rotate_left
    ·intro w'
     go_simp
     with_reducible rfl
    rotate_left
    ·simp only [Act.put, List.setIfInBounds_toArray, List.set_cons_zero, List.set_cons_succ, i64_w, i32_w]
     rfl
    refine pure_ (i := 6) (N := some 37) (v := ?_) (a' := ?_) #[true, true, true, false, true, true, true, false, false, false, false] rfl rfl (by kernel_rfl) (fun _ _ _ h => h) (Or.inl ⟨by rfl, ?_⟩) ?_ ?_
    rotate_left
    ·intro w'
     go_simp
     with_reducible rfl
    rotate_left
    ·simp only [Act.put, List.setIfInBounds_toArray, List.set_cons_zero, List.set_cons_succ, i64_w, i32_w]
     rfl
    refine take_ (i := 3) (N := some 34) (v := .slice A9 m9 c9) (a' := ?_) #[true, true, true, true, true, true, true, false, false, false, false] rfl rfl (by kernel_rfl) (fun _ _ _ h => h) (Or.inl ⟨by rfl, ?_⟩) hHeld ?_ ?_
    ·intro w' s0
     exact y_cell (by rfl) (by rfl) oneHsS ((FrB.below s0 : FrB [] w9 w').read hc94)
    rotate_left
    ·simp only [Act.put, List.setIfInBounds_toArray, List.set_cons_zero, List.set_cons_succ, i64_w, i32_w]
     rfl
    refine pure_ (i := 8) (N := some 6) (v := ?_) (a' := ?_) #[true, true, true, true, true, true, true, false, true, false, false] rfl rfl (by kernel_rfl) (fun _ _ _ h => h) (Or.inl ⟨by rfl, ?_⟩) ?_ ?_
    rotate_left
    ·intro w'
     go_simp
     with_reducible rfl
    rotate_left
    ·simp only [Act.put, List.setIfInBounds_toArray, List.set_cons_zero, List.set_cons_succ, i64_w, i32_w]
     rfl
    refine take_ (i := 7) (N := some 38) (v := .int .i64 rt) (a' := ?_) #[true, true, true, true, true, true, true, true, true, false, false] rfl rfl (by kernel_rfl) (fun _ _ _ h => h) (Or.inl ⟨by rfl, ?_⟩) hHeld ?_ ?_
    ·intro w' s0
     exact y_cell (by rfl) (by rfl) oneI64O ((FrB.below s0 : FrB [] w9 w').read hc92)
    rotate_left
    ·simp only [Act.put, List.setIfInBounds_toArray, List.set_cons_zero, List.set_cons_succ, i64_w, i32_w]
     rfl
    refine pure_ (i := 9) (N := some 7) (v := ?_) (a' := ?_) #[true, true, true, true, true, true, true, true, true, true, false] rfl rfl (by kernel_rfl) (fun _ _ _ h => h) (Or.inl ⟨by rfl, ?_⟩) ?_ ?_
    rotate_left
    ·intro w'
     go_simp
     with_reducible rfl
    rotate_left
    ·simp only [Act.put, List.setIfInBounds_toArray, List.set_cons_zero, List.set_cons_succ, i64_w, i32_w]
     rfl
    refine pure_ (i := 10) (N := some 8) (v := ?_) (a' := ?_) #[true, true, true, true, true, true, true, true, true, true, true] rfl rfl (by kernel_rfl) (fun _ _ _ h => h) (Or.inl ⟨by rfl, ?_⟩) ?_ ?_
    rotate_left
    ·intro w'
     go_simp
     with_reducible rfl
    rotate_left
    ·simp only [Act.put, List.setIfInBounds_toArray, List.set_cons_zero, List.set_cons_succ, i64_w, i32_w]
     rfl
    refine done_ (by kernel_rfl) ?_
    skip
    go_wp2_with fail
    go_ret3
    exact ⟨_, by rw [HRES.out]; rfl, by rw [HRES.out]; exact Kd.S_mono (Kd.S_below (by first | exact HS9.out rfl | exact HS9.out trivial | exact HS9.out) hHeld) (fun _ _ => trivial), below_then HB9.out hHeld⟩
   ·have HRES := Aside0.mk (HRES0.out.trans (if_neg (by decide)))
    clear HRES0 HNN
    go_enter Try.func25, Try.ntmps25
    go_wp2_with (first
     | ((with_reducible refine gt_box 3 31 ?_); refine st_box rfl 3 rfl 31 _ rfl hm (v := .agg (vals _ _)) rfl (cs := vals _ _) rfl ?_; clear hm; intro g3 w1 hm; have HB1 := Aside0.mk (hm.done rfl); have HG1 := Aside0.mk (hm.mem (n := 0) rfl); clear hm)
     | ((with_reducible refine gt_load 31 ?_); refine Kd.event_run rfl (y_rowA (by rfl) (by rfl) HG6.out aggLk (by rw [vals_size]; exact HXL.out)) ?_)
     | ((with_reducible refine gt_load 31 ?_); refine Kd.event_run rfl (y_rowA (by rfl) (by rfl) HG7.out aggLk (by rw [vals_size]; exact HXL.out)) ?_)
     | ((with_reducible refine gt_load 31 ?_); refine Kd.event_run rfl (y_rowA (by rfl) (by rfl) HG1.out aggLk (by rw [vals_size]; exact HXL.out)) ?_)
     | (go_at_call 34; refine (HMT.out _ HB1.out).mono ?_; rintro e w2 ⟨rfl, h⟩; have HB2 := Aside0.mk (below_then HB1.out h); have HG2 := Aside0.mk ((h.block _ (lt_of_some HG1.out)).trans HG1.out); clear h)
     | (go_at_call 46; refine (HIN.out _).mono ?_; rintro e w3 ⟨rfl, h⟩; have HB3 := Aside0.mk (below_then HB2.out h); have HG3 := Aside0.mk ((h.block _ (lt_of_some HG2.out)).trans HG2.out); clear h)
     | (go_at_call 45; refine (unless_callsH _ _ _).mono ?_; rintro e w4 ⟨rfl, h⟩; have HB4 := Aside0.mk (below_then HB3.out h); have HG4 := Aside0.mk ((h.block _ (lt_of_some HG3.out)).trans HG3.out); clear h; have hm4 := Mem.start w4)
     | (refine st_ints2 rfl 17 rfl 42 _ _ rfl hm4 rfl rfl Try.underlying42 oneI64O zeroI64O ?_; clear hm4; intro g17 w5 hm5; have HB5 := Aside0.mk (below_then HB4.out (hm5.done rfl)); have HG5 := Aside0.mk (((hm5.done rfl).block _ (lt_of_some HG4.out)).trans HG4.out); have H17 := Aside0.mk (hm5.mem (n := 0) rfl); clear hm5)
     | (go_at_call 44; refine (firstOf_calls g17 _ _ _ H17.out).mono ?_; rintro e w6 ⟨rfl, h⟩; rw [HFS.out]; have HB6 := Aside0.mk (below_then HB5.out h); have HG6 := Aside0.mk ((h.block _ (lt_of_some HG5.out)).trans HG5.out); clear h; have hm6 := Mem.start w6)
     | ((with_reducible refine gt_box 25 87 ?_); refine st_box rfl 25 rfl 87 _ rfl hm6 (v := .agg (flC A0 ms.length c0 budget 0 false (.slice none 0 0))) rfl (cs := flC A0 ms.length c0 budget 0 false (.slice none 0 0)) rfl ?_; clear hm6; intro gf w7 hm7; have HB7 := Aside0.mk (below_then HB6.out (hm7.done rfl)); have HG7 := Aside0.mk (((hm7.done rfl).block _ (lt_of_some HG6.out)).trans HG6.out); have HF7 := Aside0.mk (hm7.mem (n := 0) rfl); have HGE := Aside0.mk (Nat.le_trans HB6.out.size (hm7.own_ge 0 rfl)); clear hm7)
     | (go_at_call 36; refine (HPC.out _).mono ?_; rintro e w8 ⟨rfl, h⟩; have HB8 := Aside0.mk (below_then HB7.out h); have HF8 := Aside0.mk ((h.block _ (lt_of_some HF7.out)).trans HF7.out); clear h)
     | (go_at_call 47; refine (HFL.out gf w8 HGE.out HB8.out HF8.out).mono ?_; rintro e w9 ⟨rfl, ⟨A9, m9, c9, hx9, hS9⟩, hf9⟩; have HX9 := Aside0.mk hx9; have HS9 := Aside0.mk hS9; have HB9 := Aside0.mk (hf9.keeps HGE.out HB8.out); have hc92 := (blk_cell hx9 2).trans rfl; have hc93 := (blk_cell hx9 3).trans rfl; have hc94 := (blk_cell hx9 4).trans rfl; clear hx9 hS9 hf9))
    go_ret3
    exact ⟨_, by rw [HRES.out]; rfl, by rw [HRES.out]; exact Kd.S_nil _ _ _ _ _, HB9.out⟩
   ·have HRES := Aside0.mk (HRES0.out.trans (if_neg (by decide)))
    clear HRES0 HNN
    go_enter Try.func25, Try.ntmps25
    go_wp2_with (first
     | ((with_reducible refine gt_box 3 31 ?_); refine st_box rfl 3 rfl 31 _ rfl hm (v := .agg (vals _ _)) rfl (cs := vals _ _) rfl ?_; clear hm; intro g3 w1 hm; have HB1 := Aside0.mk (hm.done rfl); have HG1 := Aside0.mk (hm.mem (n := 0) rfl); clear hm)
     | ((with_reducible refine gt_load 31 ?_); refine Kd.event_run rfl (y_rowA (by rfl) (by rfl) HG6.out aggLk (by rw [vals_size]; exact HXL.out)) ?_)
     | ((with_reducible refine gt_load 31 ?_); refine Kd.event_run rfl (y_rowA (by rfl) (by rfl) HG7.out aggLk (by rw [vals_size]; exact HXL.out)) ?_)
     | ((with_reducible refine gt_load 31 ?_); refine Kd.event_run rfl (y_rowA (by rfl) (by rfl) HG1.out aggLk (by rw [vals_size]; exact HXL.out)) ?_)
     | (go_at_call 34; refine (HMT.out _ HB1.out).mono ?_; rintro e w2 ⟨rfl, h⟩; have HB2 := Aside0.mk (below_then HB1.out h); have HG2 := Aside0.mk ((h.block _ (lt_of_some HG1.out)).trans HG1.out); clear h)
     | (go_at_call 46; refine (HIN.out _).mono ?_; rintro e w3 ⟨rfl, h⟩; have HB3 := Aside0.mk (below_then HB2.out h); have HG3 := Aside0.mk ((h.block _ (lt_of_some HG2.out)).trans HG2.out); clear h)
     | (go_at_call 45; refine (unless_callsH _ _ _).mono ?_; rintro e w4 ⟨rfl, h⟩; have HB4 := Aside0.mk (below_then HB3.out h); have HG4 := Aside0.mk ((h.block _ (lt_of_some HG3.out)).trans HG3.out); clear h; have hm4 := Mem.start w4)
     | (refine st_ints2 rfl 17 rfl 42 _ _ rfl hm4 rfl rfl Try.underlying42 oneI64O zeroI64O ?_; clear hm4; intro g17 w5 hm5; have HB5 := Aside0.mk (below_then HB4.out (hm5.done rfl)); have HG5 := Aside0.mk (((hm5.done rfl).block _ (lt_of_some HG4.out)).trans HG4.out); have H17 := Aside0.mk (hm5.mem (n := 0) rfl); clear hm5)
     | (go_at_call 44; refine (firstOf_calls g17 _ _ _ H17.out).mono ?_; rintro e w6 ⟨rfl, h⟩; rw [HFS.out]; have HB6 := Aside0.mk (below_then HB5.out h); have HG6 := Aside0.mk ((h.block _ (lt_of_some HG5.out)).trans HG5.out); clear h; have hm6 := Mem.start w6)
     | ((with_reducible refine gt_box 25 87 ?_); refine st_box rfl 25 rfl 87 _ rfl hm6 (v := .agg (flC A0 ms.length c0 budget 0 false (.slice none 0 0))) rfl (cs := flC A0 ms.length c0 budget 0 false (.slice none 0 0)) rfl ?_; clear hm6; intro gf w7 hm7; have HB7 := Aside0.mk (below_then HB6.out (hm7.done rfl)); have HG7 := Aside0.mk (((hm7.done rfl).block _ (lt_of_some HG6.out)).trans HG6.out); have HF7 := Aside0.mk (hm7.mem (n := 0) rfl); have HGE := Aside0.mk (Nat.le_trans HB6.out.size (hm7.own_ge 0 rfl)); clear hm7)
     | (go_at_call 36; refine (HPC.out _).mono ?_; rintro e w8 ⟨rfl, h⟩; have HB8 := Aside0.mk (below_then HB7.out h); have HF8 := Aside0.mk ((h.block _ (lt_of_some HF7.out)).trans HF7.out); clear h)
     | (go_at_call 47; refine (HFL.out gf w8 HGE.out HB8.out HF8.out).mono ?_; rintro e w9 ⟨rfl, ⟨A9, m9, c9, hx9, hS9⟩, hf9⟩; have HX9 := Aside0.mk hx9; have HS9 := Aside0.mk hS9; have HB9 := Aside0.mk (hf9.keeps HGE.out HB8.out); have hc92 := (blk_cell hx9 2).trans rfl; have hc93 := (blk_cell hx9 3).trans rfl; have hc94 := (blk_cell hx9 4).trans rfl; clear hx9 hS9 hf9))
    go_ret3
    exact ⟨_, by rw [HRES.out]; rfl, by rw [HRES.out]; exact Kd.S_nil _ _ _ _ _, HB9.out⟩
  ·have HRES := Aside0.mk (show hsW L ms budget = ([], 0, 2) by
    have h2 : hsCode L ms budget = 2 := by unfold hsCode; rw [if_pos h0, if_neg hb]
    unfold hsW
    rw [if_neg (by rw [h2]; decide), h2])
   rw [decide_eq_false hb] at HIN
   have HFS : Aside0 (fst2 0 2 = 2) := ⟨rfl⟩
   clear hr hs hw h0 hl
   go_enter Try.func25, Try.ntmps25
   go_wp2_with (first
    | ((with_reducible refine gt_box 3 31 ?_); refine st_box rfl 3 rfl 31 _ rfl hm (v := .agg (vals _ _)) rfl (cs := vals _ _) rfl ?_; clear hm; intro g3 w1 hm; have HB1 := Aside0.mk (hm.done rfl); have HG1 := Aside0.mk (hm.mem (n := 0) rfl); clear hm)
    | ((with_reducible refine gt_load 31 ?_); refine Kd.event_run rfl (y_rowA (by rfl) (by rfl) HG1.out aggLk (by rw [vals_size]; exact HXL.out)) ?_)
    | (go_at_call 34; refine (HMT.out _ HB1.out).mono ?_; rintro e w2 ⟨rfl, h⟩; have HB2 := Aside0.mk (below_then HB1.out h); have HG2 := Aside0.mk ((h.block _ (lt_of_some HG1.out)).trans HG1.out); clear h)
    | (go_at_call 46; refine (HIN.out _).mono ?_; rintro e w3 ⟨rfl, h⟩; have HB3 := Aside0.mk (below_then HB2.out h); have HG3 := Aside0.mk ((h.block _ (lt_of_some HG2.out)).trans HG2.out); clear h)
    | (go_at_call 45; refine (unless_callsH _ _ _).mono ?_; rintro e w4 ⟨rfl, h⟩; have HB4 := Aside0.mk (below_then HB3.out h); have HG4 := Aside0.mk ((h.block _ (lt_of_some HG3.out)).trans HG3.out); clear h; have hm4 := Mem.start w4)
    | (refine st_ints2 rfl 17 rfl 42 _ _ rfl hm4 rfl rfl Try.underlying42 oneI64O zeroI64O ?_; clear hm4; intro g17 w5 hm5; have HB5 := Aside0.mk (below_then HB4.out (hm5.done rfl)); have HG5 := Aside0.mk (((hm5.done rfl).block _ (lt_of_some HG4.out)).trans HG4.out); have H17 := Aside0.mk (hm5.mem (n := 0) rfl); clear hm5)
    | (go_at_call 44; refine (firstOf_calls g17 _ _ _ H17.out).mono ?_; rintro e w6 ⟨rfl, h⟩; rw [HFS.out]; have HB6 := Aside0.mk (below_then HB5.out h); have HG6 := Aside0.mk ((h.block _ (lt_of_some HG5.out)).trans HG5.out); clear h; have hm6 := Mem.start w6))
   go_ret3
   exact ⟨_, by rw [HRES.out]; rfl, by rw [HRES.out]; exact Kd.S_nil _ _ _ _ _, HB6.out⟩
 ·rw [h0] at HMT
  have HRES := Aside0.mk (show hsW L ms budget = ([], 0, codeMs L ms) by
   have h2 : hsCode L ms budget = codeMs L ms := by unfold hsCode; rw [if_neg (by rw [h0]; decide)]
   unfold hsW
   rw [if_neg (by rw [h2, h0]; decide), h2])
  rw [h0] at HRES
  have HFS : ∀ z : Int, Aside0 (fst2 1 z = 1) := fun z => ⟨rfl⟩
  clear hr hs hw h0 hl
  go_enter Try.func25, Try.ntmps25
  go_wp2_with (first
   | ((with_reducible refine gt_box 3 31 ?_); refine st_box rfl 3 rfl 31 _ rfl hm (v := .agg (vals _ _)) rfl (cs := vals _ _) rfl ?_; clear hm; intro g3 w1 hm; have HB1 := Aside0.mk (hm.done rfl); have HG1 := Aside0.mk (hm.mem (n := 0) rfl); clear hm)
   | ((with_reducible refine gt_load 31 ?_); refine Kd.event_run rfl (y_rowA (by rfl) (by rfl) HG1.out aggLk (by rw [vals_size]; exact HXL.out)) ?_)
   | (go_at_call 34; refine (HMT.out _ HB1.out).mono ?_; rintro e w2 ⟨rfl, h⟩; have HB2 := Aside0.mk (below_then HB1.out h); have HG2 := Aside0.mk ((h.block _ (lt_of_some HG1.out)).trans HG1.out); clear h)
   | (go_at_call 46; refine (HIN.out _).mono ?_; rintro e w3 ⟨rfl, h⟩; have HB3 := Aside0.mk (below_then HB2.out h); have HG3 := Aside0.mk ((h.block _ (lt_of_some HG2.out)).trans HG2.out); clear h)
   | (go_at_call 45; refine (unless_callsH _ _ _).mono ?_; rintro e w4 ⟨rfl, h⟩; have HB4 := Aside0.mk (below_then HB3.out h); have HG4 := Aside0.mk ((h.block _ (lt_of_some HG3.out)).trans HG3.out); clear h; have hm4 := Mem.start w4)
   | (refine st_ints2 rfl 17 rfl 42 _ _ rfl hm4 rfl rfl Try.underlying42 oneI64O zeroI64O ?_; clear hm4; intro g17 w5 hm5; have HB5 := Aside0.mk (below_then HB4.out (hm5.done rfl)); have HG5 := Aside0.mk (((hm5.done rfl).block _ (lt_of_some HG4.out)).trans HG4.out); have H17 := Aside0.mk (hm5.mem (n := 0) rfl); clear hm5)
   | (go_at_call 44; refine (firstOf_calls g17 _ _ _ H17.out).mono ?_; rintro e w6 ⟨rfl, h⟩; rw [(HFS _).out]; have HB6 := Aside0.mk (below_then HB5.out h); have HG6 := Aside0.mk ((h.block _ (lt_of_some HG5.out)).trans HG5.out); clear h; have hm6 := Mem.start w6))
  all_goals
   go_ret3
   exact ⟨_, by rw [HRES.out]; rfl, by rw [HRES.out]; exact Kd.S_nil _ _ _ _ _, HB6.out⟩
 ·rw [h0] at HMT
  have HRES := Aside0.mk (show hsW L ms budget = ([], 0, codeMs L ms) by
   have h2 : hsCode L ms budget = codeMs L ms := by unfold hsCode; rw [if_neg (by rw [h0]; decide)]
   unfold hsW
   rw [if_neg (by rw [h2, h0]; decide), h2])
  rw [h0] at HRES
  have HFS : ∀ z : Int, Aside0 (fst2 3 z = 3) := fun z => ⟨rfl⟩
  clear hr hs hw h0 hl
  go_enter Try.func25, Try.ntmps25
  go_wp2_with (first
   | ((with_reducible refine gt_box 3 31 ?_); refine st_box rfl 3 rfl 31 _ rfl hm (v := .agg (vals _ _)) rfl (cs := vals _ _) rfl ?_; clear hm; intro g3 w1 hm; have HB1 := Aside0.mk (hm.done rfl); have HG1 := Aside0.mk (hm.mem (n := 0) rfl); clear hm)
   | ((with_reducible refine gt_load 31 ?_); refine Kd.event_run rfl (y_rowA (by rfl) (by rfl) HG1.out aggLk (by rw [vals_size]; exact HXL.out)) ?_)
   | (go_at_call 34; refine (HMT.out _ HB1.out).mono ?_; rintro e w2 ⟨rfl, h⟩; have HB2 := Aside0.mk (below_then HB1.out h); have HG2 := Aside0.mk ((h.block _ (lt_of_some HG1.out)).trans HG1.out); clear h)
   | (go_at_call 46; refine (HIN.out _).mono ?_; rintro e w3 ⟨rfl, h⟩; have HB3 := Aside0.mk (below_then HB2.out h); have HG3 := Aside0.mk ((h.block _ (lt_of_some HG2.out)).trans HG2.out); clear h)
   | (go_at_call 45; refine (unless_callsH _ _ _).mono ?_; rintro e w4 ⟨rfl, h⟩; have HB4 := Aside0.mk (below_then HB3.out h); have HG4 := Aside0.mk ((h.block _ (lt_of_some HG3.out)).trans HG3.out); clear h; have hm4 := Mem.start w4)
   | (refine st_ints2 rfl 17 rfl 42 _ _ rfl hm4 rfl rfl Try.underlying42 oneI64O zeroI64O ?_; clear hm4; intro g17 w5 hm5; have HB5 := Aside0.mk (below_then HB4.out (hm5.done rfl)); have HG5 := Aside0.mk (((hm5.done rfl).block _ (lt_of_some HG4.out)).trans HG4.out); have H17 := Aside0.mk (hm5.mem (n := 0) rfl); clear hm5)
   | (go_at_call 44; refine (firstOf_calls g17 _ _ _ H17.out).mono ?_; rintro e w6 ⟨rfl, h⟩; rw [(HFS _).out]; have HB6 := Aside0.mk (below_then HB5.out h); have HG6 := Aside0.mk ((h.block _ (lt_of_some HG5.out)).trans HG5.out); clear h; have hm6 := Mem.start w6))
  all_goals
   go_ret3
   exact ⟨_, by rw [HRES.out]; rfl, by rw [HRES.out]; exact Kd.S_nil _ _ _ _ _, HB6.out⟩
end Go.Proofs.Ytfgogdhhihbcjaa.Arr
namespace Go.Proofs.Ytfgogdhhihbcjaa.Arr
open Go.RowKit Go.Proofs.YtfgogdhhihbcjaaW.PrintWords Go.Proofs.YtfgogdhhihbcjaaW.PrintLast Go.Proofs.YtfgogdhhihbcjaaW.PrintMore Go.Proofs.Ytfgogdhhihbcjaa.U Go.Proofs.Ytfgogdhhihbcjaa.H
set_option linter.unusedVariables false
set_option linter.unusedSimpArgs false
abbrev RowP := World → Nat → (Nat → Prop) → Prop
structure IsRow (p : RowP) : Prop where
 mono : ∀ {W : World} {b : Nat} {ok ok' : Nat → Prop}, p W b ok → (∀ k, ok k → ok' k) → p W b ok'
 bound : ∀ {W : World} {b : Nat} {ok : Nat → Prop}, p W b ok → p W b (fun k => ok k ∧ b ≤ k ∧ k < W.heap.size)
 lower : ∀ {W : World} {b b' : Nat} {ok : Nat → Prop}, p W b ok → b' ≤ b → p W b' ok
 step : ∀ {W W1 : World} {b : Nat} {ok : Nat → Prop}, p W b ok → (∀ k, ok k → k < W.heap.size → W1.heap[k]? = W.heap[k]?) → p W1 b ok
theorem IsRow.below {p : RowP} (h : IsRow p) {W W1 : World} {b : Nat} {ok : Nat → Prop} (hp : p W b ok) (hb : Below W.heap.size W W1) : p W1 b ok := h.step hp (fun k _ hk => hb.block k hk)
abbrev PS (e : TypeId) (v : Value) (xs : List (List Int)) : RowP := fun W b ok => Kd.S kH e W b ok v xs
theorem isPS (e : TypeId) (v : Value) (xs : List (List Int)) : IsRow (PS e v xs) := ⟨fun h => Kd.S_mono h, fun h => Kd.S_mono (Kd.S_bound h) (fun k hk => ⟨hk.1, hk.2.1, hk.2.2.1⟩), fun h => Kd.S_lower h, fun h => Kd.S_step h⟩
structure T2 (w : World) (S1 S2 g2 : Nat) (L : List Int) (ps pm : RowP) (W : World) : Prop where
 bel : Below w.heap.size w W
 n : w.heap.size ≤ S1 ∧ S1 ≤ S2 ∧ S2 ≤ W.heap.size
 g2l : g2 < S1
 box : W.heap[g2]? = some (.cells (vals .i16 L) 26 (0, 0))
 is_ : IsRow ps ∧ IsRow pm
 spec : ps W w.heap.size (fun k => k < S1)
 mean : pm W w.heap.size (fun k => S1 ≤ k ∧ k < S2)
structure T3 (w : World) (S1 S2 g2 : Nat) (L : List Int) (ps pm pi : RowP) (W : World) : Prop where
 bel : Below w.heap.size w W
 n : w.heap.size ≤ S1 ∧ S1 ≤ S2 ∧ S2 ≤ W.heap.size
 g2l : g2 < S1
 box : W.heap[g2]? = some (.cells (vals .i16 L) 26 (0, 0))
 is_ : IsRow ps ∧ IsRow pm ∧ IsRow pi
 spec : ps W w.heap.size (fun k => k < S1)
 mean : pm W w.heap.size (fun k => S1 ≤ k ∧ k < S2)
 impl : pi W w.heap.size (fun k => S2 ≤ k)
structure T1 (w : World) (S1 S2 g2 : Nat) (L : List Int) (ps pi : RowP) (W : World) : Prop where
 bel : Below w.heap.size w W
 n : w.heap.size ≤ S1 ∧ S1 ≤ S2 ∧ S2 ≤ W.heap.size
 g2l : g2 < S1
 box : W.heap[g2]? = some (.cells (vals .i16 L) 26 (0, 0))
 is_ : IsRow ps ∧ IsRow pi
 spec : ps W w.heap.size (fun k => k < S1)
 impl : pi W w.heap.size (fun k => S2 ≤ k)
section
variable {w w4 w5 W W1 : World} {S1 S2 g2 : Nat} {L : List Int} {ps pm pi : RowP}
theorem T2.mk_ (hs : IsRow ps) (hm : IsRow pm) (hb : Below w.heap.size w w4) (hg : w4.heap[g2]? = some (.cells (vals .i16 L) 26 (0, 0))) (ho : ps w4 w.heap.size (fun _ => True)) (hx : pm w5 w4.heap.size (fun _ => True)) (h : Below w4.heap.size w4 w5) : T2 w w4.heap.size w5.heap.size g2 L ps pm w5 :=
 ⟨below_then hb h, ⟨hb.size, h.size, Nat.le_refl _⟩, lt_of_some hg, (h.block _ (lt_of_some hg)).trans hg, ⟨hs, hm⟩, hs.below (hs.mono (hs.bound ho) (fun k hk => hk.2.2)) h, hm.lower (hm.mono (hm.bound hx) (fun k hk => ⟨hk.2.1, hk.2.2⟩)) hb.size⟩
theorem T2.below (h : T2 w S1 S2 g2 L ps pm W) (hb : Below W.heap.size W W1) : T2 w S1 S2 g2 L ps pm W1 :=
 ⟨below_then h.bel hb, ⟨h.n.1, h.n.2.1, Nat.le_trans h.n.2.2 hb.size⟩, h.g2l, (hb.block _ (lt_of_some h.box)).trans h.box, h.is_, h.is_.1.below h.spec hb, h.is_.2.below h.mean hb⟩
theorem T2.impl (h : T2 w S1 S2 g2 L ps pm W) (pi : RowP) (hi : IsRow pi) (ho : pi W1 W.heap.size (fun _ => True)) (hb : Below W.heap.size W W1) : T3 w S1 S2 g2 L ps pm pi W1 :=
 ⟨below_then h.bel hb, ⟨h.n.1, h.n.2.1, Nat.le_trans h.n.2.2 hb.size⟩, h.g2l, (hb.block _ (lt_of_some h.box)).trans h.box, ⟨h.is_.1, h.is_.2, hi⟩, h.is_.1.below h.spec hb, h.is_.2.below h.mean hb, hi.lower (hi.mono (hi.bound ho) (fun k hk => Nat.le_trans h.n.2.2 hk.2.1)) h.bel.size⟩
theorem T3.below (h : T3 w S1 S2 g2 L ps pm pi W) (hb : Below W.heap.size W W1) : T3 w S1 S2 g2 L ps pm pi W1 :=
 ⟨below_then h.bel hb, ⟨h.n.1, h.n.2.1, Nat.le_trans h.n.2.2 hb.size⟩, h.g2l, (hb.block _ (lt_of_some h.box)).trans h.box, h.is_, h.is_.1.below h.spec hb, h.is_.2.1.below h.mean hb, h.is_.2.2.below h.impl hb⟩
theorem T3.mark (h : T3 w S1 S2 g2 L ps pm pi W) (hb : Below w.heap.size w W1) (hk : Kept W W1 (fun k => S1 ≤ k ∧ k < S2)) : T1 w S1 S2 g2 L ps pi W1 :=
 ⟨hb, ⟨h.n.1, h.n.2.1, Nat.le_trans h.n.2.2 hk.1⟩, h.g2l, (hk.2 _ (lt_of_some h.box) (fun e => by have := h.g2l; omega)).trans h.box, ⟨h.is_.1, h.is_.2.2⟩, h.is_.1.step h.spec (fun k ho hlt => hk.2 k hlt (by omega)), h.is_.2.2.step h.impl (fun k ho hlt => hk.2 k hlt (by omega))⟩
theorem T1.below (h : T1 w S1 S2 g2 L ps pi W) (hb : Below W.heap.size W W1) : T1 w S1 S2 g2 L ps pi W1 :=
 ⟨below_then h.bel hb, ⟨h.n.1, h.n.2.1, Nat.le_trans h.n.2.2 hb.size⟩, h.g2l, (hb.block _ (lt_of_some h.box)).trans h.box, h.is_, h.is_.1.below h.spec hb, h.is_.2.below h.impl hb⟩
theorem T1.mark (h : T1 w S1 S2 g2 L ps pi W) (pj : RowP) (hj : IsRow pj) (hr : pj W1 w.heap.size (fun k => S2 ≤ k ∨ W.heap.size ≤ k)) (hb : Below w.heap.size w W1) (hk : Kept W W1 (fun k => S2 ≤ k)) : T1 w S1 S2 g2 L ps pj W1 :=
 ⟨hb, ⟨h.n.1, h.n.2.1, Nat.le_trans h.n.2.2 hk.1⟩, h.g2l, (hk.2 _ (lt_of_some h.box) (by have := h.g2l; have := h.n.2.1; omega)).trans h.box, ⟨h.is_.1, hj⟩, h.is_.1.step h.spec (fun k ho hlt => hk.2 k hlt (by have := h.n.2.1; omega)), hj.mono hr (fun k ho => by have := h.n.2.2; omega)⟩
end
theorem aggL3 : AggTy Try.prog 26 44 := ⟨by kernel_rfl, by kernel_rfl⟩
end Go.Proofs.Ytfgogdhhihbcjaa.Arr
namespace Go.Proofs.Ytfgogdhhihbcjaa.H
open Go.RowKit Go.Proofs.YtfgogdhhihbcjaaW.PrintWords Go.Proofs.YtfgogdhhihbcjaaW.PrintLast Go.Proofs.Ytfgogdhhihbcjaa.U
set_option linter.unusedVariables false
set_option linter.unusedSimpArgs false
theorem eqHoist_l0 (l : List Int) (hn : l.length ≤ 9223372036854775806) : ∀ (d i : Nat), i + d = l.length → Ev (fun k => laws_eqHoist.l0 k l l (i : Int)) true := by
 intro d
 induction d with
 | zero =>
  intro i hi
  refine Ev.step (f := fun _ => some true) (fun k => ?_) (cons rfl)
  simp only [laws_eqHoist.l0]; rw [if_neg (by omega)]
 | succ d ih =>
  intro i hi
  refine Ev.step (f := fun k => laws_eqHoist.l0 k l l ((i + 1 : Nat) : Int)) (fun k => ?_) (ih (i + 1) (by omega))
  simp only [laws_eqHoist.l0]; rw [if_pos (by omega), if_pos (by omega), if_pos (by omega), if_pos trivial, w64 (by omega) (by omega)]; rfl
theorem eqHoist_refl (l : List Int) (hn : l.length ≤ 9223372036854775806) : Ev (fun k => laws_eqHoist.f k l l) true := by
 unfold laws_eqHoist.f
 exact pos rfl (eqHoist_l0 l hn l.length 0 (by omega))
end Go.Proofs.Ytfgogdhhihbcjaa.H
namespace Go.Proofs.Ytfgogdhhihbcjaa.H
open Go.RowKit Go.Proofs.YtfgogdhhihbcjaaW.PrintWords Go.Proofs.YtfgogdhhihbcjaaW.PrintLast Go.Proofs.Ytfgogdhhihbcjaa.U
set_option linter.unusedVariables false
set_option linter.unusedSimpArgs false
def marksHoist (n : Nat) (a : Int) : List Int := (List.range n).map fun (j : Nat) => IntKind.i8.wrap (a + (j : Int))
theorem marksHoist_length (n : Nat) (a : Int) : (marksHoist n a).length = n := by simp [marksHoist]
theorem markHoist_l0 (n : Nat) (a : Int) (ha : 0 ≤ a) (hb : a + n ≤ 9223372036854775806) : ∀ (d i : Nat) (x0 : List Int), i + d = n → x0.length = n → (∀ j, j < i → x0[j]? = (marksHoist n a)[j]?) →
  Ev (fun k => laws_markHoist.l0 k x0 (a + i) (i : Int)) (a + n, marksHoist n a) := by
 intro d
 induction d with
 | zero =>
  intro i x0 hi hl hp
  obtain rfl : i = n := by omega
  refine Ev.step (f := fun _ => some (a + i, x0)) (fun k => by simp only [laws_markHoist.l0]; rw [if_neg (by omega)]) (cons ?_)
  rw [show x0 = marksHoist i a from List.ext_getElem? fun j => by
   rcases Nat.lt_or_ge j i with h | h
   ·exact hp j h
   ·rw [List.getElem?_eq_none (by omega), List.getElem?_eq_none (by rw [marksHoist_length]; omega)]]
 | succ d ih =>
  intro i x0 hi hl hp
  refine Ev.step (f := fun k => laws_markHoist.l0 k (x0.set i (IntKind.i8.wrap (a + (i : Int)))) (a + ((i + 1 : Nat) : Int)) ((i + 1 : Nat) : Int)) (fun k => ?_) (ih (i + 1) _ (by omega) (by simpa using hl) ?_)
  ·simp only [laws_markHoist.l0]; rw [if_pos (by omega), if_pos (by omega), w64 (by omega) (by omega), w64 (by omega) (by omega), show a + (i : Int) + 1 = a + ((i + 1 : Nat) : Int) by omega, show (i : Int) + 1 = ((i + 1 : Nat) : Int) by omega, Int.toNat_natCast]
  ·intro j hj
   by_cases e : j = i
   ·subst e
    rw [List.getElem?_set_self (by omega)]
    simp [marksHoist, List.getElem?_map, List.getElem?_range (show j < n by omega)]
   ·rw [List.getElem?_set_ne (by omega)]; exact hp j (by omega)
theorem markHoist_ev (l : List Int) (a : Int) (ha : 0 ≤ a) (hb : a + l.length ≤ 9223372036854775806) : Ev (fun k => laws_markHoist.f k l a) (a + l.length, marksHoist l.length a) := by
 have := markHoist_l0 l.length a ha hb l.length 0 l (by omega) rfl (fun j hj => by omega)
 simpa [laws_markHoist.f] using this
end Go.Proofs.Ytfgogdhhihbcjaa.H
namespace Go.Proofs.Ytfgogdhhihbcjaa.H
open Go.RowKit Go.Proofs.YtfgogdhhihbcjaaW.PrintWords Go.Proofs.YtfgogdhhihbcjaaW.PrintLast Go.Proofs.Ytfgogdhhihbcjaa.U
set_option linter.unusedVariables false
set_option linter.unusedSimpArgs false
theorem heldHoist_l0 (n : Nat) (a : Int) (ha : 0 ≤ a) (hb : a + n ≤ 9223372036854775806) : ∀ (d i : Nat), i + d = n →
  Ev (fun k => laws_heldHoist.l0 k (marksHoist n a) (a + i) (i : Int)) (a + n) := by
 intro d
 induction d with
 | zero =>
  intro i hi
  obtain rfl : i = n := by omega
  exact Ev.step (f := fun _ => some (a + i)) (fun k => by simp only [laws_heldHoist.l0]; rw [marksHoist_length, if_neg (by omega)]) (cons rfl)
 | succ d ih =>
  intro i hi
  refine Ev.step (f := fun k => laws_heldHoist.l0 k (marksHoist n a) (a + ((i + 1 : Nat) : Int)) ((i + 1 : Nat) : Int)) (fun k => ?_) (ih (i + 1) (by omega))
  have hr : rd (marksHoist n a) i = IntKind.i8.wrap (a + (i : Int)) := by
   rw [rd_get _ i (by rw [marksHoist_length]; omega)]
   simp [marksHoist]
  simp only [laws_heldHoist.l0]; rw [marksHoist_length, if_pos (by omega), if_pos (by omega), if_pos hr, w64 (by omega) (by omega), w64 (by omega) (by omega), show a + (i : Int) + 1 = a + ((i + 1 : Nat) : Int) by omega]; rfl
theorem heldHoist_ev (n : Nat) (a : Int) (ha : 0 ≤ a) (hb : a + n ≤ 9223372036854775806) : Ev (fun k => laws_heldHoist.f k (marksHoist n a) a) (a + n) := by
 have := heldHoist_l0 n a ha hb n 0 (by omega)
 simpa [laws_heldHoist.f] using this
end Go.Proofs.Ytfgogdhhihbcjaa.H
namespace Go.Proofs.Ytfgogdhhihbcjaa.Arr
open Go.RowKit Go.Proofs.YtfgogdhhihbcjaaW.PrintWords Go.Proofs.YtfgogdhhihbcjaaW.PrintLast Go.Proofs.YtfgogdhhihbcjaaW.PrintMore Go.Proofs.Ytfgogdhhihbcjaa.U Go.Proofs.Ytfgogdhhihbcjaa.H
set_option linter.unusedVariables false
set_option linter.unusedSimpArgs false
theorem eqHoistS_refl (l : List (List Int)) (hn : l.length ≤ 1048576) (hls : ∀ x ∈ l, x.length ≤ 1048576) : Ev (fun k => laws_eqHoistS.f k l l) true := by
 unfold laws_eqHoistS.f
 refine pos rfl ?_
 refine iter (F := fun k (s : Int) => laws_eqHoistS.l0 k l l s) (fun i s => s = (i : Int)) _ l.length ?_ ?_ 0 0 (by omega) rfl
 ·rintro i s hi rfl
  have hm : (rd_L1 l (i : Int)).length ≤ 1048576 := by rw [rdM_get l i hi]; exact hls _ (List.getElem_mem _)
  refine .inl ⟨((i + 1 : Nat) : Int), rfl, fun hk => ?_⟩
  refine Ev.step (fun k => by rw [laws_eqHoistS.l0]) ?_
  refine pos (by omega) (pos (by omega) (pos (by omega) (Ev.bind (eqHoist_refl (rd_L1 l (i : Int)) (by omega)) (pos rfl ?_))))
  rw [w64 (by omega) (by omega)]; exact hk
 ·rintro s rfl
  refine Ev.step (fun k => by rw [laws_eqHoistS.l0]) ?_
  exact neg (by omega) (cons rfl)
theorem eqHoistS_calls (A : Option Addr) (c : Nat) (A2 : Option Addr) (c2 : Nat) (xs : List (List Int)) (b1 b2 : Nat) (ok1 ok2 : Nat → Prop) (w : World) (h1 : Kd.S kH 28 w b1 ok1 (.slice A xs.length c) xs) (h2 : Kd.S kH 28 w b2 ok2 (.slice A2 xs.length c2) xs) (hn : xs.length ≤ 1048576) (h8 : ∀ x ∈ xs, x.length ≤ 1048576) :
  Calls Try.prog 26 #[.slice A xs.length c, .slice A2 xs.length c2] w fun e w' => e = .returned (.bool true) ∧ Below w.heap.size w w' := by
 obtain ⟨k, hk⟩ := (eqHoistS_refl xs hn h8).rounds
 refine (laws_eqHoistS.calls k A c xs A2 c2 xs true w (Kd.S_reads' h1).2.2 (Kd.S_reads' h1).2.1 (Kd.S_reads' h2).2.2 (Kd.S_reads' h2).2.1 hk).mono ?_
 rintro e w' ⟨rfl, h⟩
 exact ⟨rfl, h.below⟩
def markedHoist (xs : List (List Int)) (i : Nat) : List (List Int) := xs.mapIdx fun j x => if j < i then marksHoist x.length (1 + (offs xs j : Int)) else x
theorem markedHoist_len (xs : List (List Int)) (i : Nat) : (markedHoist xs i).length = xs.length := by simp [markedHoist]
theorem markedHoist_zero (xs : List (List Int)) : markedHoist xs 0 = xs := by
 apply List.ext_getElem?
 intro j
 simp [markedHoist, List.getElem?_mapIdx]
theorem markedHoist_at (xs : List (List Int)) (i j : Nat) (hj : j < xs.length) : (markedHoist xs i)[j]? = some (if j < i then marksHoist xs[j].length (1 + (offs xs j : Int)) else xs[j]) := by
 simp [markedHoist, List.getElem?_mapIdx, List.getElem?_eq_getElem hj]
theorem markedHoist_set (xs : List (List Int)) (i : Nat) (h : i < xs.length) : (markedHoist xs i).set i (marksHoist xs[i].length (1 + (offs xs i : Int))) = markedHoist xs (i + 1) := by
 refine toListL (n := xs.length) (by rw [List.length_set, markedHoist_len]) (markedHoist_len _ _) fun j hj => ?_
 rw [markedHoist_at xs (i + 1) j hj]
 by_cases e : i = j
 ·subst e
  rw [List.getElem?_set_self (by rw [markedHoist_len]; exact h), if_pos (by omega)]
 ·rw [List.getElem?_set_ne e, markedHoist_at xs i j hj]
  by_cases hji : j < i
  ·rw [if_pos hji, if_pos (by omega)]
  ·rw [if_neg hji, if_neg (by omega)]
theorem oneLHoist : OneTy Try.prog 28 := ⟨by kernel_rfl, by kernel_rfl⟩
set_option maxHeartbeats 4000000 in
set_option maxRecDepth 100000 in
theorem markHoistS_calls (A : Option Addr) (c : Nat) (xs : List (List Int)) (ok : Nat → Prop) (w0 w : World) (hB : Below w0.heap.size w0 w) (hS : Kd.S kH 28 w w0.heap.size ok (.slice A xs.length c) xs) (hn : xs.length ≤ 1048576) (h8 : ∀ x ∈ xs, x.length ≤ 1048576) :
  Calls Try.prog 27 #[.slice A xs.length c, .int .i64 1] w fun e w' => e = .returned (.int .i64 (1 + (offs xs xs.length : Int))) ∧ Kd.S kH 28 w' w0.heap.size (fun k => ok k ∨ w.heap.size ≤ k) (.slice A xs.length c) (markedHoist xs xs.length) ∧ Below w0.heap.size w0 w' ∧ Kept w w' ok := by
 have HC := Aside0.mk (show Kd.S kH 28 w w0.heap.size (fun k => ok k ∨ w.heap.size ≤ k) (.slice A xs.length c) (markedHoist xs 0) ∧ Below w0.heap.size w0 w ∧ Kept w w ok from ⟨by rw [markedHoist_zero]; exact Kd.S_mono hS (fun k hk => .inl hk), hB, Kept.refl _ _⟩)
 have HO8 := Aside0.mk (offs_le xs h8)
 have H8 := Aside0.mk h8
 clear hB hS h8
 go_enter Try.func27, Try.ntmps27
 go_wp2_with fail
 go_loopw [5, 1] (fun v5 v1 wr => ∃ i : Nat, i ≤ xs.length ∧ v5 = .int .i64 i ∧ v1 = .int .i64 (1 + (offs xs i : Int)) ∧ Aside0 (Kd.S kH 28 wr w0.heap.size (fun k => ok k ∨ w.heap.size ≤ k) (.slice A xs.length c) (markedHoist xs i) ∧ Below w0.heap.size w0 wr ∧ Kept w wr ok)) (fun v5 _ _ => xs.length - (intOf v5).toNat)
 case atStart => exact ⟨0, by omega, rfl, by simp [offs], HC⟩
 case round =>
  clear HC
  obtain ⟨i, hi, rfl, rfl, HU⟩ := hrel
  by_cases hlt : i < xs.length
  ·have hltI : (i : Int) < (xs.length : Int) := by omega
   obtain ⟨hS, hB, hK⟩ := HU.out
   obtain ⟨g, hA⟩ : ∃ g, A = some ⟨g, 0, none⟩ := by
    obtain ⟨g, cap, hv, _⟩ := Kd.S_form hS (by rw [markedHoist_len]; omega)
    injection hv with hA _ _
    exact ⟨g, hA⟩
   subst hA
   obtain ⟨oki, cl, hcl, hM, hcc, hoki, hH⟩ := Kd.S_lend hS ([] : List Int) (i : Int) (by omega) (by omega)
   have hxi : (markedHoist xs i).getD (i : Int).toNat [] = xs[i] := by
    rw [Int.toNat_natCast, List.getD_eq_getElem?_getD, markedHoist_at xs i i hlt, if_neg (by omega)]
    rfl
   rw [hxi] at hM
   obtain ⟨v, hcl2, hR⟩ := hM
   subst hcl2
   have HCELL := Aside0.mk (show wr.cell? ⟨g, i, none⟩ = some v by
    have := hcc 0 v rfl
    rw [Int.toNat_natCast] at this
    simpa [kH, Kd.slice] using this)
   have hx8 := H8.out _ (List.getElem_mem hlt)
   have hoi := HO8.out i
   have HOS := Aside0.mk (offs_succ xs i hlt)
   obtain ⟨k, hk⟩ := (markHoist_ev xs[i] (1 + (offs xs i : Int)) (by omega) (by omega)).rounds
   have HMW := Aside0.mk (laws_markHoist.calls k oki v xs[i] (1 + (offs xs i : Int)) _ _ w0 wr hB hR hk)
   have HN := Aside0.mk (fun w2 (h1 : Kd.R (Kd.int .i8) 64 w2 w0.heap.size (fun k_ => (oki k_ ∨ wr.heap.size ≤ k_)) v (marksHoist xs[i].length (1 + (offs xs i : Int)))) (h2 : Below w0.heap.size w0 w2) (h3 : Kept wr w2 oki) =>
    show Kd.S kH 28 w2 w0.heap.size (fun k => ok k ∨ w.heap.size ≤ k) (.slice (some ⟨g, 0, none⟩) xs.length c) (markedHoist xs (i + 1)) ∧ Below w0.heap.size w0 w2 ∧ Kept w w2 ok by
     refine ⟨?_, h2, Kept.then_ hK h3 (fun k hk => (hoki k hk).1)⟩
     have hH2 := Kd.H_step (Kd.H_widen hH) (w1 := w2) (fun k _ hn hlt => h3.2 k hlt (fun ho => hn (.inl ho)))
     have hS2 := Kd.H_back hH2 (x' := marksHoist xs[i].length (1 + (offs xs i : Int))) ⟨v, rfl, h1⟩ (fun k hk => by
      rcases hk with hk | hk
      ·exact .inl hk
      ·exact .inr ⟨.inr (by have := hK.1; omega), hk⟩)
     rw [Int.toNat_natCast, markedHoist_set xs i hlt] at hS2
     exact hS2)
   generalize hmk : marksHoist xs[i].length (1 + (offs xs i : Int)) = mk at *
   have hvs := Kd.R_slice hR
   have hw1 : wrap64 ((i : Int) + 1) = ((i + 1 : Nat) : Int) := by rw [w64 (by omega) (by omega)]; omega
   clear hS hB hK hcc hoki hH hR hxi hk hmk HU hx8 hoi
   obtain ⟨Ai, ci, rfl⟩ := hvs
   generalize hq : offs xs i = q at *
   go_wp2_with (first
    | ((with_reducible refine gt_load 28 ?_); refine Kd.event_run rfl (y_cell (by rfl) (by rfl) oneLHoist HCELL.out) ?_)
    | (go_at_call 13; refine HMW.out.mono ?_; rintro e w2 ⟨rfl, h1, h2, h3⟩; have HX := Aside0.mk (HN.out w2 h1 h2 h3); clear h1 h2 h3))
   go_roundw
   case rel => exact ⟨i + 1, by omega, by go_num, by rw [HOS.out]; congr 1; omega, HX⟩
   case measure => simp [intOf]; omega
  ·obtain rfl : i = xs.length := by omega
   go_wp2_with fail
   go_ret
   exact ⟨rfl, HU.out.1, HU.out.2.1, HU.out.2.2⟩
theorem heldHoistS_ev (xs : List (List Int)) (hn : xs.length ≤ 1048576) (h8 : ∀ x ∈ xs, x.length ≤ 1048576) : Ev (fun k => laws_heldHoistS.f k (markedHoist xs xs.length) 1) (1 + (offs xs xs.length : Int)) := by
 unfold laws_heldHoistS.f
 refine iter (F := fun k (s : Int × Int) => laws_heldHoistS.l0 k (markedHoist xs xs.length) s.1 s.2) (fun i s => s = (1 + (offs xs i : Int), (i : Int))) _ xs.length ?_ ?_ 0 (1, 0) (by omega) (by simp [offs])
 ·rintro i s hi rfl
  refine .inl ⟨(1 + (offs xs (i + 1) : Int), ((i + 1 : Nat) : Int)), rfl, fun hk => ?_⟩
  have ho := offs_le xs h8 i
  have hx8 := h8 _ (List.getElem_mem hi)
  have hrd : rd_L1 (markedHoist xs xs.length) (i : Int) = marksHoist xs[i].length (1 + (offs xs i : Int)) := by
   rw [rdM_get _ i (by rw [markedHoist_len]; exact hi)]
   have h := markedHoist_at xs xs.length i hi
   rw [List.getElem?_eq_getElem (by rw [markedHoist_len]; exact hi), if_pos hi] at h
   exact Option.some.inj h
  refine Ev.step (fun k => by rw [laws_heldHoistS.l0]) ?_
  refine pos (by rw [markedHoist_len]; omega) (pos (by omega) (Ev.bind (a := 1 + (offs xs i : Int) + xs[i].length) (g := fun k => laws_heldHoist.f k (rd_L1 (markedHoist xs xs.length) (i : Int)) (1 + (offs xs i : Int))) (by rw [hrd]; exact heldHoist_ev _ _ (by omega) (by omega)) ?_))
  refine neg (by omega) ?_
  rw [w64 (by omega) (by omega)]
  dsimp only at hk
  rw [offs_succ xs i hi] at hk
  rw [show 1 + (offs xs i : Int) + (xs[i].length : Int) = 1 + ((offs xs i + xs[i].length : Nat) : Int) by omega]
  exact hk
 ·rintro s rfl
  refine Ev.step (fun k => by rw [laws_heldHoistS.l0]) ?_
  exact neg (by rw [markedHoist_len]; omega) (cons rfl)
theorem heldHoistS_calls (A : Option Addr) (c : Nat) (xs : List (List Int)) (b : Nat) (ok : Nat → Prop) (w : World) (h : Kd.S kH 28 w b ok (.slice A xs.length c) (markedHoist xs xs.length)) (hn : xs.length ≤ 1048576) (h8 : ∀ x ∈ xs, x.length ≤ 1048576) :
  Calls Try.prog 28 #[.slice A xs.length c, .int .i64 1] w fun e w' => e = .returned (.int .i64 (1 + (offs xs xs.length : Int))) ∧ Below w.heap.size w w' := by
 obtain ⟨k, hk⟩ := (heldHoistS_ev xs hn h8).rounds
 have := laws_heldHoistS.calls k A c (markedHoist xs xs.length) 1 _ w (Kd.S_reads' h).2.2 (by rw [markedHoist_len]; exact (Kd.S_reads' h).2.1) hk
 rw [markedHoist_len] at this
 refine this.mono ?_
 rintro e w' ⟨rfl, h⟩
 exact ⟨rfl, h.below⟩
end Go.Proofs.Ytfgogdhhihbcjaa.Arr
namespace Go.Proofs.Ytfgogdhhihbcjaa.Arr
open Go.RowKit Go.Proofs.YtfgogdhhihbcjaaW.PrintWords Go.Proofs.YtfgogdhhihbcjaaW.PrintLast Go.Proofs.YtfgogdhhihbcjaaW.PrintMore Go.Proofs.Ytfgogdhhihbcjaa.U Go.Proofs.Ytfgogdhhihbcjaa.H
set_option linter.unusedVariables false
set_option linter.unusedSimpArgs false
theorem hsW_len (L : List Int) (ms : List (List Int)) (budget : Int) (hl : L.length = 44) : (hsW L ms budget).1.length ≤ 1048576 ∧ ∀ x ∈ (hsW L ms budget).1, x.length ≤ 1048576 := by
 unfold hsW
 by_cases h : hsCode L ms budget = 0
 ·rw [if_pos h]
  unfold hsCode at h
  have h0 : codeMs L ms = 0 := by
   by_cases h0 : codeMs L ms = 0
   ·exact h0
   ·rw [if_neg h0] at h
    exact h
  rw [if_pos h0] at h
  have hb : 0 ≤ budget ∧ budget ≤ 20000 := by
   by_cases hb : 0 ≤ budget ∧ budget ≤ 20000
   ·exact hb
   ·rw [if_neg hb] at h
    cases h
  obtain ⟨hok, hpl, h6⟩ := codeMs_ok h0
  have hgo := goW_ok (ms := ms) (budget := budget) hpl ms.length L [] 0 (by simp) hl (fun j hj => (okL_bd hok hl j hj).1) (by simp) hb.1
  by_cases hc : (goW ms budget ms.length L [] 0).1.2 = 0
  ·rw [if_pos hc]
   obtain ⟨h1, h2⟩ := hgo.some hc
   dsimp only
   exact ⟨by omega, fun x hx => by have := h2 x hx; omega⟩
  ·rw [if_neg hc]
   simp
 ·rw [if_neg h]
  simp
set_option maxHeartbeats 8000000 in
set_option maxRecDepth 100000 in
theorem law_FnExactHoistsFrom (w : World) (L : List Int) (hl : L.length = 44) (hw : ∀ z ∈ L, (Lit.int .i16 z).wf = true) (A : Option Addr) (c : Nat) (ms : List (List Int)) (hr : Kd.C kH w A ms.length ms) (hc : ms.length ≤ c) (wf : WfL (WfL (WfI .i8)) ms) (budget : Int) (_ : (Lit.int .i64 budget).wf = true) :
  Calls Try.prog 5 #[.agg (vals .i16 L), .slice A ms.length c, .int .i64 budget] w fun e w' => e = .returned (.bool true) ∧ Below w.heap.size w w' := by
 have hm := Mem.start w
 obtain ⟨r, hG, h0⟩ := guardMeaningS ms wf
 have HR := Aside0.mk hr
 have HGU := Aside0.mk (fun W (hW : Below w.heap.size w W) => hG A c W (Kd.C_below hr hW) hc)
 clear hG
 by_cases hneg : r < 0
 ·clear hr wf hw
  go_enter Try.func5, Try.ntmps5
  go_wp2_with (first
   | (go_at_call 15; refine (HGU.out _ HB1.out).mono ?_; rintro e w2 ⟨rfl, h⟩; have HB2 := Aside0.mk (below_then HB1.out h); clear h)
   | ((with_reducible refine gt_box 3 26 ?_); refine st_box rfl 3 rfl 26 _ rfl hm (v := .agg (vals _ _)) rfl (cs := vals _ _) rfl ?_; clear hm; intro g2 w1 hm; have HB1 := Aside0.mk (hm.done rfl); clear hm))
  go_ret
  exact ⟨rfl, HB2.out⟩
 ·obtain ⟨hn, hls, hs⟩ := h0 (by omega)
  have HTM := Aside0.mk (fun W (hW : Below w.heap.size w W) => toMeaningS_calls A c ms W (Kd.C_below hr hW) hc hn hls)
  have HTL := Aside0.mk (fun W => toLocker_calls L W hl)
  have HSP := Aside0.mk (fun W A1 c1 b ok (h : PS 33 (.slice A1 ms.length c1) ms W b ok) => specHoists_calls L A1 c1 ms budget W hl hw (Kd.S_reads' h).2.2 (Kd.S_reads' h).2.1 hs hn)
  have HIM := Aside0.mk (fun W A1 c1 b ok (h : PS 33 (.slice A1 ms.length c1) ms W b ok) => implHoists_calls L A1 c1 ms budget W hl hw (Kd.S_reads' h).2.2 (Kd.S_reads' h).2.1 hs hn)
  have HMM := Aside0.mk (fun A1 c1 (P : Nat → Prop) W (hB : Below w.heap.size w W) (h : PS 33 (.slice A1 ms.length c1) ms W w.heap.size P) => markMeaningS_calls A1 c1 ms P w W hB h hn hls)
  have HEM := Aside0.mk (fun A1 c1 A2 c2 b1 b2 ok1 ok2 W (h1 : PS 33 (.slice A1 ms.length c1) ms W b1 ok1) (h2 : PS 33 (.slice A2 ms.length c2) ms W b2 ok2) => eqMeaningS_calls A1 c1 A2 c2 ms b1 b2 ok1 ok2 W h1 h2 hn hls)
  have hX6 := hsW_len L ms budget hl
  have hof := offs_le ms hls ms.length
  have hof2 := offs_le (hsW L ms budget).1 hX6.2 (hsW L ms budget).1.length
  have HX6 := Aside0.mk hX6
  generalize (hsW L ms budget).2.1 = q1 at *
  generalize (hsW L ms budget).2.2 = q2 at *
  generalize (hsW L ms budget).1 = xs at *
  have hmk : ¬ (1 + (offs ms ms.length : Int) < 0) := by omega
  have hmx : ¬ (1 + (offs xs xs.length : Int) < 0) := by omega
  generalize offs ms ms.length = om at *
  clear hr wf hs hw hls hof hof2 h0 hX6
  go_enter Try.func5, Try.ntmps5
  go_wp2_with (first
   | (go_at_call 28; refine (heldHoistS_calls Ag cg xs _ _ _ HL19.out.impl HX6.out.1 HX6.out.2).mono ?_; rintro e w20 ⟨rfl, h⟩; have HE := Aside0.mk (below_then HL19.out.bel h); clear h)
   | (go_at_call 26; refine (eqHoistS_calls Ah ch Aw cw xs _ _ _ _ _ HO18.out HL18.out.spec HX6.out.1 HX6.out.2).mono ?_; rintro e w19 ⟨rfl, h⟩; have HL19 := Aside0.mk (HL18.out.below h); clear h)
   | (go_at_call 25; refine (HIM.out _ A17 c17 _ _ HR17.out).mono ?_; rintro e w18 ⟨v18, rfl, ho, h⟩; obtain ⟨Ah, ch, rfl⟩ := Kd.S_slice ho; have HO18 := Aside0.mk ho; have HL18 := Aside0.mk (HL17.out.below h); clear h ho)
   | (go_at_call 17; refine (HTM.out _ HL16.out.bel).mono ?_; rintro e w17 ⟨v17, rfl, ho, h⟩; obtain ⟨A17, c17, rfl⟩ := Kd.S_slice ho; have HR17 := Aside0.mk ho; have HL17 := Aside0.mk (HL16.out.below h); clear h ho)
   | (go_at_call 7; refine (HTL.out w15).mono ?_; rintro e w16 ⟨rfl, h⟩; have HL16 := Aside0.mk (HL15.out.below h); clear h)
   | ((with_reducible refine gt_load 26 ?_); refine Kd.event_run rfl (y_rowA (by rfl) (by rfl) HL15.out.box aggL3 (by rw [vals_size]; exact hl)) ?_)
   | (go_at_call 28; refine (heldHoistS_calls Ag cg xs _ _ _ HL14.out.impl HX6.out.1 HX6.out.2).mono ?_; rintro e w15 ⟨rfl, h⟩; have HL15 := Aside0.mk (HL14.out.below h); clear h)
   | (go_at_call 27; refine (markHoistS_calls Ag cg xs _ w _ HL13.out.bel HL13.out.impl HX6.out.1 HX6.out.2).mono ?_; rintro e w14 ⟨rfl, hr, hb, hk⟩; have HL14 := Aside0.mk (HL13.out.mark (PS 28 _ _) (isPS _ _ _) hr hb hk); clear hr hb hk)
   | (go_at_call 26; refine (eqHoistS_calls Ag cg Aw cw xs _ _ _ _ _ HL12.out.impl HL12.out.spec HX6.out.1 HX6.out.2).mono ?_; rintro e w13 ⟨rfl, h⟩; have HL13 := Aside0.mk (HL12.out.below h); clear h)
   | (go_at_call 21; refine (HMM.out _ _ _ _ HL11.out.bel HL11.out.mean).mono ?_; rintro e w12 ⟨rfl, hr, hb, hk⟩; have HL12 := Aside0.mk (HL11.out.mark hb hk); clear hr hb hk)
   | (go_at_call 20; refine (HEM.out Am cm A10 c10 _ _ _ _ _ HL10.out.mean HR10.out).mono ?_; rintro e w11 ⟨rfl, h⟩; have HL11 := Aside0.mk (HL10.out.below h); clear h)
   | (go_at_call 17; refine (HTM.out _ HL9.out.bel).mono ?_; rintro e w10 ⟨v10, rfl, ho, h⟩; obtain ⟨A10, c10, rfl⟩ := Kd.S_slice ho; have HR10 := Aside0.mk ho; have HL10 := Aside0.mk (HL9.out.below h); clear h ho)
   | (go_at_call 26; refine (eqHoistS_calls Ag cg Aw cw xs _ _ _ _ _ HL8.out.impl HL8.out.spec HX6.out.1 HX6.out.2).mono ?_; rintro e w9 ⟨rfl, h⟩; have HL9 := Aside0.mk (HL8.out.below h); clear h)
   | (go_at_call 25; refine (HIM.out _ Am cm _ _ HG7.out.mean).mono ?_; rintro e w8 ⟨v8, rfl, ho, h⟩; obtain ⟨Ag, cg, rfl⟩ := Kd.S_slice ho; have HL8 := Aside0.mk (HG7.out.impl (PS 28 _ _) (isPS _ _ _) ho h); clear h ho)
   | (go_at_call 7; refine (HTL.out w6).mono ?_; rintro e w7 ⟨rfl, h⟩; have HG7 := Aside0.mk (HG6.out.below h); clear h)
   | ((with_reducible refine gt_load 26 ?_); refine Kd.event_run rfl (y_rowA (by rfl) (by rfl) HG6.out.box aggL3 (by rw [vals_size]; exact hl)) ?_)
   | (go_at_call 17; refine (HTM.out _ HB5.out).mono ?_; rintro e w6 ⟨v6, rfl, ho, h⟩; obtain ⟨Am, cm, rfl⟩ := Kd.S_slice ho; have HG6 := Aside0.mk (T2.mk_ (ps := PS 28 (.slice Aw xs.length cw) xs) (pm := PS 33 (.slice Am ms.length cm) ms) (isPS _ _ _) (isPS _ _ _) HB5.out HG5.out HO5.out ho h); clear h ho)
   | (go_at_call 24; refine (HSP.out _ A4 c4 _ _ HR4.out).mono ?_; rintro e w5 ⟨v5, rfl, ho, h⟩; obtain ⟨Aw, cw, rfl⟩ := Kd.S_slice ho; have HO5 := Aside0.mk (Kd.S_lower ho HB4.out.size); have HB5 := Aside0.mk (below_then HB4.out h); have HG5 := Aside0.mk ((h.block _ (lt_of_some HG4.out)).trans HG4.out); clear h ho)
   | (go_at_call 17; refine (HTM.out _ HB3.out).mono ?_; rintro e w4 ⟨v4, rfl, ho, h⟩; obtain ⟨A4, c4, rfl⟩ := Kd.S_slice ho; have HR4 := Aside0.mk ho; have HB4 := Aside0.mk (below_then HB3.out h); have HG4 := Aside0.mk ((h.block _ (lt_of_some HG3.out)).trans HG3.out); clear h ho)
   | (go_at_call 7; refine (HTL.out w2).mono ?_; rintro e w3 ⟨rfl, h⟩; have HB3 := Aside0.mk (below_then HB2.out h); have HG3 := Aside0.mk ((h.block _ (lt_of_some HG2.out)).trans HG2.out); clear h)
   | ((with_reducible refine gt_load 26 ?_); refine Kd.event_run rfl (y_rowA (by rfl) (by rfl) HG2.out aggL3 (by rw [vals_size]; exact hl)) ?_)
   | (go_at_call 15; refine (HGU.out _ HB1.out).mono ?_; rintro e w2 ⟨rfl, h⟩; have HB2 := Aside0.mk (below_then HB1.out h); have HG2 := Aside0.mk ((h.block _ (lt_of_some HG1.out)).trans HG1.out); clear h)
   | ((with_reducible refine gt_box 3 26 ?_); refine st_box rfl 3 rfl 26 _ rfl hm (v := .agg (vals _ _)) rfl (cs := vals _ _) rfl ?_; clear hm; intro g2 w1 hm; have HB1 := Aside0.mk (hm.done rfl); have HG1 := Aside0.mk (hm.mem (n := 0) rfl); clear hm))
  go_ret
  exact ⟨rfl, HE.out⟩
end Go.Proofs.Ytfgogdhhihbcjaa.Arr
namespace Go.Proofs.Ytfgogdhhihbcjaa.Open
open Go.RowKit Go.Proofs.YtfgogdhhihbcjaaW.PrintWords Go.Proofs.Ytfgogdhhihbcjaa.U Go.Deep
set_option linter.unusedVariables false
set_option linter.unusedSimpArgs false
def Opens {α : Type} (P : Program) (t : TypeId) (d : Kd α) (wf : α → Prop) : Prop :=
 ∀ {H : Type} (enc : TypeId × Value → H) (w : World) (held : Bool) (fuel : Nat) (cs : List Value) (x : DataW H × List MemPlace),
  DataW.trod enc P w 0 (fun _ => true) held fuel t cs = some x → ∃ a, d.K w a cs ∧ wf a
section
variable {P : Program} {t : TypeId}
theorem opens_int {k : IntKind} (ht : P.underlying t = some (.int k)) : Opens P t (Kd.int k) (WfI k) := by
 intro H enc w held fuel cs x h
 obtain ⟨n, rfl, _, hw⟩ := DataW.trod_int ht h
 exact ⟨n, rfl, hw⟩
theorem list_of {α : Type} (n : Nat) (p : Nat → α → Prop) (h : ∀ i, i < n → ∃ a, p i a) : ∃ l : List α, l.length = n ∧ ∀ (i : Nat) (a : α), l[i]? = some a → p i a := by
 induction n with
 | zero => exact ⟨[], rfl, fun i a hi => by simp at hi⟩
 | succ n ih =>
  obtain ⟨l, hl, hp⟩ := ih (fun i hi => h i (by omega))
  obtain ⟨a, ha⟩ := h n (by omega)
  refine ⟨l ++ [a], by simp [hl], fun i b hb => ?_⟩
  rcases Nat.lt_or_ge i l.length with hi | hi
  ·rw [List.getElem?_append_left hi] at hb; exact hp i b hb
  ·rw [List.getElem?_append_right hi] at hb
   have : i - l.length = 0 := by
    rcases Nat.eq_zero_or_pos (i - l.length) with h0 | h0
    ·exact h0
    ·rw [List.getElem?_eq_none (by simp; omega)] at hb; cases hb
   rw [this] at hb
   simp at hb
   subst hb
   obtain rfl : i = n := by omega
   exact ha
theorem add_mul (a : Addr) (i m j : Nat) : (a.add (i * m)).add j = a.add (i * m + j) := by
 unfold Addr.add
 by_cases h1 : i * m = 0 <;> by_cases h2 : j = 0 <;> simp [h1, h2] <;> omega
theorem opens_slice {α : Type} {e : TypeId} {d : Kd α} {wf : α → Prop} (ht : P.underlying t = some (.slice e)) (hc : P.cellsOf e = d.sz) (he : Opens P e d wf) : Opens P t (Kd.slice e d) (WfL wf) := by
 intro H enc w held fuel cs x h
 rcases open_slice ht h with ⟨rfl, _⟩ | ⟨a, len, cap, m, n, D, Pl, rfl, hb, hl, hm, hmm, rfl, hx⟩
 ·exact ⟨[], ⟨none, 0, rfl, Nat.le_refl _, Kd.C_nil d w⟩, by simp [WfL, maxLen]⟩
 ·simp only [if_true] at hmm
  subst hmm
  have each : ∀ i, i < len → ∃ y : α, (∃ cs', w.cells? 0 (a.add (i * P.cellsOf e)) (P.cellsOf e) = some cs' ∧ d.K w y cs') ∧ wf y := by
   intro i hi
   obtain ⟨cs', h1, h2⟩ := hx i (by omega)
   obtain ⟨y, hy, hwf⟩ := he enc w held n cs' _ h2
   exact ⟨y, ⟨cs', h1, hy⟩, hwf⟩
  obtain ⟨l, hll, hp⟩ := list_of len _ each
  refine ⟨l, ⟨some a, m, by rw [hll], by omega, ⟨rfl, by rw [hll]; unfold maxLen at hm; omega, fun _ => ⟨a, rfl, fun j y hj => ?_⟩⟩⟩, by rw [hll]; omega, fun y hy => ?_⟩
  ·obtain ⟨⟨cs', h1, h2⟩, _⟩ := hp j y hj
   refine ⟨cs', d.K_len h2, h2, fun i u hu => ?_⟩
   obtain ⟨_, hlen, hcell⟩ := World.cells?_some h1
   have hi : i < P.cellsOf e := by rw [← hlen]; exact (List.getElem?_eq_some_iff.1 hu).1
   have := hcell i hi
   rw [add_mul, hc, hu] at this
   exact this
  ·obtain ⟨j, hj, rfl⟩ := List.getElem_of_mem hy
   exact (hp j _ (List.getElem?_eq_getElem hj)).2
end
end Go.Proofs.Ytfgogdhhihbcjaa.Open
namespace Go.Proofs.Ytfgogdhhihbcjaa.Arr
open Go.RowKit Go.Proofs.YtfgogdhhihbcjaaW.PrintWords Go.Proofs.Ytfgogdhhihbcjaa.U
set_option linter.unusedVariables false
set_option linter.unusedSimpArgs false
theorem list_of' {α : Type} (n : Nat) (p : Nat → α → Prop) (h : ∀ i, i < n → ∃ a, p i a) : ∃ l : List α, l.length = n ∧ ∀ (i : Nat) (a : α), l[i]? = some a → p i a := by
 induction n with
 | zero => exact ⟨[], rfl, fun i a hi => by simp at hi⟩
 | succ n ih =>
  obtain ⟨l, hl, hp⟩ := ih (fun i hi => h i (by omega))
  obtain ⟨a, ha⟩ := h n (by omega)
  refine ⟨l ++ [a], by simp [hl], fun i b hb => ?_⟩
  rcases Nat.lt_or_ge i l.length with hi | hi
  ·rw [List.getElem?_append_left hi] at hb; exact hp i b hb
  ·rw [List.getElem?_append_right hi] at hb
   have : i - l.length = 0 := by
    rcases Nat.eq_zero_or_pos (i - l.length) with h0 | h0
    ·exact h0
    ·rw [List.getElem?_eq_none (by simp; omega)] at hb; cases hb
   rw [this] at hb
   simp at hb
   subst hb
   obtain rfl : i = n := by omega
   exact ha
section
variable {H : Type} {enc : TypeId × Value → H} {P : Program} {w : World} {base : Nat} {spare : Nat → Bool} {held : Bool} {fuel : Nat} {t : TypeId} {cs : List Value} {x : DataW H × List MemPlace}
theorem opens_arr {k : IntKind} {n : Nat} {e : TypeId} (ht : P.underlying t = some (.array n e)) (he : P.underlying e = some (.int k)) (hc : P.cellsOf e = 1) (hct : P.cellsOf t = n)
  (h : DataW.trod enc P w base spare held fuel t cs = some x) : ∃ L : List Int, L.length = n ∧ cs = L.map (Value.int k) ∧ ∀ z ∈ L, (Lit.int k z).wf = true := by
 obtain ⟨xs, m, rfl, rfl, hl, hlen, hx⟩ := DataW.trod_array ht h
 rw [hct] at hl
 have each : ∀ i, i < n → ∃ z : Int, cs[i]? = some (.int k z) ∧ (Lit.int k z).wf = true := by
  intro i hi
  have hxi := hx i hi
  rw [List.getElem?_eq_getElem (by omega), hc, Nat.mul_one] at hxi
  obtain ⟨z, hz, _, hw⟩ := DataW.trod_int he hxi
  refine ⟨z, ?_, hw⟩
  rw [List.drop_eq_getElem_cons (by omega), List.take_succ_cons] at hz
  injection hz with hz _
  rw [List.getElem?_eq_getElem (by omega), hz]
 obtain ⟨L, hL, hp⟩ := list_of' n _ each
 refine ⟨L, hL, ?_, fun z hz => ?_⟩
 ·apply List.ext_getElem?
  intro j
  rcases Nat.lt_or_ge j n with hj | hj
  ·rw [(hp j _ (List.getElem?_eq_getElem (by omega))).1]
   simp [List.getElem?_eq_getElem (show j < L.length by omega)]
  ·rw [List.getElem?_eq_none (by omega), List.getElem?_eq_none (by simp; omega)]
 ·obtain ⟨j, hj, rfl⟩ := List.getElem_of_mem hz
  exact (hp j _ (List.getElem?_eq_getElem hj)).2
theorem opens_two {k : IntKind} {n0 n1 : Nat} {e0 e1 : TypeId} {f0 f1 : Field} (ht : P.underlying t = some (.struct #[f0, f1])) (ht0 : P.underlying f0.type = some (.array n0 e0)) (ht1 : P.underlying f1.type = some (.array n1 e1))
  (he0 : P.underlying e0 = some (.int k)) (he1 : P.underlying e1 = some (.int k)) (hc0 : P.cellsOf e0 = 1) (hc1 : P.cellsOf e1 = 1) (hct0 : P.cellsOf f0.type = n0) (hct1 : P.cellsOf f1.type = n1) (hct : P.cellsOf t = n0 + n1)
  (ho0 : f0.offset = 0) (ho1 : f1.offset = n0)
  (h : DataW.trod enc P w base spare held fuel t cs = some x) : ∃ L : List Int, L.length = n0 + n1 ∧ cs = L.map (Value.int k) ∧ ∀ z ∈ L, (Lit.int k z).wf = true := by
 obtain ⟨y0, y1, m, rfl, hl, h0, h1⟩ := Go.ChangeShapes.trod_struct2 ht h
 obtain ⟨L0, hl0, hc0, hw0⟩ := opens_arr ht0 he0 hc0 hct0 h0
 obtain ⟨L1, hl1, hc1, hw1⟩ := opens_arr ht1 he1 hc1 hct1 h1
 rw [ho0, hct0, List.drop_zero] at hc0
 rw [ho1, hct1, List.take_of_length_le (by simp; omega)] at hc1
 refine ⟨L0 ++ L1, by simp; omega, ?_, fun z hz => ?_⟩
 ·rw [List.map_append, ← hc0, ← hc1, List.take_append_drop]
 ·rcases List.mem_append.1 hz with hz | hz
  ·exact hw0 z hz
  ·exact hw1 z hz
theorem agg_of {k : IntKind} {v : Value} {L : List Int} {m : Nat} (hm : L.length = m + 2) (h : v.cells.toList = L.map (Value.int k)) : v = .agg (vals k L) := by
 have hsz : v.cells.toList.length = m + 2 := by rw [h]; simpa using hm
 have : ∃ cs, v = .agg cs := by
  cases v <;> first | exact ⟨_, rfl⟩ | (simp [Value.cells] at hsz)
 obtain ⟨cs, rfl⟩ := this
 have h2 : cs.toList = L.map (Value.int k) := h
 unfold vals
 rw [← h2]
end
end Go.Proofs.Ytfgogdhhihbcjaa.Arr
