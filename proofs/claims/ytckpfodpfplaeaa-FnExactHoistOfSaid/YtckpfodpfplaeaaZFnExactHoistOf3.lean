/- The texts that the statement FnExactHoistOf needs, part 3: contracts of the program's functions and plain laws, without what it does not reach. No condition beyond what each theorem says. -/
import Derived.Below
import Derived.Deep.Draws
import Derived.Deep.AppendLies
import Derived.Maps.AppendAt
import Derived.OwnWalk
import Derived.Laws.BytesArg
import Derived.Laws.MakeOwn
import Derived.Laws.OwnMore
import Derived.Deep.OwnRows
import Derived.Tactics
import Derived.Lib.ConvBytes
import Derived.Laws.Slices
import Derived.WalkKit
import Derived.KernelRfl
import Derived.RowKit3
import Derived.Deep.LoopGhost
import Derived.Deep.QuietTactic
import Derived.BigQuiet
import Derived.WideLaws
import Derived.Deep.DeepCutAuto
import Derived.Deep.CutBlock
import Derived.Deep.RegionHeld3
import Derived.Laws.Rows
import Derived.Lib.AppendStr
import Derived.ArgAppend
import Derived.Laws.IdiomCopy
import Derived.RowKit
import Derived.Laws.Tables
import Derived.BigFrame
import Derived.Laws.CopyRow
import Derived.Laws.ResultCell
import Derived.OrdersHeld
import Derived.Laws.BitsLemmas
import Derived.Laws.StructEq
import Derived.Test.YtckpfodpfplaeaaProg
import Derived.WalkSpells
import Derived.StillTailTactics
import Derived.ProofKit
import Derived.OpenShut
import Derived.Deep.Slices
import Derived.Lib.SmallJoins
import Derived.Test.YtckpfodpfplaeaaRows
import Derived.ShutString
import Derived.ChangeOld
import Derived.SizedLaws
import Derived.Test.YtckpfodpfplaeaaZFnExactHoistOf2
namespace Go.Proofs.Ytckpfodpfplaeaa.Arr
open Go.RowKit Go.Proofs.YtckpfodpfplaeaaW.PrintWords Go.Proofs.YtckpfodpfplaeaaW.PrintLast Go.Proofs.YtckpfodpfplaeaaW.PrintMore Go.Proofs.Ytckpfodpfplaeaa.U Go.Proofs.Ytckpfodpfplaeaa.D
set_option linter.unusedVariables false
set_option linter.unusedSimpArgs false
def goodM (subs : Nat) (m : List Int) : Bool := !(findL m 1 subs).isEmpty
def kidsTo (m : List Int) (q : Nat) : List (List Int) := (List.range q).map fun (c : Nat) => m ++ [(c : Int)]
def lastL (K : Nat) : Nat → List (List Int)
 | 0 => [[]]
 | i + 1 => (lastL K i).flatMap fun m => kidsTo m K
def outL (K subs : Nat) : Nat → List (List Int)
 | 0 => []
 | i + 1 => outL K subs i ++ (lastL K (i + 1)).filter (goodM subs)
theorem kidsTo_succ (m : List Int) (q : Nat) : kidsTo m (q + 1) = kidsTo m q ++ [m ++ [(q : Int)]] := by
 unfold kidsTo; rw [List.range_succ, List.map_append]; rfl
theorem kidsTo_len (m : List Int) (q : Nat) : (kidsTo m q).length = q := by simp [kidsTo]
theorem flat_take_succ (ls : List (List Int)) (K p : Nat) (hp : p < ls.length) : (ls.take (p + 1)).flatMap (fun m => kidsTo m K) = (ls.take p).flatMap (fun m => kidsTo m K) ++ kidsTo ls[p] K := by
 rw [List.take_succ_eq_append_getElem hp, List.flatMap_append]; simp
theorem flat_len (K : Nat) : ∀ ls : List (List Int), (ls.flatMap fun m => kidsTo m K).length = ls.length * K
 | [] => by simp
 | m :: r => by rw [List.flatMap_cons, List.length_append, kidsTo_len, flat_len K r, List.length_cons, Nat.succ_mul, Nat.add_comm]
theorem lastL_mem (K : Nat) : ∀ (i : Nat) (x : List Int), x ∈ lastL K i → x.length = i ∧ ∀ y ∈ x, 0 ≤ y ∧ y < K
 | 0, x, h => by
  rw [lastL, List.mem_singleton] at h
  subst h
  exact ⟨rfl, fun y hy => by cases hy⟩
 | i + 1, x, h => by
  rw [lastL, List.mem_flatMap] at h
  obtain ⟨m, hm, hx⟩ := h
  unfold kidsTo at hx
  rw [List.mem_map] at hx
  obtain ⟨c, hc, rfl⟩ := hx
  rw [List.mem_range] at hc
  have ih := lastL_mem K i m hm
  refine ⟨by simp [ih.1], fun y hy => ?_⟩
  rcases List.mem_append.1 hy with hy | hy
  ·exact ih.2 y hy
  ·rw [List.mem_singleton] at hy; subst hy; omega
theorem lastL_len (K : Nat) : ∀ i, (lastL K i).length = K ^ i
 | 0 => rfl
 | i + 1 => by rw [lastL, flat_len, lastL_len K i, Nat.pow_succ]
theorem lastL_le (K : Nat) (hK : K ≤ 10) (i : Nat) (hi : i ≤ 3) : (lastL K i).length ≤ 1000 := by
 rw [lastL_len]
 exact Nat.le_trans (Nat.pow_le_pow_left hK i) (Nat.le_trans (Nat.pow_le_pow_right (by omega) hi) (by decide))
theorem lastL_le2 (K : Nat) (hK : K ≤ 10) (i : Nat) (hi : i ≤ 2) : (lastL K i).length ≤ 100 := by
 rw [lastL_len]
 exact Nat.le_trans (Nat.pow_le_pow_left hK i) (Nat.le_trans (Nat.pow_le_pow_right (by omega) hi) (by decide))
theorem outL_le (K subs : Nat) (hK : K ≤ 10) : ∀ i, i ≤ 3 → (outL K subs i).length ≤ i * 1000
 | 0, _ => by simp [outL]
 | i + 1, hi => by
  rw [outL, List.length_append]
  have h1 := outL_le K subs hK i (by omega)
  have h2 := List.length_filter_le (goodM subs) (lastL K (i + 1))
  have h3 := lastL_le K hK (i + 1) hi
  omega
theorem runH_flags {m : List Int} (hm : ∀ y ∈ m, 0 ≤ y ∧ y ≤ 39) : ∀ i : Nat, i ≤ m.length → runH m i = some (m.take i, 0)
 | 0, _ => by simp [runH]
 | i + 1, hi => by
  rw [runH, runH_flags hm i (by omega), Option.bind_some]
  have hx := hm (rd m (i : Int)) (by rw [rd_get m i (by omega)]; exact List.getElem_mem _)
  unfold stepH
  rw [if_neg (by omega), if_pos hx, List.take_succ_eq_append_getElem (by omega), rd_get m i (by omega)]
theorem readH_flags {m : List Int} (hm : ∀ y ∈ m, 0 ≤ y ∧ y ≤ 39) (h1 : 1 ≤ m.length) (h8 : m.length ≤ 8) : readH m = some m := by
 unfold readH
 rw [if_pos ⟨h1, h8⟩, runH_flags hm m.length (Nat.le_refl _), List.take_length]
 simp only
 rw [if_pos (by omega)]
theorem plainM_flags {m : List Int} (hm : ∀ y ∈ m, 0 ≤ y ∧ y ≤ 39) (h1 : 1 ≤ m.length) (h8 : m.length ≤ 8) : plainM m = true := by
 unfold plainM okH
 rw [readH_flags hm h1 h8]
 have : m.any oddM = false := by
  rw [List.any_eq_false]
  intro y hy
  have := hm y hy
  unfold oddM
  rw [decide_eq_false (by omega)]; simp
 rw [this]; rfl
theorem codeM_flags {m : List Int} (hm : ∀ y ∈ m, 0 ≤ y ∧ y ≤ 39) (h1 : 1 ≤ m.length) (h8 : m.length ≤ 8) (S : Nat) (hS : S ≤ 4) : codeM m 1 (S : Int) = 0 := by
 unfold codeM
 rw [if_pos (plainM_flags hm h1 h8), if_pos (by omega)]
theorem hoistW_flags {m : List Int} (S : Nat) (hm : ∀ y ∈ m, 0 ≤ y ∧ y ≤ 39) (h1 : 1 ≤ m.length) (h8 : m.length ≤ 8) (hS : S ≤ 4) : (hoistW m 1 (S : Int)).2 = if goodM S m = true then 0 else 6 := by
 unfold hoistW goodM
 rw [codeM_flags hm h1 h8 S hS, if_pos rfl, Int.toNat_natCast]
 cases findL m 1 S <;> simp
theorem flags_snoc {m : List Int} {K q : Nat} (hm : ∀ y ∈ m, 0 ≤ y ∧ y < (K : Int)) (hK : K ≤ 10) (hq : q < K) : ∀ y ∈ m ++ [(q : Int)], 0 ≤ y ∧ y ≤ 39 := fun y hy => by
 rcases List.mem_append.1 hy with hy | hy
 ·have := hm y hy; omega
 ·rw [List.mem_singleton] at hy; subst hy; omega
abbrev ShpM := Option Addr × Nat × Nat
def kdH : Kd ShpM := Kd.scalar (fun x => Value.slice x.1 x.2.1 x.2.2) (fun _ => rfl)
theorem infoM : (Try.prog.info? 47).map (fun i => (i.zero, i.size, i.bytes)) = some (some (.slice none 0 0), 1, 24) := by kernel_rfl
abbrev kM : Kd (List Int) := Kd.slice 22 (Kd.int .i8)
def RdI (w : World) (A : Option Addr) (x : List Int) : Prop := x.length ≤ 1000 ∧ (0 < x.length → ∃ g cells, A = some ⟨g, 0, none⟩ ∧ w.heap[g]? = some (.cells cells 22 (0, 0)) ∧ ∀ (j : Nat) y, x[j]? = some y → cells[j]? = some (.int .i8 y))
namespace RdI
variable {w w1 : World} {A : Option Addr} {x : List Int}
theorem C (h : RdI w A x) : Kd.C (Kd.int .i8) w A x.length x := by
 obtain ⟨h0, h1⟩ := h
 refine ⟨rfl, by omega, fun hp => ?_⟩
 obtain ⟨g, cells, rfl, hc, hv⟩ := h1 hp
 refine ⟨_, rfl, fun j y hj => ⟨[.int .i8 y], rfl, rfl, fun i u hu => ?_⟩⟩
 rcases i with _ | i
 ·cases hu
  have hadd : (⟨g, 0, none⟩ : Addr).add (j * 1 + 0) = ⟨g, j, none⟩ := by unfold Addr.add; split <;> simp_all
  show w.cell? ((⟨g, 0, none⟩ : Addr).add (j * 1 + 0)) = _
  rw [hadd, cell_of_row w g j _ _ (0, 0) hc]
  exact hv j y hj
 ·simp at hu
theorem move (h : RdI w A x) (hm : ∀ (g : Nat) cells, w.heap[g]? = some (.cells cells 22 (0, 0)) → w1.heap[g]? = some (.cells cells 22 (0, 0))) : RdI w1 A x := ⟨h.1, fun hp => by
 obtain ⟨g, cells, e, hc, hv⟩ := h.2 hp
 exact ⟨g, cells, e, hm g cells hc, hv⟩⟩
theorem below (h : RdI w A x) (hb : Below w.heap.size w w1) : RdI w1 A x := h.move fun g cells hc => (hb.block g (lt_of_some hc)).trans hc
theorem grown (h : RdI w A x) {row : Option Nat} (hg : w.grownBy w1 row) (hr : ∀ k, row = some k → ∃ cells, w.heap[k]? = some (.cells cells 47 (0, 0))) : RdI w1 A x := h.move fun g cells hc => by
 refine (hg.block g (lt_of_some hc) (fun e => ?_)).trans hc
 obtain ⟨cells', hc'⟩ := hr g e.symm
 rw [hc] at hc'
 injection hc' with hc'
 injection hc' with _ hc'
 exact absurd hc' (by decide)
theorem of_own {base : Nat} {v : Value} (h : Own base w v x) (hx : x.length ≤ 1000) : ∃ A c, v = .slice A x.length c ∧ x.length ≤ c ∧ RdI w A x := by
 have hr := Kd.R_reads h
 obtain ⟨A, c, rfl, hc, _⟩ := hr
 refine ⟨A, c, rfl, hc, hx, fun hp => ?_⟩
 obtain ⟨h0, inner, hown, hrep⟩ := h
 obtain ⟨hil, ho⟩ := hown
 rcases ho with ⟨_, hz⟩ | ⟨g, cap, cur, e, hg, hh, hn, hcap, hcs, htk⟩
 ·omega
 ·injection e with e1 _ e3
  refine ⟨g, cur, e1, hh, fun j y hj => ?_⟩
  have hj1 := (List.getElem?_eq_some_iff.1 hj).1
  have hm := hrep.2 j y hj
  have hm2 : ((inner.drop (j * 1)).take 1) = [Value.int .i8 y] := hm
  have hi : inner[j]? = some (Value.int .i8 y) := by
   have := congrArg (fun l => l[0]?) hm2
   simpa using this
  rw [← htk, List.getElem?_take, if_pos (by show j < x.length * 1; omega), Array.getElem?_toList] at hi
  exact hi
theorem nil : RdI w A [] := ⟨by simp, fun h => absurd h (by simp)⟩
end RdI
def LsR (B : Nat) (w : World) (v : Value) (xs : List (List Int)) : Prop := ∃ ss : List ShpM, ss.length = xs.length ∧ Kd.R kdH 47 w B (fun _ => True) v ss ∧ ∀ (j : Nat) x, xs[j]? = some x → ∃ A c, ss[j]? = some (A, x.length, c) ∧ x.length ≤ c ∧ RdI w A x
theorem kdH_set {e base : Nat} {w : World} {ok ok' : Nat → Prop} {v : Value} {ss : List ShpM} (h : Kd.R kdH e w base ok v ss) (hk : ∀ k, v.ownBlock = some k → ok' k) : Kd.R kdH e w base ok' v ss := ⟨hk, h.2⟩
theorem kdH_grown {e base : Nat} {w w1 : World} {v : Value} {ss : List ShpM} (h : Kd.R kdH e w base (fun _ => True) v ss) {row : Option Nat} (hg : w.grownBy w1 row) (hk : ∀ k, v.ownBlock = some k → row ≠ some k) : Kd.R kdH e w1 base (fun _ => True) v ss :=
 Kd.R_mono (Kd.R_grown (kdH_set (ok' := fun k => row ≠ some k) h hk) hg fun k hk e => hk e.symm) fun _ _ => trivial
namespace LsR
variable {B : Nat} {w w1 : World} {v : Value} {xs : List (List Int)}
theorem below (h : LsR B w v xs) (hb : Below w.heap.size w w1) : LsR B w1 v xs := by
 obtain ⟨ss, h1, h2, h3⟩ := h
 refine ⟨ss, h1, Kd.R_below h2 hb, fun j x hj => ?_⟩
 obtain ⟨A, c, e, hc, hr⟩ := h3 j x hj
 exact ⟨A, c, e, hc, hr.below hb⟩
theorem grown (h : LsR B w v xs) {row : Option Nat} (hg : w.grownBy w1 row) (hk : ∀ k, v.ownBlock = some k → row ≠ some k) (hr : ∀ k, row = some k → ∃ cells, w.heap[k]? = some (.cells cells 47 (0, 0))) : LsR B w1 v xs := by
 obtain ⟨ss, h1, h2, h3⟩ := h
 refine ⟨ss, h1, kdH_grown h2 hg hk, fun j x hj => ?_⟩
 obtain ⟨A, c, e, hc, hrd⟩ := h3 j x hj
 exact ⟨A, c, e, hc, hrd.grown hg hr⟩
theorem typed (h : LsR B w v xs) : ∀ k, v.ownBlock = some k → ∃ cells, w.heap[k]? = some (.cells cells 47 (0, 0)) := by
 obtain ⟨ss, _, h2, _⟩ := h
 exact Kd.R_typed h2
theorem slice (h : LsR B w v xs) : ∃ A c, v = .slice A xs.length c ∧ xs.length ≤ c := by
 obtain ⟨ss, h1, h2, _⟩ := h
 obtain ⟨A, c, e, hc, _⟩ := Kd.R_reads h2
 exact ⟨A, c, by rw [e, h1], by omega⟩
theorem at_ (h : LsR B w v xs) (j : Nat) (hj : j < xs.length) : ∃ ad c A cm, v = .slice (some ad) xs.length c ∧ w.cell? (ad.add j) = some (.slice A (xs[j]).length cm) ∧ (xs[j]).length ≤ cm ∧ RdI w A xs[j] := by
 obtain ⟨ss, h1, h2, h3⟩ := h
 obtain ⟨A, c, e, hc, hC⟩ := Kd.R_reads h2
 obtain ⟨_, _, hC3⟩ := hC
 obtain ⟨ad, e2, hcell⟩ := hC3 (by omega)
 obtain ⟨A1, c1, hs, hle, hrd⟩ := h3 j _ (List.getElem?_eq_getElem hj)
 obtain ⟨cs, _, hk, hq⟩ := hcell j _ hs
 have hk : cs = [Value.slice A1 (xs[j]).length c1] := hk
 refine ⟨ad, c, A1, c1, by rw [e, h1, e2], ?_, hle, hrd⟩
 have := hq 0 _ (by rw [hk]; rfl)
 simpa [kdH, Kd.scalar] using this
theorem push {ss : List ShpM} (h1 : ss.length = xs.length) (h2 : Kd.R kdH 47 w B (fun _ => True) v ss) (h3 : ∀ (j : Nat) x, xs[j]? = some x → ∃ A c, ss[j]? = some (A, x.length, c) ∧ x.length ≤ c ∧ RdI w A x) {w2 : World} {v2 : Value} {x : List Int} {A : Option Addr} {c : Nat} (hg : w.grownBy w2 v.ownBlock) (hc : x.length ≤ c) (hrd : RdI w2 A x)
  (hR : Kd.R kdH 47 w2 B (fun _ => True) v2 (ss ++ [(A, x.length, c)])) : LsR B w2 v2 (xs ++ [x]) := by
 have ht := Kd.R_typed h2
 refine ⟨ss ++ [(A, x.length, c)], by simp [h1], hR, fun j y hj => ?_⟩
 rcases Nat.lt_or_ge j xs.length with hlt | hge
 ·rw [List.getElem?_append_left hlt] at hj
  obtain ⟨A1, c1, e, hc1, hr1⟩ := h3 j y hj
  exact ⟨A1, c1, by rw [List.getElem?_append_left (by omega)]; exact e, hc1, hr1.grown hg ht⟩
 ·have hj1 := (List.getElem?_eq_some_iff.1 hj).1
  simp at hj1
  obtain rfl : j = xs.length := by omega
  simp at hj
  subst hj
  exact ⟨A, c, by rw [← h1]; simp, hc, hrd⟩
end LsR
structure Rows (w : World) (N : Nat) (Bx : List (Nat × Array Value × TypeId)) (wr : World) (vo vl vn : Value) (outs ls ns : List (List Int)) : Prop where
 out : Kd.S kM 47 wr w.heap.size (fun k => (some k ≠ vl.ownBlock ∧ k < N) ∧ some k ≠ vn.ownBlock) vo outs
 last : LsR w.heap.size wr vl ls
 next : LsR w.heap.size wr vn ns
 ln : ∀ k, vl.ownBlock = some k → vn.ownBlock ≠ some k
 box : ∀ b ∈ Bx, wr.heap[b.1]? = some (.cells b.2.1 b.2.2 (0, 0)) ∧ b.2.2 ≠ 47
 le : N ≤ wr.heap.size
 bel : Below w.heap.size w wr
namespace Rows
variable {w wr w1 : World} {N : Nat} {Bx : List (Nat × Array Value × TypeId)} {vo vl vn : Value} {outs ls ns : List (List Int)}
theorem renew (h : Rows w N Bx wr vo vl vn outs ls ns) : Rows w wr.heap.size Bx wr vo vl vn outs ls ns :=
 ⟨Kd.S_mono (Kd.S_bound h.out) fun k hk => ⟨⟨hk.1.1.1, hk.2.2.1⟩, hk.1.2⟩, h.last, h.next, h.ln, h.box, Nat.le_refl _, h.bel⟩
theorem below (h : Rows w N Bx wr vo vl vn outs ls ns) (hb : Below wr.heap.size wr w1) : Rows w N Bx w1 vo vl vn outs ls ns :=
 ⟨Kd.S_below h.out hb, h.last.below hb, h.next.below hb, h.ln, fun b hm => ⟨(hb.block b.1 (lt_of_some (h.box b hm).1)).trans (h.box b hm).1, (h.box b hm).2⟩, Nat.le_trans h.le hb.size, h.bel.trans (hb.mono h.bel.size)⟩
theorem cell (h : Rows w N Bx wr vo vl vn outs ls ns) {g : Nat} {cs : Array Value} {t : TypeId} (hb : (g, cs, t) ∈ Bx) (i : Nat) : wr.cell? ⟨g, i, none⟩ = cs[i]? := cell_of_row wr g i cs t (0, 0) (h.box _ hb).1
theorem boxed (h : Rows w N Bx wr vo vl vn outs ls ns) {row : Option Nat} (hg : wr.grownBy w1 row) (hr : ∀ k, row = some k → ∃ cells, wr.heap[k]? = some (.cells cells 47 (0, 0))) :
  ∀ b ∈ Bx, w1.heap[b.1]? = some (.cells b.2.1 b.2.2 (0, 0)) ∧ b.2.2 ≠ 47 := fun b hm => by
 obtain ⟨h1, h2⟩ := h.box b hm
 refine ⟨(hg.block b.1 (lt_of_some h1) (fun e => ?_)).trans h1, h2⟩
 obtain ⟨cells, hc⟩ := hr b.1 e.symm
 rw [h1] at hc
 injection hc with hc
 injection hc with _ hc
 exact h2 hc
theorem not_old {u : Value} (hu : ∀ k, u.ownBlock = some k → k < wr.heap.size) {v : Value} (hv : v.ownBlock = u.ownBlock ∨ ∃ b, v.ownBlock = some b ∧ wr.heap.size ≤ b) {x : Value} (hx : ∀ k, x.ownBlock = some k → k < wr.heap.size ∧ u.ownBlock ≠ some k) : ∀ k, x.ownBlock = some k → v.ownBlock ≠ some k := fun k hk e => by
 have h1 := hx k hk
 rcases hv with hv | ⟨b, hb, hle⟩
 ·rw [hv] at e; exact h1.2 e
 ·rw [hb] at e; injection e with e; omega
theorem typed_lt {w : World} {v : Value} {t : TypeId} (h : ∀ k, v.ownBlock = some k → ∃ cells, w.heap[k]? = some (.cells cells t (0, 0))) : ∀ k, v.ownBlock = some k → k < w.heap.size := fun k hk => by
 obtain ⟨cells, hc⟩ := h k hk; exact lt_of_some hc
theorem pushNext (h : Rows w N Bx wr vo vl vn outs ls ns) {ss : List ShpM} (h1 : ss.length = ns.length) (h2 : Kd.R kdH 47 wr w.heap.size (fun _ => True) vn ss) (h3 : ∀ (j : Nat) x, ns[j]? = some x → ∃ A c, ss[j]? = some (A, x.length, c) ∧ x.length ≤ c ∧ RdI wr A x) {v2 : Value} {x : List Int} {A : Option Addr} {c : Nat} (hg : wr.grownBy w1 vn.ownBlock) (hat : v2.ownBlock = vn.ownBlock ∨ ∃ b, v2.ownBlock = some b ∧ wr.heap.size ≤ b) (hb : Below w.heap.size w w1) (hc : x.length ≤ c) (hrd : RdI wr A x)
  (hR : Kd.R kdH 47 w1 w.heap.size (fun _ => True) v2 (ss ++ [(A, x.length, c)])) : Rows w N Bx w1 vo vl v2 outs ls (ns ++ [x]) := by
 have ht := h.next.typed
 refine ⟨Kd.S_after h.out hg hat, h.last.grown hg (fun k hk => h.ln k hk) ht, LsR.push h1 h2 h3 hg hc (hrd.grown hg ht) hR, ?_, h.boxed hg ht, Nat.le_trans h.le hg.size, hb⟩
 exact not_old (typed_lt ht) hat fun k hk => ⟨typed_lt h.last.typed k hk, h.ln k hk⟩
theorem out_block (h : Rows w N Bx wr vo vl vn outs ls ns) : ∀ k, vo.ownBlock = some k → some k ≠ vl.ownBlock ∧ some k ≠ vn.ownBlock := fun k hk => by
 have := (Kd.S_R h.out).1 k hk
 exact ⟨this.1.1, this.2⟩
theorem pushOut (h : Rows w N Bx wr vo vl vn outs ls ns) {v2 : Value} {x : List Int} (hg : wr.grownBy w1 vo.ownBlock) (hb : Below w.heap.size w w1)
  (hS : Kd.S kM 47 w1 w.heap.size (fun k => some k ≠ vl.ownBlock ∧ some k ≠ vn.ownBlock) v2 (outs ++ [x])) : Rows w w1.heap.size Bx w1 v2 vl vn (outs ++ [x]) ls ns := by
 have ht : ∀ k, vo.ownBlock = some k → ∃ cells, wr.heap[k]? = some (.cells cells 47 (0, 0)) := Kd.S_typed h.out
 refine ⟨Kd.S_mono (Kd.S_bound hS) fun k hk => ⟨⟨hk.1.1, hk.2.2.1⟩, hk.1.2⟩, h.last.grown hg (fun k hk e => (h.out_block k e).1 hk.symm) ht, h.next.grown hg (fun k hk e => (h.out_block k e).2 hk.symm) ht, h.ln, h.boxed hg ht, Nat.le_refl _, hb⟩
theorem own_typed {base : Nat} {v : Value} {x : List Int} (ho : Own base wr v x) : ∀ k, v.ownBlock = some k → ∃ cells, wr.heap[k]? = some (.cells cells 22 (0, 0)) := Kd.R_typed ho
theorem ne_types {u v : Value} {t t' : TypeId} (hne : t ≠ t') (hu : ∀ k, u.ownBlock = some k → ∃ cells, wr.heap[k]? = some (.cells cells t (0, 0))) (hv : ∀ k, v.ownBlock = some k → ∃ cells, wr.heap[k]? = some (.cells cells t' (0, 0))) : ∀ k, some k = u.ownBlock → some k ≠ v.ownBlock := fun k hk e => by
 obtain ⟨c1, h1⟩ := hu k hk.symm
 obtain ⟨c2, h2⟩ := hv k e.symm
 rw [h1] at h2
 injection h2 with h2
 injection h2 with _ h2
 exact hne h2
theorem give (h : Rows w N Bx wr vo vl vn outs ls ns) {v : Value} {x : List Int} (ho : Own N wr v x) (hwN : w.heap.size ≤ N) : kM.M wr w.heap.size (fun k => some k = v.ownBlock) x [v] ∧ (∀ k, some k = v.ownBlock → (some k ≠ vl.ownBlock ∧ some k ≠ vn.ownBlock) ∧ some k ≠ vo.ownBlock) ∧
  (∀ k, wr.heap.size ≤ k → some k ≠ vl.ownBlock ∧ some k ≠ vn.ownBlock) ∧ Kd.S kM 47 wr w.heap.size (fun k => (some k ≠ vl.ownBlock ∧ some k ≠ vn.ownBlock) ∧ ¬ some k = v.ownBlock) vo outs := by
 have hN : ∀ k, v.ownBlock = some k → N ≤ k := fun k hk => Kd.R_base ho k hk
 have h48 : 22 ≠ 47 := by decide
 have ht := own_typed ho
 refine ⟨⟨v, rfl, ?_⟩, fun k hk => ⟨⟨ne_types h48 ht h.last.typed k hk, ne_types h48 ht h.next.typed k hk⟩, ne_types h48 ht (Kd.S_typed h.out) k hk⟩, fun k hk => ⟨fun e => ?_, fun e => ?_⟩, Kd.S_mono h.out fun k hk => ⟨⟨hk.1.1, hk.2⟩, fun e => ?_⟩⟩
 ·refine Kd.R_lower (Kd.R_mono (ok := fun k => some k = v.ownBlock) ⟨fun k hk => hk.symm, ?_⟩ fun _ hk => hk) hwN
  exact ho.2
 ·have := typed_lt h.last.typed k e.symm; omega
 ·have := typed_lt h.next.typed k e.symm; omega
 ·have := hN k e.symm
  have := hk.1.2
  omega
end Rows
end Go.Proofs.Ytckpfodpfplaeaa.Arr
namespace Go.Proofs.Ytckpfodpfplaeaa.Arr
open Go.RowKit Go.Proofs.YtckpfodpfplaeaaW.PrintWords Go.Proofs.YtckpfodpfplaeaaW.PrintLast Go.Proofs.YtckpfodpfplaeaaW.PrintMore Go.Proofs.Ytckpfodpfplaeaa.U Go.Proofs.Ytckpfodpfplaeaa.D
set_option linter.unusedVariables false
set_option linter.unusedSimpArgs false
set_option maxHeartbeats 1000000 in
set_option maxRecDepth 100000 in
theorem cloneM_calls (A0 : Option Addr) (c0 : Nat) (l0 : List Int) (w : World) (hr0 : Kd.C (Kd.int .i8) w A0 l0.length l0) (hc0 : l0.length ≤ c0) (hl : l0.length < 140737488355328) :
  Calls Try.prog 91 #[.slice A0 l0.length c0] w fun e w' => ∃ v0 : Value, e = .returned v0 ∧ Own w.heap.size w' v0 l0 ∧ Below w.heap.size w w' := by
 have HR0 := Aside0.mk hr0
 have hm := Kd.C_max hr0
 have HL := Aside0.mk hl
 clear hr0 hl
 have heq := fun (W : World) (n c : Nat) => Lib.run_eql_slice_nil (P := Try.prog) W 47 22 A0 n c 0 0 Try.underlying47
 cases A0 with
 | none =>
  have h0 : l0 = [] := by
   rcases Nat.eq_zero_or_pos l0.length with h | h
   ·exact List.eq_nil_of_length_eq_zero h
   ·obtain ⟨ad, e, _⟩ := HR0.out.2.2 h; cases e
  go_enter Try.func91, Try.ntmps91
  go_wp2_with fail
  go_ret
  exact ⟨_, rfl, by rw [h0]; exact Kd.R_nil _ _ _ _ _, Below.refl _ _⟩
 | some ad =>
  go_enter Try.func91, Try.ntmps91
  go_wp2_with (first
   | ((with_reducible refine gate_dst (N := 5) rfl ?_); refine Kd.R_lit (Kd.int .i8) _ 22 ?hg (N := 5) ?hd (xs := ([] : List Int)) (inner := []) (ok := fun _ => True) (okp := fun _ => True) ?hr ?hp (fun _ hk => hk) trivial (Below.refl _ _) (Nat.le_refl _) (by simp) ?_; (case hd => rfl); (case hg => rfl); (case hr => first | (go_simp; done) | (go_simp; rfl)); (case hp => exact (Reps.none _ _)); intro v1 w1 ho hb _ _; have HO := Aside0.mk ho; have HB := Aside0.mk hb; clear ho hb)
   | ((with_reducible refine gate_builtin (b := .append) (xs := #[.tmp 5, .tmp 6]) rfl ?_); at_builtin; refine Kd.R_append_rows (Kd.int .i8) (w0 := w) w.heap.size rfl (.tmp 5) (.tmp 6) 47 22 (.int .i8 0) 1 rfl Try.underlying47 infoI8 rfl (by decide) (by omega) v1 [] l0 _ _ _ (fun _ => True) (fun _ => False) rfl rfl ?aO ?aR (fun _ _ h => h) (fun _ h => h.elim) (fun _ _ => trivial) ?aB ?aS ?aL ?_; (case aR => exact Kd.C_below HR0.out HB.out); (case aB => exact HB.out); (case aO => exact HO.out); (case aS => exact HB.out.size); (case aL => have := HL.out; simp; omega); intro v2 w2 ho hb _ _; have HO2 := Aside0.mk ho; have HB2 := Aside0.mk hb; clear ho hb))
  go_ret
  exact ⟨_, rfl, HO2.out, HB2.out⟩
theorem goodFirst_calls (A : Option Addr) (c : Nat) (m : List Int) (S : Nat) (W : World) (hr : Kd.C (Kd.int .i8) W A m.length m) (hc : m.length ≤ c) (hm : ∀ x ∈ m, PlainN x) (hl : m.length ≤ 1000) (hS : S ≤ 4) :
  Calls Try.prog 92 #[.slice A m.length c, .agg (vals .i64 (evenL 1 S))] W fun e w' => ∃ v, e = .returned (.tuple #[v, .bool (goodM S m)]) ∧ Below W.heap.size W w' := by
 refine (first_calls A c m (evenL 1 S) W hr hc hm hl (evenL_length 1 S (by omega)) (evenL_b 1 S (by omega) (by omega) (by omega))).mono ?_
 rintro e w' ⟨v, b, rfl, hf, hb⟩
 rw [find_even hm 1 S (by omega) (by omega) (by omega), Int.toNat_natCast] at hf
 refine ⟨v, ?_, hb⟩
 unfold goodM
 cases hL : findL m 1 S with
 | nil => rw [hL] at hf; rw [hf.2]; rfl
 | cons h r => rw [hL] at hf; rw [hf.1]; rfl
theorem snoc_len (m : List Int) (y : Int) : (m ++ [y]).length = m.length + 1 := by simp
theorem plain_snoc {m : List Int} {K q : Nat} (hm : ∀ y ∈ m, 0 ≤ y ∧ y < (K : Int)) (hK : K ≤ 10) (hq : q < K) : ∀ y ∈ m ++ [(q : Int)], PlainN y := fun y hy => by
 rcases List.mem_append.1 hy with hy | hy
 ·have := hm y hy; exact Or.inr (by omega)
 ·rw [List.mem_singleton] at hy; subst hy; exact Or.inr (by omega)
theorem lit_none2 (w : World) (base : Nat) (hb : base ≤ w.heap.size) : LsR base (w.alloc (.cells #[] 47)) (.slice (some ⟨w.heap.size, 0, none⟩) 0 0) [] := by
 refine ⟨[], rfl, ⟨fun k hk => trivial, [], ?_, Reps.none _ _⟩, fun j x hj => by simp at hj⟩
 have h2 := World.ownsRow_lit (base := base) (e := 47) (size := 1) w #[] 0 hb (by simp [maxLen]) (by simp)
 have h3 : (w.alloc (.cells #[] 47)).ownsRow base 47 1 (.slice (some ⟨w.heap.size, 0, none⟩) 0 0) 0 [] := by simpa using h2
 exact h3
structure Rows2 (w : World) (Bx : List (Nat × Array Value × TypeId)) (wr : World) (vo vl : Value) (outs ls : List (List Int)) : Prop where
 out : Kd.S kM 47 wr w.heap.size (fun k => some k ≠ vl.ownBlock ∧ k < wr.heap.size) vo outs
 last : LsR w.heap.size wr vl ls
 box : ∀ b ∈ Bx, wr.heap[b.1]? = some (.cells b.2.1 b.2.2 (0, 0)) ∧ b.2.2 ≠ 47
 bel : Below w.heap.size w wr
theorem Rows.two {w wr : World} {N : Nat} {Bx : List (Nat × Array Value × TypeId)} {vo vl vn : Value} {outs ls ns : List (List Int)} (h : Rows w N Bx wr vo vl vn outs ls ns) : Rows2 w Bx wr vo vn outs ns :=
 ⟨Kd.S_mono (Kd.S_bound h.out) fun k hk => ⟨hk.1.2, hk.2.2.1⟩, h.next, h.box, h.bel⟩
theorem Rows2.three {w wr : World} {Bx : List (Nat × Array Value × TypeId)} {vo vl : Value} {outs ls : List (List Int)} (h : Rows2 w Bx wr vo vl outs ls) : Rows w wr.heap.size Bx (wr.alloc (.cells #[] 47)) vo vl (.slice (some ⟨wr.heap.size, 0, none⟩) 0 0) outs ls [] := by
 have hb := below_alloc (Below.refl wr.heap.size wr) (.cells #[] 47)
 have hsz : (wr.alloc (.cells #[] 47)).heap.size = wr.heap.size + 1 := by simp
 have hlt := Rows.typed_lt h.last.typed
 refine ⟨Kd.S_below (Kd.S_mono h.out fun k hk => ⟨⟨hk.1, hk.2⟩, fun e => ?_⟩) hb, h.last.below hb, lit_none2 wr _ h.bel.size, fun k hk e => ?_, fun b hm => ⟨(hb.block b.1 (lt_of_some (h.box b hm).1)).trans (h.box b hm).1, (h.box b hm).2⟩, by omega, h.bel.trans (hb.mono h.bel.size)⟩
 ·have : k = wr.heap.size := by simpa [Value.ownBlock] using e
  have := hk.2; omega
 ·have h1 := hlt k hk
  have : wr.heap.size = k := by simpa [Value.ownBlock] using e
  omega
theorem Rows2.cell {w wr : World} {Bx : List (Nat × Array Value × TypeId)} {vo vl : Value} {outs ls : List (List Int)} (h : Rows2 w Bx wr vo vl outs ls) {g : Nat} {cs : Array Value} {t : TypeId} (hb : (g, cs, t) ∈ Bx) (i : Nat) : wr.cell? ⟨g, i, none⟩ = cs[i]? := cell_of_row wr g i cs t (0, 0) (h.box _ hb).1
theorem Rows2.row {w wr : World} {Bx : List (Nat × Array Value × TypeId)} {vo vl : Value} {outs ls : List (List Int)} (h : Rows2 w Bx wr vo vl outs ls) {g : Nat} {cs : Array Value} {t : TypeId} (hb : (g, cs, t) ∈ Bx) : wr.heap[g]? = some (.cells cs t (0, 0)) := (h.box _ hb).1
theorem Rows.row {w wr : World} {N : Nat} {Bx : List (Nat × Array Value × TypeId)} {vo vl vn : Value} {outs ls ns : List (List Int)} (h : Rows w N Bx wr vo vl vn outs ls ns) {g : Nat} {cs : Array Value} {t : TypeId} (hb : (g, cs, t) ∈ Bx) : wr.heap[g]? = some (.cells cs t (0, 0)) := (h.box _ hb).1
section
variable {P : Program} {ops : Array Oper} {rest : List Oper} {o : Oper} {a : Act} {w0 w : World} {M : List Ent} {Q : Exit → Act → World → Prop}
theorem st_litv (hgd : o.guard = none) {N n : Nat} (hd : o.dst = some N) (hm : Mem w0 w M) {cs : Array Value} {e : TypeId} (hrun : (execOp a.eval o).run P w = .ok (.value (.slice (some ⟨w.heap.size, 0, none⟩) n n)) (w.alloc (.cells cs e)))
  (h : ∀ g w1, Mem w0 w1 (⟨g, cs, e, true⟩ :: M) → wpList P ops Q rest (a.put (some N) (.slice (some ⟨g, 0, none⟩) n n)) w1) : wpList P ops Q (o :: rest) a w := by
 refine Kd.event_run hgd hrun ?_
 rw [hd]
 exact h _ _ (hm.new cs e)
theorem st_loadRow (hgd : o.guard = none) (ty : TypeId) (x : Operand) (ho : o.op = .load ty x) {g : Nat} (hx : a.eval x = .pointer (some ⟨g, 0, none⟩)) {k : IntKind} {L : List Int} {m : Nat} {t : TypeId}
  (hc : w.heap[g]? = some (.cells (vals k L) t (0, 0))) (hi2 : AggTy P ty m) (hl : L.length = m) (h : wpList P ops Q rest (a.put o.dst (.agg (vals k L))) w) : wpList P ops Q (o :: rest) a w := by
 obtain ⟨hd, hi0⟩ := hi2
 have hi : (P.info? ty).map (·.size) = some (vals k L).size := by rw [vals_size, hl]; exact hi0
 cases hu : P.underlying ty with
 | none => simp [hu] at hd
 | some d =>
  refine wpList_load_row hgd ty x ho g hx t (vals k L) (0, 0) d hc hu ?_ hi h
  cases d <;> simp_all
end
theorem S_block0 {w : World} {g base : Nat} {ok : Nat → Prop} (h : w.heap[g]? = some (.cells #[] 47 (0, 0))) (hb : base ≤ g) (hk : ok g) : Kd.S kM 47 w base ok (.slice (some ⟨g, 0, none⟩) 0 0) [] := by
 refine ⟨fun _ => 0, fun k hk2 => ?_, [], ⟨rfl, Or.inr ⟨g, 0, #[], rfl, hb, h, Nat.le_refl _, by simp [maxLen], rfl, rfl⟩⟩, Reps.none _ _⟩
 have : g = k := by simpa [Value.ownBlock] using hk2
 subst this; exact hk
theorem Ls_block1 {w : World} {g base : Nat} {A : Option Addr} {c : Nat} (h : w.heap[g]? = some (.cells #[.slice A 0 c] 47 (0, 0))) (hb : base ≤ g) : LsR base w (.slice (some ⟨g, 0, none⟩) 1 1) [[]] := by
 refine ⟨[(A, 0, c)], rfl, ⟨fun k hk => trivial, [.slice A 0 c], ⟨rfl, Or.inr ⟨g, 1, #[.slice A 0 c], rfl, hb, h, Nat.le_refl _, by simp [maxLen], rfl, rfl⟩⟩, ⟨rfl, fun j p hj => ?_⟩⟩, fun j x hj => ?_⟩
 ·rcases j with _ | j
  ·cases hj; rfl
  ·simp at hj
 ·rcases j with _ | j
  ·cases hj; exact ⟨A, c, rfl, Nat.zero_le _, RdI.nil⟩
  ·simp at hj
theorem filter_snoc (p : List Int → Bool) (l : List (List Int)) (x : List Int) : (l ++ [x]).filter p = l.filter p ++ (if p x = true then [x] else []) := by
 rw [List.filter_append]; cases h : p x <;> simp [h]
theorem ne27 : 27 ≠ 47 := by decide
theorem ne105 : 105 ≠ 47 := by decide
end Go.Proofs.Ytckpfodpfplaeaa.Arr
namespace Go.Proofs.Ytckpfodpfplaeaa.Arr
open Go.RowKit Go.Proofs.YtckpfodpfplaeaaW.PrintWords Go.Proofs.YtckpfodpfplaeaaW.PrintLast Go.Proofs.YtckpfodpfplaeaaW.PrintMore Go.Proofs.Ytckpfodpfplaeaa.U Go.Proofs.Ytckpfodpfplaeaa.D
set_option linter.unusedVariables false
set_option linter.unusedSimpArgs false
set_option maxHeartbeats 16000000 in
set_option maxRecDepth 100000 in
theorem implMeanings_calls (K L S : Nat) (A3 : Option Addr) (n3 c3 : Nat) (w : World) (hK0 : 1 ≤ K) (hK : K ≤ 10) (hL : L ≤ 3) (hS : S ≤ 4) :
  Calls Try.prog 56 #[.agg #[.int .i8 (K : Int), .int .i8 (L : Int), .int .i8 (S : Int), .slice A3 n3 c3]] w fun e w' => ∃ v, e = .returned v ∧ Kd.S kM 47 w' w.heap.size (fun _ => True) v (outL K S L) ∧ Below w.heap.size w w' := by
 have hm := Mem.start w
 have HEV : Aside0 (∀ W, Calls Try.prog 90 #[.int .i64 1, .int .i64 (S : Int)] W fun e w' => e = .returned (.agg (vals .i64 (evenL 1 S))) ∧ Below W.heap.size W w') := ⟨fun W => even_calls 1 (S : Int) W (by omega) (by omega)⟩
 have hwS : wrap64 (S : Int) = (S : Int) := w64 (by omega) (by omega)
 have hEL := Aside0.mk (evenL_length 1 (S : Int) (by omega))
 go_enter Try.func56, Try.ntmps56
 go_wp2_with (first
  | ((with_reducible refine gt_box 1 27 ?_); refine st_box rfl 1 rfl 27 _ rfl hm rfl (cs := #[.int .i8 (K : Int), .int .i8 (L : Int), .int .i8 (S : Int), .slice A3 n3 c3]) rfl ?_; clear hm; intro g1 w1 hm)
  | (((with_reducible refine gate_dst (N := 13) rfl ?_); refine st_litv rfl (N := 13) (n := 0) rfl hm (cs := #[]) (e := 47) ?hr13 ?_; (case hr13 => first | (go_simp; done) | (go_simp; rfl)); clear hm; intro g13 w13 hm); have hc2 := hm.cell (n := 1) rfl 2; simp only [List.getElem?_toArray, List.getElem?_cons_zero, List.getElem?_cons_succ] at hc2)
  | (go_at_call 90; refine (HEV.out _).mono ?_; rintro e w17 ⟨rfl, hb17⟩; replace hm := hm.after hb17; clear hb17 hc2)
  | ((with_reducible refine gt_alloc 4 105 ?_); refine st_alloc rfl 4 rfl 105 rfl hm zero105 ?_; clear hm; intro g4 w4 hm)
  | ((with_reducible refine gt_store 105 ?_); refine st_full rfl 105 _ _ rfl hm rfl rfl 0 rfl agg105 hEL.out zs_length ?_; clear hm; intro ws hm; simp only [List.set_cons_zero] at hm)
  | ((with_reducible refine gate_dst (N := 18) rfl ?_); refine st_litv rfl (N := 18) (n := 0) rfl hm (cs := #[]) (e := 22) ?hr18 ?_; (case hr18 => first | (go_simp; done) | (go_simp; rfl)); clear hm; intro g18 w18 hm)
  | (((with_reducible refine gate_dst (N := 19) rfl ?_); refine st_litv rfl (N := 19) (n := 1) rfl hm (cs := #[.slice (some ⟨g18, 0, none⟩) 0 0]) (e := 47) ?hr19 ?_; (case hr19 => first | (go_simp; done) | (go_simp; rfl)); clear hm; intro g19 w19 hm; have hc1 := hm.cell (n := 4) rfl 1; simp only [List.getElem?_toArray, List.getElem?_cons_zero, List.getElem?_cons_succ] at hc1)))
 have h1 := hm.mem (n := 4) rfl
 have h13 := hm.mem (n := 3) rfl
 have h4 := hm.mem (n := 2) rfl
 have h19 := hm.mem (n := 0) rfl
 have o13 := hm.own_ge 3 rfl
 have o19 := hm.own_ge 0 rfl
 have n13 := hm.ne 3 0 (by decide) rfl rfl
 have HR0 : Aside0 (Rows2 w [(g1, #[.int .i8 (K : Int), .int .i8 (L : Int), .int .i8 (S : Int), .slice A3 n3 c3], 27), (g4, vals .i64 (evenL 1 S), 105)] w19 (.slice (some ⟨g13, 0, none⟩) 0 0) (.slice (some ⟨g19, 0, none⟩) 1 1) [] [[]]) := ⟨S_block0 h13 o13 ⟨by simp [Value.ownBlock]; exact n13, lt_of_some h13⟩, Ls_block1 h19 o19, fun b hb => by
  simp only [List.mem_cons, List.not_mem_nil, or_false] at hb
  rcases hb with rfl | rfl
  ·exact ⟨h1, ne27⟩
  ·exact ⟨h4, ne105⟩, hm.done rfl⟩
 clear h1 h13 h4 h19 o13 o19 n13 hm hc1
 go_loopw [22, 3, 5, 6, 8, 9, 10, 11, 12] (fun v22 v3 v5 _ _ _ _ _ _ wr => ∃ i : Nat, i ≤ L ∧ v22 = .int .i8 (i : Int) ∧ Aside0 (Rows2 w [(g1, #[.int .i8 (K : Int), .int .i8 (L : Int), .int .i8 (S : Int), .slice A3 n3 c3], 27), (g4, vals .i64 (evenL 1 S), 105)] wr v3 v5 (outL K S i) (lastL K i))) (fun v22 _ _ _ _ _ _ _ _ _ => L + 1 - (intOf v22).toNat)
 case atStart => exact ⟨0, by omega, rfl, HR0⟩
 case round =>
  clear HR0
  obtain ⟨i, hi, rfl, HR2⟩ := hrel
  obtain ⟨wo, rfl⟩ : ∃ wo : World, wo = wr := ⟨_, rfl⟩
  by_cases hlt : i < L
  ·have HMEM := Aside0.mk (lastL_mem K i)
   have hll := lastL_le2 K hK i (by omega)
   have HOL := Aside0.mk (outL_le K S hK i (by omega))
   have HOS := Aside0.mk (show outL K S (i + 1) = outL K S i ++ (lastL K (i + 1)).filter (goodM S) from rfl)
   have HLS := Aside0.mk (show lastL K (i + 1) = (lastL K i).flatMap (fun m => kidsTo m K) from rfl)
   have HR3 := Aside0.mk HR2.out.three.renew
   obtain ⟨A5, c5, rfl, hc5⟩ := HR2.out.last.slice
   have hwi : IntKind.i8.wrap ((i : Int) + 1) = (i : Int) + 1 := i8w (by omega) (by omega)
   generalize lastL K i = ls at *
   generalize outL K S i = os at *
   go_wp2_with fail
   go_loopw [27, 3, 6, 8, 9, 10, 11, 12] (fun v27 v3 v6 _ _ _ _ _ wr => ∃ p : Nat, p ≤ ls.length ∧ v27 = .int .i64 p ∧ Aside0 (Rows w wr.heap.size [(g1, #[.int .i8 (K : Int), .int .i8 (L : Int), .int .i8 (S : Int), .slice A3 n3 c3], 27), (g4, vals .i64 (evenL 1 S), 105)] wr v3 (.slice A5 ls.length c5) v6 (os ++ ((ls.take p).flatMap (fun m => kidsTo m K)).filter (goodM S)) ls ((ls.take p).flatMap (fun m => kidsTo m K)))) (fun v27 _ _ _ _ _ _ _ _ => ls.length - (intOf v27).toNat)
   case atStart => exact ⟨0, by omega, rfl, ⟨by simpa using HR3.out⟩⟩
   case round =>
    clear HR3
    obtain ⟨p, hp, rfl, HRM⟩ := hrel
    obtain ⟨wm, rfl⟩ : ∃ wm : World, wm = wr := ⟨_, rfl⟩
    by_cases hlt2 : p < ls.length
    ·obtain ⟨ad, c6, Am, cm, e5, hcell, hcm, hrd⟩ := HRM.out.last.at_ p hlt2
     cases e5
     have hcK := HRM.out.cell (g := g1) (List.mem_cons_self ..) 0
     simp only [List.getElem?_toArray, List.getElem?_cons_zero] at hcK
     have HPS := Aside0.mk (flat_take_succ ls K p hlt2)
     have hpl := flat_len K (ls.take p)
     have HMX := Aside0.mk (HMEM.out ls[p] (List.getElem_mem hlt2))
     have hml : ls[p].length = i := HMX.out.1
     have HPL : Aside0 (((ls.take p).flatMap fun m => kidsTo m K).length ≤ 1000) := ⟨by
      rw [hpl, List.length_take]
      have : min p ls.length * K ≤ 100 * 10 := Nat.mul_le_mul (by omega) hK
      omega⟩
     clear hpl
     have hml2 : ls[p].length ≤ 3 := by omega
     clear hml
     generalize ls[p] = m at *
     generalize (ls.take p).flatMap (fun m => kidsTo m K) = pre at *
     have HMc := Aside0.mk hcm
     have HRD := Aside0.mk hrd
     clear hcm hrd
     go_wp2_with fail
     go_loopw [33, 3, 6, 9, 10, 11, 12] (fun v33 v3 v6 _ _ _ _ wr => ∃ q : Nat, q ≤ K ∧ v33 = .int .i8 q ∧ Aside0 (Rows w wr.heap.size [(g1, #[.int .i8 (K : Int), .int .i8 (L : Int), .int .i8 (S : Int), .slice A3 n3 c3], 27), (g4, vals .i64 (evenL 1 S), 105)] wr v3 (.slice (some ad) ls.length c5) v6 (os ++ (pre ++ kidsTo m q).filter (goodM S)) ls (pre ++ kidsTo m q)) ∧ Aside0 (RdI wr Am m)) (fun v33 _ _ _ _ _ _ _ => K - (intOf v33).toNat)
     case atStart => exact ⟨0, by omega, rfl, ⟨by simpa [kidsTo] using HRM.out⟩, HRD⟩
     case round =>
      clear HRM HRD
      obtain ⟨q, hq, rfl, HRQ, HMm⟩ := hrel
      by_cases hlt3 : q < K
      ·have hwq : IntKind.i8.wrap ((q : Int) + 1) = (q : Int) + 1 := i8w (by omega) (by omega)
       have HKS := Aside0.mk (kidsTo_succ m q)
       have HLN : Aside0 ((pre ++ kidsTo m q).length ≤ 1010) := ⟨by rw [List.length_append, kidsTo_len]; have := HPL.out; omega⟩
       have HLO : Aside0 ((os ++ (pre ++ kidsTo m q).filter (goodM S)).length ≤ 4010) := ⟨by rw [List.length_append]; have := List.length_filter_le (goodM S) (pre ++ kidsTo m q); have := HLN.out; have := HOL.out; omega⟩
       have HPN := Aside0.mk (plain_snoc HMX.out.2 hK hlt3)
       have HWN := Aside0.mk HRQ.out.bel.size
       have hxl : (m ++ [(q : Int)]).length ≤ 4 := by rw [snoc_len]; omega
       generalize hx : m ++ [(q : Int)] = x at *
       have HX := Aside0.mk hx
       clear hx
       cases hg : goodM S x with
       | true =>
        have HGD := Aside0.mk hg
        have HFS := Aside0.mk (filter_snoc (goodM S) (pre ++ kidsTo m q) x)
        clear hg
        go_wp2_with (first
         | (go_at_call 91; refine (cloneM_calls Am cm m _ HMm.out.C HMc.out (by omega)).mono ?_; rintro e w1 ⟨v1, rfl, ho1, hb1⟩; have HO1 := Aside0.mk ho1; have HB1 := Aside0.mk hb1; clear ho1 hb1)
         | ((with_reducible refine gate_builtin (b := .append) (xs := #[.tmp 37, .tmp 39]) rfl ?_); at_builtin; refine Kd.R_append (Kd.int .i8) (w0 := wr) wr.heap.size rfl (.tmp 37) (.tmp 39) 47 22 (.int .i8 0) 1 rfl Try.underlying47 infoI8 rfl (by decide) (by omega) v1 m (q : Int) [.int .i8 (q : Int)] (fun _ => True) (fun _ => False) rfl rfl rfl (fun _ hk => hk.elim) (fun _ _ => trivial) HO1.out HB1.out HB1.out.size (by omega) ?_; intro v2 w2 ho2 hb2 hg2 hat2; rw [HX.out] at ho2; obtain ⟨A2, c2, rfl, hc2, hrd2⟩ := RdI.of_own ho2 (by omega); have HO2 := Aside0.mk ho2; have HB2 := Aside0.mk hb2; have HC2 := Aside0.mk hc2; have HRD2 := Aside0.mk hrd2; clear ho2 hb2 hg2 hat2 hc2 hrd2)
         | ((with_reducible refine gate_builtin (b := .append) (xs := #[.tmp 41, .tmp 43]) rfl ?_); at_builtin; obtain ⟨ss, hs1, hs2, hs3⟩ := (HRQ.out.below HB2.out).next; refine Kd.R_append kdH (w0 := w) w.heap.size rfl (.tmp 41) (.tmp 43) 68 47 (.slice none 0 0) 24 rfl Try.underlying68 infoM rfl (by decide) (by decide) u6 ss (A2, x.length, c2) [.slice A2 x.length c2] (fun _ => True) (fun _ => False) rfl rfl rfl (fun _ hk => hk.elim) (fun _ _ => trivial) hs2 (HRQ.out.bel.trans (HB2.out.mono HRQ.out.bel.size)) (Nat.le_trans HRQ.out.bel.size HB2.out.size) (by rw [hs1]; have := HLN.out; omega) ?_; intro v6n w3 ho3 hb3 hg3 hat3; have hrw2 := HRQ.out.below HB2.out; have HRW3 := Aside0.mk (hrw2.pushNext hs1 hs2 hs3 hg3 hat3 hb3 HC2.out HRD2.out ho3); have HRD3 := Aside0.mk (HRD2.out.grown hg3 hrw2.next.typed); have HM3 := Aside0.mk ((HMm.out.below HB2.out).grown hg3 hrw2.next.typed); have HO3 := Aside0.mk (Kd.R_over' HO2.out hrw2.next.typed (fun q hq => by simp [Kd.int, Kd.scalar] at hq; subst hq; decide) hg3); clear hs1 hs2 hs3 ho3 hb3 hg3 hat3 hrw2)
         | ((with_reducible refine gt_load 105 ?_); refine st_loadRow rfl 105 _ rfl rfl (HRW3.out.row (g := g4) (List.mem_cons_of_mem _ (List.mem_cons_self ..))) agg105 (evenL_length 1 (S : Int) (by omega)) ?_)
         | (go_at_call 92; refine (goodFirst_calls A2 c2 x S _ HRD3.out.C HC2.out HPN.out (by omega) (by omega)).mono ?_; rw [HGD.out]; rintro e w4 ⟨v4, rfl, hb4⟩; have HB4 := Aside0.mk hb4; clear hb4)
         | ((with_reducible refine gate_builtin (b := .append) (xs := #[.tmp 52, .tmp 54]) rfl ?_); at_builtin; obtain ⟨hp1, hp2, hp3, hp4⟩ := (HRW3.out.below HB4.out).give (own_later HO3.out (FrB.below (B := []) HB4.out) (by simp)) HWN.out; refine Kd.S_append kM (w0 := w) w.heap.size rfl (.tmp 52) (.tmp 54) 68 47 (.slice none 0 0) 24 rfl Try.underlying68 infoM rfl (by decide) (by decide) u3 _ x [.slice A2 x.length c2] _ _ rfl rfl hp1 hp2 hp3 hp4 (HRW3.out.below HB4.out).bel (HRW3.out.below HB4.out).bel.size (by have := HLO.out; omega) ?_; intro v3n w5 ho5 hb5 hg5 hat5; have HRW5 := Aside0.mk ((HRW3.out.below HB4.out).pushOut hg5 hb5 ho5); have HM5 := Aside0.mk ((HM3.out.below HB4.out).grown hg5 (Kd.S_typed (HRW3.out.below HB4.out).out)); clear hp1 hp2 hp3 hp4 ho5 hb5 hg5 hat5))
        go_roundw
        case rel => exact ⟨q + 1, by omega, by go_num, ⟨by
         have h9 := HRW5.out
         rw [HKS.out, ← List.append_assoc, HFS.out, HGD.out, if_pos rfl, ← List.append_assoc]
         exact h9⟩, HM5⟩
        case measure => simp [intOf]; omega
       | false =>
        have HGD := Aside0.mk hg
        have HFS := Aside0.mk (filter_snoc (goodM S) (pre ++ kidsTo m q) x)
        clear hg
        go_wp2_with (first
         | (go_at_call 91; refine (cloneM_calls Am cm m _ HMm.out.C HMc.out (by omega)).mono ?_; rintro e w1 ⟨v1, rfl, ho1, hb1⟩; have HO1 := Aside0.mk ho1; have HB1 := Aside0.mk hb1; clear ho1 hb1)
         | ((with_reducible refine gate_builtin (b := .append) (xs := #[.tmp 37, .tmp 39]) rfl ?_); at_builtin; refine Kd.R_append (Kd.int .i8) (w0 := wr) wr.heap.size rfl (.tmp 37) (.tmp 39) 47 22 (.int .i8 0) 1 rfl Try.underlying47 infoI8 rfl (by decide) (by omega) v1 m (q : Int) [.int .i8 (q : Int)] (fun _ => True) (fun _ => False) rfl rfl rfl (fun _ hk => hk.elim) (fun _ _ => trivial) HO1.out HB1.out HB1.out.size (by omega) ?_; intro v2 w2 ho2 hb2 hg2 hat2; rw [HX.out] at ho2; obtain ⟨A2, c2, rfl, hc2, hrd2⟩ := RdI.of_own ho2 (by omega); have HO2 := Aside0.mk ho2; have HB2 := Aside0.mk hb2; have HC2 := Aside0.mk hc2; have HRD2 := Aside0.mk hrd2; clear ho2 hb2 hg2 hat2 hc2 hrd2)
         | ((with_reducible refine gate_builtin (b := .append) (xs := #[.tmp 41, .tmp 43]) rfl ?_); at_builtin; obtain ⟨ss, hs1, hs2, hs3⟩ := (HRQ.out.below HB2.out).next; refine Kd.R_append kdH (w0 := w) w.heap.size rfl (.tmp 41) (.tmp 43) 68 47 (.slice none 0 0) 24 rfl Try.underlying68 infoM rfl (by decide) (by decide) u6 ss (A2, x.length, c2) [.slice A2 x.length c2] (fun _ => True) (fun _ => False) rfl rfl rfl (fun _ hk => hk.elim) (fun _ _ => trivial) hs2 (HRQ.out.bel.trans (HB2.out.mono HRQ.out.bel.size)) (Nat.le_trans HRQ.out.bel.size HB2.out.size) (by rw [hs1]; have := HLN.out; omega) ?_; intro v6n w3 ho3 hb3 hg3 hat3; have hrw2 := HRQ.out.below HB2.out; have HRW3 := Aside0.mk (hrw2.pushNext hs1 hs2 hs3 hg3 hat3 hb3 HC2.out HRD2.out ho3); have HRD3 := Aside0.mk (HRD2.out.grown hg3 hrw2.next.typed); have HM3 := Aside0.mk ((HMm.out.below HB2.out).grown hg3 hrw2.next.typed); have HO3 := Aside0.mk (Kd.R_over' HO2.out hrw2.next.typed (fun q hq => by simp [Kd.int, Kd.scalar] at hq; subst hq; decide) hg3); clear hs1 hs2 hs3 ho3 hb3 hg3 hat3 hrw2)
         | ((with_reducible refine gt_load 105 ?_); refine st_loadRow rfl 105 _ rfl rfl (HRW3.out.row (g := g4) (List.mem_cons_of_mem _ (List.mem_cons_self ..))) agg105 (evenL_length 1 (S : Int) (by omega)) ?_)
         | (go_at_call 92; refine (goodFirst_calls A2 c2 x S _ HRD3.out.C HC2.out HPN.out (by omega) (by omega)).mono ?_; rw [HGD.out]; rintro e w4 ⟨v4, rfl, hb4⟩; have HB4 := Aside0.mk hb4; clear hb4))
        go_roundw
        case rel => exact ⟨q + 1, by omega, by go_num, ⟨by
         have h9 := (HRW3.out.below HB4.out).renew
         rw [HKS.out, ← List.append_assoc, HFS.out, HGD.out, if_neg (by simp), List.append_nil]
         exact h9⟩, ⟨HM3.out.below HB4.out⟩⟩
        case measure => simp [intOf]; omega
      ·have HQ := Aside0.mk (show q = K by omega)
       go_wp2_with fail
       go_roundw
       case rel => exact ⟨p + 1, by omega, by go_num, ⟨by
        have h9 := HRQ.out
        rw [HQ.out, ← HPS.out] at h9
        exact h9⟩⟩
       case measure => simp [intOf]; omega
    ·have HP := Aside0.mk (show p = ls.length by omega)
     go_wp2_with fail
     go_roundw
     case rel => exact ⟨i + 1, by omega, by go_num, ⟨by
      have h9 := HRM.out.two
      rw [HP.out, List.take_length, ← HLS.out, ← HOS.out] at h9
      exact h9⟩⟩
     case measure => simp [intOf]; omega
  ·have HI := Aside0.mk (show i = L by omega)
   go_wp2_with fail
   go_ret
   exact ⟨_, rfl, by rw [← HI.out]; exact Kd.S_mono HR2.out.out fun _ _ => trivial, HR2.out.bel⟩
end Go.Proofs.Ytckpfodpfplaeaa.Arr
namespace Go.Proofs.Ytckpfodpfplaeaa.Arr
open Go.RowKit Go.Proofs.YtckpfodpfplaeaaW.PrintWords Go.Proofs.YtckpfodpfplaeaaW.PrintLast Go.Proofs.YtckpfodpfplaeaaW.PrintMore Go.Proofs.Ytckpfodpfplaeaa.U Go.Proofs.Ytckpfodpfplaeaa.D
set_option linter.unusedVariables false
set_option linter.unusedSimpArgs false
set_option maxHeartbeats 16000000 in
set_option maxRecDepth 100000 in
theorem specMeanings_calls (K L S : Nat) (A3 : Option Addr) (n3 c3 g1 : Nat) (w : World) (hbk : w.heap[g1]? = some (.cells #[.int .i8 (K : Int), .int .i8 (L : Int), .int .i8 (S : Int), .slice A3 n3 c3] 27 (0, 0))) (hK0 : 1 ≤ K) (hK : K ≤ 10) (hL : L ≤ 3) (hS : S ≤ 4) :
  Calls Try.prog 50 #[.pointer (some ⟨g1, 0, none⟩)] w fun e w' => ∃ v, e = .returned v ∧ Kd.S kM 47 w' w.heap.size (fun _ => True) v (outL K S L) ∧ Below w.heap.size w w' := by
 have hm := Mem.start w
 have hwS : wrap64 (S : Int) = (S : Int) := w64 (by omega) (by omega)
 have HBK := Aside0.mk hbk
 clear hbk
 go_enter Try.func50, Try.ntmps50
 go_wp2_with (first
  | ((with_reducible refine gate_dst (N := 12) rfl ?_); refine st_litv rfl (N := 12) (n := 0) rfl hm (cs := #[]) (e := 47) ?hr12 ?_; (case hr12 => first | (go_simp; done) | (go_simp; rfl)); clear hm; intro g12 w12 hm)
  | ((with_reducible refine gate_dst (N := 13) rfl ?_); refine st_litv rfl (N := 13) (n := 0) rfl hm (cs := #[]) (e := 22) ?hr13 ?_; (case hr13 => first | (go_simp; done) | (go_simp; rfl)); clear hm; intro g13 w13 hm)
  | ((with_reducible refine gate_dst (N := 14) rfl ?_); refine st_litv rfl (N := 14) (n := 1) rfl hm (cs := #[.slice (some ⟨g13, 0, none⟩) 0 0]) (e := 47) ?hr14 ?_; (case hr14 => first | (go_simp; done) | (go_simp; rfl)); clear hm; intro g14 w14 hm))
 have h12 := hm.mem (n := 2) rfl
 have h14 := hm.mem (n := 0) rfl
 have o12 := hm.own_ge 2 rfl
 have o14 := hm.own_ge 0 rfl
 have n12 := hm.ne 2 0 (by decide) rfl rfl
 have HR0 : Aside0 (Rows2 w [(g1, #[.int .i8 (K : Int), .int .i8 (L : Int), .int .i8 (S : Int), .slice A3 n3 c3], 27)] w14 (.slice (some ⟨g12, 0, none⟩) 0 0) (.slice (some ⟨g14, 0, none⟩) 1 1) [] [[]]) := ⟨S_block0 h12 o12 ⟨by simp [Value.ownBlock]; exact n12, lt_of_some h12⟩, Ls_block1 h14 o14, fun b hb => by
  rw [List.mem_singleton] at hb
  subst hb
  exact ⟨((hm.done rfl).block _ (lt_of_some HBK.out)).trans HBK.out, ne27⟩, hm.done rfl⟩
 clear h12 h14 o12 o14 n12 hm
 go_loopw [5, 3, 4, 6, 7, 8, 9, 10, 11] (fun v5 v3 v4 _ _ _ _ _ _ wr => ∃ i : Nat, i ≤ L ∧ v5 = .int .i8 ((i : Int) + 1) ∧ Aside0 (Rows2 w [(g1, #[.int .i8 (K : Int), .int .i8 (L : Int), .int .i8 (S : Int), .slice A3 n3 c3], 27)] wr v3 v4 (outL K S i) (lastL K i))) (fun v5 _ _ _ _ _ _ _ _ _ => L + 1 - (intOf v5).toNat)
 case atStart => exact ⟨0, by omega, by simp, HR0⟩
 case round =>
  clear HR0
  obtain ⟨i, hi, rfl, HR2⟩ := hrel
  obtain ⟨wo, rfl⟩ : ∃ wo : World, wo = wr := ⟨_, rfl⟩
  have hcL := HR2.out.cell (g := g1) (List.mem_cons_self ..) 1
  simp only [List.getElem?_toArray, List.getElem?_cons_zero, List.getElem?_cons_succ] at hcL
  by_cases hlt : i < L
  ·have HMEM := Aside0.mk (lastL_mem K i)
   have hll := lastL_le2 K hK i (by omega)
   have hdL := decide_eq_true (show (i : Int) + 1 ≤ (L : Int) by omega)
   have HOL := Aside0.mk (outL_le K S hK i (by omega))
   have HOS := Aside0.mk (show outL K S (i + 1) = outL K S i ++ (lastL K (i + 1)).filter (goodM S) from rfl)
   have HLS := Aside0.mk (show lastL K (i + 1) = (lastL K i).flatMap (fun m => kidsTo m K) from rfl)
   have HR3 := Aside0.mk HR2.out.three.renew
   obtain ⟨A5, c5, rfl, hc5⟩ := HR2.out.last.slice
   have hwi : IntKind.i8.wrap (((i : Int) + 1) + 1) = ((i : Int) + 1) + 1 := i8w (by omega) (by omega)
   generalize lastL K i = ls at *
   generalize outL K S i = os at *
   go_wp2_with fail
   go_loopw [7, 3, 6, 8, 9, 10, 11] (fun v7 v3 v6 _ _ _ _ wr => ∃ p : Nat, p ≤ ls.length ∧ v7 = .int .i64 p ∧ Aside0 (Rows w wr.heap.size [(g1, #[.int .i8 (K : Int), .int .i8 (L : Int), .int .i8 (S : Int), .slice A3 n3 c3], 27)] wr v3 (.slice A5 ls.length c5) v6 (os ++ ((ls.take p).flatMap (fun m => kidsTo m K)).filter (goodM S)) ls ((ls.take p).flatMap (fun m => kidsTo m K)))) (fun v7 _ _ _ _ _ _ _ => ls.length - (intOf v7).toNat)
   case atStart => exact ⟨0, by omega, rfl, ⟨by simpa using HR3.out⟩⟩
   case round =>
    clear HR3
    obtain ⟨p, hp, rfl, HRM⟩ := hrel
    obtain ⟨wm, rfl⟩ : ∃ wm : World, wm = wr := ⟨_, rfl⟩
    by_cases hlt2 : p < ls.length
    ·have HPS := Aside0.mk (flat_take_succ ls K p hlt2)
     have hpl := flat_len K (ls.take p)
     have HMX := Aside0.mk (HMEM.out ls[p] (List.getElem_mem hlt2))
     have hml : ls[p].length = i := HMX.out.1
     have HPL : Aside0 (((ls.take p).flatMap fun m => kidsTo m K).length ≤ 1000) := ⟨by
      rw [hpl, List.length_take]
      have : min p ls.length * K ≤ 100 * 10 := Nat.mul_le_mul (by omega) hK
      omega⟩
     clear hpl
     have hml2 : ls[p].length ≤ 3 := by omega
     clear hml
     generalize hmq : ls[p] = m at *
     have HMQ := Aside0.mk hmq
     clear hmq
     generalize (ls.take p).flatMap (fun m => kidsTo m K) = pre at *
     go_wp2_with fail
     go_loopw [8, 3, 6, 9, 10, 11] (fun v8 v3 v6 _ _ _ wr => ∃ q : Nat, q ≤ K ∧ v8 = .int .i8 q ∧ Aside0 (Rows w wr.heap.size [(g1, #[.int .i8 (K : Int), .int .i8 (L : Int), .int .i8 (S : Int), .slice A3 n3 c3], 27)] wr v3 (.slice A5 ls.length c5) v6 (os ++ (pre ++ kidsTo m q).filter (goodM S)) ls (pre ++ kidsTo m q))) (fun v8 _ _ _ _ _ _ => K - (intOf v8).toNat)
     case atStart => exact ⟨0, by omega, rfl, ⟨by simpa [kidsTo] using HRM.out⟩⟩
     case round =>
      clear HRM
      obtain ⟨q, hq, rfl, HRQ⟩ := hrel
      have hcKq := HRQ.out.cell (g := g1) (List.mem_cons_self ..) 0
      simp only [List.getElem?_toArray, List.getElem?_cons_zero, List.getElem?_cons_succ] at hcKq
      obtain ⟨ad, c6, Am, cm, e5, hcell, hcm, hrd⟩ := HRQ.out.last.at_ p hlt2
      cases e5
      rw [HMQ.out] at hcell hcm hrd
      have HMm := Aside0.mk hrd
      have HMc := Aside0.mk hcm
      have HCELL := Aside0.mk hcell
      have HKB := Aside0.mk (HRQ.out.row (g := g1) (List.mem_cons_self ..))
      clear hcell hcm hrd
      by_cases hlt3 : q < K
      ·have hwq : IntKind.i8.wrap ((q : Int) + 1) = (q : Int) + 1 := i8w (by omega) (by omega)
       have HKS := Aside0.mk (kidsTo_succ m q)
       have HLN : Aside0 ((pre ++ kidsTo m q).length ≤ 1010) := ⟨by rw [List.length_append, kidsTo_len]; have := HPL.out; omega⟩
       have HLO : Aside0 ((os ++ (pre ++ kidsTo m q).filter (goodM S)).length ≤ 4010) := ⟨by rw [List.length_append]; have := List.length_filter_le (goodM S) (pre ++ kidsTo m q); have := HLN.out; have := HOL.out; omega⟩
       have HPN := Aside0.mk (plain_snoc HMX.out.2 hK hlt3)
       have HWN := Aside0.mk HRQ.out.bel.size
       have HSM : Aside0 (Small8 (m ++ [(q : Int)])) := ⟨by rw [snoc_len]; omega, fun y hy => by have := HPN.out y hy; unfold PlainN at this; omega⟩
       have HCC := Aside0.mk (hoistW_flags S (flags_snoc HMX.out.2 hK hlt3) (by rw [snoc_len]; omega) (by rw [snoc_len]; omega) hS)
       have hxl : (m ++ [(q : Int)]).length ≤ 4 := by rw [snoc_len]; omega
       generalize hx : m ++ [(q : Int)] = x at *
       have HX := Aside0.mk hx
       clear hx
       cases hg : goodM S x with
       | true =>
        have HGD := Aside0.mk hg
        rw [hg] at HCC
        have HCD : Aside0 ((hoistW x 1 (S : Int)).2 = 0) := ⟨HCC.out⟩
        have HFS := Aside0.mk (filter_snoc (goodM S) (pre ++ kidsTo m q) x)
        clear hg
        go_wp2_with (first
         | ((with_reducible refine gate_dst (N := 38) rfl ?_); refine Kd.R_lit (Kd.int .i8) wr.heap.size 22 ?hg (N := 38) ?hd (xs := ([] : List Int)) (inner := []) (ok := fun _ => True) (okp := fun _ => True) ?hr ?hp (fun _ hk => hk) trivial (Below.refl _ _) (Nat.le_refl _) (by simp) ?_; (case hd => rfl); (case hg => rfl); (case hr => first | (go_simp; done) | (go_simp; rfl)); (case hp => exact (Reps.none _ _)); intro v0 w0 ho0 hb0 _ _; have HO0 := Aside0.mk ho0; have HB0 := Aside0.mk hb0; have hcA := (hb0.cell (World.block_lt_of_cell? wr _ HCELL.out)).trans HCELL.out; clear ho0 hb0)
         | ((with_reducible refine gate_builtin (b := .append) (xs := #[.tmp 38, .tmp 42]) rfl ?_); at_builtin; refine Kd.R_append_rows (Kd.int .i8) (w0 := wr) wr.heap.size rfl (.tmp 38) (.tmp 42) 47 22 (.int .i8 0) 1 rfl Try.underlying47 infoI8 rfl (by decide) (by omega) v0 [] m Am m.length cm (fun _ => True) (fun _ => False) rfl rfl HO0.out (HMm.out.below HB0.out).C (fun _ _ h => h) (fun _ h => h.elim) (fun _ _ => trivial) HB0.out HB0.out.size (by simp; omega) ?_; intro v1 w1 ho1 hb1 _ _; have HO1 := Aside0.mk ho1; have HB1 := Aside0.mk hb1; clear ho1 hb1)
         | ((with_reducible refine gate_builtin (b := .append) (xs := #[.tmp 43, .tmp 45]) rfl ?_); at_builtin; refine Kd.R_append (Kd.int .i8) (w0 := wr) wr.heap.size rfl (.tmp 43) (.tmp 45) 47 22 (.int .i8 0) 1 rfl Try.underlying47 infoI8 rfl (by decide) (by omega) v1 m (q : Int) [.int .i8 (q : Int)] (fun _ => True) (fun _ => False) rfl rfl rfl (fun _ hk => hk.elim) (fun _ _ => trivial) HO1.out HB1.out HB1.out.size (by omega) ?_; intro v2 w2 ho2 hb2 hg2 hat2; rw [HX.out] at ho2; obtain ⟨A2, c2, rfl, hc2, hrd2⟩ := RdI.of_own ho2 (by omega); have HO2 := Aside0.mk ho2; have HB2 := Aside0.mk hb2; have HC2 := Aside0.mk hc2; have HRD2 := Aside0.mk hrd2; clear ho2 hb2 hg2 hat2 hc2 hrd2)
         | (((with_reducible refine gate_builtin (b := .append) (xs := #[.tmp 47, .tmp 49]) rfl ?_); at_builtin; obtain ⟨ss, hs1, hs2, hs3⟩ := (HRQ.out.below HB2.out).next; refine Kd.R_append kdH (w0 := w) w.heap.size rfl (.tmp 47) (.tmp 49) 68 47 (.slice none 0 0) 24 rfl Try.underlying68 infoM rfl (by decide) (by decide) u6 ss (A2, x.length, c2) [.slice A2 x.length c2] (fun _ => True) (fun _ => False) rfl rfl rfl (fun _ hk => hk.elim) (fun _ _ => trivial) hs2 (HRQ.out.bel.trans (HB2.out.mono HRQ.out.bel.size)) (Nat.le_trans HRQ.out.bel.size HB2.out.size) (by rw [hs1]; have := HLN.out; omega) ?_; intro v6n w3 ho3 hb3 hg3 hat3; have hrw2 := HRQ.out.below HB2.out; have HRW3 := Aside0.mk (hrw2.pushNext hs1 hs2 hs3 hg3 hat3 hb3 HC2.out HRD2.out ho3); have HRD3 := Aside0.mk (HRD2.out.grown hg3 hrw2.next.typed); have HM3 := Aside0.mk ((HMm.out.below HB2.out).grown hg3 hrw2.next.typed); have HO3 := Aside0.mk (Kd.R_over' HO2.out hrw2.next.typed (fun q hq => by simp [Kd.int, Kd.scalar] at hq; subst hq; decide) hg3); clear hs1 hs2 hs3 ho3 hb3 hg3 hat3 hrw2); have hcS := HRW3.out.cell (g := g1) (List.mem_cons_self ..) 2; simp only [List.getElem?_toArray, List.getElem?_cons_zero, List.getElem?_cons_succ] at hcS)
         | (go_at_call 74; refine (specHoistFor_calls A2 c2 x 1 (S : Int) _ HRD3.out.C HC2.out HSM.out).mono ?_; rw [HCD.out]; rintro e w4 ⟨v4, rfl, _, hb4⟩; have HB4 := Aside0.mk hb4; clear hb4)
         | ((with_reducible refine gate_builtin (b := .append) (xs := #[.tmp 63, .tmp 65]) rfl ?_); at_builtin; obtain ⟨hp1, hp2, hp3, hp4⟩ := (HRW3.out.below HB4.out).give (own_later HO3.out (FrB.below (B := []) HB4.out) (by simp)) HWN.out; refine Kd.S_append kM (w0 := w) w.heap.size rfl (.tmp 63) (.tmp 65) 68 47 (.slice none 0 0) 24 rfl Try.underlying68 infoM rfl (by decide) (by decide) u3 _ x [.slice A2 x.length c2] _ _ rfl rfl hp1 hp2 hp3 hp4 (HRW3.out.below HB4.out).bel (HRW3.out.below HB4.out).bel.size (by have := HLO.out; omega) ?_; intro v3n w5 ho5 hb5 hg5 hat5; have HRW5 := Aside0.mk ((HRW3.out.below HB4.out).pushOut hg5 hb5 ho5); have HM5 := Aside0.mk ((HM3.out.below HB4.out).grown hg5 (Kd.S_typed (HRW3.out.below HB4.out).out)); clear hp1 hp2 hp3 hp4 ho5 hb5 hg5 hat5))
        go_roundw
        case rel => exact ⟨q + 1, by omega, by go_num, ⟨by
         have h9 := HRW5.out
         rw [HKS.out, ← List.append_assoc, HFS.out, HGD.out, if_pos rfl, ← List.append_assoc]
         exact h9⟩⟩
        case measure => simp [intOf]; omega
       | false =>
        have HGD := Aside0.mk hg
        rw [hg] at HCC
        have HCD : Aside0 ((hoistW x 1 (S : Int)).2 = 6) := ⟨HCC.out⟩
        have HFS := Aside0.mk (filter_snoc (goodM S) (pre ++ kidsTo m q) x)
        clear hg
        go_wp2_with (first
         | ((with_reducible refine gate_dst (N := 38) rfl ?_); refine Kd.R_lit (Kd.int .i8) wr.heap.size 22 ?hg (N := 38) ?hd (xs := ([] : List Int)) (inner := []) (ok := fun _ => True) (okp := fun _ => True) ?hr ?hp (fun _ hk => hk) trivial (Below.refl _ _) (Nat.le_refl _) (by simp) ?_; (case hd => rfl); (case hg => rfl); (case hr => first | (go_simp; done) | (go_simp; rfl)); (case hp => exact (Reps.none _ _)); intro v0 w0 ho0 hb0 _ _; have HO0 := Aside0.mk ho0; have HB0 := Aside0.mk hb0; have hcA := (hb0.cell (World.block_lt_of_cell? wr _ HCELL.out)).trans HCELL.out; clear ho0 hb0)
         | ((with_reducible refine gate_builtin (b := .append) (xs := #[.tmp 38, .tmp 42]) rfl ?_); at_builtin; refine Kd.R_append_rows (Kd.int .i8) (w0 := wr) wr.heap.size rfl (.tmp 38) (.tmp 42) 47 22 (.int .i8 0) 1 rfl Try.underlying47 infoI8 rfl (by decide) (by omega) v0 [] m Am m.length cm (fun _ => True) (fun _ => False) rfl rfl HO0.out (HMm.out.below HB0.out).C (fun _ _ h => h) (fun _ h => h.elim) (fun _ _ => trivial) HB0.out HB0.out.size (by simp; omega) ?_; intro v1 w1 ho1 hb1 _ _; have HO1 := Aside0.mk ho1; have HB1 := Aside0.mk hb1; clear ho1 hb1)
         | ((with_reducible refine gate_builtin (b := .append) (xs := #[.tmp 43, .tmp 45]) rfl ?_); at_builtin; refine Kd.R_append (Kd.int .i8) (w0 := wr) wr.heap.size rfl (.tmp 43) (.tmp 45) 47 22 (.int .i8 0) 1 rfl Try.underlying47 infoI8 rfl (by decide) (by omega) v1 m (q : Int) [.int .i8 (q : Int)] (fun _ => True) (fun _ => False) rfl rfl rfl (fun _ hk => hk.elim) (fun _ _ => trivial) HO1.out HB1.out HB1.out.size (by omega) ?_; intro v2 w2 ho2 hb2 hg2 hat2; rw [HX.out] at ho2; obtain ⟨A2, c2, rfl, hc2, hrd2⟩ := RdI.of_own ho2 (by omega); have HO2 := Aside0.mk ho2; have HB2 := Aside0.mk hb2; have HC2 := Aside0.mk hc2; have HRD2 := Aside0.mk hrd2; clear ho2 hb2 hg2 hat2 hc2 hrd2)
         | (((with_reducible refine gate_builtin (b := .append) (xs := #[.tmp 47, .tmp 49]) rfl ?_); at_builtin; obtain ⟨ss, hs1, hs2, hs3⟩ := (HRQ.out.below HB2.out).next; refine Kd.R_append kdH (w0 := w) w.heap.size rfl (.tmp 47) (.tmp 49) 68 47 (.slice none 0 0) 24 rfl Try.underlying68 infoM rfl (by decide) (by decide) u6 ss (A2, x.length, c2) [.slice A2 x.length c2] (fun _ => True) (fun _ => False) rfl rfl rfl (fun _ hk => hk.elim) (fun _ _ => trivial) hs2 (HRQ.out.bel.trans (HB2.out.mono HRQ.out.bel.size)) (Nat.le_trans HRQ.out.bel.size HB2.out.size) (by rw [hs1]; have := HLN.out; omega) ?_; intro v6n w3 ho3 hb3 hg3 hat3; have hrw2 := HRQ.out.below HB2.out; have HRW3 := Aside0.mk (hrw2.pushNext hs1 hs2 hs3 hg3 hat3 hb3 HC2.out HRD2.out ho3); have HRD3 := Aside0.mk (HRD2.out.grown hg3 hrw2.next.typed); have HM3 := Aside0.mk ((HMm.out.below HB2.out).grown hg3 hrw2.next.typed); have HO3 := Aside0.mk (Kd.R_over' HO2.out hrw2.next.typed (fun q hq => by simp [Kd.int, Kd.scalar] at hq; subst hq; decide) hg3); clear hs1 hs2 hs3 ho3 hb3 hg3 hat3 hrw2); have hcS := HRW3.out.cell (g := g1) (List.mem_cons_self ..) 2; simp only [List.getElem?_toArray, List.getElem?_cons_zero, List.getElem?_cons_succ] at hcS)
         | (go_at_call 74; refine (specHoistFor_calls A2 c2 x 1 (S : Int) _ HRD3.out.C HC2.out HSM.out).mono ?_; rw [HCD.out]; rintro e w4 ⟨v4, rfl, _, hb4⟩; have HB4 := Aside0.mk hb4; clear hb4))
        go_roundw
        case rel => exact ⟨q + 1, by omega, by go_num, ⟨by
         have h9 := (HRW3.out.below HB4.out).renew
         rw [HKS.out, ← List.append_assoc, HFS.out, HGD.out, if_neg (by simp), List.append_nil]
         exact h9⟩⟩
        case measure => simp [intOf]; omega
      ·have HQ := Aside0.mk (show q = K by omega)
       go_wp2_with fail
       go_roundw
       case rel => exact ⟨p + 1, by omega, by go_num, ⟨by
        have h9 := HRQ.out
        rw [HQ.out, ← HPS.out] at h9
        exact h9⟩⟩
       case measure => simp [intOf]; omega
    ·have HP := Aside0.mk (show p = ls.length by omega)
     go_wp2_with fail
     go_roundw
     case rel => exact ⟨i + 1, by omega, by go_num, ⟨by
      have h9 := HRM.out.two
      rw [HP.out, List.take_length, ← HLS.out, ← HOS.out] at h9
      exact h9⟩⟩
     case measure => simp [intOf]; omega
  ·have HI := Aside0.mk (show i = L by omega)
   go_wp2_with fail
   go_ret
   exact ⟨_, rfl, by rw [← HI.out]; exact Kd.S_mono HR2.out.out fun _ _ => trivial, HR2.out.bel⟩
end Go.Proofs.Ytckpfodpfplaeaa.Arr
namespace Go.Proofs.Ytckpfodpfplaeaa.D
open Go.RowKit Go.Proofs.YtckpfodpfplaeaaW.PrintWords Go.Proofs.YtckpfodpfplaeaaW.PrintLast Go.Proofs.YtckpfodpfplaeaaW.PrintMore
attribute [local go_sem] max2_int min2_int max_two min_two max_three min_three max_four min_four
set_option linter.unusedVariables false
set_option linter.unusedSimpArgs false
def IsS27 (w0 W : World) (g : Nat) (f0 : Int) (f1 : Int) (f2 : Int) (f3 : List ByteArray) : Prop := ∃ A3 c3, W.heap[g]? = some (.cells #[.int .i8 f0, .int .i8 f1, .int .i8 f2, .slice A3 f3.length c3] 27 (0, 0)) ∧ w0.heap.size ≤ g ∧ Kd.C Kd.string w0 A3 f3.length f3
theorem IsS27.grown {w0 W : World} {g : Nat} {f0 : Int} {f1 : Int} {f2 : Int} {f3 : List ByteArray} {W1 : World} {row : Option Nat} (h : IsS27 w0 W g f0 f1 f2 f3) (hw : W.grownBy W1 row) (hne : some g ≠ row) : IsS27 w0 W1 g f0 f1 f2 f3 := by
 obtain ⟨A3, c3, hb, hg, hr3⟩ := h
 exact ⟨A3, c3, blk_grown hb hw hne, hg, hr3⟩
theorem IsS27.below {w0 W : World} {g : Nat} {f0 : Int} {f1 : Int} {f2 : Int} {f3 : List ByteArray} {W1 : World} (h : IsS27 w0 W g f0 f1 f2 f3) (hw : Below W.heap.size W W1) : IsS27 w0 W1 g f0 f1 f2 f3 := h.grown (grown_of_below hw none) (by simp)
theorem IsS27.drewN {w0 W : World} {g : Nat} {f0 : Int} {f1 : Int} {f2 : Int} {f3 : List ByteArray} (h : IsS27 w0 W g f0 f1 f2 f3) (m : Nat) : IsS27 w0 (W.drewN m) g f0 f1 f2 f3 := h
theorem IsS27.drew {w0 W : World} {g : Nat} {f0 : Int} {f1 : Int} {f2 : Int} {f3 : List ByteArray} (h : IsS27 w0 W g f0 f1 f2 f3) : IsS27 w0 W.drew g f0 f1 f2 f3 := h
theorem cellS27_0 {W : World} {g : Nat} {A3 : Option Addr} {c3 : Nat} {f0 : Int} {f1 : Int} {f2 : Int} {f3 : List ByteArray} (h : W.heap[g]? = some (.cells #[.int .i8 f0, .int .i8 f1, .int .i8 f2, .slice A3 f3.length c3] 27 (0, 0))) : W.cell? ⟨g, 0, none⟩ = some (.int .i8 f0) := (blk_cell h 0).trans rfl
theorem cellS27_1 {W : World} {g : Nat} {A3 : Option Addr} {c3 : Nat} {f0 : Int} {f1 : Int} {f2 : Int} {f3 : List ByteArray} (h : W.heap[g]? = some (.cells #[.int .i8 f0, .int .i8 f1, .int .i8 f2, .slice A3 f3.length c3] 27 (0, 0))) : W.cell? ⟨g, 1, none⟩ = some (.int .i8 f1) := (blk_cell h 1).trans rfl
theorem cellS27_2 {W : World} {g : Nat} {A3 : Option Addr} {c3 : Nat} {f0 : Int} {f1 : Int} {f2 : Int} {f3 : List ByteArray} (h : W.heap[g]? = some (.cells #[.int .i8 f0, .int .i8 f1, .int .i8 f2, .slice A3 f3.length c3] 27 (0, 0))) : W.cell? ⟨g, 2, none⟩ = some (.int .i8 f2) := (blk_cell h 2).trans rfl
theorem cellS27_3 {W : World} {g : Nat} {A3 : Option Addr} {c3 : Nat} {f0 : Int} {f1 : Int} {f2 : Int} {f3 : List ByteArray} (h : W.heap[g]? = some (.cells #[.int .i8 f0, .int .i8 f1, .int .i8 f2, .slice A3 f3.length c3] 27 (0, 0))) : W.cell? ⟨g, 3, none⟩ = some (.slice A3 f3.length c3) := (blk_cell h 3).trans rfl
theorem IsS27.new (w0 W : World) (A3 : Option Addr) (c3 : Nat) (f0 : Int) (f1 : Int) (f2 : Int) (f3 : List ByteArray) (hB : Below w0.heap.size w0 W) (hr3 : Kd.C Kd.string w0 A3 f3.length f3) : IsS27 w0 (W.alloc (.cells #[.int .i8 f0, .int .i8 f1, .int .i8 f2, .slice A3 f3.length c3] 27)) W.heap.size f0 f1 f2 f3 := ⟨A3, c3, by simpa using heap_alloc_new W _, hB.size, hr3⟩
def spec_l03Find.l0 : Nat → ByteArray → Int → Int → Int → Int → List ByteArray → Option (Int × Int × Int × Int)
 | 0, _, _, _, _, _, _ => none
 | k + 1, x1, x5, x1000, x1001, x1002, x1003 => if x5 < (x1003.length : Int) then (if 0 ≤ x5 then (if (rdOf ByteArray.empty x1003 x5).toList = x1.toList then (some (x5, x1000, x1001, x1002)) else (spec_l03Find.l0 k x1 (wrap64 (x5 + 1)) x1000 x1001 x1002 x1003)) else (none)) else (some ((-1), x1000, x1001, x1002))
def spec_l03Find.f (k : Nat) (s0_0 : Int) (s0_1 : Int) (s0_2 : Int) (s0_3 : List ByteArray) (a1 : ByteArray) : Option (Int × Int × Int × Int) := spec_l03Find.l0 k a1 0 s0_0 s0_1 s0_2 s0_3
set_option maxHeartbeats 8000000 in
set_option maxRecDepth 100000 in
theorem spec_l03Find.calls (k : Nat) (g : Nat) (s0_0 : Int) (s0_1 : Int) (s0_2 : Int) (s0_3 : List ByteArray) (a1 : ByteArray) (r1 : Int) (r2 : Int) (r3 : Int) (r4 : Int) (w0 w : World) (hI : IsS27 w0 w g s0_0 s0_1 s0_2 s0_3) (hB : Below w0.heap.size w0 w) (h : spec_l03Find.f k s0_0 s0_1 s0_2 s0_3 a1 = some (r1, r2, r3, r4)) :
  Calls Try.prog 49 #[.pointer (some ⟨g, 0, none⟩), .string a1] w fun e w' => e = .returned (.int .i64 r1) ∧ IsS27 w0 w' g r2 r3 r4 s0_3 ∧ Below w0.heap.size w0 w' ∧ KeepBut w w' g none := by
 have HI0 := Aside0.mk hI
 have HK := Aside0.mk (KeepBut.refl w g none)
 have HL := Aside0.mk hB.size
 clear hI
 have HW0 := Aside0.mk hB.size
 have HB := Aside0.mk hB
 clear hB
 have H : (spec_l03Find.l0 k a1 0 s0_0 s0_1 s0_2 s0_3) = some (r1, r2, r3, r4) := h
 clear h
 have H' := Aside0.mk H
 clear H
 go_enter Try.func49, Try.ntmps49
 go_wp2
 go_loopg [5] k (fun kq v5 w' => ∃ (x5_1 : Int), v5 = .int .i64 x5_1 ∧ Aside0 (spec_l03Find.l0 kq a1 x5_1 s0_0 s0_1 s0_2 s0_3 = some (r1, r2, r3, r4)) ∧ Aside0 (kq ≤ k) ∧ Aside0 (IsS27 w0 w' g s0_0 s0_1 s0_2 s0_3) ∧ Aside0 (KeepBut w w' g none) ∧ Aside0 (Below w0.heap.size w0 w'))
 case atStart => exact ⟨(0), (by first | rfl | (simp; done) | (simp [*]; done)), H', ⟨Nat.le_refl _⟩, ⟨by repeat (first | (with_reducible first | exact HI0.out | apply IsS27.alloc | apply IsS27.drewN | apply IsS27.drew | apply IsS27.set_0 | apply IsS27.set_1 | apply IsS27.set_2) | exact HI0.out)⟩, ⟨by repeat (first | (with_reducible first | exact HK.out | apply KeepBut.set_ | apply keep_drewN | apply keep_drew | apply keep_alloc) | exact HK.out)⟩, ⟨by repeat (first | (with_reducible first | exact HB.out | apply below_alloc | apply pw_below_drewN | apply below_drew1 | refine below_set ?_ (IsS27.ge HI0.out)) | exact HB.out)⟩⟩
 case round =>
  clear H'
  try clear p2
  obtain ⟨x5_1, rfl, HA, HK1, HI0, HK, HB⟩ := hrel
  cases gk with
  | zero => exact absurd HA.out (by simp [spec_l03Find.l0])
  | succ k1 =>
   have H := HA.out
   clear HA
   simp only [spec_l03Find.l0] at H
   by_cases c3 : x5_1 < (s0_3.length : Int)
   ·rw [if_pos c3] at H
    have c3b0 : decide (x5_1 < (s0_3.length : Int)) = true := decide_eq_true c3
    clear c3
    by_cases c4 : 0 ≤ x5_1
    ·rw [if_pos c4] at H
     have c4b0 : decide (0 ≤ x5_1) = true := decide_eq_true c4
     clear c4
     by_cases c5 : (rdOf ByteArray.empty s0_3 x5_1).toList = a1.toList
     ·rw [if_pos c5] at H
      have c5b0 : ((rdOf ByteArray.empty s0_3 x5_1).toList == a1.toList) = true := beq_iff_eq.mpr c5
      have c5b1 : ((rdOf ByteArray.empty s0_3 x5_1).toList != a1.toList) = false := bne_eq_false_iff_eq.mpr c5
      clear c5
      simp only [Option.some.injEq, Prod.mk.injEq] at H
      obtain ⟨rfl, rfl, rfl, rfl⟩ := H
      obtain ⟨ASz6_3, cSz6_3, HGz6, hgz6, HSz6_3⟩ := HI0.out
      have hcz6_0 := cellS27_0 HGz6
      have hcz6_1 := cellS27_1 HGz6
      have hcz6_2 := cellS27_2 HGz6
      have hcz6_3 := cellS27_3 HGz6
      have hfz6_0 := blk_frozen HGz6 0
      have hfz6_1 := blk_frozen HGz6 1
      have hfz6_2 := blk_frozen HGz6 2
      clear HGz6 hgz6
      have p166 : 0 ≤ (x5_1 : Int) := of_decide_eq_true (by first | (with_reducible assumption) | assumption)
      have q166 : x5_1 < (s0_3.length : Int) := of_decide_eq_true (by first | (with_reducible assumption) | assumption)
      obtain ⟨ad166, e166, hx166_0⟩ := Kd.at_string HSz6_3 x5_1 p166 q166
      cases e166
      replace hx166_0 := pw_cell_below HB.out hx166_0
      replace p166 := eq_true p166
      replace q166 := eq_true q166
      go_wp2
      go_ret
      exact ⟨by first | rfl | (simp [errW_none, errW_some] <;> rfl) | (simp [*, errW_none, errW_some] <;> rfl), by repeat (first | (with_reducible first | exact HI0.out | apply IsS27.alloc | apply IsS27.drewN | apply IsS27.drew | apply IsS27.set_0 | apply IsS27.set_1 | apply IsS27.set_2) | exact HI0.out), by repeat (first | (with_reducible first | exact HB.out | apply below_alloc | apply pw_below_drewN | apply below_drew1 | refine below_set ?_ (IsS27.ge HI0.out)) | exact HB.out), by repeat (first | (with_reducible first | exact HK.out | apply KeepBut.set_ | apply keep_drewN | apply keep_drew | apply keep_alloc) | exact HK.out)⟩
     ·rw [if_neg c5] at H
      have c5b0 : ((rdOf ByteArray.empty s0_3 x5_1).toList == a1.toList) = false := beq_eq_false_iff_ne.mpr c5
      have c5b1 : ((rdOf ByteArray.empty s0_3 x5_1).toList != a1.toList) = true := bne_iff_ne.mpr c5
      have H' := Aside0.mk H
      clear H
      obtain ⟨ASz7_3, cSz7_3, HGz7, hgz7, HSz7_3⟩ := HI0.out
      have hcz7_0 := cellS27_0 HGz7
      have hcz7_1 := cellS27_1 HGz7
      have hcz7_2 := cellS27_2 HGz7
      have hcz7_3 := cellS27_3 HGz7
      have hfz7_0 := blk_frozen HGz7 0
      have hfz7_1 := blk_frozen HGz7 1
      have hfz7_2 := blk_frozen HGz7 2
      clear HGz7 hgz7
      have p166 : 0 ≤ (x5_1 : Int) := of_decide_eq_true (by first | (with_reducible assumption) | assumption)
      have q166 : x5_1 < (s0_3.length : Int) := of_decide_eq_true (by first | (with_reducible assumption) | assumption)
      obtain ⟨ad166, e166, hx166_0⟩ := Kd.at_string HSz7_3 x5_1 p166 q166
      cases e166
      replace hx166_0 := pw_cell_below HB.out hx166_0
      replace p166 := eq_true p166
      replace q166 := eq_true q166
      go_wp2
      go_roundg k1
      case measure => have := HK1.out; omega
      case rel => exact ⟨(wrap64 (x5_1 + 1)), (by first | rfl | (simp; done) | (simp [*]; done)), H', ⟨by have := HK1.out; omega⟩, ⟨by repeat (first | (with_reducible first | exact HI0.out | apply IsS27.alloc | apply IsS27.drewN | apply IsS27.drew | apply IsS27.set_0 | apply IsS27.set_1 | apply IsS27.set_2) | exact HI0.out)⟩, ⟨by repeat (first | (with_reducible first | exact HK.out | apply KeepBut.set_ | apply keep_drewN | apply keep_drew | apply keep_alloc) | exact HK.out)⟩, ⟨by repeat (first | (with_reducible first | exact HB.out | apply below_alloc | apply pw_below_drewN | apply below_drew1 | refine below_set ?_ (IsS27.ge HI0.out)) | exact HB.out)⟩⟩
    ·rw [if_neg c4] at H
     exact absurd H (by simp)
   ·rw [if_neg c3] at H
    have c3b0 : decide (x5_1 < (s0_3.length : Int)) = false := decide_eq_false c3
    clear c3
    simp only [Option.some.injEq, Prod.mk.injEq] at H
    obtain ⟨rfl, rfl, rfl, rfl⟩ := H
    obtain ⟨ASz8_3, cSz8_3, HGz8, hgz8, HSz8_3⟩ := HI0.out
    have hcz8_0 := cellS27_0 HGz8
    have hcz8_1 := cellS27_1 HGz8
    have hcz8_2 := cellS27_2 HGz8
    have hcz8_3 := cellS27_3 HGz8
    have hfz8_0 := blk_frozen HGz8 0
    have hfz8_1 := blk_frozen HGz8 1
    have hfz8_2 := blk_frozen HGz8 2
    clear HGz8 hgz8
    go_wp2
    go_ret
    exact ⟨by first | rfl | (simp [errW_none, errW_some] <;> rfl) | (simp [*, errW_none, errW_some] <;> rfl), by repeat (first | (with_reducible first | exact HI0.out | apply IsS27.alloc | apply IsS27.drewN | apply IsS27.drew | apply IsS27.set_0 | apply IsS27.set_1 | apply IsS27.set_2) | exact HI0.out), by repeat (first | (with_reducible first | exact HB.out | apply below_alloc | apply pw_below_drewN | apply below_drew1 | refine below_set ?_ (IsS27.ge HI0.out)) | exact HB.out), by repeat (first | (with_reducible first | exact HK.out | apply KeepBut.set_ | apply keep_drewN | apply keep_drew | apply keep_alloc) | exact HK.out)⟩
def spec_l03Sized.f (s0_0 : Int) (s0_1 : Int) (s0_2 : Int) (s0_3 : List ByteArray) : Option (Bool × Int × Int × Int) := (spec_l00In.f (wrap64 (s0_0)) 1 10).bind fun t167 => (if t167 = true then ((spec_l00In.f (wrap64 (s0_1)) 1 3).bind fun t168 => (if t168 = true then ((spec_l00In.f (wrap64 (s0_2)) 0 4).bind fun t169 => (some (t169, s0_0, s0_1, s0_2))) else (some (false, s0_0, s0_1, s0_2)))) else (some (false, s0_0, s0_1, s0_2)))
set_option maxHeartbeats 8000000 in
set_option maxRecDepth 100000 in
theorem spec_l03Sized.calls (g : Nat) (s0_0 : Int) (s0_1 : Int) (s0_2 : Int) (s0_3 : List ByteArray) (r1 : Bool) (r2 : Int) (r3 : Int) (r4 : Int) (w0 w : World) (hI : IsS27 w0 w g s0_0 s0_1 s0_2 s0_3) (hB : Below w0.heap.size w0 w) (h : spec_l03Sized.f s0_0 s0_1 s0_2 s0_3 = some (r1, r2, r3, r4)) :
  Calls Try.prog 88 #[.pointer (some ⟨g, 0, none⟩)] w fun e w' => e = .returned (.bool r1) ∧ IsS27 w0 w' g r2 r3 r4 s0_3 ∧ Below w0.heap.size w0 w' ∧ KeepBut w w' g none := by
 have HI0 := Aside0.mk hI
 have HK := Aside0.mk (KeepBut.refl w g none)
 have HL := Aside0.mk hB.size
 clear hI
 have HW0 := Aside0.mk hB.size
 have HB := Aside0.mk hB
 clear hB
 have H : ((spec_l00In.f (wrap64 (s0_0)) 1 10).bind fun t167 => (if t167 = true then ((spec_l00In.f (wrap64 (s0_1)) 1 3).bind fun t168 => (if t168 = true then ((spec_l00In.f (wrap64 (s0_2)) 0 4).bind fun t169 => (some (t169, s0_0, s0_1, s0_2))) else (some (false, s0_0, s0_1, s0_2)))) else (some (false, s0_0, s0_1, s0_2)))) = some (r1, r2, r3, r4) := h
 clear h
 replace H := Option.bind_eq_some_iff.mp H
 obtain ⟨t167, A20, H⟩ := H
 replace H : (if t167 = true then ((spec_l00In.f (wrap64 (s0_1)) 1 3).bind fun t168 => (if t168 = true then ((spec_l00In.f (wrap64 (s0_2)) 0 4).bind fun t169 => (some (t169, s0_0, s0_1, s0_2))) else (some (false, s0_0, s0_1, s0_2)))) else (some (false, s0_0, s0_1, s0_2))) = some (r1, r2, r3, r4) := H
 have A2 := Aside0.mk A20
 clear A20
 by_cases c3 : t167 = true
 ·subst c3
  have H1 : ((spec_l00In.f (wrap64 (s0_1)) 1 3).bind fun t168 => (if t168 = true then ((spec_l00In.f (wrap64 (s0_2)) 0 4).bind fun t169 => (some (t169, s0_0, s0_1, s0_2))) else (some (false, s0_0, s0_1, s0_2)))) = some (r1, r2, r3, r4) := by rw [if_pos rfl] at H; exact H
  clear H
  have H := H1
  clear H1
  replace H := Option.bind_eq_some_iff.mp H
  obtain ⟨t168, A40, H⟩ := H
  replace H : (if t168 = true then ((spec_l00In.f (wrap64 (s0_2)) 0 4).bind fun t169 => (some (t169, s0_0, s0_1, s0_2))) else (some (false, s0_0, s0_1, s0_2))) = some (r1, r2, r3, r4) := H
  have A4 := Aside0.mk A40
  clear A40
  by_cases c5 : t168 = true
  ·subst c5
   have H1 : ((spec_l00In.f (wrap64 (s0_2)) 0 4).bind fun t169 => (some (t169, s0_0, s0_1, s0_2))) = some (r1, r2, r3, r4) := by rw [if_pos rfl] at H; exact H
   clear H
   have H := H1
   clear H1
   replace H := Option.bind_eq_some_iff.mp H
   obtain ⟨t169, A60, H⟩ := H
   replace H : (some (t169, s0_0, s0_1, s0_2)) = some (r1, r2, r3, r4) := H
   have A6 := Aside0.mk A60
   clear A60
   simp only [Option.some.injEq, Prod.mk.injEq] at H
   obtain ⟨rfl, rfl, rfl, rfl⟩ := H
   obtain ⟨ASz7_3, cSz7_3, HGz7, hgz7, HSz7_3⟩ := HI0.out
   have hcz7_0 := cellS27_0 HGz7
   have hcz7_1 := cellS27_1 HGz7
   have hcz7_2 := cellS27_2 HGz7
   have hcz7_3 := cellS27_3 HGz7
   have hfz7_0 := blk_frozen HGz7 0
   have hfz7_1 := blk_frozen HGz7 1
   have hfz7_2 := blk_frozen HGz7 2
   clear HGz7 hgz7
   go_enter Try.func88, Try.ntmps88
   go_wp2_with (first | ((with_reducible refine gate_callee (f := 78) rfl ?_); refine goesL_ (some 8) rfl rfl Try.func78 (by kernel_rfl) rfl #[.int .i64 (wrap64 (s0_0)), .int .i64 1, .int .i64 10] rfl (by (try simp only [List.map_toArray, List.map_cons, List.map_nil]); first | done | rfl | (simp only [List.length_drop, List.length_take]; rfl)) ?_; (with_reducible refine (spec_l00In.calls (wrap64 (s0_0)) 1 10 true _ A2.out).mono ?_); rintro e w' ⟨rfl, ⟨nd, rfl⟩⟩; refine ⟨_, rfl, ?_⟩) | (go_at_call 78; (with_reducible refine (spec_l00In.calls (wrap64 (s0_1)) 1 3 true _ A4.out).mono ?_); rintro e w' ⟨rfl, ⟨nd, rfl⟩⟩) | (go_at_call 78; (with_reducible refine (spec_l00In.calls (wrap64 (s0_2)) 0 4 t169 _ A6.out).mono ?_); rintro e w' ⟨rfl, ⟨nd, rfl⟩⟩))
   go_ret
   exact ⟨by first | rfl | (simp [errW_none, errW_some] <;> rfl) | (simp [*, errW_none, errW_some] <;> rfl), by repeat (first | (with_reducible first | exact HI0.out | apply IsS27.alloc | apply IsS27.drewN | apply IsS27.drew | apply IsS27.set_0 | apply IsS27.set_1 | apply IsS27.set_2) | exact HI0.out), by repeat (first | (with_reducible first | exact HB.out | apply below_alloc | apply pw_below_drewN | apply below_drew1 | refine below_set ?_ (IsS27.ge HI0.out)) | exact HB.out), by repeat (first | (with_reducible first | exact HK.out | apply KeepBut.set_ | apply keep_drewN | apply keep_drew | apply keep_alloc) | exact HK.out)⟩
  ·replace c5 := Bool.eq_false_iff.mpr c5
   subst c5
   have H1 : (some (false, s0_0, s0_1, s0_2)) = some (r1, r2, r3, r4) := by rw [if_neg (show ¬ (false = true) by decide)] at H; exact H
   clear H
   have H := H1
   clear H1
   simp only [Option.some.injEq, Prod.mk.injEq] at H
   obtain ⟨rfl, rfl, rfl, rfl⟩ := H
   obtain ⟨ASz8_3, cSz8_3, HGz8, hgz8, HSz8_3⟩ := HI0.out
   have hcz8_0 := cellS27_0 HGz8
   have hcz8_1 := cellS27_1 HGz8
   have hcz8_2 := cellS27_2 HGz8
   have hcz8_3 := cellS27_3 HGz8
   have hfz8_0 := blk_frozen HGz8 0
   have hfz8_1 := blk_frozen HGz8 1
   have hfz8_2 := blk_frozen HGz8 2
   clear HGz8 hgz8
   go_enter Try.func88, Try.ntmps88
   go_wp2_with (first | ((with_reducible refine gate_callee (f := 78) rfl ?_); refine goesL_ (some 8) rfl rfl Try.func78 (by kernel_rfl) rfl #[.int .i64 (wrap64 (s0_0)), .int .i64 1, .int .i64 10] rfl (by (try simp only [List.map_toArray, List.map_cons, List.map_nil]); first | done | rfl | (simp only [List.length_drop, List.length_take]; rfl)) ?_; (with_reducible refine (spec_l00In.calls (wrap64 (s0_0)) 1 10 true _ A2.out).mono ?_); rintro e w' ⟨rfl, ⟨nd, rfl⟩⟩; refine ⟨_, rfl, ?_⟩) | (go_at_call 78; (with_reducible refine (spec_l00In.calls (wrap64 (s0_1)) 1 3 false _ A4.out).mono ?_); rintro e w' ⟨rfl, ⟨nd, rfl⟩⟩))
   go_ret
   exact ⟨by first | rfl | (simp [errW_none, errW_some] <;> rfl) | (simp [*, errW_none, errW_some] <;> rfl), by repeat (first | (with_reducible first | exact HI0.out | apply IsS27.alloc | apply IsS27.drewN | apply IsS27.drew | apply IsS27.set_0 | apply IsS27.set_1 | apply IsS27.set_2) | exact HI0.out), by repeat (first | (with_reducible first | exact HB.out | apply below_alloc | apply pw_below_drewN | apply below_drew1 | refine below_set ?_ (IsS27.ge HI0.out)) | exact HB.out), by repeat (first | (with_reducible first | exact HK.out | apply KeepBut.set_ | apply keep_drewN | apply keep_drew | apply keep_alloc) | exact HK.out)⟩
 ·replace c3 := Bool.eq_false_iff.mpr c3
  subst c3
  have H1 : (some (false, s0_0, s0_1, s0_2)) = some (r1, r2, r3, r4) := by rw [if_neg (show ¬ (false = true) by decide)] at H; exact H
  clear H
  have H := H1
  clear H1
  simp only [Option.some.injEq, Prod.mk.injEq] at H
  obtain ⟨rfl, rfl, rfl, rfl⟩ := H
  obtain ⟨ASz9_3, cSz9_3, HGz9, hgz9, HSz9_3⟩ := HI0.out
  have hcz9_0 := cellS27_0 HGz9
  have hcz9_1 := cellS27_1 HGz9
  have hcz9_2 := cellS27_2 HGz9
  have hcz9_3 := cellS27_3 HGz9
  have hfz9_0 := blk_frozen HGz9 0
  have hfz9_1 := blk_frozen HGz9 1
  have hfz9_2 := blk_frozen HGz9 2
  clear HGz9 hgz9
  go_enter Try.func88, Try.ntmps88
  go_wp2_with (first | ((with_reducible refine gate_callee (f := 78) rfl ?_); refine goesL_ (some 8) rfl rfl Try.func78 (by kernel_rfl) rfl #[.int .i64 (wrap64 (s0_0)), .int .i64 1, .int .i64 10] rfl (by (try simp only [List.map_toArray, List.map_cons, List.map_nil]); first | done | rfl | (simp only [List.length_drop, List.length_take]; rfl)) ?_; (with_reducible refine (spec_l00In.calls (wrap64 (s0_0)) 1 10 false _ A2.out).mono ?_); rintro e w' ⟨rfl, ⟨nd, rfl⟩⟩; refine ⟨_, rfl, ?_⟩))
  go_ret
  exact ⟨by first | rfl | (simp [errW_none, errW_some] <;> rfl) | (simp [*, errW_none, errW_some] <;> rfl), by repeat (first | (with_reducible first | exact HI0.out | apply IsS27.alloc | apply IsS27.drewN | apply IsS27.drew | apply IsS27.set_0 | apply IsS27.set_1 | apply IsS27.set_2) | exact HI0.out), by repeat (first | (with_reducible first | exact HB.out | apply below_alloc | apply pw_below_drewN | apply below_drew1 | refine below_set ?_ (IsS27.ge HI0.out)) | exact HB.out), by repeat (first | (with_reducible first | exact HK.out | apply KeepBut.set_ | apply keep_drewN | apply keep_drew | apply keep_alloc) | exact HK.out)⟩
end Go.Proofs.Ytckpfodpfplaeaa.D
namespace Go.Proofs.Ytckpfodpfplaeaa.Arr
open Go.RowKit Go.Proofs.YtckpfodpfplaeaaW.PrintWords Go.Proofs.YtckpfodpfplaeaaW.PrintLast Go.Proofs.YtckpfodpfplaeaaW.PrintMore Go.Proofs.Ytckpfodpfplaeaa.U Go.Proofs.Ytckpfodpfplaeaa.D
set_option linter.unusedVariables false
set_option linter.unusedSimpArgs false
def phrB (s : ByteArray) : Bool := decide (∀ i : Nat, i < s.size → 32 ≤ bt s (i : Int) ∧ bt s (i : Int) ≤ 126) && decide (1 ≤ (s.size : Int) ∧ (s.size : Int) ≤ 40)
theorem l03Phrase_ev (s : ByteArray) (hs : s.size ≤ 140737488351232) : Ev (fun k => spec_l03Phrase.f k s) (phrB s) := by
 unfold spec_l03Phrase.f
 refine iter (F := fun k (x : Int) => spec_l03Phrase.l0 k s x) (fun i x => x = (i : Int) ∧ ∀ j : Nat, j < i → 32 ≤ bt s (j : Int) ∧ bt s (j : Int) ≤ 126) _ s.size ?_ ?_ 0 0 (by omega) ⟨rfl, fun j hj => absurd hj (by omega)⟩
 ·rintro i x hi ⟨rfl, hP⟩
  by_cases h1 : 32 ≤ bt s (i : Int) ∧ bt s (i : Int) ≤ 126
  ·refine .inl ⟨((i + 1 : Nat) : Int), ⟨rfl, fun j hj => ?_⟩, fun hgo => ?_⟩
   ·rcases Nat.lt_or_ge j i with h | h
    ·exact hP j h
    ·obtain rfl : j = i := by omega
     exact h1
   ·have hgo2 : Ev (fun k => spec_l03Phrase.l0 k s (wrap64 ((i : Int) + 1))) (phrB s) := by rw [w64 (by omega) (by omega)]; exact hgo
    refine Ev.step (fun k => by rw [spec_l03Phrase.l0]) ?_
    exact pos (by omega) (pos (by omega) (neg (by omega) (neg (by omega) hgo2)))
  ·refine .inr ?_
   have hf : phrB s = false := by
    unfold phrB
    rw [decide_eq_false (fun h => h1 (h i hi))]; rfl
   rw [hf]
   refine Ev.step (fun k => by rw [spec_l03Phrase.l0]) ?_
   refine pos (by omega) (pos (by omega) ?_)
   by_cases h2 : bt s (i : Int) < 32
   ·exact pos h2 (cons rfl)
   ·exact neg h2 (pos (by omega) (cons rfl))
 ·rintro x ⟨rfl, hP⟩
  refine Ev.step (fun k => by rw [spec_l03Phrase.l0]) ?_
  refine neg (by omega) (bindc (in_ev' _ _ _) (cons ?_))
  unfold phrB
  rw [decide_eq_true hP]; rfl
def fnd (ph : List ByteArray) (a : ByteArray) : Int := ixa (fun x => decide (x.toList = a.toList)) ph
theorem rdOf_get (ph : List ByteArray) (i : Nat) (hi : i < ph.length) : rdOf ByteArray.empty ph (i : Int) = ph[i] := by
 unfold rdOf; simp [List.getElem?_eq_getElem hi]
theorem l03Find_ev (K L S : Int) (ph : List ByteArray) (a : ByteArray) (hn : ph.length ≤ 140737488351232) : Ev (fun k => spec_l03Find.f k K L S ph a) (fnd ph a, K, L, S) := by
 unfold spec_l03Find.f
 refine iter (F := fun k (x : Int) => spec_l03Find.l0 k a x K L S ph) (fun i x => x = (i : Int) ∧ ∀ j : Nat, j < i → ∀ y, ph[j]? = some y → decide (y.toList = a.toList) = false) _ ph.length ?_ ?_ 0 0 (by omega) ⟨rfl, fun j hj => absurd hj (by omega)⟩
 ·rintro i x hi ⟨rfl, hP⟩
  have hg := rdOf_get ph i hi
  by_cases h1 : ph[i].toList = a.toList
  ·refine .inr ?_
   rw [show fnd ph a = (i : Int) from ixa_found _ ph i ph[i] (List.getElem?_eq_getElem hi) hP (decide_eq_true h1)]
   refine Ev.step (fun k => by rw [spec_l03Find.l0]) ?_
   exact pos (by omega) (pos (by omega) (pos (by rw [hg]; exact h1) (cons rfl)))
  ·refine .inl ⟨((i + 1 : Nat) : Int), ⟨rfl, fun j hj y hy => ?_⟩, fun hgo => ?_⟩
   ·rcases Nat.lt_or_ge j i with h | h
    ·exact hP j h y hy
    ·obtain rfl : j = i := by omega
     rw [List.getElem?_eq_getElem hi] at hy
     rw [← Option.some.inj hy]; exact decide_eq_false h1
   ·have hgo2 : Ev (fun k => spec_l03Find.l0 k a (wrap64 ((i : Int) + 1)) K L S ph) (fnd ph a, K, L, S) := by rw [w64 (by omega) (by omega)]; exact hgo
    refine Ev.step (fun k => by rw [spec_l03Find.l0]) ?_
    exact pos (by omega) (pos (by omega) (neg (by rw [hg]; exact h1) hgo2))
 ·rintro x ⟨rfl, hP⟩
  refine Ev.step (fun k => by rw [spec_l03Find.l0]) ?_
  exact neg (by omega) (cons (by rw [show fnd ph a = -1 from ixa_none _ ph hP]))
def sizedB (K L S : Int) : Bool := decide ((1 ≤ K ∧ K ≤ 10) ∧ (1 ≤ L ∧ L ≤ 3) ∧ (0 ≤ S ∧ S ≤ 4))
theorem l03Sized_f (K L S : Int) (ph : List ByteArray) (hK : -128 ≤ K ∧ K ≤ 127) (hL : -128 ≤ L ∧ L ≤ 127) (hS : -128 ≤ S ∧ S ≤ 127) : spec_l03Sized.f K L S ph = some (sizedB K L S, K, L, S) := by
 unfold spec_l03Sized.f sizedB
 rw [w64 (by omega) (by omega), w64 (by omega) (by omega), w64 (by omega) (by omega), in_ev', in_ev', in_ev']
 by_cases h1 : 1 ≤ K ∧ K ≤ 10 <;> by_cases h2 : 1 ≤ L ∧ L ≤ 3 <;> simp [h1, h2]
def phOk (ph : List ByteArray) (i : Nat) : Bool := phrB (rdOf ByteArray.empty ph (i : Int)) && decide (fnd ph (rdOf ByteArray.empty ph (i : Int)) = (i : Int))
def okBook (K L S : Int) (ph : List ByteArray) : Bool := sizedB K L S && decide (ph.length ≤ 100) && decide (∀ i : Nat, i < ph.length → phOk ph i = true) && decide (ph.length ≤ (outL K.toNat S.toNat L.toNat).length)
structure BkSt (w0 w : World) (g : Nat) (K L S : Int) (ph : List ByteArray) (w1 : World) : Prop where
 is : IsS27 w0 w1 g K L S ph
 bel : Below w0.heap.size w0 w1
 keep : KeepBut w w1 g none
theorem BkSt.drewN {w0 w w1 : World} {g : Nat} {K L S : Int} {ph : List ByteArray} (h : BkSt w0 w g K L S ph w1) (n : Nat) : BkSt w0 w g K L S ph (w1.drewN n) := ⟨IsS27.drewN h.is n, pw_below_drewN h.bel n, keep_drewN h.keep n⟩
theorem BkSt.drew {w0 w w1 : World} {g : Nat} {K L S : Int} {ph : List ByteArray} (h : BkSt w0 w g K L S ph w1) : BkSt w0 w g K L S ph w1.drew := ⟨IsS27.drew h.is, below_drew1 h.bel, keep_drew h.keep⟩
theorem BkSt.call {w0 w w1 w2 : World} {g : Nat} {K L S : Int} {ph : List ByteArray} (h : BkSt w0 w g K L S ph w1) (h1 : IsS27 w0 w2 g K L S ph) (h2 : Below w0.heap.size w0 w2) (h3 : KeepBut w1 w2 g none) : BkSt w0 w g K L S ph w2 := ⟨h1, h2, h.keep.trans h3 (Or.inl rfl)⟩
theorem BkSt.below {w0 w w1 w2 : World} {g : Nat} {K L S : Int} {ph : List ByteArray} (h : BkSt w0 w g K L S ph w1) (hb : Below w1.heap.size w1 w2) : BkSt w0 w g K L S ph w2 := ⟨IsS27.below h.is hb, h.bel.trans (hb.mono h.bel.size), h.keep.trans (KeepBut.of_below hb g none) (Or.inl rfl)⟩
theorem oneStrS : OneTy Try.prog 23 := ⟨by kernel_rfl, by kernel_rfl⟩
set_option maxHeartbeats 8000000 in
set_option maxRecDepth 100000 in
theorem l03Ok_calls (K L S : Int) (ph : List ByteArray) (g : Nat) (w0 w : World) (hI : IsS27 w0 w g K L S ph) (hB : Below w0.heap.size w0 w) (hK : -128 ≤ K ∧ K ≤ 127) (hL : -128 ≤ L ∧ L ≤ 127) (hS : -128 ≤ S ∧ S ≤ 127) (hn : ph.length ≤ 100000000) (hs : ∀ s ∈ ph, s.size ≤ 140737488351232) :
  Calls Try.prog 47 #[.pointer (some ⟨g, 0, none⟩)] w fun e w' => e = .returned (.bool (okBook K L S ph)) ∧ BkSt w0 w g K L S ph w' := by
 have HS := Aside0.mk (fun W h1 h2 => spec_l03Sized.calls g K L S ph _ _ _ _ w0 W h1 h2 (l03Sized_f K L S ph hK hL hS))
 have HB0 : Aside0 (BkSt w0 w g K L S ph w) := ⟨⟨hI, hB, KeepBut.refl w g none⟩⟩
 obtain ⟨A3, c3, hb, _, _⟩ := hI
 have hc3 := (blk_cell hb 3).trans rfl
 clear hb hB
 cases hz : sizedB K L S with
 | false =>
  have HF := Aside0.mk (show okBook K L S ph = false by unfold okBook; rw [hz]; rfl)
  rw [hz] at HS
  clear hz
  go_enter Try.func47, Try.ntmps47
  go_wp2_with (go_at_call 88; refine (HS.out _ HB0.out.is HB0.out.bel).mono ?_; rintro e w1 ⟨rfl, h1, h2, h3⟩; have HB1 := Aside0.mk (HB0.out.call h1 h2 h3); clear h1 h2 h3)
  go_ret
  exact ⟨by rw [HF.out]; rfl, HB1.out⟩
 | true =>
  have HZ := Aside0.mk hz
  have hzz := of_decide_eq_true hz
  rw [hz] at HS
  clear hz
  by_cases h100 : ph.length ≤ 100
  ·have hle : (ph.length : Int) ≤ 100 := by omega
   have hgt : ¬ (100 : Int) < (ph.length : Int) := by omega
   have hgt2 := decide_eq_false hgt
   have HH := Aside0.mk hs
   obtain ⟨K, rfl⟩ := Int.eq_ofNat_of_zero_le (show 0 ≤ K by omega)
   obtain ⟨L, rfl⟩ := Int.eq_ofNat_of_zero_le (show 0 ≤ L by omega)
   obtain ⟨S, rfl⟩ := Int.eq_ofNat_of_zero_le (show 0 ≤ S by omega)
   have HK4 : Aside0 ((1 ≤ K ∧ K ≤ 10) ∧ L ≤ 3 ∧ S ≤ 4) := ⟨by omega⟩
   clear hs hK hL hS hzz
   go_enter Try.func47, Try.ntmps47
   go_wp2_with (go_at_call 88; refine (HS.out _ HB0.out.is HB0.out.bel).mono ?_; rintro e w1 ⟨rfl, h1, h2, h3⟩; have HB1 := Aside0.mk (HB0.out.call h1 h2 h3); obtain ⟨A4, c4, hb4, _, _⟩ := h1; have hc4 := (blk_cell hb4 3).trans rfl; clear h2 h3 hb4)
   go_loopw [3] (fun v3 wr => ∃ i : Nat, i ≤ ph.length ∧ v3 = .int .i64 i ∧ Aside0 (BkSt w0 w g K L S ph wr) ∧ Aside0 (∀ j : Nat, j < i → phOk ph j = true)) (fun v3 _ => ph.length - (intOf v3).toNat)
   case atStart => exact ⟨0, by omega, rfl, HB1, ⟨fun j hj => absurd hj (by omega)⟩⟩
   case round =>
    clear HB1 hc4 hc3
    obtain ⟨i, hi, rfl, HB, HP⟩ := hrel
    obtain ⟨A5, c5, hb5, hg5, hr5⟩ := HB.out.is
    have hc5 := (blk_cell hb5 3).trans rfl
    by_cases hlt : i < ph.length
    ·obtain ⟨ad, rfl, hcs⟩ := Kd.at_string (Kd.C_below hr5 HB.out.bel) (i : Int) (by omega) (by omega)
     rw [Int.toNat_natCast] at hcs
     have HM : Aside0 (rdOf ByteArray.empty ph (i : Int) ∈ ph) := ⟨by rw [rdOf_get ph i hlt]; exact List.getElem_mem hlt⟩
     have HPD := Aside0.mk (show phOk ph i = (phrB (rdOf ByteArray.empty ph (i : Int)) && decide (fnd ph (rdOf ByteArray.empty ph (i : Int)) = (i : Int))) from rfl)
     clear hb5 hg5 hr5
     generalize rdOf ByteArray.empty ph (i : Int) = s at *
     obtain ⟨k1, hk1⟩ := (l03Phrase_ev s (HH.out s HM.out)).rounds
     have HPH := Aside0.mk hk1
     obtain ⟨k2, hk2⟩ := (l03Find_ev (K : Int) (L : Int) (S : Int) ph s (by omega)).rounds
     have HFI := Aside0.mk hk2
     clear hk1 hk2
     cases hp : phrB s with
     | false =>
      have HF := Aside0.mk (show okBook K L S ph = false by
       unfold okBook
       rw [decide_eq_false (p := ∀ i : Nat, i < ph.length → phOk ph i = true) (fun h => by have := h i hlt; rw [HPD.out, hp] at this; simp at this)]
       simp)
      rw [hp] at HPH
      clear hp HFI
      go_wp2_with (go_at_call 48; refine (spec_l03Phrase.calls k1 s false _ HPH.out).mono ?_; rintro e w2 ⟨rfl, ⟨n2, rfl⟩⟩)
      go_ret
      exact ⟨by rw [HF.out]; rfl, HB.out.drewN _⟩
     | true =>
      rw [hp] at HPH
      have HPT := Aside0.mk hp
      clear hp
      by_cases hf : fnd ph s = (i : Int)
      ·have HOK := Aside0.mk (show phOk ph i = true by rw [HPD.out, HPT.out, decide_eq_true hf]; rfl)
       rw [hf] at HFI
       clear hf
       go_wp2_with (first
        | (go_at_call 48; refine (spec_l03Phrase.calls k1 s true _ HPH.out).mono ?_; rintro e w2 ⟨rfl, ⟨n2, rfl⟩⟩)
        | (go_at_call 49; refine (spec_l03Find.calls k2 g K L S ph s _ _ _ _ w0 _ (HB.out.drewN n2).is (HB.out.drewN n2).bel HFI.out).mono ?_; rintro e w3 ⟨rfl, h1, h2, h3⟩; have HB3 := Aside0.mk ((HB.out.drewN n2).call h1 h2 h3); clear h1 h2 h3))
       go_roundw
       case rel => exact ⟨i + 1, by omega, by go_num, HB3, ⟨fun j hj => by
        rcases Nat.lt_or_ge j i with h | h
        ·exact HP.out j h
        ·obtain rfl : j = i := by omega
         exact HOK.out⟩⟩
       case measure => simp [intOf]; omega
      ·have HF := Aside0.mk (show okBook K L S ph = false by
        unfold okBook
        rw [decide_eq_false (p := ∀ i : Nat, i < ph.length → phOk ph i = true) (fun h => by have := h i hlt; rw [HPD.out, decide_eq_false hf] at this; simp at this)]
        simp)
       have hf1 : (fnd ph s != (i : Int)) = true := by rw [bne_iff_ne]; exact hf
       clear hf
       generalize fnd ph s = f at *
       go_wp2_with (first
        | (go_at_call 48; refine (spec_l03Phrase.calls k1 s true _ HPH.out).mono ?_; rintro e w2 ⟨rfl, ⟨n2, rfl⟩⟩)
        | (go_at_call 49; refine (spec_l03Find.calls k2 g K L S ph s _ _ _ _ w0 _ (HB.out.drewN n2).is (HB.out.drewN n2).bel HFI.out).mono ?_; rintro e w3 ⟨rfl, h1, h2, h3⟩; have HB3 := Aside0.mk ((HB.out.drewN n2).call h1 h2 h3); clear h1 h2 h3))
       go_ret
       exact ⟨by rw [HF.out]; rfl, HB3.out⟩
    ·have HI := Aside0.mk (show i = ph.length by omega)
     have HALL := Aside0.mk (show okBook K L S ph = decide (ph.length ≤ (outL K S L).length) by
      unfold okBook
      rw [HZ.out, decide_eq_true h100, decide_eq_true (p := ∀ i : Nat, i < ph.length → phOk ph i = true) (fun j hj => HP.out j (by rw [HI.out]; exact hj)), Int.toNat_natCast, Int.toNat_natCast, Int.toNat_natCast]
      simp)
     have HBL := Aside0.mk hb5
     have HME := Aside0.mk (fun W (hW : BkSt w0 w g K L S ph W) => by
      obtain ⟨A6, c6, hb6, _, _⟩ := hW.is
      exact specMeanings_calls K L S A6 ph.length c6 g W hb6 HK4.out.1.1 HK4.out.1.2 HK4.out.2.1 HK4.out.2.2)
     clear hb5 hg5 hr5
     go_wp2_with fail
     refine start_ (n := 10) (S := fun w' => BkSt w0 w g K L S ph w' ∧ w'.heap[g]? = some (.cells #[.int .i8 (K : Int), .int .i8 (L : Int), .int .i8 (S : Int), .slice A5 ph.length c5] 27 (0, 0))) (ds := []) #[false, false, false, false, false, false, false, false, false, false] (by kernel_rfl) rfl rfl (⟨HB.out.drew, HBL.out⟩) (fun hHeld => ?_)
     refine pure_ (i := 0) (N := some 46) (v := ?_) (a' := ?_) #[true, false, false, false, false, false, false, false, false, false] rfl rfl (by kernel_rfl) (fun _ _ _ h => h) (Or.inl ⟨by rfl, ?_⟩) ?_ ?_
     rotate_left
     ·intro w'
      go_simp
      with_reducible rfl
     rotate_left
     ·simp only [Act.put, List.setIfInBounds_toArray, List.set_cons_zero, List.set_cons_succ, i64_w, i32_w]
      rfl
     refine pure_ (i := 1) (N := some 47) (v := ?_) (a' := ?_) #[true, true, false, false, false, false, false, false, false, false] rfl rfl (by kernel_rfl) (fun _ _ _ h => h) (Or.inl ⟨by rfl, ?_⟩) ?_ ?_
     rotate_left
     ·intro w'
      go_simp
      with_reducible rfl
     rotate_left
     ·simp only [Act.put, List.setIfInBounds_toArray, List.set_cons_zero, List.set_cons_succ, i64_w, i32_w]
      rfl
     refine pure_ (i := 2) (N := some 48) (v := ?_) (a' := ?_) #[true, true, true, false, false, false, false, false, false, false] rfl rfl (by kernel_rfl) (fun _ _ _ h => h) (Or.inl ⟨by rfl, ?_⟩) ?_ ?_
     rotate_left
     ·intro w'
      go_simp
      with_reducible rfl
     rotate_left
     ·simp only [Act.put, List.setIfInBounds_toArray, List.set_cons_zero, List.set_cons_succ, i64_w, i32_w]
      rfl
     refine pure_ (i := 5) (N := some 51) (v := ?_) (a' := ?_) #[true, true, true, false, false, true, false, false, false, false] rfl rfl (by kernel_rfl) (fun _ _ _ h => h) (Or.inl ⟨by rfl, ?_⟩) ?_ ?_
     rotate_left
     ·intro w'
      go_simp
      with_reducible rfl
     rotate_left
     ·simp only [Act.put, List.setIfInBounds_toArray, List.set_cons_zero, List.set_cons_succ, i64_w, i32_w]
      rfl
     refine take_ (i := 3) (N := some 49) (v := .slice A5 ph.length c5) (a' := ?_) #[true, true, true, true, false, true, false, false, false, false] rfl rfl (by kernel_rfl) (fun _ _ _ h => h) (Or.inl ⟨by rfl, ?_⟩) hHeld ?_ ?_
     ·intro w' s0
      exact y_cell (by rfl) (by rfl) oneStrS ((blk_cell s0.2 3).trans rfl)
     rotate_left
     ·simp only [Act.put, List.setIfInBounds_toArray, List.set_cons_zero, List.set_cons_succ, i64_w, i32_w]
      rfl
     refine pure_ (i := 4) (N := some 50) (v := ?_) (a' := ?_) #[true, true, true, true, true, true, false, false, false, false] rfl rfl (by kernel_rfl) (fun _ _ _ h => h) (Or.inl ⟨by rfl, ?_⟩) ?_ ?_
     rotate_left
     ·intro w'
      go_simp
      with_reducible rfl
     rotate_left
     ·simp only [Act.put, List.setIfInBounds_toArray, List.set_cons_zero, List.set_cons_succ, i64_w, i32_w]
      rfl
     refine one_ (i := 6) (N := some 52) #[true, true, true, true, true, true, true, false, false, false] rfl rfl (by kernel_rfl) (by decide) (fun K hK => ?_)
     refine goes_ Try.func50 (by kernel_rfl) rfl #[.pointer (some ⟨g, 0, none⟩)] (by rfl) rfl rfl (by simp only [List.map_toArray, List.map_cons, List.map_nil]; rfl) ?_
     refine (HME.out _ hHeld.1).mono ?_
     rintro e w4 ⟨v, rfl, hsv, hb4⟩
     obtain ⟨A7, c7, rfl, _, _⟩ := Kd.S_reads hsv
     clear hsv
     refine ⟨_, rfl, ?_⟩
     refine hK.out _ _ (⟨hHeld.1.below hb4, (hb4.block g (lt_of_some hHeld.2)).trans hHeld.2⟩) (fun hHeld => ?_)
     clear hK K
     refine norm_ (a' := ?_) ?_ ?_
     rotate_left
     ·show Act.put _ (some 52) _ = _
      simp only [Act.put, List.setIfInBounds_toArray, List.set_cons_zero, List.set_cons_succ, i64_w, i32_w]
      rfl
     refine pure_ (i := 7) (N := some 53) (v := ?_) (a' := ?_) #[true, true, true, true, true, true, true, true, false, false] rfl rfl (by kernel_rfl) (fun _ _ _ h => h) (Or.inl ⟨by rfl, ?_⟩) ?_ ?_
     rotate_left
     ·intro w'
      go_simp
      with_reducible rfl
     rotate_left
     ·simp only [Act.put, List.setIfInBounds_toArray, List.set_cons_zero, List.set_cons_succ, i64_w, i32_w]
      rfl
     refine pure_ (i := 8) (N := some 54) (v := ?_) (a' := ?_) #[true, true, true, true, true, true, true, true, true, false] rfl rfl (by kernel_rfl) (fun _ _ _ h => h) (Or.inl ⟨by rfl, ?_⟩) ?_ ?_
     rotate_left
     ·intro w'
      go_simp
      with_reducible rfl
     rotate_left
     ·simp only [Act.put, List.setIfInBounds_toArray, List.set_cons_zero, List.set_cons_succ, i64_w, i32_w]
      rfl
     refine pure_ (i := 9) (N := some 2) (v := ?_) (a' := ?_) #[true, true, true, true, true, true, true, true, true, true] rfl rfl (by kernel_rfl) (fun _ _ _ h => h) (Or.inl ⟨by rfl, ?_⟩) ?_ ?_
     rotate_left
     ·intro w'
      go_simp
      with_reducible rfl
     rotate_left
     ·simp only [Act.put, List.setIfInBounds_toArray, List.set_cons_zero, List.set_cons_succ, i64_w, i32_w]
      rfl
     refine done_ (by kernel_rfl) ?_
     skip
     go_wp2_with fail
     go_ret
     exact ⟨by rw [HALL.out]; rfl, hHeld.1⟩
  ·have HF := Aside0.mk (show okBook K L S ph = false by unfold okBook; rw [decide_eq_false h100]; simp)
   have hgt : (100 : Int) < (ph.length : Int) := by omega
   have hgt2 := decide_eq_true hgt
   clear h100
   go_enter Try.func47, Try.ntmps47
   go_wp2_with (go_at_call 88; refine (HS.out _ HB0.out.is HB0.out.bel).mono ?_; rintro e w1 ⟨rfl, h1, h2, h3⟩; have HB1 := Aside0.mk (HB0.out.call h1 h2 h3); obtain ⟨A4, c4, hb4, _, _⟩ := h1; have hc4 := (blk_cell hb4 3).trans rfl; clear h2 h3 hb4)
   go_ret
   exact ⟨by rw [HF.out]; rfl, HB1.out⟩
end Go.Proofs.Ytckpfodpfplaeaa.Arr
namespace Go.Proofs.Ytckpfodpfplaeaa.D
open Go.RowKit Go.Proofs.YtckpfodpfplaeaaW.PrintWords Go.Proofs.YtckpfodpfplaeaaW.PrintLast Go.Proofs.YtckpfodpfplaeaaW.PrintMore
attribute [local go_sem] max2_int min2_int max_two min_two max_three min_three max_four min_four
set_option linter.unusedVariables false
set_option linter.unusedSimpArgs false
def impl_isPhrase.l0 : Nat → ByteArray → Int → Int → Option (Bool)
 | 0, _, _, _ => none
 | k + 1, x0, x5, x6 => if x6 < x5 then (if 0 ≤ x6 then (if x6 < (x0.size : Int) then (if (bt x0 x6) < 32 then (some false) else (if (bt x0 x6) > 126 then (some false) else (impl_isPhrase.l0 k x0 x5 (wrap64 (x6 + 1))))) else (none)) else (none)) else ((impl_within.f (x0.size : Int) 1 40).bind fun t193 => (some t193))
def impl_isPhrase.f (k : Nat) (a0 : ByteArray) : Option (Bool) := impl_isPhrase.l0 k a0 (a0.size : Int) 0
set_option maxHeartbeats 8000000 in
set_option maxRecDepth 100000 in
theorem impl_isPhrase.calls (k : Nat) (a0 : ByteArray) (r : Bool) (w : World) (h : impl_isPhrase.f k a0 = some r) :
  Calls Try.prog 54 #[.string a0] w fun e w' => e = .returned (.bool r) ∧ Drawn0 w w' := by
 have H : (impl_isPhrase.l0 k a0 (a0.size : Int) 0) = some r := h
 clear h
 have H' := Aside0.mk H
 clear H
 go_enter Try.func54, Try.ntmps54
 go_wp2
 go_loopg [6] k (fun kq v6 w' => ∃ (x6_1 : Int), v6 = .int .i64 x6_1 ∧ Aside0 (impl_isPhrase.l0 kq a0 (a0.size : Int) x6_1 = some r) ∧ Aside0 (kq ≤ k) ∧ Drawn0 w w')
 case atStart => exact ⟨(0), (by first | rfl | (simp; done) | (simp [*]; done)), H', ⟨Nat.le_refl _⟩, by repeat (first | exact Drawn0.refl _ | apply Drawn0.step)⟩
 case round =>
  clear H'
  obtain ⟨x6_1, rfl, HA, HK1, ⟨m1, rfl⟩⟩ := hrel
  cases gk with
  | zero => exact absurd HA.out (by simp [impl_isPhrase.l0])
  | succ k1 =>
   have H := HA.out
   clear HA
   simp only [impl_isPhrase.l0] at H
   by_cases c2 : x6_1 < (a0.size : Int)
   ·rw [if_pos c2] at H
    have c2b0 : decide (x6_1 < (a0.size : Int)) = true := decide_eq_true c2
    clear c2
    by_cases c3 : 0 ≤ x6_1
    ·rw [if_pos c3] at H
     have c3b0 : decide (0 ≤ x6_1) = true := decide_eq_true c3
     clear c3
     by_cases c4 : x6_1 < (a0.size : Int)
     ·rw [if_pos c4] at H
      have c4b0 : decide (x6_1 < (a0.size : Int)) = true := decide_eq_true c4
      clear c4
      by_cases c6 : (bt a0 x6_1) < 32
      ·rw [if_pos c6] at H
       have c6b0 : decide ((bt a0 x6_1) < 32) = true := decide_eq_true c6
       clear c6
       obtain rfl := Option.some.inj H
       have p5 : 0 ≤ (x6_1 : Int) := of_decide_eq_true (by first | (with_reducible assumption) | assumption)
       have q5 : x6_1 < (a0.size : Int) := of_decide_eq_true (by first | (with_reducible assumption) | assumption)
       have hx5 := bt_at a0 x6_1
       replace p5 := eq_true p5
       replace q5 := eq_true q5
       go_wp2
       go_ret
       exact ⟨by first | rfl | (simp; done) | (simp [*]; done), by repeat (first | exact Drawn0.refl _ | apply Drawn0.step)⟩
      ·rw [if_neg c6] at H
       have c6b0 : decide ((bt a0 x6_1) < 32) = false := decide_eq_false c6
       clear c6
       by_cases c8 : (bt a0 x6_1) > 126
       ·rw [if_pos c8] at H
        have c8b0 : decide (126 < (bt a0 x6_1)) = true := decide_eq_true c8
        clear c8
        obtain rfl := Option.some.inj H
        have p5 : 0 ≤ (x6_1 : Int) := of_decide_eq_true (by first | (with_reducible assumption) | assumption)
        have q5 : x6_1 < (a0.size : Int) := of_decide_eq_true (by first | (with_reducible assumption) | assumption)
        have hx5 := bt_at a0 x6_1
        replace p5 := eq_true p5
        replace q5 := eq_true q5
        have p7 : 0 ≤ (x6_1 : Int) := of_decide_eq_true (by first | (with_reducible assumption) | assumption)
        have q7 : x6_1 < (a0.size : Int) := of_decide_eq_true (by first | (with_reducible assumption) | assumption)
        have hx7 := bt_at a0 x6_1
        replace p7 := eq_true p7
        replace q7 := eq_true q7
        go_wp2
        go_ret
        exact ⟨by first | rfl | (simp; done) | (simp [*]; done), by repeat (first | exact Drawn0.refl _ | apply Drawn0.step)⟩
       ·rw [if_neg c8] at H
        have c8b0 : decide (126 < (bt a0 x6_1)) = false := decide_eq_false c8
        clear c8
        have H' := Aside0.mk H
        clear H
        have p5 : 0 ≤ (x6_1 : Int) := of_decide_eq_true (by first | (with_reducible assumption) | assumption)
        have q5 : x6_1 < (a0.size : Int) := of_decide_eq_true (by first | (with_reducible assumption) | assumption)
        have hx5 := bt_at a0 x6_1
        replace p5 := eq_true p5
        replace q5 := eq_true q5
        have p7 : 0 ≤ (x6_1 : Int) := of_decide_eq_true (by first | (with_reducible assumption) | assumption)
        have q7 : x6_1 < (a0.size : Int) := of_decide_eq_true (by first | (with_reducible assumption) | assumption)
        have hx7 := bt_at a0 x6_1
        replace p7 := eq_true p7
        replace q7 := eq_true q7
        go_wp2
        go_roundg k1
        case measure => have := HK1.out; omega
        case rel => exact ⟨(wrap64 (x6_1 + 1)), (by first | rfl | (simp; done) | (simp [*]; done)), H', ⟨by have := HK1.out; omega⟩, by repeat (first | exact Drawn0.refl _ | apply Drawn0.step)⟩
     ·rw [if_neg c4] at H
      exact absurd H (by simp)
    ·rw [if_neg c3] at H
     exact absurd H (by simp)
   ·rw [if_neg c2] at H
    have c2b0 : decide (x6_1 < (a0.size : Int)) = false := decide_eq_false c2
    clear c2
    replace H := Option.bind_eq_some_iff.mp H
    obtain ⟨t193, A90, H⟩ := H
    replace H : (some t193) = some r := H
    have A9 := Aside0.mk A90
    clear A90
    obtain rfl := Option.some.inj H
    go_wp2_with (first | ((with_reducible refine gate_callee (f := 80) rfl ?_); refine goesL_ (some 22) rfl rfl Try.func80 (by kernel_rfl) rfl #[.int .i64 (a0.size : Int), .int .i64 1, .int .i64 40] rfl (by (try simp only [List.map_toArray, List.map_cons, List.map_nil]); first | done | rfl | (simp only [List.length_drop, List.length_take]; rfl)) ?_; (with_reducible refine (impl_within.calls (a0.size : Int) 1 40 t193 _ A9.out).mono ?_); rintro e w' ⟨rfl, ⟨nd, rfl⟩⟩; refine ⟨_, rfl, ?_⟩))
    go_ret
    exact ⟨by first | rfl | (simp; done) | (simp [*]; done), by repeat (first | exact Drawn0.refl _ | apply Drawn0.step)⟩
def impl_size_string.f (l0 : List ByteArray) : Option (Int) := some (l0.length : Int)
set_option maxHeartbeats 8000000 in
set_option maxRecDepth 100000 in
theorem impl_size_string.calls (A0 : Option Addr) (c0 : Nat) (l0 : List ByteArray) (r : Int) (w : World) (hr0 : Kd.C Kd.string w A0 l0.length l0) (hc0 : l0.length ≤ c0) (h : impl_size_string.f l0 = some r) :
  Calls Try.prog 81 #[.slice A0 l0.length c0] w fun e w' => e = .returned (.int .i64 r) ∧ Drawn0 w w' := by
 have HR0 := Aside0.mk hr0
 have HC0 := Aside0.mk hc0
 clear hr0 hc0
 have H : (some (l0.length : Int)) = some r := h
 clear h
 obtain rfl := Option.some.inj H
 go_enter Try.func81, Try.ntmps81
 go_wp2
 go_ret
 exact ⟨by first | rfl | (simp; done) | (simp [*]; done), by repeat (first | exact Drawn0.refl _ | apply Drawn0.step)⟩
def slices_Index_string_string.l0 : Nat → List ByteArray → ByteArray → Int → Int → Option (Int)
 | 0, _, _, _, _ => none
 | k + 1, x0, x1, x7, x8 => if x8 < x7 then (if 0 ≤ x8 then (if x8 < (x0.length : Int) then (if x1.toList = (rdOf ByteArray.empty x0 x8).toList then (some x8) else (slices_Index_string_string.l0 k x0 x1 x7 (wrap64 (x8 + 1)))) else (none)) else (none)) else (some (-1))
def slices_Index_string_string.f (k : Nat) (l0 : List ByteArray) (a1 : ByteArray) : Option (Int) := slices_Index_string_string.l0 k l0 a1 (l0.length : Int) 0
set_option maxHeartbeats 8000000 in
set_option maxRecDepth 100000 in
theorem slices_Index_string_string.calls (k : Nat) (A0 : Option Addr) (c0 : Nat) (l0 : List ByteArray) (a1 : ByteArray) (r : Int) (w : World) (hr0 : Kd.C Kd.string w A0 l0.length l0) (hc0 : l0.length ≤ c0) (h : slices_Index_string_string.f k l0 a1 = some r) :
  Calls Try.prog 68 #[.slice A0 l0.length c0, .string a1] w fun e w' => e = .returned (.int .i64 r) ∧ Drawn0 w w' := by
 have HR0 := Aside0.mk hr0
 have HC0 := Aside0.mk hc0
 clear hr0 hc0
 have H : (slices_Index_string_string.l0 k l0 a1 (l0.length : Int) 0) = some r := h
 clear h
 have H' := Aside0.mk H
 clear H
 go_enter Try.func68, Try.ntmps68
 go_wp2
 go_loopg [8] k (fun kq v8 w' => ∃ (x8_1 : Int), v8 = .int .i64 x8_1 ∧ Aside0 (slices_Index_string_string.l0 kq l0 a1 (l0.length : Int) x8_1 = some r) ∧ Aside0 (kq ≤ k) ∧ Drawn0 w w')
 case atStart => exact ⟨(0), (by first | rfl | (simp; done) | (simp [*]; done)), H', ⟨Nat.le_refl _⟩, by repeat (first | exact Drawn0.refl _ | apply Drawn0.step)⟩
 case round =>
  clear H'
  try clear p2
  obtain ⟨x8_1, rfl, HA, HK1, ⟨m1, rfl⟩⟩ := hrel
  cases gk with
  | zero => exact absurd HA.out (by simp [slices_Index_string_string.l0])
  | succ k1 =>
   have H := HA.out
   clear HA
   simp only [slices_Index_string_string.l0] at H
   by_cases c3 : x8_1 < (l0.length : Int)
   ·rw [if_pos c3] at H
    have c3b0 : decide (x8_1 < (l0.length : Int)) = true := decide_eq_true c3
    clear c3
    by_cases c4 : 0 ≤ x8_1
    ·rw [if_pos c4] at H
     have c4b0 : decide (0 ≤ x8_1) = true := decide_eq_true c4
     clear c4
     by_cases c5 : x8_1 < (l0.length : Int)
     ·rw [if_pos c5] at H
      have c5b0 : decide (x8_1 < (l0.length : Int)) = true := decide_eq_true c5
      clear c5
      by_cases c6 : a1.toList = (rdOf ByteArray.empty l0 x8_1).toList
      ·rw [if_pos c6] at H
       have c6b0 : (a1.toList == (rdOf ByteArray.empty l0 x8_1).toList) = true := beq_iff_eq.mpr c6
       have c6b1 : (a1.toList != (rdOf ByteArray.empty l0 x8_1).toList) = false := bne_eq_false_iff_eq.mpr c6
       clear c6
       obtain rfl := Option.some.inj H
       have p194 : 0 ≤ (x8_1 : Int) := of_decide_eq_true (by first | (with_reducible assumption) | assumption)
       have q194 : x8_1 < (l0.length : Int) := of_decide_eq_true (by first | (with_reducible assumption) | assumption)
       obtain ⟨ad194, e194, hx194_0⟩ := Kd.at_string HR0.out x8_1 p194 q194
       cases e194
       replace p194 := eq_true p194
       replace q194 := eq_true q194
       go_wp2
       go_ret
       exact ⟨by first | rfl | (simp; done) | (simp [*]; done), by repeat (first | exact Drawn0.refl _ | apply Drawn0.step)⟩
      ·rw [if_neg c6] at H
       have c6b0 : (a1.toList == (rdOf ByteArray.empty l0 x8_1).toList) = false := beq_eq_false_iff_ne.mpr c6
       have c6b1 : (a1.toList != (rdOf ByteArray.empty l0 x8_1).toList) = true := bne_iff_ne.mpr c6
       have H' := Aside0.mk H
       clear H
       have p194 : 0 ≤ (x8_1 : Int) := of_decide_eq_true (by first | (with_reducible assumption) | assumption)
       have q194 : x8_1 < (l0.length : Int) := of_decide_eq_true (by first | (with_reducible assumption) | assumption)
       obtain ⟨ad194, e194, hx194_0⟩ := Kd.at_string HR0.out x8_1 p194 q194
       cases e194
       replace p194 := eq_true p194
       replace q194 := eq_true q194
       go_wp2
       go_roundg k1
       case measure => have := HK1.out; omega
       case rel => exact ⟨(wrap64 (x8_1 + 1)), (by first | rfl | (simp; done) | (simp [*]; done)), H', ⟨by have := HK1.out; omega⟩, by repeat (first | exact Drawn0.refl _ | apply Drawn0.step)⟩
     ·rw [if_neg c5] at H
      exact absurd H (by simp)
    ·rw [if_neg c4] at H
     exact absurd H (by simp)
   ·rw [if_neg c3] at H
    have c3b0 : decide (x8_1 < (l0.length : Int)) = false := decide_eq_false c3
    clear c3
    obtain rfl := Option.some.inj H
    go_wp2
    go_ret
    exact ⟨by first | rfl | (simp; done) | (simp [*]; done), by repeat (first | exact Drawn0.refl _ | apply Drawn0.step)⟩
def slices_Contains_string_string.f (k : Nat) (l0 : List ByteArray) (a1 : ByteArray) : Option (Bool) := (slices_Index_string_string.f k l0 a1).bind fun t195 => (some (decide (t195 ≥ 0)))
set_option maxHeartbeats 8000000 in
set_option maxRecDepth 100000 in
theorem slices_Contains_string_string.calls (k : Nat) (A0 : Option Addr) (c0 : Nat) (l0 : List ByteArray) (a1 : ByteArray) (r : Bool) (w : World) (hr0 : Kd.C Kd.string w A0 l0.length l0) (hc0 : l0.length ≤ c0) (h : slices_Contains_string_string.f k l0 a1 = some r) :
  Calls Try.prog 55 #[.slice A0 l0.length c0, .string a1] w fun e w' => e = .returned (.bool r) ∧ Drawn0 w w' := by
 have HR0 := Aside0.mk hr0
 have HC0 := Aside0.mk hc0
 clear hr0 hc0
 have H : ((slices_Index_string_string.f k l0 a1).bind fun t195 => (some (decide (t195 ≥ 0)))) = some r := h
 clear h
 replace H := Option.bind_eq_some_iff.mp H
 obtain ⟨t195, A30, H⟩ := H
 replace H : (some (decide (t195 ≥ 0))) = some r := H
 have A3 := Aside0.mk A30
 clear A30
 obtain rfl := Option.some.inj H
 go_enter Try.func55, Try.ntmps55
 go_wp2_with (first | ((with_reducible refine gate_callee (f := 68) rfl ?_); refine goesL_ (some 7) rfl rfl Try.func68 (by kernel_rfl) rfl #[.slice A0 l0.length c0, .string a1] rfl (by (try simp only [List.map_toArray, List.map_cons, List.map_nil]); first | done | rfl | (simp only [List.length_drop, List.length_take]; rfl)) ?_; (with_reducible refine (slices_Index_string_string.calls k _ _ l0 a1 t195 _ ?side1 ?side2 A3.out).mono ?_); (case side1 => repeat (first | exact HR0.out | (with_reducible refine Kd.C_alloc ?_ _) | (with_reducible refine Kd.C_drewN ?_ _) | (with_reducible refine Kd.C_drew ?_))); (case side2 => exact HC0.out); rintro e w' ⟨rfl, ⟨nd, rfl⟩⟩; refine ⟨_, rfl, ?_⟩))
 go_ret
 exact ⟨by first | rfl | (simp; done) | (simp [*]; done), by repeat (first | exact Drawn0.refl _ | apply Drawn0.step)⟩
def impl_Book_isFrame.f (a0_0 : Int) (a0_1 : Int) (a0_2 : Int) (l0_3 : List ByteArray) : Option (Bool) := (impl_within.f (wrap64 (a0_0)) 1 10).bind fun t197 => (if t197 = true then ((impl_within.f (wrap64 (a0_1)) 1 3).bind fun t198 => (if t198 = true then ((impl_within.f (wrap64 (a0_2)) 0 4).bind fun t199 => (some t199)) else (some false))) else (some false))
set_option maxHeartbeats 8000000 in
set_option maxRecDepth 100000 in
theorem impl_Book_isFrame.calls (a0_0 : Int) (a0_1 : Int) (a0_2 : Int) (A0_3 : Option Addr) (c0_3 : Nat) (l0_3 : List ByteArray) (r : Bool) (w : World) (hr0_3 : Kd.C Kd.string w A0_3 l0_3.length l0_3) (hc0_3 : l0_3.length ≤ c0_3) (h : impl_Book_isFrame.f a0_0 a0_1 a0_2 l0_3 = some r) :
  Calls Try.prog 89 #[.agg #[.int .i8 a0_0, .int .i8 a0_1, .int .i8 a0_2, .slice A0_3 l0_3.length c0_3]] w fun e w' => e = .returned (.bool r) ∧ Below w.heap.size w w' := by
 have hu27 := Try.underlying27
 have HR0_3 := Aside0.mk hr0_3
 have HC0_3 := Aside0.mk hc0_3
 clear hr0_3 hc0_3
 have HB := Aside0.mk (Below.refl w.heap.size w)
 have H : ((impl_within.f (wrap64 (a0_0)) 1 10).bind fun t197 => (if t197 = true then ((impl_within.f (wrap64 (a0_1)) 1 3).bind fun t198 => (if t198 = true then ((impl_within.f (wrap64 (a0_2)) 0 4).bind fun t199 => (some t199)) else (some false))) else (some false))) = some r := h
 clear h
 replace H := Option.bind_eq_some_iff.mp H
 obtain ⟨t197, A20, H⟩ := H
 replace H : (if t197 = true then ((impl_within.f (wrap64 (a0_1)) 1 3).bind fun t198 => (if t198 = true then ((impl_within.f (wrap64 (a0_2)) 0 4).bind fun t199 => (some t199)) else (some false))) else (some false)) = some r := H
 have A2 := Aside0.mk A20
 clear A20
 by_cases c3 : t197 = true
 ·subst c3
  have H1 : ((impl_within.f (wrap64 (a0_1)) 1 3).bind fun t198 => (if t198 = true then ((impl_within.f (wrap64 (a0_2)) 0 4).bind fun t199 => (some t199)) else (some false))) = some r := by rw [if_pos rfl] at H; exact H
  clear H
  have H := H1
  clear H1
  replace H := Option.bind_eq_some_iff.mp H
  obtain ⟨t198, A40, H⟩ := H
  replace H : (if t198 = true then ((impl_within.f (wrap64 (a0_2)) 0 4).bind fun t199 => (some t199)) else (some false)) = some r := H
  have A4 := Aside0.mk A40
  clear A40
  by_cases c5 : t198 = true
  ·subst c5
   have H1 : ((impl_within.f (wrap64 (a0_2)) 0 4).bind fun t199 => (some t199)) = some r := by rw [if_pos rfl] at H; exact H
   clear H
   have H := H1
   clear H1
   replace H := Option.bind_eq_some_iff.mp H
   obtain ⟨t199, A60, H⟩ := H
   replace H : (some t199) = some r := H
   have A6 := Aside0.mk A60
   clear A60
   obtain rfl := Option.some.inj H
   go_enter Try.func89, Try.ntmps89
   go_wp2_with (first | ((with_reducible refine gate_dst (N := 1) rfl ?_); refine box_event ?hg (N := 1) ?hd (cs := #[.int .i8 a0_0, .int .i8 a0_1, .int .i8 a0_2, .slice A0_3 l0_3.length c0_3]) (t := 27) ?hr ?_; (case hd => rfl); (case hg => rfl); (case hr => first | (go_simp; done) | (go_simp; rfl)); intro gb196 hg w7 hbox hb; have n0_ := Aside0.mk (below_step (by repeat (first | (with_reducible first | exact HB.out | apply below_alloc | apply pw_below_drewN | apply below_drew1) | exact HB.out)) hb); have n1_ := Aside0.mk (hbox); have n2_ := Aside0.mk ((by rw [hg]; exact (below_size (by repeat (first | (with_reducible first | exact HB.out | apply below_alloc | apply pw_below_drewN | apply below_drew1) | exact HB.out))) : w.heap.size ≤ gb196)); have n3_ := Aside0.mk ((by rw [hg]; exact (below_size (by repeat (first | (with_reducible first | exact HB.out | apply below_alloc | apply pw_below_drewN | apply below_drew1) | exact HB.out))) : w.heap.size ≤ gb196)); clear HB; have HB := n0_; have BK196 := n1_; have GW196 := n2_; have GE196 := n3_; clear n0_ n1_ n2_ n3_; clear hb hbox hg; have hcz8_0 : w7.cell? ⟨gb196, 0, none⟩ = some (.int .i8 a0_0) := (blk_cell BK196.out 0).trans rfl; have hcz8_1 : w7.cell? ⟨gb196, 1, none⟩ = some (.int .i8 a0_1) := (blk_cell BK196.out 1).trans rfl; have hcz8_2 : w7.cell? ⟨gb196, 2, none⟩ = some (.int .i8 a0_2) := (blk_cell BK196.out 2).trans rfl; have hcz8_3 : w7.cell? ⟨gb196, 3, none⟩ = some (.slice A0_3 l0_3.length c0_3) := (blk_cell BK196.out 3).trans rfl; have hfz8_0 := blk_frozen BK196.out 0; have hfz8_1 := blk_frozen BK196.out 1; have hfz8_2 := blk_frozen BK196.out 2; have hfz8_3 := blk_frozen BK196.out 3) | ((with_reducible refine gate_callee (f := 80) rfl ?_); refine goesL_ (some 6) rfl rfl Try.func80 (by kernel_rfl) rfl #[.int .i64 (wrap64 (a0_0)), .int .i64 1, .int .i64 10] rfl (by (try simp only [List.map_toArray, List.map_cons, List.map_nil]); first | done | rfl | (simp only [List.length_drop, List.length_take]; rfl)) ?_; (with_reducible refine (impl_within.calls (wrap64 (a0_0)) 1 10 true _ A2.out).mono ?_); rintro e w' ⟨rfl, ⟨nd, rfl⟩⟩; refine ⟨_, rfl, ?_⟩) | (go_at_call 80; (with_reducible refine (impl_within.calls (wrap64 (a0_1)) 1 3 true _ A4.out).mono ?_); rintro e w' ⟨rfl, ⟨nd, rfl⟩⟩) | (go_at_call 80; (with_reducible refine (impl_within.calls (wrap64 (a0_2)) 0 4 t199 _ A6.out).mono ?_); rintro e w' ⟨rfl, ⟨nd, rfl⟩⟩))
   go_ret
   exact ⟨by first | rfl | (simp [errW_none, errW_some] <;> rfl) | (simp [*, errW_none, errW_some] <;> rfl), by repeat (first | (with_reducible first | exact HB.out | apply below_alloc | apply pw_below_drewN | apply below_drew1 | refine below_set ?_ GE196.out) | exact HB.out)⟩
  ·replace c5 := Bool.eq_false_iff.mpr c5
   subst c5
   have H1 : (some false) = some r := by rw [if_neg (show ¬ (false = true) by decide)] at H; exact H
   clear H
   have H := H1
   clear H1
   obtain rfl := Option.some.inj H
   go_enter Try.func89, Try.ntmps89
   go_wp2_with (first | ((with_reducible refine gate_dst (N := 1) rfl ?_); refine box_event ?hg (N := 1) ?hd (cs := #[.int .i8 a0_0, .int .i8 a0_1, .int .i8 a0_2, .slice A0_3 l0_3.length c0_3]) (t := 27) ?hr ?_; (case hd => rfl); (case hg => rfl); (case hr => first | (go_simp; done) | (go_simp; rfl)); intro gb196 hg w9 hbox hb; have n0_ := Aside0.mk (below_step (by repeat (first | (with_reducible first | exact HB.out | apply below_alloc | apply pw_below_drewN | apply below_drew1) | exact HB.out)) hb); have n1_ := Aside0.mk (hbox); have n2_ := Aside0.mk ((by rw [hg]; exact (below_size (by repeat (first | (with_reducible first | exact HB.out | apply below_alloc | apply pw_below_drewN | apply below_drew1) | exact HB.out))) : w.heap.size ≤ gb196)); have n3_ := Aside0.mk ((by rw [hg]; exact (below_size (by repeat (first | (with_reducible first | exact HB.out | apply below_alloc | apply pw_below_drewN | apply below_drew1) | exact HB.out))) : w.heap.size ≤ gb196)); clear HB; have HB := n0_; have BK196 := n1_; have GW196 := n2_; have GE196 := n3_; clear n0_ n1_ n2_ n3_; clear hb hbox hg; have hcz10_0 : w9.cell? ⟨gb196, 0, none⟩ = some (.int .i8 a0_0) := (blk_cell BK196.out 0).trans rfl; have hcz10_1 : w9.cell? ⟨gb196, 1, none⟩ = some (.int .i8 a0_1) := (blk_cell BK196.out 1).trans rfl; have hcz10_2 : w9.cell? ⟨gb196, 2, none⟩ = some (.int .i8 a0_2) := (blk_cell BK196.out 2).trans rfl; have hcz10_3 : w9.cell? ⟨gb196, 3, none⟩ = some (.slice A0_3 l0_3.length c0_3) := (blk_cell BK196.out 3).trans rfl; have hfz10_0 := blk_frozen BK196.out 0; have hfz10_1 := blk_frozen BK196.out 1; have hfz10_2 := blk_frozen BK196.out 2; have hfz10_3 := blk_frozen BK196.out 3) | ((with_reducible refine gate_callee (f := 80) rfl ?_); refine goesL_ (some 6) rfl rfl Try.func80 (by kernel_rfl) rfl #[.int .i64 (wrap64 (a0_0)), .int .i64 1, .int .i64 10] rfl (by (try simp only [List.map_toArray, List.map_cons, List.map_nil]); first | done | rfl | (simp only [List.length_drop, List.length_take]; rfl)) ?_; (with_reducible refine (impl_within.calls (wrap64 (a0_0)) 1 10 true _ A2.out).mono ?_); rintro e w' ⟨rfl, ⟨nd, rfl⟩⟩; refine ⟨_, rfl, ?_⟩) | (go_at_call 80; (with_reducible refine (impl_within.calls (wrap64 (a0_1)) 1 3 false _ A4.out).mono ?_); rintro e w' ⟨rfl, ⟨nd, rfl⟩⟩))
   go_ret
   exact ⟨by first | rfl | (simp [errW_none, errW_some] <;> rfl) | (simp [*, errW_none, errW_some] <;> rfl), by repeat (first | (with_reducible first | exact HB.out | apply below_alloc | apply pw_below_drewN | apply below_drew1 | refine below_set ?_ GE196.out) | exact HB.out)⟩
 ·replace c3 := Bool.eq_false_iff.mpr c3
  subst c3
  have H1 : (some false) = some r := by rw [if_neg (show ¬ (false = true) by decide)] at H; exact H
  clear H
  have H := H1
  clear H1
  obtain rfl := Option.some.inj H
  go_enter Try.func89, Try.ntmps89
  go_wp2_with (first | ((with_reducible refine gate_dst (N := 1) rfl ?_); refine box_event ?hg (N := 1) ?hd (cs := #[.int .i8 a0_0, .int .i8 a0_1, .int .i8 a0_2, .slice A0_3 l0_3.length c0_3]) (t := 27) ?hr ?_; (case hd => rfl); (case hg => rfl); (case hr => first | (go_simp; done) | (go_simp; rfl)); intro gb196 hg w11 hbox hb; have n0_ := Aside0.mk (below_step (by repeat (first | (with_reducible first | exact HB.out | apply below_alloc | apply pw_below_drewN | apply below_drew1) | exact HB.out)) hb); have n1_ := Aside0.mk (hbox); have n2_ := Aside0.mk ((by rw [hg]; exact (below_size (by repeat (first | (with_reducible first | exact HB.out | apply below_alloc | apply pw_below_drewN | apply below_drew1) | exact HB.out))) : w.heap.size ≤ gb196)); have n3_ := Aside0.mk ((by rw [hg]; exact (below_size (by repeat (first | (with_reducible first | exact HB.out | apply below_alloc | apply pw_below_drewN | apply below_drew1) | exact HB.out))) : w.heap.size ≤ gb196)); clear HB; have HB := n0_; have BK196 := n1_; have GW196 := n2_; have GE196 := n3_; clear n0_ n1_ n2_ n3_; clear hb hbox hg; have hcz12_0 : w11.cell? ⟨gb196, 0, none⟩ = some (.int .i8 a0_0) := (blk_cell BK196.out 0).trans rfl; have hcz12_1 : w11.cell? ⟨gb196, 1, none⟩ = some (.int .i8 a0_1) := (blk_cell BK196.out 1).trans rfl; have hcz12_2 : w11.cell? ⟨gb196, 2, none⟩ = some (.int .i8 a0_2) := (blk_cell BK196.out 2).trans rfl; have hcz12_3 : w11.cell? ⟨gb196, 3, none⟩ = some (.slice A0_3 l0_3.length c0_3) := (blk_cell BK196.out 3).trans rfl; have hfz12_0 := blk_frozen BK196.out 0; have hfz12_1 := blk_frozen BK196.out 1; have hfz12_2 := blk_frozen BK196.out 2; have hfz12_3 := blk_frozen BK196.out 3) | ((with_reducible refine gate_callee (f := 80) rfl ?_); refine goesL_ (some 6) rfl rfl Try.func80 (by kernel_rfl) rfl #[.int .i64 (wrap64 (a0_0)), .int .i64 1, .int .i64 10] rfl (by (try simp only [List.map_toArray, List.map_cons, List.map_nil]); first | done | rfl | (simp only [List.length_drop, List.length_take]; rfl)) ?_; (with_reducible refine (impl_within.calls (wrap64 (a0_0)) 1 10 false _ A2.out).mono ?_); rintro e w' ⟨rfl, ⟨nd, rfl⟩⟩; refine ⟨_, rfl, ?_⟩))
  go_ret
  exact ⟨by first | rfl | (simp [errW_none, errW_some] <;> rfl) | (simp [*, errW_none, errW_some] <;> rfl), by repeat (first | (with_reducible first | exact HB.out | apply below_alloc | apply pw_below_drewN | apply below_drew1 | refine below_set ?_ GE196.out) | exact HB.out)⟩
end Go.Proofs.Ytckpfodpfplaeaa.D
namespace Go.Proofs.Ytckpfodpfplaeaa.Arr
open Go.RowKit Go.Proofs.YtckpfodpfplaeaaW.PrintWords Go.Proofs.YtckpfodpfplaeaaW.PrintLast Go.Proofs.YtckpfodpfplaeaaW.PrintMore Go.Proofs.Ytckpfodpfplaeaa.U Go.Proofs.Ytckpfodpfplaeaa.D
set_option linter.unusedVariables false
set_option linter.unusedSimpArgs false
theorem rdM_get (xs : List (List Int)) (i : Nat) (h : i < xs.length) : rd_L2 xs (i : Int) = xs[i] := by
 simp [rd_L2, List.getElem?_eq_getElem h]
theorem outL_small (K S L : Nat) (hK : K ≤ 10) : ∀ i, i ≤ L → L ≤ 3 → ∀ x ∈ outL K S i, x.length ≤ 3 ∧ 1 ≤ x.length ∧ ∀ y ∈ x, 0 ≤ y ∧ y ≤ 39
 | 0, _, _, x, h => by simp [outL] at h
 | i + 1, hi, h3, x, h => by
  rw [outL, List.mem_append] at h
  rcases h with h | h
  ·exact outL_small K S L hK i (by omega) h3 x h
  ·have := lastL_mem K (i + 1) x (List.mem_filter.1 h).1
   exact ⟨by omega, by omega, fun y hy => by have := this.2 y hy; omega⟩
theorem okBook_in {K L S : Int} {ph : List ByteArray} (h : okBook K L S ph = true) : ((1 ≤ K ∧ K ≤ 10) ∧ (1 ≤ L ∧ L ≤ 3) ∧ (0 ≤ S ∧ S ≤ 4)) ∧ ph.length ≤ 100 ∧ ph.length ≤ (outL K.toNat S.toNat L.toNat).length := by
 unfold okBook at h
 rw [Bool.and_eq_true, Bool.and_eq_true, Bool.and_eq_true] at h
 exact ⟨of_decide_eq_true h.1.1.1, of_decide_eq_true h.1.1.2, of_decide_eq_true h.2⟩
structure BookP (K L S : Int) (ph : List ByteArray) : Prop where
 k : -128 ≤ K ∧ K ≤ 127
 l : -128 ≤ L ∧ L ≤ 127
 s : -128 ≤ S ∧ S ≤ 127
 n : ph.length ≤ 100000000
 p : ∀ s ∈ ph, s.size ≤ 140737488351232
theorem okSt_calls {K L S : Int} {ph : List ByteArray} (hp : BookP K L S ph) {w0 w W : World} {g : Nat} (h : BkSt w0 w g K L S ph W) : Calls Try.prog 47 #[.pointer (some ⟨g, 0, none⟩)] W fun e w' => e = .returned (.bool (okBook K L S ph)) ∧ BkSt w0 w g K L S ph w' ∧ Below w0.heap.size w0 w' :=
 (l03Ok_calls K L S ph g w0 W h.is h.bel hp.k hp.l hp.s hp.n hp.p).mono fun e w' ⟨h1, h2⟩ => ⟨h1, ⟨h2.is, h2.bel, h.keep.trans h2.keep (Or.inl rfl)⟩, h2.bel⟩
theorem meSt_calls {K L S : Int} {ph : List ByteArray} (hk : okBook K L S ph = true) {w0 w W : World} {g : Nat} (h : BkSt w0 w g K L S ph W) : Calls Try.prog 50 #[.pointer (some ⟨g, 0, none⟩)] W fun e w' => ∃ A c, e = .returned (.slice A (outL K.toNat S.toNat L.toNat).length c) ∧ (outL K.toNat S.toNat L.toNat).length ≤ c ∧ Kd.C kM w' A (outL K.toNat S.toNat L.toNat).length (outL K.toNat S.toNat L.toNat) ∧ Below W.heap.size W w' ∧ BkSt w0 w g K L S ph w' := by
 obtain ⟨hin, _, _⟩ := okBook_in hk
 obtain ⟨A6, c6, hb6, _, _⟩ := h.is
 obtain ⟨K, rfl⟩ := Int.eq_ofNat_of_zero_le (show 0 ≤ K by omega)
 obtain ⟨L, rfl⟩ := Int.eq_ofNat_of_zero_le (show 0 ≤ L by omega)
 obtain ⟨S, rfl⟩ := Int.eq_ofNat_of_zero_le (show 0 ≤ S by omega)
 refine (specMeanings_calls K L S A6 ph.length c6 g W hb6 (by omega) (by omega) (by omega) (by omega)).mono ?_
 rintro e w' ⟨v, rfl, hs, hb⟩
 obtain ⟨A, c, rfl, hc, hC⟩ := Kd.S_reads hs
 exact ⟨A, c, rfl, hc, hC, hb, h.below hb⟩
theorem bk_new {K L S : Int} {ph : List ByteArray} {A3 : Option Addr} {c3 : Nat} {w : World} (hr3 : Kd.C Kd.string w A3 ph.length ph) : BkSt w (w.alloc (.cells #[.int .i8 K, .int .i8 L, .int .i8 S, .slice A3 ph.length c3] 27)) w.heap.size K L S ph (w.alloc (.cells #[.int .i8 K, .int .i8 L, .int .i8 S, .slice A3 ph.length c3] 27)) :=
 ⟨IsS27.new w w A3 c3 K L S ph (Below.refl _ _) hr3, below_alloc (Below.refl _ _) _, KeepBut.refl _ _ _⟩
theorem BkSt.cell3 {w0 w w1 : World} {g : Nat} {K L S : Int} {ph : List ByteArray} (h : BkSt w0 w g K L S ph w1) : ∃ A c, w1.cell? ⟨g, 3, none⟩ = some (.slice A ph.length c) ∧ Kd.C Kd.string w1 A ph.length ph ∧ w1.cell? ⟨g, 2, none⟩ = some (.int .i8 S) := by
 obtain ⟨A, c, hb, _, hr⟩ := h.is
 exact ⟨A, c, (blk_cell hb 3).trans rfl, Kd.C_below hr h.bel, (blk_cell hb 2).trans rfl⟩
end Go.Proofs.Ytckpfodpfplaeaa.Arr
namespace Go.Proofs.Ytckpfodpfplaeaa.Arr
open Go.RowKit Go.Proofs.YtckpfodpfplaeaaW.PrintWords Go.Proofs.YtckpfodpfplaeaaW.PrintLast Go.Proofs.YtckpfodpfplaeaaW.PrintMore Go.Proofs.Ytckpfodpfplaeaa.U Go.Proofs.Ytckpfodpfplaeaa.D
set_option linter.unusedVariables false
set_option linter.unusedSimpArgs false
theorem at_kM {w : World} {A : Option Addr} {n : Nat} {xs : List (List Int)} (h : Kd.C kM w A n xs) (i : Nat) (hi : i < xs.length) : ∃ ad A1 c1, A = some ad ∧ w.cell? (ad.add i) = some (.slice A1 (xs[i]).length c1) ∧ (xs[i]).length ≤ c1 ∧ Kd.C (Kd.int .i8) w A1 (xs[i]).length xs[i] := by
 obtain ⟨h1, _, h3⟩ := h
 obtain ⟨ad, e, hc⟩ := h3 (by omega)
 obtain ⟨cs, _, ⟨A1, c1, rfl, hle, hC⟩, hcell⟩ := hc i _ (List.getElem?_eq_getElem hi)
 refine ⟨ad, A1, c1, e, ?_, hle, hC⟩
 have := hcell 0 _ rfl
 simpa [kM, Kd.slice] using this
end Go.Proofs.Ytckpfodpfplaeaa.Arr
namespace Go.Proofs.Ytckpfodpfplaeaa.Arr
open Go.RowKit Go.Proofs.YtckpfodpfplaeaaW.PrintWords Go.Proofs.YtckpfodpfplaeaaW.PrintLast Go.Proofs.YtckpfodpfplaeaaW.PrintMore Go.Proofs.Ytckpfodpfplaeaa.U Go.Proofs.Ytckpfodpfplaeaa.D
set_option linter.unusedVariables false
set_option linter.unusedSimpArgs false
theorem isPhrase_ev (s : ByteArray) (hs : s.size ≤ 140737488351232) : Ev (fun k => impl_isPhrase.f k s) (phrB s) := by
 unfold impl_isPhrase.f
 refine iter (F := fun k (x : Int) => impl_isPhrase.l0 k s (s.size : Int) x) (fun i x => x = (i : Int) ∧ ∀ j : Nat, j < i → 32 ≤ bt s (j : Int) ∧ bt s (j : Int) ≤ 126) _ s.size ?_ ?_ 0 0 (by omega) ⟨rfl, fun j hj => absurd hj (by omega)⟩
 ·rintro i x hi ⟨rfl, hP⟩
  by_cases h1 : 32 ≤ bt s (i : Int) ∧ bt s (i : Int) ≤ 126
  ·refine .inl ⟨((i + 1 : Nat) : Int), ⟨rfl, fun j hj => ?_⟩, fun hgo => ?_⟩
   ·rcases Nat.lt_or_ge j i with h | h
    ·exact hP j h
    ·obtain rfl : j = i := by omega
     exact h1
   ·have hgo2 : Ev (fun k => impl_isPhrase.l0 k s (s.size : Int) (wrap64 ((i : Int) + 1))) (phrB s) := by rw [w64 (by omega) (by omega)]; exact hgo
    refine Ev.step (fun k => by rw [impl_isPhrase.l0]) ?_
    exact pos (by omega) (pos (by omega) (pos (by omega) (neg (by omega) (neg (by omega) hgo2))))
  ·refine .inr ?_
   have hf : phrB s = false := by
    unfold phrB
    rw [decide_eq_false (fun h => h1 (h i hi))]; rfl
   rw [hf]
   refine Ev.step (fun k => by rw [impl_isPhrase.l0]) ?_
   refine pos (by omega) (pos (by omega) (pos (by omega) ?_))
   by_cases h2 : bt s (i : Int) < 32
   ·exact pos h2 (cons rfl)
   ·exact neg h2 (pos (by omega) (cons rfl))
 ·rintro x ⟨rfl, hP⟩
  refine Ev.step (fun k => by rw [impl_isPhrase.l0]) ?_
  refine neg (by omega) (bindc (within_ev' _ _ _) (cons ?_))
  unfold phrB
  rw [decide_eq_true hP]; rfl
theorem index_ev (ph : List ByteArray) (a : ByteArray) (hn : ph.length ≤ 140737488351232) : Ev (fun k => slices_Index_string_string.f k ph a) (fnd ph a) := by
 unfold slices_Index_string_string.f
 refine iter (F := fun k (x : Int) => slices_Index_string_string.l0 k ph a (ph.length : Int) x) (fun i x => x = (i : Int) ∧ ∀ j : Nat, j < i → ∀ y, ph[j]? = some y → decide (y.toList = a.toList) = false) _ ph.length ?_ ?_ 0 0 (by omega) ⟨rfl, fun j hj => absurd hj (by omega)⟩
 ·rintro i x hi ⟨rfl, hP⟩
  have hg := rdOf_get ph i hi
  by_cases h1 : ph[i].toList = a.toList
  ·refine .inr ?_
   rw [show fnd ph a = (i : Int) from ixa_found _ ph i ph[i] (List.getElem?_eq_getElem hi) hP (decide_eq_true h1)]
   refine Ev.step (fun k => by rw [slices_Index_string_string.l0]) ?_
   exact pos (by omega) (pos (by omega) (pos (by omega) (pos (by rw [hg]; exact h1.symm) (cons rfl))))
  ·refine .inl ⟨((i + 1 : Nat) : Int), ⟨rfl, fun j hj y hy => ?_⟩, fun hgo => ?_⟩
   ·rcases Nat.lt_or_ge j i with h | h
    ·exact hP j h y hy
    ·obtain rfl : j = i := by omega
     rw [List.getElem?_eq_getElem hi] at hy
     rw [← Option.some.inj hy]; exact decide_eq_false h1
   ·have hgo2 : Ev (fun k => slices_Index_string_string.l0 k ph a (ph.length : Int) (wrap64 ((i : Int) + 1))) (fnd ph a) := by rw [w64 (by omega) (by omega)]; exact hgo
    refine Ev.step (fun k => by rw [slices_Index_string_string.l0]) ?_
    exact pos (by omega) (pos (by omega) (pos (by omega) (neg (by rw [hg]; exact fun e => h1 e.symm) hgo2)))
 ·rintro x ⟨rfl, hP⟩
  refine Ev.step (fun k => by rw [slices_Index_string_string.l0]) ?_
  exact neg (by omega) (cons (by rw [show fnd ph a = -1 from ixa_none _ ph hP]))
def hasP (ph : List ByteArray) (a : ByteArray) : Bool := decide (0 ≤ fnd ph a)
theorem contains_ev (ph : List ByteArray) (a : ByteArray) (hn : ph.length ≤ 140737488351232) : Ev (fun k => slices_Contains_string_string.f k ph a) (hasP ph a) := by
 unfold slices_Contains_string_string.f
 exact Ev.bind (index_ev ph a hn) (cons rfl)
theorem ixa_at {α : Type} (p : α → Bool) (l : List α) (i : Nat) (h : ixa p l = (i : Int)) : ∀ j, j < i → ∀ y, l[j]? = some y → p y = false := by
 unfold ixa at h
 cases hf : l.findIdx? p with
 | none => rw [hf] at h; simp at h
 | some k =>
  rw [hf] at h
  simp only [Int.natCast_inj] at h
  subst h
  rw [List.findIdx?_eq_some_iff_getElem] at hf
  obtain ⟨hk, _, hall⟩ := hf
  intro j hj y hy
  have := hall j hj
  rw [List.getElem?_eq_getElem (by omega)] at hy
  rw [← Option.some.inj hy]
  simpa using this
theorem hasP_take (ph : List ByteArray) (i : Nat) (hi : i < ph.length) : hasP (ph.take i) ph[i] = !decide (fnd ph ph[i] = (i : Int)) := by
 unfold hasP fnd
 rw [ixa_any]
 by_cases h : ixa (fun x : ByteArray => decide (x.toList = ph[i].toList)) ph = (i : Int)
 ·rw [decide_eq_true h]
  have hall := ixa_at _ ph i h
  rw [show (!true) = false from rfl, List.any_eq_false]
  intro y hy
  obtain ⟨j, hj, rfl⟩ := List.getElem_of_mem hy
  rw [List.length_take] at hj
  have := hall j (by omega) ph[j] (List.getElem?_eq_getElem (by omega))
  rw [List.getElem_take]
  simpa using this
 ·rw [decide_eq_false h]
  cases ha : (ph.take i).any fun x => decide (x.toList = ph[i].toList) with
  | true => rfl
  | false =>
   exfalso
   rw [List.any_eq_false] at ha
   refine h (ixa_found _ ph i ph[i] (List.getElem?_eq_getElem hi) (fun j hj y hy => ?_) (decide_eq_true rfl))
   have hy2 : y ∈ ph.take i := List.mem_of_getElem? (i := j) (by rw [List.getElem?_take, if_pos hj]; exact hy)
   have := ha y hy2
   simpa using this
theorem phOk_take (ph : List ByteArray) (i : Nat) (hi : i < ph.length) : phOk ph i = (phrB (rdOf ByteArray.empty ph (i : Int)) && !hasP (ph.take i) (rdOf ByteArray.empty ph (i : Int))) := by
 unfold phOk
 rw [rdOf_get ph i hi, hasP_take ph i hi, Bool.not_not]
theorem isFrame_f (K L S : Int) (ph : List ByteArray) (hK : -128 ≤ K ∧ K ≤ 127) (hL : -128 ≤ L ∧ L ≤ 127) (hS : -128 ≤ S ∧ S ≤ 127) : impl_Book_isFrame.f K L S ph = some (sizedB K L S) := by
 unfold impl_Book_isFrame.f sizedB
 rw [w64 (by omega) (by omega), w64 (by omega) (by omega), w64 (by omega) (by omega), within_ev', within_ev', within_ev']
 by_cases h1 : 1 ≤ K ∧ K ≤ 10 <;> by_cases h2 : 1 ≤ L ∧ L ≤ 3 <;> simp [h1, h2]
theorem C_takeS {w : World} {A : Option Addr} {n : Nat} {xs : List ByteArray} (h : Kd.C Kd.string w A n xs) (m : Nat) (hm : m ≤ n) : Kd.C Kd.string w A m (xs.take m) := by
 obtain ⟨h1, h2, h3⟩ := h
 refine ⟨by rw [List.length_take]; omega, by omega, fun h0 => ?_⟩
 obtain ⟨ad, e, hc⟩ := h3 (by omega)
 refine ⟨ad, e, fun j p hj => hc j p ?_⟩
 have hjm := (List.getElem?_eq_some_iff.1 hj).1
 rw [List.length_take] at hjm
 rwa [List.getElem?_take, if_pos (by omega)] at hj
section
variable {P : Program} {o : Oper} {a : Act}
theorem y_row {ty : TypeId} {x : Operand} (ho : o.op = .load ty x) {g m : Nat} (hx : a.eval x = .pointer (some ⟨g, 0, none⟩)) {cs : Array Value} {t : TypeId} {w' : World} (hc : w'.heap[g]? = some (.cells cs t (0, 0))) (hi2 : AggTy P ty m) (hl : cs.size = m) : (execOp a.eval o).run P w' = .ok (.value (.agg cs)) w' := by
 obtain ⟨hd, hi0⟩ := hi2
 have hi : (P.info? ty).map (·.size) = some cs.size := by rw [hl]; exact hi0
 cases hu : P.underlying ty with
 | none => simp [hu] at hd
 | some d =>
  have h := run_loadVar_row (P := P) w' g t ty cs (0, 0) d hc hu (by cases d <;> simp_all) hi
  unfold execOp
  simp only [ho, hx, Instr.loadAt, Instr.sureAddr, Sem.run_bind, Sem.run_pure, Result.andThen_ok, h]
end
theorem aggBook : AggTy Try.prog 27 4 := ⟨by kernel_rfl, by kernel_rfl⟩
def BkIn (w : World) (K L S : Int) (A3 : Option Addr) (n3 c3 : Nat) (w' : World) : Prop := Below w.heap.size w w' ∧ w'.heap[w.heap.size]? = some (.cells #[.int .i8 K, .int .i8 L, .int .i8 S, .slice A3 n3 c3] 27 (0, 0))
theorem BkIn.below {w w1 w2 : World} {K L S : Int} {A3 : Option Addr} {n3 c3 : Nat} (h : BkIn w K L S A3 n3 c3 w1) (hb : Below w1.heap.size w1 w2) : BkIn w K L S A3 n3 c3 w2 := ⟨h.1.trans (hb.mono h.1.size), (hb.block _ (lt_of_some h.2)).trans h.2⟩
theorem BkIn.drew {w w1 : World} {K L S : Int} {A3 : Option Addr} {n3 c3 : Nat} (h : BkIn w K L S A3 n3 c3 w1) : BkIn w K L S A3 n3 c3 w1.drew := ⟨below_drew1 h.1, h.2⟩
theorem bkIn_new (w : World) (K L S : Int) (A3 : Option Addr) (n3 c3 : Nat) : BkIn w K L S A3 n3 c3 (w.alloc (.cells #[.int .i8 K, .int .i8 L, .int .i8 S, .slice A3 n3 c3] 27)) := ⟨below_alloc (Below.refl _ _) _, heap_alloc_new w _⟩
set_option maxHeartbeats 8000000 in
set_option maxRecDepth 100000 in
theorem validBook_calls (bK bL bS : Int) (A3 : Option Addr) (c3 : Nat) (ph : List ByteArray) (w : World) (hp : BookP bK bL bS ph) (hr3 : Kd.C Kd.string w A3 ph.length ph) (hc3 : ph.length ≤ c3) :
  Calls Try.prog 53 #[.agg #[.int .i8 bK, .int .i8 bL, .int .i8 bS, .slice A3 ph.length c3]] w fun e w' => e = .returned (.bool (okBook bK bL bS ph)) ∧ Below w.heap.size w w' := by
 have HF := Aside0.mk (fun W (hW : Below w.heap.size w W) => impl_Book_isFrame.calls bK bL bS A3 c3 ph _ W (Kd.C_below hr3 hW) hc3 (isFrame_f bK bL bS ph hp.k hp.l hp.s))
 have HR3 := Aside0.mk hr3
 have hmx := Kd.C_max hr3
 have hn := hp.n
 have HB0 := Aside0.mk (bkIn_new w bK bL bS A3 ph.length c3)
 cases hz : sizedB bK bL bS with
 | false =>
  have HX := Aside0.mk (show okBook bK bL bS ph = false by unfold okBook; rw [hz]; rfl)
  rw [hz] at HF
  clear hz hr3 hp
  go_enter Try.func53, Try.ntmps53
  go_wp2_with fail
  refine start_ (n := 18) (S := fun w' => BkIn w bK bL bS A3 ph.length c3 w') (ds := []) #[false, false, false, false, false, false, false, false, false, false, false, false, false, false, false, false, false, false] (by kernel_rfl) rfl rfl (HB0.out.drew) (fun hHeld => ?_)
  refine take_ (i := 0) (N := some 5) (v := .agg #[.int .i8 bK, .int .i8 bL, .int .i8 bS, .slice A3 ph.length c3]) (a' := ?_) #[true, false, false, false, false, false, false, false, false, false, false, false, false, false, false, false, false, false] rfl rfl (by kernel_rfl) (fun _ _ _ h => h) (Or.inl ⟨by rfl, ?_⟩) hHeld ?_ ?_
  ·intro w' s0
   exact y_row (by rfl) (by rfl) s0.2 aggBook rfl
  rotate_left
  ·simp only [Act.put, List.setIfInBounds_toArray, List.set_cons_zero, List.set_cons_succ, i64_w, i32_w]
   rfl
  refine one_ (i := 1) (N := some 6) #[true, true, false, false, false, false, false, false, false, false, false, false, false, false, false, false, false, false] rfl rfl (by kernel_rfl) (by decide) (fun K hK => ?_)
  refine goes_ Try.func89 (by kernel_rfl) rfl #[.agg #[.int .i8 bK, .int .i8 bL, .int .i8 bS, .slice A3 ph.length c3]] (by rfl) rfl rfl (by simp only [List.map_toArray, List.map_cons, List.map_nil]; rfl) ?_
  refine (HF.out _ hHeld.1).mono ?_
  rintro e w1 ⟨rfl, hb1⟩
  refine ⟨_, rfl, ?_⟩
  refine hK.out _ _ (hHeld.below hb1) (fun hHeld => ?_)
  clear hK K
  refine norm_ (a' := ?_) ?_ ?_
  rotate_left
  ·show Act.put _ (some 6) _ = _
   simp only [Act.put, List.setIfInBounds_toArray, List.set_cons_zero, List.set_cons_succ, i64_w, i32_w]
   rfl
  refine pure_ (i := 2) (N := some 7) (v := ?_) (a' := ?_) #[true, true, true, false, false, false, false, false, false, false, false, false, false, false, false, false, false, false] rfl rfl (by kernel_rfl) (fun _ _ _ h => h) (Or.inl ⟨by rfl, ?_⟩) ?_ ?_
  rotate_left
  ·intro w'
   go_simp
   with_reducible rfl
  rotate_left
  ·simp only [Act.put, List.setIfInBounds_toArray, List.set_cons_zero, List.set_cons_succ, i64_w, i32_w]
   rfl
  refine pure_ (i := 3) (N := some 8) (v := ?_) (a' := ?_) #[true, true, true, true, false, false, false, false, false, false, false, false, false, false, false, false, false, false] rfl rfl (by kernel_rfl) (fun _ _ _ h => h) (Or.inl ⟨by rfl, ?_⟩) ?_ ?_
  rotate_left
  ·intro w'
   go_simp
   with_reducible rfl
  rotate_left
  ·simp only [Act.put, List.setIfInBounds_toArray, List.set_cons_zero, List.set_cons_succ, i64_w, i32_w]
   rfl
  refine pure_ (i := 4) (N := some 9) (v := undef) (a' := ?_) #[true, true, true, true, true, false, false, false, false, false, false, false, false, false, false, false, false, false] rfl rfl (by kernel_rfl) (fun _ _ _ h => h) (Or.inr ⟨by rfl, rfl⟩) ?_ ?_
  rotate_left
  ·simp only [Act.put, List.setIfInBounds_toArray, List.set_cons_zero, List.set_cons_succ, i64_w, i32_w]
   rfl
  refine pure_ (i := 5) (N := some 10) (v := undef) (a' := ?_) #[true, true, true, true, true, true, false, false, false, false, false, false, false, false, false, false, false, false] rfl rfl (by kernel_rfl) (fun _ _ _ h => h) (Or.inr ⟨by rfl, rfl⟩) ?_ ?_
  rotate_left
  ·simp only [Act.put, List.setIfInBounds_toArray, List.set_cons_zero, List.set_cons_succ, i64_w, i32_w]
   rfl
  refine pure_ (i := 6) (N := some 11) (v := undef) (a' := ?_) #[true, true, true, true, true, true, true, false, false, false, false, false, false, false, false, false, false, false] rfl rfl (by kernel_rfl) (fun _ _ _ h => h) (Or.inr ⟨by rfl, rfl⟩) ?_ ?_
  rotate_left
  ·simp only [Act.put, List.setIfInBounds_toArray, List.set_cons_zero, List.set_cons_succ, i64_w, i32_w]
   rfl
  refine pure_ (i := 7) (N := some 12) (v := undef) (a' := ?_) #[true, true, true, true, true, true, true, true, false, false, false, false, false, false, false, false, false, false] rfl rfl (by kernel_rfl) (fun _ _ _ h => h) (Or.inr ⟨by rfl, rfl⟩) ?_ ?_
  rotate_left
  ·simp only [Act.put, List.setIfInBounds_toArray, List.set_cons_zero, List.set_cons_succ, i64_w, i32_w]
   rfl
  refine pure_ (i := 8) (N := some 13) (v := ?_) (a' := ?_) #[true, true, true, true, true, true, true, true, true, false, false, false, false, false, false, false, false, false] rfl rfl (by kernel_rfl) (fun _ _ _ h => h) (Or.inl ⟨by rfl, ?_⟩) ?_ ?_
  rotate_left
  ·intro w'
   go_simp
   with_reducible rfl
  rotate_left
  ·simp only [Act.put, List.setIfInBounds_toArray, List.set_cons_zero, List.set_cons_succ, i64_w, i32_w]
   rfl
  refine pure_ (i := 9) (N := some 14) (v := ?_) (a' := ?_) #[true, true, true, true, true, true, true, true, true, true, false, false, false, false, false, false, false, false] rfl rfl (by kernel_rfl) (fun _ _ _ h => h) (Or.inl ⟨by rfl, ?_⟩) ?_ ?_
  rotate_left
  ·intro w'
   go_simp
   with_reducible rfl
  rotate_left
  ·simp only [Act.put, List.setIfInBounds_toArray, List.set_cons_zero, List.set_cons_succ, i64_w, i32_w]
   rfl
  refine pure_ (i := 10) (N := some 15) (v := undef) (a' := ?_) #[true, true, true, true, true, true, true, true, true, true, true, false, false, false, false, false, false, false] rfl rfl (by kernel_rfl) (fun _ _ _ h => h) (Or.inr ⟨by rfl, rfl⟩) ?_ ?_
  rotate_left
  ·simp only [Act.put, List.setIfInBounds_toArray, List.set_cons_zero, List.set_cons_succ, i64_w, i32_w]
   rfl
  refine pure_ (i := 11) (N := some 16) (v := undef) (a' := ?_) #[true, true, true, true, true, true, true, true, true, true, true, true, false, false, false, false, false, false] rfl rfl (by kernel_rfl) (fun _ _ _ h => h) (Or.inr ⟨by rfl, rfl⟩) ?_ ?_
  rotate_left
  ·simp only [Act.put, List.setIfInBounds_toArray, List.set_cons_zero, List.set_cons_succ, i64_w, i32_w]
   rfl
  refine pure_ (i := 12) (N := some 17) (v := undef) (a' := ?_) #[true, true, true, true, true, true, true, true, true, true, true, true, true, false, false, false, false, false] rfl rfl (by kernel_rfl) (fun _ _ _ h => h) (Or.inr ⟨by rfl, rfl⟩) ?_ ?_
  rotate_left
  ·simp only [Act.put, List.setIfInBounds_toArray, List.set_cons_zero, List.set_cons_succ, i64_w, i32_w]
   rfl
  refine pure_ (i := 13) (N := some 18) (v := undef) (a' := ?_) #[true, true, true, true, true, true, true, true, true, true, true, true, true, true, false, false, false, false] rfl rfl (by kernel_rfl) (fun _ _ _ h => h) (Or.inr ⟨by rfl, rfl⟩) ?_ ?_
  rotate_left
  ·simp only [Act.put, List.setIfInBounds_toArray, List.set_cons_zero, List.set_cons_succ, i64_w, i32_w]
   rfl
  refine pure_ (i := 14) (N := some 19) (v := undef) (a' := ?_) #[true, true, true, true, true, true, true, true, true, true, true, true, true, true, true, false, false, false] rfl rfl (by kernel_rfl) (fun _ _ _ h => h) (Or.inr ⟨by rfl, rfl⟩) ?_ ?_
  rotate_left
  ·simp only [Act.put, List.setIfInBounds_toArray, List.set_cons_zero, List.set_cons_succ, i64_w, i32_w]
   rfl
  refine pure_ (i := 15) (N := some 20) (v := undef) (a' := ?_) #[true, true, true, true, true, true, true, true, true, true, true, true, true, true, true, true, false, false] rfl rfl (by kernel_rfl) (fun _ _ _ h => h) (Or.inr ⟨by rfl, rfl⟩) ?_ ?_
  rotate_left
  ·simp only [Act.put, List.setIfInBounds_toArray, List.set_cons_zero, List.set_cons_succ, i64_w, i32_w]
   rfl
  refine pure_ (i := 16) (N := some 21) (v := undef) (a' := ?_) #[true, true, true, true, true, true, true, true, true, true, true, true, true, true, true, true, true, false] rfl rfl (by kernel_rfl) (fun _ _ _ h => h) (Or.inr ⟨by rfl, rfl⟩) ?_ ?_
  rotate_left
  ·simp only [Act.put, List.setIfInBounds_toArray, List.set_cons_zero, List.set_cons_succ, i64_w, i32_w]
   rfl
  refine pure_ (i := 17) (N := some 22) (v := ?_) (a' := ?_) #[true, true, true, true, true, true, true, true, true, true, true, true, true, true, true, true, true, true] rfl rfl (by kernel_rfl) (fun _ _ _ h => h) (Or.inl ⟨by rfl, ?_⟩) ?_ ?_
  rotate_left
  ·intro w'
   go_simp
   with_reducible rfl
  rotate_left
  ·simp only [Act.put, List.setIfInBounds_toArray, List.set_cons_zero, List.set_cons_succ, i64_w, i32_w]
   rfl
  refine done_ (by kernel_rfl) ?_
  skip
  go_wp2_with fail
  go_ret
  exact ⟨by rw [HX.out]; rfl, hHeld.1⟩
 | true =>
  have HZ := Aside0.mk hz
  have hzz := of_decide_eq_true hz
  rw [hz] at HF
  by_cases h100 : ph.length ≤ 100
  ·have hle : ¬ (100 : Int) < (ph.length : Int) := by omega
   have hle2 := decide_eq_false hle
   have HME : Aside0 (∀ W, Calls Try.prog 56 #[.agg #[.int .i8 bK, .int .i8 bL, .int .i8 bS, .slice A3 ph.length c3]] W fun e w' => ∃ A c, e = .returned (.slice A (outL bK.toNat bS.toNat bL.toNat).length c) ∧ Below W.heap.size W w') := ⟨fun W => by
    obtain ⟨bK, rfl⟩ := Int.eq_ofNat_of_zero_le (show 0 ≤ bK by omega)
    obtain ⟨bL, rfl⟩ := Int.eq_ofNat_of_zero_le (show 0 ≤ bL by omega)
    obtain ⟨bS, rfl⟩ := Int.eq_ofNat_of_zero_le (show 0 ≤ bS by omega)
    refine (implMeanings_calls bK bL bS A3 ph.length c3 W (by omega) (by omega) (by omega) (by omega)).mono ?_
    rintro e w' ⟨v, rfl, hs, hb⟩
    obtain ⟨A, c, rfl, _, _⟩ := Kd.S_reads hs
    exact ⟨A, c, rfl, hb⟩⟩
   have HOB := Aside0.mk (show okBook bK bL bS ph = (decide (∀ i : Nat, i < ph.length → phOk ph i = true) && decide (ph.length ≤ (outL bK.toNat bS.toNat bL.toNat).length)) by
    unfold okBook; rw [hz, decide_eq_true h100]; simp)
   have hle3 := outL_le bK.toNat bS.toNat (by omega) bL.toNat (by omega)
   have hout : (outL bK.toNat bS.toNat bL.toNat).length ≤ 3000 := by omega
   have HPS := Aside0.mk hp.p
   clear hz hr3 hzz hp hle3
   generalize outL bK.toNat bS.toNat bL.toNat = O at *
   by_cases hlo : ph.length ≤ O.length
   ·have hlo1 : ¬ ((O.length : Int) < (ph.length : Int)) := by omega
    have hlo2 := decide_eq_false hlo1
    have hlo3 := decide_eq_false (show ¬ O.length < ph.length by omega)
    have HOB2 := Aside0.mk (show okBook bK bL bS ph = decide (∀ i : Nat, i < ph.length → phOk ph i = true) by rw [HOB.out, decide_eq_true hlo]; simp)
    go_enter Try.func53, Try.ntmps53
    go_wp2_with fail
    refine start_ (n := 18) (S := fun w' => BkIn w bK bL bS A3 ph.length c3 w') (ds := []) #[false, false, false, false, false, false, false, false, false, false, false, false, false, false, false, false, false, false] (by kernel_rfl) rfl rfl (HB0.out.drew) (fun hHeld => ?_)
    refine take_ (i := 0) (N := some 5) (v := .agg #[.int .i8 bK, .int .i8 bL, .int .i8 bS, .slice A3 ph.length c3]) (a' := ?_) #[true, false, false, false, false, false, false, false, false, false, false, false, false, false, false, false, false, false] rfl rfl (by kernel_rfl) (fun _ _ _ h => h) (Or.inl ⟨by rfl, ?_⟩) hHeld ?_ ?_
    ·intro w' s0
     exact y_row (by rfl) (by rfl) s0.2 aggBook rfl
    rotate_left
    ·simp only [Act.put, List.setIfInBounds_toArray, List.set_cons_zero, List.set_cons_succ, i64_w, i32_w]
     rfl
    refine one_ (i := 1) (N := some 6) #[true, true, false, false, false, false, false, false, false, false, false, false, false, false, false, false, false, false] rfl rfl (by kernel_rfl) (by decide) (fun K hK => ?_)
    refine goes_ Try.func89 (by kernel_rfl) rfl #[.agg #[.int .i8 bK, .int .i8 bL, .int .i8 bS, .slice A3 ph.length c3]] (by rfl) rfl rfl (by simp only [List.map_toArray, List.map_cons, List.map_nil]; rfl) ?_
    refine (HF.out _ hHeld.1).mono ?_
    rintro e w1 ⟨rfl, hb1⟩
    refine ⟨_, rfl, ?_⟩
    refine hK.out _ _ (hHeld.below hb1) (fun hHeld => ?_)
    clear hK K
    refine norm_ (a' := ?_) ?_ ?_
    rotate_left
    ·show Act.put _ (some 6) _ = _
     simp only [Act.put, List.setIfInBounds_toArray, List.set_cons_zero, List.set_cons_succ, i64_w, i32_w]
     rfl
    refine pure_ (i := 2) (N := some 7) (v := ?_) (a' := ?_) #[true, true, true, false, false, false, false, false, false, false, false, false, false, false, false, false, false, false] rfl rfl (by kernel_rfl) (fun _ _ _ h => h) (Or.inl ⟨by rfl, ?_⟩) ?_ ?_
    rotate_left
    ·intro w'
     go_simp
     with_reducible rfl
    rotate_left
    ·simp only [Act.put, List.setIfInBounds_toArray, List.set_cons_zero, List.set_cons_succ, i64_w, i32_w]
     rfl
    refine pure_ (i := 3) (N := some 8) (v := ?_) (a' := ?_) #[true, true, true, true, false, false, false, false, false, false, false, false, false, false, false, false, false, false] rfl rfl (by kernel_rfl) (fun _ _ _ h => h) (Or.inl ⟨by rfl, ?_⟩) ?_ ?_
    rotate_left
    ·intro w'
     go_simp
     with_reducible rfl
    rotate_left
    ·simp only [Act.put, List.setIfInBounds_toArray, List.set_cons_zero, List.set_cons_succ, i64_w, i32_w]
     rfl
    refine pure_ (i := 4) (N := some 9) (v := ?_) (a' := ?_) #[true, true, true, true, true, false, false, false, false, false, false, false, false, false, false, false, false, false] rfl rfl (by kernel_rfl) (fun _ _ _ h => h) (Or.inl ⟨by rfl, ?_⟩) ?_ ?_
    rotate_left
    ·intro w'
     go_simp
     with_reducible rfl
    rotate_left
    ·simp only [Act.put, List.setIfInBounds_toArray, List.set_cons_zero, List.set_cons_succ, i64_w, i32_w]
     rfl
    refine take_ (i := 5) (N := some 10) (v := .slice A3 ph.length c3) (a' := ?_) #[true, true, true, true, true, true, false, false, false, false, false, false, false, false, false, false, false, false] rfl rfl (by kernel_rfl) (fun _ _ _ h => h) (Or.inl ⟨by rfl, ?_⟩) hHeld ?_ ?_
    ·intro w' s0
     exact y_cell (by rfl) (by rfl) oneStrS ((cell_of_row _ w.heap.size 3 _ _ (0, 0) s0.2).trans rfl)
    rotate_left
    ·simp only [Act.put, List.setIfInBounds_toArray, List.set_cons_zero, List.set_cons_succ, i64_w, i32_w]
     rfl
    refine pure_ (i := 6) (N := some 11) (v := ?_) (a' := ?_) #[true, true, true, true, true, true, true, false, false, false, false, false, false, false, false, false, false, false] rfl rfl (by kernel_rfl) (fun _ _ _ h => h) (Or.inl ⟨by rfl, ?_⟩) ?_ ?_
    rotate_left
    ·intro w'
     go_simp
     with_reducible rfl
    rotate_left
    ·simp only [Act.put, List.setIfInBounds_toArray, List.set_cons_zero, List.set_cons_succ, i64_w, i32_w]
     rfl
    refine pure_ (i := 7) (N := some 12) (v := ?_) (a' := ?_) #[true, true, true, true, true, true, true, true, false, false, false, false, false, false, false, false, false, false] rfl rfl (by kernel_rfl) (fun _ _ _ h => h) (Or.inl ⟨by rfl, ?_⟩) ?_ ?_
    rotate_left
    ·intro w'
     go_simp
     with_reducible rfl
    rotate_left
    ·simp only [Act.put, List.setIfInBounds_toArray, List.set_cons_zero, List.set_cons_succ, i64_w, i32_w]
     rfl
    refine pure_ (i := 8) (N := some 13) (v := ?_) (a' := ?_) #[true, true, true, true, true, true, true, true, true, false, false, false, false, false, false, false, false, false] rfl rfl (by kernel_rfl) (fun _ _ _ h => h) (Or.inl ⟨by rfl, ?_⟩) ?_ ?_
    rotate_left
    ·intro w'
     go_simp
     with_reducible rfl
    rotate_left
    ·simp only [Act.put, List.setIfInBounds_toArray, List.set_cons_zero, List.set_cons_succ, i64_w, i32_w]
     rfl
    refine pure_ (i := 9) (N := some 14) (v := ?_) (a' := ?_) #[true, true, true, true, true, true, true, true, true, true, false, false, false, false, false, false, false, false] rfl rfl (by kernel_rfl) (fun _ _ _ h => h) (Or.inl ⟨by rfl, ?_⟩) ?_ ?_
    rotate_left
    ·intro w'
     go_simp
     with_reducible rfl
    rotate_left
    ·simp only [Act.put, List.setIfInBounds_toArray, List.set_cons_zero, List.set_cons_succ, i64_w, i32_w]
     rfl
    refine pure_ (i := 10) (N := some 15) (v := ?_) (a' := ?_) #[true, true, true, true, true, true, true, true, true, true, true, false, false, false, false, false, false, false] rfl rfl (by kernel_rfl) (fun _ _ _ h => h) (Or.inl ⟨by rfl, ?_⟩) ?_ ?_
    rotate_left
    ·intro w'
     go_simp
     with_reducible rfl
    rotate_left
    ·simp only [Act.put, List.setIfInBounds_toArray, List.set_cons_zero, List.set_cons_succ, i64_w, i32_w]
     rfl
    refine take_ (i := 11) (N := some 16) (v := .slice A3 ph.length c3) (a' := ?_) #[true, true, true, true, true, true, true, true, true, true, true, true, false, false, false, false, false, false] rfl rfl (by kernel_rfl) (fun _ _ _ h => h) (Or.inl ⟨by rfl, ?_⟩) hHeld ?_ ?_
    ·intro w' s0
     exact y_cell (by rfl) (by rfl) oneStrS ((cell_of_row _ w.heap.size 3 _ _ (0, 0) s0.2).trans rfl)
    rotate_left
    ·simp only [Act.put, List.setIfInBounds_toArray, List.set_cons_zero, List.set_cons_succ, i64_w, i32_w]
     rfl
    refine pure_ (i := 12) (N := some 17) (v := ?_) (a' := ?_) #[true, true, true, true, true, true, true, true, true, true, true, true, true, false, false, false, false, false] rfl rfl (by kernel_rfl) (fun _ _ _ h => h) (Or.inl ⟨by rfl, ?_⟩) ?_ ?_
    rotate_left
    ·intro w'
     go_simp
     with_reducible rfl
    rotate_left
    ·simp only [Act.put, List.setIfInBounds_toArray, List.set_cons_zero, List.set_cons_succ, i64_w, i32_w]
     rfl
    refine take_ (i := 13) (N := some 18) (v := .agg #[.int .i8 bK, .int .i8 bL, .int .i8 bS, .slice A3 ph.length c3]) (a' := ?_) #[true, true, true, true, true, true, true, true, true, true, true, true, true, true, false, false, false, false] rfl rfl (by kernel_rfl) (fun _ _ _ h => h) (Or.inl ⟨by rfl, ?_⟩) hHeld ?_ ?_
    ·intro w' s0
     exact y_row (by rfl) (by rfl) s0.2 aggBook rfl
    rotate_left
    ·simp only [Act.put, List.setIfInBounds_toArray, List.set_cons_zero, List.set_cons_succ, i64_w, i32_w]
     rfl
    refine one_ (i := 14) (N := some 19) #[true, true, true, true, true, true, true, true, true, true, true, true, true, true, true, false, false, false] rfl rfl (by kernel_rfl) (by decide) (fun K hK => ?_)
    refine goes_ Try.func56 (by kernel_rfl) rfl #[.agg #[.int .i8 bK, .int .i8 bL, .int .i8 bS, .slice A3 ph.length c3]] (by rfl) rfl rfl (by simp only [List.map_toArray, List.map_cons, List.map_nil]; rfl) ?_
    refine (HME.out _).mono ?_
    rintro e w2 ⟨A7, c7, rfl, hb2⟩
    refine ⟨_, rfl, ?_⟩
    refine hK.out _ _ (hHeld.below hb2) (fun hHeld => ?_)
    clear hK K
    refine norm_ (a' := ?_) ?_ ?_
    rotate_left
    ·show Act.put _ (some 19) _ = _
     simp only [Act.put, List.setIfInBounds_toArray, List.set_cons_zero, List.set_cons_succ, i64_w, i32_w]
     rfl
    refine pure_ (i := 15) (N := some 20) (v := ?_) (a' := ?_) #[true, true, true, true, true, true, true, true, true, true, true, true, true, true, true, true, false, false] rfl rfl (by kernel_rfl) (fun _ _ _ h => h) (Or.inl ⟨by rfl, ?_⟩) ?_ ?_
    rotate_left
    ·intro w'
     go_simp
     with_reducible rfl
    rotate_left
    ·simp only [Act.put, List.setIfInBounds_toArray, List.set_cons_zero, List.set_cons_succ, i64_w, i32_w]
     rfl
    refine pure_ (i := 16) (N := some 21) (v := ?_) (a' := ?_) #[true, true, true, true, true, true, true, true, true, true, true, true, true, true, true, true, true, false] rfl rfl (by kernel_rfl) (fun _ _ _ h => h) (Or.inl ⟨by rfl, ?_⟩) ?_ ?_
    rotate_left
    ·intro w'
     go_simp
     with_reducible rfl
    rotate_left
    ·simp only [Act.put, List.setIfInBounds_toArray, List.set_cons_zero, List.set_cons_succ, i64_w, i32_w]
     rfl
    refine pure_ (i := 17) (N := some 22) (v := ?_) (a' := ?_) #[true, true, true, true, true, true, true, true, true, true, true, true, true, true, true, true, true, true] rfl rfl (by kernel_rfl) (fun _ _ _ h => h) (Or.inl ⟨by rfl, ?_⟩) ?_ ?_
    rotate_left
    ·intro w'
     go_simp
     with_reducible rfl
    rotate_left
    ·simp only [Act.put, List.setIfInBounds_toArray, List.set_cons_zero, List.set_cons_succ, i64_w, i32_w]
     rfl
    refine done_ (by kernel_rfl) ?_
    skip
    have HB2 := Aside0.mk hHeld.1
    have HG2 := Aside0.mk hHeld.2
    have hc23 := cell_of_row _ w.heap.size 3 _ _ (0, 0) hHeld.2
    clear hHeld
    go_wp2_with fail
    go_loopw [26, 3, 4] (fun v26 _ _ wr => ∃ i : Nat, i ≤ ph.length ∧ v26 = .int .i64 i ∧ Aside0 (Below w.heap.size w wr) ∧ Aside0 (wr.heap[w.heap.size]? = some (.cells #[.int .i8 bK, .int .i8 bL, .int .i8 bS, .slice A3 ph.length c3] 27 (0, 0))) ∧ Aside0 (∀ j : Nat, j < i → phOk ph j = true)) (fun v26 _ _ _ => ph.length - (intOf v26).toNat)
    case atStart => exact ⟨0, by omega, rfl, HB2, HG2, ⟨fun j hj => absurd hj (by omega)⟩⟩
    case round =>
     clear HB2 HG2 hc23
     obtain ⟨i, hi, rfl, HB, HG, HP⟩ := hrel
     by_cases hlt : i < ph.length
     ·have hcg := cell_of_row wr w.heap.size 3 _ _ (0, 0) HG.out
      obtain ⟨ad, rfl, hcs⟩ := Kd.at_string (Kd.C_below HR3.out HB.out) (i : Int) (by omega) (by omega)
      rw [Int.toNat_natCast] at hcs
      have HM : Aside0 (rdOf ByteArray.empty ph (i : Int) ∈ ph) := ⟨by rw [rdOf_get ph i hlt]; exact List.getElem_mem hlt⟩
      have HPD := Aside0.mk (phOk_take ph i hlt)
      generalize rdOf ByteArray.empty ph (i : Int) = s at *
      obtain ⟨k1, hk1⟩ := (isPhrase_ev s (HPS.out s HM.out)).rounds
      have HPH := Aside0.mk hk1
      obtain ⟨k2, hk2⟩ := (contains_ev (ph.take i) s (by rw [List.length_take]; omega)).rounds
      have HCN := Aside0.mk hk2
      have htl : (ph.take i).length = i := by rw [List.length_take]; omega
      have HCC : Aside0 (∀ W, Below w.heap.size w W → Calls Try.prog 55 #[.slice (some ad) i c3, .string s] W fun e w' => e = .returned (.bool (hasP (ph.take i) s)) ∧ Drawn0 W w') := ⟨fun W hW => by
       have := slices_Contains_string_string.calls k2 (some ad) c3 (ph.take i) s (hasP (ph.take i) s) W (by rw [htl]; exact C_takeS (Kd.C_below HR3.out hW) i (by omega)) (by omega) HCN.out
       rw [htl] at this
       exact this⟩
      clear hk1 hk2 htl HCN
      cases hph : phrB s with
      | false =>
       have HFX := Aside0.mk (show okBook bK bL bS ph = false by
        rw [HOB2.out, decide_eq_false (p := ∀ i : Nat, i < ph.length → phOk ph i = true) (fun h => by have := h i hlt; rw [HPD.out, hph] at this; simp at this)])
       rw [hph] at HPH
       clear hph
       go_wp2_with (go_at_call 54; refine (impl_isPhrase.calls k1 s false _ HPH.out).mono ?_; rintro e w5 ⟨rfl, ⟨n5, rfl⟩⟩)
       go_ret
       exact ⟨by rw [HFX.out]; rfl, pw_below_drewN HB.out _⟩
      | true =>
       rw [hph] at HPH
       have HPT := Aside0.mk hph
       clear hph
       have hic : i ≤ c3 := by omega
       have hic2 : (i : Int) ≤ (c3 : Int) := by omega
       cases hh : hasP (ph.take i) s with
       | true =>
        have HFX := Aside0.mk (show okBook bK bL bS ph = false by
         rw [HOB2.out, decide_eq_false (p := ∀ i : Nat, i < ph.length → phOk ph i = true) (fun h => by have := h i hlt; rw [HPD.out, hh] at this; simp at this)])
        rw [hh] at HCC
        clear hh
        go_wp2_with (first
         | (go_at_call 54; refine (impl_isPhrase.calls k1 s true _ HPH.out).mono ?_; rintro e w5 ⟨rfl, ⟨n5, rfl⟩⟩)
         | (go_at_call 55; refine (HCC.out _ (pw_below_drewN HB.out _)).mono ?_; rintro e w6 ⟨rfl, ⟨n6, rfl⟩⟩))
        go_ret
        exact ⟨by rw [HFX.out]; rfl, pw_below_drewN HB.out _⟩
       | false =>
        have HOKI := Aside0.mk (show phOk ph i = true by rw [HPD.out, HPT.out, hh]; rfl)
        rw [hh] at HCC
        clear hh
        go_wp2_with (first
         | (go_at_call 54; refine (impl_isPhrase.calls k1 s true _ HPH.out).mono ?_; rintro e w5 ⟨rfl, ⟨n5, rfl⟩⟩)
         | (go_at_call 55; refine (HCC.out _ (pw_below_drewN HB.out _)).mono ?_; rintro e w6 ⟨rfl, ⟨n6, rfl⟩⟩))
        go_roundw
        case rel => exact ⟨i + 1, by omega, by go_num, ⟨pw_below_drewN HB.out _⟩, HG, ⟨fun j hj => by
         rcases Nat.lt_or_ge j i with h | h
         ·exact HP.out j h
         ·obtain rfl : j = i := by omega
          exact HOKI.out⟩⟩
        case measure => simp [intOf]; omega
     ·have HI := Aside0.mk (show i = ph.length by omega)
      go_wp2_with fail
      go_ret
      exact ⟨by rw [HOB2.out, decide_eq_true (p := ∀ i : Nat, i < ph.length → phOk ph i = true) (fun j hj => HP.out j (by rw [HI.out]; exact hj))]; rfl, HB.out⟩
   ·have hlo1 : (O.length : Int) < (ph.length : Int) := by omega
    have hlo2 := decide_eq_true hlo1
    have hlo3 := decide_eq_true (show O.length < ph.length by omega)
    have HFX := Aside0.mk (show okBook bK bL bS ph = false by rw [HOB.out, decide_eq_false hlo]; simp)
    clear hlo
    go_enter Try.func53, Try.ntmps53
    go_wp2_with fail
    refine start_ (n := 18) (S := fun w' => BkIn w bK bL bS A3 ph.length c3 w') (ds := []) #[false, false, false, false, false, false, false, false, false, false, false, false, false, false, false, false, false, false] (by kernel_rfl) rfl rfl (HB0.out.drew) (fun hHeld => ?_)
    refine take_ (i := 0) (N := some 5) (v := .agg #[.int .i8 bK, .int .i8 bL, .int .i8 bS, .slice A3 ph.length c3]) (a' := ?_) #[true, false, false, false, false, false, false, false, false, false, false, false, false, false, false, false, false, false] rfl rfl (by kernel_rfl) (fun _ _ _ h => h) (Or.inl ⟨by rfl, ?_⟩) hHeld ?_ ?_
    ·intro w' s0
     exact y_row (by rfl) (by rfl) s0.2 aggBook rfl
    rotate_left
    ·simp only [Act.put, List.setIfInBounds_toArray, List.set_cons_zero, List.set_cons_succ, i64_w, i32_w]
     rfl
    refine one_ (i := 1) (N := some 6) #[true, true, false, false, false, false, false, false, false, false, false, false, false, false, false, false, false, false] rfl rfl (by kernel_rfl) (by decide) (fun K hK => ?_)
    refine goes_ Try.func89 (by kernel_rfl) rfl #[.agg #[.int .i8 bK, .int .i8 bL, .int .i8 bS, .slice A3 ph.length c3]] (by rfl) rfl rfl (by simp only [List.map_toArray, List.map_cons, List.map_nil]; rfl) ?_
    refine (HF.out _ hHeld.1).mono ?_
    rintro e w1 ⟨rfl, hb1⟩
    refine ⟨_, rfl, ?_⟩
    refine hK.out _ _ (hHeld.below hb1) (fun hHeld => ?_)
    clear hK K
    refine norm_ (a' := ?_) ?_ ?_
    rotate_left
    ·show Act.put _ (some 6) _ = _
     simp only [Act.put, List.setIfInBounds_toArray, List.set_cons_zero, List.set_cons_succ, i64_w, i32_w]
     rfl
    refine pure_ (i := 2) (N := some 7) (v := ?_) (a' := ?_) #[true, true, true, false, false, false, false, false, false, false, false, false, false, false, false, false, false, false] rfl rfl (by kernel_rfl) (fun _ _ _ h => h) (Or.inl ⟨by rfl, ?_⟩) ?_ ?_
    rotate_left
    ·intro w'
     go_simp
     with_reducible rfl
    rotate_left
    ·simp only [Act.put, List.setIfInBounds_toArray, List.set_cons_zero, List.set_cons_succ, i64_w, i32_w]
     rfl
    refine pure_ (i := 3) (N := some 8) (v := ?_) (a' := ?_) #[true, true, true, true, false, false, false, false, false, false, false, false, false, false, false, false, false, false] rfl rfl (by kernel_rfl) (fun _ _ _ h => h) (Or.inl ⟨by rfl, ?_⟩) ?_ ?_
    rotate_left
    ·intro w'
     go_simp
     with_reducible rfl
    rotate_left
    ·simp only [Act.put, List.setIfInBounds_toArray, List.set_cons_zero, List.set_cons_succ, i64_w, i32_w]
     rfl
    refine pure_ (i := 4) (N := some 9) (v := ?_) (a' := ?_) #[true, true, true, true, true, false, false, false, false, false, false, false, false, false, false, false, false, false] rfl rfl (by kernel_rfl) (fun _ _ _ h => h) (Or.inl ⟨by rfl, ?_⟩) ?_ ?_
    rotate_left
    ·intro w'
     go_simp
     with_reducible rfl
    rotate_left
    ·simp only [Act.put, List.setIfInBounds_toArray, List.set_cons_zero, List.set_cons_succ, i64_w, i32_w]
     rfl
    refine take_ (i := 5) (N := some 10) (v := .slice A3 ph.length c3) (a' := ?_) #[true, true, true, true, true, true, false, false, false, false, false, false, false, false, false, false, false, false] rfl rfl (by kernel_rfl) (fun _ _ _ h => h) (Or.inl ⟨by rfl, ?_⟩) hHeld ?_ ?_
    ·intro w' s0
     exact y_cell (by rfl) (by rfl) oneStrS ((cell_of_row _ w.heap.size 3 _ _ (0, 0) s0.2).trans rfl)
    rotate_left
    ·simp only [Act.put, List.setIfInBounds_toArray, List.set_cons_zero, List.set_cons_succ, i64_w, i32_w]
     rfl
    refine pure_ (i := 6) (N := some 11) (v := ?_) (a' := ?_) #[true, true, true, true, true, true, true, false, false, false, false, false, false, false, false, false, false, false] rfl rfl (by kernel_rfl) (fun _ _ _ h => h) (Or.inl ⟨by rfl, ?_⟩) ?_ ?_
    rotate_left
    ·intro w'
     go_simp
     with_reducible rfl
    rotate_left
    ·simp only [Act.put, List.setIfInBounds_toArray, List.set_cons_zero, List.set_cons_succ, i64_w, i32_w]
     rfl
    refine pure_ (i := 7) (N := some 12) (v := ?_) (a' := ?_) #[true, true, true, true, true, true, true, true, false, false, false, false, false, false, false, false, false, false] rfl rfl (by kernel_rfl) (fun _ _ _ h => h) (Or.inl ⟨by rfl, ?_⟩) ?_ ?_
    rotate_left
    ·intro w'
     go_simp
     with_reducible rfl
    rotate_left
    ·simp only [Act.put, List.setIfInBounds_toArray, List.set_cons_zero, List.set_cons_succ, i64_w, i32_w]
     rfl
    refine pure_ (i := 8) (N := some 13) (v := ?_) (a' := ?_) #[true, true, true, true, true, true, true, true, true, false, false, false, false, false, false, false, false, false] rfl rfl (by kernel_rfl) (fun _ _ _ h => h) (Or.inl ⟨by rfl, ?_⟩) ?_ ?_
    rotate_left
    ·intro w'
     go_simp
     with_reducible rfl
    rotate_left
    ·simp only [Act.put, List.setIfInBounds_toArray, List.set_cons_zero, List.set_cons_succ, i64_w, i32_w]
     rfl
    refine pure_ (i := 9) (N := some 14) (v := ?_) (a' := ?_) #[true, true, true, true, true, true, true, true, true, true, false, false, false, false, false, false, false, false] rfl rfl (by kernel_rfl) (fun _ _ _ h => h) (Or.inl ⟨by rfl, ?_⟩) ?_ ?_
    rotate_left
    ·intro w'
     go_simp
     with_reducible rfl
    rotate_left
    ·simp only [Act.put, List.setIfInBounds_toArray, List.set_cons_zero, List.set_cons_succ, i64_w, i32_w]
     rfl
    refine pure_ (i := 10) (N := some 15) (v := ?_) (a' := ?_) #[true, true, true, true, true, true, true, true, true, true, true, false, false, false, false, false, false, false] rfl rfl (by kernel_rfl) (fun _ _ _ h => h) (Or.inl ⟨by rfl, ?_⟩) ?_ ?_
    rotate_left
    ·intro w'
     go_simp
     with_reducible rfl
    rotate_left
    ·simp only [Act.put, List.setIfInBounds_toArray, List.set_cons_zero, List.set_cons_succ, i64_w, i32_w]
     rfl
    refine take_ (i := 11) (N := some 16) (v := .slice A3 ph.length c3) (a' := ?_) #[true, true, true, true, true, true, true, true, true, true, true, true, false, false, false, false, false, false] rfl rfl (by kernel_rfl) (fun _ _ _ h => h) (Or.inl ⟨by rfl, ?_⟩) hHeld ?_ ?_
    ·intro w' s0
     exact y_cell (by rfl) (by rfl) oneStrS ((cell_of_row _ w.heap.size 3 _ _ (0, 0) s0.2).trans rfl)
    rotate_left
    ·simp only [Act.put, List.setIfInBounds_toArray, List.set_cons_zero, List.set_cons_succ, i64_w, i32_w]
     rfl
    refine pure_ (i := 12) (N := some 17) (v := ?_) (a' := ?_) #[true, true, true, true, true, true, true, true, true, true, true, true, true, false, false, false, false, false] rfl rfl (by kernel_rfl) (fun _ _ _ h => h) (Or.inl ⟨by rfl, ?_⟩) ?_ ?_
    rotate_left
    ·intro w'
     go_simp
     with_reducible rfl
    rotate_left
    ·simp only [Act.put, List.setIfInBounds_toArray, List.set_cons_zero, List.set_cons_succ, i64_w, i32_w]
     rfl
    refine take_ (i := 13) (N := some 18) (v := .agg #[.int .i8 bK, .int .i8 bL, .int .i8 bS, .slice A3 ph.length c3]) (a' := ?_) #[true, true, true, true, true, true, true, true, true, true, true, true, true, true, false, false, false, false] rfl rfl (by kernel_rfl) (fun _ _ _ h => h) (Or.inl ⟨by rfl, ?_⟩) hHeld ?_ ?_
    ·intro w' s0
     exact y_row (by rfl) (by rfl) s0.2 aggBook rfl
    rotate_left
    ·simp only [Act.put, List.setIfInBounds_toArray, List.set_cons_zero, List.set_cons_succ, i64_w, i32_w]
     rfl
    refine one_ (i := 14) (N := some 19) #[true, true, true, true, true, true, true, true, true, true, true, true, true, true, true, false, false, false] rfl rfl (by kernel_rfl) (by decide) (fun K hK => ?_)
    refine goes_ Try.func56 (by kernel_rfl) rfl #[.agg #[.int .i8 bK, .int .i8 bL, .int .i8 bS, .slice A3 ph.length c3]] (by rfl) rfl rfl (by simp only [List.map_toArray, List.map_cons, List.map_nil]; rfl) ?_
    refine (HME.out _).mono ?_
    rintro e w2 ⟨A7, c7, rfl, hb2⟩
    refine ⟨_, rfl, ?_⟩
    refine hK.out _ _ (hHeld.below hb2) (fun hHeld => ?_)
    clear hK K
    refine norm_ (a' := ?_) ?_ ?_
    rotate_left
    ·show Act.put _ (some 19) _ = _
     simp only [Act.put, List.setIfInBounds_toArray, List.set_cons_zero, List.set_cons_succ, i64_w, i32_w]
     rfl
    refine pure_ (i := 15) (N := some 20) (v := ?_) (a' := ?_) #[true, true, true, true, true, true, true, true, true, true, true, true, true, true, true, true, false, false] rfl rfl (by kernel_rfl) (fun _ _ _ h => h) (Or.inl ⟨by rfl, ?_⟩) ?_ ?_
    rotate_left
    ·intro w'
     go_simp
     with_reducible rfl
    rotate_left
    ·simp only [Act.put, List.setIfInBounds_toArray, List.set_cons_zero, List.set_cons_succ, i64_w, i32_w]
     rfl
    refine pure_ (i := 16) (N := some 21) (v := ?_) (a' := ?_) #[true, true, true, true, true, true, true, true, true, true, true, true, true, true, true, true, true, false] rfl rfl (by kernel_rfl) (fun _ _ _ h => h) (Or.inl ⟨by rfl, ?_⟩) ?_ ?_
    rotate_left
    ·intro w'
     go_simp
     with_reducible rfl
    rotate_left
    ·simp only [Act.put, List.setIfInBounds_toArray, List.set_cons_zero, List.set_cons_succ, i64_w, i32_w]
     rfl
    refine pure_ (i := 17) (N := some 22) (v := ?_) (a' := ?_) #[true, true, true, true, true, true, true, true, true, true, true, true, true, true, true, true, true, true] rfl rfl (by kernel_rfl) (fun _ _ _ h => h) (Or.inl ⟨by rfl, ?_⟩) ?_ ?_
    rotate_left
    ·intro w'
     go_simp
     with_reducible rfl
    rotate_left
    ·simp only [Act.put, List.setIfInBounds_toArray, List.set_cons_zero, List.set_cons_succ, i64_w, i32_w]
     rfl
    refine done_ (by kernel_rfl) ?_
    skip
    have HB2 := Aside0.mk hHeld.1
    have HG2 := Aside0.mk hHeld.2
    have hc23 := cell_of_row _ w.heap.size 3 _ _ (0, 0) hHeld.2
    clear hHeld
    go_wp2_with fail
    go_ret
    exact ⟨by rw [HFX.out]; rfl, HB2.out⟩
  ·have hgt : (100 : Int) < (ph.length : Int) := by omega
   have hgt2 := decide_eq_true hgt
   have HFX := Aside0.mk (show okBook bK bL bS ph = false by unfold okBook; rw [decide_eq_false h100]; simp)
   clear hz hr3 hp h100 hzz
   go_enter Try.func53, Try.ntmps53
   go_wp2_with fail
   refine start_ (n := 18) (S := fun w' => BkIn w bK bL bS A3 ph.length c3 w') (ds := []) #[false, false, false, false, false, false, false, false, false, false, false, false, false, false, false, false, false, false] (by kernel_rfl) rfl rfl (HB0.out.drew) (fun hHeld => ?_)
   refine take_ (i := 0) (N := some 5) (v := .agg #[.int .i8 bK, .int .i8 bL, .int .i8 bS, .slice A3 ph.length c3]) (a' := ?_) #[true, false, false, false, false, false, false, false, false, false, false, false, false, false, false, false, false, false] rfl rfl (by kernel_rfl) (fun _ _ _ h => h) (Or.inl ⟨by rfl, ?_⟩) hHeld ?_ ?_
   ·intro w' s0
    exact y_row (by rfl) (by rfl) s0.2 aggBook rfl
   rotate_left
   ·simp only [Act.put, List.setIfInBounds_toArray, List.set_cons_zero, List.set_cons_succ, i64_w, i32_w]
    rfl
   refine one_ (i := 1) (N := some 6) #[true, true, false, false, false, false, false, false, false, false, false, false, false, false, false, false, false, false] rfl rfl (by kernel_rfl) (by decide) (fun K hK => ?_)
   refine goes_ Try.func89 (by kernel_rfl) rfl #[.agg #[.int .i8 bK, .int .i8 bL, .int .i8 bS, .slice A3 ph.length c3]] (by rfl) rfl rfl (by simp only [List.map_toArray, List.map_cons, List.map_nil]; rfl) ?_
   refine (HF.out _ hHeld.1).mono ?_
   rintro e w1 ⟨rfl, hb1⟩
   refine ⟨_, rfl, ?_⟩
   refine hK.out _ _ (hHeld.below hb1) (fun hHeld => ?_)
   clear hK K
   refine norm_ (a' := ?_) ?_ ?_
   rotate_left
   ·show Act.put _ (some 6) _ = _
    simp only [Act.put, List.setIfInBounds_toArray, List.set_cons_zero, List.set_cons_succ, i64_w, i32_w]
    rfl
   refine pure_ (i := 2) (N := some 7) (v := ?_) (a' := ?_) #[true, true, true, false, false, false, false, false, false, false, false, false, false, false, false, false, false, false] rfl rfl (by kernel_rfl) (fun _ _ _ h => h) (Or.inl ⟨by rfl, ?_⟩) ?_ ?_
   rotate_left
   ·intro w'
    go_simp
    with_reducible rfl
   rotate_left
   ·simp only [Act.put, List.setIfInBounds_toArray, List.set_cons_zero, List.set_cons_succ, i64_w, i32_w]
    rfl
   refine pure_ (i := 3) (N := some 8) (v := ?_) (a' := ?_) #[true, true, true, true, false, false, false, false, false, false, false, false, false, false, false, false, false, false] rfl rfl (by kernel_rfl) (fun _ _ _ h => h) (Or.inl ⟨by rfl, ?_⟩) ?_ ?_
   rotate_left
   ·intro w'
    go_simp
    with_reducible rfl
   rotate_left
   ·simp only [Act.put, List.setIfInBounds_toArray, List.set_cons_zero, List.set_cons_succ, i64_w, i32_w]
    rfl
   refine pure_ (i := 4) (N := some 9) (v := ?_) (a' := ?_) #[true, true, true, true, true, false, false, false, false, false, false, false, false, false, false, false, false, false] rfl rfl (by kernel_rfl) (fun _ _ _ h => h) (Or.inl ⟨by rfl, ?_⟩) ?_ ?_
   rotate_left
   ·intro w'
    go_simp
    with_reducible rfl
   rotate_left
   ·simp only [Act.put, List.setIfInBounds_toArray, List.set_cons_zero, List.set_cons_succ, i64_w, i32_w]
    rfl
   refine take_ (i := 5) (N := some 10) (v := .slice A3 ph.length c3) (a' := ?_) #[true, true, true, true, true, true, false, false, false, false, false, false, false, false, false, false, false, false] rfl rfl (by kernel_rfl) (fun _ _ _ h => h) (Or.inl ⟨by rfl, ?_⟩) hHeld ?_ ?_
   ·intro w' s0
    exact y_cell (by rfl) (by rfl) oneStrS ((cell_of_row _ w.heap.size 3 _ _ (0, 0) s0.2).trans rfl)
   rotate_left
   ·simp only [Act.put, List.setIfInBounds_toArray, List.set_cons_zero, List.set_cons_succ, i64_w, i32_w]
    rfl
   refine pure_ (i := 6) (N := some 11) (v := ?_) (a' := ?_) #[true, true, true, true, true, true, true, false, false, false, false, false, false, false, false, false, false, false] rfl rfl (by kernel_rfl) (fun _ _ _ h => h) (Or.inl ⟨by rfl, ?_⟩) ?_ ?_
   rotate_left
   ·intro w'
    go_simp
    with_reducible rfl
   rotate_left
   ·simp only [Act.put, List.setIfInBounds_toArray, List.set_cons_zero, List.set_cons_succ, i64_w, i32_w]
    rfl
   refine pure_ (i := 7) (N := some 12) (v := ?_) (a' := ?_) #[true, true, true, true, true, true, true, true, false, false, false, false, false, false, false, false, false, false] rfl rfl (by kernel_rfl) (fun _ _ _ h => h) (Or.inl ⟨by rfl, ?_⟩) ?_ ?_
   rotate_left
   ·intro w'
    go_simp
    with_reducible rfl
   rotate_left
   ·simp only [Act.put, List.setIfInBounds_toArray, List.set_cons_zero, List.set_cons_succ, i64_w, i32_w]
    rfl
   refine pure_ (i := 8) (N := some 13) (v := ?_) (a' := ?_) #[true, true, true, true, true, true, true, true, true, false, false, false, false, false, false, false, false, false] rfl rfl (by kernel_rfl) (fun _ _ _ h => h) (Or.inl ⟨by rfl, ?_⟩) ?_ ?_
   rotate_left
   ·intro w'
    go_simp
    with_reducible rfl
   rotate_left
   ·simp only [Act.put, List.setIfInBounds_toArray, List.set_cons_zero, List.set_cons_succ, i64_w, i32_w]
    rfl
   refine pure_ (i := 9) (N := some 14) (v := ?_) (a' := ?_) #[true, true, true, true, true, true, true, true, true, true, false, false, false, false, false, false, false, false] rfl rfl (by kernel_rfl) (fun _ _ _ h => h) (Or.inl ⟨by rfl, ?_⟩) ?_ ?_
   rotate_left
   ·intro w'
    go_simp
    with_reducible rfl
   rotate_left
   ·simp only [Act.put, List.setIfInBounds_toArray, List.set_cons_zero, List.set_cons_succ, i64_w, i32_w]
    rfl
   refine pure_ (i := 10) (N := some 15) (v := undef) (a' := ?_) #[true, true, true, true, true, true, true, true, true, true, true, false, false, false, false, false, false, false] rfl rfl (by kernel_rfl) (fun _ _ _ h => h) (Or.inr ⟨by rfl, rfl⟩) ?_ ?_
   rotate_left
   ·simp only [Act.put, List.setIfInBounds_toArray, List.set_cons_zero, List.set_cons_succ, i64_w, i32_w]
    rfl
   refine pure_ (i := 11) (N := some 16) (v := undef) (a' := ?_) #[true, true, true, true, true, true, true, true, true, true, true, true, false, false, false, false, false, false] rfl rfl (by kernel_rfl) (fun _ _ _ h => h) (Or.inr ⟨by rfl, rfl⟩) ?_ ?_
   rotate_left
   ·simp only [Act.put, List.setIfInBounds_toArray, List.set_cons_zero, List.set_cons_succ, i64_w, i32_w]
    rfl
   refine pure_ (i := 12) (N := some 17) (v := undef) (a' := ?_) #[true, true, true, true, true, true, true, true, true, true, true, true, true, false, false, false, false, false] rfl rfl (by kernel_rfl) (fun _ _ _ h => h) (Or.inr ⟨by rfl, rfl⟩) ?_ ?_
   rotate_left
   ·simp only [Act.put, List.setIfInBounds_toArray, List.set_cons_zero, List.set_cons_succ, i64_w, i32_w]
    rfl
   refine pure_ (i := 13) (N := some 18) (v := undef) (a' := ?_) #[true, true, true, true, true, true, true, true, true, true, true, true, true, true, false, false, false, false] rfl rfl (by kernel_rfl) (fun _ _ _ h => h) (Or.inr ⟨by rfl, rfl⟩) ?_ ?_
   rotate_left
   ·simp only [Act.put, List.setIfInBounds_toArray, List.set_cons_zero, List.set_cons_succ, i64_w, i32_w]
    rfl
   refine pure_ (i := 14) (N := some 19) (v := undef) (a' := ?_) #[true, true, true, true, true, true, true, true, true, true, true, true, true, true, true, false, false, false] rfl rfl (by kernel_rfl) (fun _ _ _ h => h) (Or.inr ⟨by rfl, rfl⟩) ?_ ?_
   rotate_left
   ·simp only [Act.put, List.setIfInBounds_toArray, List.set_cons_zero, List.set_cons_succ, i64_w, i32_w]
    rfl
   refine pure_ (i := 15) (N := some 20) (v := undef) (a' := ?_) #[true, true, true, true, true, true, true, true, true, true, true, true, true, true, true, true, false, false] rfl rfl (by kernel_rfl) (fun _ _ _ h => h) (Or.inr ⟨by rfl, rfl⟩) ?_ ?_
   rotate_left
   ·simp only [Act.put, List.setIfInBounds_toArray, List.set_cons_zero, List.set_cons_succ, i64_w, i32_w]
    rfl
   refine pure_ (i := 16) (N := some 21) (v := undef) (a' := ?_) #[true, true, true, true, true, true, true, true, true, true, true, true, true, true, true, true, true, false] rfl rfl (by kernel_rfl) (fun _ _ _ h => h) (Or.inr ⟨by rfl, rfl⟩) ?_ ?_
   rotate_left
   ·simp only [Act.put, List.setIfInBounds_toArray, List.set_cons_zero, List.set_cons_succ, i64_w, i32_w]
    rfl
   refine pure_ (i := 17) (N := some 22) (v := ?_) (a' := ?_) #[true, true, true, true, true, true, true, true, true, true, true, true, true, true, true, true, true, true] rfl rfl (by kernel_rfl) (fun _ _ _ h => h) (Or.inl ⟨by rfl, ?_⟩) ?_ ?_
   rotate_left
   ·intro w'
    go_simp
    with_reducible rfl
   rotate_left
   ·simp only [Act.put, List.setIfInBounds_toArray, List.set_cons_zero, List.set_cons_succ, i64_w, i32_w]
    rfl
   refine done_ (by kernel_rfl) ?_
   skip
   go_wp2_with fail
   go_ret
   exact ⟨by rw [HFX.out]; rfl, hHeld.1⟩
end Go.Proofs.Ytckpfodpfplaeaa.Arr
namespace Go.Proofs.Ytckpfodpfplaeaa.Arr
open Go.RowKit Go.Proofs.Ytckpfodpfplaeaa.U
set_option linter.unusedVariables false
set_option linter.unusedSimpArgs false
def smallPh (ph : List ByteArray) : Bool := decide (ph.length ≤ 100000000) && ph.all fun s => decide (s.size ≤ 140737488351232)
def in8 (a : Int) : Bool := decide (-128 ≤ a ∧ a ≤ 127)
theorem bookP_of {K L S : Int} {ph : List ByteArray} (h : (smallPh ph && (in8 K && (in8 L && in8 S))) = true) : BookP K L S ph := by
 simp only [Bool.and_eq_true] at h
 obtain ⟨h1, h2, h3, h4⟩ := h
 unfold in8 at h2 h3 h4
 unfold smallPh at h1
 rw [Bool.and_eq_true, decide_eq_true_eq, List.all_eq_true] at h1
 rw [decide_eq_true_eq] at h2 h3 h4
 exact ⟨h2, h3, h4, h1.1, fun s hm => by have := h1.2 s hm; rwa [decide_eq_true_eq] at this⟩
end Go.Proofs.Ytckpfodpfplaeaa.Arr
namespace Go.Proofs.Ytckpfodpfplaeaa.Arr
open Go.RowKit Go.Proofs.YtckpfodpfplaeaaW.PrintWords Go.Proofs.YtckpfodpfplaeaaW.PrintLast Go.Proofs.YtckpfodpfplaeaaW.PrintMore Go.Proofs.Ytckpfodpfplaeaa.U Go.Proofs.Ytckpfodpfplaeaa.D
set_option linter.unusedVariables false
set_option linter.unusedSimpArgs false
def thereW (K L S : Int) (ph : List ByteArray) (i : Int) : Int := if okBook K L S ph = true then (if 0 ≤ i ∧ i ≤ (ph.length : Int) - 1 then 0 else 2) else 1
set_option maxHeartbeats 4000000 in
set_option maxRecDepth 100000 in
theorem thereSt_calls {K L S : Int} {ph : List ByteArray} (hp : BookP K L S ph) {w0 w W : World} {g : Nat} (h : BkSt w0 w g K L S ph W) (i : Int) : Calls Try.prog 62 #[.pointer (some ⟨g, 0, none⟩), .int .i64 i] W fun e w' => e = .returned (.int .i64 (thereW K L S ph i)) ∧ BkSt w0 w g K L S ph w' := by
 have HB0 := Aside0.mk h
 have HOK : Aside0 (∀ W, BkSt w0 w g K L S ph W → _) := ⟨fun W hW => okSt_calls hp hW⟩
 unfold thereW
 cases hk : okBook K L S ph with
 | false =>
  rw [hk] at HOK
  clear hk hp h
  go_enter Try.func62, Try.ntmps62
  go_wp2_with (go_at_call 47; refine (HOK.out _ HB0.out).mono ?_; rintro e w1 ⟨rfl, h1, h2⟩; have HB1 := Aside0.mk h1; clear h1 h2)
  go_ret
  exact ⟨rfl, HB1.out⟩
 | true =>
  rw [hk] at HOK
  have hph : ph.length ≤ 100 := (okBook_in hk).2.1
  have HIN := Aside0.mk (in_ev' i 0 ((ph.length : Int) - 1))
  clear hk hp h
  simp only [if_true]
  by_cases h0 : 0 ≤ i ∧ i ≤ (ph.length : Int) - 1
  ·rw [if_pos h0]
   rw [decide_eq_true h0] at HIN
   clear h0
   go_enter Try.func62, Try.ntmps62
   go_wp2_with (first
    | (go_at_call 47; refine (HOK.out _ HB0.out).mono ?_; rintro e w1 ⟨rfl, h1, h2⟩; have HB1 := Aside0.mk h1; obtain ⟨A8, c8, hc8, _, _⟩ := HB1.out.cell3; clear h1 h2)
    | (go_at_call 78; refine (spec_l00In.calls i 0 ((ph.length : Int) - 1) true _ HIN.out).mono ?_; rintro e w6 ⟨rfl, ⟨n6, rfl⟩⟩; skip))
   go_ret
   exact ⟨rfl, HB1.out.drewN _⟩
  ·rw [if_neg h0]
   rw [decide_eq_false h0] at HIN
   clear h0
   go_enter Try.func62, Try.ntmps62
   go_wp2_with (first
    | (go_at_call 47; refine (HOK.out _ HB0.out).mono ?_; rintro e w1 ⟨rfl, h1, h2⟩; have HB1 := Aside0.mk h1; obtain ⟨A8, c8, hc8, _, _⟩ := HB1.out.cell3; clear h1 h2)
    | (go_at_call 78; refine (spec_l00In.calls i 0 ((ph.length : Int) - 1) false _ HIN.out).mono ?_; rintro e w6 ⟨rfl, ⟨n6, rfl⟩⟩; skip))
   go_ret
   exact ⟨rfl, HB1.out.drewN _⟩
end Go.Proofs.Ytckpfodpfplaeaa.Arr
namespace Go.Proofs.Ytckpfodpfplaeaa.Arr
open Go.RowKit Go.Proofs.YtckpfodpfplaeaaW.PrintWords Go.Proofs.YtckpfodpfplaeaaW.PrintLast Go.Proofs.YtckpfodpfplaeaaW.PrintMore Go.Proofs.Ytckpfodpfplaeaa.U Go.Proofs.Ytckpfodpfplaeaa.D
set_option linter.unusedVariables false
set_option linter.unusedSimpArgs false
theorem oneM : OneTy Try.prog 47 := ⟨by kernel_rfl, by kernel_rfl⟩
def hoistOfW (K L S : Int) (ph : List ByteArray) (i : Int) : List Int × Int := if thereW K L S ph i = 0 then hoistW (rd_L2 (outL K.toNat S.toNat L.toNat) i) 1 S else ([], thereW K L S ph i)
theorem thereW_zero {K L S : Int} {ph : List ByteArray} {i : Int} (h : thereW K L S ph i = 0) : okBook K L S ph = true ∧ 0 ≤ i ∧ i < (ph.length : Int) := by
 unfold thereW at h
 split at h
 ·rename_i hk
  split at h
  ·rename_i hi; exact ⟨hk, by omega, by omega⟩
  ·omega
 ·omega
theorem outL_small8 {K L S : Int} {ph : List ByteArray} (hk : okBook K L S ph = true) : ∀ x ∈ outL K.toNat S.toNat L.toNat, Small8 x := fun x hx => by
 have hin := okBook_in hk
 have h := outL_small K.toNat S.toNat L.toNat (by omega) L.toNat (Nat.le_refl _) (by omega) x hx
 exact ⟨by omega, fun y hy => by have := h.2.2 y hy; omega⟩
set_option maxHeartbeats 4000000 in
set_option maxRecDepth 100000 in
theorem specHoistOf_calls (bK bL bS : Int) (A3 : Option Addr) (c3 : Nat) (ph : List ByteArray) (i : Int) (w : World) (hp : BookP bK bL bS ph) (hr3 : Kd.C Kd.string w A3 ph.length ph) :
  Calls Try.prog 32 #[.agg #[.int .i8 bK, .int .i8 bL, .int .i8 bS, .slice A3 ph.length c3], .int .i64 i] w fun e w' => ∃ v0_ : Value, e = .returned (.tuple #[v0_, .int .i64 (hoistOfW bK bL bS ph i).2]) ∧ Kd.R (Kd.int .i8) 22 w' w.heap.size (fun _ => True) v0_ (hoistOfW bK bL bS ph i).1 ∧ Below w.heap.size w w' := by
 have HB0 := Aside0.mk (bk_new (K := bK) (L := bL) (S := bS) (c3 := c3) hr3)
 have HTH : Aside0 (∀ W, BkSt w (w.alloc (.cells #[.int .i8 bK, .int .i8 bL, .int .i8 bS, .slice A3 ph.length c3] 27)) w.heap.size bK bL bS ph W → _) := ⟨fun W hW => thereSt_calls hp hW i⟩
 have HOW := Aside0.mk (fun W (hW : Below w.heap.size w W) => own_lit0 W w.heap.size hW.size)
 unfold hoistOfW
 by_cases hk : thereW bK bL bS ph i = 0
 ·rw [if_pos hk]
  obtain ⟨hok, hi0, hi1⟩ := thereW_zero hk
  rw [hk] at HTH
  have hin := okBook_in hok
  obtain ⟨i, rfl⟩ := Int.eq_ofNat_of_zero_le hi0
  have hlo : i < (outL bK.toNat bS.toNat bL.toNat).length := by omega
  rw [rdM_get _ i hlo]
  have HSM := Aside0.mk (outL_small8 hok (outL bK.toNat bS.toNat bL.toNat)[i] (List.getElem_mem hlo))
  have HME := Aside0.mk (fun (w0 W0 W : World) (g : Nat) (hW : BkSt w0 W0 g bK bL bS ph W) => meSt_calls hok hW)
  have hwS : wrap64 bS = bS := w64 (by omega) (by omega)
  have hol := outL_le bK.toNat bS.toNat (by omega) bL.toNat (by omega)
  have hOL : (outL bK.toNat bS.toNat bL.toNat).length ≤ 3000 := by omega
  clear hk hr3 hp hin hok hi0 hi1 hol
  generalize outL bK.toNat bS.toNat bL.toNat = O at *
  generalize hxx : O[i] = x at *
  have HXX := Aside0.mk hxx
  clear hxx
  have hx : (i : Int) < (O.length : Int) := by omega
  go_enter Try.func32, Try.ntmps32
  go_wp2_with (first
   | (go_at_call 62; refine (HTH.out _ HB0.out).mono ?_; rintro e w1 ⟨rfl, h1⟩; have HB1 := Aside0.mk h1; clear h1)
   | (go_at_call 50; refine (HME.out _ _ _ _ HB1.out).mono ?_; rintro e w3 ⟨A7, c7, rfl, hc7, hC7, hb3, hB3⟩; have HB3 := Aside0.mk hB3; have HC7 := Aside0.mk hC7; clear hB3 hC7 hb3))
  obtain ⟨ad, A1, c1, rfl, hcell, hl1, hC1⟩ := at_kM HC7.out i hlo
  rw [HXX.out] at hcell hl1 hC1
  have HX1 := Aside0.mk hC1
  have HX2 := Aside0.mk hcell
  clear hC1 HC7 hcell
  refine start_ (n := 12) (S := fun w' => BkSt w (w.alloc (.cells #[.int .i8 bK, .int .i8 bL, .int .i8 bS, .slice A3 ph.length c3] 27)) w.heap.size bK bL bS ph w' ∧ w'.cell? (ad.add i) = some (.slice A1 x.length c1) ∧ Kd.C (Kd.int .i8) w' A1 x.length x) (ds := []) #[false, false, false, false, false, false, false, false, false, false, false, false] (by kernel_rfl) rfl rfl (⟨HB3.out.drew, HX2.out, Kd.C_drew HX1.out⟩) (fun hHeld => ?_)
  refine pure_ (i := 0) (N := some 15) (v := ?_) (a' := ?_) #[true, false, false, false, false, false, false, false, false, false, false, false] rfl rfl (by kernel_rfl) (fun _ _ _ h => h) (Or.inl ⟨by rfl, ?_⟩) ?_ ?_
  rotate_left
  ·intro w'
   go_simp
   with_reducible rfl
  rotate_left
  ·simp only [Act.put, List.setIfInBounds_toArray, List.set_cons_zero, List.set_cons_succ, i64_w, i32_w]
   rfl
  refine pure_ (i := 1) (N := some 16) (v := ?_) (a' := ?_) #[true, true, false, false, false, false, false, false, false, false, false, false] rfl rfl (by kernel_rfl) (fun _ _ _ h => h) (Or.inl ⟨by rfl, ?_⟩) ?_ ?_
  rotate_left
  ·intro w'
   go_simp
   with_reducible rfl
  rotate_left
  ·simp only [Act.put, List.setIfInBounds_toArray, List.set_cons_zero, List.set_cons_succ, i64_w, i32_w]
   rfl
  refine pure_ (i := 2) (N := some 17) (v := ?_) (a' := ?_) #[true, true, true, false, false, false, false, false, false, false, false, false] rfl rfl (by kernel_rfl) (fun _ _ _ h => h) (Or.inl ⟨by rfl, ?_⟩) ?_ ?_
  rotate_left
  ·intro w'
   go_simp
   with_reducible rfl
  rotate_left
  ·simp only [Act.put, List.setIfInBounds_toArray, List.set_cons_zero, List.set_cons_succ, i64_w, i32_w]
   rfl
  refine pure_ (i := 4) (N := some 19) (v := ?_) (a' := ?_) #[true, true, true, false, true, false, false, false, false, false, false, false] rfl rfl (by kernel_rfl) (fun _ _ _ h => h) (Or.inl ⟨by rfl, ?_⟩) ?_ ?_
  rotate_left
  ·intro w'
   go_simp
   with_reducible rfl
  rotate_left
  ·simp only [Act.put, List.setIfInBounds_toArray, List.set_cons_zero, List.set_cons_succ, i64_w, i32_w]
   rfl
  refine take_ (i := 3) (N := some 18) (v := .slice A1 x.length c1) (a' := ?_) #[true, true, true, true, true, false, false, false, false, false, false, false] rfl rfl (by kernel_rfl) (fun _ _ _ h => h) (Or.inl ⟨by rfl, ?_⟩) hHeld ?_ ?_
  ·intro w' s0
   exact y_cell (by rfl) (by rfl) oneM s0.2.1
  rotate_left
  ·simp only [Act.put, List.setIfInBounds_toArray, List.set_cons_zero, List.set_cons_succ, i64_w, i32_w]
   rfl
  refine take_ (i := 5) (N := some 20) (v := .int .i8 bS) (a' := ?_) #[true, true, true, true, true, true, false, false, false, false, false, false] rfl rfl (by kernel_rfl) (fun _ _ _ h => h) (Or.inl ⟨by rfl, ?_⟩) hHeld ?_ ?_
  ·intro w' s0
   exact y_cell (by rfl) (by rfl) oneI8 (by obtain ⟨A8, c8, _, _, h8⟩ := s0.1.cell3; exact h8)
  rotate_left
  ·simp only [Act.put, List.setIfInBounds_toArray, List.set_cons_zero, List.set_cons_succ, i64_w, i32_w]
   rfl
  refine pure_ (i := 6) (N := some 21) (v := ?_) (a' := ?_) #[true, true, true, true, true, true, true, false, false, false, false, false] rfl rfl (by kernel_rfl) (fun _ _ _ h => h) (Or.inl ⟨by rfl, ?_⟩) ?_ ?_
  rotate_left
  ·intro w'
   go_simp
   with_reducible rfl
  rotate_left
  ·simp only [Act.put, List.setIfInBounds_toArray, List.set_cons_zero, List.set_cons_succ, i64_w, i32_w]
   rfl
  refine one_ (i := 7) (N := some 22) #[true, true, true, true, true, true, true, true, false, false, false, false] rfl rfl (by kernel_rfl) (by decide) (fun K hK => ?_)
  refine goes_ Try.func74 (by kernel_rfl) rfl #[.slice A1 x.length c1, .int .i64 1, .int .i64 (wrap64 bS)] (by rfl) rfl rfl (by simp only [List.map_toArray, List.map_cons, List.map_nil]; rfl) ?_
  rw [hwS]
  refine (specHoistFor_calls A1 c1 x 1 bS _ hHeld.2.2 hl1 HSM.out).mono ?_
  rintro e w2 ⟨v2, rfl, ho2, hb2⟩
  have HO2 := Aside0.mk (Kd.R_lower ho2 hHeld.1.bel.size)
  clear ho2
  refine ⟨_, rfl, ?_⟩
  refine hK.out _ _ (⟨hHeld.1.below hb2, (hb2.cell (World.block_lt_of_cell? _ _ hHeld.2.1)).trans hHeld.2.1, Kd.C_below hHeld.2.2 hb2⟩) (fun hHeld => ?_)
  clear hK K
  refine norm_ (a' := ?_) ?_ ?_
  rotate_left
  ·show Act.put _ (some 22) _ = _
   simp only [Act.put, List.setIfInBounds_toArray, List.set_cons_zero, List.set_cons_succ, i64_w, i32_w]
   rfl
  refine pure_ (i := 8) (N := some 23) (v := ?_) (a' := ?_) #[true, true, true, true, true, true, true, true, true, false, false, false] rfl rfl (by kernel_rfl) (fun _ _ _ h => h) (Or.inl ⟨by rfl, ?_⟩) ?_ ?_
  rotate_left
  ·intro w'
   go_simp
   with_reducible rfl
  rotate_left
  ·simp only [Act.put, List.setIfInBounds_toArray, List.set_cons_zero, List.set_cons_succ, i64_w, i32_w]
   rfl
  refine pure_ (i := 9) (N := some 24) (v := ?_) (a' := ?_) #[true, true, true, true, true, true, true, true, true, true, false, false] rfl rfl (by kernel_rfl) (fun _ _ _ h => h) (Or.inl ⟨by rfl, ?_⟩) ?_ ?_
  rotate_left
  ·intro w'
   go_simp
   with_reducible rfl
  rotate_left
  ·simp only [Act.put, List.setIfInBounds_toArray, List.set_cons_zero, List.set_cons_succ, i64_w, i32_w]
   rfl
  refine pure_ (i := 10) (N := some 4) (v := ?_) (a' := ?_) #[true, true, true, true, true, true, true, true, true, true, true, false] rfl rfl (by kernel_rfl) (fun _ _ _ h => h) (Or.inl ⟨by rfl, ?_⟩) ?_ ?_
  rotate_left
  ·intro w'
   go_simp
   with_reducible rfl
  rotate_left
  ·simp only [Act.put, List.setIfInBounds_toArray, List.set_cons_zero, List.set_cons_succ, i64_w, i32_w]
   rfl
  refine pure_ (i := 11) (N := some 5) (v := ?_) (a' := ?_) #[true, true, true, true, true, true, true, true, true, true, true, true] rfl rfl (by kernel_rfl) (fun _ _ _ h => h) (Or.inl ⟨by rfl, ?_⟩) ?_ ?_
  rotate_left
  ·intro w'
   go_simp
   with_reducible rfl
  rotate_left
  ·simp only [Act.put, List.setIfInBounds_toArray, List.set_cons_zero, List.set_cons_succ, i64_w, i32_w]
   rfl
  refine done_ (by kernel_rfl) ?_
  skip
  go_wp2_with fail
  go_ret2
  exact ⟨v2, rfl, HO2.out, hHeld.1.bel⟩
 ·rw [if_neg hk]
  have hk1 : (thereW bK bL bS ph i != 0) = true := by rw [bne_iff_ne]; exact hk
  clear hk hr3 hp
  generalize thereW bK bL bS ph i = q at *
  go_enter Try.func32, Try.ntmps32
  go_wp2_with (go_at_call 62; refine (HTH.out _ HB0.out).mono ?_; rintro e w1 ⟨rfl, h1⟩; have HB1 := Aside0.mk h1; clear h1)
  go_ret2
  exact ⟨_, rfl, HOW.out _ HB1.out.bel, below_alloc HB1.out.bel _⟩
end Go.Proofs.Ytckpfodpfplaeaa.Arr
namespace Go.Proofs.Ytckpfodpfplaeaa.Arr
open Go.RowKit Go.Proofs.YtckpfodpfplaeaaW.PrintWords Go.Proofs.YtckpfodpfplaeaaW.PrintLast Go.Proofs.YtckpfodpfplaeaaW.PrintMore Go.Proofs.Ytckpfodpfplaeaa.U Go.Proofs.Ytckpfodpfplaeaa.D
set_option linter.unusedVariables false
set_option linter.unusedSimpArgs false
set_option maxHeartbeats 8000000 in
set_option maxRecDepth 100000 in
theorem phraseCode_calls (bK bL bS : Int) (A3 : Option Addr) (c3 : Nat) (ph : List ByteArray) (i : Int) (w : World) (hp : BookP bK bL bS ph) (hr3 : Kd.C Kd.string w A3 ph.length ph) (hc3 : ph.length ≤ c3) :
  Calls Try.prog 63 #[.agg #[.int .i8 bK, .int .i8 bL, .int .i8 bS, .slice A3 ph.length c3], .int .i64 i] w fun e w' => e = .returned (.int .i64 (thereW bK bL bS ph i)) ∧ Below w.heap.size w w' := by
 have hu := Try.underlying27
 have HB0 := Aside0.mk (bkIn_new w bK bL bS A3 ph.length c3)
 have HVB := Aside0.mk (fun W (hW : Below w.heap.size w W) => validBook_calls bK bL bS A3 c3 ph W hp (Kd.C_below hr3 hW) hc3)
 have HSZ := Aside0.mk (fun W (hW : Below w.heap.size w W) => impl_size_string.calls A3 c3 ph (ph.length : Int) W (Kd.C_below hr3 hW) hc3 rfl)
 unfold thereW
 cases hk : okBook bK bL bS ph with
 | false =>
  rw [hk] at HVB
  clear hk hr3 hp
  go_enter Try.func63, Try.ntmps63
  go_wp2_with (go_at_call 53; refine (HVB.out _ HB0.out.1).mono ?_; rintro e w1 ⟨rfl, h1⟩; have HB1 := Aside0.mk (HB0.out.below h1); clear h1)
  go_ret
  exact ⟨rfl, HB1.out.1⟩
 | true =>
  rw [hk] at HVB
  have hph : ph.length ≤ 100 := (okBook_in hk).2.1
  have HIN := Aside0.mk (within_ev' i 0 ((ph.length : Int) - 1))
  clear hk hp hr3
  simp only [if_true]
  have HUN : Aside0 (∀ b : Bool, impl_unless.f b 2 = some (if b = true then 0 else 2)) := ⟨fun b => by cases b <;> rfl⟩
  have HRS : Aside0 ((if 0 ≤ i ∧ i ≤ (ph.length : Int) - 1 then (0 : Int) else 2) = (if decide (0 ≤ i ∧ i ≤ (ph.length : Int) - 1) = true then 0 else 2)) := ⟨by by_cases h : 0 ≤ i ∧ i ≤ (ph.length : Int) - 1 <;> simp [h]⟩
  rw [HRS.out]
  generalize decide (0 ≤ i ∧ i ≤ (ph.length : Int) - 1) = b at *
  go_enter Try.func63, Try.ntmps63
  go_wp2_with (first
   | (go_at_call 53; refine (HVB.out _ HB0.out.1).mono ?_; rintro e w1 ⟨rfl, h1⟩; have HB1 := Aside0.mk (HB0.out.below h1); have hc1 := cell_of_row _ w.heap.size 3 _ _ (0, 0) HB1.out.2; clear h1)
   | (go_at_call 81; refine (HSZ.out _ HB1.out.1).mono ?_; rintro e w2 ⟨rfl, ⟨n2, rfl⟩⟩)
   | (go_at_call 80; refine (impl_within.calls i 0 ((ph.length : Int) - 1) b _ HIN.out).mono ?_; rintro e w3 ⟨rfl, ⟨n3, rfl⟩⟩)
   | (go_at_call 66; refine (impl_unless.calls b 2 _ _ (HUN.out b)).mono ?_; rintro e w4 ⟨rfl, ⟨n4, rfl⟩⟩))
  all_goals (go_ret; exact ⟨rfl, pw_below_drewN HB1.out.1 _⟩)
set_option maxHeartbeats 8000000 in
set_option maxRecDepth 100000 in
theorem implHoistOf_calls (bK bL bS : Int) (A3 : Option Addr) (c3 : Nat) (ph : List ByteArray) (i : Int) (w : World) (hp : BookP bK bL bS ph) (hr3 : Kd.C Kd.string w A3 ph.length ph) (hc3 : ph.length ≤ c3) :
  Calls Try.prog 33 #[.agg #[.int .i8 bK, .int .i8 bL, .int .i8 bS, .slice A3 ph.length c3], .int .i64 i] w fun e w' => ∃ v0_ : Value, e = .returned (.tuple #[v0_, .int .i64 (hoistOfW bK bL bS ph i).2]) ∧ Kd.R (Kd.int .i8) 22 w' w.heap.size (fun _ => True) v0_ (hoistOfW bK bL bS ph i).1 ∧ Below w.heap.size w w' := by
 have hu := Try.underlying27
 have HB0 := Aside0.mk (bkIn_new w bK bL bS A3 ph.length c3)
 have HPC := Aside0.mk (fun W (hW : Below w.heap.size w W) => phraseCode_calls bK bL bS A3 c3 ph i W hp (Kd.C_below hr3 hW) hc3)
 unfold hoistOfW
 by_cases hk : thereW bK bL bS ph i = 0
 ·rw [if_pos hk]
  obtain ⟨hok, hi0, hi1⟩ := thereW_zero hk
  rw [hk] at HPC
  have hin := okBook_in hok
  obtain ⟨i, rfl⟩ := Int.eq_ofNat_of_zero_le hi0
  have hlo : i < (outL bK.toNat bS.toNat bL.toNat).length := by omega
  rw [rdM_get _ i hlo]
  have HSM := Aside0.mk (outL_small8 hok (outL bK.toNat bS.toNat bL.toNat)[i] (List.getElem_mem hlo))
  have hol := outL_le bK.toNat bS.toNat (by omega) bL.toNat (by omega)
  have hOL : (outL bK.toNat bS.toNat bL.toNat).length ≤ 3000 := by omega
  have HME : Aside0 (∀ W, Calls Try.prog 56 #[.agg #[.int .i8 bK, .int .i8 bL, .int .i8 bS, .slice A3 ph.length c3]] W fun e w' => ∃ A c, e = .returned (.slice A (outL bK.toNat bS.toNat bL.toNat).length c) ∧ Kd.C kM w' A (outL bK.toNat bS.toNat bL.toNat).length (outL bK.toNat bS.toNat bL.toNat) ∧ Below W.heap.size W w') := ⟨fun W => by
   obtain ⟨bK, rfl⟩ := Int.eq_ofNat_of_zero_le (show 0 ≤ bK by omega)
   obtain ⟨bL, rfl⟩ := Int.eq_ofNat_of_zero_le (show 0 ≤ bL by omega)
   obtain ⟨bS, rfl⟩ := Int.eq_ofNat_of_zero_le (show 0 ≤ bS by omega)
   refine (implMeanings_calls bK bL bS A3 ph.length c3 W (by omega) (by omega) (by omega) (by omega)).mono ?_
   rintro e w' ⟨v, rfl, hs, hb⟩
   obtain ⟨A, c, rfl, _, h9⟩ := Kd.S_reads hs
   exact ⟨A, c, rfl, h9, hb⟩⟩
  have hwS : wrap64 bS = bS := w64 (by omega) (by omega)
  clear hk hr3 hp hin hok hi0 hi1 hol
  generalize outL bK.toNat bS.toNat bL.toNat = O at *
  generalize hxx : O[i] = x at *
  have HXX := Aside0.mk hxx
  clear hxx
  have hx : (i : Int) < (O.length : Int) := by omega
  go_enter Try.func33, Try.ntmps33
  go_wp2_with (go_at_call 63; refine (HPC.out _ HB0.out.1).mono ?_; rintro e w1 ⟨rfl, h1⟩; have HB1 := Aside0.mk (HB0.out.below h1); clear h1)
  refine start_ (n := 13) (S := fun w' => BkIn w bK bL bS A3 ph.length c3 w') (ds := []) #[false, false, false, false, false, false, false, false, false, false, false, false, false] (by kernel_rfl) rfl rfl (HB1.out.drew) (fun hHeld => ?_)
  refine pure_ (i := 2) (N := some 15) (v := ?_) (a' := ?_) #[false, false, true, false, false, false, false, false, false, false, false, false, false] rfl rfl (by kernel_rfl) (fun _ _ _ h => h) (Or.inl ⟨by rfl, ?_⟩) ?_ ?_
  rotate_left
  ·intro w'
   go_simp
   with_reducible rfl
  rotate_left
  ·simp only [Act.put, List.setIfInBounds_toArray, List.set_cons_zero, List.set_cons_succ, i64_w, i32_w]
   rfl
  refine pure_ (i := 5) (N := some 18) (v := ?_) (a' := ?_) #[false, false, true, false, false, true, false, false, false, false, false, false, false] rfl rfl (by kernel_rfl) (fun _ _ _ h => h) (Or.inl ⟨by rfl, ?_⟩) ?_ ?_
  rotate_left
  ·intro w'
   go_simp
   with_reducible rfl
  rotate_left
  ·simp only [Act.put, List.setIfInBounds_toArray, List.set_cons_zero, List.set_cons_succ, i64_w, i32_w]
   rfl
  refine take_ (i := 0) (N := some 13) (v := .agg #[.int .i8 bK, .int .i8 bL, .int .i8 bS, .slice A3 ph.length c3]) (a' := ?_) #[true, false, true, false, false, true, false, false, false, false, false, false, false] rfl rfl (by kernel_rfl) (fun _ _ _ h => h) (Or.inl ⟨by rfl, ?_⟩) hHeld ?_ ?_
  ·intro w' s0
   exact y_row (by rfl) (by rfl) s0.2 aggBook rfl
  rotate_left
  ·simp only [Act.put, List.setIfInBounds_toArray, List.set_cons_zero, List.set_cons_succ, i64_w, i32_w]
   rfl
  refine take_ (i := 6) (N := some 19) (v := .int .i8 bS) (a' := ?_) #[true, false, true, false, false, true, true, false, false, false, false, false, false] rfl rfl (by kernel_rfl) (fun _ _ _ h => h) (Or.inl ⟨by rfl, ?_⟩) hHeld ?_ ?_
  ·intro w' s0
   exact y_cell (by rfl) (by rfl) oneI8 ((cell_of_row _ w.heap.size 2 _ _ (0, 0) s0.2).trans rfl)
  rotate_left
  ·simp only [Act.put, List.setIfInBounds_toArray, List.set_cons_zero, List.set_cons_succ, i64_w, i32_w]
   rfl
  refine pure_ (i := 7) (N := some 20) (v := ?_) (a' := ?_) #[true, false, true, false, false, true, true, true, false, false, false, false, false] rfl rfl (by kernel_rfl) (fun _ _ _ h => h) (Or.inl ⟨by rfl, ?_⟩) ?_ ?_
  rotate_left
  ·intro w'
   go_simp
   with_reducible rfl
  rotate_left
  ·simp only [Act.put, List.setIfInBounds_toArray, List.set_cons_zero, List.set_cons_succ, i64_w, i32_w]
   rfl
  refine one_ (i := 1) (N := some 14) #[true, true, true, false, false, true, true, true, false, false, false, false, false] rfl rfl (by kernel_rfl) (by decide) (fun K hK => ?_)
  refine goes_ Try.func56 (by kernel_rfl) rfl #[.agg #[.int .i8 bK, .int .i8 bL, .int .i8 bS, .slice A3 ph.length c3]] (by rfl) rfl rfl (by simp only [List.map_toArray, List.map_cons, List.map_nil]; rfl) ?_
  refine (HME.out _).mono ?_
  rintro e w2 ⟨A7, c7, rfl, hC7, hb2⟩
  obtain ⟨ad, A1, c1, rfl, hcell, hl1, hC1⟩ := at_kM hC7 i hlo
  rw [HXX.out] at hcell hl1 hC1
  have HX1 := Aside0.mk hC1
  have HX2 := Aside0.mk hcell
  clear hC1 hC7 hcell
  refine ⟨_, rfl, ?_⟩
  refine hK.out _ _ (hHeld.below hb2) (fun hHeld => ?_)
  clear hK K
  refine norm_ (a' := ?_) ?_ ?_
  rotate_left
  ·show Act.put _ (some 14) _ = _
   simp only [Act.put, List.setIfInBounds_toArray, List.set_cons_zero, List.set_cons_succ, i64_w, i32_w]
   rfl
  refine pure_ (i := 3) (N := some 16) (v := ?_) (a' := ?_) #[true, true, true, true, false, true, true, true, false, false, false, false, false] rfl rfl (by kernel_rfl) (fun _ _ _ h => h) (Or.inl ⟨by rfl, ?_⟩) ?_ ?_
  rotate_left
  ·intro w'
   go_simp
   with_reducible rfl
  rotate_left
  ·simp only [Act.put, List.setIfInBounds_toArray, List.set_cons_zero, List.set_cons_succ, i64_w, i32_w]
   rfl
  refine one_ (i := 4) (N := some 17) #[true, true, true, true, true, true, true, true, false, false, false, false, false] rfl rfl (by kernel_rfl) (by decide) (fun K hK => ?_)
  refine value_ (by rfl) rfl (y_cell (by rfl) (by rfl) oneM HX2.out) ?_
  refine hK.out _ _ (hHeld) (fun hHeld => ?_)
  clear hK K
  refine norm_ (a' := ?_) ?_ ?_
  rotate_left
  ·show Act.put _ (some 17) _ = _
   simp only [Act.put, List.setIfInBounds_toArray, List.set_cons_zero, List.set_cons_succ, i64_w, i32_w]
   rfl
  refine one_ (i := 8) (N := some 21) #[true, true, true, true, true, true, true, true, true, false, false, false, false] rfl rfl (by kernel_rfl) (by decide) (fun K hK => ?_)
  refine goes_ Try.func75 (by kernel_rfl) rfl #[.slice A1 x.length c1, .int .i64 1, .int .i64 (wrap64 bS)] (by rfl) rfl rfl (by simp only [List.map_toArray, List.map_cons, List.map_nil]; rfl) ?_
  rw [hwS]
  refine (implHoistFor_calls A1 c1 x 1 bS _ HX1.out hl1 HSM.out).mono ?_
  rintro e w3 ⟨v2, rfl, ho2, hb3⟩
  have HO2 := Aside0.mk (Kd.R_lower ho2 hHeld.1.size)
  clear ho2
  refine ⟨_, rfl, ?_⟩
  refine hK.out _ _ (hHeld.below hb3) (fun hHeld => ?_)
  clear hK K
  refine norm_ (a' := ?_) ?_ ?_
  rotate_left
  ·show Act.put _ (some 21) _ = _
   simp only [Act.put, List.setIfInBounds_toArray, List.set_cons_zero, List.set_cons_succ, i64_w, i32_w]
   rfl
  refine pure_ (i := 9) (N := some 22) (v := ?_) (a' := ?_) #[true, true, true, true, true, true, true, true, true, true, false, false, false] rfl rfl (by kernel_rfl) (fun _ _ _ h => h) (Or.inl ⟨by rfl, ?_⟩) ?_ ?_
  rotate_left
  ·intro w'
   go_simp
   with_reducible rfl
  rotate_left
  ·simp only [Act.put, List.setIfInBounds_toArray, List.set_cons_zero, List.set_cons_succ, i64_w, i32_w]
   rfl
  refine pure_ (i := 10) (N := some 23) (v := ?_) (a' := ?_) #[true, true, true, true, true, true, true, true, true, true, true, false, false] rfl rfl (by kernel_rfl) (fun _ _ _ h => h) (Or.inl ⟨by rfl, ?_⟩) ?_ ?_
  rotate_left
  ·intro w'
   go_simp
   with_reducible rfl
  rotate_left
  ·simp only [Act.put, List.setIfInBounds_toArray, List.set_cons_zero, List.set_cons_succ, i64_w, i32_w]
   rfl
  refine pure_ (i := 11) (N := some 4) (v := ?_) (a' := ?_) #[true, true, true, true, true, true, true, true, true, true, true, true, false] rfl rfl (by kernel_rfl) (fun _ _ _ h => h) (Or.inl ⟨by rfl, ?_⟩) ?_ ?_
  rotate_left
  ·intro w'
   go_simp
   with_reducible rfl
  rotate_left
  ·simp only [Act.put, List.setIfInBounds_toArray, List.set_cons_zero, List.set_cons_succ, i64_w, i32_w]
   rfl
  refine pure_ (i := 12) (N := some 5) (v := ?_) (a' := ?_) #[true, true, true, true, true, true, true, true, true, true, true, true, true] rfl rfl (by kernel_rfl) (fun _ _ _ h => h) (Or.inl ⟨by rfl, ?_⟩) ?_ ?_
  rotate_left
  ·intro w'
   go_simp
   with_reducible rfl
  rotate_left
  ·simp only [Act.put, List.setIfInBounds_toArray, List.set_cons_zero, List.set_cons_succ, i64_w, i32_w]
   rfl
  refine done_ (by kernel_rfl) ?_
  skip
  go_wp2_with fail
  go_ret2
  exact ⟨v2, rfl, HO2.out, hHeld.1⟩
 ·rw [if_neg hk]
  have hk1 : (thereW bK bL bS ph i != 0) = true := by rw [bne_iff_ne]; exact hk
  clear hk hr3 hp
  generalize thereW bK bL bS ph i = q at *
  go_enter Try.func33, Try.ntmps33
  go_wp2_with (go_at_call 63; refine (HPC.out _ HB0.out.1).mono ?_; rintro e w1 ⟨rfl, h1⟩; have HB1 := Aside0.mk (HB0.out.below h1); clear h1)
  go_ret2
  exact ⟨_, rfl, Kd.R_nil _ _ _ _ _, HB1.out.1⟩
end Go.Proofs.Ytckpfodpfplaeaa.Arr
namespace Go.Proofs.Ytckpfodpfplaeaa.E
open Go.RowKit Go.Proofs.YtckpfodpfplaeaaW.PrintWords Go.Proofs.YtckpfodpfplaeaaW.PrintLast Go.Proofs.YtckpfodpfplaeaaW.PrintMore
attribute [local go_sem] max2_int min2_int max_two min_two max_three min_three max_four min_four
set_option linter.unusedVariables false
set_option linter.unusedSimpArgs false
def errW : Option Int → Value
 | none => .nilIface
 | some c => .iface 0 (.int .i64 c)
theorem errW_none : errW none = .nilIface := rfl
theorem errW_some (c : Int) : errW (some c) = .iface 0 (.int .i64 c) := rfl
theorem info9 : (Try.prog.info? 9).map (fun i => (i.zero, i.size, i.bytes)) = some (some (.string ⟨#[]⟩), 1, 16) := by kernel_rfl
end Go.Proofs.Ytckpfodpfplaeaa.E
