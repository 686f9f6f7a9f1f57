/- The texts that the statement FnStocks needs, part 1: contracts of the program's functions and plain laws, without what it does not reach. No condition beyond what each theorem says. -/
import Derived.Below
import Derived.Deep.Draws
import Derived.Deep.AppendLies
import Derived.Maps.AppendAt
import Derived.OwnWalk
import Derived.Laws.BytesArg
import Derived.Laws.MakeOwn
import Derived.Laws.OwnMore
import Derived.Deep.OwnRows
import Derived.Tactics
import Derived.Lib.ConvBytes
import Derived.Laws.Slices
import Derived.WalkKit
import Derived.KernelRfl
import Derived.RowKit3
import Derived.Deep.LoopGhost
import Derived.Deep.QuietTactic
import Derived.BigQuiet
import Derived.WideLaws
import Derived.Deep.DeepCutAuto
import Derived.Deep.CutBlock
import Derived.Deep.RegionHeld3
import Derived.Laws.Rows
import Derived.Lib.AppendStr
import Derived.ArgAppend
import Derived.Laws.IdiomCopy
import Derived.RowKit
import Derived.Laws.Tables
import Derived.BigFrame
import Derived.Laws.CopyRow
import Derived.Laws.ResultCell
import Derived.OrdersHeld
import Derived.Laws.BitsLemmas
import Derived.Laws.StructEq
import Derived.Test.YthaoopbfggnceaaGreatDoorProg
import Derived.WalkSpells
import Derived.StillTailTactics
import Derived.Laws.BitsAllLaws
import Derived.ProofKit
import Derived.OpenShut
import Derived.ChangeSame
import Derived.Shelf.Strconv.Itoa4
import Derived.Shelf.Strings.OnBuilder
import Derived.Lib.SplitLaws
import Derived.Lib.ParseIntB
import Derived.Lib.CountLaws
import Derived.Shelf.Strings.SplitShaped
import Derived.Shelf.Strings.Shaped
import Derived.Shelf.Small.Wraps
import Derived.Shelf.Strconv.ErrVarParseInt
import Derived.Lib.SmallJoins
import Derived.Lib.AppendIntMem
import Derived.Lib.ParseIntBTie
import Derived.Deep.Slices
import Derived.Test.YthaoopbfggnceaaGreatDoorRows
import Derived.ShutString
import Derived.ChangeOld
import Derived.SizedLaws
import Derived.HandedShaped
import Derived.LaidMore
import Derived.Lay
import Derived.Stop.Joined
import Derived.Stop.LaidErr
import Derived.Lib.LaidTab
import Derived.Test.YthaoopbfggnceaaGreatDoorCards
import Derived.Test.YthaoopbfggnceaaGreatDoorTie
import Derived.SevenTiedAt
import Derived.Test.YthaoopbfggnceaaGreatDoorZFnStocks0
namespace Go.Proofs.YthaoopbfggnceaaGreatDoor.U
open Go.RowKit Go.Proofs.YthaoopbfggnceaaGreatDoorW.PrintWords
set_option linter.unusedVariables false
set_option linter.unusedSimpArgs false
theorem pos {α : Type} {c : Prop} [Decidable c] {g f : Nat → Option α} {r : α} (h : c) (k : Ev g r) : Ev (fun n => if c then g n else f n) r :=
 Ev.congr (fun n => if_pos h) k
theorem neg {α : Type} {c : Prop} [Decidable c] {g f : Nat → Option α} {r : α} (h : ¬ c) (k : Ev f r) : Ev (fun n => if c then g n else f n) r :=
 Ev.congr (fun n => if_neg h) k
theorem bindc {α β : Type} {g : Option α} {f : Nat → α → Option β} {a : α} {r : β} (h : g = some a) (k : Ev (fun n => f n a) r) : Ev (fun n => g.bind (f n)) r :=
 Ev.congr (fun n => by rw [h]; rfl) k
theorem cons {α : Type} {r : α} {a : α} (h : a = r) : Ev (fun _ => some a) r := h ▸ Ev.now a
theorem w64 {x : Int} (h0 : -9223372036854775808 ≤ x) (h1 : x ≤ 9223372036854775807) : wrap64 x = x := by
 unfold wrap64; omega
theorem rd_get (xs : List Int) (i : Nat) (h : i < xs.length) : rd xs (i : Int) = xs[i] := by
 unfold rd
 simp [List.getD_eq_getElem?_getD, List.getElem?_eq_getElem h]
theorem iter {σ α : Type} (F : Nat → σ → Option α) (Inv : Nat → σ → Prop) (r : α) (n : Nat)
  (hstep : ∀ i s, i < n → Inv i s → (∃ s', Inv (i + 1) s' ∧ (Ev (fun k => F k s') r → Ev (fun k => F k s) r)) ∨ Ev (fun k => F k s) r)
  (hend : ∀ s, Inv n s → Ev (fun k => F k s) r) : ∀ i s, i ≤ n → Inv i s → Ev (fun k => F k s) r := by
 intro i
 generalize hd : n - i = d
 induction d generalizing i with
 | zero =>
  intro s hi h
  have e : i = n := by omega
  subst e
  exact hend s h
 | succ d ih =>
  intro s hi h
  rcases hstep i s (by omega) h with ⟨s', hs, hk⟩ | he
  ·exact hk (ih (i + 1) (by omega) s' (by omega) hs)
  ·exact he
theorem toList {l l' : List Int} {n : Nat} (h1 : l.length = n) (h2 : l'.length = n) (h : ∀ j, j < n → l[j]? = l'[j]?) : l = l' := by
 apply List.ext_getElem?
 intro j
 rcases Nat.lt_or_ge j n with hj | hj
 ·exact h j hj
 ·rw [List.getElem?_eq_none (by omega), List.getElem?_eq_none (by omega)]
theorem rd_opt {l l' : List Int} {j : Nat} (h : j < l.length) (h' : j < l'.length) (e : rd l (j : Int) = rd l' (j : Int)) : l[j]? = l'[j]? := by
 rw [rd_get l j h, rd_get l' j h'] at e
 rw [List.getElem?_eq_getElem h, List.getElem?_eq_getElem h', e]
def Bytes (l : List Int) : Prop := ∀ x ∈ l, 0 ≤ x ∧ x ≤ 255
def WfI (k : IntKind) (n : Int) : Prop := (Lit.int k n).wf = true
def WfL {α : Type} (wf : α → Prop) (l : List α) : Prop := l.length ≤ maxLen ∧ ∀ a ∈ l, wf a
end Go.Proofs.YthaoopbfggnceaaGreatDoor.U
namespace Go.Proofs.YthaoopbfggnceaaGreatDoor.Arr
open Go.RowKit Go.Proofs.YthaoopbfggnceaaGreatDoorW.PrintWords Go.Proofs.YthaoopbfggnceaaGreatDoor.U
set_option linter.unusedVariables false
set_option linter.unusedSimpArgs false
def zs (n : Nat) : List Int := List.replicate n 0
theorem zs_length {n : Nat} : (zs n).length = n := by simp [zs]
def vals (k : IntKind) (L : List Int) : Array Value := (L.map (Value.int k)).toArray
section
variable {k : IntKind} {L : List Int}
theorem vals_size : (vals k L).size = L.length := by simp [vals]
theorem vals_get {i : Nat} (h : i < L.length) : (vals k L)[i]? = some (.int k (rd L (i : Int))) := by
 rw [rd_get L i h]; simp [vals, List.getElem?_eq_getElem h]
theorem vals_set {i : Nat} {n : Int} : (vals k L).setIfInBounds i (.int k n) = vals k (L.set i n) := by
 simp [vals, List.map_set]
theorem vals_extract {a b : Nat} : (vals k L).extract a b = vals k ((L.take b).drop a) := by
 apply Array.ext_getElem?
 intro j
 simp only [vals, Array.getElem?_extract, List.size_toArray, List.length_map, List.getElem?_toArray, List.getElem?_map, List.getElem?_drop, List.getElem?_take]
 by_cases h : j < min b L.length - a
 ·rw [if_pos h, if_pos (by omega)]
 ·rw [if_neg h]
  by_cases h2 : a + j < b
  ·rw [if_pos h2, List.getElem?_eq_none (by omega)]; rfl
  ·rw [if_neg h2]; rfl
theorem vals_one : (vals k L).all (·.oneCell') = true := by
 simp [vals, Value.oneCell']
end
structure Ent where
 g : Nat
 cs : Array Value
 t : TypeId
 own : Bool
structure Mem (w0 w : World) (M : List Ent) : Prop where
 os : w.os = w0.os
 tape : w.tape = w0.tape
 output : w.output = w0.output
 size : w0.heap.size ≤ w.heap.size
 block : ∀ k, k < w0.heap.size → (∀ e ∈ M, e.g ≠ k) → w.heap[k]? = w0.heap[k]?
 ent : ∀ e ∈ M, w.heap[e.g]? = some (.cells e.cs e.t (0, 0)) ∧ (e.own = true → w0.heap.size ≤ e.g)
 apart : ∀ (m n : Nat) (e f : Ent), M[m]? = some e → M[n]? = some f → e.g = f.g → m = n
theorem lt_of_some {w : World} {g : Nat} {o : Obj} (h : w.heap[g]? = some o) : g < w.heap.size := (Array.getElem?_eq_some_iff.1 h).1
namespace Mem
variable {w0 w w' : World} {M : List Ent} {n g : Nat} {cs cs' : Array Value} {t : TypeId} {o : Bool}
theorem start (w : World) : Mem w w [] := ⟨rfl, rfl, rfl, Nat.le_refl _, fun _ _ _ => rfl, fun _ h => absurd h (by simp), fun m n e f h => by simp at h⟩
theorem given {w : World} (h : w.heap[g]? = some (.cells cs t (0, 0))) : Mem w w [⟨g, cs, t, false⟩] :=
 ⟨rfl, rfl, rfl, Nat.le_refl _, fun _ _ _ => rfl, fun e he => by
  rw [List.mem_singleton] at he; subst he; exact ⟨h, fun h => by cases h⟩, fun m n e f h1 h2 _ => by
  have h3 := (List.getElem?_eq_some_iff.1 h1).1
  have h4 := (List.getElem?_eq_some_iff.1 h2).1
  simp at h3 h4; omega⟩
theorem given2 {w : World} {g2 : Nat} {cs2 : Array Value} {t2 : TypeId} (h : w.heap[g]? = some (.cells cs t (0, 0))) (h2 : w.heap[g2]? = some (.cells cs2 t2 (0, 0))) (hne : g ≠ g2) : Mem w w [⟨g, cs, t, false⟩, ⟨g2, cs2, t2, false⟩] :=
 ⟨rfl, rfl, rfl, Nat.le_refl _, fun _ _ _ => rfl, fun e he => by
  simp only [List.mem_cons, List.not_mem_nil, or_false] at he
  rcases he with rfl | rfl
  ·exact ⟨h, fun h => by cases h⟩
  ·exact ⟨h2, fun h => by cases h⟩, fun m n e f h1 h2 he => by
  rcases m with _ | _ | m <;> rcases n with _ | _ | n <;> simp at h1 h2 <;> first | rfl | (subst h1; subst h2; simp at he; omega)⟩
theorem mem (h : Mem w0 w M) (hn : M[n]? = some ⟨g, cs, t, o⟩) : w.heap[g]? = some (.cells cs t (0, 0)) :=
 (h.ent _ (List.mem_of_getElem? hn)).1
theorem cell (h : Mem w0 w M) (hn : M[n]? = some ⟨g, cs, t, o⟩) (i : Nat) : w.cell? ⟨g, i, none⟩ = cs[i]? :=
 cell_of_row w g i cs t (0, 0) (h.mem hn)
theorem frozen (h : Mem w0 w M) (hn : M[n]? = some ⟨g, cs, t, o⟩) (i : Nat) : w.frozen? ⟨g, i, none⟩ = false :=
 frozen_of_row w g i cs t (h.mem hn)
theorem done (h : Mem w0 w M) (ho : M.all (·.own) = true) : Below w0.heap.size w0 w :=
 ⟨h.os, h.tape, h.output, h.size, fun k hk => h.block k hk fun e he => by
  have := (h.ent e he).2 (List.all_eq_true.1 ho e he)
  omega⟩
theorem new (h : Mem w0 w M) (cs : Array Value) (t : TypeId) : Mem w0 (w.alloc (.cells cs t)) (⟨w.heap.size, cs, t, true⟩ :: M) := by
 have hlt : ∀ e ∈ M, e.g < w.heap.size := fun e he => lt_of_some (h.ent e he).1
 refine ⟨h.os, h.tape, h.output, ?_, fun k hk hne => ?_, fun e he => ?_, fun m n e f hm hn hef => ?_⟩
 ·have := h.size; simp; omega
 ·have := h.size
  rw [Below.heap_alloc w _ k (by omega)]
  exact h.block k hk fun e he => hne e (List.mem_cons_of_mem _ he)
 ·rcases List.mem_cons.1 he with rfl | he
  ·exact ⟨Go.heap_alloc_new w _, fun _ => h.size⟩
  ·rw [Below.heap_alloc w _ _ (hlt e he)]; exact h.ent e he
 ·rcases m with _ | m <;> rcases n with _ | n
  ·rfl
  ·simp only [List.getElem?_cons_zero, Option.some.injEq, List.getElem?_cons_succ] at hm hn
   have := hlt f (List.mem_of_getElem? hn); subst hm; simp at hef; omega
  ·simp only [List.getElem?_cons_zero, Option.some.injEq, List.getElem?_cons_succ] at hm hn
   have := hlt e (List.mem_of_getElem? hm); subst hn; simp at hef; omega
  ·simp only [List.getElem?_cons_succ] at hm hn
   rw [h.apart m n e f hm hn hef]
theorem upd (h : Mem w0 w M) (hn : M[n]? = some ⟨g, cs, t, o⟩) (hos : w'.os = w.os) (htape : w'.tape = w.tape) (hout : w'.output = w.output) (hsize : w.heap.size ≤ w'.heap.size)
  (hg : w'.heap[g]? = some (.cells cs' t (0, 0))) (hk : ∀ k, k < w.heap.size → k ≠ g → w'.heap[k]? = w.heap[k]?) : Mem w0 w' (M.set n ⟨g, cs', t, o⟩) := by
 have hnl := (List.getElem?_eq_some_iff.1 hn).1
 have hself : (M.set n ⟨g, cs', t, o⟩)[n]? = some ⟨g, cs', t, o⟩ := List.getElem?_set_self hnl
 have key : ∀ (m : Nat) (e : Ent), (M.set n ⟨g, cs', t, o⟩)[m]? = some e → (m = n ∧ e = ⟨g, cs', t, o⟩) ∨ (m ≠ n ∧ M[m]? = some e) := by
  intro m e hm
  by_cases hmn : m = n
  ·subst hmn; rw [hself] at hm; exact Or.inl ⟨rfl, (Option.some.inj hm).symm⟩
  ·rw [List.getElem?_set_ne (Ne.symm hmn)] at hm; exact Or.inr ⟨hmn, hm⟩
 have gof : ∀ (m : Nat) (e : Ent), (M.set n ⟨g, cs', t, o⟩)[m]? = some e → ∃ e', M[m]? = some e' ∧ e'.g = e.g := by
  intro m e hm
  rcases key m e hm with ⟨rfl, rfl⟩ | ⟨_, hm⟩
  ·exact ⟨_, hn, rfl⟩
  ·exact ⟨_, hm, rfl⟩
 refine ⟨hos.trans h.os, htape.trans h.tape, hout.trans h.output, Nat.le_trans h.size hsize, fun k hk' hne => ?_, fun e he => ?_, fun m m' e f hm hm' hef => ?_⟩
 ·have hgk : g ≠ k := by
   have := hne _ (List.mem_of_getElem? hself); exact this
  have := h.size
  rw [hk k (by omega) (Ne.symm hgk)]
  refine h.block k hk' fun e he => ?_
  obtain ⟨m, hm⟩ := List.getElem?_of_mem he
  by_cases hmn : m = n
  ·subst hmn; rw [hn] at hm; rw [← Option.some.inj hm]; exact hgk
  ·exact hne e (List.mem_of_getElem? (by rw [List.getElem?_set_ne (Ne.symm hmn)]; exact hm))
 ·obtain ⟨m, hm⟩ := List.getElem?_of_mem he
  rcases key m e hm with ⟨rfl, rfl⟩ | ⟨hmn, hm⟩
  ·exact ⟨hg, (h.ent _ (List.mem_of_getElem? hn)).2⟩
  ·have he' := h.ent e (List.mem_of_getElem? hm)
   have hne : e.g ≠ g := fun e' => hmn (h.apart m n e _ hm hn e')
   rw [hk _ (lt_of_some he'.1) hne]
   exact he'
 ·obtain ⟨e', he', hge⟩ := gof m e hm
  obtain ⟨f', hf', hgf⟩ := gof m' f hm'
  exact h.apart m m' e' f' he' hf' (by rw [hge, hgf, hef])
theorem row (h : Mem w0 w M) (hn : M[n]? = some ⟨g, cs, t, o⟩) (cs' : Array Value) : Mem w0 (w.setRow g cs') (M.set n ⟨g, cs', t, o⟩) :=
 h.upd hn rfl rfl rfl (by simp) (setRow_heap w g cs cs' t (0, 0) (h.mem hn)) (fun k _ hk => setRow_other w g k cs' hk)
theorem set (h : Mem w0 w M) (hn : M[n]? = some ⟨g, cs, t, o⟩) (i : Nat) (v : Value) : Mem w0 (w.setCell ⟨g, i, none⟩ v) (M.set n ⟨g, cs.setIfInBounds i v, t, o⟩) := by
 rw [setCell_eq_setRow w g i cs t (0, 0) v (h.mem hn)]
 exact h.row hn _
theorem after (h : Mem w0 w M) (hb : Below w.heap.size w w') : Mem w0 w' M := by
 have hlt : ∀ e ∈ M, e.g < w.heap.size := fun e he => lt_of_some (h.ent e he).1
 have := h.size
 exact ⟨hb.os.trans h.os, hb.tape.trans h.tape, hb.output.trans h.output, Nat.le_trans h.size hb.size,
  fun k hk hne => (hb.block k (by omega)).trans (h.block k hk hne),
  fun e he => by rw [hb.block _ (hlt e he)]; exact h.ent e he, h.apart⟩
theorem drawn (h : Mem w0 w M) (n : Nat) : Mem w0 { w with drawn := n } M :=
 ⟨h.os, h.tape, h.output, h.size, h.block, h.ent, h.apart⟩
theorem get {k : IntKind} {L : List Int} (h : Mem w0 w M) (hn : M[n]? = some ⟨g, vals k L, t, o⟩) (i : Nat) (hi : i < L.length) : w.cell? ⟨g, i, none⟩ = some (.int k (rd L (i : Int))) :=
 (h.cell hn i).trans (vals_get hi)
end Mem
structure Fr1 (g : Nat) (cs : Array Value) (t : TypeId) (w w' : World) : Prop where
 os : w'.os = w.os
 tape : w'.tape = w.tape
 output : w'.output = w.output
 size : w.heap.size ≤ w'.heap.size
 now : w'.heap[g]? = some (.cells cs t (0, 0))
 other : ∀ k, k < w.heap.size → k ≠ g → w'.heap[k]? = w.heap[k]?
theorem Fr1.below {g : Nat} {cs : Array Value} {t : TypeId} {w w' : World} (h : Fr1 g cs t w w') (h0 : w.heap[g]? = some (.cells cs t (0, 0))) : Below w.heap.size w w' :=
 ⟨h.os, h.tape, h.output, h.size, fun k hk => by
  by_cases e : k = g
  ·subst e; rw [h.now, h0]
  ·exact h.other k hk e⟩
theorem Mem.fr1 {w0 w w' : World} {M : List Ent} {n g : Nat} {cs cs' : Array Value} {t : TypeId} {o : Bool} (h : Mem w0 w M) (hn : M[n]? = some ⟨g, cs, t, o⟩) (hf : Fr1 g cs' t w w') : Mem w0 w' (M.set n ⟨g, cs', t, o⟩) :=
 h.upd hn hf.os hf.tape hf.output hf.size hf.now hf.other
theorem Mem.gives {w0 w : World} {M : List Ent} {g : Nat} {cs : Array Value} {t : TypeId} (h : Mem w0 w (M ++ [⟨g, cs, t, false⟩])) (ho : M.all (·.own) = true) : Fr1 g cs t w0 w :=
 ⟨h.os, h.tape, h.output, h.size, (h.ent ⟨g, cs, t, false⟩ (by simp)).1, fun k hk hne => h.block k hk fun e he => by
  rcases List.mem_append.1 he with he | he
  ·have := (h.ent e (List.mem_append_left _ he)).2 (List.all_eq_true.1 ho e he); omega
  ·rw [List.mem_singleton] at he; subst he; exact Ne.symm hne⟩
def AggTy (P : Program) (t : TypeId) (m : Nat) : Prop := (P.underlying t).map (fun d => match d with | .struct _ | .array _ _ => true | _ => false) = some true ∧ (P.info? t).map (·.size) = some m
def OneTy (P : Program) (t : TypeId) : Prop := (P.underlying t).map (fun d => match d with | .struct _ | .array _ _ => true | _ => false) = some false ∧ (P.info? t).map (·.size) = some 1
def ArrTy (P : Program) (t : TypeId) (m : Nat) : Prop := ∃ e, P.underlying t = some (.array m e) ∧ OneTy P e
def ZeroTy (P : Program) (t : TypeId) (cs : Array Value) : Prop := ∃ z, (P.info? t).map (·.zero) = some (some z) ∧ z.cells = cs
def FieldTy (P : Program) (t : TypeId) (f off : Nat) : Prop :=
 (match P.underlying t with | some (.struct fs) => (fs[f]?).bind fun fd => (P.info? fd.type).bind fun inf => if inf.size = 0 then none else some fd.offset | _ => none) = some off
section
variable {P : Program} {ops : Array Oper} {rest : List Oper} {o : Oper} {a : Act} {w0 w : World} {M : List Ent} {Q : Exit → Act → World → Prop}
theorem run_alloc {ty : TypeId} {z old : Value} (hz : (P.info? ty).map (·.zero) = some (some z)) (w : World) : (Instr.alloc ty true old).run P w = .ok (.pointer (some ⟨w.heap.size, 0, none⟩)) (w.alloc (.cells z.cells ty)) := by
 cases hq : P.info? ty with
 | none => simp [hq] at hz
 | some i =>
  have hz' : i.zero = some z := by simpa [hq] using hz
  simp [Instr.alloc, zeroValue, typeInfo, hq, hz', newVar, newRow, Sem.run_bind]
theorem run_box {ty : TypeId} {v : Value} (w : World) : (Instr.box ty v).run P w = .ok (.pointer (some ⟨w.heap.size, 0, none⟩)) (w.alloc (.cells v.cells ty)) := by
 simp [Instr.box, newVar, newRow, Sem.run_bind]
theorem st_alloc (hgd : o.guard = none) (d : Nat) (hdst : o.dst = some d) (ty : TypeId) (ho : o.op = .alloc ty) (hm : Mem w0 w M) {cs : Array Value} (hzt : ZeroTy P ty cs)
  (h : ∀ g w1, Mem w0 w1 (⟨g, cs, ty, true⟩ :: M) → wpList P ops Q rest (a.put (some d) (.pointer (some ⟨g, 0, none⟩))) w1) : wpList P ops Q (o :: rest) a w := by
 obtain ⟨z, hz, rfl⟩ := hzt
 refine wpList_plain hgd fun K hK => ?_
 rw [← hdst] at h
 unfold Oper.wp execOp
 simp only [ho, Sem.run_bind, run_alloc hz, Sem.run_pure, Result.andThen_ok]
 exact hK _ _ (h _ _ (hm.new _ _))
theorem st_box (hgd : o.guard = none) (d : Nat) (hdst : o.dst = some d) (ty : TypeId) (x : Operand) (ho : o.op = .box ty x) (hm : Mem w0 w M) {v : Value} (hv : a.eval x = v) {cs : Array Value} (hcs : v.cells = cs)
  (h : ∀ g w1, Mem w0 w1 (⟨g, cs, ty, true⟩ :: M) → wpList P ops Q rest (a.put (some d) (.pointer (some ⟨g, 0, none⟩))) w1) : wpList P ops Q (o :: rest) a w := by
 refine wpList_plain hgd fun K hK => ?_
 rw [← hdst] at h
 unfold Oper.wp execOp
 subst hcs
 simp only [ho, Sem.run_bind, run_box, hv, Sem.run_pure, Result.andThen_ok]
 exact hK _ _ (h _ _ (hm.new _ _))
theorem st_zero (hgd : o.guard = none) (t : TypeId) (ho : o.op = .build t #[]) {cs : Array Value} (hz : P.built t [] = some cs)
  (h : wpList P ops Q rest (a.put o.dst (.agg cs)) w) : wpList P ops Q (o :: rest) a w := by
 refine wpList_build hgd t #[] ho ?_ ?_
 ·simp [hz]
 ·simp [hz]; exact h
theorem st_full (hgd : o.guard = none) (ty : TypeId) (x y : Operand) (ho : o.op = .store ty x y) (hm : Mem w0 w M) {g m : Nat} {k k' : IntKind} {S : List Int} (hx : a.eval x = .pointer (some ⟨g, 0, none⟩)) (hy : a.eval y = .agg (vals k S))
  (n : Nat) {L : List Int} {t : TypeId} {own : Bool} (hn : M[n]? = some ⟨g, vals k' L, t, own⟩) (hi : AggTy P ty m) (hs : S.length = m) (hl : L.length = m)
  (h : ∀ w1, Mem w0 w1 (M.set n ⟨g, vals k S, t, own⟩) → wpList P ops Q rest (a.put o.dst undef) w1) : wpList P ops Q (o :: rest) a w :=
 wpList_store_row hgd ty x y ho g (vals k S) hx hy t _ (hm.mem hn) (by rw [vals_size, hs]; exact hi.2) (by rw [vals_size, vals_size, hs, hl]) vals_one (h _ (hm.row hn _))
theorem st_load (hgd : o.guard = none) (ty : TypeId) (x : Operand) (ho : o.op = .load ty x) (hm : Mem w0 w M) {g : Nat} (hx : a.eval x = .pointer (some ⟨g, 0, none⟩))
  (n : Nat) {k : IntKind} {L : List Int} {m : Nat} {t : TypeId} {own : Bool} (hn : M[n]? = some ⟨g, vals k L, t, own⟩) (hi2 : AggTy P ty m) (hl : L.length = m)
  (h : wpList P ops Q rest (a.put o.dst (.agg (vals k L))) w) : wpList P ops Q (o :: rest) a w := by
 obtain ⟨hd, hi0⟩ := hi2
 have hi : (P.info? ty).map (·.size) = some (vals k L).size := by rw [vals_size, hl]; exact hi0
 cases hu : P.underlying ty with
 | none => simp [hu] at hd
 | some d =>
  refine wpList_load_row hgd ty x ho g hx t (vals k L) (0, 0) d (hm.mem hn) hu ?_ hi h
  cases d <;> simp_all
theorem run_store1 {ty : TypeId} {w : World} {a : Addr} {v : Value} (hi : (P.info? ty).map (·.size) = some 1) (hv : v.cells = #[v]) {old : Value} (hc : w.cell? a = some old) (hf : w.frozen? a = false) (h1 : v.oneCell' = true) : (storeVar ty a v).run P w = .ok () (w.setCell a v) := by
 cases hq : P.info? ty with
 | none => simp [hq] at hi
 | some i =>
  have hs : i.size = 1 := by simpa [hq] using hi
  have ha : a.add 0 = a := rfl
  simp [storeVar, sizeOf, typeInfo, hq, hs, hv, storeCells, Sem.run_bind, ha, run_store P w a v .plain h1, hc, hf]
theorem st_set (hgd : o.guard = none) (ty : TypeId) (x y : Operand) (ho : o.op = .store ty x y) (hm : Mem w0 w M) {g i : Nat} {k : IntKind} {u : Int} (hx : a.eval x = .pointer (some ⟨g, i, none⟩)) (hy : a.eval y = .int k u)
  (n : Nat) {L : List Int} {t : TypeId} {own : Bool} (hn : M[n]? = some ⟨g, vals k L, t, own⟩) (hi2 : OneTy P ty) (hl : i < L.length)
  (h : ∀ w1, Mem w0 w1 (M.set n ⟨g, vals k (L.set i u), t, own⟩) → wpList P ops Q rest (a.put o.dst undef) w1) : wpList P ops Q (o :: rest) a w := by
 refine wpList_plain hgd fun K hK => ?_
 unfold Oper.wp execOp
 have hst : (storeVar ty ⟨g, i, none⟩ (.int k u)).run P w = .ok () (w.setCell ⟨g, i, none⟩ (.int k u)) := run_store1 hi2.2 rfl ((hm.cell hn i).trans (vals_get hl)) (hm.frozen hn i) rfl
 simp only [ho, hx, hy, Instr.storeAt, Instr.sureAddr, Sem.run_bind, Sem.run_pure, Result.andThen_ok, hst]
 refine hK _ _ (h _ ?_)
 rw [← vals_set]
 exact hm.set hn i _
theorem st_get (hgd : o.guard = none) (ty : TypeId) (x : Operand) (ho : o.op = .load ty x) (hm : Mem w0 w M) {g i : Nat} {k : IntKind} (hx : a.eval x = .pointer (some ⟨g, i, none⟩))
  (n : Nat) {L : List Int} {t : TypeId} {own : Bool} (hn : M[n]? = some ⟨g, vals k L, t, own⟩) (hi2 : OneTy P ty) (hl : i < L.length)
  (h : wpList P ops Q rest (a.put o.dst (.int k (rd L (i : Int)))) w) : wpList P ops Q (o :: rest) a w := by
 have hd := hi2.1
 refine wpList_plain hgd fun K hK => ?_
 unfold Oper.wp execOp
 have hagg : (isAgg ty).run P w = .ok false w := by
  unfold isAgg
  cases hu : P.underlying ty with
  | none => simp [hu] at hd
  | some d =>
   rw [Sem.run_bind, run_underlying hu w]
   cases d <;> simp_all
 simp only [ho, hx, Instr.loadAt, Instr.sureAddr, Sem.run_bind, Sem.run_pure, Result.andThen_ok, loadVar, hagg]
 simp [run_load, (hm.cell hn i).trans (vals_get hl)]
 exact hK _ _ h
theorem st_part (hgd : o.guard = none) (ty : TypeId) (x : Operand) (ho : o.op = .load ty x) (hm : Mem w0 w M) {g i m : Nat} {k : IntKind} (hx : a.eval x = .pointer (some ⟨g, i, none⟩))
  (n : Nat) {L : List Int} {t : TypeId} {own : Bool} (hn : M[n]? = some ⟨g, vals k L, t, own⟩) (hi2 : AggTy P ty m) (hl : i + m ≤ L.length)
  (h : wpList P ops Q rest (a.put o.dst (.agg (vals k ((L.drop i).take m)))) w) : wpList P ops Q (o :: rest) a w := by
 obtain ⟨hd, hi⟩ := hi2
 refine wpList_plain hgd fun K hK => ?_
 unfold Oper.wp execOp
 have hagg : (isAgg ty).run P w = .ok true w := by
  unfold isAgg
  cases hu : P.underlying ty with
  | none => simp [hu] at hd
  | some d =>
   rw [Sem.run_bind, run_underlying hu w]
   cases d <;> simp_all
 have hsz : (sizeOf ty).run P w = .ok m w := by
  cases hq : P.info? ty with
  | none => simp [hq] at hi
  | some i => simp [sizeOf, typeInfo, hq, Sem.run_bind]; simpa [hq] using hi
 have hl2 : (loadCells ⟨g, i, none⟩ (vals k ((L.drop i).take m)).toList.length).run P w = .ok (vals k ((L.drop i).take m)).toList.toArray w :=
  run_loadCells_list (P := P) w ⟨g, i, none⟩ _ (fun j v hv => by
   have hjm : j < m := by
    have := (List.getElem?_eq_some_iff.1 hv).1
    simp [vals] at this; omega
   have hadd : (⟨g, i, none⟩ : Addr).add j = ⟨g, i + j, none⟩ := by unfold Addr.add; split <;> simp_all
   rw [hadd, (hm.cell hn (i + j)).trans (vals_get (by omega))]
   rw [Array.getElem?_toList, vals_get (by simp; omega)] at hv
   rw [← hv]
   congr 2
   simp only [rd, Int.toNat_natCast, List.getD_eq_getElem?_getD]
   rw [List.getElem?_take, if_pos hjm, List.getElem?_drop])
 have hlen : (vals k ((L.drop i).take m)).toList.length = m := by simp [vals]; omega
 rw [hlen, Array.toArray_toList] at hl2
 simp only [ho, hx, Instr.loadAt, Instr.sureAddr, Sem.run_bind, Sem.run_pure, Result.andThen_ok, loadVar, hagg, hsz, hl2, if_true]
 exact hK _ _ h
theorem st_index (hgd : o.guard = none) (ty : TypeId) (x y : Operand) (ho : o.op = .index ty x y) {k ki : IntKind} {L : List Int} {i : Int} {m : Nat} (hx : a.eval x = .agg (vals k L)) (hy : a.eval y = .int ki i)
  (hat : ArrTy P ty m) (h0 : 0 ≤ i) (h1 : i < m) (hl : L.length = m)
  (h : wpList P ops Q rest (a.put o.dst (.int k (rd L i))) w) : wpList P ops Q (o :: rest) a w := by
 obtain ⟨e, hu, hd, he⟩ := hat
 refine wpList_plain hgd fun K hK => ?_
 unfold Oper.wp execOp
 have hagg : (isAgg e).run P w = .ok false w := by
  unfold isAgg
  cases hu : P.underlying e with
  | none => simp [hu] at hd
  | some d =>
   rw [Sem.run_bind, run_underlying hu w]
   cases d <;> simp_all
 have hsz : (sizeOf e).run P w = .ok 1 w := by
  cases hq : P.info? e with
  | none => simp [hq] at he
  | some i => simp [sizeOf, typeInfo, hq, Sem.run_bind]; simpa [hq] using he
 have hg : (vals k L)[i.toNat]? = some (.int k (rd L i)) := by
  rw [vals_get (by omega), Int.toNat_of_nonneg h0]
 simp only [ho, hx, hy, Instr.index, asIntOf, Sem.run_bind, Sem.run_pure, Result.andThen_ok, run_underlying hu w, if_pos (And.intro h0 h1), hsz, part, hagg, Nat.mul_one]
 simp [hg]
 exact hK _ _ h
theorem st_field (hgd : o.guard = none) (ty : TypeId) (x : Operand) (f : Nat) (ho : o.op = .fieldAddr ty x f) {g i off : Nat} (hx : a.eval x = .pointer (some ⟨g, i, none⟩))
  (hf0 : FieldTy P ty f off)
  (h : wpList P ops Q rest (a.put o.dst (.pointer (some ⟨g, i + off, none⟩))) w) : wpList P ops Q (o :: rest) a w := by
 refine wpList_plain hgd fun K hK => ?_
 unfold Oper.wp execOp
 have hf := hf0
 unfold FieldTy at hf
 split at hf
 ·rename_i fs hu
  obtain ⟨fd, hfd, hf⟩ := Option.bind_eq_some_iff.1 hf
  obtain ⟨inf, hinf, hf⟩ := Option.bind_eq_some_iff.1 hf
  split at hf
  ·cases hf
  ·rename_i hne
   injection hf with hf
   subst hf
   have hadd : (⟨g, i, none⟩ : Addr).add fd.offset = ⟨g, i + fd.offset, none⟩ := by unfold Addr.add; split <;> simp_all
   simp [ho, hx, Instr.fieldAt, Sem.run_bind, run_underlying hu w, hfd, Instr.sureAddr, fieldPlace, sizeOf, typeInfo, hinf, hne, hadd]
   exact hK _ _ h
 ·cases hf
theorem st_elem (hgd : o.guard = none) (ty : TypeId) (x y : Operand) (ho : o.op = .indexAddr ty x y) {g off : Nat} {ki : IntKind} {i : Int} {m : Nat} (hx : a.eval x = .pointer (some ⟨g, off, none⟩)) (hy : a.eval y = .int ki i)
  (hat : ArrTy P ty m) (h0 : 0 ≤ i) (h1 : i < m)
  (h : wpList P ops Q rest (a.put o.dst (.pointer (some ⟨g, off + i.toNat, none⟩))) w) : wpList P ops Q (o :: rest) a w := by
 obtain ⟨e, hu, hd, he⟩ := hat
 refine wpList_plain hgd fun K hK => ?_
 unfold Oper.wp execOp
 have hsz : (sizeOf e).run P w = .ok 1 w := by
  cases hq : P.info? e with
  | none => simp [hq] at he
  | some i => simp [sizeOf, typeInfo, hq, Sem.run_bind]; simpa [hq] using he
 have hadd : (⟨g, off, none⟩ : Addr).add i.toNat = ⟨g, off + i.toNat, none⟩ := by unfold Addr.add; split <;> simp_all
 simp [ho, hx, hy, Instr.indexAt, asIntOf, Sem.run_bind, run_underlying hu w, Instr.sureAddr, hsz, h0, h1, hadd]
 exact hK _ _ h
theorem ret_cell {fn : Func} {R : Ending → World → Prop} {p : Tmp} {ty : TypeId} {g : Nat} (hm : Mem w0 w M) (h : fn.results = #[.cell p ty]) (hp : a.tmps.getD p undef = .pointer (some ⟨g, 0, none⟩))
  (n : Nat) {k : IntKind} {L : List Int} {m : Nat} {t : TypeId} {own : Bool} (hn : M[n]? = some ⟨g, vals k L, t, own⟩) (hi2 : AggTy P ty m) (hl : L.length = m)
  (hd : a.defers = []) (hR : R (.returned (.agg (vals k L))) w) : bodyPost P fn R .ret a w := by
 obtain ⟨hd2, hi0⟩ := hi2
 have hi : (P.info? ty).map (·.size) = some (vals k L).size := by rw [vals_size, hl]; exact hi0
 cases hu : P.underlying ty with
 | none => simp [hu] at hd2
 | some d =>
  have hld := run_loadVar_row (P := P) w g t ty (vals k L) (0, 0) d (hm.mem hn) hu (by cases d <;> simp_all) hi
  refine bodyPost_ret (v := .agg (vals k L)) ?_ hd hR
  have hp' : a.tmps[p]?.getD undef = .pointer (some ⟨g, 0, none⟩) := by simpa using hp
  simp [results, h, hp', asAddr, hld]
theorem ret_cell_tmp {fn : Func} {R : Ending → World → Prop} {p u : Tmp} {ty : TypeId} {g : Nat} (hm : Mem w0 w M) (h : fn.results = #[.cell p ty, .tmp u]) (hp : a.tmps.getD p undef = .pointer (some ⟨g, 0, none⟩))
  (n : Nat) {k : IntKind} {L : List Int} {m : Nat} {t : TypeId} {own : Bool} (hn : M[n]? = some ⟨g, vals k L, t, own⟩) (hi2 : AggTy P ty m) (hl : L.length = m)
  (hd : a.defers = []) (hR : R (.returned (.tuple #[.agg (vals k L), a.tmps.getD u undef])) w) : bodyPost P fn R .ret a w := by
 obtain ⟨hd2, hi0⟩ := hi2
 have hi : (P.info? ty).map (·.size) = some (vals k L).size := by rw [vals_size, hl]; exact hi0
 cases hu : P.underlying ty with
 | none => simp [hu] at hd2
 | some d =>
  have hld := run_loadVar_row (P := P) w g t ty (vals k L) (0, 0) d (hm.mem hn) hu (by cases d <;> simp_all) hi
  refine bodyPost_ret (v := .tuple #[.agg (vals k L), a.tmps.getD u undef]) ?_ hd hR
  rw [results_cell_tmp h, hp]
  simp [asAddr, hld]
end
theorem lens : (∀ (L : List Int) (i : Nat) (v : Int), (L.set i v).length = L.length) ∧ (∀ (n : Nat) (v : Int), (List.replicate n v).length = n) ∧ (∀ n : Nat, (zs n).length = n) ∧ (∀ (f : Int → Int) (L : List Int), (L.map f).length = L.length) ∧
  (∀ L L' : List Int, (L ++ L').length = L.length + L'.length) ∧ (∀ (n : Nat) (L : List Int), (L.take n).length = min n L.length) ∧ (∀ (n : Nat) (L : List Int), (L.drop n).length = L.length - n) ∧ (∀ (x : Int) (L : List Int), (x :: L).length = L.length + 1) ∧
  (([] : List Int).length = 0) ∧ (∀ n : Nat, 0 + n = n) ∧ (∀ n : Nat, n + 0 = n) ∧ (∀ n : Nat, ((n : Int).toNat) = n) :=
 ⟨by simp, by simp, fun n => zs_length, by simp, by simp, by simp, by simp, by simp, rfl, by simp, by simp, by simp⟩
section
variable {P : Program} {ops : Array Oper} {rest : List Oper} {a : Act} {w : World} {Q : Exit → Act → World → Prop} {dst : Option Tmp} {x y : Operand} {tt : TypeId} {pos : String} {after : Array Edge} {g : Option (Nat × Bool)}
theorem gt_alloc (d ty : Nat) (h : wpList P ops Q (⟨some d, .alloc ty, tt, pos, after, g⟩ :: rest) a w) : wpList P ops Q (⟨some d, .alloc ty, tt, pos, after, g⟩ :: rest) a w := h
theorem gt_box (d ty : Nat) (h : wpList P ops Q (⟨some d, .box ty x, tt, pos, after, g⟩ :: rest) a w) : wpList P ops Q (⟨some d, .box ty x, tt, pos, after, g⟩ :: rest) a w := h
theorem gt_build (ty : Nat) (h : wpList P ops Q (⟨dst, .build ty #[], tt, pos, after, g⟩ :: rest) a w) : wpList P ops Q (⟨dst, .build ty #[], tt, pos, after, g⟩ :: rest) a w := h
theorem gt_store (ty : Nat) (h : wpList P ops Q (⟨dst, .store ty x y, tt, pos, after, g⟩ :: rest) a w) : wpList P ops Q (⟨dst, .store ty x y, tt, pos, after, g⟩ :: rest) a w := h
theorem gt_load (ty : Nat) (h : wpList P ops Q (⟨dst, .load ty x, tt, pos, after, g⟩ :: rest) a w) : wpList P ops Q (⟨dst, .load ty x, tt, pos, after, g⟩ :: rest) a w := h
theorem gt_index (ty : Nat) (h : wpList P ops Q (⟨dst, .index ty x y, tt, pos, after, g⟩ :: rest) a w) : wpList P ops Q (⟨dst, .index ty x y, tt, pos, after, g⟩ :: rest) a w := h
theorem gt_elem (ty : Nat) (h : wpList P ops Q (⟨dst, .indexAddr ty x y, tt, pos, after, g⟩ :: rest) a w) : wpList P ops Q (⟨dst, .indexAddr ty x y, tt, pos, after, g⟩ :: rest) a w := h
theorem gt_field (ty f : Nat) (h : wpList P ops Q (⟨dst, .fieldAddr ty x f, tt, pos, after, g⟩ :: rest) a w) : wpList P ops Q (⟨dst, .fieldAddr ty x f, tt, pos, after, g⟩ :: rest) a w := h
end
end Go.Proofs.YthaoopbfggnceaaGreatDoor.Arr
namespace Go.Proofs.YthaoopbfggnceaaGreatDoor.L
open Go.RowKit Go.Proofs.YthaoopbfggnceaaGreatDoorW.PrintWords Go.Proofs.YthaoopbfggnceaaGreatDoorW.PrintLast Go.Proofs.YthaoopbfggnceaaGreatDoorW.PrintMore
attribute [local go_sem] max2_int min2_int max_two min_two max_three min_three max_four min_four
set_option linter.unusedVariables false
set_option linter.unusedSimpArgs false
def errW : Option Int → Value
 | none => .nilIface
 | some c => .iface 0 (.int .i64 c)
theorem errW_none : errW none = .nilIface := rfl
theorem errW_some (c : Int) : errW (some c) = .iface 0 (.int .i64 c) := rfl
theorem info45 : (Tryz.prog.info? 45).map (fun i => (i.zero, i.size, i.bytes)) = some (some (.int .i8 0), 1, 1) := by kernel_rfl
def rd_L2 (xs : List (List Int)) (i : Int) : (List Int) := xs.getD i.toNat ([] : List Int)
theorem at_L2 {w : World} {A : Option Addr} {n : Nat} {xs : List (List Int)} (h : Kd.C (Kd.slice 45 (Kd.int .i8)) w A n xs) (i : Int) (h0 : 0 ≤ i) (h1 : i < n) : ∃ ad A0 c0, A = some ad ∧ w.cell? (ad.add i.toNat) = some (.slice A0 (rd_L2 xs i).length c0) ∧ (rd_L2 xs i).length ≤ c0 ∧ (Kd.int .i8).C w A0 (rd_L2 xs i).length (rd_L2 xs i) := by
 obtain ⟨ad, c, e, _, hK, hc0⟩ := Kd.C_get h ([] : List Int) i h0 h1
 have hc : ∀ j u, c[j]? = some u → w.cell? (ad.add (i.toNat * 1 + j)) = some u := hc0
 obtain ⟨A0, c0, rfl, l0, g0⟩ := hK
 exact ⟨ad, A0, c0, e, by have hq := hc 0 _ rfl; rwa [Nat.mul_one, Nat.add_zero] at hq, l0, g0⟩
end Go.Proofs.YthaoopbfggnceaaGreatDoor.L
namespace Go.Proofs.YthaoopbfggnceaaGreatDoor.L
open Go.RowKit Go.Proofs.YthaoopbfggnceaaGreatDoorW.PrintWords Go.Proofs.YthaoopbfggnceaaGreatDoorW.PrintLast Go.Proofs.YthaoopbfggnceaaGreatDoorW.PrintMore
attribute [local go_sem] max2_int min2_int max_two min_two max_three min_three max_four min_four
set_option linter.unusedVariables false
set_option linter.unusedSimpArgs false
def spec_l00In.f (a0 : Int) (a1 : Int) (a2 : Int) : Option (Bool) := if a0 ≥ a1 then (some (decide (a0 ≤ a2))) else (some false)
set_option maxHeartbeats 8000000 in
set_option maxRecDepth 100000 in
theorem spec_l00In.calls (a0 : Int) (a1 : Int) (a2 : Int) (r : Bool) (w : World) (h : spec_l00In.f a0 a1 a2 = some r) :
  Calls Tryz.prog 58 #[.int .i64 a0, .int .i64 a1, .int .i64 a2] w fun e w' => e = .returned (.bool r) ∧ Drawn0 w w' := by
 have H : (if a0 ≥ a1 then (some (decide (a0 ≤ a2))) else (some false)) = some r := h
 clear h
 by_cases c4 : a0 ≥ a1
 ·rw [if_pos c4] at H
  have c4b0 : decide (a1 ≤ a0) = true := decide_eq_true c4
  clear c4
  obtain rfl := Option.some.inj H
  go_enter Tryz.func58, Tryz.ntmps58
  go_wp2
  go_ret
  exact ⟨by first | rfl | (simp; done) | (simp [*]; done), by repeat (first | exact Drawn0.refl _ | apply Drawn0.step)⟩
 ·rw [if_neg c4] at H
  have c4b0 : decide (a1 ≤ a0) = false := decide_eq_false c4
  clear c4
  obtain rfl := Option.some.inj H
  go_enter Tryz.func58, Tryz.ntmps58
  go_wp2
  go_ret
  exact ⟨by first | rfl | (simp; done) | (simp [*]; done), by repeat (first | exact Drawn0.refl _ | apply Drawn0.step)⟩
mutual
def spec_l02Read.l0 : Nat → List Int → Int → List Int → Int → Int → Option (List Int × Bool)
 | 0, _, _, _, _, _ => none
 | k + 1, x0, x4, x5, x6, x7 => if x7 < x4 then (if 0 ≤ x7 then (if x7 < (x0.length : Int) then (if (rd x0 x7) = (-10) then (if x7 = x6 then (some ((([] : List Int)), false)) else (if x7 = (wrap64 (x4 - 1)) then (some ((([] : List Int)), false)) else (if x5.length < 140737488355328 then (spec_l02Read.l0 k x0 x4 (x5 ++ [rd x0 x7]) (wrap64 (x7 + 1)) (wrap64 (x7 + 1))) else (none)))) else (if (rd x0 x7) ≥ 0 then (spec_l02Read.j1 k x0 x4 x5 x6 x7 (rd x0 x7) (decide ((rd x0 x7) < 40))) else (spec_l02Read.j1 k x0 x4 x5 x6 x7 (rd x0 x7) false))) else (none)) else (none)) else (some (x5, true))
def spec_l02Read.j1 : Nat → List Int → Int → List Int → Int → Int → Int → Bool → Option (List Int × Bool)
 | 0, _, _, _, _, _, _, _ => none
 | k + 1, x0, x4, x5, x6, x7, x8, x46 => if x46 = true then (if x5.length < 140737488355328 then (spec_l02Read.l0 k x0 x4 (x5 ++ [x8]) x6 (wrap64 (x7 + 1))) else (none)) else (if x8 < 0 then (spec_l02Read.j2 k x0 x4 x5 x6 x7 x8 (decide (x8 ≥ (-4)))) else (spec_l02Read.j2 k x0 x4 x5 x6 x7 x8 false))
def spec_l02Read.j2 : Nat → List Int → Int → List Int → Int → Int → Int → Bool → Option (List Int × Bool)
 | 0, _, _, _, _, _, _, _ => none
 | k + 1, x0, x4, x5, x6, x7, x8, x57 => if x57 = true then (if (wrap64 ((wrap64 (x6 + (wrap64 (IntKind.i8.wrap (-x8))))) - 1)) ≥ x7 then (some ((([] : List Int)), false)) else (if 0 ≤ (wrap64 ((wrap64 (x6 + (wrap64 (IntKind.i8.wrap (-x8))))) - 1)) then (if (wrap64 ((wrap64 (x6 + (wrap64 (IntKind.i8.wrap (-x8))))) - 1)) < (x5.length : Int) then (if x5.length < 140737488355328 then (spec_l02Read.l0 k x0 x4 (x5 ++ [rd x5 (wrap64 ((wrap64 (x6 + (wrap64 (IntKind.i8.wrap (-x8))))) - 1))]) x6 (wrap64 (x7 + 1))) else (none)) else (none)) else (none))) else (some ((([] : List Int)), false))
end
def spec_l02Read.f (k : Nat) (l0 : List Int) : Option (List Int × Bool) := (spec_l00In.f (l0.length : Int) 1 8).bind fun t101 => (if t101 = true then (spec_l02Read.l0 k l0 (l0.length : Int) (([] : List Int)) 0 0) else (some ((([] : List Int)), false)))
set_option maxHeartbeats 8000000 in
set_option maxRecDepth 100000 in
theorem spec_l02Read.calls (k : Nat) (A0 : Option Addr) (c0 : Nat) (l0 : List Int) (r1 : List Int) (r2 : Bool) (w : World) (hr0 : Kd.C (Kd.int .i8) w A0 l0.length l0) (hc0 : l0.length ≤ c0) (h : spec_l02Read.f k l0 = some (r1, r2)) :
  Calls Tryz.prog 80 #[.slice A0 l0.length c0] w fun e w' => ∃ v0_ : Value, e = .returned (.tuple #[v0_, .bool r2]) ∧ Kd.R (Kd.int .i8) 45 w' w.heap.size (fun _ => True) v0_ r1 ∧ Below w.heap.size w w' := by
 have HR0 := Aside0.mk hr0
 have HC0 := Aside0.mk hc0
 clear hr0 hc0
 have HB := Aside0.mk (Below.refl w.heap.size w)
 have H : ((spec_l00In.f (l0.length : Int) 1 8).bind fun t101 => (if t101 = true then (spec_l02Read.l0 k l0 (l0.length : Int) (([] : List Int)) 0 0) else (some ((([] : List Int)), false)))) = some (r1, r2) := h
 clear h
 replace H := Option.bind_eq_some_iff.mp H
 obtain ⟨t101, A20, H⟩ := H
 replace H : (if t101 = true then (spec_l02Read.l0 k l0 (l0.length : Int) (([] : List Int)) 0 0) else (some ((([] : List Int)), false))) = some (r1, r2) := H
 have A2 := Aside0.mk A20
 clear A20
 by_cases c3 : t101 = true
 ·subst c3
  have H1 : (spec_l02Read.l0 k l0 (l0.length : Int) (([] : List Int)) 0 0) = some (r1, r2) := by rw [if_pos rfl] at H; exact H
  clear H
  have H := H1
  clear H1
  obtain ⟨y105, hy105⟩ : ∃ y_ : List Int, y_ = (([] : List Int)) := ⟨_, rfl⟩
  replace H : (spec_l02Read.l0 k l0 (l0.length : Int) y105 0 0) = some (r1, r2) := by first | (rw [hy105]; with_reducible exact H) | (have H2_ := (Option.bind_some _ _).symm.trans H; rw [hy105]; with_reducible exact H2_) | (have H2_ := (Option.bind_some _ _).symm.trans H; with_reducible exact H2_) | with_reducible exact H | (rw [hy105]; exact H) | exact H
  have Ny105 := Aside0.mk hy105
  clear hy105
  have H' := Aside0.mk H
  clear H
  go_enter Tryz.func80, Tryz.ntmps80
  go_wp2_with (first | ((with_reducible refine gate_callee (f := 58) rfl ?_); refine goesL_ (some 13) rfl rfl Tryz.func58 (by kernel_rfl) rfl #[.int .i64 (l0.length : Int), .int .i64 1, .int .i64 8] rfl (by (try simp only [List.map_toArray, List.map_cons, List.map_nil]); first | done | rfl | (simp only [List.length_drop, List.length_take]; rfl)) ?_; (with_reducible refine (spec_l00In.calls (l0.length : Int) 1 8 true _ A2.out).mono ?_); rintro e w' ⟨rfl, ⟨nd, rfl⟩⟩; refine ⟨_, rfl, ?_⟩) | ((with_reducible refine gate_dst (N := 16) rfl ?_); refine Kd.R_lit (Kd.int .i8) _ 45 ?hg (N := 16) ?hd (xs := ([] : List Int)) (inner := []) (ok := fun _ => True) (okp := fun _ => True) ?hr ?hp (fun _ hk => hk) trivial (Below.refl _ _) (Nat.le_refl _) (by simp) ?_; (case hd => rfl); (case hg => rfl); (case hr => first | (go_simp; done) | (go_simp; rfl)); (case hp => exact (Reps.none _ _)); intro v106 w4 ho5 hb hg_ hnew_; clear hg_ hnew_; (first | rw [← Ny105.out] at ho5 | (simp only [Int.reduceToNat] at ho5; rw [← Ny105.out] at ho5)); have n0_ := Aside0.mk (Kd.R_lower ho5 (below_size (by repeat (first | (with_reducible first | exact HB.out | apply below_alloc | apply pw_below_drewN | apply below_drew1) | exact HB.out)))); have n1_ := Aside0.mk (below_step (by repeat (first | (with_reducible first | exact HB.out | apply below_alloc | apply pw_below_drewN | apply below_drew1) | exact HB.out)) hb); clear HB; have HO107 := n0_; have HB := n1_; clear n0_ n1_; clear hb ho5))
  go_loopg [5, 6, 7] k (fun kq v5 v6 v7 w' => ∃ (x5_1 : List Int) (x6_1 : Int) (x7_1 : Int), v6 = .int .i64 x6_1 ∧ v7 = .int .i64 x7_1 ∧ Aside0 (spec_l02Read.l0 kq l0 (l0.length : Int) x5_1 x6_1 x7_1 = some (r1, r2)) ∧ Aside0 (kq ≤ k) ∧ Aside0 (Kd.R (Kd.int .i8) 45 w' w.heap.size (fun _ => True) v5 x5_1) ∧ Aside0 (Below w.heap.size w w'))
  case atStart => exact ⟨(y105), (0), (0), (by first | rfl | (simp; done) | (simp [*]; done)), (by first | rfl | (simp; done) | (simp [*]; done)), H', ⟨Nat.le_refl _⟩, ⟨by (with_reducible repeat (first | apply Kd.R_alloc | apply Kd.R_drewN | apply Kd.R_drew)); exact HO107.out⟩, ⟨by repeat (first | (with_reducible first | exact HB.out | apply below_alloc | apply pw_below_drewN | apply below_drew1) | exact HB.out)⟩⟩
  case round =>
   clear H'
   try clear p2
   try clear c3
   try clear c5
   obtain ⟨x5_1, x6_1, x7_1, rfl, rfl, HA, HK1, HO_5, HB⟩ := hrel
   cases gk with
   | zero => exact absurd HA.out (by simp [spec_l02Read.l0])
   | succ k1 =>
    have H := HA.out
    clear HA
    simp only [spec_l02Read.l0] at H
    by_cases c6 : x7_1 < (l0.length : Int)
    ·rw [if_pos c6] at H
     have c6b0 : decide (x7_1 < (l0.length : Int)) = true := decide_eq_true c6
     clear c6
     by_cases c7 : 0 ≤ x7_1
     ·rw [if_pos c7] at H
      have c7b0 : decide (0 ≤ x7_1) = true := decide_eq_true c7
      clear c7
      by_cases c8 : x7_1 < (l0.length : Int)
      ·rw [if_pos c8] at H
       have c8b0 : decide (x7_1 < (l0.length : Int)) = true := decide_eq_true c8
       clear c8
       by_cases c9 : (rd l0 x7_1) = (-10)
       ·rw [if_pos c9] at H
        have c9b0 : ((rd l0 x7_1) == (-10)) = true := beq_iff_eq.mpr c9
        have c9b1 : ((rd l0 x7_1) != (-10)) = false := bne_eq_false_iff_eq.mpr c9
        clear c9
        by_cases c10 : x7_1 = x6_1
        ·rw [if_pos c10] at H
         have c10b0 : (x7_1 == x6_1) = true := beq_iff_eq.mpr c10
         have c10b1 : (x7_1 != x6_1) = false := bne_eq_false_iff_eq.mpr c10
         clear c10
         obtain ⟨y109, hy109⟩ : ∃ y_ : List Int, y_ = (([] : List Int)) := ⟨_, rfl⟩
         replace H : (some (y109, false)) = some (r1, r2) := by first | (rw [hy109]; with_reducible exact H) | (have H2_ := (Option.bind_some _ _).symm.trans H; rw [hy109]; with_reducible exact H2_) | (have H2_ := (Option.bind_some _ _).symm.trans H; with_reducible exact H2_) | with_reducible exact H | (rw [hy109]; exact H) | exact H
         have Ny109 := Aside0.mk hy109
         clear hy109
         simp only [Option.some.injEq, Prod.mk.injEq] at H
         obtain ⟨rfl, rfl⟩ := H
         have p108 : 0 ≤ (x7_1 : Int) := of_decide_eq_true (by first | (with_reducible assumption) | assumption)
         have q108 : x7_1 < (l0.length : Int) := of_decide_eq_true (by first | (with_reducible assumption) | assumption)
         obtain ⟨ad108, e108, hx108_0⟩ := Kd.at_int HR0.out x7_1 p108 q108
         cases e108
         replace hx108_0 := (HB.out.cell (World.block_lt_of_cell? w _ hx108_0)).trans hx108_0
         replace p108 := eq_true p108
         replace q108 := eq_true q108
         go_wp2_with (first | ((with_reducible refine gate_dst (N := 39) rfl ?_); refine Kd.R_lit (Kd.int .i8) _ 45 ?hg (N := 39) ?hd (xs := ([] : List Int)) (inner := []) (ok := fun _ => True) (okp := fun _ => True) ?hr ?hp (fun _ hk => hk) trivial (Below.refl _ _) (Nat.le_refl _) (by simp) ?_; (case hd => rfl); (case hg => rfl); (case hr => first | (go_simp; done) | (go_simp; rfl)); (case hp => exact (Reps.none _ _)); intro v110 w11 ho12 hb hg_ hnew_; clear hg_ hnew_; (first | rw [← Ny109.out] at ho12 | (simp only [Int.reduceToNat] at ho12; rw [← Ny109.out] at ho12)); have n0_ := Aside0.mk (Kd.R_elder' (by (with_reducible repeat (first | apply Kd.R_alloc | apply Kd.R_drewN | apply Kd.R_drew)); exact HO_5.out) (Kd.R_base ho12) hb); have n1_ := Aside0.mk (Kd.R_lower (Kd.R_new' ho12 (Kd.R_lt (by (with_reducible repeat (first | apply Kd.R_alloc | apply Kd.R_drewN | apply Kd.R_drew)); exact HO_5.out))) (below_size (by repeat (first | (with_reducible first | exact HB.out | apply below_alloc | apply pw_below_drewN | apply below_drew1) | exact HB.out)))); have n2_ := Aside0.mk (below_step (by repeat (first | (with_reducible first | exact HB.out | apply below_alloc | apply pw_below_drewN | apply below_drew1) | exact HB.out)) hb); clear HO_5; clear HB; have HO_5 := n0_; have HO111 := n1_; have HB := n2_; clear n0_ n1_ n2_; clear hb ho12))
         go_ret2
         exact ⟨_, by first | rfl | (simp [errW_none, errW_some] <;> rfl) | (simp [*, errW_none, errW_some] <;> rfl), by (with_reducible repeat (first | apply Kd.R_alloc | apply Kd.R_drewN | apply Kd.R_drew)); exact Kd.R_mono HO111.out (fun _ hk => trivial), by repeat (first | (with_reducible first | exact HB.out | apply below_alloc | apply pw_below_drewN | apply below_drew1) | exact HB.out)⟩
        ·rw [if_neg c10] at H
         have c10b0 : (x7_1 == x6_1) = false := beq_eq_false_iff_ne.mpr c10
         have c10b1 : (x7_1 != x6_1) = true := bne_iff_ne.mpr c10
         by_cases c13 : x7_1 = (wrap64 ((l0.length : Int) - 1))
         ·rw [if_pos c13] at H
          have c13b0 : (x7_1 == (wrap64 ((l0.length : Int) - 1))) = true := beq_iff_eq.mpr c13
          have c13b1 : (x7_1 != (wrap64 ((l0.length : Int) - 1))) = false := bne_eq_false_iff_eq.mpr c13
          clear c13
          obtain ⟨y112, hy112⟩ : ∃ y_ : List Int, y_ = (([] : List Int)) := ⟨_, rfl⟩
          replace H : (some (y112, false)) = some (r1, r2) := by first | (rw [hy112]; with_reducible exact H) | (have H2_ := (Option.bind_some _ _).symm.trans H; rw [hy112]; with_reducible exact H2_) | (have H2_ := (Option.bind_some _ _).symm.trans H; with_reducible exact H2_) | with_reducible exact H | (rw [hy112]; exact H) | exact H
          have Ny112 := Aside0.mk hy112
          clear hy112
          simp only [Option.some.injEq, Prod.mk.injEq] at H
          obtain ⟨rfl, rfl⟩ := H
          have p108 : 0 ≤ (x7_1 : Int) := of_decide_eq_true (by first | (with_reducible assumption) | assumption)
          have q108 : x7_1 < (l0.length : Int) := of_decide_eq_true (by first | (with_reducible assumption) | assumption)
          obtain ⟨ad108, e108, hx108_0⟩ := Kd.at_int HR0.out x7_1 p108 q108
          cases e108
          replace hx108_0 := (HB.out.cell (World.block_lt_of_cell? w _ hx108_0)).trans hx108_0
          replace p108 := eq_true p108
          replace q108 := eq_true q108
          go_wp2_with (first | ((with_reducible refine gate_dst (N := 39) rfl ?_); refine Kd.R_lit (Kd.int .i8) _ 45 ?hg (N := 39) ?hd (xs := ([] : List Int)) (inner := []) (ok := fun _ => True) (okp := fun _ => True) ?hr ?hp (fun _ hk => hk) trivial (Below.refl _ _) (Nat.le_refl _) (by simp) ?_; (case hd => rfl); (case hg => rfl); (case hr => first | (go_simp; done) | (go_simp; rfl)); (case hp => exact (Reps.none _ _)); intro v113 w14 ho15 hb hg_ hnew_; clear hg_ hnew_; (first | rw [← Ny112.out] at ho15 | (simp only [Int.reduceToNat] at ho15; rw [← Ny112.out] at ho15)); have n0_ := Aside0.mk (Kd.R_elder' (by (with_reducible repeat (first | apply Kd.R_alloc | apply Kd.R_drewN | apply Kd.R_drew)); exact HO_5.out) (Kd.R_base ho15) hb); have n1_ := Aside0.mk (Kd.R_lower (Kd.R_new' ho15 (Kd.R_lt (by (with_reducible repeat (first | apply Kd.R_alloc | apply Kd.R_drewN | apply Kd.R_drew)); exact HO_5.out))) (below_size (by repeat (first | (with_reducible first | exact HB.out | apply below_alloc | apply pw_below_drewN | apply below_drew1) | exact HB.out)))); have n2_ := Aside0.mk (below_step (by repeat (first | (with_reducible first | exact HB.out | apply below_alloc | apply pw_below_drewN | apply below_drew1) | exact HB.out)) hb); clear HO_5; clear HB; have HO_5 := n0_; have HO114 := n1_; have HB := n2_; clear n0_ n1_ n2_; clear hb ho15))
          go_ret2
          exact ⟨_, by first | rfl | (simp [errW_none, errW_some] <;> rfl) | (simp [*, errW_none, errW_some] <;> rfl), by (with_reducible repeat (first | apply Kd.R_alloc | apply Kd.R_drewN | apply Kd.R_drew)); exact Kd.R_mono HO114.out (fun _ hk => trivial), by repeat (first | (with_reducible first | exact HB.out | apply below_alloc | apply pw_below_drewN | apply below_drew1) | exact HB.out)⟩
         ·rw [if_neg c13] at H
          have c13b0 : (x7_1 == (wrap64 ((l0.length : Int) - 1))) = false := beq_eq_false_iff_ne.mpr c13
          have c13b1 : (x7_1 != (wrap64 ((l0.length : Int) - 1))) = true := bne_iff_ne.mpr c13
          by_cases c16 : x5_1.length < 140737488355328
          ·rw [if_pos c16] at H
           have LMc16 := Aside0.mk c16
           clear c16
           obtain ⟨y115, hy115⟩ : ∃ y_ : List Int, y_ = (x5_1 ++ [rd l0 x7_1]) := ⟨_, rfl⟩
           replace H : (spec_l02Read.l0 k1 l0 (l0.length : Int) y115 (wrap64 (x7_1 + 1)) (wrap64 (x7_1 + 1))) = some (r1, r2) := by first | (rw [hy115]; with_reducible exact H) | (have H2_ := (Option.bind_some _ _).symm.trans H; rw [hy115]; with_reducible exact H2_) | (have H2_ := (Option.bind_some _ _).symm.trans H; with_reducible exact H2_) | with_reducible exact H | (rw [hy115]; exact H) | exact H
           have Ny115 := Aside0.mk hy115
           clear hy115
           have H' := Aside0.mk H
           clear H
           have p108 : 0 ≤ (x7_1 : Int) := of_decide_eq_true (by first | (with_reducible assumption) | assumption)
           have q108 : x7_1 < (l0.length : Int) := of_decide_eq_true (by first | (with_reducible assumption) | assumption)
           obtain ⟨ad108, e108, hx108_0⟩ := Kd.at_int HR0.out x7_1 p108 q108
           cases e108
           replace hx108_0 := (HB.out.cell (World.block_lt_of_cell? w _ hx108_0)).trans hx108_0
           replace p108 := eq_true p108
           replace q108 := eq_true q108
           go_wp2_with (first | ((with_reducible refine gate_builtin (b := .append) (xs := #[.tmp 42, .tmp 44]) rfl ?_); at_builtin; refine Kd.R_append (Kd.int .i8) (w0 := w) w.heap.size rfl (.tmp 42) (.tmp 44) 90 45 (.int .i8 0) 1 rfl Tryz.underlying90 info45 rfl (by decide) (by omega) u5 x5_1 (rd l0 x7_1) [.int .i8 (rd l0 x7_1)] (fun _ => True) (fun _ => False) rfl rfl ?aP (fun _ hk => hk.elim) ?aF ?aO ?aB ?aS ?aL ?_; (case aP => exact rfl); (case aB => exact (by repeat (first | (with_reducible first | exact HB.out | apply below_alloc | apply pw_below_drewN | apply below_drew1) | exact HB.out))); (case aF => exact (fun _ _ => trivial)); (case aO => exact (by (with_reducible repeat (first | apply Kd.R_alloc | apply Kd.R_drewN | apply Kd.R_drew)); exact HO_5.out)); (case aS => exact (below_size (by repeat (first | (with_reducible first | exact HB.out | apply below_alloc | apply pw_below_drewN | apply below_drew1) | exact HB.out)))); (case aL => have := LMc16.out; omega); intro v116 w17 ho hb hg hat; rw [← Ny115.out] at ho; have n0_ := Aside0.mk (hb); have n1_ := Aside0.mk (ho); clear HB; clear HO_5; have HB := n0_; have HO117 := n1_; clear n0_ n1_; clear ho hb hg hat))
           go_roundg k1
           case measure => have := HK1.out; omega
           case rel => exact ⟨(y115), (wrap64 (x7_1 + 1)), (wrap64 (x7_1 + 1)), (by first | rfl | (simp; done) | (simp [*]; done)), (by first | rfl | (simp; done) | (simp [*]; done)), H', ⟨by have := HK1.out; omega⟩, ⟨by (with_reducible repeat (first | apply Kd.R_alloc | apply Kd.R_drewN | apply Kd.R_drew)); exact HO117.out⟩, ⟨by repeat (first | (with_reducible first | exact HB.out | apply below_alloc | apply pw_below_drewN | apply below_drew1) | exact HB.out)⟩⟩
          ·rw [if_neg c16] at H
           exact absurd H (by simp)
       ·rw [if_neg c9] at H
        have c9b0 : ((rd l0 x7_1) == (-10)) = false := beq_eq_false_iff_ne.mpr c9
        have c9b1 : ((rd l0 x7_1) != (-10)) = true := bne_iff_ne.mpr c9
        have HC18 := Aside0.mk H
        clear H
        have p108 : 0 ≤ (x7_1 : Int) := of_decide_eq_true (by first | (with_reducible assumption) | assumption)
        have q108 : x7_1 < (l0.length : Int) := of_decide_eq_true (by first | (with_reducible assumption) | assumption)
        obtain ⟨ad108, e108, hx108_0⟩ := Kd.at_int HR0.out x7_1 p108 q108
        cases e108
        replace hx108_0 := (HB.out.cell (World.block_lt_of_cell? w _ hx108_0)).trans hx108_0
        replace p108 := eq_true p108
        replace q108 := eq_true q108
        go_upto_region 16 with (fail)
        go_cut [46] (fun v46 wc => ∃ (kq : Nat) (x46_17 : Bool), v46 = .bool x46_17 ∧ Aside0 (spec_l02Read.j1 kq l0 (l0.length : Int) x5_1 x6_1 x7_1 (rd l0 x7_1) x46_17 = some (r1, r2)) ∧ Aside0 (kq ≤ k1) ∧ Aside0 (Kd.R (Kd.int .i8) 45 wc w.heap.size (fun _ => True) u5 x5_1) ∧ Aside0 (Below w.heap.size w wc))
        case first =>
         have H := HC18.out
         clear HC18
         by_cases c19 : (rd l0 x7_1) ≥ 0
         ·rw [if_pos c19] at H
          have c19b0 : decide (0 ≤ (rd l0 x7_1)) = true := decide_eq_true c19
          clear c19
          (first | rw [c19b0] | (simp only [i64_w, i32_w]; rw [c19b0]) | skip)
          have H' := Aside0.mk H
          clear H
          go_wp2
          go_meet
          case rel => exact ⟨_, (decide ((rd l0 x7_1) < 40)), (by first | rfl | (simp; done) | (simp [*]; done)), H', ⟨by have := HK1.out; first | omega | exact Nat.le_refl _⟩, ⟨by (with_reducible repeat (first | apply Kd.R_alloc | apply Kd.R_drewN | apply Kd.R_drew)); exact HO_5.out⟩, ⟨by repeat (first | (with_reducible first | exact HB.out | apply below_alloc | apply pw_below_drewN | apply below_drew1) | exact HB.out)⟩⟩
         ·rw [if_neg c19] at H
          have c19b0 : decide (0 ≤ (rd l0 x7_1)) = false := decide_eq_false c19
          clear c19
          (first | rw [c19b0] | (simp only [i64_w, i32_w]; rw [c19b0]) | skip)
          have H' := Aside0.mk H
          clear H
          go_wp2
          go_meet
          case rel => exact ⟨_, (false), (by first | rfl | (simp; done) | (simp [*]; done)), H', ⟨by have := HK1.out; first | omega | exact Nat.le_refl _⟩, ⟨by (with_reducible repeat (first | apply Kd.R_alloc | apply Kd.R_drewN | apply Kd.R_drew)); exact HO_5.out⟩, ⟨by repeat (first | (with_reducible first | exact HB.out | apply below_alloc | apply pw_below_drewN | apply below_drew1) | exact HB.out)⟩⟩
        case rest =>
         clear HC18
         try clear c1
         try clear p1
         try clear q1
         try clear hx1
         try clear p2
         try clear c3
         try clear c5
         try clear c6
         try clear c6b0
         try clear p6
         try clear c7
         try clear c7b0
         try clear c8
         try clear c8b0
         try clear c9
         try clear c9b0
         try clear c9b1
         try clear c10
         try clear c10b0
         try clear c10b1
         try clear p10
         try clear q10
         try clear hx10
         try clear c13
         try clear c13b0
         try clear c13b1
         try clear c16
         try clear c19
         try clear c19b0
         try clear hx108_0
         try clear p108
         try clear p2
         try clear q108
         obtain ⟨kq, x46_17, rfl, HA, HJ17, HO_5, HB⟩ := hcut
         cases kq with
         | zero => exact absurd HA.out (by simp [spec_l02Read.j1])
         | succ kj17 =>
          have H := HA.out
          clear HA
          simp only [spec_l02Read.j1] at H
          by_cases c20 : x46_17 = true
          ·subst c20
           have H1 : (if x5_1.length < 140737488355328 then (spec_l02Read.l0 kj17 l0 (l0.length : Int) (x5_1 ++ [(rd l0 x7_1)]) x6_1 (wrap64 (x7_1 + 1))) else (none)) = some (r1, r2) := by rw [if_pos rfl] at H; exact H
           clear H
           have H := H1
           clear H1
           by_cases c21 : x5_1.length < 140737488355328
           ·rw [if_pos c21] at H
            have LMc21 := Aside0.mk c21
            clear c21
            obtain ⟨y118, hy118⟩ : ∃ y_ : List Int, y_ = (x5_1 ++ [(rd l0 x7_1)]) := ⟨_, rfl⟩
            replace H : (spec_l02Read.l0 kj17 l0 (l0.length : Int) y118 x6_1 (wrap64 (x7_1 + 1))) = some (r1, r2) := by first | (rw [hy118]; with_reducible exact H) | (have H2_ := (Option.bind_some _ _).symm.trans H; rw [hy118]; with_reducible exact H2_) | (have H2_ := (Option.bind_some _ _).symm.trans H; with_reducible exact H2_) | with_reducible exact H | (rw [hy118]; exact H) | exact H
            have Ny118 := Aside0.mk hy118
            clear hy118
            have H' := Aside0.mk H
            clear H
            go_wp2_with (first | ((with_reducible refine gate_builtin (b := .append) (xs := #[.tmp 53, .tmp 55]) rfl ?_); at_builtin; refine Kd.R_append (Kd.int .i8) (w0 := w) w.heap.size rfl (.tmp 53) (.tmp 55) 90 45 (.int .i8 0) 1 rfl Tryz.underlying90 info45 rfl (by decide) (by omega) u5 x5_1 (rd l0 x7_1) [.int .i8 (rd l0 x7_1)] (fun _ => True) (fun _ => False) rfl rfl ?aP (fun _ hk => hk.elim) ?aF ?aO ?aB ?aS ?aL ?_; (case aP => exact rfl); (case aB => exact (by repeat (first | (with_reducible first | exact HB.out | apply below_alloc | apply pw_below_drewN | apply below_drew1) | exact HB.out))); (case aF => exact (fun _ _ => trivial)); (case aO => exact (by (with_reducible repeat (first | apply Kd.R_alloc | apply Kd.R_drewN | apply Kd.R_drew)); exact HO_5.out)); (case aS => exact (below_size (by repeat (first | (with_reducible first | exact HB.out | apply below_alloc | apply pw_below_drewN | apply below_drew1) | exact HB.out)))); (case aL => have := LMc21.out; omega); intro v119 w22 ho hb hg hat; rw [← Ny118.out] at ho; have n0_ := Aside0.mk (hb); have n1_ := Aside0.mk (ho); clear HB; clear HO_5; have HB := n0_; have HO120 := n1_; clear n0_ n1_; clear ho hb hg hat))
            go_roundg kj17
            case measure => have := HK1.out; have := HJ17.out; omega
            case rel => exact ⟨(y118), (x6_1), (wrap64 (x7_1 + 1)), (by first | rfl | (simp; done) | (simp [*]; done)), (by first | rfl | (simp; done) | (simp [*]; done)), H', ⟨by have := HK1.out; have := HJ17.out; omega⟩, ⟨by (with_reducible repeat (first | apply Kd.R_alloc | apply Kd.R_drewN | apply Kd.R_drew)); exact HO120.out⟩, ⟨by repeat (first | (with_reducible first | exact HB.out | apply below_alloc | apply pw_below_drewN | apply below_drew1) | exact HB.out)⟩⟩
           ·rw [if_neg c21] at H
            exact absurd H (by simp)
          ·replace c20 := Bool.eq_false_iff.mpr c20
           subst c20
           have H1 : (if (rd l0 x7_1) < 0 then (spec_l02Read.j2 kj17 l0 (l0.length : Int) x5_1 x6_1 x7_1 (rd l0 x7_1) (decide ((rd l0 x7_1) ≥ (-4)))) else (spec_l02Read.j2 kj17 l0 (l0.length : Int) x5_1 x6_1 x7_1 (rd l0 x7_1) false)) = some (r1, r2) := by rw [if_neg (show ¬ (false = true) by decide)] at H; exact H
           clear H
           have H := H1
           clear H1
           have HC23 := Aside0.mk H
           clear H
           go_upto_region 18 with (fail)
           go_cut [57] (fun v57 wc => ∃ (kq : Nat) (x57_22 : Bool), v57 = .bool x57_22 ∧ Aside0 (spec_l02Read.j2 kq l0 (l0.length : Int) x5_1 x6_1 x7_1 (rd l0 x7_1) x57_22 = some (r1, r2)) ∧ Aside0 (kq ≤ kj17) ∧ Aside0 (Kd.R (Kd.int .i8) 45 wc w.heap.size (fun _ => True) u5 x5_1) ∧ Aside0 (Below w.heap.size w wc))
           case first =>
            have H := HC23.out
            clear HC23
            by_cases c24 : (rd l0 x7_1) < 0
            ·rw [if_pos c24] at H
             have c24b0 : decide ((rd l0 x7_1) < 0) = true := decide_eq_true c24
             clear c24
             (first | rw [c24b0] | (simp only [i64_w, i32_w]; rw [c24b0]) | skip)
             have H' := Aside0.mk H
             clear H
             go_wp2
             go_meet
             case rel => exact ⟨_, (decide ((rd l0 x7_1) ≥ (-4))), (by first | rfl | (simp; done) | (simp [*]; done)), H', ⟨by have := HK1.out; have := HJ17.out; first | omega | exact Nat.le_refl _⟩, ⟨by (with_reducible repeat (first | apply Kd.R_alloc | apply Kd.R_drewN | apply Kd.R_drew)); exact HO_5.out⟩, ⟨by repeat (first | (with_reducible first | exact HB.out | apply below_alloc | apply pw_below_drewN | apply below_drew1) | exact HB.out)⟩⟩
            ·rw [if_neg c24] at H
             have c24b0 : decide ((rd l0 x7_1) < 0) = false := decide_eq_false c24
             clear c24
             (first | rw [c24b0] | (simp only [i64_w, i32_w]; rw [c24b0]) | skip)
             have H' := Aside0.mk H
             clear H
             go_wp2
             go_meet
             case rel => exact ⟨_, (false), (by first | rfl | (simp; done) | (simp [*]; done)), H', ⟨by have := HK1.out; have := HJ17.out; first | omega | exact Nat.le_refl _⟩, ⟨by (with_reducible repeat (first | apply Kd.R_alloc | apply Kd.R_drewN | apply Kd.R_drew)); exact HO_5.out⟩, ⟨by repeat (first | (with_reducible first | exact HB.out | apply below_alloc | apply pw_below_drewN | apply below_drew1) | exact HB.out)⟩⟩
           case rest =>
            clear HC23
            try clear c1
            try clear p1
            try clear q1
            try clear hx1
            try clear c2
            try clear p2
            try clear c3
            try clear c5
            try clear c6
            try clear c6b0
            try clear p6
            try clear c7
            try clear c7b0
            try clear c8
            try clear c8b0
            try clear c9
            try clear c9b0
            try clear c9b1
            try clear c10
            try clear c10b0
            try clear c10b1
            try clear p10
            try clear q10
            try clear hx10
            try clear c13
            try clear c13b0
            try clear c13b1
            try clear c16
            try clear c19
            try clear c19b0
            try clear c20
            try clear c21
            try clear c24
            try clear c24b0
            try clear hx108_0
            try clear p1
            try clear p10
            try clear p108
            try clear p2
            try clear p6
            try clear q1
            try clear q10
            try clear q108
            obtain ⟨kq, x57_22, rfl, HA, HJ22, HO_5, HB⟩ := hcut
            cases kq with
            | zero => exact absurd HA.out (by simp [spec_l02Read.j2])
            | succ kj22 =>
             have H := HA.out
             clear HA
             simp only [spec_l02Read.j2] at H
             by_cases c25 : x57_22 = true
             ·subst c25
              have H1 : (if (wrap64 ((wrap64 (x6_1 + (wrap64 (IntKind.i8.wrap (-(rd l0 x7_1)))))) - 1)) ≥ x7_1 then (some ((([] : List Int)), false)) else (if 0 ≤ (wrap64 ((wrap64 (x6_1 + (wrap64 (IntKind.i8.wrap (-(rd l0 x7_1)))))) - 1)) then (if (wrap64 ((wrap64 (x6_1 + (wrap64 (IntKind.i8.wrap (-(rd l0 x7_1)))))) - 1)) < (x5_1.length : Int) then (if x5_1.length < 140737488355328 then (spec_l02Read.l0 kj22 l0 (l0.length : Int) (x5_1 ++ [rd x5_1 (wrap64 ((wrap64 (x6_1 + (wrap64 (IntKind.i8.wrap (-(rd l0 x7_1)))))) - 1))]) x6_1 (wrap64 (x7_1 + 1))) else (none)) else (none)) else (none))) = some (r1, r2) := by rw [if_pos rfl] at H; exact H
              clear H
              have H := H1
              clear H1
              by_cases c26 : (wrap64 ((wrap64 (x6_1 + (wrap64 (IntKind.i8.wrap (-(rd l0 x7_1)))))) - 1)) ≥ x7_1
              ·rw [if_pos c26] at H
               have c26b0 : decide (x7_1 ≤ (wrap64 ((wrap64 (x6_1 + (wrap64 (IntKind.i8.wrap (-(rd l0 x7_1)))))) - 1))) = true := decide_eq_true c26
               clear c26
               obtain ⟨y121, hy121⟩ : ∃ y_ : List Int, y_ = (([] : List Int)) := ⟨_, rfl⟩
               replace H : (some (y121, false)) = some (r1, r2) := by first | (rw [hy121]; with_reducible exact H) | (have H2_ := (Option.bind_some _ _).symm.trans H; rw [hy121]; with_reducible exact H2_) | (have H2_ := (Option.bind_some _ _).symm.trans H; with_reducible exact H2_) | with_reducible exact H | (rw [hy121]; exact H) | exact H
               have Ny121 := Aside0.mk hy121
               clear hy121
               simp only [Option.some.injEq, Prod.mk.injEq] at H
               obtain ⟨rfl, rfl⟩ := H
               go_wp2_with (first | ((with_reducible refine gate_dst (N := 73) rfl ?_); refine Kd.R_lit (Kd.int .i8) _ 45 ?hg (N := 73) ?hd (xs := ([] : List Int)) (inner := []) (ok := fun _ => True) (okp := fun _ => True) ?hr ?hp (fun _ hk => hk) trivial (Below.refl _ _) (Nat.le_refl _) (by simp) ?_; (case hd => rfl); (case hg => rfl); (case hr => first | (go_simp; done) | (go_simp; rfl)); (case hp => exact (Reps.none _ _)); intro v122 w27 ho28 hb hg_ hnew_; clear hg_ hnew_; (first | rw [← Ny121.out] at ho28 | (simp only [Int.reduceToNat] at ho28; rw [← Ny121.out] at ho28)); have n0_ := Aside0.mk (Kd.R_elder' (by (with_reducible repeat (first | apply Kd.R_alloc | apply Kd.R_drewN | apply Kd.R_drew)); exact HO_5.out) (Kd.R_base ho28) hb); have n1_ := Aside0.mk (Kd.R_lower (Kd.R_new' ho28 (Kd.R_lt (by (with_reducible repeat (first | apply Kd.R_alloc | apply Kd.R_drewN | apply Kd.R_drew)); exact HO_5.out))) (below_size (by repeat (first | (with_reducible first | exact HB.out | apply below_alloc | apply pw_below_drewN | apply below_drew1) | exact HB.out)))); have n2_ := Aside0.mk (below_step (by repeat (first | (with_reducible first | exact HB.out | apply below_alloc | apply pw_below_drewN | apply below_drew1) | exact HB.out)) hb); clear HO_5; clear HB; have HO_5 := n0_; have HO123 := n1_; have HB := n2_; clear n0_ n1_ n2_; clear hb ho28))
               go_ret2
               exact ⟨_, by first | rfl | (simp [errW_none, errW_some] <;> rfl) | (simp [*, errW_none, errW_some] <;> rfl), by (with_reducible repeat (first | apply Kd.R_alloc | apply Kd.R_drewN | apply Kd.R_drew)); exact Kd.R_mono HO123.out (fun _ hk => trivial), by repeat (first | (with_reducible first | exact HB.out | apply below_alloc | apply pw_below_drewN | apply below_drew1) | exact HB.out)⟩
              ·rw [if_neg c26] at H
               have c26b0 : decide (x7_1 ≤ (wrap64 ((wrap64 (x6_1 + (wrap64 (IntKind.i8.wrap (-(rd l0 x7_1)))))) - 1))) = false := decide_eq_false c26
               clear c26
               obtain ⟨ji29, hji29⟩ : ∃ j_ : Int, (wrap64 ((wrap64 (x6_1 + (wrap64 (IntKind.i8.wrap (-(rd l0 x7_1)))))) - 1)) = j_ := ⟨_, rfl⟩
               replace H : (if 0 ≤ (ji29) then (if (ji29) < (x5_1.length : Int) then (if x5_1.length < 140737488355328 then (spec_l02Read.l0 kj22 l0 (l0.length : Int) (x5_1 ++ [rd x5_1 (ji29)]) x6_1 (wrap64 (x7_1 + 1))) else (none)) else (none)) else (none)) = some (r1, r2) := by first | (rw [hji29] at H; exact H) | (simp only [hji29] at H ⊢; exact H)
               (try rw [hji29] at c26b0)
               have hji29w : (IntKind.i64.wrap ((wrap64 (x6_1 + (wrap64 (IntKind.i8.wrap (-(rd l0 x7_1)))))) - 1)) = ji29 := (i64_w _).trans hji29
               by_cases c30 : 0 ≤ (ji29)
               ·rw [if_pos c30] at H
                have c30b0 : decide (0 ≤ (ji29)) = true := decide_eq_true c30
                clear c30
                by_cases c31 : (ji29) < (x5_1.length : Int)
                ·rw [if_pos c31] at H
                 have c31b0 : decide ((ji29) < (x5_1.length : Int)) = true := decide_eq_true c31
                 clear c31
                 by_cases c32 : x5_1.length < 140737488355328
                 ·rw [if_pos c32] at H
                  have LMc32 := Aside0.mk c32
                  clear c32
                  obtain ⟨y125, hy125⟩ : ∃ y_ : List Int, y_ = (x5_1 ++ [rd x5_1 (ji29)]) := ⟨_, rfl⟩
                  replace H : (spec_l02Read.l0 kj22 l0 (l0.length : Int) y125 x6_1 (wrap64 (x7_1 + 1))) = some (r1, r2) := by first | (rw [hy125]; with_reducible exact H) | (have H2_ := (Option.bind_some _ _).symm.trans H; rw [hy125]; with_reducible exact H2_) | (have H2_ := (Option.bind_some _ _).symm.trans H; with_reducible exact H2_) | with_reducible exact H | (rw [hy125]; exact H) | exact H
                  have Ny125 := Aside0.mk hy125
                  clear hy125
                  have H' := Aside0.mk H
                  clear H
                  obtain ⟨Ao33, co33, eo33⟩ := Kd.R_slice HO_5.out
                  subst eo33
                  have p124 : 0 ≤ ((ji29) : Int) := of_decide_eq_true (by first | (with_reducible assumption) | assumption)
                  have q124 : (ji29) < (x5_1.length : Int) := of_decide_eq_true (by first | (with_reducible assumption) | assumption)
                  obtain ⟨ad124, e124, hx124_0⟩ := Kd.at_int (Kd.R_reads' HO_5.out).2.2 (ji29) p124 q124
                  cases e124
                  replace p124 := eq_true p124
                  replace q124 := eq_true q124
                  go_wp2_with (first | ((with_reducible refine gate_builtin (b := .append) (xs := #[.tmp 74, .tmp 79]) rfl ?_); at_builtin; refine Kd.R_append (Kd.int .i8) (w0 := w) w.heap.size rfl (.tmp 74) (.tmp 79) 90 45 (.int .i8 0) 1 rfl Tryz.underlying90 info45 rfl (by decide) (by omega) (.slice (some ad124) x5_1.length co33) x5_1 (rd x5_1 (ji29)) [.int .i8 (rd x5_1 (ji29))] (fun _ => True) (fun _ => False) rfl rfl ?aP (fun _ hk => hk.elim) ?aF ?aO ?aB ?aS ?aL ?_; (case aP => exact rfl); (case aB => exact (by repeat (first | (with_reducible first | exact HB.out | apply below_alloc | apply pw_below_drewN | apply below_drew1) | exact HB.out))); (case aF => exact (fun _ _ => trivial)); (case aO => exact (by (with_reducible repeat (first | apply Kd.R_alloc | apply Kd.R_drewN | apply Kd.R_drew)); exact HO_5.out)); (case aS => exact (below_size (by repeat (first | (with_reducible first | exact HB.out | apply below_alloc | apply pw_below_drewN | apply below_drew1) | exact HB.out)))); (case aL => have := LMc32.out; omega); intro v126 w34 ho hb hg hat; rw [← Ny125.out] at ho; have n0_ := Aside0.mk (hb); have n1_ := Aside0.mk (ho); clear HB; clear HO_5; have HB := n0_; have HO127 := n1_; clear n0_ n1_; clear ho hb hg hat))
                  go_roundg kj22
                  case measure => have := HK1.out; have := HJ17.out; have := HJ22.out; omega
                  case rel => exact ⟨(y125), (x6_1), (wrap64 (x7_1 + 1)), (by first | rfl | (simp; done) | (simp [*]; done)), (by first | rfl | (simp; done) | (simp [*]; done)), H', ⟨by have := HK1.out; have := HJ17.out; have := HJ22.out; omega⟩, ⟨by (with_reducible repeat (first | apply Kd.R_alloc | apply Kd.R_drewN | apply Kd.R_drew)); exact HO127.out⟩, ⟨by repeat (first | (with_reducible first | exact HB.out | apply below_alloc | apply pw_below_drewN | apply below_drew1) | exact HB.out)⟩⟩
                 ·rw [if_neg c32] at H
                  exact absurd H (by simp)
                ·rw [if_neg c31] at H
                 exact absurd H (by simp)
               ·rw [if_neg c30] at H
                exact absurd H (by simp)
             ·replace c25 := Bool.eq_false_iff.mpr c25
              subst c25
              have H1 : (some ((([] : List Int)), false)) = some (r1, r2) := by rw [if_neg (show ¬ (false = true) by decide)] at H; exact H
              clear H
              have H := H1
              clear H1
              obtain ⟨y128, hy128⟩ : ∃ y_ : List Int, y_ = (([] : List Int)) := ⟨_, rfl⟩
              replace H : (some (y128, false)) = some (r1, r2) := by first | (rw [hy128]; with_reducible exact H) | (have H2_ := (Option.bind_some _ _).symm.trans H; rw [hy128]; with_reducible exact H2_) | (have H2_ := (Option.bind_some _ _).symm.trans H; with_reducible exact H2_) | with_reducible exact H | (rw [hy128]; exact H) | exact H
              have Ny128 := Aside0.mk hy128
              clear hy128
              simp only [Option.some.injEq, Prod.mk.injEq] at H
              obtain ⟨rfl, rfl⟩ := H
              go_wp2_with (first | ((with_reducible refine gate_dst (N := 26) rfl ?_); refine Kd.R_lit (Kd.int .i8) _ 45 ?hg (N := 26) ?hd (xs := ([] : List Int)) (inner := []) (ok := fun _ => True) (okp := fun _ => True) ?hr ?hp (fun _ hk => hk) trivial (Below.refl _ _) (Nat.le_refl _) (by simp) ?_; (case hd => rfl); (case hg => rfl); (case hr => first | (go_simp; done) | (go_simp; rfl)); (case hp => exact (Reps.none _ _)); intro v129 w35 ho36 hb hg_ hnew_; clear hg_ hnew_; (first | rw [← Ny128.out] at ho36 | (simp only [Int.reduceToNat] at ho36; rw [← Ny128.out] at ho36)); have n0_ := Aside0.mk (Kd.R_elder' (by (with_reducible repeat (first | apply Kd.R_alloc | apply Kd.R_drewN | apply Kd.R_drew)); exact HO_5.out) (Kd.R_base ho36) hb); have n1_ := Aside0.mk (Kd.R_lower (Kd.R_new' ho36 (Kd.R_lt (by (with_reducible repeat (first | apply Kd.R_alloc | apply Kd.R_drewN | apply Kd.R_drew)); exact HO_5.out))) (below_size (by repeat (first | (with_reducible first | exact HB.out | apply below_alloc | apply pw_below_drewN | apply below_drew1) | exact HB.out)))); have n2_ := Aside0.mk (below_step (by repeat (first | (with_reducible first | exact HB.out | apply below_alloc | apply pw_below_drewN | apply below_drew1) | exact HB.out)) hb); clear HO_5; clear HB; have HO_5 := n0_; have HO130 := n1_; have HB := n2_; clear n0_ n1_ n2_; clear hb ho36))
              go_ret2
              exact ⟨_, by first | rfl | (simp [errW_none, errW_some] <;> rfl) | (simp [*, errW_none, errW_some] <;> rfl), by (with_reducible repeat (first | apply Kd.R_alloc | apply Kd.R_drewN | apply Kd.R_drew)); exact Kd.R_mono HO130.out (fun _ hk => trivial), by repeat (first | (with_reducible first | exact HB.out | apply below_alloc | apply pw_below_drewN | apply below_drew1) | exact HB.out)⟩
      ·rw [if_neg c8] at H
       exact absurd H (by simp)
     ·rw [if_neg c7] at H
      exact absurd H (by simp)
    ·rw [if_neg c6] at H
     have c6b0 : decide (x7_1 < (l0.length : Int)) = false := decide_eq_false c6
     clear c6
     simp only [Option.some.injEq, Prod.mk.injEq] at H
     obtain ⟨rfl, rfl⟩ := H
     go_wp2
     go_ret2
     exact ⟨_, by first | rfl | (simp [errW_none, errW_some] <;> rfl) | (simp [*, errW_none, errW_some] <;> rfl), by (with_reducible repeat (first | apply Kd.R_alloc | apply Kd.R_drewN | apply Kd.R_drew)); exact HO_5.out, by repeat (first | (with_reducible first | exact HB.out | apply below_alloc | apply pw_below_drewN | apply below_drew1) | exact HB.out)⟩
 ·replace c3 := Bool.eq_false_iff.mpr c3
  subst c3
  have H1 : (some ((([] : List Int)), false)) = some (r1, r2) := by rw [if_neg (show ¬ (false = true) by decide)] at H; exact H
  clear H
  have H := H1
  clear H1
  obtain ⟨y102, hy102⟩ : ∃ y_ : List Int, y_ = (([] : List Int)) := ⟨_, rfl⟩
  replace H : (some (y102, false)) = some (r1, r2) := by first | (rw [hy102]; with_reducible exact H) | (have H2_ := (Option.bind_some _ _).symm.trans H; rw [hy102]; with_reducible exact H2_) | (have H2_ := (Option.bind_some _ _).symm.trans H; with_reducible exact H2_) | with_reducible exact H | (rw [hy102]; exact H) | exact H
  have Ny102 := Aside0.mk hy102
  clear hy102
  simp only [Option.some.injEq, Prod.mk.injEq] at H
  obtain ⟨rfl, rfl⟩ := H
  go_enter Tryz.func80, Tryz.ntmps80
  go_wp2_with (first | ((with_reducible refine gate_callee (f := 58) rfl ?_); refine goesL_ (some 13) rfl rfl Tryz.func58 (by kernel_rfl) rfl #[.int .i64 (l0.length : Int), .int .i64 1, .int .i64 8] rfl (by (try simp only [List.map_toArray, List.map_cons, List.map_nil]); first | done | rfl | (simp only [List.length_drop, List.length_take]; rfl)) ?_; (with_reducible refine (spec_l00In.calls (l0.length : Int) 1 8 false _ A2.out).mono ?_); rintro e w' ⟨rfl, ⟨nd, rfl⟩⟩; refine ⟨_, rfl, ?_⟩) | ((with_reducible refine gate_dst (N := 15) rfl ?_); refine Kd.R_lit (Kd.int .i8) _ 45 ?hg (N := 15) ?hd (xs := ([] : List Int)) (inner := []) (ok := fun _ => True) (okp := fun _ => True) ?hr ?hp (fun _ hk => hk) trivial (Below.refl _ _) (Nat.le_refl _) (by simp) ?_; (case hd => rfl); (case hg => rfl); (case hr => first | (go_simp; done) | (go_simp; rfl)); (case hp => exact (Reps.none _ _)); intro v103 w37 ho38 hb hg_ hnew_; clear hg_ hnew_; (first | rw [← Ny102.out] at ho38 | (simp only [Int.reduceToNat] at ho38; rw [← Ny102.out] at ho38)); have n0_ := Aside0.mk (Kd.R_lower ho38 (below_size (by repeat (first | (with_reducible first | exact HB.out | apply below_alloc | apply pw_below_drewN | apply below_drew1) | exact HB.out)))); have n1_ := Aside0.mk (below_step (by repeat (first | (with_reducible first | exact HB.out | apply below_alloc | apply pw_below_drewN | apply below_drew1) | exact HB.out)) hb); clear HB; have HO104 := n0_; have HB := n1_; clear n0_ n1_; clear hb ho38))
  go_ret2
  exact ⟨_, by first | rfl | (simp [errW_none, errW_some] <;> rfl) | (simp [*, errW_none, errW_some] <;> rfl), by (with_reducible repeat (first | apply Kd.R_alloc | apply Kd.R_drewN | apply Kd.R_drew)); exact HO104.out, by repeat (first | (with_reducible first | exact HB.out | apply below_alloc | apply pw_below_drewN | apply below_drew1) | exact HB.out)⟩
def spec_l02Ok.f (k : Nat) (l0 : List Int) : Option (Bool) := (spec_l02Read.f k l0).bind fun bt131 => (some bt131.2)
set_option maxHeartbeats 8000000 in
set_option maxRecDepth 100000 in
theorem spec_l02Ok.calls (k : Nat) (A0 : Option Addr) (c0 : Nat) (l0 : List Int) (r : Bool) (w : World) (hr0 : Kd.C (Kd.int .i8) w A0 l0.length l0) (hc0 : l0.length ≤ c0) (h : spec_l02Ok.f k l0 = some r) :
  Calls Tryz.prog 56 #[.slice A0 l0.length c0] w fun e w' => e = .returned (.bool r) ∧ Below w.heap.size w w' := by
 have HR0 := Aside0.mk hr0
 have HC0 := Aside0.mk hc0
 clear hr0 hc0
 have HB := Aside0.mk (Below.refl w.heap.size w)
 have H : ((spec_l02Read.f k l0).bind fun bt131 => (some bt131.2)) = some r := h
 clear h
 replace H := Option.bind_eq_some_iff.mp H
 obtain ⟨⟨t131, t132⟩, A20, H⟩ := H
 replace H : (some t132) = some r := H
 have A2 := Aside0.mk A20
 clear A20
 obtain rfl := Option.some.inj H
 go_enter Tryz.func56, Tryz.ntmps56
 go_wp2_with (first | ((with_reducible refine gate_callee (f := 80) rfl ?_); refine goesL_ (some 7) rfl rfl Tryz.func80 (by kernel_rfl) rfl #[.slice A0 l0.length c0] rfl (by (try simp only [List.map_toArray, List.map_cons, List.map_nil]); first | done | rfl | (simp only [List.length_drop, List.length_take]; rfl)) ?_; (with_reducible refine (spec_l02Read.calls k _ _ l0 t131 t132 _ ?side1 ?side2 A2.out).mono ?_); (case side1 => repeat (first | exact HR0.out | (with_reducible refine Kd.C_alloc ?_ _) | (with_reducible refine Kd.C_drewN ?_ _) | (with_reducible refine Kd.C_drew ?_))); (case side2 => exact HC0.out); rintro e w3 ⟨v133, rfl, ho0, hb⟩; refine ⟨_, rfl, ?_⟩; have n0_ := Aside0.mk (Kd.R_lower ho0 (below_size (by repeat (first | (with_reducible first | exact HB.out | apply below_alloc | apply pw_below_drewN | apply below_drew1) | exact HB.out)))); have n1_ := Aside0.mk (below_step (by repeat (first | (with_reducible first | exact HB.out | apply below_alloc | apply pw_below_drewN | apply below_drew1) | exact HB.out)) hb); clear HB; have HO134 := n0_; have HB := n1_; clear n0_ n1_; (try clear hb); (try clear hb2); (try clear hk); (try clear hi); (try clear ho0)))
 go_ret
 exact ⟨by first | rfl | (simp [errW_none, errW_some] <;> rfl) | (simp [*, errW_none, errW_some] <;> rfl), by repeat (first | (with_reducible first | exact HB.out | apply below_alloc | apply pw_below_drewN | apply below_drew1) | exact HB.out)⟩
def impl_within.f (a0 : Int) (a1 : Int) (a2 : Int) : Option (Bool) := if a1 ≤ a0 then (some (decide (a0 ≤ a2))) else (some false)
set_option maxHeartbeats 8000000 in
set_option maxRecDepth 100000 in
theorem impl_within.calls (a0 : Int) (a1 : Int) (a2 : Int) (r : Bool) (w : World) (h : impl_within.f a0 a1 a2 = some r) :
  Calls Tryz.prog 33 #[.int .i64 a0, .int .i64 a1, .int .i64 a2] w fun e w' => e = .returned (.bool r) ∧ Drawn0 w w' := by
 have H : (if a1 ≤ a0 then (some (decide (a0 ≤ a2))) else (some false)) = some r := h
 clear h
 by_cases c4 : a1 ≤ a0
 ·rw [if_pos c4] at H
  have c4b0 : decide (a1 ≤ a0) = true := decide_eq_true c4
  clear c4
  obtain rfl := Option.some.inj H
  go_enter Tryz.func33, Tryz.ntmps33
  go_wp2
  go_ret
  exact ⟨by first | rfl | (simp; done) | (simp [*]; done), by repeat (first | exact Drawn0.refl _ | apply Drawn0.step)⟩
 ·rw [if_neg c4] at H
  have c4b0 : decide (a1 ≤ a0) = false := decide_eq_false c4
  clear c4
  obtain rfl := Option.some.inj H
  go_enter Tryz.func33, Tryz.ntmps33
  go_wp2
  go_ret
  exact ⟨by first | rfl | (simp; done) | (simp [*]; done), by repeat (first | exact Drawn0.refl _ | apply Drawn0.step)⟩
def impl_isKind.f (a0 : Int) : Option (Bool) := (impl_within.f (wrap64 (a0)) 0 39).bind fun t135 => (some t135)
set_option maxHeartbeats 8000000 in
set_option maxRecDepth 100000 in
theorem impl_isKind.calls (a0 : Int) (r : Bool) (w : World) (h : impl_isKind.f a0 = some r) :
  Calls Tryz.prog 92 #[.int .i8 a0] w fun e w' => e = .returned (.bool r) ∧ Drawn0 w w' := by
 have H : ((impl_within.f (wrap64 (a0)) 0 39).bind fun t135 => (some t135)) = some r := h
 clear h
 replace H := Option.bind_eq_some_iff.mp H
 obtain ⟨t135, A20, H⟩ := H
 replace H : (some t135) = some r := H
 have A2 := Aside0.mk A20
 clear A20
 obtain rfl := Option.some.inj H
 go_enter Tryz.func92, Tryz.ntmps92
 go_wp2_with (first | ((with_reducible refine gate_callee (f := 33) rfl ?_); refine goesL_ (some 5) rfl rfl Tryz.func33 (by kernel_rfl) rfl #[.int .i64 (wrap64 (a0)), .int .i64 0, .int .i64 39] rfl (by (try simp only [List.map_toArray, List.map_cons, List.map_nil]); first | done | rfl | (simp only [List.length_drop, List.length_take]; rfl)) ?_; (with_reducible refine (impl_within.calls (wrap64 (a0)) 0 39 t135 _ A2.out).mono ?_); rintro e w' ⟨rfl, ⟨nd, rfl⟩⟩; refine ⟨_, rfl, ?_⟩))
 go_ret
 exact ⟨by first | rfl | (simp; done) | (simp [*]; done), by repeat (first | exact Drawn0.refl _ | apply Drawn0.step)⟩
def impl_size_int8.f (l0 : List Int) : Option (Int) := some (l0.length : Int)
set_option maxHeartbeats 8000000 in
set_option maxRecDepth 100000 in
theorem impl_size_int8.calls (A0 : Option Addr) (c0 : Nat) (l0 : List Int) (r : Int) (w : World) (hr0 : Kd.C (Kd.int .i8) w A0 l0.length l0) (hc0 : l0.length ≤ c0) (h : impl_size_int8.f l0 = some r) :
  Calls Tryz.prog 93 #[.slice A0 l0.length c0] w fun e w' => e = .returned (.int .i64 r) ∧ Drawn0 w w' := by
 have HR0 := Aside0.mk hr0
 have HC0 := Aside0.mk hc0
 clear hr0 hc0
 have H : (some (l0.length : Int)) = some r := h
 clear h
 obtain rfl := Option.some.inj H
 go_enter Tryz.func93, Tryz.ntmps93
 go_wp2
 go_ret
 exact ⟨by first | rfl | (simp; done) | (simp [*]; done), by repeat (first | exact Drawn0.refl _ | apply Drawn0.step)⟩
end Go.Proofs.YthaoopbfggnceaaGreatDoor.L
namespace Go.Proofs.YthaoopbfggnceaaGreatDoor.L
open Go.RowKit Go.Proofs.YthaoopbfggnceaaGreatDoorW.PrintWords Go.Proofs.YthaoopbfggnceaaGreatDoorW.PrintLast Go.Proofs.YthaoopbfggnceaaGreatDoorW.PrintMore
attribute [local go_sem] max2_int min2_int max_two min_two max_three min_three max_four min_four
set_option linter.unusedVariables false
set_option linter.unusedSimpArgs false
mutual
def impl_Hoist_meaning.l0 : Nat → List Int → List Int → Int → List Int → Int → Int → Option (List Int × Bool)
 | 0, _, _, _, _, _, _ => none
 | k + 1, x0, x4, x5, x10, x11, x12 => if x12 < x11 then (if 0 ≤ x12 then (if x12 < (x10.length : Int) then (if (rd x10 x12) = (-10) then (if x5 = (x4.length : Int) then (some (([] : List Int), false)) else (if x4.length < 140737488355328 then ((some (x4 ++ [rd x10 x12] : List Int)).bind fun y142 => (impl_Hoist_meaning.l0 k x0 y142 (y142.length : Int) x10 x11 (wrap64 (x12 + 1)))) else (none))) else ((impl_within.f (wrap64 (rd x10 x12)) (-4) (-1)).bind fun t145 => (if t145 = true then (impl_Hoist_meaning.j1 k x0 x4 x5 (rd x10 x12) (wrap64 ((wrap64 (x5 - (wrap64 (rd x10 x12)))) - 1)) x10 x11 x12 (decide ((wrap64 ((wrap64 (x5 - (wrap64 (rd x10 x12)))) - 1)) < (x4.length : Int)))) else (impl_Hoist_meaning.j1 k x0 x4 x5 (rd x10 x12) (wrap64 ((wrap64 (x5 - (wrap64 (rd x10 x12)))) - 1)) x10 x11 x12 false)))) else (none)) else (none)) else ((impl_size_int8.f x0).bind fun t139 => ((impl_within.f t139 1 8).bind fun t140 => (if t140 = true then (some (x4, decide (x5 < (x4.length : Int)))) else (some (x4, false)))))
def impl_Hoist_meaning.j1 : Nat → List Int → List Int → Int → Int → Int → List Int → Int → Int → Bool → Option (List Int × Bool)
 | 0, _, _, _, _, _, _, _, _, _ => none
 | k + 1, x0, x4, x5, x7, x8, x10, x11, x12, x41 => if x41 = true then (if 0 ≤ x8 then (if x8 < (x4.length : Int) then ((impl_isKind.f (rd x4 x8)).bind fun t147 => (if t147 = true then (if x4.length < 140737488355328 then (impl_Hoist_meaning.l0 k x0 (x4 ++ [rd x4 x8]) x5 x10 x11 (wrap64 (x12 + 1))) else (none)) else (some (([] : List Int), false)))) else (none)) else (none)) else ((impl_isKind.f x7).bind fun t151 => (if t151 = true then (if x4.length < 140737488355328 then (impl_Hoist_meaning.l0 k x0 (x4 ++ [x7]) x5 x10 x11 (wrap64 (x12 + 1))) else (none)) else (some (([] : List Int), false))))
end
def impl_Hoist_meaning.f (k : Nat) (l0 : List Int) : Option (List Int × Bool) := impl_Hoist_meaning.l0 k l0 (([] : List Int)) 0 l0 (l0.length : Int) 0
set_option maxHeartbeats 8000000 in
set_option maxRecDepth 100000 in
theorem impl_Hoist_meaning.calls (k : Nat) (A0 : Option Addr) (c0 : Nat) (l0 : List Int) (r1 : List Int) (r2 : Bool) (w : World) (hr0 : Kd.C (Kd.int .i8) w A0 l0.length l0) (hc0 : l0.length ≤ c0) (h : impl_Hoist_meaning.f k l0 = some (r1, r2)) :
  Calls Tryz.prog 77 #[.slice A0 l0.length c0] w fun e w' => ∃ v0_ : Value, e = .returned (.tuple #[v0_, .bool r2]) ∧ Kd.R (Kd.int .i8) 45 w' w.heap.size (fun _ => True) v0_ r1 ∧ Below w.heap.size w w' := by
 have HR0 := Aside0.mk hr0
 have HC0 := Aside0.mk hc0
 clear hr0 hc0
 have HB := Aside0.mk (Below.refl w.heap.size w)
 have H : (impl_Hoist_meaning.l0 k l0 (([] : List Int)) 0 l0 (l0.length : Int) 0) = some (r1, r2) := h
 clear h
 obtain ⟨y136, hy136⟩ : ∃ y_ : List Int, y_ = (([] : List Int)) := ⟨_, rfl⟩
 replace H : (impl_Hoist_meaning.l0 k l0 y136 0 l0 (l0.length : Int) 0) = some (r1, r2) := by first | (rw [hy136]; with_reducible exact H) | (have H2_ := (Option.bind_some _ _).symm.trans H; rw [hy136]; with_reducible exact H2_) | (have H2_ := (Option.bind_some _ _).symm.trans H; with_reducible exact H2_) | with_reducible exact H | (rw [hy136]; exact H) | exact H
 have Ny136 := Aside0.mk hy136
 clear hy136
 have H' := Aside0.mk H
 clear H
 go_enter Tryz.func77, Tryz.ntmps77
 go_wp2_with (first | ((with_reducible refine gate_dst (N := 9) rfl ?_); (try (refine gate_guard (by rfl) ?_; dsimp only)); refine Kd.R_lit (Kd.int .i8) _ 45 ?hg (N := 9) ?hd (xs := ([] : List Int)) (inner := []) (ok := fun _ => True) (okp := fun _ => True) ?hr ?hp (fun _ hk => hk) trivial (Below.refl _ _) (Nat.le_refl _) (by simp) ?_; (case hd => rfl); (case hg => rfl); (case hr => first | (go_simp; done) | (go_simp; rfl)); (case hp => exact (Reps.none _ _)); intro v137 w2 ho3 hb hg_ hnew_; clear hg_ hnew_; (first | rw [← Ny136.out] at ho3 | (simp only [Int.reduceToNat] at ho3; rw [← Ny136.out] at ho3)); have n0_ := Aside0.mk (Kd.R_lower ho3 (below_size (by repeat (first | (with_reducible first | exact HB.out | apply below_alloc | apply pw_below_drewN | apply below_drew1) | exact HB.out)))); have n1_ := Aside0.mk (below_step (by repeat (first | (with_reducible first | exact HB.out | apply below_alloc | apply pw_below_drewN | apply below_drew1) | exact HB.out)) hb); clear HB; have HO138 := n0_; have HB := n1_; clear n0_ n1_; clear hb ho3))
 go_loopg [4, 5, 12] k (fun kq v4 v5 v12 w' => ∃ (x4_1 : List Int) (x5_1 : Int) (x12_1 : Int), v5 = .int .i64 x5_1 ∧ v12 = .int .i64 x12_1 ∧ Aside0 (impl_Hoist_meaning.l0 kq l0 x4_1 x5_1 l0 (l0.length : Int) x12_1 = some (r1, r2)) ∧ Aside0 (kq ≤ k) ∧ Aside0 (Kd.R (Kd.int .i8) 45 w' w.heap.size (fun _ => True) v4 x4_1) ∧ Aside0 (Below w.heap.size w w'))
 case atStart => exact ⟨(y136), (0), (0), (by first | rfl | (simp; done) | (simp [*]; done)), (by first | rfl | (simp; done) | (simp [*]; done)), H', ⟨Nat.le_refl _⟩, ⟨by (with_reducible repeat (first | apply Kd.R_alloc | apply Kd.R_drewN | apply Kd.R_drew)); exact HO138.out⟩, ⟨by repeat (first | (with_reducible first | exact HB.out | apply below_alloc | apply pw_below_drewN | apply below_drew1) | exact HB.out)⟩⟩
 case round =>
  clear H'
  try clear p2
  obtain ⟨x4_1, x5_1, x12_1, rfl, rfl, HA, HK1, HO_4, HB⟩ := hrel
  cases gk with
  | zero => exact absurd HA.out (by simp [impl_Hoist_meaning.l0])
  | succ k1 =>
   have H := HA.out
   clear HA
   simp only [impl_Hoist_meaning.l0] at H
   by_cases c4 : x12_1 < (l0.length : Int)
   ·rw [if_pos c4] at H
    have c4b0 : decide (x12_1 < (l0.length : Int)) = true := decide_eq_true c4
    clear c4
    by_cases c5 : 0 ≤ x12_1
    ·rw [if_pos c5] at H
     have c5b0 : decide (0 ≤ x12_1) = true := decide_eq_true c5
     clear c5
     by_cases c6 : x12_1 < (l0.length : Int)
     ·rw [if_pos c6] at H
      have c6b0 : decide (x12_1 < (l0.length : Int)) = true := decide_eq_true c6
      clear c6
      by_cases c7 : (rd l0 x12_1) = (-10)
      ·rw [if_pos c7] at H
       have c7b0 : ((rd l0 x12_1) == (-10)) = true := beq_iff_eq.mpr c7
       have c7b1 : ((rd l0 x12_1) != (-10)) = false := bne_eq_false_iff_eq.mpr c7
       clear c7
       by_cases c8 : x5_1 = (x4_1.length : Int)
       ·rw [if_pos c8] at H
        have c8b0 : (x5_1 == (x4_1.length : Int)) = true := beq_iff_eq.mpr c8
        have c8b1 : (x5_1 != (x4_1.length : Int)) = false := bne_eq_false_iff_eq.mpr c8
        clear c8
        simp only [Option.some.injEq, Prod.mk.injEq] at H
        obtain ⟨rfl, rfl⟩ := H
        have p141 : 0 ≤ (x12_1 : Int) := of_decide_eq_true (by first | (with_reducible assumption) | assumption)
        have q141 : x12_1 < (l0.length : Int) := of_decide_eq_true (by first | (with_reducible assumption) | assumption)
        obtain ⟨ad141, e141, hx141_0⟩ := Kd.at_int HR0.out x12_1 p141 q141
        cases e141
        replace hx141_0 := (HB.out.cell (World.block_lt_of_cell? w _ hx141_0)).trans hx141_0
        replace p141 := eq_true p141
        replace q141 := eq_true q141
        obtain ⟨Ao9, co9, eo9⟩ := Kd.R_slice HO_4.out
        subst eo9
        go_wp2
        go_ret2
        exact ⟨_, by first | rfl | (simp [errW_none, errW_some] <;> rfl) | (simp [*, errW_none, errW_some] <;> rfl), by first | exact Kd.R_nil _ _ _ _ _ | exact Kd.N_nil _ _ _ _ _ | exact Kd.V_nil _ _ _ _ _ | exact Kd.Q_nil _ _ _ _ _ | exact Kd.S_nil _ _ _ _ _, by repeat (first | (with_reducible first | exact HB.out | apply below_alloc | apply pw_below_drewN | apply below_drew1) | exact HB.out)⟩
       ·rw [if_neg c8] at H
        have c8b0 : (x5_1 == (x4_1.length : Int)) = false := beq_eq_false_iff_ne.mpr c8
        have c8b1 : (x5_1 != (x4_1.length : Int)) = true := bne_iff_ne.mpr c8
        by_cases c10 : x4_1.length < 140737488355328
        ·rw [if_pos c10] at H
         have LMc10 := Aside0.mk c10
         clear c10
         obtain ⟨y142, hy142⟩ : ∃ y_ : List Int, y_ = (x4_1 ++ [rd l0 x12_1]) := ⟨_, rfl⟩
         replace H : (impl_Hoist_meaning.l0 k1 l0 y142 (y142.length : Int) l0 (l0.length : Int) (wrap64 (x12_1 + 1))) = some (r1, r2) := by first | (rw [hy142]; with_reducible exact H) | (have H2_ := (Option.bind_some _ _).symm.trans H; rw [hy142]; with_reducible exact H2_) | (have H2_ := (Option.bind_some _ _).symm.trans H; with_reducible exact H2_) | with_reducible exact H | (rw [hy142]; exact H) | exact H
         have Ny142 := Aside0.mk hy142
         clear hy142
         have H' := Aside0.mk H
         clear H
         have p141 : 0 ≤ (x12_1 : Int) := of_decide_eq_true (by first | (with_reducible assumption) | assumption)
         have q141 : x12_1 < (l0.length : Int) := of_decide_eq_true (by first | (with_reducible assumption) | assumption)
         obtain ⟨ad141, e141, hx141_0⟩ := Kd.at_int HR0.out x12_1 p141 q141
         cases e141
         replace hx141_0 := (HB.out.cell (World.block_lt_of_cell? w _ hx141_0)).trans hx141_0
         replace p141 := eq_true p141
         replace q141 := eq_true q141
         obtain ⟨Ao11, co11, eo11⟩ := Kd.R_slice HO_4.out
         subst eo11
         go_wp2_with (first | ((with_reducible refine gate_builtin (b := .append) (xs := #[.tmp 22, .tmp 24]) rfl ?_); (try (refine gate_guard (by rfl) ?_; dsimp only)); at_builtin; refine Kd.R_append (Kd.int .i8) (w0 := w) w.heap.size rfl (.tmp 22) (.tmp 24) 90 45 (.int .i8 0) 1 rfl Tryz.underlying90 info45 rfl (by decide) (by omega) (.slice Ao11 x4_1.length co11) x4_1 (rd l0 x12_1) [.int .i8 (rd l0 x12_1)] (fun _ => True) (fun _ => False) rfl rfl ?aP (fun _ hk => hk.elim) ?aF ?aO ?aB ?aS ?aL ?_; (case aP => exact rfl); (case aB => exact (by repeat (first | (with_reducible first | exact HB.out | apply below_alloc | apply pw_below_drewN | apply below_drew1) | exact HB.out))); (case aF => exact (fun _ _ => trivial)); (case aO => exact (by (with_reducible repeat (first | apply Kd.R_alloc | apply Kd.R_drewN | apply Kd.R_drew)); exact HO_4.out)); (case aS => exact (below_size (by repeat (first | (with_reducible first | exact HB.out | apply below_alloc | apply pw_below_drewN | apply below_drew1) | exact HB.out)))); (case aL => have := LMc10.out; omega); intro v143 w12 ho hb hg hat; rw [← Ny142.out] at ho; have n0_ := Aside0.mk (hb); have n1_ := Aside0.mk (ho); clear HB; clear HO_4; have HB := n0_; have HO144 := n1_; clear n0_ n1_; clear ho hb hg hat; obtain ⟨Ao13, co13, eo13⟩ := Kd.R_slice HO144.out; subst eo13))
         go_roundg k1
         case measure => have := HK1.out; omega
         case rel => exact ⟨(y142), ((y142.length : Int)), (wrap64 (x12_1 + 1)), (by first | rfl | (simp; done) | (simp [*]; done)), (by first | rfl | (simp; done) | (simp [*]; done)), H', ⟨by have := HK1.out; omega⟩, ⟨by (with_reducible repeat (first | apply Kd.R_alloc | apply Kd.R_drewN | apply Kd.R_drew)); exact HO144.out⟩, ⟨by repeat (first | (with_reducible first | exact HB.out | apply below_alloc | apply pw_below_drewN | apply below_drew1) | exact HB.out)⟩⟩
        ·rw [if_neg c10] at H
         exact absurd H (by simp)
      ·rw [if_neg c7] at H
       have c7b0 : ((rd l0 x12_1) == (-10)) = false := beq_eq_false_iff_ne.mpr c7
       have c7b1 : ((rd l0 x12_1) != (-10)) = true := bne_iff_ne.mpr c7
       have HC14 := Aside0.mk H
       clear H
       have p141 : 0 ≤ (x12_1 : Int) := of_decide_eq_true (by first | (with_reducible assumption) | assumption)
       have q141 : x12_1 < (l0.length : Int) := of_decide_eq_true (by first | (with_reducible assumption) | assumption)
       obtain ⟨ad141, e141, hx141_0⟩ := Kd.at_int HR0.out x12_1 p141 q141
       cases e141
       replace hx141_0 := (HB.out.cell (World.block_lt_of_cell? w _ hx141_0)).trans hx141_0
       replace p141 := eq_true p141
       replace q141 := eq_true q141
       go_upto_region 11 with (fail)
       go_cut [41] (fun v41 wc => ∃ (kq : Nat) (x41_13 : Bool), v41 = .bool x41_13 ∧ Aside0 (impl_Hoist_meaning.j1 kq l0 x4_1 x5_1 (rd l0 x12_1) (wrap64 ((wrap64 (x5_1 - (wrap64 (rd l0 x12_1)))) - 1)) l0 (l0.length : Int) x12_1 x41_13 = some (r1, r2)) ∧ Aside0 (kq ≤ k1) ∧ Aside0 (Kd.R (Kd.int .i8) 45 wc w.heap.size (fun _ => True) u4 x4_1) ∧ Aside0 (Below w.heap.size w wc))
       case first =>
        have H := HC14.out
        clear HC14
        replace H := Option.bind_eq_some_iff.mp H
        obtain ⟨t145, A150, H⟩ := H
        replace H : (if t145 = true then (impl_Hoist_meaning.j1 k1 l0 x4_1 x5_1 (rd l0 x12_1) (wrap64 ((wrap64 (x5_1 - (wrap64 (rd l0 x12_1)))) - 1)) l0 (l0.length : Int) x12_1 (decide ((wrap64 ((wrap64 (x5_1 - (wrap64 (rd l0 x12_1)))) - 1)) < (x4_1.length : Int)))) else (impl_Hoist_meaning.j1 k1 l0 x4_1 x5_1 (rd l0 x12_1) (wrap64 ((wrap64 (x5_1 - (wrap64 (rd l0 x12_1)))) - 1)) l0 (l0.length : Int) x12_1 false)) = some (r1, r2) := H
        have A15 := Aside0.mk A150
        clear A150
        by_cases c16 : t145 = true
        ·subst c16
         have H1 : (impl_Hoist_meaning.j1 k1 l0 x4_1 x5_1 (rd l0 x12_1) (wrap64 ((wrap64 (x5_1 - (wrap64 (rd l0 x12_1)))) - 1)) l0 (l0.length : Int) x12_1 (decide ((wrap64 ((wrap64 (x5_1 - (wrap64 (rd l0 x12_1)))) - 1)) < (x4_1.length : Int)))) = some (r1, r2) := by rw [if_pos rfl] at H; exact H
         clear H
         have H := H1
         clear H1
         have H' := Aside0.mk H
         clear H
         go_wp2_with (first | ((with_reducible refine gate_callee (f := 33) rfl ?_); refine goesL_ (some 35) rfl rfl Tryz.func33 (by kernel_rfl) rfl #[.int .i64 (wrap64 (rd l0 x12_1)), .int .i64 (-4), .int .i64 (-1)] rfl (by (try simp only [List.map_toArray, List.map_cons, List.map_nil]); first | done | rfl | (simp only [List.length_drop, List.length_take]; rfl)) ?_; (with_reducible refine (impl_within.calls (wrap64 (rd l0 x12_1)) (-4) (-1) true _ A15.out).mono ?_); rintro e w' ⟨rfl, ⟨nd, rfl⟩⟩; refine ⟨_, rfl, ?_⟩; obtain ⟨Ao17, co17, eo17⟩ := Kd.R_slice HO_4.out; subst eo17))
         go_meet
         case rel => exact ⟨_, (decide ((wrap64 ((wrap64 (x5_1 - (wrap64 (rd l0 x12_1)))) - 1)) < (x4_1.length : Int))), (by first | rfl | (simp; done) | (simp [*]; done)), H', ⟨by have := HK1.out; first | omega | exact Nat.le_refl _⟩, ⟨by (with_reducible repeat (first | apply Kd.R_alloc | apply Kd.R_drewN | apply Kd.R_drew)); exact HO_4.out⟩, ⟨by repeat (first | (with_reducible first | exact HB.out | apply below_alloc | apply pw_below_drewN | apply below_drew1) | exact HB.out)⟩⟩
        ·replace c16 := Bool.eq_false_iff.mpr c16
         subst c16
         have H1 : (impl_Hoist_meaning.j1 k1 l0 x4_1 x5_1 (rd l0 x12_1) (wrap64 ((wrap64 (x5_1 - (wrap64 (rd l0 x12_1)))) - 1)) l0 (l0.length : Int) x12_1 false) = some (r1, r2) := by rw [if_neg (show ¬ (false = true) by decide)] at H; exact H
         clear H
         have H := H1
         clear H1
         have H' := Aside0.mk H
         clear H
         go_wp2_with (first | ((with_reducible refine gate_callee (f := 33) rfl ?_); refine goesL_ (some 35) rfl rfl Tryz.func33 (by kernel_rfl) rfl #[.int .i64 (wrap64 (rd l0 x12_1)), .int .i64 (-4), .int .i64 (-1)] rfl (by (try simp only [List.map_toArray, List.map_cons, List.map_nil]); first | done | rfl | (simp only [List.length_drop, List.length_take]; rfl)) ?_; (with_reducible refine (impl_within.calls (wrap64 (rd l0 x12_1)) (-4) (-1) false _ A15.out).mono ?_); rintro e w' ⟨rfl, ⟨nd, rfl⟩⟩; refine ⟨_, rfl, ?_⟩))
         go_meet
         case rel => exact ⟨_, (false), (by first | rfl | (simp; done) | (simp [*]; done)), H', ⟨by have := HK1.out; first | omega | exact Nat.le_refl _⟩, ⟨by (with_reducible repeat (first | apply Kd.R_alloc | apply Kd.R_drewN | apply Kd.R_drew)); exact HO_4.out⟩, ⟨by repeat (first | (with_reducible first | exact HB.out | apply below_alloc | apply pw_below_drewN | apply below_drew1) | exact HB.out)⟩⟩
       case rest =>
        clear HC14
        try clear c1
        try clear p1
        try clear q1
        try clear hx1
        try clear p2
        try clear c3
        try clear c4
        try clear c4b0
        try clear c5
        try clear c5b0
        try clear c6
        try clear c6b0
        try clear p6
        try clear c7
        try clear c7b0
        try clear c7b1
        try clear c8
        try clear c8b0
        try clear c8b1
        try clear c10
        try clear p14
        try clear q14
        try clear hx14
        try clear c16
        try clear hx141_0
        try clear p141
        try clear p2
        try clear q141
        obtain ⟨kq, x41_13, rfl, HA, HJ13, HO_4, HB⟩ := hcut
        cases kq with
        | zero => exact absurd HA.out (by simp [impl_Hoist_meaning.j1])
        | succ kj13 =>
         have H := HA.out
         clear HA
         simp only [impl_Hoist_meaning.j1] at H
         by_cases c18 : x41_13 = true
         ·subst c18
          have H1 : (if 0 ≤ (wrap64 ((wrap64 (x5_1 - (wrap64 (rd l0 x12_1)))) - 1)) then (if (wrap64 ((wrap64 (x5_1 - (wrap64 (rd l0 x12_1)))) - 1)) < (x4_1.length : Int) then ((impl_isKind.f (rd x4_1 (wrap64 ((wrap64 (x5_1 - (wrap64 (rd l0 x12_1)))) - 1)))).bind fun t147 => (if t147 = true then (if x4_1.length < 140737488355328 then (impl_Hoist_meaning.l0 kj13 l0 (x4_1 ++ [rd x4_1 (wrap64 ((wrap64 (x5_1 - (wrap64 (rd l0 x12_1)))) - 1))]) x5_1 l0 (l0.length : Int) (wrap64 (x12_1 + 1))) else (none)) else (some (([] : List Int), false)))) else (none)) else (none)) = some (r1, r2) := by rw [if_pos rfl] at H; exact H
          clear H
          have H := H1
          clear H1
          obtain ⟨ji19, hji19⟩ : ∃ j_ : Int, (wrap64 ((wrap64 (x5_1 - (wrap64 (rd l0 x12_1)))) - 1)) = j_ := ⟨_, rfl⟩
          replace H : (if 0 ≤ (ji19) then (if (ji19) < (x4_1.length : Int) then ((impl_isKind.f (rd x4_1 (ji19))).bind fun t147 => (if t147 = true then (if x4_1.length < 140737488355328 then (impl_Hoist_meaning.l0 kj13 l0 (x4_1 ++ [rd x4_1 (ji19)]) x5_1 l0 (l0.length : Int) (wrap64 (x12_1 + 1))) else (none)) else (some (([] : List Int), false)))) else (none)) else (none)) = some (r1, r2) := by first | (rw [hji19] at H; exact H) | (simp only [hji19] at H ⊢; exact H)
          have hji19w : (IntKind.i64.wrap ((wrap64 (x5_1 - (wrap64 (rd l0 x12_1)))) - 1)) = ji19 := (i64_w _).trans hji19
          by_cases c20 : 0 ≤ (ji19)
          ·rw [if_pos c20] at H
           have c20b0 : decide (0 ≤ (ji19)) = true := decide_eq_true c20
           clear c20
           by_cases c21 : (ji19) < (x4_1.length : Int)
           ·rw [if_pos c21] at H
            have c21b0 : decide ((ji19) < (x4_1.length : Int)) = true := decide_eq_true c21
            clear c21
            replace H := Option.bind_eq_some_iff.mp H
            obtain ⟨t147, A220, H⟩ := H
            replace H : (if t147 = true then (if x4_1.length < 140737488355328 then (impl_Hoist_meaning.l0 kj13 l0 (x4_1 ++ [rd x4_1 (ji19)]) x5_1 l0 (l0.length : Int) (wrap64 (x12_1 + 1))) else (none)) else (some (([] : List Int), false))) = some (r1, r2) := H
            have A22 := Aside0.mk A220
            clear A220
            by_cases c23 : t147 = true
            ·subst c23
             have H1 : (if x4_1.length < 140737488355328 then (impl_Hoist_meaning.l0 kj13 l0 (x4_1 ++ [rd x4_1 (ji19)]) x5_1 l0 (l0.length : Int) (wrap64 (x12_1 + 1))) else (none)) = some (r1, r2) := by rw [if_pos rfl] at H; exact H
             clear H
             have H := H1
             clear H1
             by_cases c24 : x4_1.length < 140737488355328
             ·rw [if_pos c24] at H
              have LMc24 := Aside0.mk c24
              clear c24
              obtain ⟨y148, hy148⟩ : ∃ y_ : List Int, y_ = (x4_1 ++ [rd x4_1 (ji19)]) := ⟨_, rfl⟩
              replace H : (impl_Hoist_meaning.l0 kj13 l0 y148 x5_1 l0 (l0.length : Int) (wrap64 (x12_1 + 1))) = some (r1, r2) := by first | (rw [hy148]; with_reducible exact H) | (have H2_ := (Option.bind_some _ _).symm.trans H; rw [hy148]; with_reducible exact H2_) | (have H2_ := (Option.bind_some _ _).symm.trans H; with_reducible exact H2_) | with_reducible exact H | (rw [hy148]; exact H) | exact H
              have Ny148 := Aside0.mk hy148
              clear hy148
              have H' := Aside0.mk H
              clear H
              obtain ⟨Ao25, co25, eo25⟩ := Kd.R_slice HO_4.out
              subst eo25
              have p146 : 0 ≤ ((ji19) : Int) := of_decide_eq_true (by first | (with_reducible assumption) | assumption)
              have q146 : (ji19) < (x4_1.length : Int) := of_decide_eq_true (by first | (with_reducible assumption) | assumption)
              obtain ⟨ad146, e146, hx146_0⟩ := Kd.at_int (Kd.R_reads' HO_4.out).2.2 (ji19) p146 q146
              cases e146
              replace p146 := eq_true p146
              replace q146 := eq_true q146
              go_wp2_with (first | ((with_reducible refine gate_callee (f := 92) rfl ?_); refine goesL_ (some 47) rfl rfl Tryz.func92 (by kernel_rfl) rfl #[.int .i8 (rd x4_1 (ji19))] rfl (by (try simp only [List.map_toArray, List.map_cons, List.map_nil]); first | done | (simp only [hji19]; rfl) | rfl | (simp only [List.length_drop, List.length_take]; rfl)) ?_; (with_reducible refine (impl_isKind.calls (rd x4_1 (ji19)) true _ A22.out).mono ?_); rintro e w' ⟨rfl, ⟨nd, rfl⟩⟩; refine ⟨_, rfl, ?_⟩) | ((with_reducible refine gate_builtin (b := .append) (xs := #[.tmp 49, .tmp 51]) rfl ?_); (try (refine gate_guard (by rfl) ?_; dsimp only)); at_builtin; refine Kd.R_append (Kd.int .i8) (w0 := w) w.heap.size rfl (.tmp 49) (.tmp 51) 90 45 (.int .i8 0) 1 rfl Tryz.underlying90 info45 rfl (by decide) (by omega) (.slice (some ad146) x4_1.length co25) x4_1 (rd x4_1 (ji19)) [.int .i8 (rd x4_1 (ji19))] (fun _ => True) (fun _ => False) rfl rfl ?aP (fun _ hk => hk.elim) ?aF ?aO ?aB ?aS ?aL ?_; (case aP => exact rfl); (case aB => exact (by repeat (first | (with_reducible first | exact HB.out | apply below_alloc | apply pw_below_drewN | apply below_drew1) | exact HB.out))); (case aF => exact (fun _ _ => trivial)); (case aO => exact (by (with_reducible repeat (first | apply Kd.R_alloc | apply Kd.R_drewN | apply Kd.R_drew)); exact HO_4.out)); (case aS => exact (below_size (by repeat (first | (with_reducible first | exact HB.out | apply below_alloc | apply pw_below_drewN | apply below_drew1) | exact HB.out)))); (case aL => have := LMc24.out; omega); intro v149 w26 ho hb hg hat; rw [← Ny148.out] at ho; have n0_ := Aside0.mk (hb); have n1_ := Aside0.mk (ho); clear HB; clear HO_4; have HB := n0_; have HO150 := n1_; clear n0_ n1_; clear ho hb hg hat))
              go_roundg kj13
              case measure => have := HK1.out; have := HJ13.out; omega
              case rel => exact ⟨(y148), (x5_1), (wrap64 (x12_1 + 1)), (by first | rfl | (simp; done) | (simp [*]; done)), (by first | rfl | (simp; done) | (simp [*]; done)), H', ⟨by have := HK1.out; have := HJ13.out; omega⟩, ⟨by (with_reducible repeat (first | apply Kd.R_alloc | apply Kd.R_drewN | apply Kd.R_drew)); exact HO150.out⟩, ⟨by repeat (first | (with_reducible first | exact HB.out | apply below_alloc | apply pw_below_drewN | apply below_drew1) | exact HB.out)⟩⟩
             ·rw [if_neg c24] at H
              exact absurd H (by simp)
            ·replace c23 := Bool.eq_false_iff.mpr c23
             subst c23
             have H1 : (some (([] : List Int), false)) = some (r1, r2) := by rw [if_neg (show ¬ (false = true) by decide)] at H; exact H
             clear H
             have H := H1
             clear H1
             simp only [Option.some.injEq, Prod.mk.injEq] at H
             obtain ⟨rfl, rfl⟩ := H
             obtain ⟨Ao27, co27, eo27⟩ := Kd.R_slice HO_4.out
             subst eo27
             have p146 : 0 ≤ ((ji19) : Int) := of_decide_eq_true (by first | (with_reducible assumption) | assumption)
             have q146 : (ji19) < (x4_1.length : Int) := of_decide_eq_true (by first | (with_reducible assumption) | assumption)
             obtain ⟨ad146, e146, hx146_0⟩ := Kd.at_int (Kd.R_reads' HO_4.out).2.2 (ji19) p146 q146
             cases e146
             replace p146 := eq_true p146
             replace q146 := eq_true q146
             go_wp2_with (first | ((with_reducible refine gate_callee (f := 92) rfl ?_); refine goesL_ (some 47) rfl rfl Tryz.func92 (by kernel_rfl) rfl #[.int .i8 (rd x4_1 (ji19))] rfl (by (try simp only [List.map_toArray, List.map_cons, List.map_nil]); first | done | (simp only [hji19]; rfl) | rfl | (simp only [List.length_drop, List.length_take]; rfl)) ?_; (with_reducible refine (impl_isKind.calls (rd x4_1 (ji19)) false _ A22.out).mono ?_); rintro e w' ⟨rfl, ⟨nd, rfl⟩⟩; refine ⟨_, rfl, ?_⟩))
             go_ret2
             exact ⟨_, by first | rfl | (simp [errW_none, errW_some] <;> rfl) | (simp only [← hji19]; first | rfl | (simp [errW_none, errW_some] <;> rfl)) | (simp [*, errW_none, errW_some] <;> rfl), by first | exact Kd.R_nil _ _ _ _ _ | exact Kd.N_nil _ _ _ _ _ | exact Kd.V_nil _ _ _ _ _ | exact Kd.Q_nil _ _ _ _ _ | exact Kd.S_nil _ _ _ _ _, by repeat (first | (with_reducible first | exact HB.out | apply below_alloc | apply pw_below_drewN | apply below_drew1) | exact HB.out)⟩
           ·rw [if_neg c21] at H
            exact absurd H (by simp)
          ·rw [if_neg c20] at H
           exact absurd H (by simp)
         ·replace c18 := Bool.eq_false_iff.mpr c18
          subst c18
          have H1 : ((impl_isKind.f (rd l0 x12_1)).bind fun t151 => (if t151 = true then (if x4_1.length < 140737488355328 then (impl_Hoist_meaning.l0 kj13 l0 (x4_1 ++ [(rd l0 x12_1)]) x5_1 l0 (l0.length : Int) (wrap64 (x12_1 + 1))) else (none)) else (some (([] : List Int), false)))) = some (r1, r2) := by rw [if_neg (show ¬ (false = true) by decide)] at H; exact H
          clear H
          have H := H1
          clear H1
          replace H := Option.bind_eq_some_iff.mp H
          obtain ⟨t151, A280, H⟩ := H
          replace H : (if t151 = true then (if x4_1.length < 140737488355328 then (impl_Hoist_meaning.l0 kj13 l0 (x4_1 ++ [(rd l0 x12_1)]) x5_1 l0 (l0.length : Int) (wrap64 (x12_1 + 1))) else (none)) else (some (([] : List Int), false))) = some (r1, r2) := H
          have A28 := Aside0.mk A280
          clear A280
          by_cases c29 : t151 = true
          ·subst c29
           have H1 : (if x4_1.length < 140737488355328 then (impl_Hoist_meaning.l0 kj13 l0 (x4_1 ++ [(rd l0 x12_1)]) x5_1 l0 (l0.length : Int) (wrap64 (x12_1 + 1))) else (none)) = some (r1, r2) := by rw [if_pos rfl] at H; exact H
           clear H
           have H := H1
           clear H1
           by_cases c30 : x4_1.length < 140737488355328
           ·rw [if_pos c30] at H
            have LMc30 := Aside0.mk c30
            clear c30
            obtain ⟨y152, hy152⟩ : ∃ y_ : List Int, y_ = (x4_1 ++ [(rd l0 x12_1)]) := ⟨_, rfl⟩
            replace H : (impl_Hoist_meaning.l0 kj13 l0 y152 x5_1 l0 (l0.length : Int) (wrap64 (x12_1 + 1))) = some (r1, r2) := by first | (rw [hy152]; with_reducible exact H) | (have H2_ := (Option.bind_some _ _).symm.trans H; rw [hy152]; with_reducible exact H2_) | (have H2_ := (Option.bind_some _ _).symm.trans H; with_reducible exact H2_) | with_reducible exact H | (rw [hy152]; exact H) | exact H
            have Ny152 := Aside0.mk hy152
            clear hy152
            have H' := Aside0.mk H
            clear H
            go_wp2_with (first | ((with_reducible refine gate_callee (f := 92) rfl ?_); refine goesL_ (some 47) rfl rfl Tryz.func92 (by kernel_rfl) rfl #[.int .i8 (rd l0 x12_1)] rfl (by (try simp only [List.map_toArray, List.map_cons, List.map_nil]); first | done | rfl | (simp only [List.length_drop, List.length_take]; rfl)) ?_; (with_reducible refine (impl_isKind.calls (rd l0 x12_1) true _ A28.out).mono ?_); rintro e w' ⟨rfl, ⟨nd, rfl⟩⟩; refine ⟨_, rfl, ?_⟩) | ((with_reducible refine gate_builtin (b := .append) (xs := #[.tmp 49, .tmp 51]) rfl ?_); (try (refine gate_guard (by rfl) ?_; dsimp only)); at_builtin; refine Kd.R_append (Kd.int .i8) (w0 := w) w.heap.size rfl (.tmp 49) (.tmp 51) 90 45 (.int .i8 0) 1 rfl Tryz.underlying90 info45 rfl (by decide) (by omega) u4 x4_1 (rd l0 x12_1) [.int .i8 (rd l0 x12_1)] (fun _ => True) (fun _ => False) rfl rfl ?aP (fun _ hk => hk.elim) ?aF ?aO ?aB ?aS ?aL ?_; (case aP => exact rfl); (case aB => exact (by repeat (first | (with_reducible first | exact HB.out | apply below_alloc | apply pw_below_drewN | apply below_drew1) | exact HB.out))); (case aF => exact (fun _ _ => trivial)); (case aO => exact (by (with_reducible repeat (first | apply Kd.R_alloc | apply Kd.R_drewN | apply Kd.R_drew)); exact HO_4.out)); (case aS => exact (below_size (by repeat (first | (with_reducible first | exact HB.out | apply below_alloc | apply pw_below_drewN | apply below_drew1) | exact HB.out)))); (case aL => have := LMc30.out; omega); intro v153 w31 ho hb hg hat; rw [← Ny152.out] at ho; have n0_ := Aside0.mk (hb); have n1_ := Aside0.mk (ho); clear HB; clear HO_4; have HB := n0_; have HO154 := n1_; clear n0_ n1_; clear ho hb hg hat))
            go_roundg kj13
            case measure => have := HK1.out; have := HJ13.out; omega
            case rel => exact ⟨(y152), (x5_1), (wrap64 (x12_1 + 1)), (by first | rfl | (simp; done) | (simp [*]; done)), (by first | rfl | (simp; done) | (simp [*]; done)), H', ⟨by have := HK1.out; have := HJ13.out; omega⟩, ⟨by (with_reducible repeat (first | apply Kd.R_alloc | apply Kd.R_drewN | apply Kd.R_drew)); exact HO154.out⟩, ⟨by repeat (first | (with_reducible first | exact HB.out | apply below_alloc | apply pw_below_drewN | apply below_drew1) | exact HB.out)⟩⟩
           ·rw [if_neg c30] at H
            exact absurd H (by simp)
          ·replace c29 := Bool.eq_false_iff.mpr c29
           subst c29
           have H1 : (some (([] : List Int), false)) = some (r1, r2) := by rw [if_neg (show ¬ (false = true) by decide)] at H; exact H
           clear H
           have H := H1
           clear H1
           simp only [Option.some.injEq, Prod.mk.injEq] at H
           obtain ⟨rfl, rfl⟩ := H
           go_wp2_with (first | ((with_reducible refine gate_callee (f := 92) rfl ?_); refine goesL_ (some 47) rfl rfl Tryz.func92 (by kernel_rfl) rfl #[.int .i8 (rd l0 x12_1)] rfl (by (try simp only [List.map_toArray, List.map_cons, List.map_nil]); first | done | rfl | (simp only [List.length_drop, List.length_take]; rfl)) ?_; (with_reducible refine (impl_isKind.calls (rd l0 x12_1) false _ A28.out).mono ?_); rintro e w' ⟨rfl, ⟨nd, rfl⟩⟩; refine ⟨_, rfl, ?_⟩))
           go_ret2
           exact ⟨_, by first | rfl | (simp [errW_none, errW_some] <;> rfl) | (simp [*, errW_none, errW_some] <;> rfl), by first | exact Kd.R_nil _ _ _ _ _ | exact Kd.N_nil _ _ _ _ _ | exact Kd.V_nil _ _ _ _ _ | exact Kd.Q_nil _ _ _ _ _ | exact Kd.S_nil _ _ _ _ _, by repeat (first | (with_reducible first | exact HB.out | apply below_alloc | apply pw_below_drewN | apply below_drew1) | exact HB.out)⟩
     ·rw [if_neg c6] at H
      exact absurd H (by simp)
    ·rw [if_neg c5] at H
     exact absurd H (by simp)
   ·rw [if_neg c4] at H
    have c4b0 : decide (x12_1 < (l0.length : Int)) = false := decide_eq_false c4
    clear c4
    replace H := Option.bind_eq_some_iff.mp H
    obtain ⟨t139, A320, H⟩ := H
    replace H : ((impl_within.f t139 1 8).bind fun t140 => (if t140 = true then (some (x4_1, decide (x5_1 < (x4_1.length : Int)))) else (some (x4_1, false)))) = some (r1, r2) := H
    have A32 := Aside0.mk A320
    clear A320
    replace H := Option.bind_eq_some_iff.mp H
    obtain ⟨t140, A330, H⟩ := H
    replace H : (if t140 = true then (some (x4_1, decide (x5_1 < (x4_1.length : Int)))) else (some (x4_1, false))) = some (r1, r2) := H
    have A33 := Aside0.mk A330
    clear A330
    by_cases c34 : t140 = true
    ·subst c34
     have H1 : (some (x4_1, decide (x5_1 < (x4_1.length : Int)))) = some (r1, r2) := by rw [if_pos rfl] at H; exact H
     clear H
     have H := H1
     clear H1
     simp only [Option.some.injEq, Prod.mk.injEq] at H
     obtain ⟨rfl, rfl⟩ := H
     go_wp2_with (first | ((with_reducible refine gate_callee (f := 93) rfl ?_); refine goesL_ (some 56) rfl rfl Tryz.func93 (by kernel_rfl) rfl #[.slice A0 l0.length c0] rfl (by (try simp only [List.map_toArray, List.map_cons, List.map_nil]); first | done | rfl | (simp only [List.length_drop, List.length_take]; rfl)) ?_; (with_reducible refine (impl_size_int8.calls _ _ l0 t139 _ ?side1 ?side2 A32.out).mono ?_); (case side1 => repeat (first | exact (Kd.C_below HR0.out HB.out) | (with_reducible refine Kd.C_alloc ?_ _) | (with_reducible refine Kd.C_drewN ?_ _) | (with_reducible refine Kd.C_drew ?_))); (case side2 => exact HC0.out); rintro e w' ⟨rfl, ⟨nd, rfl⟩⟩; refine ⟨_, rfl, ?_⟩) | ((with_reducible refine gate_callee (f := 33) rfl ?_); refine goesL_ (some 57) rfl rfl Tryz.func33 (by kernel_rfl) rfl #[.int .i64 t139, .int .i64 1, .int .i64 8] rfl (by (try simp only [List.map_toArray, List.map_cons, List.map_nil]); first | done | rfl | (simp only [List.length_drop, List.length_take]; rfl)) ?_; (with_reducible refine (impl_within.calls t139 1 8 true _ A33.out).mono ?_); rintro e w' ⟨rfl, ⟨nd, rfl⟩⟩; refine ⟨_, rfl, ?_⟩; obtain ⟨Ao35, co35, eo35⟩ := Kd.R_slice HO_4.out; subst eo35))
     go_ret2
     exact ⟨_, by first | rfl | (simp [errW_none, errW_some] <;> rfl) | (simp [*, errW_none, errW_some] <;> rfl), by (with_reducible repeat (first | apply Kd.R_alloc | apply Kd.R_drewN | apply Kd.R_drew)); exact HO_4.out, by repeat (first | (with_reducible first | exact HB.out | apply below_alloc | apply pw_below_drewN | apply below_drew1) | exact HB.out)⟩
    ·replace c34 := Bool.eq_false_iff.mpr c34
     subst c34
     have H1 : (some (x4_1, false)) = some (r1, r2) := by rw [if_neg (show ¬ (false = true) by decide)] at H; exact H
     clear H
     have H := H1
     clear H1
     simp only [Option.some.injEq, Prod.mk.injEq] at H
     obtain ⟨rfl, rfl⟩ := H
     go_wp2_with (first | ((with_reducible refine gate_callee (f := 93) rfl ?_); refine goesL_ (some 56) rfl rfl Tryz.func93 (by kernel_rfl) rfl #[.slice A0 l0.length c0] rfl (by (try simp only [List.map_toArray, List.map_cons, List.map_nil]); first | done | rfl | (simp only [List.length_drop, List.length_take]; rfl)) ?_; (with_reducible refine (impl_size_int8.calls _ _ l0 t139 _ ?side1 ?side2 A32.out).mono ?_); (case side1 => repeat (first | exact (Kd.C_below HR0.out HB.out) | (with_reducible refine Kd.C_alloc ?_ _) | (with_reducible refine Kd.C_drewN ?_ _) | (with_reducible refine Kd.C_drew ?_))); (case side2 => exact HC0.out); rintro e w' ⟨rfl, ⟨nd, rfl⟩⟩; refine ⟨_, rfl, ?_⟩) | ((with_reducible refine gate_callee (f := 33) rfl ?_); refine goesL_ (some 57) rfl rfl Tryz.func33 (by kernel_rfl) rfl #[.int .i64 t139, .int .i64 1, .int .i64 8] rfl (by (try simp only [List.map_toArray, List.map_cons, List.map_nil]); first | done | rfl | (simp only [List.length_drop, List.length_take]; rfl)) ?_; (with_reducible refine (impl_within.calls t139 1 8 false _ A33.out).mono ?_); rintro e w' ⟨rfl, ⟨nd, rfl⟩⟩; refine ⟨_, rfl, ?_⟩))
     go_ret2
     exact ⟨_, by first | rfl | (simp [errW_none, errW_some] <;> rfl) | (simp [*, errW_none, errW_some] <;> rfl), by (with_reducible repeat (first | apply Kd.R_alloc | apply Kd.R_drewN | apply Kd.R_drew)); exact HO_4.out, by repeat (first | (with_reducible first | exact HB.out | apply below_alloc | apply pw_below_drewN | apply below_drew1) | exact HB.out)⟩
def impl_ValidHoist.f (k : Nat) (l0 : List Int) : Option (Bool) := (impl_Hoist_meaning.f k l0).bind fun bt155 => (some bt155.2)
set_option maxHeartbeats 8000000 in
set_option maxRecDepth 100000 in
theorem impl_ValidHoist.calls (k : Nat) (A0 : Option Addr) (c0 : Nat) (l0 : List Int) (r : Bool) (w : World) (hr0 : Kd.C (Kd.int .i8) w A0 l0.length l0) (hc0 : l0.length ≤ c0) (h : impl_ValidHoist.f k l0 = some r) :
  Calls Tryz.prog 52 #[.slice A0 l0.length c0] w fun e w' => e = .returned (.bool r) ∧ Below w.heap.size w w' := by
 have HR0 := Aside0.mk hr0
 have HC0 := Aside0.mk hc0
 clear hr0 hc0
 have HB := Aside0.mk (Below.refl w.heap.size w)
 have H : ((impl_Hoist_meaning.f k l0).bind fun bt155 => (some bt155.2)) = some r := h
 clear h
 replace H := Option.bind_eq_some_iff.mp H
 obtain ⟨⟨t155, t156⟩, A20, H⟩ := H
 replace H : (some t156) = some r := H
 have A2 := Aside0.mk A20
 clear A20
 obtain rfl := Option.some.inj H
 go_enter Tryz.func52, Tryz.ntmps52
 go_wp2_with (first | ((with_reducible refine gate_callee (f := 77) rfl ?_); refine goesL_ (some 7) rfl rfl Tryz.func77 (by kernel_rfl) rfl #[.slice A0 l0.length c0] rfl (by (try simp only [List.map_toArray, List.map_cons, List.map_nil]); first | done | rfl | (simp only [List.length_drop, List.length_take]; rfl)) ?_; (with_reducible refine (impl_Hoist_meaning.calls k _ _ l0 t155 t156 _ ?side1 ?side2 A2.out).mono ?_); (case side1 => repeat (first | exact HR0.out | (with_reducible refine Kd.C_alloc ?_ _) | (with_reducible refine Kd.C_drewN ?_ _) | (with_reducible refine Kd.C_drew ?_))); (case side2 => exact HC0.out); rintro e w3 ⟨v157, rfl, ho0, hb⟩; refine ⟨_, rfl, ?_⟩; have n0_ := Aside0.mk (Kd.R_lower ho0 (below_size (by repeat (first | (with_reducible first | exact HB.out | apply below_alloc | apply pw_below_drewN | apply below_drew1) | exact HB.out)))); have n1_ := Aside0.mk (below_step (by repeat (first | (with_reducible first | exact HB.out | apply below_alloc | apply pw_below_drewN | apply below_drew1) | exact HB.out)) hb); clear HB; have HO158 := n0_; have HB := n1_; clear n0_ n1_; (try clear hb); (try clear hb2); (try clear hk); (try clear hi); (try clear ho0)))
 go_ret
 exact ⟨by first | rfl | (simp [errW_none, errW_some] <;> rfl) | (simp [*, errW_none, errW_some] <;> rfl), by repeat (first | (with_reducible first | exact HB.out | apply below_alloc | apply pw_below_drewN | apply below_drew1) | exact HB.out)⟩
def impl_unless.f (a0 : Bool) (a1 : Int) : Option (Int) := if a0 = true then (some 0) else (some a1)
set_option maxHeartbeats 8000000 in
set_option maxRecDepth 100000 in
theorem impl_unless.calls (a0 : Bool) (a1 : Int) (r : Int) (w : World) (h : impl_unless.f a0 a1 = some r) :
  Calls Tryz.prog 53 #[.bool a0, .int .i64 a1] w fun e w' => e = .returned (.int .i64 r) ∧ Drawn0 w w' := by
 have H : (if a0 = true then (some 0) else (some a1)) = some r := h
 clear h
 by_cases c3 : a0 = true
 ·subst c3
  have H1 : (some 0) = some r := by rw [if_pos rfl] at H; exact H
  clear H
  have H := H1
  clear H1
  obtain rfl := Option.some.inj H
  go_enter Tryz.func53, Tryz.ntmps53
  go_wp2
  go_ret
  exact ⟨by first | rfl | (simp; done) | (simp [*]; done), by repeat (first | exact Drawn0.refl _ | apply Drawn0.step)⟩
 ·replace c3 := Bool.eq_false_iff.mpr c3
  subst c3
  have H1 : (some a1) = some r := by rw [if_neg (show ¬ (false = true) by decide)] at H; exact H
  clear H
  have H := H1
  clear H1
  obtain rfl := Option.some.inj H
  go_enter Tryz.func53, Tryz.ntmps53
  go_wp2
  go_ret
  exact ⟨by first | rfl | (simp; done) | (simp [*]; done), by repeat (first | exact Drawn0.refl _ | apply Drawn0.step)⟩
def impl_firstOf.l0 : Nat → List Int → Int → Int → Option (Int)
 | 0, _, _, _ => none
 | k + 1, x5, x6, x7 => if x7 < x6 then (if 0 ≤ x7 then (if x7 < (x5.length : Int) then (if (rd x5 x7) = 0 then (impl_firstOf.l0 k x5 x6 (wrap64 (x7 + 1))) else (some (rd x5 x7))) else (none)) else (none)) else (some 0)
def impl_firstOf.f (k : Nat) (l0 : List Int) : Option (Int) := impl_firstOf.l0 k l0 (l0.length : Int) 0
set_option maxHeartbeats 8000000 in
set_option maxRecDepth 100000 in
theorem impl_firstOf.calls (k : Nat) (A0 : Option Addr) (c0 : Nat) (l0 : List Int) (r : Int) (w : World) (hr0 : Kd.C (Kd.int .i64) w A0 l0.length l0) (hc0 : l0.length ≤ c0) (h : impl_firstOf.f k l0 = some r) :
  Calls Tryz.prog 42 #[.slice A0 l0.length c0] w fun e w' => e = .returned (.int .i64 r) ∧ Drawn0 w w' := by
 have HR0 := Aside0.mk hr0
 have HC0 := Aside0.mk hc0
 clear hr0 hc0
 have H : (impl_firstOf.l0 k l0 (l0.length : Int) 0) = some r := h
 clear h
 have H' := Aside0.mk H
 clear H
 go_enter Tryz.func42, Tryz.ntmps42
 go_wp2
 go_loopg [7] k (fun kq v7 w' => ∃ (x7_1 : Int), v7 = .int .i64 x7_1 ∧ Aside0 (impl_firstOf.l0 kq l0 (l0.length : Int) x7_1 = some r) ∧ Aside0 (kq ≤ k) ∧ Drawn0 w w')
 case atStart => exact ⟨(0), (by first | rfl | (simp; done) | (simp [*]; done)), H', ⟨Nat.le_refl _⟩, by repeat (first | exact Drawn0.refl _ | apply Drawn0.step)⟩
 case round =>
  clear H'
  obtain ⟨x7_1, rfl, HA, HK1, ⟨m1, rfl⟩⟩ := hrel
  cases gk with
  | zero => exact absurd HA.out (by simp [impl_firstOf.l0])
  | succ k1 =>
   have H := HA.out
   clear HA
   simp only [impl_firstOf.l0] at H
   by_cases c2 : x7_1 < (l0.length : Int)
   ·rw [if_pos c2] at H
    have c2b0 : decide (x7_1 < (l0.length : Int)) = true := decide_eq_true c2
    clear c2
    by_cases c3 : 0 ≤ x7_1
    ·rw [if_pos c3] at H
     have c3b0 : decide (0 ≤ x7_1) = true := decide_eq_true c3
     clear c3
     by_cases c4 : x7_1 < (l0.length : Int)
     ·rw [if_pos c4] at H
      have c4b0 : decide (x7_1 < (l0.length : Int)) = true := decide_eq_true c4
      clear c4
      by_cases c5 : (rd l0 x7_1) = 0
      ·rw [if_pos c5] at H
       have c5b0 : ((rd l0 x7_1) == 0) = true := beq_iff_eq.mpr c5
       have c5b1 : ((rd l0 x7_1) != 0) = false := bne_eq_false_iff_eq.mpr c5
       clear c5
       have H' := Aside0.mk H
       clear H
       have p159 : 0 ≤ (x7_1 : Int) := of_decide_eq_true (by first | (with_reducible assumption) | assumption)
       have q159 : x7_1 < (l0.length : Int) := of_decide_eq_true (by first | (with_reducible assumption) | assumption)
       obtain ⟨ad159, e159, hx159_0⟩ := Kd.at_int HR0.out x7_1 p159 q159
       cases e159
       replace p159 := eq_true p159
       replace q159 := eq_true q159
       go_wp2
       go_roundg k1
       case measure => have := HK1.out; omega
       case rel => exact ⟨(wrap64 (x7_1 + 1)), (by first | rfl | (simp; done) | (simp [*]; done)), H', ⟨by have := HK1.out; omega⟩, by repeat (first | exact Drawn0.refl _ | apply Drawn0.step)⟩
      ·rw [if_neg c5] at H
       have c5b0 : ((rd l0 x7_1) == 0) = false := beq_eq_false_iff_ne.mpr c5
       have c5b1 : ((rd l0 x7_1) != 0) = true := bne_iff_ne.mpr c5
       obtain rfl := Option.some.inj H
       have p159 : 0 ≤ (x7_1 : Int) := of_decide_eq_true (by first | (with_reducible assumption) | assumption)
       have q159 : x7_1 < (l0.length : Int) := of_decide_eq_true (by first | (with_reducible assumption) | assumption)
       obtain ⟨ad159, e159, hx159_0⟩ := Kd.at_int HR0.out x7_1 p159 q159
       cases e159
       replace p159 := eq_true p159
       replace q159 := eq_true q159
       go_wp2
       go_ret
       exact ⟨by first | rfl | (simp; done) | (simp [*]; done), by repeat (first | exact Drawn0.refl _ | apply Drawn0.step)⟩
     ·rw [if_neg c4] at H
      exact absurd H (by simp)
    ·rw [if_neg c3] at H
     exact absurd H (by simp)
   ·rw [if_neg c2] at H
    have c2b0 : decide (x7_1 < (l0.length : Int)) = false := decide_eq_false c2
    clear c2
    obtain rfl := Option.some.inj H
    go_wp2
    go_ret
    exact ⟨by first | rfl | (simp; done) | (simp [*]; done), by repeat (first | exact Drawn0.refl _ | apply Drawn0.step)⟩
def spec_l04Hoists.l0 : Nat → List (List Int) → Int → Option (Int)
 | 0, _, _ => none
 | k + 1, x0, x3 => if x3 < (x0.length : Int) then (if 0 ≤ x3 then ((spec_l02Ok.f k (rd_L2 x0 x3)).bind fun t161 => (if t161 = true then (spec_l04Hoists.l0 k x0 (wrap64 (x3 + 1))) else (some 1))) else (none)) else (if (x0.length : Int) > 6 then (some 3) else (some 0))
def spec_l04Hoists.f (k : Nat) (l0 : List (List Int)) : Option (Int) := spec_l04Hoists.l0 k l0 0
set_option maxHeartbeats 8000000 in
set_option maxRecDepth 100000 in
theorem spec_l04Hoists.calls (k : Nat) (A0 : Option Addr) (c0 : Nat) (l0 : List (List Int)) (r : Int) (w : World) (hr0 : Kd.C (Kd.slice 45 (Kd.int .i8)) w A0 l0.length l0) (hc0 : l0.length ≤ c0) (h : spec_l04Hoists.f k l0 = some r) :
  Calls Tryz.prog 26 #[.slice A0 l0.length c0] w fun e w' => e = .returned (.int .i64 r) ∧ Below w.heap.size w w' := by
 have HR0 := Aside0.mk hr0
 have HC0 := Aside0.mk hc0
 clear hr0 hc0
 have HB := Aside0.mk (Below.refl w.heap.size w)
 have H : (spec_l04Hoists.l0 k l0 0) = some r := h
 clear h
 have H' := Aside0.mk H
 clear H
 go_enter Tryz.func26, Tryz.ntmps26
 go_wp2
 go_loopg [3] k (fun kq v3 w' => ∃ (x3_1 : Int), v3 = .int .i64 x3_1 ∧ Aside0 (spec_l04Hoists.l0 kq l0 x3_1 = some r) ∧ Aside0 (kq ≤ k) ∧ Aside0 (Below w.heap.size w w'))
 case atStart => exact ⟨(0), (by first | rfl | (simp; done) | (simp [*]; done)), H', ⟨Nat.le_refl _⟩, ⟨by repeat (first | (with_reducible first | exact HB.out | apply below_alloc | apply pw_below_drewN | apply below_drew1) | exact HB.out)⟩⟩
 case round =>
  clear H'
  obtain ⟨x3_1, rfl, HA, HK1, HB⟩ := hrel
  cases gk with
  | zero => exact absurd HA.out (by simp [spec_l04Hoists.l0])
  | succ k1 =>
   have H := HA.out
   clear HA
   simp only [spec_l04Hoists.l0] at H
   by_cases c2 : x3_1 < (l0.length : Int)
   ·rw [if_pos c2] at H
    have c2b0 : decide (x3_1 < (l0.length : Int)) = true := decide_eq_true c2
    clear c2
    by_cases c3 : 0 ≤ x3_1
    ·rw [if_pos c3] at H
     have c3b0 : decide (0 ≤ x3_1) = true := decide_eq_true c3
     clear c3
     replace H := Option.bind_eq_some_iff.mp H
     obtain ⟨t161, A40, H⟩ := H
     replace H : (if t161 = true then (spec_l04Hoists.l0 k1 l0 (wrap64 (x3_1 + 1))) else (some 1)) = some r := H
     have A4 := Aside0.mk A40
     clear A40
     by_cases c5 : t161 = true
     ·subst c5
      have H1 : (spec_l04Hoists.l0 k1 l0 (wrap64 (x3_1 + 1))) = some r := by rw [if_pos rfl] at H; exact H
      clear H
      have H := H1
      clear H1
      have H' := Aside0.mk H
      clear H
      have p160 : 0 ≤ (x3_1 : Int) := of_decide_eq_true (by first | (with_reducible assumption) | assumption)
      have q160 : x3_1 < (l0.length : Int) := of_decide_eq_true (by first | (with_reducible assumption) | assumption)
      obtain ⟨ad160, A160_0, c160_0, e160, hx160_0, hl160_0, hi160_0⟩ := at_L2 HR0.out x3_1 p160 q160
      cases e160
      replace hx160_0 := (HB.out.cell (World.block_lt_of_cell? w _ hx160_0)).trans hx160_0
      have HR160_0 := Aside0.mk hi160_0
      have HC160_0 := Aside0.mk hl160_0
      clear hi160_0 hl160_0
      replace p160 := eq_true p160
      replace q160 := eq_true q160
      go_wp2_with (first | ((with_reducible refine gate_callee (f := 56) rfl ?_); refine goesL_ (some 14) rfl rfl Tryz.func56 (by kernel_rfl) rfl #[.slice A160_0 (rd_L2 l0 x3_1).length c160_0] rfl (by (try simp only [List.map_toArray, List.map_cons, List.map_nil]); first | done | rfl | (simp only [List.length_drop, List.length_take]; rfl)) ?_; (with_reducible refine (spec_l02Ok.calls k1 _ _ (rd_L2 l0 x3_1) true _ ?side1 ?side2 A4.out).mono ?_); (case side1 => repeat (first | exact (Kd.C_below HR160_0.out HB.out) | (with_reducible refine Kd.C_alloc ?_ _) | (with_reducible refine Kd.C_drewN ?_ _) | (with_reducible refine Kd.C_drew ?_))); (case side2 => exact HC160_0.out); rintro e w6 ⟨rfl, hb⟩; refine ⟨_, rfl, ?_⟩; have n0_ := Aside0.mk (below_step (by repeat (first | (with_reducible first | exact HB.out | apply below_alloc | apply pw_below_drewN | apply below_drew1) | exact HB.out)) hb); clear HB; have HB := n0_; clear n0_; (try clear hb); (try clear hb2); (try clear hk); (try clear hi)))
      go_roundg k1
      case measure => have := HK1.out; omega
      case rel => exact ⟨(wrap64 (x3_1 + 1)), (by first | rfl | (simp; done) | (simp [*]; done)), H', ⟨by have := HK1.out; omega⟩, ⟨by repeat (first | (with_reducible first | exact HB.out | apply below_alloc | apply pw_below_drewN | apply below_drew1) | exact HB.out)⟩⟩
     ·replace c5 := Bool.eq_false_iff.mpr c5
      subst c5
      have H1 : (some 1) = some r := by rw [if_neg (show ¬ (false = true) by decide)] at H; exact H
      clear H
      have H := H1
      clear H1
      obtain rfl := Option.some.inj H
      have p160 : 0 ≤ (x3_1 : Int) := of_decide_eq_true (by first | (with_reducible assumption) | assumption)
      have q160 : x3_1 < (l0.length : Int) := of_decide_eq_true (by first | (with_reducible assumption) | assumption)
      obtain ⟨ad160, A160_0, c160_0, e160, hx160_0, hl160_0, hi160_0⟩ := at_L2 HR0.out x3_1 p160 q160
      cases e160
      replace hx160_0 := (HB.out.cell (World.block_lt_of_cell? w _ hx160_0)).trans hx160_0
      have HR160_0 := Aside0.mk hi160_0
      have HC160_0 := Aside0.mk hl160_0
      clear hi160_0 hl160_0
      replace p160 := eq_true p160
      replace q160 := eq_true q160
      go_wp2_with (first | ((with_reducible refine gate_callee (f := 56) rfl ?_); refine goesL_ (some 14) rfl rfl Tryz.func56 (by kernel_rfl) rfl #[.slice A160_0 (rd_L2 l0 x3_1).length c160_0] rfl (by (try simp only [List.map_toArray, List.map_cons, List.map_nil]); first | done | rfl | (simp only [List.length_drop, List.length_take]; rfl)) ?_; (with_reducible refine (spec_l02Ok.calls k1 _ _ (rd_L2 l0 x3_1) false _ ?side1 ?side2 A4.out).mono ?_); (case side1 => repeat (first | exact (Kd.C_below HR160_0.out HB.out) | (with_reducible refine Kd.C_alloc ?_ _) | (with_reducible refine Kd.C_drewN ?_ _) | (with_reducible refine Kd.C_drew ?_))); (case side2 => exact HC160_0.out); rintro e w7 ⟨rfl, hb⟩; refine ⟨_, rfl, ?_⟩; have n0_ := Aside0.mk (below_step (by repeat (first | (with_reducible first | exact HB.out | apply below_alloc | apply pw_below_drewN | apply below_drew1) | exact HB.out)) hb); clear HB; have HB := n0_; clear n0_; (try clear hb); (try clear hb2); (try clear hk); (try clear hi)))
      go_ret
      exact ⟨by first | rfl | (simp [errW_none, errW_some] <;> rfl) | (simp [*, errW_none, errW_some] <;> rfl), by repeat (first | (with_reducible first | exact HB.out | apply below_alloc | apply pw_below_drewN | apply below_drew1) | exact HB.out)⟩
    ·rw [if_neg c3] at H
     exact absurd H (by simp)
   ·rw [if_neg c2] at H
    have c2b0 : decide (x3_1 < (l0.length : Int)) = false := decide_eq_false c2
    clear c2
    by_cases c8 : (l0.length : Int) > 6
    ·rw [if_pos c8] at H
     have c8b0 : decide (6 < (l0.length : Int)) = true := decide_eq_true c8
     have c8b1 : decide (6 < l0.length) = true := decide_eq_true (by omega)
     clear c8
     obtain rfl := Option.some.inj H
     go_wp2
     go_ret
     exact ⟨by first | rfl | (simp [errW_none, errW_some] <;> rfl) | (simp [*, errW_none, errW_some] <;> rfl), by repeat (first | (with_reducible first | exact HB.out | apply below_alloc | apply pw_below_drewN | apply below_drew1) | exact HB.out)⟩
    ·rw [if_neg c8] at H
     have c8b0 : decide (6 < (l0.length : Int)) = false := decide_eq_false c8
     have c8b1 : decide (6 < l0.length) = false := decide_eq_false (by omega)
     clear c8
     obtain rfl := Option.some.inj H
     go_wp2
     go_ret
     exact ⟨by first | rfl | (simp [errW_none, errW_some] <;> rfl) | (simp [*, errW_none, errW_some] <;> rfl), by repeat (first | (with_reducible first | exact HB.out | apply below_alloc | apply pw_below_drewN | apply below_drew1) | exact HB.out)⟩
def IsS89 (w0 W : World) (g : Nat) (f0 : List Int) (f1 : Int) (f2 : Int) : Prop := ∃ A0 c0, W.heap[g]? = some (.cells #[.slice A0 f0.length c0, .int .i64 f1, .int .u64 f2] 89 (0, 0)) ∧ w0.heap.size ≤ g ∧ Kd.C (Kd.int .u8) w0 A0 f0.length f0
theorem IsS89.grown {w0 W : World} {g : Nat} {f0 : List Int} {f1 : Int} {f2 : Int} {W1 : World} {row : Option Nat} (h : IsS89 w0 W g f0 f1 f2) (hw : W.grownBy W1 row) (hne : some g ≠ row) : IsS89 w0 W1 g f0 f1 f2 := by
 obtain ⟨A0, c0, hb, hg, hr0⟩ := h
 exact ⟨A0, c0, blk_grown hb hw hne, hg, hr0⟩
theorem IsS89.below {w0 W : World} {g : Nat} {f0 : List Int} {f1 : Int} {f2 : Int} {W1 : World} (h : IsS89 w0 W g f0 f1 f2) (hw : Below W.heap.size W W1) : IsS89 w0 W1 g f0 f1 f2 := h.grown (grown_of_below hw none) (by simp)
theorem IsS89.drewN {w0 W : World} {g : Nat} {f0 : List Int} {f1 : Int} {f2 : Int} (h : IsS89 w0 W g f0 f1 f2) (m : Nat) : IsS89 w0 (W.drewN m) g f0 f1 f2 := h
theorem IsS89.apart {w0 W : World} {g : Nat} {f0 : List Int} {f1 : Int} {f2 : Int} {α : Type} {d : Kd α} {e : Nat} {base : Nat} {ok : Nat → Prop} {v : Value} {xs : List α} (h : IsS89 w0 W g f0 f1 f2) (ho : d.R e W base ok v xs) (ht : ∀ q, q ∈ e :: d.E → q ≠ 89) : d.R e W base (fun k => ok k ∧ k ≠ g) v xs := by
 obtain ⟨A0, c0, hb, hg, hr0⟩ := h
 exact Kd.R_types ho hb ht
theorem IsS89.own_ne {w0 W : World} {g : Nat} {f0 : List Int} {f1 : Int} {f2 : Int} {α : Type} {d : Kd α} {e : Nat} {base : Nat} {ok : Nat → Prop} {v : Value} {xs : List α} (h : IsS89 w0 W g f0 f1 f2) (ho : d.R e W base ok v xs) (ht : e ≠ 89) : some g ≠ v.ownBlock := by
 obtain ⟨A0, c0, hb, hg, hr0⟩ := h
 exact Kd.R_ne ho hb ht
theorem IsS89.ge {w0 W : World} {g : Nat} {f0 : List Int} {f1 : Int} {f2 : Int} (h : IsS89 w0 W g f0 f1 f2) : w0.heap.size ≤ g := by
 obtain ⟨A0, c0, hb, hg, hr0⟩ := h
 exact hg
theorem cellS89_0 {W : World} {g : Nat} {A0 : Option Addr} {c0 : Nat} {f0 : List Int} {f1 : Int} {f2 : Int} (h : W.heap[g]? = some (.cells #[.slice A0 f0.length c0, .int .i64 f1, .int .u64 f2] 89 (0, 0))) : W.cell? ⟨g, 0, none⟩ = some (.slice A0 f0.length c0) := (blk_cell h 0).trans rfl
theorem cellS89_1 {W : World} {g : Nat} {A0 : Option Addr} {c0 : Nat} {f0 : List Int} {f1 : Int} {f2 : Int} (h : W.heap[g]? = some (.cells #[.slice A0 f0.length c0, .int .i64 f1, .int .u64 f2] 89 (0, 0))) : W.cell? ⟨g, 1, none⟩ = some (.int .i64 f1) := (blk_cell h 1).trans rfl
theorem IsS89.set_1 {w0 W : World} {g : Nat} {f0 : List Int} {f1 : Int} {f2 : Int} (h : IsS89 w0 W g f0 f1 f2) (x : Int) : IsS89 w0 (W.setCell ⟨g, 1, none⟩ (.int .i64 x)) g f0 x f2 := by
 obtain ⟨A0, c0, hb, hg, hr0⟩ := h
 exact ⟨A0, c0, by simpa using blk_set hb 1 (.int .i64 x), hg, hr0⟩
theorem cellS89_2 {W : World} {g : Nat} {A0 : Option Addr} {c0 : Nat} {f0 : List Int} {f1 : Int} {f2 : Int} (h : W.heap[g]? = some (.cells #[.slice A0 f0.length c0, .int .i64 f1, .int .u64 f2] 89 (0, 0))) : W.cell? ⟨g, 2, none⟩ = some (.int .u64 f2) := (blk_cell h 2).trans rfl
theorem IsS89.set_2 {w0 W : World} {g : Nat} {f0 : List Int} {f1 : Int} {f2 : Int} (h : IsS89 w0 W g f0 f1 f2) (x : Int) : IsS89 w0 (W.setCell ⟨g, 2, none⟩ (.int .u64 x)) g f0 f1 x := by
 obtain ⟨A0, c0, hb, hg, hr0⟩ := h
 exact ⟨A0, c0, by simpa using blk_set hb 2 (.int .u64 x), hg, hr0⟩
def spec_l00From.f (l0 : List Int) : Option (List Int × Int × Int) := some (l0, 0, 0)
set_option maxHeartbeats 8000000 in
set_option maxRecDepth 100000 in
theorem spec_l00From.calls (A0 : Option Addr) (c0 : Nat) (l0 : List Int) (r1 : List Int) (r2 : Int) (r3 : Int) (w0 w : World) (hB : Below w0.heap.size w0 w) (hr0 : Kd.C (Kd.int .u8) w0 A0 l0.length l0) (hc0 : l0.length ≤ c0) (h : spec_l00From.f l0 = some (r1, r2, r3)) :
  Calls Tryz.prog 21 #[.slice A0 l0.length c0] w fun e w' => ∃ g_ : Nat, e = .returned (.pointer (some ⟨g_, 0, none⟩)) ∧ IsS89 w0 w' g_ r1 r2 r3 ∧ Below w0.heap.size w0 w' ∧ Below w.heap.size w w' := by
 have hu89 := Tryz.underlying89
 have HR0 := Aside0.mk hr0
 have HC0 := Aside0.mk hc0
 clear hr0 hc0
 have HBW := Aside0.mk (Below.refl w.heap.size w)
 have HW0 := Aside0.mk hB.size
 have HB := Aside0.mk hB
 clear hB
 have H : (some (l0, 0, 0)) = some (r1, r2, r3) := h
 clear h
 simp only [Option.some.injEq, Prod.mk.injEq] at H
 obtain ⟨rfl, rfl, rfl⟩ := H
 go_enter Tryz.func21, Tryz.ntmps21
 go_wp2_with (first | ((with_reducible refine gate_dst (N := 5) rfl ?_); refine box_event ?hg (N := 5) ?hd (cs := #[.slice A0 l0.length c0, .int .i64 0, .int .u64 0]) (t := 89) ?hr ?_; (case hd => rfl); (case hg => rfl); (case hr => first | (go_simp; done) | (go_simp; rfl)); intro gb162 hg w2 hbox hb; have n0_ := Aside0.mk (below_step HBW.out hb); have n1_ := Aside0.mk (below_step (by repeat (first | (with_reducible first | exact HB.out | apply below_alloc | apply pw_below_drewN | apply below_drew1) | exact HB.out)) hb); have n2_ := Aside0.mk (hbox); have n3_ := Aside0.mk ((by rw [hg]; exact (below_size (by repeat (first | (with_reducible first | exact HBW.out | apply below_alloc | apply pw_below_drewN | apply below_drew1) | exact HBW.out))) : w.heap.size ≤ gb162)); have n4_ := Aside0.mk ((Nat.le_trans HW0.out (by rw [hg]; exact (below_size (by repeat (first | (with_reducible first | exact HBW.out | apply below_alloc | apply pw_below_drewN | apply below_drew1) | exact HBW.out))) : w.heap.size ≤ gb162) : w0.heap.size ≤ gb162)); clear HBW; clear HB; have HBW := n0_; have HB := n1_; have BK162 := n2_; have GW162 := n3_; have GE162 := n4_; clear n0_ n1_ n2_ n3_ n4_; clear hb hbox hg))
 go_ret
 exact ⟨_, rfl, (show IsS89 w0 _ gb162 l0 0 0 from ⟨_, _, by (with_reducible repeat (first | refine blk_drewN ?_ _ | refine blk_drew ?_ | refine blk_alloc ?_ _)); exact BK162.out, GE162.out, HR0.out⟩), by repeat (first | (with_reducible first | exact HB.out | apply below_alloc | apply pw_below_drewN | apply below_drew1 | refine below_set ?_ GE162.out) | exact HB.out), by repeat (first | (with_reducible first | exact HBW.out | apply below_alloc | apply pw_below_drewN | apply below_drew1 | refine below_set ?_ GW162.out) | exact HBW.out)⟩
end Go.Proofs.YthaoopbfggnceaaGreatDoor.L
namespace Go.Proofs.YthaoopbfggnceaaGreatDoor.Arr
open Go.RowKit Go.Proofs.YthaoopbfggnceaaGreatDoor.L Go.Proofs.YthaoopbfggnceaaGreatDoor.U Go.Proofs.YthaoopbfggnceaaGreatDoorW.PrintLast Go.Proofs.YthaoopbfggnceaaGreatDoorW.PrintWords
set_option linter.unusedVariables false
set_option linter.unusedSimpArgs false
def stepH (st : List Int × Nat) (x : Int) : Option (List Int × Nat) :=
 if x = -10 then (if st.2 = st.1.length then none else some (st.1 ++ [x], st.1.length + 1))
 else if 0 ≤ x ∧ x ≤ 39 then some (st.1 ++ [x], st.2)
 else if -4 ≤ x ∧ x ≤ -1 then (if (st.2 : Int) + -x - 1 < st.1.length then some (st.1 ++ [rd st.1 ((st.2 : Int) + -x - 1)], st.2) else none)
 else none
def runH (h : List Int) : Nat → Option (List Int × Nat)
 | 0 => some ([], 0)
 | i + 1 => (runH h i).bind fun st => stepH st (rd h (i : Int))
def readH (h : List Int) : Option (List Int) :=
 if 1 ≤ h.length ∧ h.length ≤ 8 then (match runH h h.length with | some (o, s) => if s < o.length then some o else none | none => none) else none
def okH (h : List Int) : Bool := (readH h).isSome
theorem runH_none {h : List Int} {i : Nat} (hi : runH h i = none) : ∀ n, i ≤ n → runH h n = none
 | 0, hn => by obtain rfl : i = 0 := by omega
               exact hi
 | n + 1, hn => by
  rcases Nat.lt_or_ge i (n + 1) with h1 | h1
  ·rw [runH, runH_none hi n (by omega)]; rfl
  ·obtain rfl : i = n + 1 := by omega
   exact hi
structure GoodH (h : List Int) (i : Nat) (o : List Int) (s : Nat) : Prop where
 len : o.length = i
 le : s ≤ i
 kind : ∀ j : Nat, s ≤ j → j < i → 0 ≤ rd o (j : Int) ∧ rd o (j : Int) ≤ 39
 old : ∀ j : Nat, j < i → rd h (j : Int) = -10 ∨ (0 ≤ rd h (j : Int) ∧ rd h (j : Int) ≤ 39) ∨ (-4 ≤ rd h (j : Int) ∧ rd h (j : Int) ≤ -1)
theorem rd_app_left (l m : List Int) (j : Nat) (hj : j < l.length) : rd (l ++ m) (j : Int) = rd l (j : Int) := by
 rw [rd_get l j hj, rd_get _ j (by simp; omega), List.getElem_append_left hj]
theorem rd_app_end (l : List Int) (x : Int) : rd (l ++ [x]) (l.length : Int) = x := by
 rw [rd_get _ l.length (by simp)]
 simp
theorem runH_good {h : List Int} : ∀ (i : Nat) (o : List Int) (s : Nat), runH h i = some (o, s) → GoodH h i o s
 | 0, o, s, e => by
  simp only [runH, Option.some.injEq, Prod.mk.injEq] at e
  obtain ⟨rfl, rfl⟩ := e
  exact ⟨rfl, Nat.le_refl _, fun j _ hj => absurd hj (by omega), fun j hj => absurd hj (by omega)⟩
 | i + 1, o, s, e => by
  rw [runH] at e
  cases hr : runH h i with
  | none => rw [hr] at e; cases e
  | some st =>
   obtain ⟨o1, s1⟩ := st
   rw [hr, Option.bind_some] at e
   have g := runH_good i o1 s1 hr
   unfold stepH at e
   dsimp only at e
   have app : ∀ y : Int, GoodH h i o1 s1 → 0 ≤ y ∧ y ≤ 39 → (rd h (i : Int) = -10 ∨ (0 ≤ rd h (i : Int) ∧ rd h (i : Int) ≤ 39) ∨ (-4 ≤ rd h (i : Int) ∧ rd h (i : Int) ≤ -1)) → GoodH h (i + 1) (o1 ++ [y]) s1 := fun y g hy ho =>
    ⟨by simp [g.len], by have := g.le; omega, fun j h1 h2 => by
     rcases Nat.lt_or_ge j i with hj | hj
     ·rw [rd_app_left _ _ j (by rw [g.len]; exact hj)]; exact g.kind j h1 hj
     ·obtain rfl : j = o1.length := by rw [g.len]; omega
      rw [rd_app_end]; exact hy, fun j hj => by
     rcases Nat.lt_or_ge j i with h3 | h3
     ·exact g.old j h3
     ·obtain rfl : j = i := by omega
      exact ho⟩
   split at e
   ·rename_i hx
    split at e
    ·cases e
    ·simp only [Option.some.injEq, Prod.mk.injEq] at e
     obtain ⟨rfl, rfl⟩ := e
     exact ⟨by simp [g.len], by rw [g.len]; exact Nat.le_refl _, fun j h1 h2 => by rw [g.len] at h1; omega, fun j hj => by
      rcases Nat.lt_or_ge j i with h3 | h3
      ·exact g.old j h3
      ·obtain rfl : j = i := by omega
       exact Or.inl hx⟩
   ·split at e
    ·rename_i hx
     simp only [Option.some.injEq, Prod.mk.injEq] at e
     obtain ⟨rfl, rfl⟩ := e
     exact app _ g hx (Or.inr (Or.inl hx))
    ·split at e
     ·rename_i hx
      split at e
      ·rename_i hat
       simp only [Option.some.injEq, Prod.mk.injEq] at e
       obtain ⟨rfl, rfl⟩ := e
       have hk := g.kind ((s1 : Int) + -rd h (i : Int) - 1).toNat (by omega) (by have := g.len; omega)
       rw [Int.toNat_of_nonneg (by omega)] at hk
       exact app _ g hk (Or.inr (Or.inr hx))
      ·cases e
     ·cases e
theorem okH_len {h : List Int} (hk : okH h = true) : 1 ≤ h.length ∧ h.length ≤ 8 := by
 unfold okH readH at hk
 split at hk
 ·assumption
 ·cases hk
theorem okH_num {h : List Int} (hk : okH h = true) : ∀ x ∈ h, x = -10 ∨ (0 ≤ x ∧ x ≤ 39) ∨ (-4 ≤ x ∧ x ≤ -1) := by
 intro x hx
 obtain ⟨j, hj, rfl⟩ := List.getElem_of_mem hx
 unfold okH readH at hk
 split at hk
 ·cases hr : runH h h.length with
  | none => rw [hr] at hk; cases hk
  | some st =>
   obtain ⟨o, s⟩ := st
   have := (runH_good _ _ _ hr).old j hj
   rwa [rd_get h j hj] at this
 ·cases hk
theorem in_ev' (a b c : Int) : spec_l00In.f a b c = some (decide (b ≤ a ∧ a ≤ c)) := by
 unfold spec_l00In.f
 by_cases h : b ≤ a
 ·rw [if_pos h]; simp [h]
 ·rw [if_neg h, decide_eq_false (fun e => h e.1)]
theorem within_ev' (a b c : Int) : impl_within.f a b c = some (decide (b ≤ a ∧ a ≤ c)) := by
 unfold impl_within.f
 by_cases h : b ≤ a
 ·rw [if_pos h]; simp [h]
 ·rw [if_neg h, decide_eq_false (fun e => h e.1)]
theorem isKind_ev' (a : Int) (h0 : -128 ≤ a) (h1 : a ≤ 127) : impl_isKind.f a = some (decide (0 ≤ a ∧ a ≤ 39)) := by
 unfold impl_isKind.f
 rw [within_ev', w64 (by omega) (by omega)]; rfl
theorem i8w {x : Int} (h0 : -128 ≤ x) (h1 : x ≤ 127) : IntKind.i8.wrap x = x := by
 unfold IntKind.wrap
 simp only [IntKind.signed, IntKind.bits]
 simp
 omega
theorem readH_none {h : List Int} {i : Nat} (hi : i ≤ h.length) (hr : runH h i = none) : readH h = none := by
 unfold readH
 rw [runH_none hr h.length hi]
 split <;> rfl
theorem l02Read_ev (h : List Int) (hn : h.length ≤ 100000000) (hb : ∀ x ∈ h, -128 ≤ x ∧ x ≤ 127) : Ev (fun k => spec_l02Read.f k h) (match readH h with | some o => (o, true) | none => ([], false)) := by
 unfold spec_l02Read.f
 refine bindc (in_ev' _ _ _) ?_
 by_cases hl : 1 ≤ h.length ∧ h.length ≤ 8
 ·refine pos (by simpa using (show 1 ≤ (h.length : Int) ∧ (h.length : Int) ≤ 8 by omega)) ?_
  refine iter (F := fun k (s : List Int × Int × Int) => spec_l02Read.l0 k h (h.length : Int) s.1 s.2.1 s.2.2) (fun i s => ∃ st : Nat, s = (s.1, (st : Int), (i : Int)) ∧ runH h i = some (s.1, st) ∧ (i = h.length → st < i)) _ h.length ?_ ?_ 0 ([], 0, 0) (by omega) ⟨0, rfl, rfl, fun e => by omega⟩
  ·rintro i ⟨o, a, b⟩ hi ⟨st, e, hr, hlast⟩
   injection e with _ e
   injection e with e1 e2
   subst e1 e2
   dsimp only at hr
   have g := runH_good _ _ _ hr
   have hgl := g.len
   have hgs := g.le
   have hx := hb _ (by rw [rd_get h i hi]; exact List.getElem_mem hi : rd h (i : Int) ∈ h)
   have hnext : runH h (i + 1) = stepH (o, st) (rd h (i : Int)) := by rw [runH, hr]; rfl
   dsimp only at hnext ⊢
   generalize hX : rd h (i : Int) = x at *
   have fail : stepH (o, st) x = none → readH h = none := fun e => readH_none (i := i + 1) (by omega) (hnext.trans e)
   by_cases h10 : x = -10
   ·by_cases hst : (i : Int) = (st : Int)
    ·refine .inr (Ev.step (f := fun _ => some ([], false)) (fun k => ?_) (cons ?_))
     ·simp only [spec_l02Read.l0, hX]
      rw [if_pos (by omega), if_pos (by omega), if_pos (by omega), if_pos h10, if_pos hst]
     ·rw [fail (by unfold stepH; rw [if_pos h10, if_pos (by dsimp only; omega)])]
    ·by_cases hla : i + 1 = h.length
     ·refine .inr (Ev.step (f := fun _ => some ([], false)) (fun k => ?_) (cons ?_))
      ·simp only [spec_l02Read.l0, hX]
       rw [if_pos (by omega), if_pos (by omega), if_pos (by omega), if_pos h10, if_neg hst, w64 (by omega) (by omega), if_pos (by omega)]
      ·have : readH h = none := by
        unfold readH
        rw [if_pos hl, ← hla, hnext]
        unfold stepH
        rw [if_pos h10, if_neg (by dsimp only; omega)]
        simp
       rw [this]
     ·refine .inl ⟨(o ++ [x], ((o.length + 1 : Nat) : Int), ((i + 1 : Nat) : Int)), ⟨o.length + 1, rfl, by rw [hnext]; unfold stepH; rw [if_pos h10, if_neg (by dsimp only; omega)], fun e => by omega⟩, Ev.step fun k => ?_⟩
      simp only [spec_l02Read.l0, hX]
      rw [if_pos (by omega), if_pos (by omega), if_pos (by omega), if_pos h10, if_neg hst, w64 (by omega) (by omega), if_neg (by omega), if_pos (by omega), w64 (by omega) (by omega)]
      rw [show ((o.length + 1 : Nat) : Int) = (i : Int) + 1 by omega, show ((i + 1 : Nat) : Int) = (i : Int) + 1 by omega]
   ·by_cases hk : 0 ≤ x ∧ x ≤ 39
    ·refine .inl ⟨(o ++ [x], (st : Int), ((i + 1 : Nat) : Int)), ⟨st, rfl, by rw [hnext]; unfold stepH; rw [if_neg h10, if_pos hk], fun e => by omega⟩, fun hgo => ?_⟩
     refine Ev.step (f := fun k => spec_l02Read.j1 k h (h.length : Int) o (st : Int) (i : Int) x true) (fun k => ?_) ?_
     ·simp only [spec_l02Read.l0, hX]
      rw [if_pos (by omega), if_pos (by omega), if_pos (by omega), if_neg h10, if_pos (by omega), decide_eq_true (by omega)]
     ·refine Ev.step (fun k => ?_) hgo
      simp only [spec_l02Read.j1]
      rw [if_pos trivial, if_pos (by omega), w64 (by omega) (by omega), show ((i + 1 : Nat) : Int) = (i : Int) + 1 by omega]
    ·by_cases hs : -4 ≤ x ∧ x ≤ -1
     ·have hw : wrap64 (wrap64 ((st : Int) + wrap64 (IntKind.i8.wrap (-x))) - 1) = (st : Int) + -x - 1 := by
       rw [i8w (by omega) (by omega), w64 (x := -x) (by omega) (by omega), w64 (x := (st : Int) + -x) (by omega) (by omega), w64 (by omega) (by omega)]
      by_cases hat : (st : Int) + -x - 1 < o.length
      ·refine .inl ⟨(o ++ [rd o ((st : Int) + -x - 1)], (st : Int), ((i + 1 : Nat) : Int)), ⟨st, rfl, by rw [hnext]; unfold stepH; rw [if_neg h10, if_neg hk, if_pos hs, if_pos hat], fun e => by omega⟩, fun hgo => ?_⟩
       refine Ev.step (f := fun k => spec_l02Read.j1 k h (h.length : Int) o (st : Int) (i : Int) x false) (fun k => ?_) ?_
       ·simp only [spec_l02Read.l0, hX]
        rw [if_pos (by omega), if_pos (by omega), if_pos (by omega), if_neg h10, if_neg (by omega)]
       ·refine Ev.step (f := fun k => spec_l02Read.j2 k h (h.length : Int) o (st : Int) (i : Int) x true) (fun k => ?_) ?_
        ·simp only [spec_l02Read.j1]
         rw [if_neg (by simp), if_pos (by omega), decide_eq_true (by omega)]
        ·refine Ev.step (fun k => ?_) hgo
         simp only [spec_l02Read.j2, hw]
         rw [if_pos trivial, if_neg (by omega), if_pos (by omega), if_pos hat, if_pos (by omega), w64 (by omega) (by omega), show ((i + 1 : Nat) : Int) = (i : Int) + 1 by omega]
      ·refine .inr ?_
       rw [fail (by unfold stepH; rw [if_neg h10, if_neg hk, if_pos hs, if_neg hat])]
       refine Ev.step (f := fun k => spec_l02Read.j1 k h (h.length : Int) o (st : Int) (i : Int) x false) (fun k => ?_) ?_
       ·simp only [spec_l02Read.l0, hX]
        rw [if_pos (by omega), if_pos (by omega), if_pos (by omega), if_neg h10, if_neg (by omega)]
       ·refine Ev.step (f := fun k => spec_l02Read.j2 k h (h.length : Int) o (st : Int) (i : Int) x true) (fun k => ?_) ?_
        ·simp only [spec_l02Read.j1]
         rw [if_neg (by simp), if_pos (by omega), decide_eq_true (by omega)]
        ·refine Ev.step (f := fun _ => some ([], false)) (fun k => ?_) (Ev.now _)
         simp only [spec_l02Read.j2, hw]
         rw [if_pos trivial, if_pos (by omega)]
     ·refine .inr ?_
      rw [fail (by unfold stepH; rw [if_neg h10, if_neg hk, if_neg hs])]
      refine Ev.step (f := fun k => spec_l02Read.j1 k h (h.length : Int) o (st : Int) (i : Int) x false) (fun k => ?_) ?_
      ·simp only [spec_l02Read.l0, hX]
       rw [if_pos (by omega), if_pos (by omega), if_pos (by omega), if_neg h10]
       by_cases h0 : 0 ≤ x
       ·rw [if_pos h0, decide_eq_false (by omega)]
       ·rw [if_neg (by omega)]
      ·refine Ev.step (f := fun k => spec_l02Read.j2 k h (h.length : Int) o (st : Int) (i : Int) x false) (fun k => ?_) ?_
       ·simp only [spec_l02Read.j1]
        rw [if_neg (by simp)]
        by_cases h0 : x < 0
        ·rw [if_pos h0, decide_eq_false (by omega)]
        ·rw [if_neg h0]
       ·refine Ev.step (f := fun _ => some ([], false)) (fun k => ?_) (Ev.now _)
        simp only [spec_l02Read.j2]
        rw [if_neg (by simp)]
  ·rintro ⟨o, a, b⟩ ⟨st, e, hr, hlast⟩
   injection e with _ e
   injection e with e1 e2
   subst e1 e2
   dsimp only at hr
   have g := runH_good _ _ _ hr
   have hgl := g.len
   have hst := hlast rfl
   refine Ev.step (f := fun _ => some (o, true)) (fun k => ?_) (cons ?_)
   ·simp only [spec_l02Read.l0]
    rw [if_neg (by omega)]
   ·have : readH h = some o := by
     unfold readH
     rw [if_pos hl, hr]
     dsimp only
     rw [if_pos (by omega)]
    rw [this]
 ·refine neg (by simpa using (show ¬ (1 ≤ (h.length : Int) ∧ (h.length : Int) ≤ 8) by omega)) (cons ?_)
  unfold readH
  rw [if_neg hl]
theorem okH_none {h : List Int} {i : Nat} (hi : i ≤ h.length) (hr : runH h i = none) : okH h = false := by
 unfold okH; rw [readH_none hi hr]; rfl
def implRead (h : List Int) : List Int × Bool := match runH h h.length with | some (o, _) => (o, okH h) | none => ([], false)
theorem implRead_snd (h : List Int) : (implRead h).2 = okH h := by
 unfold implRead
 cases hr : runH h h.length with
 | none => exact (okH_none (Nat.le_refl _) hr).symm
 | some st => rfl
theorem meaning_ev (h : List Int) (hn : h.length ≤ 100000000) (hb : ∀ x ∈ h, -128 ≤ x ∧ x ≤ 127) : Ev (fun k => impl_Hoist_meaning.f k h) (implRead h) := by
 unfold impl_Hoist_meaning.f
 refine iter (F := fun k (s : List Int × Int × Int) => impl_Hoist_meaning.l0 k h s.1 s.2.1 h (h.length : Int) s.2.2) (fun i s => ∃ st : Nat, s = (s.1, (st : Int), (i : Int)) ∧ runH h i = some (s.1, st)) _ h.length ?_ ?_ 0 ([], 0, 0) (by omega) ⟨0, rfl, rfl⟩
 ·rintro i ⟨o, a, b⟩ hi ⟨st, e, hr⟩
  injection e with _ e
  injection e with e1 e2
  subst e1 e2
  dsimp only at hr
  have g := runH_good _ _ _ hr
  have hgl := g.len
  have hgs := g.le
  have hx := hb _ (by rw [rd_get h i hi]; exact List.getElem_mem hi : rd h (i : Int) ∈ h)
  have hnext : runH h (i + 1) = stepH (o, st) (rd h (i : Int)) := by rw [runH, hr]; rfl
  dsimp only at hnext ⊢
  generalize hX : rd h (i : Int) = x at *
  have fail : stepH (o, st) x = none → implRead h = ([], false) := fun e => by
   unfold implRead
   rw [runH_none (hnext.trans e) h.length (by omega)]
  by_cases h10 : x = -10
  ·by_cases hst : (st : Int) = (o.length : Int)
   ·refine .inr (Ev.step (f := fun _ => some ([], false)) (fun k => ?_) (cons ?_))
    ·simp only [impl_Hoist_meaning.l0, hX]
     rw [if_pos (by omega), if_pos (by omega), if_pos (by omega), if_pos h10, if_pos hst]
    ·rw [fail (by unfold stepH; rw [if_pos h10, if_pos (by dsimp only; omega)])]
   ·refine .inl ⟨(o ++ [x], ((o.length + 1 : Nat) : Int), ((i + 1 : Nat) : Int)), ⟨o.length + 1, rfl, by rw [hnext]; unfold stepH; rw [if_pos h10, if_neg (by dsimp only; omega)]⟩, Ev.step fun k => ?_⟩
    simp only [impl_Hoist_meaning.l0, hX]
    rw [if_pos (by omega), if_pos (by omega), if_pos (by omega), if_pos h10, if_neg hst, if_pos (by omega), w64 (by omega) (by omega)]
    simp only [Option.bind_some]
    rw [show ((i + 1 : Nat) : Int) = (i : Int) + 1 by omega, show ((o ++ [x]).length : Int) = ((o.length + 1 : Nat) : Int) by simp]
  ·by_cases hs : -4 ≤ x ∧ x ≤ -1
   ·have hk : ¬ (0 ≤ x ∧ x ≤ 39) := by omega
    have hw : wrap64 (wrap64 ((st : Int) - wrap64 x) - 1) = (st : Int) + -x - 1 := by
     rw [w64 (x := x) (by omega) (by omega), w64 (x := (st : Int) - x) (by omega) (by omega), w64 (by omega) (by omega)]; omega
    have hl0 : ∀ k, impl_Hoist_meaning.l0 (k + 1) h o (st : Int) h (h.length : Int) (i : Int) = impl_Hoist_meaning.j1 k h o (st : Int) x ((st : Int) + -x - 1) h (h.length : Int) (i : Int) (decide ((st : Int) + -x - 1 < o.length)) := fun k => by
     simp only [impl_Hoist_meaning.l0, hX, hw]
     rw [if_pos (by omega), if_pos (by omega), if_pos (by omega), if_neg h10, w64 (x := x) (by omega) (by omega), within_ev', decide_eq_true hs]
     rfl
    by_cases hat : (st : Int) + -x - 1 < o.length
    ·have hkind := g.kind ((st : Int) + -x - 1).toNat (by omega) (by omega)
     rw [Int.toNat_of_nonneg (by omega)] at hkind
     refine .inl ⟨(o ++ [rd o ((st : Int) + -x - 1)], (st : Int), ((i + 1 : Nat) : Int)), ⟨st, rfl, by rw [hnext]; unfold stepH; rw [if_neg h10, if_neg hk, if_pos hs, if_pos hat]⟩, fun hgo => ?_⟩
     refine Ev.step hl0 (Ev.step (fun k => ?_) hgo)
     simp only [impl_Hoist_meaning.j1]
     rw [if_pos (by simpa using hat), if_pos (by omega), if_pos hat, isKind_ev' _ (by omega) (by omega), decide_eq_true hkind]
     simp only [Option.bind_some]
     rw [if_pos trivial, if_pos (by omega), w64 (by omega) (by omega), show ((i + 1 : Nat) : Int) = (i : Int) + 1 by omega]
    ·refine .inr ?_
     rw [fail (by unfold stepH; rw [if_neg h10, if_neg hk, if_pos hs, if_neg hat])]
     refine Ev.step hl0 (Ev.step (f := fun _ => some ([], false)) (fun k => ?_) (Ev.now _))
     simp only [impl_Hoist_meaning.j1]
     rw [if_neg (by simpa using hat), isKind_ev' _ (by omega) (by omega), decide_eq_false hk]
     rfl
   ·have hl0 : ∀ k, impl_Hoist_meaning.l0 (k + 1) h o (st : Int) h (h.length : Int) (i : Int) = impl_Hoist_meaning.j1 k h o (st : Int) x (wrap64 (wrap64 ((st : Int) - wrap64 x) - 1)) h (h.length : Int) (i : Int) false := fun k => by
     simp only [impl_Hoist_meaning.l0, hX]
     rw [if_pos (by omega), if_pos (by omega), if_pos (by omega), if_neg h10, within_ev', decide_eq_false (by rw [w64 (by omega) (by omega)]; exact hs)]
     rfl
    by_cases hk : 0 ≤ x ∧ x ≤ 39
    ·refine .inl ⟨(o ++ [x], (st : Int), ((i + 1 : Nat) : Int)), ⟨st, rfl, by rw [hnext]; unfold stepH; rw [if_neg h10, if_pos hk]⟩, fun hgo => ?_⟩
     refine Ev.step hl0 (Ev.step (fun k => ?_) hgo)
     simp only [impl_Hoist_meaning.j1]
     rw [if_neg (by simp), isKind_ev' _ (by omega) (by omega), decide_eq_true hk]
     simp only [Option.bind_some]
     rw [if_pos trivial, if_pos (by omega), w64 (by omega) (by omega), show ((i + 1 : Nat) : Int) = (i : Int) + 1 by omega]
    ·refine .inr ?_
     rw [fail (by unfold stepH; rw [if_neg h10, if_neg hk, if_neg hs])]
     refine Ev.step hl0 (Ev.step (f := fun _ => some ([], false)) (fun k => ?_) (Ev.now _))
     simp only [impl_Hoist_meaning.j1]
     rw [if_neg (by simp), isKind_ev' _ (by omega) (by omega), decide_eq_false hk]
     rfl
 ·rintro ⟨o, a, b⟩ ⟨st, e, hr⟩
  injection e with _ e
  injection e with e1 e2
  subst e1 e2
  dsimp only at hr
  have g := runH_good _ _ _ hr
  have hgl := g.len
  refine Ev.step (f := fun _ => some (implRead h)) (fun k => ?_) (Ev.now _)
  simp only [impl_Hoist_meaning.l0]
  rw [if_neg (by omega)]
  unfold impl_size_int8.f
  simp only [Option.bind_some, within_ev']
  unfold implRead okH readH
  rw [hr]
  dsimp only
  by_cases hl : 1 ≤ h.length ∧ h.length ≤ 8
  ·rw [if_pos (by simpa using (show 1 ≤ (h.length : Int) ∧ (h.length : Int) ≤ 8 by omega)), if_pos hl]
   by_cases h2 : st < o.length
   ·rw [if_pos h2, decide_eq_true (by omega)]; rfl
   ·rw [if_neg h2, decide_eq_false (by omega)]; rfl
  ·rw [if_neg (by simpa using (show ¬ (1 ≤ (h.length : Int) ∧ (h.length : Int) ≤ 8) by omega)), if_neg hl]; rfl
end Go.Proofs.YthaoopbfggnceaaGreatDoor.Arr
namespace Go.Proofs.YthaoopbfggnceaaGreatDoor.Arr
open Go.RowKit Go.Proofs.YthaoopbfggnceaaGreatDoorW.PrintWords Go.Proofs.YthaoopbfggnceaaGreatDoor.U
set_option maxRecDepth 100000
theorem agg25 : AggTy Tryz.prog 25 40 := ⟨by kernel_rfl, by kernel_rfl⟩
theorem arr25 : ArrTy Tryz.prog 25 40 := ⟨_, Tryz.underlying25, by kernel_rfl, by kernel_rfl⟩
theorem agg26 : AggTy Tryz.prog 26 4 := ⟨by kernel_rfl, by kernel_rfl⟩
theorem arr26 : ArrTy Tryz.prog 26 4 := ⟨_, Tryz.underlying26, by kernel_rfl, by kernel_rfl⟩
theorem agg28 : AggTy Tryz.prog 28 44 := ⟨by kernel_rfl, by kernel_rfl⟩
theorem zero28 : ZeroTy Tryz.prog 28 (vals .i16 (zs 44)) := ⟨.agg (vals .i16 (zs 44)), by kernel_rfl, rfl⟩
theorem built28 : Tryz.prog.built 28 [] = some (vals .i16 (zs 44)) := by kernel_rfl
theorem field28_0 : FieldTy Tryz.prog 28 0 0 := by unfold FieldTy; kernel_rfl
theorem field28_1 : FieldTy Tryz.prog 28 1 40 := by unfold FieldTy; kernel_rfl
theorem agg52 : AggTy Tryz.prog 52 40 := ⟨by kernel_rfl, by kernel_rfl⟩
theorem arr52 : ArrTy Tryz.prog 52 40 := ⟨_, Tryz.underlying52, by kernel_rfl, by kernel_rfl⟩
theorem agg53 : AggTy Tryz.prog 53 4 := ⟨by kernel_rfl, by kernel_rfl⟩
theorem arr53 : ArrTy Tryz.prog 53 4 := ⟨_, Tryz.underlying53, by kernel_rfl, by kernel_rfl⟩
theorem agg55 : AggTy Tryz.prog 55 44 := ⟨by kernel_rfl, by kernel_rfl⟩
theorem zero55 : ZeroTy Tryz.prog 55 (vals .i64 (zs 44)) := ⟨.agg (vals .i64 (zs 44)), by kernel_rfl, rfl⟩
theorem built55 : Tryz.prog.built 55 [] = some (vals .i64 (zs 44)) := by kernel_rfl
theorem field55_0 : FieldTy Tryz.prog 55 0 0 := by unfold FieldTy; kernel_rfl
theorem field55_1 : FieldTy Tryz.prog 55 1 40 := by unfold FieldTy; kernel_rfl
theorem one2 : OneTy Tryz.prog 2 := ⟨by kernel_rfl, by kernel_rfl⟩
theorem zero2 : ZeroTy Tryz.prog 2 (vals .i64 [0]) := ⟨.int .i64 0, by kernel_rfl, rfl⟩
theorem one3 : OneTy Tryz.prog 3 := ⟨by kernel_rfl, by kernel_rfl⟩
theorem one24 : OneTy Tryz.prog 24 := ⟨by kernel_rfl, by kernel_rfl⟩
end Go.Proofs.YthaoopbfggnceaaGreatDoor.Arr
namespace Go.Proofs.YthaoopbfggnceaaGreatDoor.Arr
open Go.RowKit Go.Proofs.YthaoopbfggnceaaGreatDoorW.PrintWords Go.Proofs.YthaoopbfggnceaaGreatDoorW.PrintLast Go.Proofs.YthaoopbfggnceaaGreatDoorW.PrintMore Go.Proofs.YthaoopbfggnceaaGreatDoor.U Go.Proofs.YthaoopbfggnceaaGreatDoor.L
set_option linter.unusedVariables false
set_option linter.unusedSimpArgs false
def mixTo (L S : List Int) (off n : Nat) : List Int := L.take off ++ S.take n ++ L.drop (off + n)
theorem mixTo_zero (L S : List Int) (off : Nat) : mixTo L S off 0 = L := by simp [mixTo]
theorem mixTo_length (L S : List Int) (off n : Nat) (h : off + n ≤ L.length) (hn : n ≤ S.length) : (mixTo L S off n).length = L.length := by
 simp [mixTo]; omega
theorem mixTo_succ (L S : List Int) (off n : Nat) (h : off + n < L.length) (hn : n < S.length) : (mixTo L S off n).set (off + n) (rd S n) = mixTo L S off (n + 1) := by
 unfold mixTo
 rw [rd_get S n hn]
 apply List.ext_getElem?
 intro j
 simp only [List.getElem?_set, List.getElem?_append, List.length_append, List.length_take, List.getElem?_take, List.getElem?_drop, List.length_drop]
 repeat' split
 all_goals first | rfl | omega | (congr 1; omega) | (rw [← List.getElem?_eq_getElem hn]; congr 1; omega) | (rw [List.getElem?_eq_none (by omega)]; symm; apply List.getElem?_eq_none; omega)
theorem rd_map (f : Int → Int) (L : List Int) (i : Nat) (h : i < L.length) : rd (L.map f) (i : Int) = f (rd L (i : Int)) := by
 rw [rd_get L i h, rd_get _ i (by simpa using h)]; simp
theorem rd_take (L : List Int) (i n : Nat) (h : i < n) (hl : i < L.length) : rd (L.take n) (i : Int) = rd L (i : Int) := by
 rw [rd_get L i hl, rd_get _ i (by simp; omega)]; simp
theorem rd_drop (L : List Int) (i n : Nat) (hl : n + i < L.length) : rd (L.drop n) (i : Int) = rd L ((n + i : Nat) : Int) := by
 rw [rd_get L _ hl, rd_get _ i (by simp; omega)]; simp
theorem halves (L : List Int) (h : L.length = 44) : L = (L.drop 0).take 40 ++ (L.drop 40).take 4 := by
 rw [List.drop_zero, List.take_of_length_le (l := L.drop 40) (by simp [h]), List.take_append_drop]
theorem list_eq {L L' : List Int} {n : Nat} (h1 : L.length = n) (h2 : L'.length = n) (h : ∀ j : Nat, j < n → rd L (j : Int) = rd L' (j : Int)) : L = L' :=
 toList h1 h2 fun j hj => rd_opt (by omega) (by omega) (h j hj)
theorem in_calls (a lo hi : Int) (w : World) : Calls Tryz.prog 58 #[.int .i64 a, .int .i64 lo, .int .i64 hi] w fun e w' => e = .returned (.bool (decide (lo ≤ a ∧ a ≤ hi))) ∧ Below w.heap.size w w' := by
 refine (spec_l00In.calls a lo hi (decide (lo ≤ a ∧ a ≤ hi)) w ?_).mono ?_
 ·unfold spec_l00In.f
  by_cases h : lo ≤ a <;> simp [h]
 ·rintro e w' ⟨rfl, hb⟩; exact ⟨rfl, hb.below⟩
theorem within_calls (a lo hi : Int) (w : World) : Calls Tryz.prog 33 #[.int .i64 a, .int .i64 lo, .int .i64 hi] w fun e w' => e = .returned (.bool (decide (lo ≤ a ∧ a ≤ hi))) ∧ Below w.heap.size w w' := by
 refine (impl_within.calls a lo hi (decide (lo ≤ a ∧ a ≤ hi)) w ?_).mono ?_
 ·unfold impl_within.f
  by_cases h : lo ≤ a <;> simp [h]
 ·rintro e w' ⟨rfl, hb⟩; exact ⟨rfl, hb.below⟩
end Go.Proofs.YthaoopbfggnceaaGreatDoor.Arr
namespace Go.Proofs.YthaoopbfggnceaaGreatDoor.Arr
open Go.RowKit Go.Proofs.YthaoopbfggnceaaGreatDoorW.PrintWords Go.Proofs.YthaoopbfggnceaaGreatDoorW.PrintLast Go.Proofs.YthaoopbfggnceaaGreatDoorW.PrintMore Go.Proofs.YthaoopbfggnceaaGreatDoor.U
set_option linter.unusedVariables false
set_option linter.unusedSimpArgs false
def ixa {α : Type} (p : α → Bool) (l : List α) : Int := match l.findIdx? p with | some i => (i : Int) | none => -1
theorem ixa_found {α : Type} (p : α → Bool) (l : List α) (i : Nat) (x : α) (hi : l[i]? = some x) (h : ∀ j, j < i → ∀ y, l[j]? = some y → p y = false) (hp : p x = true) : ixa p l = i := by
 unfold ixa
 have hl := (List.getElem?_eq_some_iff.1 hi).1
 have hx := (List.getElem?_eq_some_iff.1 hi).2
 have : l.findIdx? p = some i := by
  rw [List.findIdx?_eq_some_iff_getElem]
  refine ⟨hl, by rw [hx]; exact hp, fun j hj => ?_⟩
  simp [h j hj _ (List.getElem?_eq_getElem (by omega))]
 rw [this]
theorem ixa_none {α : Type} (p : α → Bool) (l : List α) (h : ∀ j, j < l.length → ∀ y, l[j]? = some y → p y = false) : ixa p l = -1 := by
 unfold ixa
 have : l.findIdx? p = none := by
  rw [List.findIdx?_eq_none_iff]
  intro x hx
  obtain ⟨j, hj, rfl⟩ := List.getElem_of_mem hx
  exact h j hj _ (List.getElem?_eq_getElem hj)
 rw [this]
theorem ixa_any {α : Type} (p : α → Bool) (l : List α) : decide (0 ≤ ixa p l) = l.any p := by
 unfold ixa
 cases h : l.findIdx? p with
 | none =>
  rw [List.findIdx?_eq_none_iff] at h
  have : l.any p = false := by rw [List.any_eq_false]; intro x hx; simp [h x hx]
  rw [this]; rfl
 | some i =>
  rw [List.findIdx?_eq_some_iff_getElem] at h
  obtain ⟨hi, hp, _⟩ := h
  have : l.any p = true := List.any_eq_true.2 ⟨_, List.getElem_mem hi, hp⟩
  rw [this]; simp
theorem at_scalar {α : Type} {enc : α → Value} {h1 : ∀ x, (enc x).oneCell' = true} {w : World} {A : Option Addr} {n : Nat} {xs : List α} (h : Kd.C (Kd.scalar enc h1) w A n xs) (i : Nat) (x : α) (hx : xs[i]? = some x) (hi : i < n) :
  ∃ ad, A = some ad ∧ w.cell? (ad.add i) = some (enc x) := by
 obtain ⟨ad, c, e, _, hK, hc⟩ := Kd.C_get h x (i : Int) (by omega) (by omega)
 refine ⟨ad, e, ?_⟩
 rw [Int.toNat_natCast, List.getD_eq_getElem?_getD, hx] at hK
 have hK' : c = [enc x] := hK
 have := hc 0 (enc x) (by rw [hK']; rfl)
 rwa [Int.toNat_natCast, Nat.add_zero, show (Kd.scalar enc h1).sz = 1 from rfl, Nat.mul_one] at this
def ptrk (g : Nat) : Kd Nat := Kd.scalar (fun i : Nat => .pointer (some ⟨g, i, none⟩)) (fun _ => rfl)
theorem below_then {w w1 w2 : World} (h1 : Below w.heap.size w w1) (h2 : Below w1.heap.size w1 w2) : Below w.heap.size w w2 := h1.trans (h2.mono h1.size)
set_option maxHeartbeats 4000000 in
set_option maxRecDepth 100000 in
theorem indexFunc_ptr (g : FuncId) (hg : ∀ (a : Array Value) (W : World), (callFunc g a).run Tryz.prog W = .ok (.enter g a) W) (cap : Array Value) (b : Nat) (p : Nat → Bool) (A0 : Option Addr) (c0 : Nat) (l0 : List Nat) (w : World) (hr0 : Kd.C (ptrk b) w A0 l0.length l0) (hc0 : l0.length ≤ c0)
  (hf : ∀ x ∈ l0, ∀ W, Below w.heap.size w W → Calls Tryz.prog g (#[.pointer (some ⟨b, x, none⟩)] ++ cap) W fun e W' => e = .returned (.bool (p x)) ∧ Below W.heap.size W W') :
  Calls Tryz.prog 67 #[.slice A0 l0.length c0, .func (.func g) #[] cap] w fun e w' => e = .returned (.int .i64 (ixa p l0)) ∧ Below w.heap.size w w' := by
 have HF := Aside0.mk hf
 have HR0 := Aside0.mk hr0
 have hmx := Kd.C_max hr0
 clear hf hr0
 go_enter Tryz.func67, Tryz.ntmps67
 go_wp2_with fail
 go_loopw [8, 5] (fun v8 v5 wr => ∃ i : Nat, i ≤ l0.length ∧ v8 = .int .i64 i ∧ Aside0 (Below w.heap.size w wr) ∧ Aside0 (∀ j, j < i → ∀ y, l0[j]? = some y → p y = false)) (fun v8 _ _ => l0.length - (intOf v8).toNat)
 case atStart => exact ⟨0, Nat.zero_le _, rfl, ⟨Below.refl _ _⟩, ⟨fun j hj => absurd hj (by omega)⟩⟩
 case round =>
  obtain ⟨i, hi, rfl, HB, HP⟩ := hrel
  by_cases hlt : i < l0.length
  ·obtain ⟨x, hx⟩ : ∃ x, l0[i]? = some x := ⟨_, List.getElem?_eq_getElem hlt⟩
   obtain ⟨ad, rfl, hcell⟩ := at_scalar (Kd.C_below HR0.out HB.out) i x hx hlt
   have HM := Aside0.mk (HF.out x (List.mem_of_getElem? hx) _ HB.out)
   have HX := Aside0.mk hx
   clear hx
   cases hp : p x with
   | true =>
    have HPX := Aside0.mk hp
    rw [hp] at HM
    clear hp
    go_wp2_with (refine HM.out.mono ?_; rintro e w1 ⟨rfl, hb1⟩; have HB1 := Aside0.mk hb1; clear hb1)
    go_ret
    exact ⟨by rw [ixa_found p l0 i x HX.out HP.out HPX.out]; rfl, below_then HB.out HB1.out⟩
   | false =>
    have HPX := Aside0.mk hp
    rw [hp] at HM
    clear hp
    go_wp2_with (refine HM.out.mono ?_; rintro e w1 ⟨rfl, hb1⟩; have HB1 := Aside0.mk hb1; clear hb1)
    go_roundw
    case rel => exact ⟨i + 1, by omega, by go_num, ⟨below_then HB.out HB1.out⟩, ⟨fun j hj y hy => by
     rcases Nat.lt_or_ge j i with h | h
     ·exact HP.out j h y hy
     ·obtain rfl : j = i := by omega
      rw [HX.out] at hy
      rw [← Option.some.inj hy]; exact HPX.out⟩⟩
    case measure => simp [intOf]; omega
  ·have HI := Aside0.mk (show i = l0.length by omega)
   go_wp2_with fail
   go_ret
   exact ⟨by rw [ixa_none p l0 (fun j hj => HP.out j (by rw [HI.out]; exact hj))]; rfl, HB.out⟩
set_option maxHeartbeats 4000000 in
set_option maxRecDepth 100000 in
theorem containsFunc_ptr (g : FuncId) (hg : ∀ (a : Array Value) (W : World), (callFunc g a).run Tryz.prog W = .ok (.enter g a) W) (cap : Array Value) (b : Nat) (p : Nat → Bool) (A0 : Option Addr) (c0 : Nat) (l0 : List Nat) (w : World) (hr0 : Kd.C (ptrk b) w A0 l0.length l0) (hc0 : l0.length ≤ c0)
  (hf : ∀ x ∈ l0, ∀ W, Below w.heap.size w W → Calls Tryz.prog g (#[.pointer (some ⟨b, x, none⟩)] ++ cap) W fun e W' => e = .returned (.bool (p x)) ∧ Below W.heap.size W W') :
  Calls Tryz.prog 37 #[.slice A0 l0.length c0, .func (.func g) #[] cap] w fun e w' => e = .returned (.bool (l0.any p)) ∧ Below w.heap.size w w' := by
 have HM := Aside0.mk (indexFunc_ptr g hg cap b p A0 c0 l0 w hr0 hc0 hf)
 have HA := Aside0.mk (ixa_any p l0)
 clear hf hr0 hg hc0
 generalize ixa p l0 = n at *
 generalize l0.any p = b at *
 go_enter Tryz.func37, Tryz.ntmps37
 go_wp2_with (go_at_call 67; refine HM.out.mono ?_; rintro e w1 ⟨rfl, hb1⟩; have HB1 := Aside0.mk hb1; clear hb1)
 go_ret
 exact ⟨by rw [← HA.out]; rfl, HB1.out⟩
end Go.Proofs.YthaoopbfggnceaaGreatDoor.Arr
namespace Go.Proofs.YthaoopbfggnceaaGreatDoor.Arr
open Go.RowKit Go.Proofs.YthaoopbfggnceaaGreatDoor.L Go.Proofs.YthaoopbfggnceaaGreatDoor.U Go.Proofs.YthaoopbfggnceaaGreatDoorW.PrintLast Go.Proofs.YthaoopbfggnceaaGreatDoorW.PrintMore Go.Proofs.YthaoopbfggnceaaGreatDoorW.PrintWords
set_option linter.unusedVariables false
set_option linter.unusedSimpArgs false
def NumH (x : Int) : Prop := x = -10 ∨ (0 ≤ x ∧ x ≤ 39) ∨ (-4 ≤ x ∧ x ≤ -1)
def slot (x : Int) : Nat := if 0 ≤ x then x.toNat else 40 + (-x - 1).toNat
theorem slot_lt {x : Int} (h : NumH x) (hx : x ≠ -10) : slot x < 44 := by
 unfold slot; rcases h with h | h | h <;> (try split) <;> omega
theorem slot_flag {x : Int} (h0 : 0 ≤ x) : slot x = x.toNat := if_pos h0
def bump (L : List Int) (x t : Int) : List Int := if x = -10 then L else L.set (slot x) (rd L (slot x : Nat) + t)
theorem bump_length (L : List Int) (x t : Int) : (bump L x t).length = L.length := by
 unfold bump; split <;> simp
theorem rd_set (L : List Int) (i j : Nat) (v : Int) (hj : j < L.length) : rd (L.set i v) (j : Int) = if j = i then v else rd L (j : Int) := by
 rw [rd_get _ j (by simpa using hj), rd_get L j hj, List.getElem_set]
 by_cases h : i = j
 ·rw [if_pos h, if_pos h.symm]
 ·rw [if_neg h, if_neg (fun e => h e.symm)]
theorem rd_bump (L : List Int) (x t : Int) (j : Nat) (hj : j < L.length) : rd (bump L x t) (j : Int) = rd L (j : Int) + if x ≠ -10 ∧ j = slot x then t else 0 := by
 unfold bump
 by_cases hx : x = -10
 ·rw [if_pos hx, if_neg (fun e => e.1 hx)]; omega
 ·rw [if_neg hx, rd_set L _ j _ hj]
  by_cases h : j = slot x
  ·rw [if_pos h, if_pos ⟨hx, h⟩, h]
  ·rw [if_neg h, if_neg (fun e => h e.2)]; omega
theorem rd_zs (n j : Nat) : rd (zs n) (j : Int) = 0 := by
 rcases Nat.lt_or_ge j n with h | h
 ·rw [rd_get (zs n) j (by rw [zs_length]; exact h)]; simp only [zs, List.getElem_replicate]
 ·unfold rd zs; simp only [List.getD_eq_getElem?_getD, Int.toNat_natCast]; rw [List.getElem?_eq_none (by simpa using h)]; rfl
def pile (L h : List Int) (t : Int) : Nat → List Int
 | 0 => L
 | i + 1 => bump (pile L h t i) (rd h (i : Int)) t
theorem pile_length (L h : List Int) (t : Int) : ∀ i, (pile L h t i).length = L.length
 | 0 => rfl
 | i + 1 => by rw [pile, bump_length, pile_length L h t i]
theorem rd_pile (L h : List Int) (t : Int) (j : Nat) (hj : j < L.length) (hL : L.length = 44) : ∀ i, rd (pile L h t i) (j : Int) = rd L (j : Int) + rd (pile (zs 44) h t i) (j : Int)
 | 0 => by
  show rd L (j : Int) = rd L (j : Int) + rd (zs 44) (j : Int)
  rw [rd_zs]; omega
 | i + 1 => by
  rw [pile, pile, rd_bump _ _ _ j (by rw [pile_length]; exact hj), rd_bump _ _ _ j (by rw [pile_length, zs_length]; omega), rd_pile L h t j hj hL i]
  omega
theorem pile_one (L h : List Int) (a b : Int) (i : Nat) (hb : ∀ j : Nat, j < L.length → a ≤ rd L (j : Int) ∧ rd L (j : Int) ≤ b) : ∀ j : Nat, j < L.length → a ≤ rd (pile L h 1 i) (j : Int) ∧ rd (pile L h 1 i) (j : Int) ≤ b + i := by
 induction i with
 | zero => intro j hj; have := hb j hj; simp only [pile]; omega
 | succ i ih =>
  intro j hj
  have := ih j hj
  rw [pile, rd_bump _ _ _ j (by rw [pile_length]; exact hj)]
  split <;> omega
theorem pile_small (h : List Int) (i : Nat) (j : Nat) (hj : j < 44) : 0 ≤ rd (pile (zs 44) h 1 i) (j : Int) ∧ rd (pile (zs 44) h 1 i) (j : Int) ≤ i := by
 have := pile_one (zs 44) h 0 0 i (fun j hj => by rw [rd_zs]; omega) j (by rw [zs_length]; exact hj)
 omega
def needs (L : List Int) (hs : List (List Int)) : Nat → List Int
 | 0 => L
 | n + 1 => pile (needs L hs n) (hs.getD n []) 1 (hs.getD n []).length
theorem needs_length (L : List Int) (hs : List (List Int)) : ∀ n, (needs L hs n).length = L.length
 | 0 => rfl
 | n + 1 => by rw [needs, pile_length, needs_length L hs n]
theorem needs_small (hs : List (List Int)) (hh : ∀ h ∈ hs, h.length ≤ 8) : ∀ n, n ≤ hs.length → ∀ j : Nat, j < 44 → 0 ≤ rd (needs (zs 44) hs n) (j : Int) ∧ rd (needs (zs 44) hs n) (j : Int) ≤ 8 * n
 | 0, _, j, hj => by simp only [needs]; rw [rd_zs]; omega
 | n + 1, hn, j, hj => by
  have ih := needs_small hs hh n (by omega)
  have hm : (hs.getD n []).length ≤ 8 := by
   rw [List.getD_eq_getElem?_getD, List.getElem?_eq_getElem (by omega)]
   exact hh _ (List.getElem_mem (by omega))
  have := pile_one (needs (zs 44) hs n) (hs.getD n []) 0 (8 * n) (hs.getD n []).length (fun j hj => ih j (by rwa [needs_length, zs_length] at hj)) j (by rw [needs_length, zs_length]; exact hj)
  rw [needs]
  omega
theorem validHoist_calls (A0 : Option Addr) (c0 : Nat) (h : List Int) (w : World) (hr : Kd.C (Kd.int .i8) w A0 h.length h) (hc : h.length ≤ c0) (hn : h.length ≤ 100000000) (hb : ∀ x ∈ h, -128 ≤ x ∧ x ≤ 127) :
  Calls Tryz.prog 52 #[.slice A0 h.length c0] w fun e w' => e = .returned (.bool (okH h)) ∧ Below w.heap.size w w' := by
 obtain ⟨k, hk⟩ := (meaning_ev h hn hb).rounds
 refine impl_ValidHoist.calls k A0 c0 h (okH h) w hr hc ?_
 unfold impl_ValidHoist.f
 rw [hk, Option.bind_some, implRead_snd]
theorem i64w {x : Int} (h0 : -9223372036854775808 ≤ x) (h1 : x ≤ 9223372036854775807) : IntKind.i64.wrap x = x := by
 unfold IntKind.wrap
 simp only [IntKind.signed, IntKind.bits]
 simp
 omega
set_option maxHeartbeats 4000000 in
set_option maxRecDepth 100000 in
theorem add_calls (g : Nat) (L : List Int) (x t : Int) (w : World) (h0 : w.heap[g]? = some (.cells (vals .i64 L) 55 (0, 0))) (hl : L.length = 44) (hx : NumH x) (hb : ∀ j : Nat, j < 44 → -1000000000 ≤ rd L (j : Int) ∧ rd L (j : Int) ≤ 1000000000) (ht : -1000000000 ≤ t ∧ t ≤ 1000000000) :
  Calls Tryz.prog 79 #[.pointer (some ⟨g, 0, none⟩), .int .i8 x, .int .i64 t] w fun e w' => e = .returned (.tuple #[]) ∧ Fr1 g (vals .i64 (bump L x t)) 55 w w' := by
 have hm := Mem.given h0
 clear h0
 by_cases hx0 : 0 ≤ x
 ·have hx9 : x < 40 := by rcases hx with h | h | h <;> omega
  have hv := hm.get (n := 0) rfl x.toNat (by omega)
  have HB := Aside0.mk (show bump L x t = L.set x.toNat (rd L (x.toNat : Nat) + t) by unfold bump; rw [if_neg (by omega), slot_flag hx0])
  have h1 := hb x.toNat (by omega)
  generalize rd L (x.toNat : Nat) = y at *
  have HW := Aside0.mk (i64w (x := y + t) (by omega) (by omega))
  clear hx hb
  go_enter Tryz.func79, Tryz.ntmps79
  go_wp2_with (first | fail | ((with_reducible refine gt_field 55 0 ?_); refine st_field rfl 55 _ 0 rfl rfl field55_0 ?_) | ((with_reducible refine gt_elem 52 ?_); refine st_elem rfl 52 _ _ rfl rfl rfl arr52 (by first | omega | assumption | (simp only [lens]; first | omega | assumption) | (simp [lens]; done) | (simp [lens]; omega)) (by first | omega | assumption | (simp only [lens]; first | omega | assumption) | (simp [lens]; done) | (simp [lens]; omega)) ?_) | ((with_reducible refine gt_load 3 ?_); (first | (refine st_get rfl 3 _ rfl hm rfl 0 rfl one3 (by first | omega | assumption | (simp only [lens]; first | omega | assumption) | (simp [lens]; done) | (simp [lens]; omega)) ?_) | (refine st_get rfl 3 _ rfl hm rfl 1 rfl one3 (by first | omega | assumption | (simp only [lens]; first | omega | assumption) | (simp [lens]; done) | (simp [lens]; omega)) ?_))) | ((with_reducible refine gt_store 3 ?_); (first | (refine st_set rfl 3 _ _ rfl hm rfl rfl 0 rfl one3 (by first | omega | assumption | (simp only [lens]; first | omega | assumption) | (simp [lens]; done) | (simp [lens]; omega)) ?_) | (refine st_set rfl 3 _ _ rfl hm rfl rfl 1 rfl one3 (by first | omega | assumption | (simp only [lens]; first | omega | assumption) | (simp [lens]; done) | (simp [lens]; omega)) ?_)); clear hm; intro ws hm; simp only [List.set_cons_zero, List.set_cons_succ] at hm) | ((with_reducible refine gt_field 55 1 ?_); refine st_field rfl 55 _ 1 rfl rfl field55_1 ?_) | ((with_reducible refine gt_elem 53 ?_); refine st_elem rfl 53 _ _ rfl rfl rfl arr53 (by first | omega | assumption | (simp only [lens]; first | omega | assumption) | (simp [lens]; done) | (simp [lens]; omega)) (by first | omega | assumption | (simp only [lens]; first | omega | assumption) | (simp [lens]; done) | (simp [lens]; omega)) ?_))
  go_still_tail 11, (by kernel_rfl)
  replace hm := hm.drawn (w.drawn + 1)
  go_wp2_with (first | fail | ((with_reducible refine gt_field 55 0 ?_); refine st_field rfl 55 _ 0 rfl rfl field55_0 ?_) | ((with_reducible refine gt_elem 52 ?_); refine st_elem rfl 52 _ _ rfl rfl rfl arr52 (by first | omega | assumption | (simp only [lens]; first | omega | assumption) | (simp [lens]; done) | (simp [lens]; omega)) (by first | omega | assumption | (simp only [lens]; first | omega | assumption) | (simp [lens]; done) | (simp [lens]; omega)) ?_) | ((with_reducible refine gt_load 3 ?_); (first | (refine st_get rfl 3 _ rfl hm rfl 0 rfl one3 (by first | omega | assumption | (simp only [lens]; first | omega | assumption) | (simp [lens]; done) | (simp [lens]; omega)) ?_) | (refine st_get rfl 3 _ rfl hm rfl 1 rfl one3 (by first | omega | assumption | (simp only [lens]; first | omega | assumption) | (simp [lens]; done) | (simp [lens]; omega)) ?_))) | ((with_reducible refine gt_store 3 ?_); (first | (refine st_set rfl 3 _ _ rfl hm rfl rfl 0 rfl one3 (by first | omega | assumption | (simp only [lens]; first | omega | assumption) | (simp [lens]; done) | (simp [lens]; omega)) ?_) | (refine st_set rfl 3 _ _ rfl hm rfl rfl 1 rfl one3 (by first | omega | assumption | (simp only [lens]; first | omega | assumption) | (simp [lens]; done) | (simp [lens]; omega)) ?_)); clear hm; intro ws hm; simp only [List.set_cons_zero, List.set_cons_succ] at hm) | ((with_reducible refine gt_field 55 1 ?_); refine st_field rfl 55 _ 1 rfl rfl field55_1 ?_) | ((with_reducible refine gt_elem 53 ?_); refine st_elem rfl 53 _ _ rfl rfl rfl arr53 (by first | omega | assumption | (simp only [lens]; first | omega | assumption) | (simp [lens]; done) | (simp [lens]; omega)) (by first | omega | assumption | (simp only [lens]; first | omega | assumption) | (simp [lens]; done) | (simp [lens]; omega)) ?_))
  refine bodyPost_end (results_none rfl _ _ _) rfl ?_
  refine ⟨rfl, ?_⟩
  rw [HW.out] at hm
  rw [HB.out]
  exact hm.gives (M := []) rfl
 ·by_cases hx1 : x = -10
  ·have HB := Aside0.mk (show bump L x t = L by unfold bump; rw [if_pos hx1])
   subst hx1
   clear hx0 hx hb
   go_enter Tryz.func79, Tryz.ntmps79
   go_wp2_with (first | fail | ((with_reducible refine gt_field 55 0 ?_); refine st_field rfl 55 _ 0 rfl rfl field55_0 ?_) | ((with_reducible refine gt_elem 52 ?_); refine st_elem rfl 52 _ _ rfl rfl rfl arr52 (by first | omega | assumption | (simp only [lens]; first | omega | assumption) | (simp [lens]; done) | (simp [lens]; omega)) (by first | omega | assumption | (simp only [lens]; first | omega | assumption) | (simp [lens]; done) | (simp [lens]; omega)) ?_) | ((with_reducible refine gt_load 3 ?_); (first | (refine st_get rfl 3 _ rfl hm rfl 0 rfl one3 (by first | omega | assumption | (simp only [lens]; first | omega | assumption) | (simp [lens]; done) | (simp [lens]; omega)) ?_) | (refine st_get rfl 3 _ rfl hm rfl 1 rfl one3 (by first | omega | assumption | (simp only [lens]; first | omega | assumption) | (simp [lens]; done) | (simp [lens]; omega)) ?_))) | ((with_reducible refine gt_store 3 ?_); (first | (refine st_set rfl 3 _ _ rfl hm rfl rfl 0 rfl one3 (by first | omega | assumption | (simp only [lens]; first | omega | assumption) | (simp [lens]; done) | (simp [lens]; omega)) ?_) | (refine st_set rfl 3 _ _ rfl hm rfl rfl 1 rfl one3 (by first | omega | assumption | (simp only [lens]; first | omega | assumption) | (simp [lens]; done) | (simp [lens]; omega)) ?_)); clear hm; intro ws hm; simp only [List.set_cons_zero, List.set_cons_succ] at hm) | ((with_reducible refine gt_field 55 1 ?_); refine st_field rfl 55 _ 1 rfl rfl field55_1 ?_) | ((with_reducible refine gt_elem 53 ?_); refine st_elem rfl 53 _ _ rfl rfl rfl arr53 (by first | omega | assumption | (simp only [lens]; first | omega | assumption) | (simp [lens]; done) | (simp [lens]; omega)) (by first | omega | assumption | (simp only [lens]; first | omega | assumption) | (simp [lens]; done) | (simp [lens]; omega)) ?_))
   refine bodyPost_end (results_none rfl _ _ _) rfl ?_
   refine ⟨rfl, ?_⟩
   rw [HB.out]
   exact hm.gives (M := []) rfl
  ·have hx9 : x = -4 ∨ x = -3 ∨ x = -2 ∨ x = -1 := by rcases hx with h | h | h <;> omega
   have hv := hm.get (n := 0) rfl (slot x) (by have := slot_lt hx hx1; omega)
   have HB := Aside0.mk (show bump L x t = L.set (slot x) (rd L (slot x : Nat) + t) by unfold bump; rw [if_neg hx1])
   have h1 := hb (slot x) (slot_lt hx hx1)
   generalize rd L (slot x : Nat) = y at *
   have HW := Aside0.mk (i64w (x := y + t) (by omega) (by omega))
   clear hb hx hx0 hx1
   rcases hx9 with rfl | rfl | rfl | rfl
   all_goals
    simp only [slot] at hv
    simp at hv
    have k0 : IntKind.i8.wrap 0 = 0 := rfl
    have k1 : IntKind.i8.wrap 1 = 1 := rfl
    have k2 : IntKind.i8.wrap 2 = 2 := rfl
    have k3 : IntKind.i8.wrap 3 = 3 := rfl
    have k4 : IntKind.i8.wrap 4 = 4 := rfl
    go_enter Tryz.func79, Tryz.ntmps79
    go_wp2_with (first | fail | ((with_reducible refine gt_field 55 0 ?_); refine st_field rfl 55 _ 0 rfl rfl field55_0 ?_) | ((with_reducible refine gt_elem 52 ?_); refine st_elem rfl 52 _ _ rfl rfl rfl arr52 (by first | omega | assumption | (simp only [lens]; first | omega | assumption) | (simp [lens]; done) | (simp [lens]; omega)) (by first | omega | assumption | (simp only [lens]; first | omega | assumption) | (simp [lens]; done) | (simp [lens]; omega)) ?_) | ((with_reducible refine gt_load 3 ?_); (first | (refine st_get rfl 3 _ rfl hm rfl 0 rfl one3 (by first | omega | assumption | (simp only [lens]; first | omega | assumption) | (simp [lens]; done) | (simp [lens]; omega)) ?_) | (refine st_get rfl 3 _ rfl hm rfl 1 rfl one3 (by first | omega | assumption | (simp only [lens]; first | omega | assumption) | (simp [lens]; done) | (simp [lens]; omega)) ?_))) | ((with_reducible refine gt_store 3 ?_); (first | (refine st_set rfl 3 _ _ rfl hm rfl rfl 0 rfl one3 (by first | omega | assumption | (simp only [lens]; first | omega | assumption) | (simp [lens]; done) | (simp [lens]; omega)) ?_) | (refine st_set rfl 3 _ _ rfl hm rfl rfl 1 rfl one3 (by first | omega | assumption | (simp only [lens]; first | omega | assumption) | (simp [lens]; done) | (simp [lens]; omega)) ?_)); clear hm; intro ws hm; simp only [List.set_cons_zero, List.set_cons_succ] at hm) | ((with_reducible refine gt_field 55 1 ?_); refine st_field rfl 55 _ 1 rfl rfl field55_1 ?_) | ((with_reducible refine gt_elem 53 ?_); refine st_elem rfl 53 _ _ rfl rfl rfl arr53 (by first | omega | assumption | (simp only [lens]; first | omega | assumption) | (simp [lens]; done) | (simp [lens]; omega)) (by first | omega | assumption | (simp only [lens]; first | omega | assumption) | (simp [lens]; done) | (simp [lens]; omega)) ?_))
    go_still_tail 13, (by kernel_rfl)
    replace hm := hm.drawn (w.drawn + 1)
    go_wp2_with (first | fail | ((with_reducible refine gt_field 55 0 ?_); refine st_field rfl 55 _ 0 rfl rfl field55_0 ?_) | ((with_reducible refine gt_elem 52 ?_); refine st_elem rfl 52 _ _ rfl rfl rfl arr52 (by first | omega | assumption | (simp only [lens]; first | omega | assumption) | (simp [lens]; done) | (simp [lens]; omega)) (by first | omega | assumption | (simp only [lens]; first | omega | assumption) | (simp [lens]; done) | (simp [lens]; omega)) ?_) | ((with_reducible refine gt_load 3 ?_); (first | (refine st_get rfl 3 _ rfl hm rfl 0 rfl one3 (by first | omega | assumption | (simp only [lens]; first | omega | assumption) | (simp [lens]; done) | (simp [lens]; omega)) ?_) | (refine st_get rfl 3 _ rfl hm rfl 1 rfl one3 (by first | omega | assumption | (simp only [lens]; first | omega | assumption) | (simp [lens]; done) | (simp [lens]; omega)) ?_))) | ((with_reducible refine gt_store 3 ?_); (first | (refine st_set rfl 3 _ _ rfl hm rfl rfl 0 rfl one3 (by first | omega | assumption | (simp only [lens]; first | omega | assumption) | (simp [lens]; done) | (simp [lens]; omega)) ?_) | (refine st_set rfl 3 _ _ rfl hm rfl rfl 1 rfl one3 (by first | omega | assumption | (simp only [lens]; first | omega | assumption) | (simp [lens]; done) | (simp [lens]; omega)) ?_)); clear hm; intro ws hm; simp only [List.set_cons_zero, List.set_cons_succ] at hm) | ((with_reducible refine gt_field 55 1 ?_); refine st_field rfl 55 _ 1 rfl rfl field55_1 ?_) | ((with_reducible refine gt_elem 53 ?_); refine st_elem rfl 53 _ _ rfl rfl rfl arr53 (by first | omega | assumption | (simp only [lens]; first | omega | assumption) | (simp [lens]; done) | (simp [lens]; omega)) (by first | omega | assumption | (simp only [lens]; first | omega | assumption) | (simp [lens]; done) | (simp [lens]; omega)) ?_))
    refine bodyPost_end (results_none rfl _ _ _) rfl ?_
    refine ⟨rfl, ?_⟩
    rw [HW.out] at hm
    rw [HB.out]
    simpa [slot] using hm.gives (M := []) rfl
theorem NumH.at {h : List Int} (hh : ∀ x ∈ h, NumH x) (i : Nat) (hi : i < h.length) : NumH (rd h (i : Int)) := by
 rw [rd_get h i hi]; exact hh _ (List.getElem_mem hi)
set_option maxHeartbeats 4000000 in
set_option maxRecDepth 100000 in
theorem hoistPieces_calls (A0 : Option Addr) (c0 : Nat) (h : List Int) (w : World) (hr : Kd.C (Kd.int .i8) w A0 h.length h) (hc : h.length ≤ c0) (hh : ∀ x ∈ h, NumH x) (hn : h.length ≤ 1000) :
  Calls Tryz.prog 55 #[.slice A0 h.length c0] w fun e w' => e = .returned (.agg (vals .i64 (pile (zs 44) h 1 h.length))) ∧ Below w.heap.size w w' := by
 have hm := Mem.start w
 have HR := Aside0.mk hr
 have HH := Aside0.mk hh
 clear hr hh
 go_enter Tryz.func55, Tryz.ntmps55
 go_wp2_with (first | fail | ((with_reducible refine gt_alloc 2 55 ?_); refine st_alloc rfl 2 rfl 55 rfl hm zero55 ?_; clear hm; intro g2 w2 hm) | ((with_reducible refine gt_build 55 ?_); refine st_zero rfl 55 rfl built55 ?_) | ((with_reducible refine gt_alloc 3 55 ?_); refine st_alloc rfl 3 rfl 55 rfl hm zero55 ?_; clear hm; intro g3 w3 hm) | ((with_reducible refine gt_store 55 ?_); (first | (refine st_full rfl 55 _ _ rfl hm rfl rfl 0 rfl agg55 (by first | omega | assumption | (simp only [lens]; first | omega | assumption) | (simp [lens]; done) | (simp [lens]; omega)) (by first | omega | assumption | (simp only [lens]; first | omega | assumption) | (simp [lens]; done) | (simp [lens]; omega)) ?_) | (refine st_full rfl 55 _ _ rfl hm rfl rfl 1 rfl agg55 (by first | omega | assumption | (simp only [lens]; first | omega | assumption) | (simp [lens]; done) | (simp [lens]; omega)) (by first | omega | assumption | (simp only [lens]; first | omega | assumption) | (simp [lens]; done) | (simp [lens]; omega)) ?_) | (refine st_full rfl 55 _ _ rfl hm rfl rfl 2 rfl agg55 (by first | omega | assumption | (simp only [lens]; first | omega | assumption) | (simp [lens]; done) | (simp [lens]; omega)) (by first | omega | assumption | (simp only [lens]; first | omega | assumption) | (simp [lens]; done) | (simp [lens]; omega)) ?_) | (refine st_full rfl 55 _ _ rfl hm rfl rfl 3 rfl agg55 (by first | omega | assumption | (simp only [lens]; first | omega | assumption) | (simp [lens]; done) | (simp [lens]; omega)) (by first | omega | assumption | (simp only [lens]; first | omega | assumption) | (simp [lens]; done) | (simp [lens]; omega)) ?_)); clear hm; intro ws hm; simp only [List.set_cons_zero, List.set_cons_succ] at hm) | ((with_reducible refine gt_load 45 ?_); (first | (refine st_get rfl 45 _ rfl hm rfl 0 rfl one45 (by first | omega | assumption | (simp only [lens]; first | omega | assumption) | (simp [lens]; done) | (simp [lens]; omega)) ?_) | (refine st_get rfl 45 _ rfl hm rfl 1 rfl one45 (by first | omega | assumption | (simp only [lens]; first | omega | assumption) | (simp [lens]; done) | (simp [lens]; omega)) ?_) | (refine st_get rfl 45 _ rfl hm rfl 2 rfl one45 (by first | omega | assumption | (simp only [lens]; first | omega | assumption) | (simp [lens]; done) | (simp [lens]; omega)) ?_) | (refine st_get rfl 45 _ rfl hm rfl 3 rfl one45 (by first | omega | assumption | (simp only [lens]; first | omega | assumption) | (simp [lens]; done) | (simp [lens]; omega)) ?_))) | ((with_reducible refine gt_load 55 ?_); (first | (refine st_load rfl 55 _ rfl hm rfl 0 rfl agg55 (by first | omega | assumption | (simp only [lens]; first | omega | assumption) | (simp [lens]; done) | (simp [lens]; omega)) ?_) | (refine st_load rfl 55 _ rfl hm rfl 1 rfl agg55 (by first | omega | assumption | (simp only [lens]; first | omega | assumption) | (simp [lens]; done) | (simp [lens]; omega)) ?_) | (refine st_load rfl 55 _ rfl hm rfl 2 rfl agg55 (by first | omega | assumption | (simp only [lens]; first | omega | assumption) | (simp [lens]; done) | (simp [lens]; omega)) ?_) | (refine st_load rfl 55 _ rfl hm rfl 3 rfl agg55 (by first | omega | assumption | (simp only [lens]; first | omega | assumption) | (simp [lens]; done) | (simp [lens]; omega)) ?_))))
 go_loopw [9, 5] (fun v9 v5 wr => ∃ i : Nat, i ≤ h.length ∧ v9 = .int .i64 i ∧ Mem w wr [⟨g3, vals .i64 (pile (zs 44) h 1 i), 55, true⟩, ⟨g2, vals .i64 (zs 44), 55, true⟩]) (fun v9 _ _ => h.length - (intOf v9).toNat)
 case atStart => exact ⟨0, by omega, rfl, hm⟩
 case round =>
  obtain ⟨i, hi, rfl, hm⟩ := hrel
  have hl2 := (pile_length (zs 44) h 1 i).trans zs_length
  by_cases hlt : i < h.length
  ·obtain ⟨ad, rfl, hc1⟩ := Kd.at_int (Kd.C_below HR.out (hm.done rfl)) (i : Int) (by omega) (by omega)
   rw [Int.toNat_natCast] at hc1
   have HX := Aside0.mk (NumH.at HH.out i hlt)
   have HS : Aside0 (pile (zs 44) h 1 (i + 1) = bump (pile (zs 44) h 1 i) (rd h (i : Int)) 1) := ⟨rfl⟩
   have HP := Aside0.mk (fun j hj => pile_small h i j hj)
   generalize rd h (i : Int) = x at *
   generalize pile (zs 44) h 1 i = X at *
   go_wp2_with (first
    | (first | fail | ((with_reducible refine gt_alloc 2 55 ?_); refine st_alloc rfl 2 rfl 55 rfl hm zero55 ?_; clear hm; intro g2 w2 hm) | ((with_reducible refine gt_build 55 ?_); refine st_zero rfl 55 rfl built55 ?_) | ((with_reducible refine gt_alloc 3 55 ?_); refine st_alloc rfl 3 rfl 55 rfl hm zero55 ?_; clear hm; intro g3 w3 hm) | ((with_reducible refine gt_store 55 ?_); (first | (refine st_full rfl 55 _ _ rfl hm rfl rfl 0 rfl agg55 (by first | omega | assumption | (simp only [lens]; first | omega | assumption) | (simp [lens]; done) | (simp [lens]; omega)) (by first | omega | assumption | (simp only [lens]; first | omega | assumption) | (simp [lens]; done) | (simp [lens]; omega)) ?_) | (refine st_full rfl 55 _ _ rfl hm rfl rfl 1 rfl agg55 (by first | omega | assumption | (simp only [lens]; first | omega | assumption) | (simp [lens]; done) | (simp [lens]; omega)) (by first | omega | assumption | (simp only [lens]; first | omega | assumption) | (simp [lens]; done) | (simp [lens]; omega)) ?_) | (refine st_full rfl 55 _ _ rfl hm rfl rfl 2 rfl agg55 (by first | omega | assumption | (simp only [lens]; first | omega | assumption) | (simp [lens]; done) | (simp [lens]; omega)) (by first | omega | assumption | (simp only [lens]; first | omega | assumption) | (simp [lens]; done) | (simp [lens]; omega)) ?_) | (refine st_full rfl 55 _ _ rfl hm rfl rfl 3 rfl agg55 (by first | omega | assumption | (simp only [lens]; first | omega | assumption) | (simp [lens]; done) | (simp [lens]; omega)) (by first | omega | assumption | (simp only [lens]; first | omega | assumption) | (simp [lens]; done) | (simp [lens]; omega)) ?_)); clear hm; intro ws hm; simp only [List.set_cons_zero, List.set_cons_succ] at hm) | ((with_reducible refine gt_load 45 ?_); (first | (refine st_get rfl 45 _ rfl hm rfl 0 rfl one45 (by first | omega | assumption | (simp only [lens]; first | omega | assumption) | (simp [lens]; done) | (simp [lens]; omega)) ?_) | (refine st_get rfl 45 _ rfl hm rfl 1 rfl one45 (by first | omega | assumption | (simp only [lens]; first | omega | assumption) | (simp [lens]; done) | (simp [lens]; omega)) ?_) | (refine st_get rfl 45 _ rfl hm rfl 2 rfl one45 (by first | omega | assumption | (simp only [lens]; first | omega | assumption) | (simp [lens]; done) | (simp [lens]; omega)) ?_) | (refine st_get rfl 45 _ rfl hm rfl 3 rfl one45 (by first | omega | assumption | (simp only [lens]; first | omega | assumption) | (simp [lens]; done) | (simp [lens]; omega)) ?_))) | ((with_reducible refine gt_load 55 ?_); (first | (refine st_load rfl 55 _ rfl hm rfl 0 rfl agg55 (by first | omega | assumption | (simp only [lens]; first | omega | assumption) | (simp [lens]; done) | (simp [lens]; omega)) ?_) | (refine st_load rfl 55 _ rfl hm rfl 1 rfl agg55 (by first | omega | assumption | (simp only [lens]; first | omega | assumption) | (simp [lens]; done) | (simp [lens]; omega)) ?_) | (refine st_load rfl 55 _ rfl hm rfl 2 rfl agg55 (by first | omega | assumption | (simp only [lens]; first | omega | assumption) | (simp [lens]; done) | (simp [lens]; omega)) ?_) | (refine st_load rfl 55 _ rfl hm rfl 3 rfl agg55 (by first | omega | assumption | (simp only [lens]; first | omega | assumption) | (simp [lens]; done) | (simp [lens]; omega)) ?_))))
    | (go_at_call 79; refine (add_calls g3 X x 1 _ (hm.mem (n := 0) rfl) hl2 HX.out (fun j hj => by have := HP.out j hj; omega) (by omega)).mono ?_; rintro e wa ⟨rfl, hf⟩; replace hm := hm.fr1 (n := 0) rfl hf; simp only [List.set_cons_zero] at hm; clear hf))
   go_roundw
   case rel => exact ⟨i + 1, by omega, by go_num, by rw [HS.out]; exact hm⟩
   case measure => simp [intOf]; omega
  ·have HI := Aside0.mk (show i = h.length by omega)
   generalize hX : pile (zs 44) h 1 i = X at *
   have HX := Aside0.mk hX
   clear hX
   go_wp2_with (first | fail | ((with_reducible refine gt_alloc 2 55 ?_); refine st_alloc rfl 2 rfl 55 rfl hm zero55 ?_; clear hm; intro g2 w2 hm) | ((with_reducible refine gt_build 55 ?_); refine st_zero rfl 55 rfl built55 ?_) | ((with_reducible refine gt_alloc 3 55 ?_); refine st_alloc rfl 3 rfl 55 rfl hm zero55 ?_; clear hm; intro g3 w3 hm) | ((with_reducible refine gt_store 55 ?_); (first | (refine st_full rfl 55 _ _ rfl hm rfl rfl 0 rfl agg55 (by first | omega | assumption | (simp only [lens]; first | omega | assumption) | (simp [lens]; done) | (simp [lens]; omega)) (by first | omega | assumption | (simp only [lens]; first | omega | assumption) | (simp [lens]; done) | (simp [lens]; omega)) ?_) | (refine st_full rfl 55 _ _ rfl hm rfl rfl 1 rfl agg55 (by first | omega | assumption | (simp only [lens]; first | omega | assumption) | (simp [lens]; done) | (simp [lens]; omega)) (by first | omega | assumption | (simp only [lens]; first | omega | assumption) | (simp [lens]; done) | (simp [lens]; omega)) ?_) | (refine st_full rfl 55 _ _ rfl hm rfl rfl 2 rfl agg55 (by first | omega | assumption | (simp only [lens]; first | omega | assumption) | (simp [lens]; done) | (simp [lens]; omega)) (by first | omega | assumption | (simp only [lens]; first | omega | assumption) | (simp [lens]; done) | (simp [lens]; omega)) ?_) | (refine st_full rfl 55 _ _ rfl hm rfl rfl 3 rfl agg55 (by first | omega | assumption | (simp only [lens]; first | omega | assumption) | (simp [lens]; done) | (simp [lens]; omega)) (by first | omega | assumption | (simp only [lens]; first | omega | assumption) | (simp [lens]; done) | (simp [lens]; omega)) ?_)); clear hm; intro ws hm; simp only [List.set_cons_zero, List.set_cons_succ] at hm) | ((with_reducible refine gt_load 45 ?_); (first | (refine st_get rfl 45 _ rfl hm rfl 0 rfl one45 (by first | omega | assumption | (simp only [lens]; first | omega | assumption) | (simp [lens]; done) | (simp [lens]; omega)) ?_) | (refine st_get rfl 45 _ rfl hm rfl 1 rfl one45 (by first | omega | assumption | (simp only [lens]; first | omega | assumption) | (simp [lens]; done) | (simp [lens]; omega)) ?_) | (refine st_get rfl 45 _ rfl hm rfl 2 rfl one45 (by first | omega | assumption | (simp only [lens]; first | omega | assumption) | (simp [lens]; done) | (simp [lens]; omega)) ?_) | (refine st_get rfl 45 _ rfl hm rfl 3 rfl one45 (by first | omega | assumption | (simp only [lens]; first | omega | assumption) | (simp [lens]; done) | (simp [lens]; omega)) ?_))) | ((with_reducible refine gt_load 55 ?_); (first | (refine st_load rfl 55 _ rfl hm rfl 0 rfl agg55 (by first | omega | assumption | (simp only [lens]; first | omega | assumption) | (simp [lens]; done) | (simp [lens]; omega)) ?_) | (refine st_load rfl 55 _ rfl hm rfl 1 rfl agg55 (by first | omega | assumption | (simp only [lens]; first | omega | assumption) | (simp [lens]; done) | (simp [lens]; omega)) ?_) | (refine st_load rfl 55 _ rfl hm rfl 2 rfl agg55 (by first | omega | assumption | (simp only [lens]; first | omega | assumption) | (simp [lens]; done) | (simp [lens]; omega)) ?_) | (refine st_load rfl 55 _ rfl hm rfl 3 rfl agg55 (by first | omega | assumption | (simp only [lens]; first | omega | assumption) | (simp [lens]; done) | (simp [lens]; omega)) ?_))))
   ((try simp only [Exit.inBlock, Exit.then]); (first | (refine ret_cell hm rfl rfl 1 rfl agg55 (by first | omega | assumption | (simp only [lens]; first | omega | assumption) | (simp [lens]; done) | (simp [lens]; omega)) rfl ?_) | (refine ret_cell_tmp hm rfl rfl 1 rfl agg55 (by first | omega | assumption | (simp only [lens]; first | omega | assumption) | (simp [lens]; done) | (simp [lens]; omega)) rfl ?_)))
   exact ⟨by rw [← HX.out, HI.out], hm.done rfl⟩
theorem i16w {x : Int} (h0 : -32768 ≤ x) (h1 : x ≤ 32767) : IntKind.i16.wrap x = x := by
 unfold IntKind.wrap
 simp only [IntKind.signed, IntKind.bits]
 simp
 omega
def Small8 (h : List Int) : Prop := h.length ≤ 100000000 ∧ ∀ x ∈ h, -128 ≤ x ∧ x ≤ 127
theorem okH_N {h : List Int} (hk : okH h = true) : (∀ x ∈ h, NumH x) ∧ h.length ≤ 1000 := ⟨okH_num hk, by have := okH_len hk; omega⟩
end Go.Proofs.YthaoopbfggnceaaGreatDoor.Arr
namespace Go.Proofs.YthaoopbfggnceaaGreatDoor.Arr
open Go.RowKit Go.Proofs.YthaoopbfggnceaaGreatDoorW.PrintWords Go.Proofs.YthaoopbfggnceaaGreatDoorW.PrintLast Go.Proofs.YthaoopbfggnceaaGreatDoorW.PrintMore Go.Proofs.YthaoopbfggnceaaGreatDoor.U Go.Proofs.YthaoopbfggnceaaGreatDoor.L
set_option linter.unusedVariables false
set_option linter.unusedSimpArgs false
def okx (x : Int) : Bool := decide (0 ≤ x ∧ x ≤ 20)
def okL (L : List Int) : Bool := L.all okx
theorem okL_true {L : List Int} {n : Nat} (hl : L.length = n) (h : ∀ j : Nat, j < n → okx (rd L (j : Int)) = true) : okL L = true := by
 unfold okL
 rw [List.all_eq_true]
 intro x hx
 obtain ⟨j, hj, rfl⟩ := List.getElem_of_mem hx
 have := h j (by omega)
 rwa [rd_get L j hj] at this
theorem rd_in (L : List Int) (i : Nat) (h : i < L.length) : rd L (i : Int) ∈ L := by rw [rd_get L i h]; exact List.getElem_mem h
theorem rd_inI (L : List Int) (i : Int) (h0 : 0 ≤ i) (h : i < L.length) : rd L i ∈ L := by
 have := rd_in L i.toNat (by omega)
 rwa [Int.toNat_of_nonneg h0] at this
theorem okL_falseI {L : List Int} (i : Int) (h0 : 0 ≤ i) (hi : i < L.length) (h : okx (rd L i) = false) : okL L = false := by
 unfold okL
 rw [List.all_eq_false]
 exact ⟨_, rd_inI L i h0 hi, by simp [h]⟩
theorem okL_false {L : List Int} (i : Nat) (hi : i < L.length) (h : okx (rd L (i : Int)) = false) : okL L = false := by
 unfold okL
 rw [List.all_eq_false]
 exact ⟨_, rd_in L i hi, by simp [h]⟩
def Fits (k : IntKind) (L : List Int) : Prop := ∀ z ∈ L, (Lit.int k z).wf = true
theorem fits16 {x : Int} (h : (Lit.int .i16 x).wf = true) : -32768 ≤ x ∧ x ≤ 32767 := by
 simp only [Lit.wf, IntKind.min, IntKind.max, IntKind.signed, IntKind.bits, Bool.and_eq_true, decide_eq_true_eq, if_true] at h
 omega
set_option maxHeartbeats 4000000 in
set_option maxRecDepth 100000 in
theorem l04Ok_calls (g : Nat) (L : List Int) (w : World) (hl : L.length = 44) (hw : Fits .i16 L) (hg : w.heap[g]? = some (.cells (vals .i16 L) 28 (0, 0))) :
  Calls Tryz.prog 28 #[.pointer (some ⟨g, 0, none⟩)] w fun e w' => e = .returned (.bool (okL L)) ∧ Below w.heap.size w w' := by
 have hm := Mem.given hg
 have HG := Aside0.mk hg
 have HW := Aside0.mk hw
 clear hg hw
 go_enter Tryz.func28, Tryz.ntmps28
 go_wp2_with (first | fail | ((with_reducible refine gt_field 28 0 ?_); refine st_field rfl 28 _ 0 rfl rfl field28_0 ?_) | ((with_reducible refine gt_elem 25 ?_); refine st_elem rfl 25 _ _ rfl rfl rfl arr25 (by first | omega | assumption | (simp only [lens]; first | omega | assumption) | (simp [lens]; done) | (simp [lens]; omega)) (by first | omega | assumption | (simp only [lens]; first | omega | assumption) | (simp [lens]; done) | (simp [lens]; omega)) ?_) | ((with_reducible refine gt_load 24 ?_); (first | (refine st_get rfl 24 _ rfl hm rfl 0 rfl one24 (by first | omega | assumption | (simp only [lens]; first | omega | assumption) | (simp [lens]; done) | (simp [lens]; omega)) ?_) | (refine st_get rfl 24 _ rfl hm rfl 1 rfl one24 (by first | omega | assumption | (simp only [lens]; first | omega | assumption) | (simp [lens]; done) | (simp [lens]; omega)) ?_))) | ((with_reducible refine gt_field 28 1 ?_); refine st_field rfl 28 _ 1 rfl rfl field28_1 ?_) | ((with_reducible refine gt_elem 26 ?_); refine st_elem rfl 26 _ _ rfl rfl rfl arr26 (by first | omega | assumption | (simp only [lens]; first | omega | assumption) | (simp [lens]; done) | (simp [lens]; omega)) (by first | omega | assumption | (simp only [lens]; first | omega | assumption) | (simp [lens]; done) | (simp [lens]; omega)) ?_))
 go_loopw [3] (fun v3 wr => ∃ i : Nat, i ≤ 40 ∧ v3 = .int .i64 i ∧ Aside0 (∀ j : Nat, j < i → okx (rd L (j : Int)) = true) ∧ Mem w wr [⟨g, vals .i16 L, 28, false⟩]) (fun v3 _ => 40 - (intOf v3).toNat)
 case atStart => exact ⟨0, by omega, rfl, ⟨fun j hj => absurd hj (by omega)⟩, hm⟩
 case round =>
  obtain ⟨i, hi, rfl, HJ, hm⟩ := hrel
  by_cases hlt : i < 40
  ·have hx16 := fits16 (HW.out _ (rd_in L i (by omega)))
   by_cases hx : 0 ≤ rd L (i : Int) ∧ rd L (i : Int) ≤ 20
   ·go_wp2_with (first
     | (first | fail | ((with_reducible refine gt_field 28 0 ?_); refine st_field rfl 28 _ 0 rfl rfl field28_0 ?_) | ((with_reducible refine gt_elem 25 ?_); refine st_elem rfl 25 _ _ rfl rfl rfl arr25 (by first | omega | assumption | (simp only [lens]; first | omega | assumption) | (simp [lens]; done) | (simp [lens]; omega)) (by first | omega | assumption | (simp only [lens]; first | omega | assumption) | (simp [lens]; done) | (simp [lens]; omega)) ?_) | ((with_reducible refine gt_load 24 ?_); (first | (refine st_get rfl 24 _ rfl hm rfl 0 rfl one24 (by first | omega | assumption | (simp only [lens]; first | omega | assumption) | (simp [lens]; done) | (simp [lens]; omega)) ?_) | (refine st_get rfl 24 _ rfl hm rfl 1 rfl one24 (by first | omega | assumption | (simp only [lens]; first | omega | assumption) | (simp [lens]; done) | (simp [lens]; omega)) ?_))) | ((with_reducible refine gt_field 28 1 ?_); refine st_field rfl 28 _ 1 rfl rfl field28_1 ?_) | ((with_reducible refine gt_elem 26 ?_); refine st_elem rfl 26 _ _ rfl rfl rfl arr26 (by first | omega | assumption | (simp only [lens]; first | omega | assumption) | (simp [lens]; done) | (simp [lens]; omega)) (by first | omega | assumption | (simp only [lens]; first | omega | assumption) | (simp [lens]; done) | (simp [lens]; omega)) ?_))
     | (go_at_call 58; refine (in_calls _ _ _ _).mono ?_; rintro e wa ⟨rfl, hb⟩; replace hm := hm.after hb; clear hb))
    go_roundw
    case rel =>
     have HX := hx
     exact ⟨i + 1, by omega, by go_num, ⟨fun j hj => by
      rcases Nat.lt_or_ge j i with h | h
      ·exact HJ.out j h
      ·obtain rfl : j = i := by omega
       simp [okx, HX]⟩, hm⟩
    case measure => simp [intOf]; omega
   ·have HX := Aside0.mk (okL_false (L := L) i (by omega) (by unfold okx; exact decide_eq_false hx))
    go_wp2_with (first
     | (first | fail | ((with_reducible refine gt_field 28 0 ?_); refine st_field rfl 28 _ 0 rfl rfl field28_0 ?_) | ((with_reducible refine gt_elem 25 ?_); refine st_elem rfl 25 _ _ rfl rfl rfl arr25 (by first | omega | assumption | (simp only [lens]; first | omega | assumption) | (simp [lens]; done) | (simp [lens]; omega)) (by first | omega | assumption | (simp only [lens]; first | omega | assumption) | (simp [lens]; done) | (simp [lens]; omega)) ?_) | ((with_reducible refine gt_load 24 ?_); (first | (refine st_get rfl 24 _ rfl hm rfl 0 rfl one24 (by first | omega | assumption | (simp only [lens]; first | omega | assumption) | (simp [lens]; done) | (simp [lens]; omega)) ?_) | (refine st_get rfl 24 _ rfl hm rfl 1 rfl one24 (by first | omega | assumption | (simp only [lens]; first | omega | assumption) | (simp [lens]; done) | (simp [lens]; omega)) ?_))) | ((with_reducible refine gt_field 28 1 ?_); refine st_field rfl 28 _ 1 rfl rfl field28_1 ?_) | ((with_reducible refine gt_elem 26 ?_); refine st_elem rfl 26 _ _ rfl rfl rfl arr26 (by first | omega | assumption | (simp only [lens]; first | omega | assumption) | (simp [lens]; done) | (simp [lens]; omega)) (by first | omega | assumption | (simp only [lens]; first | omega | assumption) | (simp [lens]; done) | (simp [lens]; omega)) ?_))
     | (go_at_call 58; refine (in_calls _ _ _ _).mono ?_; rintro e wa ⟨rfl, hb⟩; replace hm := hm.after hb; clear hb))
    go_ret
    exact ⟨by rw [HX.out]; rfl, (hm.gives (M := []) rfl).below HG.out⟩
  ·have HI := Aside0.mk (show i = 40 by omega)
   go_wp2_with (first | fail | ((with_reducible refine gt_field 28 0 ?_); refine st_field rfl 28 _ 0 rfl rfl field28_0 ?_) | ((with_reducible refine gt_elem 25 ?_); refine st_elem rfl 25 _ _ rfl rfl rfl arr25 (by first | omega | assumption | (simp only [lens]; first | omega | assumption) | (simp [lens]; done) | (simp [lens]; omega)) (by first | omega | assumption | (simp only [lens]; first | omega | assumption) | (simp [lens]; done) | (simp [lens]; omega)) ?_) | ((with_reducible refine gt_load 24 ?_); (first | (refine st_get rfl 24 _ rfl hm rfl 0 rfl one24 (by first | omega | assumption | (simp only [lens]; first | omega | assumption) | (simp [lens]; done) | (simp [lens]; omega)) ?_) | (refine st_get rfl 24 _ rfl hm rfl 1 rfl one24 (by first | omega | assumption | (simp only [lens]; first | omega | assumption) | (simp [lens]; done) | (simp [lens]; omega)) ?_))) | ((with_reducible refine gt_field 28 1 ?_); refine st_field rfl 28 _ 1 rfl rfl field28_1 ?_) | ((with_reducible refine gt_elem 26 ?_); refine st_elem rfl 26 _ _ rfl rfl rfl arr26 (by first | omega | assumption | (simp only [lens]; first | omega | assumption) | (simp [lens]; done) | (simp [lens]; omega)) (by first | omega | assumption | (simp only [lens]; first | omega | assumption) | (simp [lens]; done) | (simp [lens]; omega)) ?_))
   go_loopw [4] (fun v4 wr => ∃ i : Nat, i ≤ 4 ∧ v4 = .int .i64 i ∧ Aside0 (∀ j : Nat, j < 40 + i → okx (rd L (j : Int)) = true) ∧ Mem w wr [⟨g, vals .i16 L, 28, false⟩]) (fun v4 _ => 4 - (intOf v4).toNat)
   case atStart => exact ⟨0, by omega, rfl, ⟨fun j hj => HJ.out j (by rw [HI.out]; omega)⟩, hm⟩
   case round =>
    obtain ⟨i2, hi2, rfl, HJ2, hm⟩ := hrel
    by_cases hlt : i2 < 4
    ·have hx16 := fits16 (HW.out _ (rd_inI L (40 + (i2 : Int)) (by omega) (by omega)))
     by_cases hx : 0 ≤ rd L (40 + (i2 : Int)) ∧ rd L (40 + (i2 : Int)) ≤ 20
     ·go_wp2_with (first
       | (first | fail | ((with_reducible refine gt_field 28 0 ?_); refine st_field rfl 28 _ 0 rfl rfl field28_0 ?_) | ((with_reducible refine gt_elem 25 ?_); refine st_elem rfl 25 _ _ rfl rfl rfl arr25 (by first | omega | assumption | (simp only [lens]; first | omega | assumption) | (simp [lens]; done) | (simp [lens]; omega)) (by first | omega | assumption | (simp only [lens]; first | omega | assumption) | (simp [lens]; done) | (simp [lens]; omega)) ?_) | ((with_reducible refine gt_load 24 ?_); (first | (refine st_get rfl 24 _ rfl hm rfl 0 rfl one24 (by first | omega | assumption | (simp only [lens]; first | omega | assumption) | (simp [lens]; done) | (simp [lens]; omega)) ?_) | (refine st_get rfl 24 _ rfl hm rfl 1 rfl one24 (by first | omega | assumption | (simp only [lens]; first | omega | assumption) | (simp [lens]; done) | (simp [lens]; omega)) ?_))) | ((with_reducible refine gt_field 28 1 ?_); refine st_field rfl 28 _ 1 rfl rfl field28_1 ?_) | ((with_reducible refine gt_elem 26 ?_); refine st_elem rfl 26 _ _ rfl rfl rfl arr26 (by first | omega | assumption | (simp only [lens]; first | omega | assumption) | (simp [lens]; done) | (simp [lens]; omega)) (by first | omega | assumption | (simp only [lens]; first | omega | assumption) | (simp [lens]; done) | (simp [lens]; omega)) ?_))
       | (go_at_call 58; refine (in_calls _ _ _ _).mono ?_; rintro e wa ⟨rfl, hb⟩; replace hm := hm.after hb; clear hb))
      go_roundw
      case rel =>
       have HX := hx
       exact ⟨i2 + 1, by omega, by go_num, ⟨fun j hj => by
        rcases Nat.lt_or_ge j (40 + i2) with h | h
        ·exact HJ2.out j h
        ·obtain rfl : j = 40 + i2 := by omega
         rw [show ((40 + i2 : Nat) : Int) = 40 + (i2 : Int) by omega]
         simp [okx, HX]⟩, hm⟩
      case measure => simp [intOf]; omega
     ·have HX := Aside0.mk (okL_falseI (L := L) (40 + (i2 : Int)) (by omega) (by omega) (by unfold okx; exact decide_eq_false hx))
      go_wp2_with (first
       | (first | fail | ((with_reducible refine gt_field 28 0 ?_); refine st_field rfl 28 _ 0 rfl rfl field28_0 ?_) | ((with_reducible refine gt_elem 25 ?_); refine st_elem rfl 25 _ _ rfl rfl rfl arr25 (by first | omega | assumption | (simp only [lens]; first | omega | assumption) | (simp [lens]; done) | (simp [lens]; omega)) (by first | omega | assumption | (simp only [lens]; first | omega | assumption) | (simp [lens]; done) | (simp [lens]; omega)) ?_) | ((with_reducible refine gt_load 24 ?_); (first | (refine st_get rfl 24 _ rfl hm rfl 0 rfl one24 (by first | omega | assumption | (simp only [lens]; first | omega | assumption) | (simp [lens]; done) | (simp [lens]; omega)) ?_) | (refine st_get rfl 24 _ rfl hm rfl 1 rfl one24 (by first | omega | assumption | (simp only [lens]; first | omega | assumption) | (simp [lens]; done) | (simp [lens]; omega)) ?_))) | ((with_reducible refine gt_field 28 1 ?_); refine st_field rfl 28 _ 1 rfl rfl field28_1 ?_) | ((with_reducible refine gt_elem 26 ?_); refine st_elem rfl 26 _ _ rfl rfl rfl arr26 (by first | omega | assumption | (simp only [lens]; first | omega | assumption) | (simp [lens]; done) | (simp [lens]; omega)) (by first | omega | assumption | (simp only [lens]; first | omega | assumption) | (simp [lens]; done) | (simp [lens]; omega)) ?_))
       | (go_at_call 58; refine (in_calls _ _ _ _).mono ?_; rintro e wa ⟨rfl, hb⟩; replace hm := hm.after hb; clear hb))
      go_ret
      exact ⟨by rw [HX.out]; rfl, (hm.gives (M := []) rfl).below HG.out⟩
    ·have HX := Aside0.mk (okL_true hl (fun j hj => HJ2.out j (by omega)))
     go_wp2_with (first | fail | ((with_reducible refine gt_field 28 0 ?_); refine st_field rfl 28 _ 0 rfl rfl field28_0 ?_) | ((with_reducible refine gt_elem 25 ?_); refine st_elem rfl 25 _ _ rfl rfl rfl arr25 (by first | omega | assumption | (simp only [lens]; first | omega | assumption) | (simp [lens]; done) | (simp [lens]; omega)) (by first | omega | assumption | (simp only [lens]; first | omega | assumption) | (simp [lens]; done) | (simp [lens]; omega)) ?_) | ((with_reducible refine gt_load 24 ?_); (first | (refine st_get rfl 24 _ rfl hm rfl 0 rfl one24 (by first | omega | assumption | (simp only [lens]; first | omega | assumption) | (simp [lens]; done) | (simp [lens]; omega)) ?_) | (refine st_get rfl 24 _ rfl hm rfl 1 rfl one24 (by first | omega | assumption | (simp only [lens]; first | omega | assumption) | (simp [lens]; done) | (simp [lens]; omega)) ?_))) | ((with_reducible refine gt_field 28 1 ?_); refine st_field rfl 28 _ 1 rfl rfl field28_1 ?_) | ((with_reducible refine gt_elem 26 ?_); refine st_elem rfl 26 _ _ rfl rfl rfl arr26 (by first | omega | assumption | (simp only [lens]; first | omega | assumption) | (simp [lens]; done) | (simp [lens]; omega)) (by first | omega | assumption | (simp only [lens]; first | omega | assumption) | (simp [lens]; done) | (simp [lens]; omega)) ?_))
     go_ret
     exact ⟨by rw [HX.out]; rfl, (hm.gives (M := []) rfl).below HG.out⟩
theorem mix_all (L : List Int) (hl : L.length = 44) : mixTo (mixTo (zs 44) L 0 40) (L.drop 40) 40 4 = L := by
 have h1 : (L.take 40).length = 40 := by simp only [lens]; omega
 unfold mixTo
 simp only [Nat.zero_add, List.take_zero, List.nil_append]
 rw [List.take_left' h1, List.take_of_length_le (l := L.drop 40) (by simp only [lens]; omega), List.drop_of_length_le (i := 40 + 4) (by simp only [lens]; omega), List.append_nil, List.take_append_drop]
set_option maxHeartbeats 4000000 in
set_option maxRecDepth 100000 in
theorem pieces_calls (L : List Int) (w : World) (hl : L.length = 44) (hw : Fits .i16 L) : Calls Tryz.prog 36 #[.agg (vals .i16 L)] w fun e w' =>
  e = .returned (.agg (vals .i64 L)) ∧ Below w.heap.size w w' := by
 have hm := Mem.start w
 have HW := Aside0.mk hw
 have HL := Aside0.mk (halves L hl)
 clear hw
 go_enter Tryz.func36, Tryz.ntmps36
 go_wp2_with (first | fail | ((with_reducible refine gt_box 1 28 ?_); refine st_box rfl 1 rfl 28 _ rfl hm (v := .agg (vals _ _)) rfl (cs := vals _ _) rfl ?_; clear hm; intro g1 w1 hm) | ((with_reducible refine gt_alloc 2 55 ?_); refine st_alloc rfl 2 rfl 55 rfl hm zero55 ?_; clear hm; intro g2 w2 hm) | ((with_reducible refine gt_build 55 ?_); refine st_zero rfl 55 rfl built55 ?_) | ((with_reducible refine gt_alloc 3 55 ?_); refine st_alloc rfl 3 rfl 55 rfl hm zero55 ?_; clear hm; intro g3 w3 hm) | ((with_reducible refine gt_store 55 ?_); (first | (refine st_full rfl 55 _ _ rfl hm rfl rfl 0 rfl agg55 (by first | omega | assumption | (simp only [lens]; first | omega | assumption) | (simp [lens]; done) | (simp [lens]; omega)) (by first | omega | assumption | (simp only [lens]; first | omega | assumption) | (simp [lens]; done) | (simp [lens]; omega)) ?_) | (refine st_full rfl 55 _ _ rfl hm rfl rfl 1 rfl agg55 (by first | omega | assumption | (simp only [lens]; first | omega | assumption) | (simp [lens]; done) | (simp [lens]; omega)) (by first | omega | assumption | (simp only [lens]; first | omega | assumption) | (simp [lens]; done) | (simp [lens]; omega)) ?_) | (refine st_full rfl 55 _ _ rfl hm rfl rfl 2 rfl agg55 (by first | omega | assumption | (simp only [lens]; first | omega | assumption) | (simp [lens]; done) | (simp [lens]; omega)) (by first | omega | assumption | (simp only [lens]; first | omega | assumption) | (simp [lens]; done) | (simp [lens]; omega)) ?_) | (refine st_full rfl 55 _ _ rfl hm rfl rfl 3 rfl agg55 (by first | omega | assumption | (simp only [lens]; first | omega | assumption) | (simp [lens]; done) | (simp [lens]; omega)) (by first | omega | assumption | (simp only [lens]; first | omega | assumption) | (simp [lens]; done) | (simp [lens]; omega)) ?_) | (refine st_full rfl 55 _ _ rfl hm rfl rfl 4 rfl agg55 (by first | omega | assumption | (simp only [lens]; first | omega | assumption) | (simp [lens]; done) | (simp [lens]; omega)) (by first | omega | assumption | (simp only [lens]; first | omega | assumption) | (simp [lens]; done) | (simp [lens]; omega)) ?_)); clear hm; intro ws hm; simp only [List.set_cons_zero, List.set_cons_succ] at hm) | ((with_reducible refine gt_field 28 0 ?_); refine st_field rfl 28 _ 0 rfl rfl field28_0 ?_) | ((with_reducible refine gt_load 25 ?_); (first | (refine st_part rfl 25 _ rfl hm rfl 0 rfl agg25 (by first | omega | assumption | (simp only [lens]; first | omega | assumption) | (simp [lens]; done) | (simp [lens]; omega)) ?_) | (refine st_part rfl 25 _ rfl hm rfl 1 rfl agg25 (by first | omega | assumption | (simp only [lens]; first | omega | assumption) | (simp [lens]; done) | (simp [lens]; omega)) ?_) | (refine st_part rfl 25 _ rfl hm rfl 2 rfl agg25 (by first | omega | assumption | (simp only [lens]; first | omega | assumption) | (simp [lens]; done) | (simp [lens]; omega)) ?_) | (refine st_part rfl 25 _ rfl hm rfl 3 rfl agg25 (by first | omega | assumption | (simp only [lens]; first | omega | assumption) | (simp [lens]; done) | (simp [lens]; omega)) ?_) | (refine st_part rfl 25 _ rfl hm rfl 4 rfl agg25 (by first | omega | assumption | (simp only [lens]; first | omega | assumption) | (simp [lens]; done) | (simp [lens]; omega)) ?_))) | ((with_reducible refine gt_index 25 ?_); refine st_index rfl 25 _ _ rfl rfl rfl arr25 (by first | omega | assumption | (simp only [lens]; first | omega | assumption) | (simp [lens]; done) | (simp [lens]; omega)) (by first | omega | assumption | (simp only [lens]; first | omega | assumption) | (simp [lens]; done) | (simp [lens]; omega)) (by first | omega | assumption | (simp only [lens]; first | omega | assumption) | (simp [lens]; done) | (simp [lens]; omega)) ?_) | ((with_reducible refine gt_field 55 0 ?_); refine st_field rfl 55 _ 0 rfl rfl field55_0 ?_) | ((with_reducible refine gt_elem 52 ?_); refine st_elem rfl 52 _ _ rfl rfl rfl arr52 (by first | omega | assumption | (simp only [lens]; first | omega | assumption) | (simp [lens]; done) | (simp [lens]; omega)) (by first | omega | assumption | (simp only [lens]; first | omega | assumption) | (simp [lens]; done) | (simp [lens]; omega)) ?_) | ((with_reducible refine gt_store 3 ?_); (first | (refine st_set rfl 3 _ _ rfl hm rfl rfl 0 rfl one3 (by first | omega | assumption | (simp only [lens]; first | omega | assumption) | (simp [lens]; done) | (simp [lens]; omega)) ?_) | (refine st_set rfl 3 _ _ rfl hm rfl rfl 1 rfl one3 (by first | omega | assumption | (simp only [lens]; first | omega | assumption) | (simp [lens]; done) | (simp [lens]; omega)) ?_) | (refine st_set rfl 3 _ _ rfl hm rfl rfl 2 rfl one3 (by first | omega | assumption | (simp only [lens]; first | omega | assumption) | (simp [lens]; done) | (simp [lens]; omega)) ?_) | (refine st_set rfl 3 _ _ rfl hm rfl rfl 3 rfl one3 (by first | omega | assumption | (simp only [lens]; first | omega | assumption) | (simp [lens]; done) | (simp [lens]; omega)) ?_) | (refine st_set rfl 3 _ _ rfl hm rfl rfl 4 rfl one3 (by first | omega | assumption | (simp only [lens]; first | omega | assumption) | (simp [lens]; done) | (simp [lens]; omega)) ?_)); clear hm; intro ws hm; simp only [List.set_cons_zero, List.set_cons_succ] at hm) | ((with_reducible refine gt_field 28 1 ?_); refine st_field rfl 28 _ 1 rfl rfl field28_1 ?_) | ((with_reducible refine gt_load 26 ?_); (first | (refine st_part rfl 26 _ rfl hm rfl 0 rfl agg26 (by first | omega | assumption | (simp only [lens]; first | omega | assumption) | (simp [lens]; done) | (simp [lens]; omega)) ?_) | (refine st_part rfl 26 _ rfl hm rfl 1 rfl agg26 (by first | omega | assumption | (simp only [lens]; first | omega | assumption) | (simp [lens]; done) | (simp [lens]; omega)) ?_) | (refine st_part rfl 26 _ rfl hm rfl 2 rfl agg26 (by first | omega | assumption | (simp only [lens]; first | omega | assumption) | (simp [lens]; done) | (simp [lens]; omega)) ?_) | (refine st_part rfl 26 _ rfl hm rfl 3 rfl agg26 (by first | omega | assumption | (simp only [lens]; first | omega | assumption) | (simp [lens]; done) | (simp [lens]; omega)) ?_) | (refine st_part rfl 26 _ rfl hm rfl 4 rfl agg26 (by first | omega | assumption | (simp only [lens]; first | omega | assumption) | (simp [lens]; done) | (simp [lens]; omega)) ?_))) | ((with_reducible refine gt_index 26 ?_); refine st_index rfl 26 _ _ rfl rfl rfl arr26 (by first | omega | assumption | (simp only [lens]; first | omega | assumption) | (simp [lens]; done) | (simp [lens]; omega)) (by first | omega | assumption | (simp only [lens]; first | omega | assumption) | (simp [lens]; done) | (simp [lens]; omega)) (by first | omega | assumption | (simp only [lens]; first | omega | assumption) | (simp [lens]; done) | (simp [lens]; omega)) ?_) | ((with_reducible refine gt_field 55 1 ?_); refine st_field rfl 55 _ 1 rfl rfl field55_1 ?_) | ((with_reducible refine gt_elem 53 ?_); refine st_elem rfl 53 _ _ rfl rfl rfl arr53 (by first | omega | assumption | (simp only [lens]; first | omega | assumption) | (simp [lens]; done) | (simp [lens]; omega)) (by first | omega | assumption | (simp only [lens]; first | omega | assumption) | (simp [lens]; done) | (simp [lens]; omega)) ?_) | ((with_reducible refine gt_load 55 ?_); (first | (refine st_load rfl 55 _ rfl hm rfl 0 rfl agg55 (by first | omega | assumption | (simp only [lens]; first | omega | assumption) | (simp [lens]; done) | (simp [lens]; omega)) ?_) | (refine st_load rfl 55 _ rfl hm rfl 1 rfl agg55 (by first | omega | assumption | (simp only [lens]; first | omega | assumption) | (simp [lens]; done) | (simp [lens]; omega)) ?_) | (refine st_load rfl 55 _ rfl hm rfl 2 rfl agg55 (by first | omega | assumption | (simp only [lens]; first | omega | assumption) | (simp [lens]; done) | (simp [lens]; omega)) ?_) | (refine st_load rfl 55 _ rfl hm rfl 3 rfl agg55 (by first | omega | assumption | (simp only [lens]; first | omega | assumption) | (simp [lens]; done) | (simp [lens]; omega)) ?_) | (refine st_load rfl 55 _ rfl hm rfl 4 rfl agg55 (by first | omega | assumption | (simp only [lens]; first | omega | assumption) | (simp [lens]; done) | (simp [lens]; omega)) ?_))))
 go_loopw [11, 4, 5] (fun v11 v4 v5 wr => ∃ i : Nat, i ≤ 40 ∧ v11 = .int .i64 i ∧ Mem w wr [⟨g3, vals .i64 (mixTo (zs 44) L 0 i), 55, true⟩, ⟨g2, vals .i64 (zs 44), 55, true⟩, ⟨g1, vals .i16 L, 28, true⟩]) (fun v11 _ _ _ => 40 - (intOf v11).toNat)
 case atStart => exact ⟨0, by omega, rfl, by rw [mixTo_zero]; exact hm⟩
 case round =>
  obtain ⟨i, hi, rfl, hm⟩ := hrel
  have hl2 := mixTo_length (zs 44) L 0 i (by rw [zs_length]; omega) (by omega)
  rw [zs_length] at hl2
  by_cases hlt : i < 40
  ·have HR := Aside0.mk (rd_take L i 40 (by omega) (by omega))
   have hx16 := fits16 (HW.out _ (rd_in L i (by omega)))
   rw [← HR.out] at hx16
   go_wp2_with (first | fail | ((with_reducible refine gt_box 1 28 ?_); refine st_box rfl 1 rfl 28 _ rfl hm (v := .agg (vals _ _)) rfl (cs := vals _ _) rfl ?_; clear hm; intro g1 w1 hm) | ((with_reducible refine gt_alloc 2 55 ?_); refine st_alloc rfl 2 rfl 55 rfl hm zero55 ?_; clear hm; intro g2 w2 hm) | ((with_reducible refine gt_build 55 ?_); refine st_zero rfl 55 rfl built55 ?_) | ((with_reducible refine gt_alloc 3 55 ?_); refine st_alloc rfl 3 rfl 55 rfl hm zero55 ?_; clear hm; intro g3 w3 hm) | ((with_reducible refine gt_store 55 ?_); (first | (refine st_full rfl 55 _ _ rfl hm rfl rfl 0 rfl agg55 (by first | omega | assumption | (simp only [lens]; first | omega | assumption) | (simp [lens]; done) | (simp [lens]; omega)) (by first | omega | assumption | (simp only [lens]; first | omega | assumption) | (simp [lens]; done) | (simp [lens]; omega)) ?_) | (refine st_full rfl 55 _ _ rfl hm rfl rfl 1 rfl agg55 (by first | omega | assumption | (simp only [lens]; first | omega | assumption) | (simp [lens]; done) | (simp [lens]; omega)) (by first | omega | assumption | (simp only [lens]; first | omega | assumption) | (simp [lens]; done) | (simp [lens]; omega)) ?_) | (refine st_full rfl 55 _ _ rfl hm rfl rfl 2 rfl agg55 (by first | omega | assumption | (simp only [lens]; first | omega | assumption) | (simp [lens]; done) | (simp [lens]; omega)) (by first | omega | assumption | (simp only [lens]; first | omega | assumption) | (simp [lens]; done) | (simp [lens]; omega)) ?_) | (refine st_full rfl 55 _ _ rfl hm rfl rfl 3 rfl agg55 (by first | omega | assumption | (simp only [lens]; first | omega | assumption) | (simp [lens]; done) | (simp [lens]; omega)) (by first | omega | assumption | (simp only [lens]; first | omega | assumption) | (simp [lens]; done) | (simp [lens]; omega)) ?_) | (refine st_full rfl 55 _ _ rfl hm rfl rfl 4 rfl agg55 (by first | omega | assumption | (simp only [lens]; first | omega | assumption) | (simp [lens]; done) | (simp [lens]; omega)) (by first | omega | assumption | (simp only [lens]; first | omega | assumption) | (simp [lens]; done) | (simp [lens]; omega)) ?_)); clear hm; intro ws hm; simp only [List.set_cons_zero, List.set_cons_succ] at hm) | ((with_reducible refine gt_field 28 0 ?_); refine st_field rfl 28 _ 0 rfl rfl field28_0 ?_) | ((with_reducible refine gt_load 25 ?_); (first | (refine st_part rfl 25 _ rfl hm rfl 0 rfl agg25 (by first | omega | assumption | (simp only [lens]; first | omega | assumption) | (simp [lens]; done) | (simp [lens]; omega)) ?_) | (refine st_part rfl 25 _ rfl hm rfl 1 rfl agg25 (by first | omega | assumption | (simp only [lens]; first | omega | assumption) | (simp [lens]; done) | (simp [lens]; omega)) ?_) | (refine st_part rfl 25 _ rfl hm rfl 2 rfl agg25 (by first | omega | assumption | (simp only [lens]; first | omega | assumption) | (simp [lens]; done) | (simp [lens]; omega)) ?_) | (refine st_part rfl 25 _ rfl hm rfl 3 rfl agg25 (by first | omega | assumption | (simp only [lens]; first | omega | assumption) | (simp [lens]; done) | (simp [lens]; omega)) ?_) | (refine st_part rfl 25 _ rfl hm rfl 4 rfl agg25 (by first | omega | assumption | (simp only [lens]; first | omega | assumption) | (simp [lens]; done) | (simp [lens]; omega)) ?_))) | ((with_reducible refine gt_index 25 ?_); refine st_index rfl 25 _ _ rfl rfl rfl arr25 (by first | omega | assumption | (simp only [lens]; first | omega | assumption) | (simp [lens]; done) | (simp [lens]; omega)) (by first | omega | assumption | (simp only [lens]; first | omega | assumption) | (simp [lens]; done) | (simp [lens]; omega)) (by first | omega | assumption | (simp only [lens]; first | omega | assumption) | (simp [lens]; done) | (simp [lens]; omega)) ?_) | ((with_reducible refine gt_field 55 0 ?_); refine st_field rfl 55 _ 0 rfl rfl field55_0 ?_) | ((with_reducible refine gt_elem 52 ?_); refine st_elem rfl 52 _ _ rfl rfl rfl arr52 (by first | omega | assumption | (simp only [lens]; first | omega | assumption) | (simp [lens]; done) | (simp [lens]; omega)) (by first | omega | assumption | (simp only [lens]; first | omega | assumption) | (simp [lens]; done) | (simp [lens]; omega)) ?_) | ((with_reducible refine gt_store 3 ?_); (first | (refine st_set rfl 3 _ _ rfl hm rfl rfl 0 rfl one3 (by first | omega | assumption | (simp only [lens]; first | omega | assumption) | (simp [lens]; done) | (simp [lens]; omega)) ?_) | (refine st_set rfl 3 _ _ rfl hm rfl rfl 1 rfl one3 (by first | omega | assumption | (simp only [lens]; first | omega | assumption) | (simp [lens]; done) | (simp [lens]; omega)) ?_) | (refine st_set rfl 3 _ _ rfl hm rfl rfl 2 rfl one3 (by first | omega | assumption | (simp only [lens]; first | omega | assumption) | (simp [lens]; done) | (simp [lens]; omega)) ?_) | (refine st_set rfl 3 _ _ rfl hm rfl rfl 3 rfl one3 (by first | omega | assumption | (simp only [lens]; first | omega | assumption) | (simp [lens]; done) | (simp [lens]; omega)) ?_) | (refine st_set rfl 3 _ _ rfl hm rfl rfl 4 rfl one3 (by first | omega | assumption | (simp only [lens]; first | omega | assumption) | (simp [lens]; done) | (simp [lens]; omega)) ?_)); clear hm; intro ws hm; simp only [List.set_cons_zero, List.set_cons_succ] at hm) | ((with_reducible refine gt_field 28 1 ?_); refine st_field rfl 28 _ 1 rfl rfl field28_1 ?_) | ((with_reducible refine gt_load 26 ?_); (first | (refine st_part rfl 26 _ rfl hm rfl 0 rfl agg26 (by first | omega | assumption | (simp only [lens]; first | omega | assumption) | (simp [lens]; done) | (simp [lens]; omega)) ?_) | (refine st_part rfl 26 _ rfl hm rfl 1 rfl agg26 (by first | omega | assumption | (simp only [lens]; first | omega | assumption) | (simp [lens]; done) | (simp [lens]; omega)) ?_) | (refine st_part rfl 26 _ rfl hm rfl 2 rfl agg26 (by first | omega | assumption | (simp only [lens]; first | omega | assumption) | (simp [lens]; done) | (simp [lens]; omega)) ?_) | (refine st_part rfl 26 _ rfl hm rfl 3 rfl agg26 (by first | omega | assumption | (simp only [lens]; first | omega | assumption) | (simp [lens]; done) | (simp [lens]; omega)) ?_) | (refine st_part rfl 26 _ rfl hm rfl 4 rfl agg26 (by first | omega | assumption | (simp only [lens]; first | omega | assumption) | (simp [lens]; done) | (simp [lens]; omega)) ?_))) | ((with_reducible refine gt_index 26 ?_); refine st_index rfl 26 _ _ rfl rfl rfl arr26 (by first | omega | assumption | (simp only [lens]; first | omega | assumption) | (simp [lens]; done) | (simp [lens]; omega)) (by first | omega | assumption | (simp only [lens]; first | omega | assumption) | (simp [lens]; done) | (simp [lens]; omega)) (by first | omega | assumption | (simp only [lens]; first | omega | assumption) | (simp [lens]; done) | (simp [lens]; omega)) ?_) | ((with_reducible refine gt_field 55 1 ?_); refine st_field rfl 55 _ 1 rfl rfl field55_1 ?_) | ((with_reducible refine gt_elem 53 ?_); refine st_elem rfl 53 _ _ rfl rfl rfl arr53 (by first | omega | assumption | (simp only [lens]; first | omega | assumption) | (simp [lens]; done) | (simp [lens]; omega)) (by first | omega | assumption | (simp only [lens]; first | omega | assumption) | (simp [lens]; done) | (simp [lens]; omega)) ?_) | ((with_reducible refine gt_load 55 ?_); (first | (refine st_load rfl 55 _ rfl hm rfl 0 rfl agg55 (by first | omega | assumption | (simp only [lens]; first | omega | assumption) | (simp [lens]; done) | (simp [lens]; omega)) ?_) | (refine st_load rfl 55 _ rfl hm rfl 1 rfl agg55 (by first | omega | assumption | (simp only [lens]; first | omega | assumption) | (simp [lens]; done) | (simp [lens]; omega)) ?_) | (refine st_load rfl 55 _ rfl hm rfl 2 rfl agg55 (by first | omega | assumption | (simp only [lens]; first | omega | assumption) | (simp [lens]; done) | (simp [lens]; omega)) ?_) | (refine st_load rfl 55 _ rfl hm rfl 3 rfl agg55 (by first | omega | assumption | (simp only [lens]; first | omega | assumption) | (simp [lens]; done) | (simp [lens]; omega)) ?_) | (refine st_load rfl 55 _ rfl hm rfl 4 rfl agg55 (by first | omega | assumption | (simp only [lens]; first | omega | assumption) | (simp [lens]; done) | (simp [lens]; omega)) ?_))))
   go_roundw
   case rel =>
    refine ⟨i + 1, by omega, by go_num, ?_⟩
    rw [← mixTo_succ (zs 44) L 0 i (by rw [zs_length]; omega) (by omega), ← HR.out]
    simpa using hm
   case measure => simp [intOf]; omega
  ·have HI := Aside0.mk (show i = 40 by omega)
   generalize hF : mixTo (zs 44) L 0 i = F at *
   have HF := Aside0.mk hF
   clear hF
   go_wp2_with (first | fail | ((with_reducible refine gt_box 1 28 ?_); refine st_box rfl 1 rfl 28 _ rfl hm (v := .agg (vals _ _)) rfl (cs := vals _ _) rfl ?_; clear hm; intro g1 w1 hm) | ((with_reducible refine gt_alloc 2 55 ?_); refine st_alloc rfl 2 rfl 55 rfl hm zero55 ?_; clear hm; intro g2 w2 hm) | ((with_reducible refine gt_build 55 ?_); refine st_zero rfl 55 rfl built55 ?_) | ((with_reducible refine gt_alloc 3 55 ?_); refine st_alloc rfl 3 rfl 55 rfl hm zero55 ?_; clear hm; intro g3 w3 hm) | ((with_reducible refine gt_store 55 ?_); (first | (refine st_full rfl 55 _ _ rfl hm rfl rfl 0 rfl agg55 (by first | omega | assumption | (simp only [lens]; first | omega | assumption) | (simp [lens]; done) | (simp [lens]; omega)) (by first | omega | assumption | (simp only [lens]; first | omega | assumption) | (simp [lens]; done) | (simp [lens]; omega)) ?_) | (refine st_full rfl 55 _ _ rfl hm rfl rfl 1 rfl agg55 (by first | omega | assumption | (simp only [lens]; first | omega | assumption) | (simp [lens]; done) | (simp [lens]; omega)) (by first | omega | assumption | (simp only [lens]; first | omega | assumption) | (simp [lens]; done) | (simp [lens]; omega)) ?_) | (refine st_full rfl 55 _ _ rfl hm rfl rfl 2 rfl agg55 (by first | omega | assumption | (simp only [lens]; first | omega | assumption) | (simp [lens]; done) | (simp [lens]; omega)) (by first | omega | assumption | (simp only [lens]; first | omega | assumption) | (simp [lens]; done) | (simp [lens]; omega)) ?_) | (refine st_full rfl 55 _ _ rfl hm rfl rfl 3 rfl agg55 (by first | omega | assumption | (simp only [lens]; first | omega | assumption) | (simp [lens]; done) | (simp [lens]; omega)) (by first | omega | assumption | (simp only [lens]; first | omega | assumption) | (simp [lens]; done) | (simp [lens]; omega)) ?_) | (refine st_full rfl 55 _ _ rfl hm rfl rfl 4 rfl agg55 (by first | omega | assumption | (simp only [lens]; first | omega | assumption) | (simp [lens]; done) | (simp [lens]; omega)) (by first | omega | assumption | (simp only [lens]; first | omega | assumption) | (simp [lens]; done) | (simp [lens]; omega)) ?_)); clear hm; intro ws hm; simp only [List.set_cons_zero, List.set_cons_succ] at hm) | ((with_reducible refine gt_field 28 0 ?_); refine st_field rfl 28 _ 0 rfl rfl field28_0 ?_) | ((with_reducible refine gt_load 25 ?_); (first | (refine st_part rfl 25 _ rfl hm rfl 0 rfl agg25 (by first | omega | assumption | (simp only [lens]; first | omega | assumption) | (simp [lens]; done) | (simp [lens]; omega)) ?_) | (refine st_part rfl 25 _ rfl hm rfl 1 rfl agg25 (by first | omega | assumption | (simp only [lens]; first | omega | assumption) | (simp [lens]; done) | (simp [lens]; omega)) ?_) | (refine st_part rfl 25 _ rfl hm rfl 2 rfl agg25 (by first | omega | assumption | (simp only [lens]; first | omega | assumption) | (simp [lens]; done) | (simp [lens]; omega)) ?_) | (refine st_part rfl 25 _ rfl hm rfl 3 rfl agg25 (by first | omega | assumption | (simp only [lens]; first | omega | assumption) | (simp [lens]; done) | (simp [lens]; omega)) ?_) | (refine st_part rfl 25 _ rfl hm rfl 4 rfl agg25 (by first | omega | assumption | (simp only [lens]; first | omega | assumption) | (simp [lens]; done) | (simp [lens]; omega)) ?_))) | ((with_reducible refine gt_index 25 ?_); refine st_index rfl 25 _ _ rfl rfl rfl arr25 (by first | omega | assumption | (simp only [lens]; first | omega | assumption) | (simp [lens]; done) | (simp [lens]; omega)) (by first | omega | assumption | (simp only [lens]; first | omega | assumption) | (simp [lens]; done) | (simp [lens]; omega)) (by first | omega | assumption | (simp only [lens]; first | omega | assumption) | (simp [lens]; done) | (simp [lens]; omega)) ?_) | ((with_reducible refine gt_field 55 0 ?_); refine st_field rfl 55 _ 0 rfl rfl field55_0 ?_) | ((with_reducible refine gt_elem 52 ?_); refine st_elem rfl 52 _ _ rfl rfl rfl arr52 (by first | omega | assumption | (simp only [lens]; first | omega | assumption) | (simp [lens]; done) | (simp [lens]; omega)) (by first | omega | assumption | (simp only [lens]; first | omega | assumption) | (simp [lens]; done) | (simp [lens]; omega)) ?_) | ((with_reducible refine gt_store 3 ?_); (first | (refine st_set rfl 3 _ _ rfl hm rfl rfl 0 rfl one3 (by first | omega | assumption | (simp only [lens]; first | omega | assumption) | (simp [lens]; done) | (simp [lens]; omega)) ?_) | (refine st_set rfl 3 _ _ rfl hm rfl rfl 1 rfl one3 (by first | omega | assumption | (simp only [lens]; first | omega | assumption) | (simp [lens]; done) | (simp [lens]; omega)) ?_) | (refine st_set rfl 3 _ _ rfl hm rfl rfl 2 rfl one3 (by first | omega | assumption | (simp only [lens]; first | omega | assumption) | (simp [lens]; done) | (simp [lens]; omega)) ?_) | (refine st_set rfl 3 _ _ rfl hm rfl rfl 3 rfl one3 (by first | omega | assumption | (simp only [lens]; first | omega | assumption) | (simp [lens]; done) | (simp [lens]; omega)) ?_) | (refine st_set rfl 3 _ _ rfl hm rfl rfl 4 rfl one3 (by first | omega | assumption | (simp only [lens]; first | omega | assumption) | (simp [lens]; done) | (simp [lens]; omega)) ?_)); clear hm; intro ws hm; simp only [List.set_cons_zero, List.set_cons_succ] at hm) | ((with_reducible refine gt_field 28 1 ?_); refine st_field rfl 28 _ 1 rfl rfl field28_1 ?_) | ((with_reducible refine gt_load 26 ?_); (first | (refine st_part rfl 26 _ rfl hm rfl 0 rfl agg26 (by first | omega | assumption | (simp only [lens]; first | omega | assumption) | (simp [lens]; done) | (simp [lens]; omega)) ?_) | (refine st_part rfl 26 _ rfl hm rfl 1 rfl agg26 (by first | omega | assumption | (simp only [lens]; first | omega | assumption) | (simp [lens]; done) | (simp [lens]; omega)) ?_) | (refine st_part rfl 26 _ rfl hm rfl 2 rfl agg26 (by first | omega | assumption | (simp only [lens]; first | omega | assumption) | (simp [lens]; done) | (simp [lens]; omega)) ?_) | (refine st_part rfl 26 _ rfl hm rfl 3 rfl agg26 (by first | omega | assumption | (simp only [lens]; first | omega | assumption) | (simp [lens]; done) | (simp [lens]; omega)) ?_) | (refine st_part rfl 26 _ rfl hm rfl 4 rfl agg26 (by first | omega | assumption | (simp only [lens]; first | omega | assumption) | (simp [lens]; done) | (simp [lens]; omega)) ?_))) | ((with_reducible refine gt_index 26 ?_); refine st_index rfl 26 _ _ rfl rfl rfl arr26 (by first | omega | assumption | (simp only [lens]; first | omega | assumption) | (simp [lens]; done) | (simp [lens]; omega)) (by first | omega | assumption | (simp only [lens]; first | omega | assumption) | (simp [lens]; done) | (simp [lens]; omega)) (by first | omega | assumption | (simp only [lens]; first | omega | assumption) | (simp [lens]; done) | (simp [lens]; omega)) ?_) | ((with_reducible refine gt_field 55 1 ?_); refine st_field rfl 55 _ 1 rfl rfl field55_1 ?_) | ((with_reducible refine gt_elem 53 ?_); refine st_elem rfl 53 _ _ rfl rfl rfl arr53 (by first | omega | assumption | (simp only [lens]; first | omega | assumption) | (simp [lens]; done) | (simp [lens]; omega)) (by first | omega | assumption | (simp only [lens]; first | omega | assumption) | (simp [lens]; done) | (simp [lens]; omega)) ?_) | ((with_reducible refine gt_load 55 ?_); (first | (refine st_load rfl 55 _ rfl hm rfl 0 rfl agg55 (by first | omega | assumption | (simp only [lens]; first | omega | assumption) | (simp [lens]; done) | (simp [lens]; omega)) ?_) | (refine st_load rfl 55 _ rfl hm rfl 1 rfl agg55 (by first | omega | assumption | (simp only [lens]; first | omega | assumption) | (simp [lens]; done) | (simp [lens]; omega)) ?_) | (refine st_load rfl 55 _ rfl hm rfl 2 rfl agg55 (by first | omega | assumption | (simp only [lens]; first | omega | assumption) | (simp [lens]; done) | (simp [lens]; omega)) ?_) | (refine st_load rfl 55 _ rfl hm rfl 3 rfl agg55 (by first | omega | assumption | (simp only [lens]; first | omega | assumption) | (simp [lens]; done) | (simp [lens]; omega)) ?_) | (refine st_load rfl 55 _ rfl hm rfl 4 rfl agg55 (by first | omega | assumption | (simp only [lens]; first | omega | assumption) | (simp [lens]; done) | (simp [lens]; omega)) ?_))))
   go_loopw [23, 6, 7] (fun v23 v6 v7 wr => ∃ i : Nat, i ≤ 4 ∧ v23 = .int .i64 i ∧ Mem w wr [⟨g3, vals .i64 (mixTo F (L.drop 40) 40 i), 55, true⟩, ⟨g2, vals .i64 (zs 44), 55, true⟩, ⟨g1, vals .i16 L, 28, true⟩]) (fun v23 _ _ _ => 4 - (intOf v23).toNat)
   case atStart => exact ⟨0, by omega, rfl, by rw [mixTo_zero]; exact hm⟩
   case round =>
    obtain ⟨i2, hi2, rfl, hm⟩ := hrel
    have hl3 := mixTo_length F (L.drop 40) 40 i2 (by omega) (by simp; omega)
    by_cases hlt : i2 < 4
    ·have HR := Aside0.mk (rd_take (L.drop 40) i2 4 (by omega) (by simp; omega))
     have hx16 := fits16 (HW.out _ (List.mem_of_mem_drop (rd_in (L.drop 40) i2 (by simp; omega))))
     rw [← HR.out] at hx16
     go_wp2_with (first | fail | ((with_reducible refine gt_box 1 28 ?_); refine st_box rfl 1 rfl 28 _ rfl hm (v := .agg (vals _ _)) rfl (cs := vals _ _) rfl ?_; clear hm; intro g1 w1 hm) | ((with_reducible refine gt_alloc 2 55 ?_); refine st_alloc rfl 2 rfl 55 rfl hm zero55 ?_; clear hm; intro g2 w2 hm) | ((with_reducible refine gt_build 55 ?_); refine st_zero rfl 55 rfl built55 ?_) | ((with_reducible refine gt_alloc 3 55 ?_); refine st_alloc rfl 3 rfl 55 rfl hm zero55 ?_; clear hm; intro g3 w3 hm) | ((with_reducible refine gt_store 55 ?_); (first | (refine st_full rfl 55 _ _ rfl hm rfl rfl 0 rfl agg55 (by first | omega | assumption | (simp only [lens]; first | omega | assumption) | (simp [lens]; done) | (simp [lens]; omega)) (by first | omega | assumption | (simp only [lens]; first | omega | assumption) | (simp [lens]; done) | (simp [lens]; omega)) ?_) | (refine st_full rfl 55 _ _ rfl hm rfl rfl 1 rfl agg55 (by first | omega | assumption | (simp only [lens]; first | omega | assumption) | (simp [lens]; done) | (simp [lens]; omega)) (by first | omega | assumption | (simp only [lens]; first | omega | assumption) | (simp [lens]; done) | (simp [lens]; omega)) ?_) | (refine st_full rfl 55 _ _ rfl hm rfl rfl 2 rfl agg55 (by first | omega | assumption | (simp only [lens]; first | omega | assumption) | (simp [lens]; done) | (simp [lens]; omega)) (by first | omega | assumption | (simp only [lens]; first | omega | assumption) | (simp [lens]; done) | (simp [lens]; omega)) ?_) | (refine st_full rfl 55 _ _ rfl hm rfl rfl 3 rfl agg55 (by first | omega | assumption | (simp only [lens]; first | omega | assumption) | (simp [lens]; done) | (simp [lens]; omega)) (by first | omega | assumption | (simp only [lens]; first | omega | assumption) | (simp [lens]; done) | (simp [lens]; omega)) ?_) | (refine st_full rfl 55 _ _ rfl hm rfl rfl 4 rfl agg55 (by first | omega | assumption | (simp only [lens]; first | omega | assumption) | (simp [lens]; done) | (simp [lens]; omega)) (by first | omega | assumption | (simp only [lens]; first | omega | assumption) | (simp [lens]; done) | (simp [lens]; omega)) ?_)); clear hm; intro ws hm; simp only [List.set_cons_zero, List.set_cons_succ] at hm) | ((with_reducible refine gt_field 28 0 ?_); refine st_field rfl 28 _ 0 rfl rfl field28_0 ?_) | ((with_reducible refine gt_load 25 ?_); (first | (refine st_part rfl 25 _ rfl hm rfl 0 rfl agg25 (by first | omega | assumption | (simp only [lens]; first | omega | assumption) | (simp [lens]; done) | (simp [lens]; omega)) ?_) | (refine st_part rfl 25 _ rfl hm rfl 1 rfl agg25 (by first | omega | assumption | (simp only [lens]; first | omega | assumption) | (simp [lens]; done) | (simp [lens]; omega)) ?_) | (refine st_part rfl 25 _ rfl hm rfl 2 rfl agg25 (by first | omega | assumption | (simp only [lens]; first | omega | assumption) | (simp [lens]; done) | (simp [lens]; omega)) ?_) | (refine st_part rfl 25 _ rfl hm rfl 3 rfl agg25 (by first | omega | assumption | (simp only [lens]; first | omega | assumption) | (simp [lens]; done) | (simp [lens]; omega)) ?_) | (refine st_part rfl 25 _ rfl hm rfl 4 rfl agg25 (by first | omega | assumption | (simp only [lens]; first | omega | assumption) | (simp [lens]; done) | (simp [lens]; omega)) ?_))) | ((with_reducible refine gt_index 25 ?_); refine st_index rfl 25 _ _ rfl rfl rfl arr25 (by first | omega | assumption | (simp only [lens]; first | omega | assumption) | (simp [lens]; done) | (simp [lens]; omega)) (by first | omega | assumption | (simp only [lens]; first | omega | assumption) | (simp [lens]; done) | (simp [lens]; omega)) (by first | omega | assumption | (simp only [lens]; first | omega | assumption) | (simp [lens]; done) | (simp [lens]; omega)) ?_) | ((with_reducible refine gt_field 55 0 ?_); refine st_field rfl 55 _ 0 rfl rfl field55_0 ?_) | ((with_reducible refine gt_elem 52 ?_); refine st_elem rfl 52 _ _ rfl rfl rfl arr52 (by first | omega | assumption | (simp only [lens]; first | omega | assumption) | (simp [lens]; done) | (simp [lens]; omega)) (by first | omega | assumption | (simp only [lens]; first | omega | assumption) | (simp [lens]; done) | (simp [lens]; omega)) ?_) | ((with_reducible refine gt_store 3 ?_); (first | (refine st_set rfl 3 _ _ rfl hm rfl rfl 0 rfl one3 (by first | omega | assumption | (simp only [lens]; first | omega | assumption) | (simp [lens]; done) | (simp [lens]; omega)) ?_) | (refine st_set rfl 3 _ _ rfl hm rfl rfl 1 rfl one3 (by first | omega | assumption | (simp only [lens]; first | omega | assumption) | (simp [lens]; done) | (simp [lens]; omega)) ?_) | (refine st_set rfl 3 _ _ rfl hm rfl rfl 2 rfl one3 (by first | omega | assumption | (simp only [lens]; first | omega | assumption) | (simp [lens]; done) | (simp [lens]; omega)) ?_) | (refine st_set rfl 3 _ _ rfl hm rfl rfl 3 rfl one3 (by first | omega | assumption | (simp only [lens]; first | omega | assumption) | (simp [lens]; done) | (simp [lens]; omega)) ?_) | (refine st_set rfl 3 _ _ rfl hm rfl rfl 4 rfl one3 (by first | omega | assumption | (simp only [lens]; first | omega | assumption) | (simp [lens]; done) | (simp [lens]; omega)) ?_)); clear hm; intro ws hm; simp only [List.set_cons_zero, List.set_cons_succ] at hm) | ((with_reducible refine gt_field 28 1 ?_); refine st_field rfl 28 _ 1 rfl rfl field28_1 ?_) | ((with_reducible refine gt_load 26 ?_); (first | (refine st_part rfl 26 _ rfl hm rfl 0 rfl agg26 (by first | omega | assumption | (simp only [lens]; first | omega | assumption) | (simp [lens]; done) | (simp [lens]; omega)) ?_) | (refine st_part rfl 26 _ rfl hm rfl 1 rfl agg26 (by first | omega | assumption | (simp only [lens]; first | omega | assumption) | (simp [lens]; done) | (simp [lens]; omega)) ?_) | (refine st_part rfl 26 _ rfl hm rfl 2 rfl agg26 (by first | omega | assumption | (simp only [lens]; first | omega | assumption) | (simp [lens]; done) | (simp [lens]; omega)) ?_) | (refine st_part rfl 26 _ rfl hm rfl 3 rfl agg26 (by first | omega | assumption | (simp only [lens]; first | omega | assumption) | (simp [lens]; done) | (simp [lens]; omega)) ?_) | (refine st_part rfl 26 _ rfl hm rfl 4 rfl agg26 (by first | omega | assumption | (simp only [lens]; first | omega | assumption) | (simp [lens]; done) | (simp [lens]; omega)) ?_))) | ((with_reducible refine gt_index 26 ?_); refine st_index rfl 26 _ _ rfl rfl rfl arr26 (by first | omega | assumption | (simp only [lens]; first | omega | assumption) | (simp [lens]; done) | (simp [lens]; omega)) (by first | omega | assumption | (simp only [lens]; first | omega | assumption) | (simp [lens]; done) | (simp [lens]; omega)) (by first | omega | assumption | (simp only [lens]; first | omega | assumption) | (simp [lens]; done) | (simp [lens]; omega)) ?_) | ((with_reducible refine gt_field 55 1 ?_); refine st_field rfl 55 _ 1 rfl rfl field55_1 ?_) | ((with_reducible refine gt_elem 53 ?_); refine st_elem rfl 53 _ _ rfl rfl rfl arr53 (by first | omega | assumption | (simp only [lens]; first | omega | assumption) | (simp [lens]; done) | (simp [lens]; omega)) (by first | omega | assumption | (simp only [lens]; first | omega | assumption) | (simp [lens]; done) | (simp [lens]; omega)) ?_) | ((with_reducible refine gt_load 55 ?_); (first | (refine st_load rfl 55 _ rfl hm rfl 0 rfl agg55 (by first | omega | assumption | (simp only [lens]; first | omega | assumption) | (simp [lens]; done) | (simp [lens]; omega)) ?_) | (refine st_load rfl 55 _ rfl hm rfl 1 rfl agg55 (by first | omega | assumption | (simp only [lens]; first | omega | assumption) | (simp [lens]; done) | (simp [lens]; omega)) ?_) | (refine st_load rfl 55 _ rfl hm rfl 2 rfl agg55 (by first | omega | assumption | (simp only [lens]; first | omega | assumption) | (simp [lens]; done) | (simp [lens]; omega)) ?_) | (refine st_load rfl 55 _ rfl hm rfl 3 rfl agg55 (by first | omega | assumption | (simp only [lens]; first | omega | assumption) | (simp [lens]; done) | (simp [lens]; omega)) ?_) | (refine st_load rfl 55 _ rfl hm rfl 4 rfl agg55 (by first | omega | assumption | (simp only [lens]; first | omega | assumption) | (simp [lens]; done) | (simp [lens]; omega)) ?_))))
     go_roundw
     case rel =>
      refine ⟨i2 + 1, by omega, by go_num, ?_⟩
      rw [← mixTo_succ F (L.drop 40) 40 i2 (by omega) (by simp; omega), ← HR.out]
      simpa using hm
     case measure => simp [intOf]; omega
    ·have HI2 := Aside0.mk (show i2 = 4 by omega)
     have HFL := Aside0.mk hl3
     go_wp2_with (first | fail | ((with_reducible refine gt_box 1 28 ?_); refine st_box rfl 1 rfl 28 _ rfl hm (v := .agg (vals _ _)) rfl (cs := vals _ _) rfl ?_; clear hm; intro g1 w1 hm) | ((with_reducible refine gt_alloc 2 55 ?_); refine st_alloc rfl 2 rfl 55 rfl hm zero55 ?_; clear hm; intro g2 w2 hm) | ((with_reducible refine gt_build 55 ?_); refine st_zero rfl 55 rfl built55 ?_) | ((with_reducible refine gt_alloc 3 55 ?_); refine st_alloc rfl 3 rfl 55 rfl hm zero55 ?_; clear hm; intro g3 w3 hm) | ((with_reducible refine gt_store 55 ?_); (first | (refine st_full rfl 55 _ _ rfl hm rfl rfl 0 rfl agg55 (by first | omega | assumption | (simp only [lens]; first | omega | assumption) | (simp [lens]; done) | (simp [lens]; omega)) (by first | omega | assumption | (simp only [lens]; first | omega | assumption) | (simp [lens]; done) | (simp [lens]; omega)) ?_) | (refine st_full rfl 55 _ _ rfl hm rfl rfl 1 rfl agg55 (by first | omega | assumption | (simp only [lens]; first | omega | assumption) | (simp [lens]; done) | (simp [lens]; omega)) (by first | omega | assumption | (simp only [lens]; first | omega | assumption) | (simp [lens]; done) | (simp [lens]; omega)) ?_) | (refine st_full rfl 55 _ _ rfl hm rfl rfl 2 rfl agg55 (by first | omega | assumption | (simp only [lens]; first | omega | assumption) | (simp [lens]; done) | (simp [lens]; omega)) (by first | omega | assumption | (simp only [lens]; first | omega | assumption) | (simp [lens]; done) | (simp [lens]; omega)) ?_) | (refine st_full rfl 55 _ _ rfl hm rfl rfl 3 rfl agg55 (by first | omega | assumption | (simp only [lens]; first | omega | assumption) | (simp [lens]; done) | (simp [lens]; omega)) (by first | omega | assumption | (simp only [lens]; first | omega | assumption) | (simp [lens]; done) | (simp [lens]; omega)) ?_) | (refine st_full rfl 55 _ _ rfl hm rfl rfl 4 rfl agg55 (by first | omega | assumption | (simp only [lens]; first | omega | assumption) | (simp [lens]; done) | (simp [lens]; omega)) (by first | omega | assumption | (simp only [lens]; first | omega | assumption) | (simp [lens]; done) | (simp [lens]; omega)) ?_)); clear hm; intro ws hm; simp only [List.set_cons_zero, List.set_cons_succ] at hm) | ((with_reducible refine gt_field 28 0 ?_); refine st_field rfl 28 _ 0 rfl rfl field28_0 ?_) | ((with_reducible refine gt_load 25 ?_); (first | (refine st_part rfl 25 _ rfl hm rfl 0 rfl agg25 (by first | omega | assumption | (simp only [lens]; first | omega | assumption) | (simp [lens]; done) | (simp [lens]; omega)) ?_) | (refine st_part rfl 25 _ rfl hm rfl 1 rfl agg25 (by first | omega | assumption | (simp only [lens]; first | omega | assumption) | (simp [lens]; done) | (simp [lens]; omega)) ?_) | (refine st_part rfl 25 _ rfl hm rfl 2 rfl agg25 (by first | omega | assumption | (simp only [lens]; first | omega | assumption) | (simp [lens]; done) | (simp [lens]; omega)) ?_) | (refine st_part rfl 25 _ rfl hm rfl 3 rfl agg25 (by first | omega | assumption | (simp only [lens]; first | omega | assumption) | (simp [lens]; done) | (simp [lens]; omega)) ?_) | (refine st_part rfl 25 _ rfl hm rfl 4 rfl agg25 (by first | omega | assumption | (simp only [lens]; first | omega | assumption) | (simp [lens]; done) | (simp [lens]; omega)) ?_))) | ((with_reducible refine gt_index 25 ?_); refine st_index rfl 25 _ _ rfl rfl rfl arr25 (by first | omega | assumption | (simp only [lens]; first | omega | assumption) | (simp [lens]; done) | (simp [lens]; omega)) (by first | omega | assumption | (simp only [lens]; first | omega | assumption) | (simp [lens]; done) | (simp [lens]; omega)) (by first | omega | assumption | (simp only [lens]; first | omega | assumption) | (simp [lens]; done) | (simp [lens]; omega)) ?_) | ((with_reducible refine gt_field 55 0 ?_); refine st_field rfl 55 _ 0 rfl rfl field55_0 ?_) | ((with_reducible refine gt_elem 52 ?_); refine st_elem rfl 52 _ _ rfl rfl rfl arr52 (by first | omega | assumption | (simp only [lens]; first | omega | assumption) | (simp [lens]; done) | (simp [lens]; omega)) (by first | omega | assumption | (simp only [lens]; first | omega | assumption) | (simp [lens]; done) | (simp [lens]; omega)) ?_) | ((with_reducible refine gt_store 3 ?_); (first | (refine st_set rfl 3 _ _ rfl hm rfl rfl 0 rfl one3 (by first | omega | assumption | (simp only [lens]; first | omega | assumption) | (simp [lens]; done) | (simp [lens]; omega)) ?_) | (refine st_set rfl 3 _ _ rfl hm rfl rfl 1 rfl one3 (by first | omega | assumption | (simp only [lens]; first | omega | assumption) | (simp [lens]; done) | (simp [lens]; omega)) ?_) | (refine st_set rfl 3 _ _ rfl hm rfl rfl 2 rfl one3 (by first | omega | assumption | (simp only [lens]; first | omega | assumption) | (simp [lens]; done) | (simp [lens]; omega)) ?_) | (refine st_set rfl 3 _ _ rfl hm rfl rfl 3 rfl one3 (by first | omega | assumption | (simp only [lens]; first | omega | assumption) | (simp [lens]; done) | (simp [lens]; omega)) ?_) | (refine st_set rfl 3 _ _ rfl hm rfl rfl 4 rfl one3 (by first | omega | assumption | (simp only [lens]; first | omega | assumption) | (simp [lens]; done) | (simp [lens]; omega)) ?_)); clear hm; intro ws hm; simp only [List.set_cons_zero, List.set_cons_succ] at hm) | ((with_reducible refine gt_field 28 1 ?_); refine st_field rfl 28 _ 1 rfl rfl field28_1 ?_) | ((with_reducible refine gt_load 26 ?_); (first | (refine st_part rfl 26 _ rfl hm rfl 0 rfl agg26 (by first | omega | assumption | (simp only [lens]; first | omega | assumption) | (simp [lens]; done) | (simp [lens]; omega)) ?_) | (refine st_part rfl 26 _ rfl hm rfl 1 rfl agg26 (by first | omega | assumption | (simp only [lens]; first | omega | assumption) | (simp [lens]; done) | (simp [lens]; omega)) ?_) | (refine st_part rfl 26 _ rfl hm rfl 2 rfl agg26 (by first | omega | assumption | (simp only [lens]; first | omega | assumption) | (simp [lens]; done) | (simp [lens]; omega)) ?_) | (refine st_part rfl 26 _ rfl hm rfl 3 rfl agg26 (by first | omega | assumption | (simp only [lens]; first | omega | assumption) | (simp [lens]; done) | (simp [lens]; omega)) ?_) | (refine st_part rfl 26 _ rfl hm rfl 4 rfl agg26 (by first | omega | assumption | (simp only [lens]; first | omega | assumption) | (simp [lens]; done) | (simp [lens]; omega)) ?_))) | ((with_reducible refine gt_index 26 ?_); refine st_index rfl 26 _ _ rfl rfl rfl arr26 (by first | omega | assumption | (simp only [lens]; first | omega | assumption) | (simp [lens]; done) | (simp [lens]; omega)) (by first | omega | assumption | (simp only [lens]; first | omega | assumption) | (simp [lens]; done) | (simp [lens]; omega)) (by first | omega | assumption | (simp only [lens]; first | omega | assumption) | (simp [lens]; done) | (simp [lens]; omega)) ?_) | ((with_reducible refine gt_field 55 1 ?_); refine st_field rfl 55 _ 1 rfl rfl field55_1 ?_) | ((with_reducible refine gt_elem 53 ?_); refine st_elem rfl 53 _ _ rfl rfl rfl arr53 (by first | omega | assumption | (simp only [lens]; first | omega | assumption) | (simp [lens]; done) | (simp [lens]; omega)) (by first | omega | assumption | (simp only [lens]; first | omega | assumption) | (simp [lens]; done) | (simp [lens]; omega)) ?_) | ((with_reducible refine gt_load 55 ?_); (first | (refine st_load rfl 55 _ rfl hm rfl 0 rfl agg55 (by first | omega | assumption | (simp only [lens]; first | omega | assumption) | (simp [lens]; done) | (simp [lens]; omega)) ?_) | (refine st_load rfl 55 _ rfl hm rfl 1 rfl agg55 (by first | omega | assumption | (simp only [lens]; first | omega | assumption) | (simp [lens]; done) | (simp [lens]; omega)) ?_) | (refine st_load rfl 55 _ rfl hm rfl 2 rfl agg55 (by first | omega | assumption | (simp only [lens]; first | omega | assumption) | (simp [lens]; done) | (simp [lens]; omega)) ?_) | (refine st_load rfl 55 _ rfl hm rfl 3 rfl agg55 (by first | omega | assumption | (simp only [lens]; first | omega | assumption) | (simp [lens]; done) | (simp [lens]; omega)) ?_) | (refine st_load rfl 55 _ rfl hm rfl 4 rfl agg55 (by first | omega | assumption | (simp only [lens]; first | omega | assumption) | (simp [lens]; done) | (simp [lens]; omega)) ?_))))
     ((try simp only [Exit.inBlock, Exit.then]); (first | (refine ret_cell hm rfl rfl 1 rfl agg55 (by first | omega | assumption | (simp only [lens]; first | omega | assumption) | (simp [lens]; done) | (simp [lens]; omega)) rfl ?_) | (refine ret_cell_tmp hm rfl rfl 1 rfl agg55 (by first | omega | assumption | (simp only [lens]; first | omega | assumption) | (simp [lens]; done) | (simp [lens]; omega)) rfl ?_)))
     refine ⟨?_, hm.done rfl⟩
     rw [← HF.out, HI.out, HI2.out]
     rw [mix_all L hl]
theorem info75p : (Tryz.prog.info? 75).map (fun i => (i.zero, i.size, i.bytes)) = some (some (.pointer none), 1, 8) := by kernel_rfl
set_option maxHeartbeats 4000000 in
set_option maxRecDepth 100000 in
theorem all_calls (g : Nat) (w : World) : Calls Tryz.prog 38 #[.pointer (some ⟨g, 0, none⟩)] w fun e w' =>
  ∃ v, e = .returned v ∧ Kd.R (ptrk g) 75 w' w.heap.size (fun _ => True) v (List.range 44) ∧ Below w.heap.size w w' := by
 have HB := Aside0.mk (Below.refl w.heap.size w)
 go_enter Tryz.func38, Tryz.ntmps38
 go_wp2_with ((with_reducible refine gate_dst (N := 6) rfl ?_); refine Kd.R_lit (ptrk g) _ 75 ?hg (N := 6) ?hd (xs := ([] : List Nat)) (inner := []) (ok := fun _ => True) (okp := fun _ => True) ?hr ?hp (fun _ hk => hk) trivial (Below.refl _ _) (Nat.le_refl _) (by simp) ?_; (case hd => rfl); (case hg => rfl); (case hr => first | (go_simp; done) | (go_simp; rfl)); (case hp => exact (Reps.none _ _)); intro v6 w6 ho6 hb hg_ hnew_; clear hg_ hnew_; have HO := Aside0.mk ho6; have HB := Aside0.mk hb; clear ho6 hb)
 go_loopw [7, 3, 4] (fun v7 v3 v4 wr => ∃ i : Nat, i ≤ 40 ∧ v7 = .int .i64 i ∧ Aside0 (Kd.R (ptrk g) 75 wr w.heap.size (fun _ => True) v3 (List.range i)) ∧ Aside0 (Below w.heap.size w wr)) (fun v7 _ _ _ => 40 - (intOf v7).toNat)
 case atStart => exact ⟨0, by omega, rfl, HO, HB⟩
 case round =>
  obtain ⟨i, hi, rfl, HO, HB⟩ := hrel
  by_cases hlt : i < 40
  ·go_wp2_with (first | (first | fail | ((with_reducible refine gt_field 55 0 ?_); refine st_field rfl 55 _ 0 rfl rfl field55_0 ?_) | ((with_reducible refine gt_elem 52 ?_); refine st_elem rfl 52 _ _ rfl rfl rfl arr52 (by first | omega | assumption | (simp only [lens]; first | omega | assumption) | (simp [lens]; done) | (simp [lens]; omega)) (by first | omega | assumption | (simp only [lens]; first | omega | assumption) | (simp [lens]; done) | (simp [lens]; omega)) ?_) | ((with_reducible refine gt_field 55 1 ?_); refine st_field rfl 55 _ 1 rfl rfl field55_1 ?_) | ((with_reducible refine gt_elem 53 ?_); refine st_elem rfl 53 _ _ rfl rfl rfl arr53 (by first | omega | assumption | (simp only [lens]; first | omega | assumption) | (simp [lens]; done) | (simp [lens]; omega)) (by first | omega | assumption | (simp only [lens]; first | omega | assumption) | (simp [lens]; done) | (simp [lens]; omega)) ?_)) | ((with_reducible refine gate_builtin (b := .append) (xs := #[.tmp 10, .tmp 16]) rfl ?_); at_builtin; refine Kd.R_append (ptrk g) (w0 := w) w.heap.size rfl (.tmp 10) (.tmp 16) 74 75 (.pointer none) 8 rfl Tryz.underlying74 info75p rfl (Nat.lt_succ_self 0) (by omega) _ (List.range i) i [.pointer (some ⟨g, i, none⟩)] (fun _ => True) (fun _ => False) rfl rfl ?aP (fun _ hk => hk.elim) ?aF ?aO ?aB ?aS ?aL ?_; (case aP => exact rfl); (case aB => exact HB.out); (case aF => exact (fun _ _ => trivial)); (case aO => exact HO.out); (case aS => exact HB.out.size); (case aL => rw [List.length_range]; omega); intro v1 w1 ho hb hg hat; have HO := Aside0.mk ho; have HB := Aside0.mk hb; clear ho hb hg hat))
   go_roundw
   case rel => exact ⟨i + 1, by omega, by go_num, by rw [List.range_succ]; exact HO, HB⟩
   case measure => simp [intOf]; omega
  ·have HI := Aside0.mk (show i = 40 by omega)
   go_wp2_with fail
   go_loopw [19, 3, 5] (fun v19 v3 v5 wr => ∃ i : Nat, i ≤ 4 ∧ v19 = .int .i64 i ∧ Aside0 (Kd.R (ptrk g) 75 wr w.heap.size (fun _ => True) v3 (List.range (40 + i))) ∧ Aside0 (Below w.heap.size w wr)) (fun v19 _ _ _ => 4 - (intOf v19).toNat)
   case atStart => exact ⟨0, by omega, rfl, by rw [HI.out] at HO; exact HO, HB⟩
   case round =>
    obtain ⟨i2, hi2, rfl, HO, HB⟩ := hrel
    by_cases hlt : i2 < 4
    ·go_wp2_with (first | (first | fail | ((with_reducible refine gt_field 55 0 ?_); refine st_field rfl 55 _ 0 rfl rfl field55_0 ?_) | ((with_reducible refine gt_elem 52 ?_); refine st_elem rfl 52 _ _ rfl rfl rfl arr52 (by first | omega | assumption | (simp only [lens]; first | omega | assumption) | (simp [lens]; done) | (simp [lens]; omega)) (by first | omega | assumption | (simp only [lens]; first | omega | assumption) | (simp [lens]; done) | (simp [lens]; omega)) ?_) | ((with_reducible refine gt_field 55 1 ?_); refine st_field rfl 55 _ 1 rfl rfl field55_1 ?_) | ((with_reducible refine gt_elem 53 ?_); refine st_elem rfl 53 _ _ rfl rfl rfl arr53 (by first | omega | assumption | (simp only [lens]; first | omega | assumption) | (simp [lens]; done) | (simp [lens]; omega)) (by first | omega | assumption | (simp only [lens]; first | omega | assumption) | (simp [lens]; done) | (simp [lens]; omega)) ?_)) | ((with_reducible refine gate_builtin (b := .append) (xs := #[.tmp 22, .tmp 28]) rfl ?_); at_builtin; refine Kd.R_append (ptrk g) (w0 := w) w.heap.size rfl (.tmp 22) (.tmp 28) 74 75 (.pointer none) 8 rfl Tryz.underlying74 info75p rfl (Nat.lt_succ_self 0) (by omega) _ (List.range (40 + i2)) (40 + i2) [.pointer (some ⟨g, 40 + i2, none⟩)] (fun _ => True) (fun _ => False) rfl rfl ?aP (fun _ hk => hk.elim) ?aF ?aO ?aB ?aS ?aL ?_; (case aP => exact rfl); (case aB => exact HB.out); (case aF => exact (fun _ _ => trivial)); (case aO => exact HO.out); (case aS => exact HB.out.size); (case aL => rw [List.length_range]; omega); intro v1 w1 ho hb hg hat; have HO := Aside0.mk ho; have HB := Aside0.mk hb; clear ho hb hg hat))
     go_roundw
     case rel => exact ⟨i2 + 1, by omega, by go_num, by rw [show 40 + (i2 + 1) = 40 + i2 + 1 from rfl, List.range_succ]; exact HO, HB⟩
     case measure => simp [intOf]; omega
    ·have HI2 := Aside0.mk (show i2 = 4 by omega)
     go_wp2_with fail
     go_ret
     refine ⟨_, rfl, ?_, HB.out⟩
     have := HO.out
     rwa [HI2.out] at this
set_option maxHeartbeats 4000000 in
set_option maxRecDepth 100000 in
theorem valid1_calls (g i : Nat) (n : Int) (w : World) (hc : w.cell? ⟨g, i, none⟩ = some (.int .i64 n)) :
  Calls Tryz.prog 39 (#[.pointer (some ⟨g, i, none⟩)] ++ #[]) w fun e w' => e = .returned (.bool (!okx n)) ∧ Below w.heap.size w w' := by
 go_enter Tryz.func39, Tryz.ntmps39
 go_wp2_with (go_at_call 33; refine (within_calls _ _ _ _).mono ?_; rintro e wa ⟨rfl, hb⟩; have HB := Aside0.mk hb; clear hb)
 go_ret
 refine ⟨?_, HB.out⟩
 unfold okx
 congr 2
 by_cases h0 : 0 ≤ n <;> by_cases h1 : n ≤ 20 <;> simp [h0, h1]
theorem valid1_enters (a : Array Value) (W : World) : (callFunc 39 a).run Tryz.prog W = .ok (.enter 39 a) W := by kernel_rfl
theorem any_range (L : List Int) (hl : L.length = 44) : (List.range 44).any (fun i => !okx (rd L (i : Int))) = !okL L := by
 cases h : okL L with
 | true =>
  rw [List.any_eq_false.2]
  ·rfl
  ·intro i hi
   have := List.all_eq_true.1 h _ (rd_in L i (by rw [hl]; exact List.mem_range.1 hi))
   simp [this]
 | false =>
  obtain ⟨x, hx, hp⟩ := List.all_eq_false.1 h
  obtain ⟨j, hj, rfl⟩ := List.getElem_of_mem hx
  rw [List.any_eq_true.2]
  ·rfl
  ·exact ⟨j, List.mem_range.2 (by omega), by rw [rd_get L j hj]; simpa using hp⟩
set_option maxHeartbeats 4000000 in
set_option maxRecDepth 100000 in
theorem implValid_calls (L : List Int) (w : World) (hl : L.length = 44) (hw : Fits .i16 L) : Calls Tryz.prog 11 #[.agg (vals .i16 L)] w fun e w' => e = .returned (.bool (okL L)) ∧ Below w.heap.size w w' := by
 have hm := Mem.start w
 have HW := Aside0.mk hw
 have HA := Aside0.mk (any_range L hl)
 clear hw
 go_enter Tryz.func11, Tryz.ntmps11
 go_wp2_with (first
  | (first | fail | ((with_reducible refine gt_box 1 28 ?_); refine st_box rfl 1 rfl 28 _ rfl hm (v := .agg (vals _ _)) rfl (cs := vals _ _) rfl ?_; clear hm; intro g1 w1 hm) | ((with_reducible refine gt_load 28 ?_); (first | (refine st_load rfl 28 _ rfl hm rfl 0 rfl agg28 (by first | omega | assumption | (simp only [lens]; first | omega | assumption) | (simp [lens]; done) | (simp [lens]; omega)) ?_) | (refine st_load rfl 28 _ rfl hm rfl 1 rfl agg28 (by first | omega | assumption | (simp only [lens]; first | omega | assumption) | (simp [lens]; done) | (simp [lens]; omega)) ?_) | (refine st_load rfl 28 _ rfl hm rfl 2 rfl agg28 (by first | omega | assumption | (simp only [lens]; first | omega | assumption) | (simp [lens]; done) | (simp [lens]; omega)) ?_) | (refine st_load rfl 28 _ rfl hm rfl 3 rfl agg28 (by first | omega | assumption | (simp only [lens]; first | omega | assumption) | (simp [lens]; done) | (simp [lens]; omega)) ?_))) | ((with_reducible refine gt_alloc 3 55 ?_); refine st_alloc rfl 3 rfl 55 rfl hm zero55 ?_; clear hm; intro g3 w3 hm) | ((with_reducible refine gt_store 55 ?_); (first | (refine st_full rfl 55 _ _ rfl hm rfl rfl 0 rfl agg55 (by first | omega | assumption | (simp only [lens]; first | omega | assumption) | (simp [lens]; done) | (simp [lens]; omega)) (by first | omega | assumption | (simp only [lens]; first | omega | assumption) | (simp [lens]; done) | (simp [lens]; omega)) ?_) | (refine st_full rfl 55 _ _ rfl hm rfl rfl 1 rfl agg55 (by first | omega | assumption | (simp only [lens]; first | omega | assumption) | (simp [lens]; done) | (simp [lens]; omega)) (by first | omega | assumption | (simp only [lens]; first | omega | assumption) | (simp [lens]; done) | (simp [lens]; omega)) ?_) | (refine st_full rfl 55 _ _ rfl hm rfl rfl 2 rfl agg55 (by first | omega | assumption | (simp only [lens]; first | omega | assumption) | (simp [lens]; done) | (simp [lens]; omega)) (by first | omega | assumption | (simp only [lens]; first | omega | assumption) | (simp [lens]; done) | (simp [lens]; omega)) ?_) | (refine st_full rfl 55 _ _ rfl hm rfl rfl 3 rfl agg55 (by first | omega | assumption | (simp only [lens]; first | omega | assumption) | (simp [lens]; done) | (simp [lens]; omega)) (by first | omega | assumption | (simp only [lens]; first | omega | assumption) | (simp [lens]; done) | (simp [lens]; omega)) ?_)); clear hm; intro ws hm; simp only [List.set_cons_zero, List.set_cons_succ] at hm))
  | (go_at_call 36; refine (pieces_calls _ _ hl HW.out).mono ?_; rintro e wa ⟨rfl, hb⟩; replace hm := hm.after hb; clear hb)
  | (go_at_call 38; refine (all_calls _ _).mono ?_; rintro e wa ⟨v, rfl, hR, hb⟩; replace hm := hm.after hb; clear hb; obtain ⟨A, c, rfl, hc, hC⟩ := Kd.R_reads hR; have HC := Aside0.mk hC; have Hc := Aside0.mk hc; clear hC hc hR)
  | (go_at_call 37; refine (containsFunc_ptr 39 valid1_enters #[] _ (fun i => !okx (rd L (i : Int))) _ _ _ _ HC.out Hc.out (fun x hx W hB => valid1_calls _ _ _ _ (((hm.after hB).get (n := 0) rfl x (by rw [hl]; exact List.mem_range.1 hx))))).mono ?_; rintro e wa ⟨rfl, hb⟩; replace hm := hm.after hb; clear hb; rw [HA.out]))
 go_ret
 exact ⟨by simp, hm.done rfl⟩
end Go.Proofs.YthaoopbfggnceaaGreatDoor.Arr
namespace Go.Proofs.YthaoopbfggnceaaGreatDoor.Arr
open Go.RowKit Go.Proofs.YthaoopbfggnceaaGreatDoorW.PrintWords Go.Proofs.YthaoopbfggnceaaGreatDoor.U
set_option linter.unusedVariables false
set_option linter.unusedSimpArgs false
theorem fold_put (off : Nat) : ∀ (vs : List Value) (n : Nat) (cells : Array Value), off + n + vs.length ≤ cells.size →
  (vs.zipIdx n).foldl (fun cs (p : Value × Nat) => cs.setIfInBounds (off + p.2) p.1) cells = (cells.toList.take (off + n) ++ vs ++ cells.toList.drop (off + n + vs.length)).toArray
 | [], n, cells, h => by simp
 | v :: vs, n, cells, h => by
  rw [List.zipIdx_cons, List.foldl_cons, fold_put off vs (n + 1) _ (by simp at h ⊢; omega)]
  apply Array.ext'
  apply List.ext_getElem?
  intro j
  simp only [Array.toList_setIfInBounds, List.getElem?_append, List.length_append, List.length_take, List.length_set, List.getElem?_take, List.getElem?_drop, List.getElem?_set, List.length_cons, Array.length_toList, List.getElem?_cons]
  simp only [List.length_cons] at h
  repeat' split
  all_goals first | rfl | omega | (congr 1; omega) | (exfalso; omega) | (symm; apply List.getElem?_eq_none; simp; omega)
theorem fill_one {k : IntKind} {L : List Int} {cells : Array Value} {off : Nat} {place : Nat → Option (Nat × Nat)} {i : Nat} {rest : List (Nat × Value)} {m : Nat} (hp : place i = some (off, m)) (hl : L.length = m) (hc : off + m ≤ cells.size) :
  Instr.fill place cells ((i, .agg (vals k L)) :: rest) = Instr.fill place (cells.toList.take off ++ L.map (Value.int k) ++ cells.toList.drop (off + m)).toArray rest := by
 rw [Instr.fill, hp]
 have hs : (Value.agg (vals k L)).cells.size = m := by show (vals k L).size = m; rw [vals_size, hl]
 simp only [hs]
 rw [if_neg (by simp; omega)]
 congr 1
 have h := fold_put off (L.map (Value.int k)) 0 cells (by simp [hl]; omega)
 simp only [Nat.add_zero, List.length_map, hl] at h
 rw [← h]
 show Array.foldl _ cells (Array.zipIdx (vals k L)) = _
 rw [← Array.foldl_toList, Array.toList_zipIdx]
 rfl
section
variable {P : Program} {ops : Array Oper} {rest : List Oper} {o : Oper} {a : Act} {w0 w : World} {M : List Ent} {Q : Exit → Act → World → Prop}
theorem st_lit1 (hgd : o.guard = none) (d : Nat) (hdst : o.dst = some d) (t : TypeId) (x : Operand) (ho : o.op = .buildSlice t 1 #[(0, x)]) (hm : Mem w0 w M) {k : IntKind} {L : List Int} {m : Nat} {e : TypeId} (hx : a.eval x = .agg (vals k L)) (hu : P.underlying t = some (.slice e))
  (he : AggTy P e m) {zc : Array Value} (hz : ZeroTy P e zc) (hl : L.length = m) (hm0 : 0 < m) (hm1 : m ≤ 1000)
  (h : ∀ g w1, Mem w0 w1 (⟨g, vals k L, e, true⟩ :: M) → wpList P ops Q rest (a.put (some d) (.slice (some ⟨g, 0, none⟩) 1 1)) w1) : wpList P ops Q (o :: rest) a w := by
 obtain ⟨z, hz, rfl⟩ := hz
 obtain ⟨_, hi⟩ := he
 refine wpList_plain hgd fun K hK => ?_
 rw [← hdst] at h
 unfold Oper.wp execOp
 cases hq : P.info? e with
 | none => simp [hq] at hi
 | some i =>
  have hs : i.size = m := by simpa [hq] using hi
  have hz' : i.zero = some z := by simpa [hq] using hz
  have hf := fill_one (k := k) (L := L) (cells := (Array.range (1 * m)).map (z.cells[· % z.cells.size]!)) (off := 0) (place := fun i => some (i * m, m)) (i := 0) (rest := []) (m := m) (by simp) hl (by simp)
  have hc : ((List.take 0 ((Array.range (1 * m)).map (z.cells[· % z.cells.size]!)).toList ++ L.map (Value.int k) ++ List.drop (0 + m) ((Array.range (1 * m)).map (z.cells[· % z.cells.size]!)).toList).toArray) = vals k L := by
   rw [List.drop_of_length_le (by simp)]
   simp [vals]
  rw [hc] at hf
  have hrun : (Instr.buildSlice t 1 #[(0, .agg (vals k L))]).run P w = .ok (.slice (some ⟨w.heap.size, 0, none⟩) 1 1) (w.alloc (.cells (vals k L) e)) := by
   simp only [Instr.buildSlice, Sem.run_bind, run_underlying hu w, Result.andThen_ok, sizeOf, typeInfo, run_program, hq, Sem.run_pure, hs, zeroValue, hz']
   rw [if_neg (by omega), if_neg (by omega)]
   simp only [Sem.run_bind, Sem.run_pure, Result.andThen_ok, hq, hz', hf, run_program]
   simp [Instr.fill, newRow, Sem.run_bind]
  simp only [ho, List.map_toArray, List.map_cons, List.map_nil, hx, Sem.run_bind, hrun, Sem.run_pure, Result.andThen_ok]
  exact hK _ _ (h _ _ (hm.new _ _))
theorem st_lit2 (hgd : o.guard = none) (d : Nat) (hdst : o.dst = some d) (t : TypeId) (x y : Operand) (ho : o.op = .buildSlice t 2 #[(0, x), (1, y)]) (hm : Mem w0 w M) {k : IntKind} {L L' : List Int} {m : Nat} {e : TypeId} (hx : a.eval x = .agg (vals k L)) (hy : a.eval y = .agg (vals k L')) (hu : P.underlying t = some (.slice e))
  (he : AggTy P e m) {zc : Array Value} (hz : ZeroTy P e zc) (hl : L.length = m) (hl' : L'.length = m) (hm0 : 0 < m) (hm1 : m ≤ 1000)
  (h : ∀ g w1, Mem w0 w1 (⟨g, vals k (L ++ L'), e, true⟩ :: M) → wpList P ops Q rest (a.put (some d) (.slice (some ⟨g, 0, none⟩) 2 2)) w1) : wpList P ops Q (o :: rest) a w := by
 obtain ⟨z, hz, rfl⟩ := hz
 obtain ⟨_, hi⟩ := he
 refine wpList_plain hgd fun K hK => ?_
 rw [← hdst] at h
 unfold Oper.wp execOp
 cases hq : P.info? e with
 | none => simp [hq] at hi
 | some i =>
  have hs : i.size = m := by simpa [hq] using hi
  have hz' : i.zero = some z := by simpa [hq] using hz
  have hf := fill_one (k := k) (L := L) (cells := (Array.range (2 * m)).map (z.cells[· % z.cells.size]!)) (off := 0) (place := fun i => some (i * m, m)) (i := 0) (rest := [(1, .agg (vals k L'))]) (m := m) (by simp) hl (by simp; omega)
  rw [fill_one (k := k) (L := L') (off := m) (m := m) (by simp) hl' (by simp [hl]; omega)] at hf
  have hc : ∀ Z : List Value, Z.length = 2 * m → (List.take m (List.take 0 Z ++ L.map (Value.int k) ++ List.drop (0 + m) Z).toArray.toList ++ L'.map (Value.int k) ++ List.drop (m + m) (List.take 0 Z ++ L.map (Value.int k) ++ List.drop (0 + m) Z).toArray.toList).toArray = vals k (L ++ L') := by
   intro Z hZ
   have e1 : List.take m (List.map (Value.int k) L ++ List.drop m Z) = List.map (Value.int k) L := List.take_left' (by simp [hl])
   simp only [List.take_zero, List.nil_append, Nat.zero_add, e1]
   rw [List.drop_of_length_le (by simp [hl, hZ]; omega)]
   simp [vals]
  rw [hc _ (by simp)] at hf
  have hrun : (Instr.buildSlice t 2 #[(0, .agg (vals k L)), (1, .agg (vals k L'))]).run P w = .ok (.slice (some ⟨w.heap.size, 0, none⟩) 2 2) (w.alloc (.cells (vals k (L ++ L')) e)) := by
   simp only [Instr.buildSlice, Sem.run_bind, run_underlying hu w, Result.andThen_ok, sizeOf, typeInfo, run_program, hq, Sem.run_pure, hs, zeroValue, hz']
   rw [if_neg (by omega), if_neg (by omega)]
   simp only [Sem.run_bind, Sem.run_pure, Result.andThen_ok, hq, hz', hf, run_program]
   simp [Instr.fill, newRow, Sem.run_bind]
  simp only [ho, List.map_toArray, List.map_cons, List.map_nil, hx, hy, Sem.run_bind, hrun, Sem.run_pure, Result.andThen_ok]
  exact hK _ _ (h _ _ (hm.new _ _))
theorem st_selem (hgd : o.guard = none) (ty : TypeId) (x y : Operand) (ho : o.op = .indexAddr ty x y) {g n c : Nat} {ki : IntKind} {i m : Nat} {e : TypeId} (hx : a.eval x = .slice (some ⟨g, 0, none⟩) n c) (hy : a.eval y = .int ki (i : Int))
  (hu : P.underlying ty = some (.slice e)) (he : (P.info? e).map (·.size) = some m) (h1 : i < n)
  (h : wpList P ops Q rest (a.put o.dst (.pointer (some ⟨g, i * m, none⟩))) w) : wpList P ops Q (o :: rest) a w := by
 refine wpList_plain hgd fun K hK => ?_
 unfold Oper.wp execOp
 have hsz : (sizeOf e).run P w = .ok m w := by
  cases hq : P.info? e with
  | none => simp [hq] at he
  | some i => simp [sizeOf, typeInfo, hq, Sem.run_bind]; simpa [hq] using he
 have hadd : (⟨g, 0, none⟩ : Addr).add (i * m) = ⟨g, i * m, none⟩ := by unfold Addr.add; split <;> simp_all
 simp [ho, hx, hy, Instr.indexAt, asIntOf, Sem.run_bind, run_underlying hu w, hsz, h1, hadd]
 exact hK _ _ h
theorem st_loadc (hgd : o.guard = none) (ty : TypeId) (x : Operand) (ho : o.op = .load ty x) {g i m : Nat} {k : IntKind} (hx : a.eval x = .pointer (some ⟨g, i, none⟩)) {L : List Int} (hl : L.length = m)
  (hc : ∀ j, j < m → w.cell? ⟨g, i + j, none⟩ = some (.int k (rd L (j : Int)))) (hi2 : AggTy P ty m)
  (h : wpList P ops Q rest (a.put o.dst (.agg (vals k L))) w) : wpList P ops Q (o :: rest) a w := by
 obtain ⟨hd, hi⟩ := hi2
 refine wpList_plain hgd fun K hK => ?_
 unfold Oper.wp execOp
 have hagg : (isAgg ty).run P w = .ok true w := by
  unfold isAgg
  cases hu : P.underlying ty with
  | none => simp [hu] at hd
  | some d =>
   rw [Sem.run_bind, run_underlying hu w]
   cases d <;> simp_all
 have hsz : (sizeOf ty).run P w = .ok m w := by
  cases hq : P.info? ty with
  | none => simp [hq] at hi
  | some i => simp [sizeOf, typeInfo, hq, Sem.run_bind]; simpa [hq] using hi
 have hl2 : (loadCells ⟨g, i, none⟩ (vals k L).toList.length).run P w = .ok (vals k L).toList.toArray w :=
  run_loadCells_list (P := P) w ⟨g, i, none⟩ _ (fun j v hv => by
   have hjm : j < m := by
    have := (List.getElem?_eq_some_iff.1 hv).1
    simp [vals] at this; omega
   have hadd : (⟨g, i, none⟩ : Addr).add j = ⟨g, i + j, none⟩ := by unfold Addr.add; split <;> simp_all
   rw [hadd, hc j hjm]
   rw [Array.getElem?_toList, vals_get (by omega)] at hv
   exact hv)
 have hlen : (vals k L).toList.length = m := by simp [vals]; omega
 rw [hlen, Array.toArray_toList] at hl2
 simp only [ho, hx, Instr.loadAt, Instr.sureAddr, Sem.run_bind, Sem.run_pure, Result.andThen_ok, loadVar, hagg, hsz, hl2, if_true]
 exact hK _ _ h
end
end Go.Proofs.YthaoopbfggnceaaGreatDoor.Arr
