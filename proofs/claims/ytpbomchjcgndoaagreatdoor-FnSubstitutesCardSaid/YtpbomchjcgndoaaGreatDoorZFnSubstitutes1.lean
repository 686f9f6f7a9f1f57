/- The texts that the statement FnSubstitutes needs, part 1: contracts of the program's functions and plain laws, without what it does not reach. No condition beyond what each theorem says. -/
import Derived.Below
import Derived.Deep.Draws
import Derived.Deep.AppendLies
import Derived.Maps.AppendAt
import Derived.OwnWalk
import Derived.Laws.BytesArg
import Derived.Laws.MakeOwn
import Derived.Laws.OwnMore
import Derived.Deep.OwnRows
import Derived.Tactics
import Derived.Lib.ConvBytes
import Derived.Laws.Slices
import Derived.WalkKit
import Derived.KernelRfl
import Derived.RowKit3
import Derived.Deep.LoopGhost
import Derived.Deep.QuietTactic
import Derived.BigQuiet
import Derived.WideLaws
import Derived.Deep.DeepCutAuto
import Derived.Deep.CutBlock
import Derived.Deep.RegionHeld3
import Derived.Laws.Rows
import Derived.Lib.AppendStr
import Derived.ArgAppend
import Derived.Laws.IdiomCopy
import Derived.RowKit
import Derived.Laws.Tables
import Derived.BigFrame
import Derived.Laws.CopyRow
import Derived.Laws.ResultCell
import Derived.OrdersHeld
import Derived.Laws.BitsLemmas
import Derived.Laws.StructEq
import Derived.Test.YtpbomchjcgndoaaGreatDoorProg
import Derived.WalkSpells
import Derived.StillTailTactics
import Derived.Shelf.Strconv.Itoa4
import Derived.Shelf.Strings.OnBuilder
import Derived.Lib.SplitLaws
import Derived.Lib.Join
import Derived.Lib.ParseIntB
import Derived.Lib.CountLaws
import Derived.Shelf.Strings.SplitShaped
import Derived.Shelf.Strings.Shaped
import Derived.Shelf.Small.Wraps
import Derived.Shelf.Strconv.ErrVarParseInt
import Derived.Lib.SmallJoins
import Derived.Lib.AppendIntMem
import Derived.Lib.ParseIntBTie
import Derived.Laws.BitsAllLaws
import Derived.ProofKit
import Derived.OpenShut
import Derived.Deep.Slices
import Derived.Test.YtpbomchjcgndoaaGreatDoorRows
import Derived.ShutString
import Derived.ChangeOld
import Derived.SizedLaws
import Derived.HandedShaped
import Derived.LaidMore
import Derived.Lay
import Derived.Stop.Joined
import Derived.Stop.LaidErr
import Derived.Lib.LaidTab
import Derived.Test.YtpbomchjcgndoaaGreatDoorCards
import Derived.Test.YtpbomchjcgndoaaGreatDoorTie
import Derived.SevenTiedAt
import Derived.Test.YtpbomchjcgndoaaGreatDoorZFnSubstitutes0
namespace Go.Proofs.YtpbomchjcgndoaaGreatDoor.U
open Go.RowKit Go.Proofs.YtpbomchjcgndoaaGreatDoorW.PrintWords
set_option linter.unusedVariables false
set_option linter.unusedSimpArgs false
theorem pos {α : Type} {c : Prop} [Decidable c] {g f : Nat → Option α} {r : α} (h : c) (k : Ev g r) : Ev (fun n => if c then g n else f n) r :=
 Ev.congr (fun n => if_pos h) k
theorem neg {α : Type} {c : Prop} [Decidable c] {g f : Nat → Option α} {r : α} (h : ¬ c) (k : Ev f r) : Ev (fun n => if c then g n else f n) r :=
 Ev.congr (fun n => if_neg h) k
theorem bindc {α β : Type} {g : Option α} {f : Nat → α → Option β} {a : α} {r : β} (h : g = some a) (k : Ev (fun n => f n a) r) : Ev (fun n => g.bind (f n)) r :=
 Ev.congr (fun n => by rw [h]; rfl) k
theorem cons {α : Type} {r : α} {a : α} (h : a = r) : Ev (fun _ => some a) r := h ▸ Ev.now a
theorem w64 {x : Int} (h0 : -9223372036854775808 ≤ x) (h1 : x ≤ 9223372036854775807) : wrap64 x = x := by
 unfold wrap64; omega
theorem rd_get (xs : List Int) (i : Nat) (h : i < xs.length) : rd xs (i : Int) = xs[i] := by
 unfold rd
 simp [List.getD_eq_getElem?_getD, List.getElem?_eq_getElem h]
theorem iter {σ α : Type} (F : Nat → σ → Option α) (Inv : Nat → σ → Prop) (r : α) (n : Nat)
  (hstep : ∀ i s, i < n → Inv i s → (∃ s', Inv (i + 1) s' ∧ (Ev (fun k => F k s') r → Ev (fun k => F k s) r)) ∨ Ev (fun k => F k s) r)
  (hend : ∀ s, Inv n s → Ev (fun k => F k s) r) : ∀ i s, i ≤ n → Inv i s → Ev (fun k => F k s) r := by
 intro i
 generalize hd : n - i = d
 induction d generalizing i with
 | zero =>
  intro s hi h
  have e : i = n := by omega
  subst e
  exact hend s h
 | succ d ih =>
  intro s hi h
  rcases hstep i s (by omega) h with ⟨s', hs, hk⟩ | he
  ·exact hk (ih (i + 1) (by omega) s' (by omega) hs)
  ·exact he
theorem toList {l l' : List Int} {n : Nat} (h1 : l.length = n) (h2 : l'.length = n) (h : ∀ j, j < n → l[j]? = l'[j]?) : l = l' := by
 apply List.ext_getElem?
 intro j
 rcases Nat.lt_or_ge j n with hj | hj
 ·exact h j hj
 ·rw [List.getElem?_eq_none (by omega), List.getElem?_eq_none (by omega)]
theorem rd_opt {l l' : List Int} {j : Nat} (h : j < l.length) (h' : j < l'.length) (e : rd l (j : Int) = rd l' (j : Int)) : l[j]? = l'[j]? := by
 rw [rd_get l j h, rd_get l' j h'] at e
 rw [List.getElem?_eq_getElem h, List.getElem?_eq_getElem h', e]
def Bytes (l : List Int) : Prop := ∀ x ∈ l, 0 ≤ x ∧ x ≤ 255
def WfI (k : IntKind) (n : Int) : Prop := (Lit.int k n).wf = true
def WfL {α : Type} (wf : α → Prop) (l : List α) : Prop := l.length ≤ maxLen ∧ ∀ a ∈ l, wf a
end Go.Proofs.YtpbomchjcgndoaaGreatDoor.U
namespace Go.Proofs.YtpbomchjcgndoaaGreatDoor.Arr
open Go.RowKit Go.Proofs.YtpbomchjcgndoaaGreatDoorW.PrintWords Go.Proofs.YtpbomchjcgndoaaGreatDoor.U
set_option linter.unusedVariables false
set_option linter.unusedSimpArgs false
def zs (n : Nat) : List Int := List.replicate n 0
theorem zs_length {n : Nat} : (zs n).length = n := by simp [zs]
def vals (k : IntKind) (L : List Int) : Array Value := (L.map (Value.int k)).toArray
section
variable {k : IntKind} {L : List Int}
theorem vals_size : (vals k L).size = L.length := by simp [vals]
theorem vals_get {i : Nat} (h : i < L.length) : (vals k L)[i]? = some (.int k (rd L (i : Int))) := by
 rw [rd_get L i h]; simp [vals, List.getElem?_eq_getElem h]
theorem vals_set {i : Nat} {n : Int} : (vals k L).setIfInBounds i (.int k n) = vals k (L.set i n) := by
 simp [vals, List.map_set]
theorem vals_extract {a b : Nat} : (vals k L).extract a b = vals k ((L.take b).drop a) := by
 apply Array.ext_getElem?
 intro j
 simp only [vals, Array.getElem?_extract, List.size_toArray, List.length_map, List.getElem?_toArray, List.getElem?_map, List.getElem?_drop, List.getElem?_take]
 by_cases h : j < min b L.length - a
 ·rw [if_pos h, if_pos (by omega)]
 ·rw [if_neg h]
  by_cases h2 : a + j < b
  ·rw [if_pos h2, List.getElem?_eq_none (by omega)]; rfl
  ·rw [if_neg h2]; rfl
theorem vals_one : (vals k L).all (·.oneCell') = true := by
 simp [vals, Value.oneCell']
end
structure Ent where
 g : Nat
 cs : Array Value
 t : TypeId
 own : Bool
structure Mem (w0 w : World) (M : List Ent) : Prop where
 os : w.os = w0.os
 tape : w.tape = w0.tape
 output : w.output = w0.output
 size : w0.heap.size ≤ w.heap.size
 block : ∀ k, k < w0.heap.size → (∀ e ∈ M, e.g ≠ k) → w.heap[k]? = w0.heap[k]?
 ent : ∀ e ∈ M, w.heap[e.g]? = some (.cells e.cs e.t (0, 0)) ∧ (e.own = true → w0.heap.size ≤ e.g)
 apart : ∀ (m n : Nat) (e f : Ent), M[m]? = some e → M[n]? = some f → e.g = f.g → m = n
theorem lt_of_some {w : World} {g : Nat} {o : Obj} (h : w.heap[g]? = some o) : g < w.heap.size := (Array.getElem?_eq_some_iff.1 h).1
namespace Mem
variable {w0 w w' : World} {M : List Ent} {n g : Nat} {cs cs' : Array Value} {t : TypeId} {o : Bool}
theorem start (w : World) : Mem w w [] := ⟨rfl, rfl, rfl, Nat.le_refl _, fun _ _ _ => rfl, fun _ h => absurd h (by simp), fun m n e f h => by simp at h⟩
theorem given {w : World} (h : w.heap[g]? = some (.cells cs t (0, 0))) : Mem w w [⟨g, cs, t, false⟩] :=
 ⟨rfl, rfl, rfl, Nat.le_refl _, fun _ _ _ => rfl, fun e he => by
  rw [List.mem_singleton] at he; subst he; exact ⟨h, fun h => by cases h⟩, fun m n e f h1 h2 _ => by
  have h3 := (List.getElem?_eq_some_iff.1 h1).1
  have h4 := (List.getElem?_eq_some_iff.1 h2).1
  simp at h3 h4; omega⟩
theorem mem (h : Mem w0 w M) (hn : M[n]? = some ⟨g, cs, t, o⟩) : w.heap[g]? = some (.cells cs t (0, 0)) :=
 (h.ent _ (List.mem_of_getElem? hn)).1
theorem cell (h : Mem w0 w M) (hn : M[n]? = some ⟨g, cs, t, o⟩) (i : Nat) : w.cell? ⟨g, i, none⟩ = cs[i]? :=
 cell_of_row w g i cs t (0, 0) (h.mem hn)
theorem frozen (h : Mem w0 w M) (hn : M[n]? = some ⟨g, cs, t, o⟩) (i : Nat) : w.frozen? ⟨g, i, none⟩ = false :=
 frozen_of_row w g i cs t (h.mem hn)
theorem done (h : Mem w0 w M) (ho : M.all (·.own) = true) : Below w0.heap.size w0 w :=
 ⟨h.os, h.tape, h.output, h.size, fun k hk => h.block k hk fun e he => by
  have := (h.ent e he).2 (List.all_eq_true.1 ho e he)
  omega⟩
theorem new (h : Mem w0 w M) (cs : Array Value) (t : TypeId) : Mem w0 (w.alloc (.cells cs t)) (⟨w.heap.size, cs, t, true⟩ :: M) := by
 have hlt : ∀ e ∈ M, e.g < w.heap.size := fun e he => lt_of_some (h.ent e he).1
 refine ⟨h.os, h.tape, h.output, ?_, fun k hk hne => ?_, fun e he => ?_, fun m n e f hm hn hef => ?_⟩
 ·have := h.size; simp; omega
 ·have := h.size
  rw [Below.heap_alloc w _ k (by omega)]
  exact h.block k hk fun e he => hne e (List.mem_cons_of_mem _ he)
 ·rcases List.mem_cons.1 he with rfl | he
  ·exact ⟨Go.heap_alloc_new w _, fun _ => h.size⟩
  ·rw [Below.heap_alloc w _ _ (hlt e he)]; exact h.ent e he
 ·rcases m with _ | m <;> rcases n with _ | n
  ·rfl
  ·simp only [List.getElem?_cons_zero, Option.some.injEq, List.getElem?_cons_succ] at hm hn
   have := hlt f (List.mem_of_getElem? hn); subst hm; simp at hef; omega
  ·simp only [List.getElem?_cons_zero, Option.some.injEq, List.getElem?_cons_succ] at hm hn
   have := hlt e (List.mem_of_getElem? hm); subst hn; simp at hef; omega
  ·simp only [List.getElem?_cons_succ] at hm hn
   rw [h.apart m n e f hm hn hef]
theorem upd (h : Mem w0 w M) (hn : M[n]? = some ⟨g, cs, t, o⟩) (hos : w'.os = w.os) (htape : w'.tape = w.tape) (hout : w'.output = w.output) (hsize : w.heap.size ≤ w'.heap.size)
  (hg : w'.heap[g]? = some (.cells cs' t (0, 0))) (hk : ∀ k, k < w.heap.size → k ≠ g → w'.heap[k]? = w.heap[k]?) : Mem w0 w' (M.set n ⟨g, cs', t, o⟩) := by
 have hnl := (List.getElem?_eq_some_iff.1 hn).1
 have hself : (M.set n ⟨g, cs', t, o⟩)[n]? = some ⟨g, cs', t, o⟩ := List.getElem?_set_self hnl
 have key : ∀ (m : Nat) (e : Ent), (M.set n ⟨g, cs', t, o⟩)[m]? = some e → (m = n ∧ e = ⟨g, cs', t, o⟩) ∨ (m ≠ n ∧ M[m]? = some e) := by
  intro m e hm
  by_cases hmn : m = n
  ·subst hmn; rw [hself] at hm; exact Or.inl ⟨rfl, (Option.some.inj hm).symm⟩
  ·rw [List.getElem?_set_ne (Ne.symm hmn)] at hm; exact Or.inr ⟨hmn, hm⟩
 have gof : ∀ (m : Nat) (e : Ent), (M.set n ⟨g, cs', t, o⟩)[m]? = some e → ∃ e', M[m]? = some e' ∧ e'.g = e.g := by
  intro m e hm
  rcases key m e hm with ⟨rfl, rfl⟩ | ⟨_, hm⟩
  ·exact ⟨_, hn, rfl⟩
  ·exact ⟨_, hm, rfl⟩
 refine ⟨hos.trans h.os, htape.trans h.tape, hout.trans h.output, Nat.le_trans h.size hsize, fun k hk' hne => ?_, fun e he => ?_, fun m m' e f hm hm' hef => ?_⟩
 ·have hgk : g ≠ k := by
   have := hne _ (List.mem_of_getElem? hself); exact this
  have := h.size
  rw [hk k (by omega) (Ne.symm hgk)]
  refine h.block k hk' fun e he => ?_
  obtain ⟨m, hm⟩ := List.getElem?_of_mem he
  by_cases hmn : m = n
  ·subst hmn; rw [hn] at hm; rw [← Option.some.inj hm]; exact hgk
  ·exact hne e (List.mem_of_getElem? (by rw [List.getElem?_set_ne (Ne.symm hmn)]; exact hm))
 ·obtain ⟨m, hm⟩ := List.getElem?_of_mem he
  rcases key m e hm with ⟨rfl, rfl⟩ | ⟨hmn, hm⟩
  ·exact ⟨hg, (h.ent _ (List.mem_of_getElem? hn)).2⟩
  ·have he' := h.ent e (List.mem_of_getElem? hm)
   have hne : e.g ≠ g := fun e' => hmn (h.apart m n e _ hm hn e')
   rw [hk _ (lt_of_some he'.1) hne]
   exact he'
 ·obtain ⟨e', he', hge⟩ := gof m e hm
  obtain ⟨f', hf', hgf⟩ := gof m' f hm'
  exact h.apart m m' e' f' he' hf' (by rw [hge, hgf, hef])
theorem row (h : Mem w0 w M) (hn : M[n]? = some ⟨g, cs, t, o⟩) (cs' : Array Value) : Mem w0 (w.setRow g cs') (M.set n ⟨g, cs', t, o⟩) :=
 h.upd hn rfl rfl rfl (by simp) (setRow_heap w g cs cs' t (0, 0) (h.mem hn)) (fun k _ hk => setRow_other w g k cs' hk)
theorem set (h : Mem w0 w M) (hn : M[n]? = some ⟨g, cs, t, o⟩) (i : Nat) (v : Value) : Mem w0 (w.setCell ⟨g, i, none⟩ v) (M.set n ⟨g, cs.setIfInBounds i v, t, o⟩) := by
 rw [setCell_eq_setRow w g i cs t (0, 0) v (h.mem hn)]
 exact h.row hn _
theorem after (h : Mem w0 w M) (hb : Below w.heap.size w w') : Mem w0 w' M := by
 have hlt : ∀ e ∈ M, e.g < w.heap.size := fun e he => lt_of_some (h.ent e he).1
 have := h.size
 exact ⟨hb.os.trans h.os, hb.tape.trans h.tape, hb.output.trans h.output, Nat.le_trans h.size hb.size,
  fun k hk hne => (hb.block k (by omega)).trans (h.block k hk hne),
  fun e he => by rw [hb.block _ (hlt e he)]; exact h.ent e he, h.apart⟩
theorem drawn (h : Mem w0 w M) (n : Nat) : Mem w0 { w with drawn := n } M :=
 ⟨h.os, h.tape, h.output, h.size, h.block, h.ent, h.apart⟩
theorem get {k : IntKind} {L : List Int} (h : Mem w0 w M) (hn : M[n]? = some ⟨g, vals k L, t, o⟩) (i : Nat) (hi : i < L.length) : w.cell? ⟨g, i, none⟩ = some (.int k (rd L (i : Int))) :=
 (h.cell hn i).trans (vals_get hi)
end Mem
structure Fr1 (g : Nat) (cs : Array Value) (t : TypeId) (w w' : World) : Prop where
 os : w'.os = w.os
 tape : w'.tape = w.tape
 output : w'.output = w.output
 size : w.heap.size ≤ w'.heap.size
 now : w'.heap[g]? = some (.cells cs t (0, 0))
 other : ∀ k, k < w.heap.size → k ≠ g → w'.heap[k]? = w.heap[k]?
theorem Mem.fr1 {w0 w w' : World} {M : List Ent} {n g : Nat} {cs cs' : Array Value} {t : TypeId} {o : Bool} (h : Mem w0 w M) (hn : M[n]? = some ⟨g, cs, t, o⟩) (hf : Fr1 g cs' t w w') : Mem w0 w' (M.set n ⟨g, cs', t, o⟩) :=
 h.upd hn hf.os hf.tape hf.output hf.size hf.now hf.other
theorem Mem.gives {w0 w : World} {M : List Ent} {g : Nat} {cs : Array Value} {t : TypeId} (h : Mem w0 w (M ++ [⟨g, cs, t, false⟩])) (ho : M.all (·.own) = true) : Fr1 g cs t w0 w :=
 ⟨h.os, h.tape, h.output, h.size, (h.ent ⟨g, cs, t, false⟩ (by simp)).1, fun k hk hne => h.block k hk fun e he => by
  rcases List.mem_append.1 he with he | he
  ·have := (h.ent e (List.mem_append_left _ he)).2 (List.all_eq_true.1 ho e he); omega
  ·rw [List.mem_singleton] at he; subst he; exact Ne.symm hne⟩
def AggTy (P : Program) (t : TypeId) (m : Nat) : Prop := (P.underlying t).map (fun d => match d with | .struct _ | .array _ _ => true | _ => false) = some true ∧ (P.info? t).map (·.size) = some m
def OneTy (P : Program) (t : TypeId) : Prop := (P.underlying t).map (fun d => match d with | .struct _ | .array _ _ => true | _ => false) = some false ∧ (P.info? t).map (·.size) = some 1
def ArrTy (P : Program) (t : TypeId) (m : Nat) : Prop := ∃ e, P.underlying t = some (.array m e) ∧ OneTy P e
def ZeroTy (P : Program) (t : TypeId) (cs : Array Value) : Prop := ∃ z, (P.info? t).map (·.zero) = some (some z) ∧ z.cells = cs
def FieldTy (P : Program) (t : TypeId) (f off : Nat) : Prop :=
 (match P.underlying t with | some (.struct fs) => (fs[f]?).bind fun fd => (P.info? fd.type).bind fun inf => if inf.size = 0 then none else some fd.offset | _ => none) = some off
section
variable {P : Program} {ops : Array Oper} {rest : List Oper} {o : Oper} {a : Act} {w0 w : World} {M : List Ent} {Q : Exit → Act → World → Prop}
theorem run_alloc {ty : TypeId} {z old : Value} (hz : (P.info? ty).map (·.zero) = some (some z)) (w : World) : (Instr.alloc ty true old).run P w = .ok (.pointer (some ⟨w.heap.size, 0, none⟩)) (w.alloc (.cells z.cells ty)) := by
 cases hq : P.info? ty with
 | none => simp [hq] at hz
 | some i =>
  have hz' : i.zero = some z := by simpa [hq] using hz
  simp [Instr.alloc, zeroValue, typeInfo, hq, hz', newVar, newRow, Sem.run_bind]
theorem st_alloc (hgd : o.guard = none) (d : Nat) (hdst : o.dst = some d) (ty : TypeId) (ho : o.op = .alloc ty) (hm : Mem w0 w M) {cs : Array Value} (hzt : ZeroTy P ty cs)
  (h : ∀ g w1, Mem w0 w1 (⟨g, cs, ty, true⟩ :: M) → wpList P ops Q rest (a.put (some d) (.pointer (some ⟨g, 0, none⟩))) w1) : wpList P ops Q (o :: rest) a w := by
 obtain ⟨z, hz, rfl⟩ := hzt
 refine wpList_plain hgd fun K hK => ?_
 rw [← hdst] at h
 unfold Oper.wp execOp
 simp only [ho, Sem.run_bind, run_alloc hz, Sem.run_pure, Result.andThen_ok]
 exact hK _ _ (h _ _ (hm.new _ _))
theorem st_zero (hgd : o.guard = none) (t : TypeId) (ho : o.op = .build t #[]) {cs : Array Value} (hz : P.built t [] = some cs)
  (h : wpList P ops Q rest (a.put o.dst (.agg cs)) w) : wpList P ops Q (o :: rest) a w := by
 refine wpList_build hgd t #[] ho ?_ ?_
 ·simp [hz]
 ·simp [hz]; exact h
theorem st_full (hgd : o.guard = none) (ty : TypeId) (x y : Operand) (ho : o.op = .store ty x y) (hm : Mem w0 w M) {g m : Nat} {k k' : IntKind} {S : List Int} (hx : a.eval x = .pointer (some ⟨g, 0, none⟩)) (hy : a.eval y = .agg (vals k S))
  (n : Nat) {L : List Int} {t : TypeId} {own : Bool} (hn : M[n]? = some ⟨g, vals k' L, t, own⟩) (hi : AggTy P ty m) (hs : S.length = m) (hl : L.length = m)
  (h : ∀ w1, Mem w0 w1 (M.set n ⟨g, vals k S, t, own⟩) → wpList P ops Q rest (a.put o.dst undef) w1) : wpList P ops Q (o :: rest) a w :=
 wpList_store_row hgd ty x y ho g (vals k S) hx hy t _ (hm.mem hn) (by rw [vals_size, hs]; exact hi.2) (by rw [vals_size, vals_size, hs, hl]) vals_one (h _ (hm.row hn _))
theorem st_load (hgd : o.guard = none) (ty : TypeId) (x : Operand) (ho : o.op = .load ty x) (hm : Mem w0 w M) {g : Nat} (hx : a.eval x = .pointer (some ⟨g, 0, none⟩))
  (n : Nat) {k : IntKind} {L : List Int} {m : Nat} {t : TypeId} {own : Bool} (hn : M[n]? = some ⟨g, vals k L, t, own⟩) (hi2 : AggTy P ty m) (hl : L.length = m)
  (h : wpList P ops Q rest (a.put o.dst (.agg (vals k L))) w) : wpList P ops Q (o :: rest) a w := by
 obtain ⟨hd, hi0⟩ := hi2
 have hi : (P.info? ty).map (·.size) = some (vals k L).size := by rw [vals_size, hl]; exact hi0
 cases hu : P.underlying ty with
 | none => simp [hu] at hd
 | some d =>
  refine wpList_load_row hgd ty x ho g hx t (vals k L) (0, 0) d (hm.mem hn) hu ?_ hi h
  cases d <;> simp_all
theorem run_store1 {ty : TypeId} {w : World} {a : Addr} {v : Value} (hi : (P.info? ty).map (·.size) = some 1) (hv : v.cells = #[v]) {old : Value} (hc : w.cell? a = some old) (hf : w.frozen? a = false) (h1 : v.oneCell' = true) : (storeVar ty a v).run P w = .ok () (w.setCell a v) := by
 cases hq : P.info? ty with
 | none => simp [hq] at hi
 | some i =>
  have hs : i.size = 1 := by simpa [hq] using hi
  have ha : a.add 0 = a := rfl
  simp [storeVar, sizeOf, typeInfo, hq, hs, hv, storeCells, Sem.run_bind, ha, run_store P w a v .plain h1, hc, hf]
theorem st_set (hgd : o.guard = none) (ty : TypeId) (x y : Operand) (ho : o.op = .store ty x y) (hm : Mem w0 w M) {g i : Nat} {k : IntKind} {u : Int} (hx : a.eval x = .pointer (some ⟨g, i, none⟩)) (hy : a.eval y = .int k u)
  (n : Nat) {L : List Int} {t : TypeId} {own : Bool} (hn : M[n]? = some ⟨g, vals k L, t, own⟩) (hi2 : OneTy P ty) (hl : i < L.length)
  (h : ∀ w1, Mem w0 w1 (M.set n ⟨g, vals k (L.set i u), t, own⟩) → wpList P ops Q rest (a.put o.dst undef) w1) : wpList P ops Q (o :: rest) a w := by
 refine wpList_plain hgd fun K hK => ?_
 unfold Oper.wp execOp
 have hst : (storeVar ty ⟨g, i, none⟩ (.int k u)).run P w = .ok () (w.setCell ⟨g, i, none⟩ (.int k u)) := run_store1 hi2.2 rfl ((hm.cell hn i).trans (vals_get hl)) (hm.frozen hn i) rfl
 simp only [ho, hx, hy, Instr.storeAt, Instr.sureAddr, Sem.run_bind, Sem.run_pure, Result.andThen_ok, hst]
 refine hK _ _ (h _ ?_)
 rw [← vals_set]
 exact hm.set hn i _
theorem st_index (hgd : o.guard = none) (ty : TypeId) (x y : Operand) (ho : o.op = .index ty x y) {k ki : IntKind} {L : List Int} {i : Int} {m : Nat} (hx : a.eval x = .agg (vals k L)) (hy : a.eval y = .int ki i)
  (hat : ArrTy P ty m) (h0 : 0 ≤ i) (h1 : i < m) (hl : L.length = m)
  (h : wpList P ops Q rest (a.put o.dst (.int k (rd L i))) w) : wpList P ops Q (o :: rest) a w := by
 obtain ⟨e, hu, hd, he⟩ := hat
 refine wpList_plain hgd fun K hK => ?_
 unfold Oper.wp execOp
 have hagg : (isAgg e).run P w = .ok false w := by
  unfold isAgg
  cases hu : P.underlying e with
  | none => simp [hu] at hd
  | some d =>
   rw [Sem.run_bind, run_underlying hu w]
   cases d <;> simp_all
 have hsz : (sizeOf e).run P w = .ok 1 w := by
  cases hq : P.info? e with
  | none => simp [hq] at he
  | some i => simp [sizeOf, typeInfo, hq, Sem.run_bind]; simpa [hq] using he
 have hg : (vals k L)[i.toNat]? = some (.int k (rd L i)) := by
  rw [vals_get (by omega), Int.toNat_of_nonneg h0]
 simp only [ho, hx, hy, Instr.index, asIntOf, Sem.run_bind, Sem.run_pure, Result.andThen_ok, run_underlying hu w, if_pos (And.intro h0 h1), hsz, part, hagg, Nat.mul_one]
 simp [hg]
 exact hK _ _ h
theorem st_elem (hgd : o.guard = none) (ty : TypeId) (x y : Operand) (ho : o.op = .indexAddr ty x y) {g off : Nat} {ki : IntKind} {i : Int} {m : Nat} (hx : a.eval x = .pointer (some ⟨g, off, none⟩)) (hy : a.eval y = .int ki i)
  (hat : ArrTy P ty m) (h0 : 0 ≤ i) (h1 : i < m)
  (h : wpList P ops Q rest (a.put o.dst (.pointer (some ⟨g, off + i.toNat, none⟩))) w) : wpList P ops Q (o :: rest) a w := by
 obtain ⟨e, hu, hd, he⟩ := hat
 refine wpList_plain hgd fun K hK => ?_
 unfold Oper.wp execOp
 have hsz : (sizeOf e).run P w = .ok 1 w := by
  cases hq : P.info? e with
  | none => simp [hq] at he
  | some i => simp [sizeOf, typeInfo, hq, Sem.run_bind]; simpa [hq] using he
 have hadd : (⟨g, off, none⟩ : Addr).add i.toNat = ⟨g, off + i.toNat, none⟩ := by unfold Addr.add; split <;> simp_all
 simp [ho, hx, hy, Instr.indexAt, asIntOf, Sem.run_bind, run_underlying hu w, Instr.sureAddr, hsz, h0, h1, hadd]
 exact hK _ _ h
theorem ret_cell {fn : Func} {R : Ending → World → Prop} {p : Tmp} {ty : TypeId} {g : Nat} (hm : Mem w0 w M) (h : fn.results = #[.cell p ty]) (hp : a.tmps.getD p undef = .pointer (some ⟨g, 0, none⟩))
  (n : Nat) {k : IntKind} {L : List Int} {m : Nat} {t : TypeId} {own : Bool} (hn : M[n]? = some ⟨g, vals k L, t, own⟩) (hi2 : AggTy P ty m) (hl : L.length = m)
  (hd : a.defers = []) (hR : R (.returned (.agg (vals k L))) w) : bodyPost P fn R .ret a w := by
 obtain ⟨hd2, hi0⟩ := hi2
 have hi : (P.info? ty).map (·.size) = some (vals k L).size := by rw [vals_size, hl]; exact hi0
 cases hu : P.underlying ty with
 | none => simp [hu] at hd2
 | some d =>
  have hld := run_loadVar_row (P := P) w g t ty (vals k L) (0, 0) d (hm.mem hn) hu (by cases d <;> simp_all) hi
  refine bodyPost_ret (v := .agg (vals k L)) ?_ hd hR
  have hp' : a.tmps[p]?.getD undef = .pointer (some ⟨g, 0, none⟩) := by simpa using hp
  simp [results, h, hp', asAddr, hld]
theorem ret_cell_tmp {fn : Func} {R : Ending → World → Prop} {p u : Tmp} {ty : TypeId} {g : Nat} (hm : Mem w0 w M) (h : fn.results = #[.cell p ty, .tmp u]) (hp : a.tmps.getD p undef = .pointer (some ⟨g, 0, none⟩))
  (n : Nat) {k : IntKind} {L : List Int} {m : Nat} {t : TypeId} {own : Bool} (hn : M[n]? = some ⟨g, vals k L, t, own⟩) (hi2 : AggTy P ty m) (hl : L.length = m)
  (hd : a.defers = []) (hR : R (.returned (.tuple #[.agg (vals k L), a.tmps.getD u undef])) w) : bodyPost P fn R .ret a w := by
 obtain ⟨hd2, hi0⟩ := hi2
 have hi : (P.info? ty).map (·.size) = some (vals k L).size := by rw [vals_size, hl]; exact hi0
 cases hu : P.underlying ty with
 | none => simp [hu] at hd2
 | some d =>
  have hld := run_loadVar_row (P := P) w g t ty (vals k L) (0, 0) d (hm.mem hn) hu (by cases d <;> simp_all) hi
  refine bodyPost_ret (v := .tuple #[.agg (vals k L), a.tmps.getD u undef]) ?_ hd hR
  rw [results_cell_tmp h, hp]
  simp [asAddr, hld]
end
theorem lens : (∀ (L : List Int) (i : Nat) (v : Int), (L.set i v).length = L.length) ∧ (∀ (n : Nat) (v : Int), (List.replicate n v).length = n) ∧ (∀ n : Nat, (zs n).length = n) ∧ (∀ (f : Int → Int) (L : List Int), (L.map f).length = L.length) ∧
  (∀ L L' : List Int, (L ++ L').length = L.length + L'.length) ∧ (∀ (n : Nat) (L : List Int), (L.take n).length = min n L.length) ∧ (∀ (n : Nat) (L : List Int), (L.drop n).length = L.length - n) ∧ (∀ (x : Int) (L : List Int), (x :: L).length = L.length + 1) ∧
  (([] : List Int).length = 0) ∧ (∀ n : Nat, 0 + n = n) ∧ (∀ n : Nat, n + 0 = n) ∧ (∀ n : Nat, ((n : Int).toNat) = n) :=
 ⟨by simp, by simp, fun n => zs_length, by simp, by simp, by simp, by simp, by simp, rfl, by simp, by simp, by simp⟩
section
variable {P : Program} {ops : Array Oper} {rest : List Oper} {a : Act} {w : World} {Q : Exit → Act → World → Prop} {dst : Option Tmp} {x y : Operand} {tt : TypeId} {pos : String} {after : Array Edge} {g : Option (Nat × Bool)}
theorem gt_alloc (d ty : Nat) (h : wpList P ops Q (⟨some d, .alloc ty, tt, pos, after, g⟩ :: rest) a w) : wpList P ops Q (⟨some d, .alloc ty, tt, pos, after, g⟩ :: rest) a w := h
theorem gt_build (ty : Nat) (h : wpList P ops Q (⟨dst, .build ty #[], tt, pos, after, g⟩ :: rest) a w) : wpList P ops Q (⟨dst, .build ty #[], tt, pos, after, g⟩ :: rest) a w := h
theorem gt_store (ty : Nat) (h : wpList P ops Q (⟨dst, .store ty x y, tt, pos, after, g⟩ :: rest) a w) : wpList P ops Q (⟨dst, .store ty x y, tt, pos, after, g⟩ :: rest) a w := h
theorem gt_load (ty : Nat) (h : wpList P ops Q (⟨dst, .load ty x, tt, pos, after, g⟩ :: rest) a w) : wpList P ops Q (⟨dst, .load ty x, tt, pos, after, g⟩ :: rest) a w := h
theorem gt_index (ty : Nat) (h : wpList P ops Q (⟨dst, .index ty x y, tt, pos, after, g⟩ :: rest) a w) : wpList P ops Q (⟨dst, .index ty x y, tt, pos, after, g⟩ :: rest) a w := h
theorem gt_elem (ty : Nat) (h : wpList P ops Q (⟨dst, .indexAddr ty x y, tt, pos, after, g⟩ :: rest) a w) : wpList P ops Q (⟨dst, .indexAddr ty x y, tt, pos, after, g⟩ :: rest) a w := h
end
end Go.Proofs.YtpbomchjcgndoaaGreatDoor.Arr
namespace Go.Proofs.YtpbomchjcgndoaaGreatDoor.N
open Go.RowKit Go.Proofs.YtpbomchjcgndoaaGreatDoorW.PrintWords Go.Proofs.YtpbomchjcgndoaaGreatDoorW.PrintLast Go.Proofs.YtpbomchjcgndoaaGreatDoorW.PrintMore
attribute [local go_sem] max2_int min2_int max_two min_two max_three min_three max_four min_four
set_option linter.unusedVariables false
set_option linter.unusedSimpArgs false
def errW : Option Int → Value
 | none => .nilIface
 | some c => .iface 0 (.int .i64 c)
theorem errW_none : errW none = .nilIface := rfl
theorem errW_some (c : Int) : errW (some c) = .iface 0 (.int .i64 c) := rfl
theorem info2 : (Tryz.prog.info? 2).map (fun i => (i.zero, i.size, i.bytes)) = some (some (.int .i64 0), 1, 8) := by kernel_rfl
theorem info51 : (Tryz.prog.info? 51).map (fun i => (i.zero, i.size, i.bytes)) = some (some (.int .i8 0), 1, 1) := by kernel_rfl
end Go.Proofs.YtpbomchjcgndoaaGreatDoor.N
namespace Go.Proofs.YtpbomchjcgndoaaGreatDoor.N
open Go.RowKit Go.Proofs.YtpbomchjcgndoaaGreatDoorW.PrintWords Go.Proofs.YtpbomchjcgndoaaGreatDoorW.PrintLast Go.Proofs.YtpbomchjcgndoaaGreatDoorW.PrintMore
attribute [local go_sem] max2_int min2_int max_two min_two max_three min_three max_four min_four
set_option linter.unusedVariables false
set_option linter.unusedSimpArgs false
def spec_l00In.f (a0 : Int) (a1 : Int) (a2 : Int) : Option (Bool) := if a0 ≥ a1 then (some (decide (a0 ≤ a2))) else (some false)
set_option maxHeartbeats 8000000 in
set_option maxRecDepth 100000 in
theorem spec_l00In.calls (a0 : Int) (a1 : Int) (a2 : Int) (r : Bool) (w : World) (h : spec_l00In.f a0 a1 a2 = some r) :
  Calls Tryz.prog 53 #[.int .i64 a0, .int .i64 a1, .int .i64 a2] w fun e w' => e = .returned (.bool r) ∧ Drawn0 w w' := by
 have H : (if a0 ≥ a1 then (some (decide (a0 ≤ a2))) else (some false)) = some r := h
 clear h
 by_cases c4 : a0 ≥ a1
 ·rw [if_pos c4] at H
  have c4b0 : decide (a1 ≤ a0) = true := decide_eq_true c4
  clear c4
  obtain rfl := Option.some.inj H
  go_enter Tryz.func53, Tryz.ntmps53
  go_wp2
  go_ret
  exact ⟨by first | rfl | (simp; done) | (simp [*]; done), by repeat (first | exact Drawn0.refl _ | apply Drawn0.step)⟩
 ·rw [if_neg c4] at H
  have c4b0 : decide (a1 ≤ a0) = false := decide_eq_false c4
  clear c4
  obtain rfl := Option.some.inj H
  go_enter Tryz.func53, Tryz.ntmps53
  go_wp2
  go_ret
  exact ⟨by first | rfl | (simp; done) | (simp [*]; done), by repeat (first | exact Drawn0.refl _ | apply Drawn0.step)⟩
mutual
def spec_l02Read.l0 : Nat → List Int → Int → List Int → Int → Int → Option (List Int × Bool)
 | 0, _, _, _, _, _ => none
 | k + 1, x0, x4, x5, x6, x7 => if x7 < x4 then (if 0 ≤ x7 then (if x7 < (x0.length : Int) then (if (rd x0 x7) = (-10) then (if x7 = x6 then (some ((([] : List Int)), false)) else (if x7 = (wrap64 (x4 - 1)) then (some ((([] : List Int)), false)) else (if x5.length < 140737488355328 then (spec_l02Read.l0 k x0 x4 (x5 ++ [rd x0 x7]) (wrap64 (x7 + 1)) (wrap64 (x7 + 1))) else (none)))) else (if (rd x0 x7) ≥ 0 then (spec_l02Read.j1 k x0 x4 x5 x6 x7 (rd x0 x7) (decide ((rd x0 x7) < 40))) else (spec_l02Read.j1 k x0 x4 x5 x6 x7 (rd x0 x7) false))) else (none)) else (none)) else (some (x5, true))
def spec_l02Read.j1 : Nat → List Int → Int → List Int → Int → Int → Int → Bool → Option (List Int × Bool)
 | 0, _, _, _, _, _, _, _ => none
 | k + 1, x0, x4, x5, x6, x7, x8, x46 => if x46 = true then (if x5.length < 140737488355328 then (spec_l02Read.l0 k x0 x4 (x5 ++ [x8]) x6 (wrap64 (x7 + 1))) else (none)) else (if x8 < 0 then (spec_l02Read.j2 k x0 x4 x5 x6 x7 x8 (decide (x8 ≥ (-4)))) else (spec_l02Read.j2 k x0 x4 x5 x6 x7 x8 false))
def spec_l02Read.j2 : Nat → List Int → Int → List Int → Int → Int → Int → Bool → Option (List Int × Bool)
 | 0, _, _, _, _, _, _, _ => none
 | k + 1, x0, x4, x5, x6, x7, x8, x57 => if x57 = true then (if (wrap64 ((wrap64 (x6 + (wrap64 (IntKind.i8.wrap (-x8))))) - 1)) ≥ x7 then (some ((([] : List Int)), false)) else (if 0 ≤ (wrap64 ((wrap64 (x6 + (wrap64 (IntKind.i8.wrap (-x8))))) - 1)) then (if (wrap64 ((wrap64 (x6 + (wrap64 (IntKind.i8.wrap (-x8))))) - 1)) < (x5.length : Int) then (if x5.length < 140737488355328 then (spec_l02Read.l0 k x0 x4 (x5 ++ [rd x5 (wrap64 ((wrap64 (x6 + (wrap64 (IntKind.i8.wrap (-x8))))) - 1))]) x6 (wrap64 (x7 + 1))) else (none)) else (none)) else (none))) else (some ((([] : List Int)), false))
end
def spec_l02Read.f (k : Nat) (l0 : List Int) : Option (List Int × Bool) := (spec_l00In.f (l0.length : Int) 1 8).bind fun t101 => (if t101 = true then (spec_l02Read.l0 k l0 (l0.length : Int) (([] : List Int)) 0 0) else (some ((([] : List Int)), false)))
set_option maxHeartbeats 8000000 in
set_option maxRecDepth 100000 in
theorem spec_l02Read.calls (k : Nat) (A0 : Option Addr) (c0 : Nat) (l0 : List Int) (r1 : List Int) (r2 : Bool) (w : World) (hr0 : Kd.C (Kd.int .i8) w A0 l0.length l0) (hc0 : l0.length ≤ c0) (h : spec_l02Read.f k l0 = some (r1, r2)) :
  Calls Tryz.prog 31 #[.slice A0 l0.length c0] w fun e w' => ∃ v0_ : Value, e = .returned (.tuple #[v0_, .bool r2]) ∧ Kd.R (Kd.int .i8) 51 w' w.heap.size (fun _ => True) v0_ r1 ∧ Below w.heap.size w w' := by
 have HR0 := Aside0.mk hr0
 have HC0 := Aside0.mk hc0
 clear hr0 hc0
 have HB := Aside0.mk (Below.refl w.heap.size w)
 have H : ((spec_l00In.f (l0.length : Int) 1 8).bind fun t101 => (if t101 = true then (spec_l02Read.l0 k l0 (l0.length : Int) (([] : List Int)) 0 0) else (some ((([] : List Int)), false)))) = some (r1, r2) := h
 clear h
 replace H := Option.bind_eq_some_iff.mp H
 obtain ⟨t101, A20, H⟩ := H
 replace H : (if t101 = true then (spec_l02Read.l0 k l0 (l0.length : Int) (([] : List Int)) 0 0) else (some ((([] : List Int)), false))) = some (r1, r2) := H
 have A2 := Aside0.mk A20
 clear A20
 by_cases c3 : t101 = true
 ·subst c3
  have H1 : (spec_l02Read.l0 k l0 (l0.length : Int) (([] : List Int)) 0 0) = some (r1, r2) := by rw [if_pos rfl] at H; exact H
  clear H
  have H := H1
  clear H1
  obtain ⟨y105, hy105⟩ : ∃ y_ : List Int, y_ = (([] : List Int)) := ⟨_, rfl⟩
  replace H : (spec_l02Read.l0 k l0 (l0.length : Int) y105 0 0) = some (r1, r2) := by first | (rw [hy105]; with_reducible exact H) | (have H2_ := (Option.bind_some _ _).symm.trans H; rw [hy105]; with_reducible exact H2_) | (have H2_ := (Option.bind_some _ _).symm.trans H; with_reducible exact H2_) | with_reducible exact H | (rw [hy105]; exact H) | exact H
  have Ny105 := Aside0.mk hy105
  clear hy105
  have H' := Aside0.mk H
  clear H
  go_enter Tryz.func31, Tryz.ntmps31
  go_wp2_with (first | ((with_reducible refine gate_callee (f := 53) rfl ?_); refine goesL_ (some 13) rfl rfl Tryz.func53 (by kernel_rfl) rfl #[.int .i64 (l0.length : Int), .int .i64 1, .int .i64 8] rfl (by (try simp only [List.map_toArray, List.map_cons, List.map_nil]); first | done | rfl | (simp only [List.length_drop, List.length_take]; rfl)) ?_; (with_reducible refine (spec_l00In.calls (l0.length : Int) 1 8 true _ A2.out).mono ?_); rintro e w' ⟨rfl, ⟨nd, rfl⟩⟩; refine ⟨_, rfl, ?_⟩) | ((with_reducible refine gate_dst (N := 16) rfl ?_); refine Kd.R_lit (Kd.int .i8) _ 51 ?hg (N := 16) ?hd (xs := ([] : List Int)) (inner := []) (ok := fun _ => True) (okp := fun _ => True) ?hr ?hp (fun _ hk => hk) trivial (Below.refl _ _) (Nat.le_refl _) (by simp) ?_; (case hd => rfl); (case hg => rfl); (case hr => first | (go_simp; done) | (go_simp; rfl)); (case hp => exact (Reps.none _ _)); intro v106 w4 ho5 hb hg_ hnew_; clear hg_ hnew_; (first | rw [← Ny105.out] at ho5 | (simp only [Int.reduceToNat] at ho5; rw [← Ny105.out] at ho5)); have n0_ := Aside0.mk (Kd.R_lower ho5 (below_size (by repeat (first | (with_reducible first | exact HB.out | apply below_alloc | apply pw_below_drewN | apply below_drew1) | exact HB.out)))); have n1_ := Aside0.mk (below_step (by repeat (first | (with_reducible first | exact HB.out | apply below_alloc | apply pw_below_drewN | apply below_drew1) | exact HB.out)) hb); clear HB; have HO107 := n0_; have HB := n1_; clear n0_ n1_; clear hb ho5))
  go_loopg [5, 6, 7] k (fun kq v5 v6 v7 w' => ∃ (x5_1 : List Int) (x6_1 : Int) (x7_1 : Int), v6 = .int .i64 x6_1 ∧ v7 = .int .i64 x7_1 ∧ Aside0 (spec_l02Read.l0 kq l0 (l0.length : Int) x5_1 x6_1 x7_1 = some (r1, r2)) ∧ Aside0 (kq ≤ k) ∧ Aside0 (Kd.R (Kd.int .i8) 51 w' w.heap.size (fun _ => True) v5 x5_1) ∧ Aside0 (Below w.heap.size w w'))
  case atStart => exact ⟨(y105), (0), (0), (by first | rfl | (simp; done) | (simp [*]; done)), (by first | rfl | (simp; done) | (simp [*]; done)), H', ⟨Nat.le_refl _⟩, ⟨by (with_reducible repeat (first | apply Kd.R_alloc | apply Kd.R_drewN | apply Kd.R_drew)); exact HO107.out⟩, ⟨by repeat (first | (with_reducible first | exact HB.out | apply below_alloc | apply pw_below_drewN | apply below_drew1) | exact HB.out)⟩⟩
  case round =>
   clear H'
   try clear p2
   try clear c3
   try clear c5
   obtain ⟨x5_1, x6_1, x7_1, rfl, rfl, HA, HK1, HO_5, HB⟩ := hrel
   cases gk with
   | zero => exact absurd HA.out (by simp [spec_l02Read.l0])
   | succ k1 =>
    have H := HA.out
    clear HA
    simp only [spec_l02Read.l0] at H
    by_cases c6 : x7_1 < (l0.length : Int)
    ·rw [if_pos c6] at H
     have c6b0 : decide (x7_1 < (l0.length : Int)) = true := decide_eq_true c6
     clear c6
     by_cases c7 : 0 ≤ x7_1
     ·rw [if_pos c7] at H
      have c7b0 : decide (0 ≤ x7_1) = true := decide_eq_true c7
      clear c7
      by_cases c8 : x7_1 < (l0.length : Int)
      ·rw [if_pos c8] at H
       have c8b0 : decide (x7_1 < (l0.length : Int)) = true := decide_eq_true c8
       clear c8
       by_cases c9 : (rd l0 x7_1) = (-10)
       ·rw [if_pos c9] at H
        have c9b0 : ((rd l0 x7_1) == (-10)) = true := beq_iff_eq.mpr c9
        have c9b1 : ((rd l0 x7_1) != (-10)) = false := bne_eq_false_iff_eq.mpr c9
        clear c9
        by_cases c10 : x7_1 = x6_1
        ·rw [if_pos c10] at H
         have c10b0 : (x7_1 == x6_1) = true := beq_iff_eq.mpr c10
         have c10b1 : (x7_1 != x6_1) = false := bne_eq_false_iff_eq.mpr c10
         clear c10
         obtain ⟨y109, hy109⟩ : ∃ y_ : List Int, y_ = (([] : List Int)) := ⟨_, rfl⟩
         replace H : (some (y109, false)) = some (r1, r2) := by first | (rw [hy109]; with_reducible exact H) | (have H2_ := (Option.bind_some _ _).symm.trans H; rw [hy109]; with_reducible exact H2_) | (have H2_ := (Option.bind_some _ _).symm.trans H; with_reducible exact H2_) | with_reducible exact H | (rw [hy109]; exact H) | exact H
         have Ny109 := Aside0.mk hy109
         clear hy109
         simp only [Option.some.injEq, Prod.mk.injEq] at H
         obtain ⟨rfl, rfl⟩ := H
         have p108 : 0 ≤ (x7_1 : Int) := of_decide_eq_true (by first | (with_reducible assumption) | assumption)
         have q108 : x7_1 < (l0.length : Int) := of_decide_eq_true (by first | (with_reducible assumption) | assumption)
         obtain ⟨ad108, e108, hx108_0⟩ := Kd.at_int HR0.out x7_1 p108 q108
         cases e108
         replace hx108_0 := (HB.out.cell (World.block_lt_of_cell? w _ hx108_0)).trans hx108_0
         replace p108 := eq_true p108
         replace q108 := eq_true q108
         go_wp2_with (first | ((with_reducible refine gate_dst (N := 39) rfl ?_); refine Kd.R_lit (Kd.int .i8) _ 51 ?hg (N := 39) ?hd (xs := ([] : List Int)) (inner := []) (ok := fun _ => True) (okp := fun _ => True) ?hr ?hp (fun _ hk => hk) trivial (Below.refl _ _) (Nat.le_refl _) (by simp) ?_; (case hd => rfl); (case hg => rfl); (case hr => first | (go_simp; done) | (go_simp; rfl)); (case hp => exact (Reps.none _ _)); intro v110 w11 ho12 hb hg_ hnew_; clear hg_ hnew_; (first | rw [← Ny109.out] at ho12 | (simp only [Int.reduceToNat] at ho12; rw [← Ny109.out] at ho12)); have n0_ := Aside0.mk (Kd.R_elder' (by (with_reducible repeat (first | apply Kd.R_alloc | apply Kd.R_drewN | apply Kd.R_drew)); exact HO_5.out) (Kd.R_base ho12) hb); have n1_ := Aside0.mk (Kd.R_lower (Kd.R_new' ho12 (Kd.R_lt (by (with_reducible repeat (first | apply Kd.R_alloc | apply Kd.R_drewN | apply Kd.R_drew)); exact HO_5.out))) (below_size (by repeat (first | (with_reducible first | exact HB.out | apply below_alloc | apply pw_below_drewN | apply below_drew1) | exact HB.out)))); have n2_ := Aside0.mk (below_step (by repeat (first | (with_reducible first | exact HB.out | apply below_alloc | apply pw_below_drewN | apply below_drew1) | exact HB.out)) hb); clear HO_5; clear HB; have HO_5 := n0_; have HO111 := n1_; have HB := n2_; clear n0_ n1_ n2_; clear hb ho12))
         go_ret2
         exact ⟨_, by first | rfl | (simp [errW_none, errW_some] <;> rfl) | (simp [*, errW_none, errW_some] <;> rfl), by (with_reducible repeat (first | apply Kd.R_alloc | apply Kd.R_drewN | apply Kd.R_drew)); exact Kd.R_mono HO111.out (fun _ hk => trivial), by repeat (first | (with_reducible first | exact HB.out | apply below_alloc | apply pw_below_drewN | apply below_drew1) | exact HB.out)⟩
        ·rw [if_neg c10] at H
         have c10b0 : (x7_1 == x6_1) = false := beq_eq_false_iff_ne.mpr c10
         have c10b1 : (x7_1 != x6_1) = true := bne_iff_ne.mpr c10
         by_cases c13 : x7_1 = (wrap64 ((l0.length : Int) - 1))
         ·rw [if_pos c13] at H
          have c13b0 : (x7_1 == (wrap64 ((l0.length : Int) - 1))) = true := beq_iff_eq.mpr c13
          have c13b1 : (x7_1 != (wrap64 ((l0.length : Int) - 1))) = false := bne_eq_false_iff_eq.mpr c13
          clear c13
          obtain ⟨y112, hy112⟩ : ∃ y_ : List Int, y_ = (([] : List Int)) := ⟨_, rfl⟩
          replace H : (some (y112, false)) = some (r1, r2) := by first | (rw [hy112]; with_reducible exact H) | (have H2_ := (Option.bind_some _ _).symm.trans H; rw [hy112]; with_reducible exact H2_) | (have H2_ := (Option.bind_some _ _).symm.trans H; with_reducible exact H2_) | with_reducible exact H | (rw [hy112]; exact H) | exact H
          have Ny112 := Aside0.mk hy112
          clear hy112
          simp only [Option.some.injEq, Prod.mk.injEq] at H
          obtain ⟨rfl, rfl⟩ := H
          have p108 : 0 ≤ (x7_1 : Int) := of_decide_eq_true (by first | (with_reducible assumption) | assumption)
          have q108 : x7_1 < (l0.length : Int) := of_decide_eq_true (by first | (with_reducible assumption) | assumption)
          obtain ⟨ad108, e108, hx108_0⟩ := Kd.at_int HR0.out x7_1 p108 q108
          cases e108
          replace hx108_0 := (HB.out.cell (World.block_lt_of_cell? w _ hx108_0)).trans hx108_0
          replace p108 := eq_true p108
          replace q108 := eq_true q108
          go_wp2_with (first | ((with_reducible refine gate_dst (N := 39) rfl ?_); refine Kd.R_lit (Kd.int .i8) _ 51 ?hg (N := 39) ?hd (xs := ([] : List Int)) (inner := []) (ok := fun _ => True) (okp := fun _ => True) ?hr ?hp (fun _ hk => hk) trivial (Below.refl _ _) (Nat.le_refl _) (by simp) ?_; (case hd => rfl); (case hg => rfl); (case hr => first | (go_simp; done) | (go_simp; rfl)); (case hp => exact (Reps.none _ _)); intro v113 w14 ho15 hb hg_ hnew_; clear hg_ hnew_; (first | rw [← Ny112.out] at ho15 | (simp only [Int.reduceToNat] at ho15; rw [← Ny112.out] at ho15)); have n0_ := Aside0.mk (Kd.R_elder' (by (with_reducible repeat (first | apply Kd.R_alloc | apply Kd.R_drewN | apply Kd.R_drew)); exact HO_5.out) (Kd.R_base ho15) hb); have n1_ := Aside0.mk (Kd.R_lower (Kd.R_new' ho15 (Kd.R_lt (by (with_reducible repeat (first | apply Kd.R_alloc | apply Kd.R_drewN | apply Kd.R_drew)); exact HO_5.out))) (below_size (by repeat (first | (with_reducible first | exact HB.out | apply below_alloc | apply pw_below_drewN | apply below_drew1) | exact HB.out)))); have n2_ := Aside0.mk (below_step (by repeat (first | (with_reducible first | exact HB.out | apply below_alloc | apply pw_below_drewN | apply below_drew1) | exact HB.out)) hb); clear HO_5; clear HB; have HO_5 := n0_; have HO114 := n1_; have HB := n2_; clear n0_ n1_ n2_; clear hb ho15))
          go_ret2
          exact ⟨_, by first | rfl | (simp [errW_none, errW_some] <;> rfl) | (simp [*, errW_none, errW_some] <;> rfl), by (with_reducible repeat (first | apply Kd.R_alloc | apply Kd.R_drewN | apply Kd.R_drew)); exact Kd.R_mono HO114.out (fun _ hk => trivial), by repeat (first | (with_reducible first | exact HB.out | apply below_alloc | apply pw_below_drewN | apply below_drew1) | exact HB.out)⟩
         ·rw [if_neg c13] at H
          have c13b0 : (x7_1 == (wrap64 ((l0.length : Int) - 1))) = false := beq_eq_false_iff_ne.mpr c13
          have c13b1 : (x7_1 != (wrap64 ((l0.length : Int) - 1))) = true := bne_iff_ne.mpr c13
          by_cases c16 : x5_1.length < 140737488355328
          ·rw [if_pos c16] at H
           have LMc16 := Aside0.mk c16
           clear c16
           obtain ⟨y115, hy115⟩ : ∃ y_ : List Int, y_ = (x5_1 ++ [rd l0 x7_1]) := ⟨_, rfl⟩
           replace H : (spec_l02Read.l0 k1 l0 (l0.length : Int) y115 (wrap64 (x7_1 + 1)) (wrap64 (x7_1 + 1))) = some (r1, r2) := by first | (rw [hy115]; with_reducible exact H) | (have H2_ := (Option.bind_some _ _).symm.trans H; rw [hy115]; with_reducible exact H2_) | (have H2_ := (Option.bind_some _ _).symm.trans H; with_reducible exact H2_) | with_reducible exact H | (rw [hy115]; exact H) | exact H
           have Ny115 := Aside0.mk hy115
           clear hy115
           have H' := Aside0.mk H
           clear H
           have p108 : 0 ≤ (x7_1 : Int) := of_decide_eq_true (by first | (with_reducible assumption) | assumption)
           have q108 : x7_1 < (l0.length : Int) := of_decide_eq_true (by first | (with_reducible assumption) | assumption)
           obtain ⟨ad108, e108, hx108_0⟩ := Kd.at_int HR0.out x7_1 p108 q108
           cases e108
           replace hx108_0 := (HB.out.cell (World.block_lt_of_cell? w _ hx108_0)).trans hx108_0
           replace p108 := eq_true p108
           replace q108 := eq_true q108
           go_wp2_with (first | ((with_reducible refine gate_builtin (b := .append) (xs := #[.tmp 42, .tmp 44]) rfl ?_); at_builtin; refine Kd.R_append (Kd.int .i8) (w0 := w) w.heap.size rfl (.tmp 42) (.tmp 44) 27 51 (.int .i8 0) 1 rfl Tryz.underlying27 info51 rfl (by decide) (by omega) u5 x5_1 (rd l0 x7_1) [.int .i8 (rd l0 x7_1)] (fun _ => True) (fun _ => False) rfl rfl ?aP (fun _ hk => hk.elim) ?aF ?aO ?aB ?aS ?aL ?_; (case aP => exact rfl); (case aB => exact (by repeat (first | (with_reducible first | exact HB.out | apply below_alloc | apply pw_below_drewN | apply below_drew1) | exact HB.out))); (case aF => exact (fun _ _ => trivial)); (case aO => exact (by (with_reducible repeat (first | apply Kd.R_alloc | apply Kd.R_drewN | apply Kd.R_drew)); exact HO_5.out)); (case aS => exact (below_size (by repeat (first | (with_reducible first | exact HB.out | apply below_alloc | apply pw_below_drewN | apply below_drew1) | exact HB.out)))); (case aL => have := LMc16.out; omega); intro v116 w17 ho hb hg hat; rw [← Ny115.out] at ho; have n0_ := Aside0.mk (hb); have n1_ := Aside0.mk (ho); clear HB; clear HO_5; have HB := n0_; have HO117 := n1_; clear n0_ n1_; clear ho hb hg hat))
           go_roundg k1
           case measure => have := HK1.out; omega
           case rel => exact ⟨(y115), (wrap64 (x7_1 + 1)), (wrap64 (x7_1 + 1)), (by first | rfl | (simp; done) | (simp [*]; done)), (by first | rfl | (simp; done) | (simp [*]; done)), H', ⟨by have := HK1.out; omega⟩, ⟨by (with_reducible repeat (first | apply Kd.R_alloc | apply Kd.R_drewN | apply Kd.R_drew)); exact HO117.out⟩, ⟨by repeat (first | (with_reducible first | exact HB.out | apply below_alloc | apply pw_below_drewN | apply below_drew1) | exact HB.out)⟩⟩
          ·rw [if_neg c16] at H
           exact absurd H (by simp)
       ·rw [if_neg c9] at H
        have c9b0 : ((rd l0 x7_1) == (-10)) = false := beq_eq_false_iff_ne.mpr c9
        have c9b1 : ((rd l0 x7_1) != (-10)) = true := bne_iff_ne.mpr c9
        have HC18 := Aside0.mk H
        clear H
        have p108 : 0 ≤ (x7_1 : Int) := of_decide_eq_true (by first | (with_reducible assumption) | assumption)
        have q108 : x7_1 < (l0.length : Int) := of_decide_eq_true (by first | (with_reducible assumption) | assumption)
        obtain ⟨ad108, e108, hx108_0⟩ := Kd.at_int HR0.out x7_1 p108 q108
        cases e108
        replace hx108_0 := (HB.out.cell (World.block_lt_of_cell? w _ hx108_0)).trans hx108_0
        replace p108 := eq_true p108
        replace q108 := eq_true q108
        go_upto_region 16 with (fail)
        go_cut [46] (fun v46 wc => ∃ (kq : Nat) (x46_17 : Bool), v46 = .bool x46_17 ∧ Aside0 (spec_l02Read.j1 kq l0 (l0.length : Int) x5_1 x6_1 x7_1 (rd l0 x7_1) x46_17 = some (r1, r2)) ∧ Aside0 (kq ≤ k1) ∧ Aside0 (Kd.R (Kd.int .i8) 51 wc w.heap.size (fun _ => True) u5 x5_1) ∧ Aside0 (Below w.heap.size w wc))
        case first =>
         have H := HC18.out
         clear HC18
         by_cases c19 : (rd l0 x7_1) ≥ 0
         ·rw [if_pos c19] at H
          have c19b0 : decide (0 ≤ (rd l0 x7_1)) = true := decide_eq_true c19
          clear c19
          (first | rw [c19b0] | (simp only [i64_w, i32_w]; rw [c19b0]) | skip)
          have H' := Aside0.mk H
          clear H
          go_wp2
          go_meet
          case rel => exact ⟨_, (decide ((rd l0 x7_1) < 40)), (by first | rfl | (simp; done) | (simp [*]; done)), H', ⟨by have := HK1.out; first | omega | exact Nat.le_refl _⟩, ⟨by (with_reducible repeat (first | apply Kd.R_alloc | apply Kd.R_drewN | apply Kd.R_drew)); exact HO_5.out⟩, ⟨by repeat (first | (with_reducible first | exact HB.out | apply below_alloc | apply pw_below_drewN | apply below_drew1) | exact HB.out)⟩⟩
         ·rw [if_neg c19] at H
          have c19b0 : decide (0 ≤ (rd l0 x7_1)) = false := decide_eq_false c19
          clear c19
          (first | rw [c19b0] | (simp only [i64_w, i32_w]; rw [c19b0]) | skip)
          have H' := Aside0.mk H
          clear H
          go_wp2
          go_meet
          case rel => exact ⟨_, (false), (by first | rfl | (simp; done) | (simp [*]; done)), H', ⟨by have := HK1.out; first | omega | exact Nat.le_refl _⟩, ⟨by (with_reducible repeat (first | apply Kd.R_alloc | apply Kd.R_drewN | apply Kd.R_drew)); exact HO_5.out⟩, ⟨by repeat (first | (with_reducible first | exact HB.out | apply below_alloc | apply pw_below_drewN | apply below_drew1) | exact HB.out)⟩⟩
        case rest =>
         clear HC18
         try clear c1
         try clear p1
         try clear q1
         try clear hx1
         try clear p2
         try clear c3
         try clear c5
         try clear c6
         try clear c6b0
         try clear p6
         try clear c7
         try clear c7b0
         try clear c8
         try clear c8b0
         try clear c9
         try clear c9b0
         try clear c9b1
         try clear c10
         try clear c10b0
         try clear c10b1
         try clear p10
         try clear q10
         try clear hx10
         try clear c13
         try clear c13b0
         try clear c13b1
         try clear c16
         try clear c19
         try clear c19b0
         try clear hx108_0
         try clear p108
         try clear p2
         try clear q108
         obtain ⟨kq, x46_17, rfl, HA, HJ17, HO_5, HB⟩ := hcut
         cases kq with
         | zero => exact absurd HA.out (by simp [spec_l02Read.j1])
         | succ kj17 =>
          have H := HA.out
          clear HA
          simp only [spec_l02Read.j1] at H
          by_cases c20 : x46_17 = true
          ·subst c20
           have H1 : (if x5_1.length < 140737488355328 then (spec_l02Read.l0 kj17 l0 (l0.length : Int) (x5_1 ++ [(rd l0 x7_1)]) x6_1 (wrap64 (x7_1 + 1))) else (none)) = some (r1, r2) := by rw [if_pos rfl] at H; exact H
           clear H
           have H := H1
           clear H1
           by_cases c21 : x5_1.length < 140737488355328
           ·rw [if_pos c21] at H
            have LMc21 := Aside0.mk c21
            clear c21
            obtain ⟨y118, hy118⟩ : ∃ y_ : List Int, y_ = (x5_1 ++ [(rd l0 x7_1)]) := ⟨_, rfl⟩
            replace H : (spec_l02Read.l0 kj17 l0 (l0.length : Int) y118 x6_1 (wrap64 (x7_1 + 1))) = some (r1, r2) := by first | (rw [hy118]; with_reducible exact H) | (have H2_ := (Option.bind_some _ _).symm.trans H; rw [hy118]; with_reducible exact H2_) | (have H2_ := (Option.bind_some _ _).symm.trans H; with_reducible exact H2_) | with_reducible exact H | (rw [hy118]; exact H) | exact H
            have Ny118 := Aside0.mk hy118
            clear hy118
            have H' := Aside0.mk H
            clear H
            go_wp2_with (first | ((with_reducible refine gate_builtin (b := .append) (xs := #[.tmp 53, .tmp 55]) rfl ?_); at_builtin; refine Kd.R_append (Kd.int .i8) (w0 := w) w.heap.size rfl (.tmp 53) (.tmp 55) 27 51 (.int .i8 0) 1 rfl Tryz.underlying27 info51 rfl (by decide) (by omega) u5 x5_1 (rd l0 x7_1) [.int .i8 (rd l0 x7_1)] (fun _ => True) (fun _ => False) rfl rfl ?aP (fun _ hk => hk.elim) ?aF ?aO ?aB ?aS ?aL ?_; (case aP => exact rfl); (case aB => exact (by repeat (first | (with_reducible first | exact HB.out | apply below_alloc | apply pw_below_drewN | apply below_drew1) | exact HB.out))); (case aF => exact (fun _ _ => trivial)); (case aO => exact (by (with_reducible repeat (first | apply Kd.R_alloc | apply Kd.R_drewN | apply Kd.R_drew)); exact HO_5.out)); (case aS => exact (below_size (by repeat (first | (with_reducible first | exact HB.out | apply below_alloc | apply pw_below_drewN | apply below_drew1) | exact HB.out)))); (case aL => have := LMc21.out; omega); intro v119 w22 ho hb hg hat; rw [← Ny118.out] at ho; have n0_ := Aside0.mk (hb); have n1_ := Aside0.mk (ho); clear HB; clear HO_5; have HB := n0_; have HO120 := n1_; clear n0_ n1_; clear ho hb hg hat))
            go_roundg kj17
            case measure => have := HK1.out; have := HJ17.out; omega
            case rel => exact ⟨(y118), (x6_1), (wrap64 (x7_1 + 1)), (by first | rfl | (simp; done) | (simp [*]; done)), (by first | rfl | (simp; done) | (simp [*]; done)), H', ⟨by have := HK1.out; have := HJ17.out; omega⟩, ⟨by (with_reducible repeat (first | apply Kd.R_alloc | apply Kd.R_drewN | apply Kd.R_drew)); exact HO120.out⟩, ⟨by repeat (first | (with_reducible first | exact HB.out | apply below_alloc | apply pw_below_drewN | apply below_drew1) | exact HB.out)⟩⟩
           ·rw [if_neg c21] at H
            exact absurd H (by simp)
          ·replace c20 := Bool.eq_false_iff.mpr c20
           subst c20
           have H1 : (if (rd l0 x7_1) < 0 then (spec_l02Read.j2 kj17 l0 (l0.length : Int) x5_1 x6_1 x7_1 (rd l0 x7_1) (decide ((rd l0 x7_1) ≥ (-4)))) else (spec_l02Read.j2 kj17 l0 (l0.length : Int) x5_1 x6_1 x7_1 (rd l0 x7_1) false)) = some (r1, r2) := by rw [if_neg (show ¬ (false = true) by decide)] at H; exact H
           clear H
           have H := H1
           clear H1
           have HC23 := Aside0.mk H
           clear H
           go_upto_region 18 with (fail)
           go_cut [57] (fun v57 wc => ∃ (kq : Nat) (x57_22 : Bool), v57 = .bool x57_22 ∧ Aside0 (spec_l02Read.j2 kq l0 (l0.length : Int) x5_1 x6_1 x7_1 (rd l0 x7_1) x57_22 = some (r1, r2)) ∧ Aside0 (kq ≤ kj17) ∧ Aside0 (Kd.R (Kd.int .i8) 51 wc w.heap.size (fun _ => True) u5 x5_1) ∧ Aside0 (Below w.heap.size w wc))
           case first =>
            have H := HC23.out
            clear HC23
            by_cases c24 : (rd l0 x7_1) < 0
            ·rw [if_pos c24] at H
             have c24b0 : decide ((rd l0 x7_1) < 0) = true := decide_eq_true c24
             clear c24
             (first | rw [c24b0] | (simp only [i64_w, i32_w]; rw [c24b0]) | skip)
             have H' := Aside0.mk H
             clear H
             go_wp2
             go_meet
             case rel => exact ⟨_, (decide ((rd l0 x7_1) ≥ (-4))), (by first | rfl | (simp; done) | (simp [*]; done)), H', ⟨by have := HK1.out; have := HJ17.out; first | omega | exact Nat.le_refl _⟩, ⟨by (with_reducible repeat (first | apply Kd.R_alloc | apply Kd.R_drewN | apply Kd.R_drew)); exact HO_5.out⟩, ⟨by repeat (first | (with_reducible first | exact HB.out | apply below_alloc | apply pw_below_drewN | apply below_drew1) | exact HB.out)⟩⟩
            ·rw [if_neg c24] at H
             have c24b0 : decide ((rd l0 x7_1) < 0) = false := decide_eq_false c24
             clear c24
             (first | rw [c24b0] | (simp only [i64_w, i32_w]; rw [c24b0]) | skip)
             have H' := Aside0.mk H
             clear H
             go_wp2
             go_meet
             case rel => exact ⟨_, (false), (by first | rfl | (simp; done) | (simp [*]; done)), H', ⟨by have := HK1.out; have := HJ17.out; first | omega | exact Nat.le_refl _⟩, ⟨by (with_reducible repeat (first | apply Kd.R_alloc | apply Kd.R_drewN | apply Kd.R_drew)); exact HO_5.out⟩, ⟨by repeat (first | (with_reducible first | exact HB.out | apply below_alloc | apply pw_below_drewN | apply below_drew1) | exact HB.out)⟩⟩
           case rest =>
            clear HC23
            try clear c1
            try clear p1
            try clear q1
            try clear hx1
            try clear c2
            try clear p2
            try clear c3
            try clear c5
            try clear c6
            try clear c6b0
            try clear p6
            try clear c7
            try clear c7b0
            try clear c8
            try clear c8b0
            try clear c9
            try clear c9b0
            try clear c9b1
            try clear c10
            try clear c10b0
            try clear c10b1
            try clear p10
            try clear q10
            try clear hx10
            try clear c13
            try clear c13b0
            try clear c13b1
            try clear c16
            try clear c19
            try clear c19b0
            try clear c20
            try clear c21
            try clear c24
            try clear c24b0
            try clear hx108_0
            try clear p1
            try clear p10
            try clear p108
            try clear p2
            try clear p6
            try clear q1
            try clear q10
            try clear q108
            obtain ⟨kq, x57_22, rfl, HA, HJ22, HO_5, HB⟩ := hcut
            cases kq with
            | zero => exact absurd HA.out (by simp [spec_l02Read.j2])
            | succ kj22 =>
             have H := HA.out
             clear HA
             simp only [spec_l02Read.j2] at H
             by_cases c25 : x57_22 = true
             ·subst c25
              have H1 : (if (wrap64 ((wrap64 (x6_1 + (wrap64 (IntKind.i8.wrap (-(rd l0 x7_1)))))) - 1)) ≥ x7_1 then (some ((([] : List Int)), false)) else (if 0 ≤ (wrap64 ((wrap64 (x6_1 + (wrap64 (IntKind.i8.wrap (-(rd l0 x7_1)))))) - 1)) then (if (wrap64 ((wrap64 (x6_1 + (wrap64 (IntKind.i8.wrap (-(rd l0 x7_1)))))) - 1)) < (x5_1.length : Int) then (if x5_1.length < 140737488355328 then (spec_l02Read.l0 kj22 l0 (l0.length : Int) (x5_1 ++ [rd x5_1 (wrap64 ((wrap64 (x6_1 + (wrap64 (IntKind.i8.wrap (-(rd l0 x7_1)))))) - 1))]) x6_1 (wrap64 (x7_1 + 1))) else (none)) else (none)) else (none))) = some (r1, r2) := by rw [if_pos rfl] at H; exact H
              clear H
              have H := H1
              clear H1
              by_cases c26 : (wrap64 ((wrap64 (x6_1 + (wrap64 (IntKind.i8.wrap (-(rd l0 x7_1)))))) - 1)) ≥ x7_1
              ·rw [if_pos c26] at H
               have c26b0 : decide (x7_1 ≤ (wrap64 ((wrap64 (x6_1 + (wrap64 (IntKind.i8.wrap (-(rd l0 x7_1)))))) - 1))) = true := decide_eq_true c26
               clear c26
               obtain ⟨y121, hy121⟩ : ∃ y_ : List Int, y_ = (([] : List Int)) := ⟨_, rfl⟩
               replace H : (some (y121, false)) = some (r1, r2) := by first | (rw [hy121]; with_reducible exact H) | (have H2_ := (Option.bind_some _ _).symm.trans H; rw [hy121]; with_reducible exact H2_) | (have H2_ := (Option.bind_some _ _).symm.trans H; with_reducible exact H2_) | with_reducible exact H | (rw [hy121]; exact H) | exact H
               have Ny121 := Aside0.mk hy121
               clear hy121
               simp only [Option.some.injEq, Prod.mk.injEq] at H
               obtain ⟨rfl, rfl⟩ := H
               go_wp2_with (first | ((with_reducible refine gate_dst (N := 73) rfl ?_); refine Kd.R_lit (Kd.int .i8) _ 51 ?hg (N := 73) ?hd (xs := ([] : List Int)) (inner := []) (ok := fun _ => True) (okp := fun _ => True) ?hr ?hp (fun _ hk => hk) trivial (Below.refl _ _) (Nat.le_refl _) (by simp) ?_; (case hd => rfl); (case hg => rfl); (case hr => first | (go_simp; done) | (go_simp; rfl)); (case hp => exact (Reps.none _ _)); intro v122 w27 ho28 hb hg_ hnew_; clear hg_ hnew_; (first | rw [← Ny121.out] at ho28 | (simp only [Int.reduceToNat] at ho28; rw [← Ny121.out] at ho28)); have n0_ := Aside0.mk (Kd.R_elder' (by (with_reducible repeat (first | apply Kd.R_alloc | apply Kd.R_drewN | apply Kd.R_drew)); exact HO_5.out) (Kd.R_base ho28) hb); have n1_ := Aside0.mk (Kd.R_lower (Kd.R_new' ho28 (Kd.R_lt (by (with_reducible repeat (first | apply Kd.R_alloc | apply Kd.R_drewN | apply Kd.R_drew)); exact HO_5.out))) (below_size (by repeat (first | (with_reducible first | exact HB.out | apply below_alloc | apply pw_below_drewN | apply below_drew1) | exact HB.out)))); have n2_ := Aside0.mk (below_step (by repeat (first | (with_reducible first | exact HB.out | apply below_alloc | apply pw_below_drewN | apply below_drew1) | exact HB.out)) hb); clear HO_5; clear HB; have HO_5 := n0_; have HO123 := n1_; have HB := n2_; clear n0_ n1_ n2_; clear hb ho28))
               go_ret2
               exact ⟨_, by first | rfl | (simp [errW_none, errW_some] <;> rfl) | (simp [*, errW_none, errW_some] <;> rfl), by (with_reducible repeat (first | apply Kd.R_alloc | apply Kd.R_drewN | apply Kd.R_drew)); exact Kd.R_mono HO123.out (fun _ hk => trivial), by repeat (first | (with_reducible first | exact HB.out | apply below_alloc | apply pw_below_drewN | apply below_drew1) | exact HB.out)⟩
              ·rw [if_neg c26] at H
               have c26b0 : decide (x7_1 ≤ (wrap64 ((wrap64 (x6_1 + (wrap64 (IntKind.i8.wrap (-(rd l0 x7_1)))))) - 1))) = false := decide_eq_false c26
               clear c26
               obtain ⟨ji29, hji29⟩ : ∃ j_ : Int, (wrap64 ((wrap64 (x6_1 + (wrap64 (IntKind.i8.wrap (-(rd l0 x7_1)))))) - 1)) = j_ := ⟨_, rfl⟩
               replace H : (if 0 ≤ (ji29) then (if (ji29) < (x5_1.length : Int) then (if x5_1.length < 140737488355328 then (spec_l02Read.l0 kj22 l0 (l0.length : Int) (x5_1 ++ [rd x5_1 (ji29)]) x6_1 (wrap64 (x7_1 + 1))) else (none)) else (none)) else (none)) = some (r1, r2) := by first | (rw [hji29] at H; exact H) | (simp only [hji29] at H ⊢; exact H)
               (try rw [hji29] at c26b0)
               have hji29w : (IntKind.i64.wrap ((wrap64 (x6_1 + (wrap64 (IntKind.i8.wrap (-(rd l0 x7_1)))))) - 1)) = ji29 := (i64_w _).trans hji29
               by_cases c30 : 0 ≤ (ji29)
               ·rw [if_pos c30] at H
                have c30b0 : decide (0 ≤ (ji29)) = true := decide_eq_true c30
                clear c30
                by_cases c31 : (ji29) < (x5_1.length : Int)
                ·rw [if_pos c31] at H
                 have c31b0 : decide ((ji29) < (x5_1.length : Int)) = true := decide_eq_true c31
                 clear c31
                 by_cases c32 : x5_1.length < 140737488355328
                 ·rw [if_pos c32] at H
                  have LMc32 := Aside0.mk c32
                  clear c32
                  obtain ⟨y125, hy125⟩ : ∃ y_ : List Int, y_ = (x5_1 ++ [rd x5_1 (ji29)]) := ⟨_, rfl⟩
                  replace H : (spec_l02Read.l0 kj22 l0 (l0.length : Int) y125 x6_1 (wrap64 (x7_1 + 1))) = some (r1, r2) := by first | (rw [hy125]; with_reducible exact H) | (have H2_ := (Option.bind_some _ _).symm.trans H; rw [hy125]; with_reducible exact H2_) | (have H2_ := (Option.bind_some _ _).symm.trans H; with_reducible exact H2_) | with_reducible exact H | (rw [hy125]; exact H) | exact H
                  have Ny125 := Aside0.mk hy125
                  clear hy125
                  have H' := Aside0.mk H
                  clear H
                  obtain ⟨Ao33, co33, eo33⟩ := Kd.R_slice HO_5.out
                  subst eo33
                  have p124 : 0 ≤ ((ji29) : Int) := of_decide_eq_true (by first | (with_reducible assumption) | assumption)
                  have q124 : (ji29) < (x5_1.length : Int) := of_decide_eq_true (by first | (with_reducible assumption) | assumption)
                  obtain ⟨ad124, e124, hx124_0⟩ := Kd.at_int (Kd.R_reads' HO_5.out).2.2 (ji29) p124 q124
                  cases e124
                  replace p124 := eq_true p124
                  replace q124 := eq_true q124
                  go_wp2_with (first | ((with_reducible refine gate_builtin (b := .append) (xs := #[.tmp 74, .tmp 79]) rfl ?_); at_builtin; refine Kd.R_append (Kd.int .i8) (w0 := w) w.heap.size rfl (.tmp 74) (.tmp 79) 27 51 (.int .i8 0) 1 rfl Tryz.underlying27 info51 rfl (by decide) (by omega) (.slice (some ad124) x5_1.length co33) x5_1 (rd x5_1 (ji29)) [.int .i8 (rd x5_1 (ji29))] (fun _ => True) (fun _ => False) rfl rfl ?aP (fun _ hk => hk.elim) ?aF ?aO ?aB ?aS ?aL ?_; (case aP => exact rfl); (case aB => exact (by repeat (first | (with_reducible first | exact HB.out | apply below_alloc | apply pw_below_drewN | apply below_drew1) | exact HB.out))); (case aF => exact (fun _ _ => trivial)); (case aO => exact (by (with_reducible repeat (first | apply Kd.R_alloc | apply Kd.R_drewN | apply Kd.R_drew)); exact HO_5.out)); (case aS => exact (below_size (by repeat (first | (with_reducible first | exact HB.out | apply below_alloc | apply pw_below_drewN | apply below_drew1) | exact HB.out)))); (case aL => have := LMc32.out; omega); intro v126 w34 ho hb hg hat; rw [← Ny125.out] at ho; have n0_ := Aside0.mk (hb); have n1_ := Aside0.mk (ho); clear HB; clear HO_5; have HB := n0_; have HO127 := n1_; clear n0_ n1_; clear ho hb hg hat))
                  go_roundg kj22
                  case measure => have := HK1.out; have := HJ17.out; have := HJ22.out; omega
                  case rel => exact ⟨(y125), (x6_1), (wrap64 (x7_1 + 1)), (by first | rfl | (simp; done) | (simp [*]; done)), (by first | rfl | (simp; done) | (simp [*]; done)), H', ⟨by have := HK1.out; have := HJ17.out; have := HJ22.out; omega⟩, ⟨by (with_reducible repeat (first | apply Kd.R_alloc | apply Kd.R_drewN | apply Kd.R_drew)); exact HO127.out⟩, ⟨by repeat (first | (with_reducible first | exact HB.out | apply below_alloc | apply pw_below_drewN | apply below_drew1) | exact HB.out)⟩⟩
                 ·rw [if_neg c32] at H
                  exact absurd H (by simp)
                ·rw [if_neg c31] at H
                 exact absurd H (by simp)
               ·rw [if_neg c30] at H
                exact absurd H (by simp)
             ·replace c25 := Bool.eq_false_iff.mpr c25
              subst c25
              have H1 : (some ((([] : List Int)), false)) = some (r1, r2) := by rw [if_neg (show ¬ (false = true) by decide)] at H; exact H
              clear H
              have H := H1
              clear H1
              obtain ⟨y128, hy128⟩ : ∃ y_ : List Int, y_ = (([] : List Int)) := ⟨_, rfl⟩
              replace H : (some (y128, false)) = some (r1, r2) := by first | (rw [hy128]; with_reducible exact H) | (have H2_ := (Option.bind_some _ _).symm.trans H; rw [hy128]; with_reducible exact H2_) | (have H2_ := (Option.bind_some _ _).symm.trans H; with_reducible exact H2_) | with_reducible exact H | (rw [hy128]; exact H) | exact H
              have Ny128 := Aside0.mk hy128
              clear hy128
              simp only [Option.some.injEq, Prod.mk.injEq] at H
              obtain ⟨rfl, rfl⟩ := H
              go_wp2_with (first | ((with_reducible refine gate_dst (N := 26) rfl ?_); refine Kd.R_lit (Kd.int .i8) _ 51 ?hg (N := 26) ?hd (xs := ([] : List Int)) (inner := []) (ok := fun _ => True) (okp := fun _ => True) ?hr ?hp (fun _ hk => hk) trivial (Below.refl _ _) (Nat.le_refl _) (by simp) ?_; (case hd => rfl); (case hg => rfl); (case hr => first | (go_simp; done) | (go_simp; rfl)); (case hp => exact (Reps.none _ _)); intro v129 w35 ho36 hb hg_ hnew_; clear hg_ hnew_; (first | rw [← Ny128.out] at ho36 | (simp only [Int.reduceToNat] at ho36; rw [← Ny128.out] at ho36)); have n0_ := Aside0.mk (Kd.R_elder' (by (with_reducible repeat (first | apply Kd.R_alloc | apply Kd.R_drewN | apply Kd.R_drew)); exact HO_5.out) (Kd.R_base ho36) hb); have n1_ := Aside0.mk (Kd.R_lower (Kd.R_new' ho36 (Kd.R_lt (by (with_reducible repeat (first | apply Kd.R_alloc | apply Kd.R_drewN | apply Kd.R_drew)); exact HO_5.out))) (below_size (by repeat (first | (with_reducible first | exact HB.out | apply below_alloc | apply pw_below_drewN | apply below_drew1) | exact HB.out)))); have n2_ := Aside0.mk (below_step (by repeat (first | (with_reducible first | exact HB.out | apply below_alloc | apply pw_below_drewN | apply below_drew1) | exact HB.out)) hb); clear HO_5; clear HB; have HO_5 := n0_; have HO130 := n1_; have HB := n2_; clear n0_ n1_ n2_; clear hb ho36))
              go_ret2
              exact ⟨_, by first | rfl | (simp [errW_none, errW_some] <;> rfl) | (simp [*, errW_none, errW_some] <;> rfl), by (with_reducible repeat (first | apply Kd.R_alloc | apply Kd.R_drewN | apply Kd.R_drew)); exact Kd.R_mono HO130.out (fun _ hk => trivial), by repeat (first | (with_reducible first | exact HB.out | apply below_alloc | apply pw_below_drewN | apply below_drew1) | exact HB.out)⟩
      ·rw [if_neg c8] at H
       exact absurd H (by simp)
     ·rw [if_neg c7] at H
      exact absurd H (by simp)
    ·rw [if_neg c6] at H
     have c6b0 : decide (x7_1 < (l0.length : Int)) = false := decide_eq_false c6
     clear c6
     simp only [Option.some.injEq, Prod.mk.injEq] at H
     obtain ⟨rfl, rfl⟩ := H
     go_wp2
     go_ret2
     exact ⟨_, by first | rfl | (simp [errW_none, errW_some] <;> rfl) | (simp [*, errW_none, errW_some] <;> rfl), by (with_reducible repeat (first | apply Kd.R_alloc | apply Kd.R_drewN | apply Kd.R_drew)); exact HO_5.out, by repeat (first | (with_reducible first | exact HB.out | apply below_alloc | apply pw_below_drewN | apply below_drew1) | exact HB.out)⟩
 ·replace c3 := Bool.eq_false_iff.mpr c3
  subst c3
  have H1 : (some ((([] : List Int)), false)) = some (r1, r2) := by rw [if_neg (show ¬ (false = true) by decide)] at H; exact H
  clear H
  have H := H1
  clear H1
  obtain ⟨y102, hy102⟩ : ∃ y_ : List Int, y_ = (([] : List Int)) := ⟨_, rfl⟩
  replace H : (some (y102, false)) = some (r1, r2) := by first | (rw [hy102]; with_reducible exact H) | (have H2_ := (Option.bind_some _ _).symm.trans H; rw [hy102]; with_reducible exact H2_) | (have H2_ := (Option.bind_some _ _).symm.trans H; with_reducible exact H2_) | with_reducible exact H | (rw [hy102]; exact H) | exact H
  have Ny102 := Aside0.mk hy102
  clear hy102
  simp only [Option.some.injEq, Prod.mk.injEq] at H
  obtain ⟨rfl, rfl⟩ := H
  go_enter Tryz.func31, Tryz.ntmps31
  go_wp2_with (first | ((with_reducible refine gate_callee (f := 53) rfl ?_); refine goesL_ (some 13) rfl rfl Tryz.func53 (by kernel_rfl) rfl #[.int .i64 (l0.length : Int), .int .i64 1, .int .i64 8] rfl (by (try simp only [List.map_toArray, List.map_cons, List.map_nil]); first | done | rfl | (simp only [List.length_drop, List.length_take]; rfl)) ?_; (with_reducible refine (spec_l00In.calls (l0.length : Int) 1 8 false _ A2.out).mono ?_); rintro e w' ⟨rfl, ⟨nd, rfl⟩⟩; refine ⟨_, rfl, ?_⟩) | ((with_reducible refine gate_dst (N := 15) rfl ?_); refine Kd.R_lit (Kd.int .i8) _ 51 ?hg (N := 15) ?hd (xs := ([] : List Int)) (inner := []) (ok := fun _ => True) (okp := fun _ => True) ?hr ?hp (fun _ hk => hk) trivial (Below.refl _ _) (Nat.le_refl _) (by simp) ?_; (case hd => rfl); (case hg => rfl); (case hr => first | (go_simp; done) | (go_simp; rfl)); (case hp => exact (Reps.none _ _)); intro v103 w37 ho38 hb hg_ hnew_; clear hg_ hnew_; (first | rw [← Ny102.out] at ho38 | (simp only [Int.reduceToNat] at ho38; rw [← Ny102.out] at ho38)); have n0_ := Aside0.mk (Kd.R_lower ho38 (below_size (by repeat (first | (with_reducible first | exact HB.out | apply below_alloc | apply pw_below_drewN | apply below_drew1) | exact HB.out)))); have n1_ := Aside0.mk (below_step (by repeat (first | (with_reducible first | exact HB.out | apply below_alloc | apply pw_below_drewN | apply below_drew1) | exact HB.out)) hb); clear HB; have HO104 := n0_; have HB := n1_; clear n0_ n1_; clear hb ho38))
  go_ret2
  exact ⟨_, by first | rfl | (simp [errW_none, errW_some] <;> rfl) | (simp [*, errW_none, errW_some] <;> rfl), by (with_reducible repeat (first | apply Kd.R_alloc | apply Kd.R_drewN | apply Kd.R_drew)); exact HO104.out, by repeat (first | (with_reducible first | exact HB.out | apply below_alloc | apply pw_below_drewN | apply below_drew1) | exact HB.out)⟩
def spec_l02Ok.f (k : Nat) (l0 : List Int) : Option (Bool) := (spec_l02Read.f k l0).bind fun bt131 => (some bt131.2)
set_option maxHeartbeats 8000000 in
set_option maxRecDepth 100000 in
theorem spec_l02Ok.calls (k : Nat) (A0 : Option Addr) (c0 : Nat) (l0 : List Int) (r : Bool) (w : World) (hr0 : Kd.C (Kd.int .i8) w A0 l0.length l0) (hc0 : l0.length ≤ c0) (h : spec_l02Ok.f k l0 = some r) :
  Calls Tryz.prog 65 #[.slice A0 l0.length c0] w fun e w' => e = .returned (.bool r) ∧ Below w.heap.size w w' := by
 have HR0 := Aside0.mk hr0
 have HC0 := Aside0.mk hc0
 clear hr0 hc0
 have HB := Aside0.mk (Below.refl w.heap.size w)
 have H : ((spec_l02Read.f k l0).bind fun bt131 => (some bt131.2)) = some r := h
 clear h
 replace H := Option.bind_eq_some_iff.mp H
 obtain ⟨⟨t131, t132⟩, A20, H⟩ := H
 replace H : (some t132) = some r := H
 have A2 := Aside0.mk A20
 clear A20
 obtain rfl := Option.some.inj H
 go_enter Tryz.func65, Tryz.ntmps65
 go_wp2_with (first | ((with_reducible refine gate_callee (f := 31) rfl ?_); refine goesL_ (some 7) rfl rfl Tryz.func31 (by kernel_rfl) rfl #[.slice A0 l0.length c0] rfl (by (try simp only [List.map_toArray, List.map_cons, List.map_nil]); first | done | rfl | (simp only [List.length_drop, List.length_take]; rfl)) ?_; (with_reducible refine (spec_l02Read.calls k _ _ l0 t131 t132 _ ?side1 ?side2 A2.out).mono ?_); (case side1 => repeat (first | exact HR0.out | (with_reducible refine Kd.C_alloc ?_ _) | (with_reducible refine Kd.C_drewN ?_ _) | (with_reducible refine Kd.C_drew ?_))); (case side2 => exact HC0.out); rintro e w3 ⟨v133, rfl, ho0, hb⟩; refine ⟨_, rfl, ?_⟩; have n0_ := Aside0.mk (Kd.R_lower ho0 (below_size (by repeat (first | (with_reducible first | exact HB.out | apply below_alloc | apply pw_below_drewN | apply below_drew1) | exact HB.out)))); have n1_ := Aside0.mk (below_step (by repeat (first | (with_reducible first | exact HB.out | apply below_alloc | apply pw_below_drewN | apply below_drew1) | exact HB.out)) hb); clear HB; have HO134 := n0_; have HB := n1_; clear n0_ n1_; (try clear hb); (try clear hb2); (try clear hk); (try clear hi); (try clear ho0)))
 go_ret
 exact ⟨by first | rfl | (simp [errW_none, errW_some] <;> rfl) | (simp [*, errW_none, errW_some] <;> rfl), by repeat (first | (with_reducible first | exact HB.out | apply below_alloc | apply pw_below_drewN | apply below_drew1) | exact HB.out)⟩
def impl_within.f (a0 : Int) (a1 : Int) (a2 : Int) : Option (Bool) := if a1 ≤ a0 then (some (decide (a0 ≤ a2))) else (some false)
set_option maxHeartbeats 8000000 in
set_option maxRecDepth 100000 in
theorem impl_within.calls (a0 : Int) (a1 : Int) (a2 : Int) (r : Bool) (w : World) (h : impl_within.f a0 a1 a2 = some r) :
  Calls Tryz.prog 36 #[.int .i64 a0, .int .i64 a1, .int .i64 a2] w fun e w' => e = .returned (.bool r) ∧ Drawn0 w w' := by
 have H : (if a1 ≤ a0 then (some (decide (a0 ≤ a2))) else (some false)) = some r := h
 clear h
 by_cases c4 : a1 ≤ a0
 ·rw [if_pos c4] at H
  have c4b0 : decide (a1 ≤ a0) = true := decide_eq_true c4
  clear c4
  obtain rfl := Option.some.inj H
  go_enter Tryz.func36, Tryz.ntmps36
  go_wp2
  go_ret
  exact ⟨by first | rfl | (simp; done) | (simp [*]; done), by repeat (first | exact Drawn0.refl _ | apply Drawn0.step)⟩
 ·rw [if_neg c4] at H
  have c4b0 : decide (a1 ≤ a0) = false := decide_eq_false c4
  clear c4
  obtain rfl := Option.some.inj H
  go_enter Tryz.func36, Tryz.ntmps36
  go_wp2
  go_ret
  exact ⟨by first | rfl | (simp; done) | (simp [*]; done), by repeat (first | exact Drawn0.refl _ | apply Drawn0.step)⟩
def impl_isKind.f (a0 : Int) : Option (Bool) := (impl_within.f (wrap64 (a0)) 0 39).bind fun t135 => (some t135)
set_option maxHeartbeats 8000000 in
set_option maxRecDepth 100000 in
theorem impl_isKind.calls (a0 : Int) (r : Bool) (w : World) (h : impl_isKind.f a0 = some r) :
  Calls Tryz.prog 51 #[.int .i8 a0] w fun e w' => e = .returned (.bool r) ∧ Drawn0 w w' := by
 have H : ((impl_within.f (wrap64 (a0)) 0 39).bind fun t135 => (some t135)) = some r := h
 clear h
 replace H := Option.bind_eq_some_iff.mp H
 obtain ⟨t135, A20, H⟩ := H
 replace H : (some t135) = some r := H
 have A2 := Aside0.mk A20
 clear A20
 obtain rfl := Option.some.inj H
 go_enter Tryz.func51, Tryz.ntmps51
 go_wp2_with (first | ((with_reducible refine gate_callee (f := 36) rfl ?_); refine goesL_ (some 5) rfl rfl Tryz.func36 (by kernel_rfl) rfl #[.int .i64 (wrap64 (a0)), .int .i64 0, .int .i64 39] rfl (by (try simp only [List.map_toArray, List.map_cons, List.map_nil]); first | done | rfl | (simp only [List.length_drop, List.length_take]; rfl)) ?_; (with_reducible refine (impl_within.calls (wrap64 (a0)) 0 39 t135 _ A2.out).mono ?_); rintro e w' ⟨rfl, ⟨nd, rfl⟩⟩; refine ⟨_, rfl, ?_⟩))
 go_ret
 exact ⟨by first | rfl | (simp; done) | (simp [*]; done), by repeat (first | exact Drawn0.refl _ | apply Drawn0.step)⟩
def impl_size_int8.f (l0 : List Int) : Option (Int) := some (l0.length : Int)
set_option maxHeartbeats 8000000 in
set_option maxRecDepth 100000 in
theorem impl_size_int8.calls (A0 : Option Addr) (c0 : Nat) (l0 : List Int) (r : Int) (w : World) (hr0 : Kd.C (Kd.int .i8) w A0 l0.length l0) (hc0 : l0.length ≤ c0) (h : impl_size_int8.f l0 = some r) :
  Calls Tryz.prog 52 #[.slice A0 l0.length c0] w fun e w' => e = .returned (.int .i64 r) ∧ Drawn0 w w' := by
 have HR0 := Aside0.mk hr0
 have HC0 := Aside0.mk hc0
 clear hr0 hc0
 have H : (some (l0.length : Int)) = some r := h
 clear h
 obtain rfl := Option.some.inj H
 go_enter Tryz.func52, Tryz.ntmps52
 go_wp2
 go_ret
 exact ⟨by first | rfl | (simp; done) | (simp [*]; done), by repeat (first | exact Drawn0.refl _ | apply Drawn0.step)⟩
end Go.Proofs.YtpbomchjcgndoaaGreatDoor.N
namespace Go.Proofs.YtpbomchjcgndoaaGreatDoor.N
open Go.RowKit Go.Proofs.YtpbomchjcgndoaaGreatDoorW.PrintWords Go.Proofs.YtpbomchjcgndoaaGreatDoorW.PrintLast Go.Proofs.YtpbomchjcgndoaaGreatDoorW.PrintMore
attribute [local go_sem] max2_int min2_int max_two min_two max_three min_three max_four min_four
set_option linter.unusedVariables false
set_option linter.unusedSimpArgs false
mutual
def impl_Hoist_meaning.l0 : Nat → List Int → List Int → Int → List Int → Int → Int → Option (List Int × Bool)
 | 0, _, _, _, _, _, _ => none
 | k + 1, x0, x4, x5, x10, x11, x12 => if x12 < x11 then (if 0 ≤ x12 then (if x12 < (x10.length : Int) then (if (rd x10 x12) = (-10) then (if x5 = (x4.length : Int) then (some (([] : List Int), false)) else (if x4.length < 140737488355328 then ((some (x4 ++ [rd x10 x12] : List Int)).bind fun y142 => (impl_Hoist_meaning.l0 k x0 y142 (y142.length : Int) x10 x11 (wrap64 (x12 + 1)))) else (none))) else ((impl_within.f (wrap64 (rd x10 x12)) (-4) (-1)).bind fun t145 => (if t145 = true then (impl_Hoist_meaning.j1 k x0 x4 x5 (rd x10 x12) (wrap64 ((wrap64 (x5 - (wrap64 (rd x10 x12)))) - 1)) x10 x11 x12 (decide ((wrap64 ((wrap64 (x5 - (wrap64 (rd x10 x12)))) - 1)) < (x4.length : Int)))) else (impl_Hoist_meaning.j1 k x0 x4 x5 (rd x10 x12) (wrap64 ((wrap64 (x5 - (wrap64 (rd x10 x12)))) - 1)) x10 x11 x12 false)))) else (none)) else (none)) else ((impl_size_int8.f x0).bind fun t139 => ((impl_within.f t139 1 8).bind fun t140 => (if t140 = true then (some (x4, decide (x5 < (x4.length : Int)))) else (some (x4, false)))))
def impl_Hoist_meaning.j1 : Nat → List Int → List Int → Int → Int → Int → List Int → Int → Int → Bool → Option (List Int × Bool)
 | 0, _, _, _, _, _, _, _, _, _ => none
 | k + 1, x0, x4, x5, x7, x8, x10, x11, x12, x41 => if x41 = true then (if 0 ≤ x8 then (if x8 < (x4.length : Int) then ((impl_isKind.f (rd x4 x8)).bind fun t147 => (if t147 = true then (if x4.length < 140737488355328 then (impl_Hoist_meaning.l0 k x0 (x4 ++ [rd x4 x8]) x5 x10 x11 (wrap64 (x12 + 1))) else (none)) else (some (([] : List Int), false)))) else (none)) else (none)) else ((impl_isKind.f x7).bind fun t151 => (if t151 = true then (if x4.length < 140737488355328 then (impl_Hoist_meaning.l0 k x0 (x4 ++ [x7]) x5 x10 x11 (wrap64 (x12 + 1))) else (none)) else (some (([] : List Int), false))))
end
def impl_Hoist_meaning.f (k : Nat) (l0 : List Int) : Option (List Int × Bool) := impl_Hoist_meaning.l0 k l0 (([] : List Int)) 0 l0 (l0.length : Int) 0
set_option maxHeartbeats 8000000 in
set_option maxRecDepth 100000 in
theorem impl_Hoist_meaning.calls (k : Nat) (A0 : Option Addr) (c0 : Nat) (l0 : List Int) (r1 : List Int) (r2 : Bool) (w : World) (hr0 : Kd.C (Kd.int .i8) w A0 l0.length l0) (hc0 : l0.length ≤ c0) (h : impl_Hoist_meaning.f k l0 = some (r1, r2)) :
  Calls Tryz.prog 30 #[.slice A0 l0.length c0] w fun e w' => ∃ v0_ : Value, e = .returned (.tuple #[v0_, .bool r2]) ∧ Kd.R (Kd.int .i8) 51 w' w.heap.size (fun _ => True) v0_ r1 ∧ Below w.heap.size w w' := by
 have HR0 := Aside0.mk hr0
 have HC0 := Aside0.mk hc0
 clear hr0 hc0
 have HB := Aside0.mk (Below.refl w.heap.size w)
 have H : (impl_Hoist_meaning.l0 k l0 (([] : List Int)) 0 l0 (l0.length : Int) 0) = some (r1, r2) := h
 clear h
 obtain ⟨y136, hy136⟩ : ∃ y_ : List Int, y_ = (([] : List Int)) := ⟨_, rfl⟩
 replace H : (impl_Hoist_meaning.l0 k l0 y136 0 l0 (l0.length : Int) 0) = some (r1, r2) := by first | (rw [hy136]; with_reducible exact H) | (have H2_ := (Option.bind_some _ _).symm.trans H; rw [hy136]; with_reducible exact H2_) | (have H2_ := (Option.bind_some _ _).symm.trans H; with_reducible exact H2_) | with_reducible exact H | (rw [hy136]; exact H) | exact H
 have Ny136 := Aside0.mk hy136
 clear hy136
 have H' := Aside0.mk H
 clear H
 go_enter Tryz.func30, Tryz.ntmps30
 go_wp2_with (first | ((with_reducible refine gate_dst (N := 9) rfl ?_); (try (refine gate_guard (by rfl) ?_; dsimp only)); refine Kd.R_lit (Kd.int .i8) _ 51 ?hg (N := 9) ?hd (xs := ([] : List Int)) (inner := []) (ok := fun _ => True) (okp := fun _ => True) ?hr ?hp (fun _ hk => hk) trivial (Below.refl _ _) (Nat.le_refl _) (by simp) ?_; (case hd => rfl); (case hg => rfl); (case hr => first | (go_simp; done) | (go_simp; rfl)); (case hp => exact (Reps.none _ _)); intro v137 w2 ho3 hb hg_ hnew_; clear hg_ hnew_; (first | rw [← Ny136.out] at ho3 | (simp only [Int.reduceToNat] at ho3; rw [← Ny136.out] at ho3)); have n0_ := Aside0.mk (Kd.R_lower ho3 (below_size (by repeat (first | (with_reducible first | exact HB.out | apply below_alloc | apply pw_below_drewN | apply below_drew1) | exact HB.out)))); have n1_ := Aside0.mk (below_step (by repeat (first | (with_reducible first | exact HB.out | apply below_alloc | apply pw_below_drewN | apply below_drew1) | exact HB.out)) hb); clear HB; have HO138 := n0_; have HB := n1_; clear n0_ n1_; clear hb ho3))
 go_loopg [4, 5, 12] k (fun kq v4 v5 v12 w' => ∃ (x4_1 : List Int) (x5_1 : Int) (x12_1 : Int), v5 = .int .i64 x5_1 ∧ v12 = .int .i64 x12_1 ∧ Aside0 (impl_Hoist_meaning.l0 kq l0 x4_1 x5_1 l0 (l0.length : Int) x12_1 = some (r1, r2)) ∧ Aside0 (kq ≤ k) ∧ Aside0 (Kd.R (Kd.int .i8) 51 w' w.heap.size (fun _ => True) v4 x4_1) ∧ Aside0 (Below w.heap.size w w'))
 case atStart => exact ⟨(y136), (0), (0), (by first | rfl | (simp; done) | (simp [*]; done)), (by first | rfl | (simp; done) | (simp [*]; done)), H', ⟨Nat.le_refl _⟩, ⟨by (with_reducible repeat (first | apply Kd.R_alloc | apply Kd.R_drewN | apply Kd.R_drew)); exact HO138.out⟩, ⟨by repeat (first | (with_reducible first | exact HB.out | apply below_alloc | apply pw_below_drewN | apply below_drew1) | exact HB.out)⟩⟩
 case round =>
  clear H'
  try clear p2
  try clear c3
  obtain ⟨x4_1, x5_1, x12_1, rfl, rfl, HA, HK1, HO_4, HB⟩ := hrel
  cases gk with
  | zero => exact absurd HA.out (by simp [impl_Hoist_meaning.l0])
  | succ k1 =>
   have H := HA.out
   clear HA
   simp only [impl_Hoist_meaning.l0] at H
   by_cases c4 : x12_1 < (l0.length : Int)
   ·rw [if_pos c4] at H
    have c4b0 : decide (x12_1 < (l0.length : Int)) = true := decide_eq_true c4
    clear c4
    by_cases c5 : 0 ≤ x12_1
    ·rw [if_pos c5] at H
     have c5b0 : decide (0 ≤ x12_1) = true := decide_eq_true c5
     clear c5
     by_cases c6 : x12_1 < (l0.length : Int)
     ·rw [if_pos c6] at H
      have c6b0 : decide (x12_1 < (l0.length : Int)) = true := decide_eq_true c6
      clear c6
      by_cases c7 : (rd l0 x12_1) = (-10)
      ·rw [if_pos c7] at H
       have c7b0 : ((rd l0 x12_1) == (-10)) = true := beq_iff_eq.mpr c7
       have c7b1 : ((rd l0 x12_1) != (-10)) = false := bne_eq_false_iff_eq.mpr c7
       clear c7
       by_cases c8 : x5_1 = (x4_1.length : Int)
       ·rw [if_pos c8] at H
        have c8b0 : (x5_1 == (x4_1.length : Int)) = true := beq_iff_eq.mpr c8
        have c8b1 : (x5_1 != (x4_1.length : Int)) = false := bne_eq_false_iff_eq.mpr c8
        clear c8
        simp only [Option.some.injEq, Prod.mk.injEq] at H
        obtain ⟨rfl, rfl⟩ := H
        have p141 : 0 ≤ (x12_1 : Int) := of_decide_eq_true (by first | (with_reducible assumption) | assumption)
        have q141 : x12_1 < (l0.length : Int) := of_decide_eq_true (by first | (with_reducible assumption) | assumption)
        obtain ⟨ad141, e141, hx141_0⟩ := Kd.at_int HR0.out x12_1 p141 q141
        cases e141
        replace hx141_0 := (HB.out.cell (World.block_lt_of_cell? w _ hx141_0)).trans hx141_0
        replace p141 := eq_true p141
        replace q141 := eq_true q141
        obtain ⟨Ao9, co9, eo9⟩ := Kd.R_slice HO_4.out
        subst eo9
        go_wp2
        go_ret2
        exact ⟨_, by first | rfl | (simp [errW_none, errW_some] <;> rfl) | (simp [*, errW_none, errW_some] <;> rfl), by first | exact Kd.R_nil _ _ _ _ _ | exact Kd.N_nil _ _ _ _ _ | exact Kd.V_nil _ _ _ _ _ | exact Kd.Q_nil _ _ _ _ _ | exact Kd.S_nil _ _ _ _ _, by repeat (first | (with_reducible first | exact HB.out | apply below_alloc | apply pw_below_drewN | apply below_drew1) | exact HB.out)⟩
       ·rw [if_neg c8] at H
        have c8b0 : (x5_1 == (x4_1.length : Int)) = false := beq_eq_false_iff_ne.mpr c8
        have c8b1 : (x5_1 != (x4_1.length : Int)) = true := bne_iff_ne.mpr c8
        by_cases c10 : x4_1.length < 140737488355328
        ·rw [if_pos c10] at H
         have LMc10 := Aside0.mk c10
         clear c10
         obtain ⟨y142, hy142⟩ : ∃ y_ : List Int, y_ = (x4_1 ++ [rd l0 x12_1]) := ⟨_, rfl⟩
         replace H : (impl_Hoist_meaning.l0 k1 l0 y142 (y142.length : Int) l0 (l0.length : Int) (wrap64 (x12_1 + 1))) = some (r1, r2) := by first | (rw [hy142]; with_reducible exact H) | (have H2_ := (Option.bind_some _ _).symm.trans H; rw [hy142]; with_reducible exact H2_) | (have H2_ := (Option.bind_some _ _).symm.trans H; with_reducible exact H2_) | with_reducible exact H | (rw [hy142]; exact H) | exact H
         have Ny142 := Aside0.mk hy142
         clear hy142
         have H' := Aside0.mk H
         clear H
         have p141 : 0 ≤ (x12_1 : Int) := of_decide_eq_true (by first | (with_reducible assumption) | assumption)
         have q141 : x12_1 < (l0.length : Int) := of_decide_eq_true (by first | (with_reducible assumption) | assumption)
         obtain ⟨ad141, e141, hx141_0⟩ := Kd.at_int HR0.out x12_1 p141 q141
         cases e141
         replace hx141_0 := (HB.out.cell (World.block_lt_of_cell? w _ hx141_0)).trans hx141_0
         replace p141 := eq_true p141
         replace q141 := eq_true q141
         obtain ⟨Ao11, co11, eo11⟩ := Kd.R_slice HO_4.out
         subst eo11
         go_wp2_with (first | ((with_reducible refine gate_builtin (b := .append) (xs := #[.tmp 22, .tmp 24]) rfl ?_); (try (refine gate_guard (by rfl) ?_; dsimp only)); at_builtin; refine Kd.R_append (Kd.int .i8) (w0 := w) w.heap.size rfl (.tmp 22) (.tmp 24) 27 51 (.int .i8 0) 1 rfl Tryz.underlying27 info51 rfl (by decide) (by omega) (.slice Ao11 x4_1.length co11) x4_1 (rd l0 x12_1) [.int .i8 (rd l0 x12_1)] (fun _ => True) (fun _ => False) rfl rfl ?aP (fun _ hk => hk.elim) ?aF ?aO ?aB ?aS ?aL ?_; (case aP => exact rfl); (case aB => exact (by repeat (first | (with_reducible first | exact HB.out | apply below_alloc | apply pw_below_drewN | apply below_drew1) | exact HB.out))); (case aF => exact (fun _ _ => trivial)); (case aO => exact (by (with_reducible repeat (first | apply Kd.R_alloc | apply Kd.R_drewN | apply Kd.R_drew)); exact HO_4.out)); (case aS => exact (below_size (by repeat (first | (with_reducible first | exact HB.out | apply below_alloc | apply pw_below_drewN | apply below_drew1) | exact HB.out)))); (case aL => have := LMc10.out; omega); intro v143 w12 ho hb hg hat; rw [← Ny142.out] at ho; have n0_ := Aside0.mk (hb); have n1_ := Aside0.mk (ho); clear HB; clear HO_4; have HB := n0_; have HO144 := n1_; clear n0_ n1_; clear ho hb hg hat; obtain ⟨Ao13, co13, eo13⟩ := Kd.R_slice HO144.out; subst eo13))
         go_roundg k1
         case measure => have := HK1.out; omega
         case rel => exact ⟨(y142), ((y142.length : Int)), (wrap64 (x12_1 + 1)), (by first | rfl | (simp; done) | (simp [*]; done)), (by first | rfl | (simp; done) | (simp [*]; done)), H', ⟨by have := HK1.out; omega⟩, ⟨by (with_reducible repeat (first | apply Kd.R_alloc | apply Kd.R_drewN | apply Kd.R_drew)); exact HO144.out⟩, ⟨by repeat (first | (with_reducible first | exact HB.out | apply below_alloc | apply pw_below_drewN | apply below_drew1) | exact HB.out)⟩⟩
        ·rw [if_neg c10] at H
         exact absurd H (by simp)
      ·rw [if_neg c7] at H
       have c7b0 : ((rd l0 x12_1) == (-10)) = false := beq_eq_false_iff_ne.mpr c7
       have c7b1 : ((rd l0 x12_1) != (-10)) = true := bne_iff_ne.mpr c7
       have HC14 := Aside0.mk H
       clear H
       have p141 : 0 ≤ (x12_1 : Int) := of_decide_eq_true (by first | (with_reducible assumption) | assumption)
       have q141 : x12_1 < (l0.length : Int) := of_decide_eq_true (by first | (with_reducible assumption) | assumption)
       obtain ⟨ad141, e141, hx141_0⟩ := Kd.at_int HR0.out x12_1 p141 q141
       cases e141
       replace hx141_0 := (HB.out.cell (World.block_lt_of_cell? w _ hx141_0)).trans hx141_0
       replace p141 := eq_true p141
       replace q141 := eq_true q141
       go_upto_region 11 with (fail)
       go_cut [41] (fun v41 wc => ∃ (kq : Nat) (x41_13 : Bool), v41 = .bool x41_13 ∧ Aside0 (impl_Hoist_meaning.j1 kq l0 x4_1 x5_1 (rd l0 x12_1) (wrap64 ((wrap64 (x5_1 - (wrap64 (rd l0 x12_1)))) - 1)) l0 (l0.length : Int) x12_1 x41_13 = some (r1, r2)) ∧ Aside0 (kq ≤ k1) ∧ Aside0 (Kd.R (Kd.int .i8) 51 wc w.heap.size (fun _ => True) u4 x4_1) ∧ Aside0 (Below w.heap.size w wc))
       case first =>
        have H := HC14.out
        clear HC14
        replace H := Option.bind_eq_some_iff.mp H
        obtain ⟨t145, A150, H⟩ := H
        replace H : (if t145 = true then (impl_Hoist_meaning.j1 k1 l0 x4_1 x5_1 (rd l0 x12_1) (wrap64 ((wrap64 (x5_1 - (wrap64 (rd l0 x12_1)))) - 1)) l0 (l0.length : Int) x12_1 (decide ((wrap64 ((wrap64 (x5_1 - (wrap64 (rd l0 x12_1)))) - 1)) < (x4_1.length : Int)))) else (impl_Hoist_meaning.j1 k1 l0 x4_1 x5_1 (rd l0 x12_1) (wrap64 ((wrap64 (x5_1 - (wrap64 (rd l0 x12_1)))) - 1)) l0 (l0.length : Int) x12_1 false)) = some (r1, r2) := H
        have A15 := Aside0.mk A150
        clear A150
        by_cases c16 : t145 = true
        ·subst c16
         have H1 : (impl_Hoist_meaning.j1 k1 l0 x4_1 x5_1 (rd l0 x12_1) (wrap64 ((wrap64 (x5_1 - (wrap64 (rd l0 x12_1)))) - 1)) l0 (l0.length : Int) x12_1 (decide ((wrap64 ((wrap64 (x5_1 - (wrap64 (rd l0 x12_1)))) - 1)) < (x4_1.length : Int)))) = some (r1, r2) := by rw [if_pos rfl] at H; exact H
         clear H
         have H := H1
         clear H1
         have H' := Aside0.mk H
         clear H
         go_wp2_with (first | ((with_reducible refine gate_callee (f := 36) rfl ?_); refine goesL_ (some 35) rfl rfl Tryz.func36 (by kernel_rfl) rfl #[.int .i64 (wrap64 (rd l0 x12_1)), .int .i64 (-4), .int .i64 (-1)] rfl (by (try simp only [List.map_toArray, List.map_cons, List.map_nil]); first | done | rfl | (simp only [List.length_drop, List.length_take]; rfl)) ?_; (with_reducible refine (impl_within.calls (wrap64 (rd l0 x12_1)) (-4) (-1) true _ A15.out).mono ?_); rintro e w' ⟨rfl, ⟨nd, rfl⟩⟩; refine ⟨_, rfl, ?_⟩; obtain ⟨Ao17, co17, eo17⟩ := Kd.R_slice HO_4.out; subst eo17))
         go_meet
         case rel => exact ⟨_, (decide ((wrap64 ((wrap64 (x5_1 - (wrap64 (rd l0 x12_1)))) - 1)) < (x4_1.length : Int))), (by first | rfl | (simp; done) | (simp [*]; done)), H', ⟨by have := HK1.out; first | omega | exact Nat.le_refl _⟩, ⟨by (with_reducible repeat (first | apply Kd.R_alloc | apply Kd.R_drewN | apply Kd.R_drew)); exact HO_4.out⟩, ⟨by repeat (first | (with_reducible first | exact HB.out | apply below_alloc | apply pw_below_drewN | apply below_drew1) | exact HB.out)⟩⟩
        ·replace c16 := Bool.eq_false_iff.mpr c16
         subst c16
         have H1 : (impl_Hoist_meaning.j1 k1 l0 x4_1 x5_1 (rd l0 x12_1) (wrap64 ((wrap64 (x5_1 - (wrap64 (rd l0 x12_1)))) - 1)) l0 (l0.length : Int) x12_1 false) = some (r1, r2) := by rw [if_neg (show ¬ (false = true) by decide)] at H; exact H
         clear H
         have H := H1
         clear H1
         have H' := Aside0.mk H
         clear H
         go_wp2_with (first | ((with_reducible refine gate_callee (f := 36) rfl ?_); refine goesL_ (some 35) rfl rfl Tryz.func36 (by kernel_rfl) rfl #[.int .i64 (wrap64 (rd l0 x12_1)), .int .i64 (-4), .int .i64 (-1)] rfl (by (try simp only [List.map_toArray, List.map_cons, List.map_nil]); first | done | rfl | (simp only [List.length_drop, List.length_take]; rfl)) ?_; (with_reducible refine (impl_within.calls (wrap64 (rd l0 x12_1)) (-4) (-1) false _ A15.out).mono ?_); rintro e w' ⟨rfl, ⟨nd, rfl⟩⟩; refine ⟨_, rfl, ?_⟩))
         go_meet
         case rel => exact ⟨_, (false), (by first | rfl | (simp; done) | (simp [*]; done)), H', ⟨by have := HK1.out; first | omega | exact Nat.le_refl _⟩, ⟨by (with_reducible repeat (first | apply Kd.R_alloc | apply Kd.R_drewN | apply Kd.R_drew)); exact HO_4.out⟩, ⟨by repeat (first | (with_reducible first | exact HB.out | apply below_alloc | apply pw_below_drewN | apply below_drew1) | exact HB.out)⟩⟩
       case rest =>
        clear HC14
        try clear c1
        try clear p1
        try clear q1
        try clear hx1
        try clear p2
        try clear c3
        try clear c4
        try clear c4b0
        try clear c5
        try clear c5b0
        try clear c6
        try clear c6b0
        try clear p6
        try clear c7
        try clear c7b0
        try clear c7b1
        try clear c8
        try clear c8b0
        try clear c8b1
        try clear c10
        try clear p14
        try clear q14
        try clear hx14
        try clear c16
        try clear hx141_0
        try clear p141
        try clear p2
        try clear q141
        obtain ⟨kq, x41_13, rfl, HA, HJ13, HO_4, HB⟩ := hcut
        cases kq with
        | zero => exact absurd HA.out (by simp [impl_Hoist_meaning.j1])
        | succ kj13 =>
         have H := HA.out
         clear HA
         simp only [impl_Hoist_meaning.j1] at H
         by_cases c18 : x41_13 = true
         ·subst c18
          have H1 : (if 0 ≤ (wrap64 ((wrap64 (x5_1 - (wrap64 (rd l0 x12_1)))) - 1)) then (if (wrap64 ((wrap64 (x5_1 - (wrap64 (rd l0 x12_1)))) - 1)) < (x4_1.length : Int) then ((impl_isKind.f (rd x4_1 (wrap64 ((wrap64 (x5_1 - (wrap64 (rd l0 x12_1)))) - 1)))).bind fun t147 => (if t147 = true then (if x4_1.length < 140737488355328 then (impl_Hoist_meaning.l0 kj13 l0 (x4_1 ++ [rd x4_1 (wrap64 ((wrap64 (x5_1 - (wrap64 (rd l0 x12_1)))) - 1))]) x5_1 l0 (l0.length : Int) (wrap64 (x12_1 + 1))) else (none)) else (some (([] : List Int), false)))) else (none)) else (none)) = some (r1, r2) := by rw [if_pos rfl] at H; exact H
          clear H
          have H := H1
          clear H1
          obtain ⟨ji19, hji19⟩ : ∃ j_ : Int, (wrap64 ((wrap64 (x5_1 - (wrap64 (rd l0 x12_1)))) - 1)) = j_ := ⟨_, rfl⟩
          replace H : (if 0 ≤ (ji19) then (if (ji19) < (x4_1.length : Int) then ((impl_isKind.f (rd x4_1 (ji19))).bind fun t147 => (if t147 = true then (if x4_1.length < 140737488355328 then (impl_Hoist_meaning.l0 kj13 l0 (x4_1 ++ [rd x4_1 (ji19)]) x5_1 l0 (l0.length : Int) (wrap64 (x12_1 + 1))) else (none)) else (some (([] : List Int), false)))) else (none)) else (none)) = some (r1, r2) := by first | (rw [hji19] at H; exact H) | (simp only [hji19] at H ⊢; exact H)
          have hji19w : (IntKind.i64.wrap ((wrap64 (x5_1 - (wrap64 (rd l0 x12_1)))) - 1)) = ji19 := (i64_w _).trans hji19
          by_cases c20 : 0 ≤ (ji19)
          ·rw [if_pos c20] at H
           have c20b0 : decide (0 ≤ (ji19)) = true := decide_eq_true c20
           clear c20
           by_cases c21 : (ji19) < (x4_1.length : Int)
           ·rw [if_pos c21] at H
            have c21b0 : decide ((ji19) < (x4_1.length : Int)) = true := decide_eq_true c21
            clear c21
            replace H := Option.bind_eq_some_iff.mp H
            obtain ⟨t147, A220, H⟩ := H
            replace H : (if t147 = true then (if x4_1.length < 140737488355328 then (impl_Hoist_meaning.l0 kj13 l0 (x4_1 ++ [rd x4_1 (ji19)]) x5_1 l0 (l0.length : Int) (wrap64 (x12_1 + 1))) else (none)) else (some (([] : List Int), false))) = some (r1, r2) := H
            have A22 := Aside0.mk A220
            clear A220
            by_cases c23 : t147 = true
            ·subst c23
             have H1 : (if x4_1.length < 140737488355328 then (impl_Hoist_meaning.l0 kj13 l0 (x4_1 ++ [rd x4_1 (ji19)]) x5_1 l0 (l0.length : Int) (wrap64 (x12_1 + 1))) else (none)) = some (r1, r2) := by rw [if_pos rfl] at H; exact H
             clear H
             have H := H1
             clear H1
             by_cases c24 : x4_1.length < 140737488355328
             ·rw [if_pos c24] at H
              have LMc24 := Aside0.mk c24
              clear c24
              obtain ⟨y148, hy148⟩ : ∃ y_ : List Int, y_ = (x4_1 ++ [rd x4_1 (ji19)]) := ⟨_, rfl⟩
              replace H : (impl_Hoist_meaning.l0 kj13 l0 y148 x5_1 l0 (l0.length : Int) (wrap64 (x12_1 + 1))) = some (r1, r2) := by first | (rw [hy148]; with_reducible exact H) | (have H2_ := (Option.bind_some _ _).symm.trans H; rw [hy148]; with_reducible exact H2_) | (have H2_ := (Option.bind_some _ _).symm.trans H; with_reducible exact H2_) | with_reducible exact H | (rw [hy148]; exact H) | exact H
              have Ny148 := Aside0.mk hy148
              clear hy148
              have H' := Aside0.mk H
              clear H
              obtain ⟨Ao25, co25, eo25⟩ := Kd.R_slice HO_4.out
              subst eo25
              have p146 : 0 ≤ ((ji19) : Int) := of_decide_eq_true (by first | (with_reducible assumption) | assumption)
              have q146 : (ji19) < (x4_1.length : Int) := of_decide_eq_true (by first | (with_reducible assumption) | assumption)
              obtain ⟨ad146, e146, hx146_0⟩ := Kd.at_int (Kd.R_reads' HO_4.out).2.2 (ji19) p146 q146
              cases e146
              replace p146 := eq_true p146
              replace q146 := eq_true q146
              go_wp2_with (first | ((with_reducible refine gate_callee (f := 51) rfl ?_); refine goesL_ (some 47) rfl rfl Tryz.func51 (by kernel_rfl) rfl #[.int .i8 (rd x4_1 (ji19))] rfl (by (try simp only [List.map_toArray, List.map_cons, List.map_nil]); first | done | (simp only [hji19]; rfl) | rfl | (simp only [List.length_drop, List.length_take]; rfl)) ?_; (with_reducible refine (impl_isKind.calls (rd x4_1 (ji19)) true _ A22.out).mono ?_); rintro e w' ⟨rfl, ⟨nd, rfl⟩⟩; refine ⟨_, rfl, ?_⟩) | ((with_reducible refine gate_builtin (b := .append) (xs := #[.tmp 49, .tmp 51]) rfl ?_); (try (refine gate_guard (by rfl) ?_; dsimp only)); at_builtin; refine Kd.R_append (Kd.int .i8) (w0 := w) w.heap.size rfl (.tmp 49) (.tmp 51) 27 51 (.int .i8 0) 1 rfl Tryz.underlying27 info51 rfl (by decide) (by omega) (.slice (some ad146) x4_1.length co25) x4_1 (rd x4_1 (ji19)) [.int .i8 (rd x4_1 (ji19))] (fun _ => True) (fun _ => False) rfl rfl ?aP (fun _ hk => hk.elim) ?aF ?aO ?aB ?aS ?aL ?_; (case aP => exact rfl); (case aB => exact (by repeat (first | (with_reducible first | exact HB.out | apply below_alloc | apply pw_below_drewN | apply below_drew1) | exact HB.out))); (case aF => exact (fun _ _ => trivial)); (case aO => exact (by (with_reducible repeat (first | apply Kd.R_alloc | apply Kd.R_drewN | apply Kd.R_drew)); exact HO_4.out)); (case aS => exact (below_size (by repeat (first | (with_reducible first | exact HB.out | apply below_alloc | apply pw_below_drewN | apply below_drew1) | exact HB.out)))); (case aL => have := LMc24.out; omega); intro v149 w26 ho hb hg hat; rw [← Ny148.out] at ho; have n0_ := Aside0.mk (hb); have n1_ := Aside0.mk (ho); clear HB; clear HO_4; have HB := n0_; have HO150 := n1_; clear n0_ n1_; clear ho hb hg hat))
              go_roundg kj13
              case measure => have := HK1.out; have := HJ13.out; omega
              case rel => exact ⟨(y148), (x5_1), (wrap64 (x12_1 + 1)), (by first | rfl | (simp; done) | (simp [*]; done)), (by first | rfl | (simp; done) | (simp [*]; done)), H', ⟨by have := HK1.out; have := HJ13.out; omega⟩, ⟨by (with_reducible repeat (first | apply Kd.R_alloc | apply Kd.R_drewN | apply Kd.R_drew)); exact HO150.out⟩, ⟨by repeat (first | (with_reducible first | exact HB.out | apply below_alloc | apply pw_below_drewN | apply below_drew1) | exact HB.out)⟩⟩
             ·rw [if_neg c24] at H
              exact absurd H (by simp)
            ·replace c23 := Bool.eq_false_iff.mpr c23
             subst c23
             have H1 : (some (([] : List Int), false)) = some (r1, r2) := by rw [if_neg (show ¬ (false = true) by decide)] at H; exact H
             clear H
             have H := H1
             clear H1
             simp only [Option.some.injEq, Prod.mk.injEq] at H
             obtain ⟨rfl, rfl⟩ := H
             obtain ⟨Ao27, co27, eo27⟩ := Kd.R_slice HO_4.out
             subst eo27
             have p146 : 0 ≤ ((ji19) : Int) := of_decide_eq_true (by first | (with_reducible assumption) | assumption)
             have q146 : (ji19) < (x4_1.length : Int) := of_decide_eq_true (by first | (with_reducible assumption) | assumption)
             obtain ⟨ad146, e146, hx146_0⟩ := Kd.at_int (Kd.R_reads' HO_4.out).2.2 (ji19) p146 q146
             cases e146
             replace p146 := eq_true p146
             replace q146 := eq_true q146
             go_wp2_with (first | ((with_reducible refine gate_callee (f := 51) rfl ?_); refine goesL_ (some 47) rfl rfl Tryz.func51 (by kernel_rfl) rfl #[.int .i8 (rd x4_1 (ji19))] rfl (by (try simp only [List.map_toArray, List.map_cons, List.map_nil]); first | done | (simp only [hji19]; rfl) | rfl | (simp only [List.length_drop, List.length_take]; rfl)) ?_; (with_reducible refine (impl_isKind.calls (rd x4_1 (ji19)) false _ A22.out).mono ?_); rintro e w' ⟨rfl, ⟨nd, rfl⟩⟩; refine ⟨_, rfl, ?_⟩))
             go_ret2
             exact ⟨_, by first | rfl | (simp [errW_none, errW_some] <;> rfl) | (simp only [← hji19]; first | rfl | (simp [errW_none, errW_some] <;> rfl)) | (simp [*, errW_none, errW_some] <;> rfl), by first | exact Kd.R_nil _ _ _ _ _ | exact Kd.N_nil _ _ _ _ _ | exact Kd.V_nil _ _ _ _ _ | exact Kd.Q_nil _ _ _ _ _ | exact Kd.S_nil _ _ _ _ _, by repeat (first | (with_reducible first | exact HB.out | apply below_alloc | apply pw_below_drewN | apply below_drew1) | exact HB.out)⟩
           ·rw [if_neg c21] at H
            exact absurd H (by simp)
          ·rw [if_neg c20] at H
           exact absurd H (by simp)
         ·replace c18 := Bool.eq_false_iff.mpr c18
          subst c18
          have H1 : ((impl_isKind.f (rd l0 x12_1)).bind fun t151 => (if t151 = true then (if x4_1.length < 140737488355328 then (impl_Hoist_meaning.l0 kj13 l0 (x4_1 ++ [(rd l0 x12_1)]) x5_1 l0 (l0.length : Int) (wrap64 (x12_1 + 1))) else (none)) else (some (([] : List Int), false)))) = some (r1, r2) := by rw [if_neg (show ¬ (false = true) by decide)] at H; exact H
          clear H
          have H := H1
          clear H1
          replace H := Option.bind_eq_some_iff.mp H
          obtain ⟨t151, A280, H⟩ := H
          replace H : (if t151 = true then (if x4_1.length < 140737488355328 then (impl_Hoist_meaning.l0 kj13 l0 (x4_1 ++ [(rd l0 x12_1)]) x5_1 l0 (l0.length : Int) (wrap64 (x12_1 + 1))) else (none)) else (some (([] : List Int), false))) = some (r1, r2) := H
          have A28 := Aside0.mk A280
          clear A280
          by_cases c29 : t151 = true
          ·subst c29
           have H1 : (if x4_1.length < 140737488355328 then (impl_Hoist_meaning.l0 kj13 l0 (x4_1 ++ [(rd l0 x12_1)]) x5_1 l0 (l0.length : Int) (wrap64 (x12_1 + 1))) else (none)) = some (r1, r2) := by rw [if_pos rfl] at H; exact H
           clear H
           have H := H1
           clear H1
           by_cases c30 : x4_1.length < 140737488355328
           ·rw [if_pos c30] at H
            have LMc30 := Aside0.mk c30
            clear c30
            obtain ⟨y152, hy152⟩ : ∃ y_ : List Int, y_ = (x4_1 ++ [(rd l0 x12_1)]) := ⟨_, rfl⟩
            replace H : (impl_Hoist_meaning.l0 kj13 l0 y152 x5_1 l0 (l0.length : Int) (wrap64 (x12_1 + 1))) = some (r1, r2) := by first | (rw [hy152]; with_reducible exact H) | (have H2_ := (Option.bind_some _ _).symm.trans H; rw [hy152]; with_reducible exact H2_) | (have H2_ := (Option.bind_some _ _).symm.trans H; with_reducible exact H2_) | with_reducible exact H | (rw [hy152]; exact H) | exact H
            have Ny152 := Aside0.mk hy152
            clear hy152
            have H' := Aside0.mk H
            clear H
            go_wp2_with (first | ((with_reducible refine gate_callee (f := 51) rfl ?_); refine goesL_ (some 47) rfl rfl Tryz.func51 (by kernel_rfl) rfl #[.int .i8 (rd l0 x12_1)] rfl (by (try simp only [List.map_toArray, List.map_cons, List.map_nil]); first | done | rfl | (simp only [List.length_drop, List.length_take]; rfl)) ?_; (with_reducible refine (impl_isKind.calls (rd l0 x12_1) true _ A28.out).mono ?_); rintro e w' ⟨rfl, ⟨nd, rfl⟩⟩; refine ⟨_, rfl, ?_⟩) | ((with_reducible refine gate_builtin (b := .append) (xs := #[.tmp 49, .tmp 51]) rfl ?_); (try (refine gate_guard (by rfl) ?_; dsimp only)); at_builtin; refine Kd.R_append (Kd.int .i8) (w0 := w) w.heap.size rfl (.tmp 49) (.tmp 51) 27 51 (.int .i8 0) 1 rfl Tryz.underlying27 info51 rfl (by decide) (by omega) u4 x4_1 (rd l0 x12_1) [.int .i8 (rd l0 x12_1)] (fun _ => True) (fun _ => False) rfl rfl ?aP (fun _ hk => hk.elim) ?aF ?aO ?aB ?aS ?aL ?_; (case aP => exact rfl); (case aB => exact (by repeat (first | (with_reducible first | exact HB.out | apply below_alloc | apply pw_below_drewN | apply below_drew1) | exact HB.out))); (case aF => exact (fun _ _ => trivial)); (case aO => exact (by (with_reducible repeat (first | apply Kd.R_alloc | apply Kd.R_drewN | apply Kd.R_drew)); exact HO_4.out)); (case aS => exact (below_size (by repeat (first | (with_reducible first | exact HB.out | apply below_alloc | apply pw_below_drewN | apply below_drew1) | exact HB.out)))); (case aL => have := LMc30.out; omega); intro v153 w31 ho hb hg hat; rw [← Ny152.out] at ho; have n0_ := Aside0.mk (hb); have n1_ := Aside0.mk (ho); clear HB; clear HO_4; have HB := n0_; have HO154 := n1_; clear n0_ n1_; clear ho hb hg hat))
            go_roundg kj13
            case measure => have := HK1.out; have := HJ13.out; omega
            case rel => exact ⟨(y152), (x5_1), (wrap64 (x12_1 + 1)), (by first | rfl | (simp; done) | (simp [*]; done)), (by first | rfl | (simp; done) | (simp [*]; done)), H', ⟨by have := HK1.out; have := HJ13.out; omega⟩, ⟨by (with_reducible repeat (first | apply Kd.R_alloc | apply Kd.R_drewN | apply Kd.R_drew)); exact HO154.out⟩, ⟨by repeat (first | (with_reducible first | exact HB.out | apply below_alloc | apply pw_below_drewN | apply below_drew1) | exact HB.out)⟩⟩
           ·rw [if_neg c30] at H
            exact absurd H (by simp)
          ·replace c29 := Bool.eq_false_iff.mpr c29
           subst c29
           have H1 : (some (([] : List Int), false)) = some (r1, r2) := by rw [if_neg (show ¬ (false = true) by decide)] at H; exact H
           clear H
           have H := H1
           clear H1
           simp only [Option.some.injEq, Prod.mk.injEq] at H
           obtain ⟨rfl, rfl⟩ := H
           go_wp2_with (first | ((with_reducible refine gate_callee (f := 51) rfl ?_); refine goesL_ (some 47) rfl rfl Tryz.func51 (by kernel_rfl) rfl #[.int .i8 (rd l0 x12_1)] rfl (by (try simp only [List.map_toArray, List.map_cons, List.map_nil]); first | done | rfl | (simp only [List.length_drop, List.length_take]; rfl)) ?_; (with_reducible refine (impl_isKind.calls (rd l0 x12_1) false _ A28.out).mono ?_); rintro e w' ⟨rfl, ⟨nd, rfl⟩⟩; refine ⟨_, rfl, ?_⟩))
           go_ret2
           exact ⟨_, by first | rfl | (simp [errW_none, errW_some] <;> rfl) | (simp [*, errW_none, errW_some] <;> rfl), by first | exact Kd.R_nil _ _ _ _ _ | exact Kd.N_nil _ _ _ _ _ | exact Kd.V_nil _ _ _ _ _ | exact Kd.Q_nil _ _ _ _ _ | exact Kd.S_nil _ _ _ _ _, by repeat (first | (with_reducible first | exact HB.out | apply below_alloc | apply pw_below_drewN | apply below_drew1) | exact HB.out)⟩
     ·rw [if_neg c6] at H
      exact absurd H (by simp)
    ·rw [if_neg c5] at H
     exact absurd H (by simp)
   ·rw [if_neg c4] at H
    have c4b0 : decide (x12_1 < (l0.length : Int)) = false := decide_eq_false c4
    clear c4
    replace H := Option.bind_eq_some_iff.mp H
    obtain ⟨t139, A320, H⟩ := H
    replace H : ((impl_within.f t139 1 8).bind fun t140 => (if t140 = true then (some (x4_1, decide (x5_1 < (x4_1.length : Int)))) else (some (x4_1, false)))) = some (r1, r2) := H
    have A32 := Aside0.mk A320
    clear A320
    replace H := Option.bind_eq_some_iff.mp H
    obtain ⟨t140, A330, H⟩ := H
    replace H : (if t140 = true then (some (x4_1, decide (x5_1 < (x4_1.length : Int)))) else (some (x4_1, false))) = some (r1, r2) := H
    have A33 := Aside0.mk A330
    clear A330
    by_cases c34 : t140 = true
    ·subst c34
     have H1 : (some (x4_1, decide (x5_1 < (x4_1.length : Int)))) = some (r1, r2) := by rw [if_pos rfl] at H; exact H
     clear H
     have H := H1
     clear H1
     simp only [Option.some.injEq, Prod.mk.injEq] at H
     obtain ⟨rfl, rfl⟩ := H
     go_wp2_with (first | ((with_reducible refine gate_callee (f := 52) rfl ?_); refine goesL_ (some 56) rfl rfl Tryz.func52 (by kernel_rfl) rfl #[.slice A0 l0.length c0] rfl (by (try simp only [List.map_toArray, List.map_cons, List.map_nil]); first | done | rfl | (simp only [List.length_drop, List.length_take]; rfl)) ?_; (with_reducible refine (impl_size_int8.calls _ _ l0 t139 _ ?side1 ?side2 A32.out).mono ?_); (case side1 => repeat (first | exact (Kd.C_below HR0.out HB.out) | (with_reducible refine Kd.C_alloc ?_ _) | (with_reducible refine Kd.C_drewN ?_ _) | (with_reducible refine Kd.C_drew ?_))); (case side2 => exact HC0.out); rintro e w' ⟨rfl, ⟨nd, rfl⟩⟩; refine ⟨_, rfl, ?_⟩) | ((with_reducible refine gate_callee (f := 36) rfl ?_); refine goesL_ (some 57) rfl rfl Tryz.func36 (by kernel_rfl) rfl #[.int .i64 t139, .int .i64 1, .int .i64 8] rfl (by (try simp only [List.map_toArray, List.map_cons, List.map_nil]); first | done | rfl | (simp only [List.length_drop, List.length_take]; rfl)) ?_; (with_reducible refine (impl_within.calls t139 1 8 true _ A33.out).mono ?_); rintro e w' ⟨rfl, ⟨nd, rfl⟩⟩; refine ⟨_, rfl, ?_⟩; obtain ⟨Ao35, co35, eo35⟩ := Kd.R_slice HO_4.out; subst eo35))
     go_ret2
     exact ⟨_, by first | rfl | (simp [errW_none, errW_some] <;> rfl) | (simp [*, errW_none, errW_some] <;> rfl), by (with_reducible repeat (first | apply Kd.R_alloc | apply Kd.R_drewN | apply Kd.R_drew)); exact HO_4.out, by repeat (first | (with_reducible first | exact HB.out | apply below_alloc | apply pw_below_drewN | apply below_drew1) | exact HB.out)⟩
    ·replace c34 := Bool.eq_false_iff.mpr c34
     subst c34
     have H1 : (some (x4_1, false)) = some (r1, r2) := by rw [if_neg (show ¬ (false = true) by decide)] at H; exact H
     clear H
     have H := H1
     clear H1
     simp only [Option.some.injEq, Prod.mk.injEq] at H
     obtain ⟨rfl, rfl⟩ := H
     go_wp2_with (first | ((with_reducible refine gate_callee (f := 52) rfl ?_); refine goesL_ (some 56) rfl rfl Tryz.func52 (by kernel_rfl) rfl #[.slice A0 l0.length c0] rfl (by (try simp only [List.map_toArray, List.map_cons, List.map_nil]); first | done | rfl | (simp only [List.length_drop, List.length_take]; rfl)) ?_; (with_reducible refine (impl_size_int8.calls _ _ l0 t139 _ ?side1 ?side2 A32.out).mono ?_); (case side1 => repeat (first | exact (Kd.C_below HR0.out HB.out) | (with_reducible refine Kd.C_alloc ?_ _) | (with_reducible refine Kd.C_drewN ?_ _) | (with_reducible refine Kd.C_drew ?_))); (case side2 => exact HC0.out); rintro e w' ⟨rfl, ⟨nd, rfl⟩⟩; refine ⟨_, rfl, ?_⟩) | ((with_reducible refine gate_callee (f := 36) rfl ?_); refine goesL_ (some 57) rfl rfl Tryz.func36 (by kernel_rfl) rfl #[.int .i64 t139, .int .i64 1, .int .i64 8] rfl (by (try simp only [List.map_toArray, List.map_cons, List.map_nil]); first | done | rfl | (simp only [List.length_drop, List.length_take]; rfl)) ?_; (with_reducible refine (impl_within.calls t139 1 8 false _ A33.out).mono ?_); rintro e w' ⟨rfl, ⟨nd, rfl⟩⟩; refine ⟨_, rfl, ?_⟩))
     go_ret2
     exact ⟨_, by first | rfl | (simp [errW_none, errW_some] <;> rfl) | (simp [*, errW_none, errW_some] <;> rfl), by (with_reducible repeat (first | apply Kd.R_alloc | apply Kd.R_drewN | apply Kd.R_drew)); exact HO_4.out, by repeat (first | (with_reducible first | exact HB.out | apply below_alloc | apply pw_below_drewN | apply below_drew1) | exact HB.out)⟩
def impl_ValidHoist.f (k : Nat) (l0 : List Int) : Option (Bool) := (impl_Hoist_meaning.f k l0).bind fun bt155 => (some bt155.2)
set_option maxHeartbeats 8000000 in
set_option maxRecDepth 100000 in
theorem impl_ValidHoist.calls (k : Nat) (A0 : Option Addr) (c0 : Nat) (l0 : List Int) (r : Bool) (w : World) (hr0 : Kd.C (Kd.int .i8) w A0 l0.length l0) (hc0 : l0.length ≤ c0) (h : impl_ValidHoist.f k l0 = some r) :
  Calls Tryz.prog 19 #[.slice A0 l0.length c0] w fun e w' => e = .returned (.bool r) ∧ Below w.heap.size w w' := by
 have HR0 := Aside0.mk hr0
 have HC0 := Aside0.mk hc0
 clear hr0 hc0
 have HB := Aside0.mk (Below.refl w.heap.size w)
 have H : ((impl_Hoist_meaning.f k l0).bind fun bt155 => (some bt155.2)) = some r := h
 clear h
 replace H := Option.bind_eq_some_iff.mp H
 obtain ⟨⟨t155, t156⟩, A20, H⟩ := H
 replace H : (some t156) = some r := H
 have A2 := Aside0.mk A20
 clear A20
 obtain rfl := Option.some.inj H
 go_enter Tryz.func19, Tryz.ntmps19
 go_wp2_with (first | ((with_reducible refine gate_callee (f := 30) rfl ?_); refine goesL_ (some 7) rfl rfl Tryz.func30 (by kernel_rfl) rfl #[.slice A0 l0.length c0] rfl (by (try simp only [List.map_toArray, List.map_cons, List.map_nil]); first | done | rfl | (simp only [List.length_drop, List.length_take]; rfl)) ?_; (with_reducible refine (impl_Hoist_meaning.calls k _ _ l0 t155 t156 _ ?side1 ?side2 A2.out).mono ?_); (case side1 => repeat (first | exact HR0.out | (with_reducible refine Kd.C_alloc ?_ _) | (with_reducible refine Kd.C_drewN ?_ _) | (with_reducible refine Kd.C_drew ?_))); (case side2 => exact HC0.out); rintro e w3 ⟨v157, rfl, ho0, hb⟩; refine ⟨_, rfl, ?_⟩; have n0_ := Aside0.mk (Kd.R_lower ho0 (below_size (by repeat (first | (with_reducible first | exact HB.out | apply below_alloc | apply pw_below_drewN | apply below_drew1) | exact HB.out)))); have n1_ := Aside0.mk (below_step (by repeat (first | (with_reducible first | exact HB.out | apply below_alloc | apply pw_below_drewN | apply below_drew1) | exact HB.out)) hb); clear HB; have HO158 := n0_; have HB := n1_; clear n0_ n1_; (try clear hb); (try clear hb2); (try clear hk); (try clear hi); (try clear ho0)))
 go_ret
 exact ⟨by first | rfl | (simp [errW_none, errW_some] <;> rfl) | (simp [*, errW_none, errW_some] <;> rfl), by repeat (first | (with_reducible first | exact HB.out | apply below_alloc | apply pw_below_drewN | apply below_drew1) | exact HB.out)⟩
def impl_unless.f (a0 : Bool) (a1 : Int) : Option (Int) := if a0 = true then (some 0) else (some a1)
def IsS90 (w0 W : World) (g : Nat) (f0 : List Int) (f1 : Int) (f2 : Int) : Prop := ∃ A0 c0, W.heap[g]? = some (.cells #[.slice A0 f0.length c0, .int .i64 f1, .int .u64 f2] 90 (0, 0)) ∧ w0.heap.size ≤ g ∧ Kd.C (Kd.int .u8) w0 A0 f0.length f0
theorem IsS90.grown {w0 W : World} {g : Nat} {f0 : List Int} {f1 : Int} {f2 : Int} {W1 : World} {row : Option Nat} (h : IsS90 w0 W g f0 f1 f2) (hw : W.grownBy W1 row) (hne : some g ≠ row) : IsS90 w0 W1 g f0 f1 f2 := by
 obtain ⟨A0, c0, hb, hg, hr0⟩ := h
 exact ⟨A0, c0, blk_grown hb hw hne, hg, hr0⟩
theorem IsS90.below {w0 W : World} {g : Nat} {f0 : List Int} {f1 : Int} {f2 : Int} {W1 : World} (h : IsS90 w0 W g f0 f1 f2) (hw : Below W.heap.size W W1) : IsS90 w0 W1 g f0 f1 f2 := h.grown (grown_of_below hw none) (by simp)
theorem IsS90.drewN {w0 W : World} {g : Nat} {f0 : List Int} {f1 : Int} {f2 : Int} (h : IsS90 w0 W g f0 f1 f2) (m : Nat) : IsS90 w0 (W.drewN m) g f0 f1 f2 := h
theorem IsS90.apart {w0 W : World} {g : Nat} {f0 : List Int} {f1 : Int} {f2 : Int} {α : Type} {d : Kd α} {e : Nat} {base : Nat} {ok : Nat → Prop} {v : Value} {xs : List α} (h : IsS90 w0 W g f0 f1 f2) (ho : d.R e W base ok v xs) (ht : ∀ q, q ∈ e :: d.E → q ≠ 90) : d.R e W base (fun k => ok k ∧ k ≠ g) v xs := by
 obtain ⟨A0, c0, hb, hg, hr0⟩ := h
 exact Kd.R_types ho hb ht
theorem IsS90.own_ne {w0 W : World} {g : Nat} {f0 : List Int} {f1 : Int} {f2 : Int} {α : Type} {d : Kd α} {e : Nat} {base : Nat} {ok : Nat → Prop} {v : Value} {xs : List α} (h : IsS90 w0 W g f0 f1 f2) (ho : d.R e W base ok v xs) (ht : e ≠ 90) : some g ≠ v.ownBlock := by
 obtain ⟨A0, c0, hb, hg, hr0⟩ := h
 exact Kd.R_ne ho hb ht
theorem IsS90.ge {w0 W : World} {g : Nat} {f0 : List Int} {f1 : Int} {f2 : Int} (h : IsS90 w0 W g f0 f1 f2) : w0.heap.size ≤ g := by
 obtain ⟨A0, c0, hb, hg, hr0⟩ := h
 exact hg
theorem cellS90_0 {W : World} {g : Nat} {A0 : Option Addr} {c0 : Nat} {f0 : List Int} {f1 : Int} {f2 : Int} (h : W.heap[g]? = some (.cells #[.slice A0 f0.length c0, .int .i64 f1, .int .u64 f2] 90 (0, 0))) : W.cell? ⟨g, 0, none⟩ = some (.slice A0 f0.length c0) := (blk_cell h 0).trans rfl
theorem cellS90_1 {W : World} {g : Nat} {A0 : Option Addr} {c0 : Nat} {f0 : List Int} {f1 : Int} {f2 : Int} (h : W.heap[g]? = some (.cells #[.slice A0 f0.length c0, .int .i64 f1, .int .u64 f2] 90 (0, 0))) : W.cell? ⟨g, 1, none⟩ = some (.int .i64 f1) := (blk_cell h 1).trans rfl
theorem IsS90.set_1 {w0 W : World} {g : Nat} {f0 : List Int} {f1 : Int} {f2 : Int} (h : IsS90 w0 W g f0 f1 f2) (x : Int) : IsS90 w0 (W.setCell ⟨g, 1, none⟩ (.int .i64 x)) g f0 x f2 := by
 obtain ⟨A0, c0, hb, hg, hr0⟩ := h
 exact ⟨A0, c0, by simpa using blk_set hb 1 (.int .i64 x), hg, hr0⟩
theorem cellS90_2 {W : World} {g : Nat} {A0 : Option Addr} {c0 : Nat} {f0 : List Int} {f1 : Int} {f2 : Int} (h : W.heap[g]? = some (.cells #[.slice A0 f0.length c0, .int .i64 f1, .int .u64 f2] 90 (0, 0))) : W.cell? ⟨g, 2, none⟩ = some (.int .u64 f2) := (blk_cell h 2).trans rfl
theorem IsS90.set_2 {w0 W : World} {g : Nat} {f0 : List Int} {f1 : Int} {f2 : Int} (h : IsS90 w0 W g f0 f1 f2) (x : Int) : IsS90 w0 (W.setCell ⟨g, 2, none⟩ (.int .u64 x)) g f0 f1 x := by
 obtain ⟨A0, c0, hb, hg, hr0⟩ := h
 exact ⟨A0, c0, by simpa using blk_set hb 2 (.int .u64 x), hg, hr0⟩
def spec_l00Src_next.f (s0_0 : List Int) (s0_1 : Int) (s0_2 : Int) : Option (Int × Int × Int) := if s0_1 < (s0_0.length : Int) then (if 0 ≤ s0_1 then (if (wrap64 (s0_1 + 1)) ≤ (s0_0.length : Int) then (some (wrap64 (rd s0_0 s0_1), wrap64 (s0_1 + 1), IntKind.u64.wrap ((IntKind.u64.wrap ((IntKind.u64.wrap (s0_2 * 6364136223846793005)) + (IntKind.u64.wrap (wrap64 (rd s0_0 s0_1))))) + 1442695040888963407))) else (some (wrap64 (Go.bits .and .u64 ((IntKind.u64.wrap ((IntKind.u64.wrap ((IntKind.u64.wrap (s0_2 * 6364136223846793005)) + (IntKind.u64.wrap (wrap64 (rd s0_0 s0_1))))) + 1442695040888963407)) / 1099511627776) 255), wrap64 (s0_1 + 1), IntKind.u64.wrap ((IntKind.u64.wrap ((IntKind.u64.wrap (s0_2 * 6364136223846793005)) + (IntKind.u64.wrap (wrap64 (rd s0_0 s0_1))))) + 1442695040888963407)))) else (none)) else (if (wrap64 (s0_1 + 1)) ≤ (s0_0.length : Int) then (some (0, wrap64 (s0_1 + 1), IntKind.u64.wrap ((IntKind.u64.wrap ((IntKind.u64.wrap (s0_2 * 6364136223846793005)) + 0)) + 1442695040888963407))) else (some (wrap64 (Go.bits .and .u64 ((IntKind.u64.wrap ((IntKind.u64.wrap ((IntKind.u64.wrap (s0_2 * 6364136223846793005)) + 0)) + 1442695040888963407)) / 1099511627776) 255), wrap64 (s0_1 + 1), IntKind.u64.wrap ((IntKind.u64.wrap ((IntKind.u64.wrap (s0_2 * 6364136223846793005)) + 0)) + 1442695040888963407))))
set_option maxHeartbeats 8000000 in
set_option maxRecDepth 100000 in
theorem spec_l00Src_next.calls (g : Nat) (s0_0 : List Int) (s0_1 : Int) (s0_2 : Int) (r1 : Int) (r2 : Int) (r3 : Int) (w0 w : World) (hI : IsS90 w0 w g s0_0 s0_1 s0_2) (hB : Below w0.heap.size w0 w) (h : spec_l00Src_next.f s0_0 s0_1 s0_2 = some (r1, r2, r3)) :
  Calls Tryz.prog 68 #[.pointer (some ⟨g, 0, none⟩)] w fun e w' => e = .returned (.int .i64 r1) ∧ IsS90 w0 w' g s0_0 r2 r3 ∧ Below w0.heap.size w0 w' ∧ KeepBut w w' g none := by
 have HI0 := Aside0.mk hI
 have HK := Aside0.mk (KeepBut.refl w g none)
 have HL := Aside0.mk hB.size
 clear hI
 have HW0 := Aside0.mk hB.size
 have HB := Aside0.mk hB
 clear hB
 have H : (if s0_1 < (s0_0.length : Int) then (if 0 ≤ s0_1 then (if (wrap64 (s0_1 + 1)) ≤ (s0_0.length : Int) then (some (wrap64 (rd s0_0 s0_1), wrap64 (s0_1 + 1), IntKind.u64.wrap ((IntKind.u64.wrap ((IntKind.u64.wrap (s0_2 * 6364136223846793005)) + (IntKind.u64.wrap (wrap64 (rd s0_0 s0_1))))) + 1442695040888963407))) else (some (wrap64 (Go.bits .and .u64 ((IntKind.u64.wrap ((IntKind.u64.wrap ((IntKind.u64.wrap (s0_2 * 6364136223846793005)) + (IntKind.u64.wrap (wrap64 (rd s0_0 s0_1))))) + 1442695040888963407)) / 1099511627776) 255), wrap64 (s0_1 + 1), IntKind.u64.wrap ((IntKind.u64.wrap ((IntKind.u64.wrap (s0_2 * 6364136223846793005)) + (IntKind.u64.wrap (wrap64 (rd s0_0 s0_1))))) + 1442695040888963407)))) else (none)) else (if (wrap64 (s0_1 + 1)) ≤ (s0_0.length : Int) then (some (0, wrap64 (s0_1 + 1), IntKind.u64.wrap ((IntKind.u64.wrap ((IntKind.u64.wrap (s0_2 * 6364136223846793005)) + 0)) + 1442695040888963407))) else (some (wrap64 (Go.bits .and .u64 ((IntKind.u64.wrap ((IntKind.u64.wrap ((IntKind.u64.wrap (s0_2 * 6364136223846793005)) + 0)) + 1442695040888963407)) / 1099511627776) 255), wrap64 (s0_1 + 1), IntKind.u64.wrap ((IntKind.u64.wrap ((IntKind.u64.wrap (s0_2 * 6364136223846793005)) + 0)) + 1442695040888963407))))) = some (r1, r2, r3) := h
 clear h
 by_cases c2 : s0_1 < (s0_0.length : Int)
 ·rw [if_pos c2] at H
  have c2b0 : decide (s0_1 < (s0_0.length : Int)) = true := decide_eq_true c2
  clear c2
  by_cases c3 : 0 ≤ s0_1
  ·rw [if_pos c3] at H
   have c3b0 : decide (0 ≤ s0_1) = true := decide_eq_true c3
   clear c3
   by_cases c4 : (wrap64 (s0_1 + 1)) ≤ (s0_0.length : Int)
   ·rw [if_pos c4] at H
    have c4b0 : decide ((wrap64 (s0_1 + 1)) ≤ (s0_0.length : Int)) = true := decide_eq_true c4
    clear c4
    simp only [Option.some.injEq, Prod.mk.injEq] at H
    obtain ⟨rfl, rfl, rfl⟩ := H
    obtain ⟨ASz5_0, cSz5_0, HGz5, hgz5, HSz5_0⟩ := HI0.out
    have hcz5_0 := cellS90_0 HGz5
    have hcz5_1 := cellS90_1 HGz5
    have hcz5_2 := cellS90_2 HGz5
    have hfz5_1 := blk_frozen HGz5 1
    have hfz5_2 := blk_frozen HGz5 2
    clear HGz5 hgz5
    have p159 : 0 ≤ (s0_1 : Int) := of_decide_eq_true (by first | (with_reducible assumption) | assumption)
    have q159 : s0_1 < (s0_0.length : Int) := of_decide_eq_true (by first | (with_reducible assumption) | assumption)
    obtain ⟨ad159, e159, hx159_0⟩ := Kd.at_int HSz5_0 s0_1 p159 q159
    cases e159
    replace hx159_0 := pw_cell_below HB.out hx159_0
    replace p159 := eq_true p159
    replace q159 := eq_true q159
    go_enter Tryz.func68, Tryz.ntmps68
    go_wp2
    repeat (go_quiet (fail); try go_wp2)
    go_ret
    exact ⟨by first | rfl | (simp [errW_none, errW_some] <;> rfl) | (simp [*, errW_none, errW_some] <;> rfl), by (try simp only [Int.add_zero]); repeat (first | (with_reducible first | exact HI0.out | apply IsS90.alloc | apply IsS90.drewN | apply IsS90.drew | apply IsS90.set_1 | apply IsS90.set_2) | exact HI0.out), by repeat (first | (with_reducible first | exact HB.out | apply below_alloc | apply pw_below_drewN | apply below_drew1 | refine below_set ?_ (IsS90.ge HI0.out)) | exact HB.out), by repeat (first | (with_reducible first | exact HK.out | apply KeepBut.set_ | apply keep_drewN | apply keep_drew | apply keep_alloc) | exact HK.out)⟩
   ·rw [if_neg c4] at H
    have c4b0 : decide ((wrap64 (s0_1 + 1)) ≤ (s0_0.length : Int)) = false := decide_eq_false c4
    clear c4
    simp only [Option.some.injEq, Prod.mk.injEq] at H
    obtain ⟨rfl, rfl, rfl⟩ := H
    obtain ⟨ASz6_0, cSz6_0, HGz6, hgz6, HSz6_0⟩ := HI0.out
    have hcz6_0 := cellS90_0 HGz6
    have hcz6_1 := cellS90_1 HGz6
    have hcz6_2 := cellS90_2 HGz6
    have hfz6_1 := blk_frozen HGz6 1
    have hfz6_2 := blk_frozen HGz6 2
    clear HGz6 hgz6
    have p159 : 0 ≤ (s0_1 : Int) := of_decide_eq_true (by first | (with_reducible assumption) | assumption)
    have q159 : s0_1 < (s0_0.length : Int) := of_decide_eq_true (by first | (with_reducible assumption) | assumption)
    obtain ⟨ad159, e159, hx159_0⟩ := Kd.at_int HSz6_0 s0_1 p159 q159
    cases e159
    replace hx159_0 := pw_cell_below HB.out hx159_0
    replace p159 := eq_true p159
    replace q159 := eq_true q159
    go_enter Tryz.func68, Tryz.ntmps68
    go_wp2
    repeat (go_quiet (fail); try go_wp2)
    go_ret
    exact ⟨by first | rfl | (simp [errW_none, errW_some] <;> rfl) | (simp [*, errW_none, errW_some] <;> rfl), by (try simp only [Int.add_zero]); repeat (first | (with_reducible first | exact HI0.out | apply IsS90.alloc | apply IsS90.drewN | apply IsS90.drew | apply IsS90.set_1 | apply IsS90.set_2) | exact HI0.out), by repeat (first | (with_reducible first | exact HB.out | apply below_alloc | apply pw_below_drewN | apply below_drew1 | refine below_set ?_ (IsS90.ge HI0.out)) | exact HB.out), by repeat (first | (with_reducible first | exact HK.out | apply KeepBut.set_ | apply keep_drewN | apply keep_drew | apply keep_alloc) | exact HK.out)⟩
  ·rw [if_neg c3] at H
   exact absurd H (by simp)
 ·rw [if_neg c2] at H
  have c2b0 : decide (s0_1 < (s0_0.length : Int)) = false := decide_eq_false c2
  clear c2
  by_cases c7 : (wrap64 (s0_1 + 1)) ≤ (s0_0.length : Int)
  ·rw [if_pos c7] at H
   have c7b0 : decide ((wrap64 (s0_1 + 1)) ≤ (s0_0.length : Int)) = true := decide_eq_true c7
   clear c7
   simp only [Option.some.injEq, Prod.mk.injEq] at H
   obtain ⟨rfl, rfl, rfl⟩ := H
   obtain ⟨ASz8_0, cSz8_0, HGz8, hgz8, HSz8_0⟩ := HI0.out
   have hcz8_0 := cellS90_0 HGz8
   have hcz8_1 := cellS90_1 HGz8
   have hcz8_2 := cellS90_2 HGz8
   have hfz8_1 := blk_frozen HGz8 1
   have hfz8_2 := blk_frozen HGz8 2
   clear HGz8 hgz8
   go_enter Tryz.func68, Tryz.ntmps68
   go_wp2
   repeat (go_quiet (fail); try go_wp2)
   go_ret
   exact ⟨by first | rfl | (simp [errW_none, errW_some] <;> rfl) | (simp [*, errW_none, errW_some] <;> rfl), by (try simp only [Int.add_zero]); repeat (first | (with_reducible first | exact HI0.out | apply IsS90.alloc | apply IsS90.drewN | apply IsS90.drew | apply IsS90.set_1 | apply IsS90.set_2) | exact HI0.out), by repeat (first | (with_reducible first | exact HB.out | apply below_alloc | apply pw_below_drewN | apply below_drew1 | refine below_set ?_ (IsS90.ge HI0.out)) | exact HB.out), by repeat (first | (with_reducible first | exact HK.out | apply KeepBut.set_ | apply keep_drewN | apply keep_drew | apply keep_alloc) | exact HK.out)⟩
  ·rw [if_neg c7] at H
   have c7b0 : decide ((wrap64 (s0_1 + 1)) ≤ (s0_0.length : Int)) = false := decide_eq_false c7
   clear c7
   simp only [Option.some.injEq, Prod.mk.injEq] at H
   obtain ⟨rfl, rfl, rfl⟩ := H
   obtain ⟨ASz9_0, cSz9_0, HGz9, hgz9, HSz9_0⟩ := HI0.out
   have hcz9_0 := cellS90_0 HGz9
   have hcz9_1 := cellS90_1 HGz9
   have hcz9_2 := cellS90_2 HGz9
   have hfz9_1 := blk_frozen HGz9 1
   have hfz9_2 := blk_frozen HGz9 2
   clear HGz9 hgz9
   go_enter Tryz.func68, Tryz.ntmps68
   go_wp2
   repeat (go_quiet (fail); try go_wp2)
   go_ret
   exact ⟨by first | rfl | (simp [errW_none, errW_some] <;> rfl) | (simp [*, errW_none, errW_some] <;> rfl), by (try simp only [Int.add_zero]); repeat (first | (with_reducible first | exact HI0.out | apply IsS90.alloc | apply IsS90.drewN | apply IsS90.drew | apply IsS90.set_1 | apply IsS90.set_2) | exact HI0.out), by repeat (first | (with_reducible first | exact HB.out | apply below_alloc | apply pw_below_drewN | apply below_drew1 | refine below_set ?_ (IsS90.ge HI0.out)) | exact HB.out), by repeat (first | (with_reducible first | exact HK.out | apply KeepBut.set_ | apply keep_drewN | apply keep_drew | apply keep_alloc) | exact HK.out)⟩
def spec_l00Src_pick.f (s0_0 : List Int) (s0_1 : Int) (s0_2 : Int) (a1 : Int) : Option (Int × Int × Int) := if a1 ≤ 1 then (some (0, s0_1, s0_2)) else ((spec_l00Src_next.f s0_0 s0_1 s0_2).bind fun bt160 => (if a1 > 200 then ((spec_l00Src_next.f s0_0 bt160.2.1 bt160.2.2).bind fun bt163 => (if a1 = 0 then (none) else (some (Int.tmod (wrap64 ((wrap64 (bt160.1 * 256)) + bt163.1)) a1, bt163.2.1, bt163.2.2)))) else (if a1 = 0 then (none) else (some (Int.tmod bt160.1 a1, bt160.2.1, bt160.2.2)))))
set_option maxHeartbeats 8000000 in
set_option maxRecDepth 100000 in
theorem spec_l00Src_pick.calls (g : Nat) (s0_0 : List Int) (s0_1 : Int) (s0_2 : Int) (a1 : Int) (r1 : Int) (r2 : Int) (r3 : Int) (w0 w : World) (hI : IsS90 w0 w g s0_0 s0_1 s0_2) (hB : Below w0.heap.size w0 w) (h : spec_l00Src_pick.f s0_0 s0_1 s0_2 a1 = some (r1, r2, r3)) :
  Calls Tryz.prog 50 #[.pointer (some ⟨g, 0, none⟩), .int .i64 a1] w fun e w' => e = .returned (.int .i64 r1) ∧ IsS90 w0 w' g s0_0 r2 r3 ∧ Below w0.heap.size w0 w' ∧ KeepBut w w' g none := by
 have HI0 := Aside0.mk hI
 have HK := Aside0.mk (KeepBut.refl w g none)
 have HL := Aside0.mk hB.size
 clear hI
 have HW0 := Aside0.mk hB.size
 have HB := Aside0.mk hB
 clear hB
 have H : (if a1 ≤ 1 then (some (0, s0_1, s0_2)) else ((spec_l00Src_next.f s0_0 s0_1 s0_2).bind fun bt160 => (if a1 > 200 then ((spec_l00Src_next.f s0_0 bt160.2.1 bt160.2.2).bind fun bt163 => (if a1 = 0 then (none) else (some (Int.tmod (wrap64 ((wrap64 (bt160.1 * 256)) + bt163.1)) a1, bt163.2.1, bt163.2.2)))) else (if a1 = 0 then (none) else (some (Int.tmod bt160.1 a1, bt160.2.1, bt160.2.2)))))) = some (r1, r2, r3) := h
 clear h
 by_cases c3 : a1 ≤ 1
 ·rw [if_pos c3] at H
  have c3b0 : decide (a1 ≤ 1) = true := decide_eq_true c3
  clear c3
  simp only [Option.some.injEq, Prod.mk.injEq] at H
  obtain ⟨rfl, rfl, rfl⟩ := H
  go_enter Tryz.func50, Tryz.ntmps50
  go_wp2
  go_ret
  exact ⟨by first | rfl | (simp [errW_none, errW_some] <;> rfl) | (simp [*, errW_none, errW_some] <;> rfl), by repeat (first | (with_reducible first | exact HI0.out | apply IsS90.alloc | apply IsS90.drewN | apply IsS90.drew | apply IsS90.set_1 | apply IsS90.set_2) | exact HI0.out), by repeat (first | (with_reducible first | exact HB.out | apply below_alloc | apply pw_below_drewN | apply below_drew1 | refine below_set ?_ (IsS90.ge HI0.out)) | exact HB.out), by repeat (first | (with_reducible first | exact HK.out | apply KeepBut.set_ | apply keep_drewN | apply keep_drew | apply keep_alloc) | exact HK.out)⟩
 ·rw [if_neg c3] at H
  have c3b0 : decide (a1 ≤ 1) = false := decide_eq_false c3
  clear c3
  replace H := Option.bind_eq_some_iff.mp H
  obtain ⟨⟨t160, t161, t162⟩, A40, H⟩ := H
  replace H : (if a1 > 200 then ((spec_l00Src_next.f s0_0 t161 t162).bind fun bt163 => (if a1 = 0 then (none) else (some (Int.tmod (wrap64 ((wrap64 (t160 * 256)) + bt163.1)) a1, bt163.2.1, bt163.2.2)))) else (if a1 = 0 then (none) else (some (Int.tmod t160 a1, t161, t162)))) = some (r1, r2, r3) := H
  have A4 := Aside0.mk A40
  clear A40
  by_cases c5 : a1 > 200
  ·rw [if_pos c5] at H
   have c5b0 : decide (200 < a1) = true := decide_eq_true c5
   clear c5
   replace H := Option.bind_eq_some_iff.mp H
   obtain ⟨⟨t163, t164, t165⟩, A60, H⟩ := H
   replace H : (if a1 = 0 then (none) else (some (Int.tmod (wrap64 ((wrap64 (t160 * 256)) + t163)) a1, t164, t165))) = some (r1, r2, r3) := H
   have A6 := Aside0.mk A60
   clear A60
   by_cases c7 : a1 = 0
   ·rw [if_pos c7] at H
    exact absurd H (by simp)
   ·rw [if_neg c7] at H
    have c7b0 : (a1 == 0) = false := beq_eq_false_iff_ne.mpr c7
    have c7b1 : (a1 != 0) = true := bne_iff_ne.mpr c7
    simp only [Option.some.injEq, Prod.mk.injEq] at H
    obtain ⟨rfl, rfl, rfl⟩ := H
    go_enter Tryz.func50, Tryz.ntmps50
    go_wp2_with (first | ((with_reducible refine gate_callee (f := 68) rfl ?_); refine goesL_ (some 9) rfl rfl Tryz.func68 (by kernel_rfl) rfl #[.pointer (some ⟨g, 0, none⟩)] rfl (by (try simp only [List.map_toArray, List.map_cons, List.map_nil]); first | done | rfl | (simp only [List.length_drop, List.length_take]; rfl)) ?_; (with_reducible refine (spec_l00Src_next.calls g s0_0 s0_1 s0_2 t160 t161 t162 w0 _ ?side1 ?side2 A4.out).mono ?_); (case side1 => repeat (first | (with_reducible first | exact HI0.out | apply IsS90.alloc | apply IsS90.drewN | apply IsS90.drew | apply IsS90.set_1 | apply IsS90.set_2) | exact HI0.out)); (case side2 => repeat (first | (with_reducible first | exact HB.out | apply below_alloc | apply pw_below_drewN | apply below_drew1 | refine below_set ?_ (IsS90.ge HI0.out)) | exact HB.out)); rintro e w8 ⟨rfl, hi, hb, hk⟩; refine ⟨_, rfl, ?_⟩; have n0_ := Aside0.mk (KeepBut.trans (by repeat (first | (with_reducible first | exact HK.out | apply KeepBut.set_ | apply keep_drewN | apply keep_drew | apply keep_alloc) | exact HK.out)) hk (.inl rfl)); have n1_ := Aside0.mk (hb); have n2_ := Aside0.mk (hi); clear HK; clear HB; clear HI0; have HK := n0_; have HB := n1_; have HI0 := n2_; clear n0_ n1_ n2_; (try clear hb); (try clear hb2); (try clear hk); (try clear hi)) | ((with_reducible refine gate_callee (f := 68) rfl ?_); refine goesL_ (some 15) rfl rfl Tryz.func68 (by kernel_rfl) rfl #[.pointer (some ⟨g, 0, none⟩)] rfl (by (try simp only [List.map_toArray, List.map_cons, List.map_nil]); first | done | rfl | (simp only [List.length_drop, List.length_take]; rfl)) ?_; (with_reducible refine (spec_l00Src_next.calls g s0_0 t161 t162 t163 t164 t165 w0 _ ?side1 ?side2 A6.out).mono ?_); (case side1 => repeat (first | (with_reducible first | exact HI0.out | apply IsS90.alloc | apply IsS90.drewN | apply IsS90.drew | apply IsS90.set_1 | apply IsS90.set_2) | exact HI0.out)); (case side2 => repeat (first | (with_reducible first | exact HB.out | apply below_alloc | apply pw_below_drewN | apply below_drew1 | refine below_set ?_ (IsS90.ge HI0.out)) | exact HB.out)); rintro e w9 ⟨rfl, hi, hb, hk⟩; refine ⟨_, rfl, ?_⟩; have n0_ := Aside0.mk (KeepBut.trans (by repeat (first | (with_reducible first | exact HK.out | apply KeepBut.set_ | apply keep_drewN | apply keep_drew | apply keep_alloc) | exact HK.out)) hk (.inl rfl)); have n1_ := Aside0.mk (hb); have n2_ := Aside0.mk (hi); clear HK; clear HB; clear HI0; have HK := n0_; have HB := n1_; have HI0 := n2_; clear n0_ n1_ n2_; (try clear hb); (try clear hb2); (try clear hk); (try clear hi)))
    go_ret
    exact ⟨by first | rfl | (simp [errW_none, errW_some] <;> rfl) | (simp [*, errW_none, errW_some] <;> rfl), by repeat (first | (with_reducible first | exact HI0.out | apply IsS90.alloc | apply IsS90.drewN | apply IsS90.drew | apply IsS90.set_1 | apply IsS90.set_2) | exact HI0.out), by repeat (first | (with_reducible first | exact HB.out | apply below_alloc | apply pw_below_drewN | apply below_drew1 | refine below_set ?_ (IsS90.ge HI0.out)) | exact HB.out), by repeat (first | (with_reducible first | exact HK.out | apply KeepBut.set_ | apply keep_drewN | apply keep_drew | apply keep_alloc) | exact HK.out)⟩
  ·rw [if_neg c5] at H
   have c5b0 : decide (200 < a1) = false := decide_eq_false c5
   clear c5
   by_cases c10 : a1 = 0
   ·rw [if_pos c10] at H
    exact absurd H (by simp)
   ·rw [if_neg c10] at H
    have c10b0 : (a1 == 0) = false := beq_eq_false_iff_ne.mpr c10
    have c10b1 : (a1 != 0) = true := bne_iff_ne.mpr c10
    simp only [Option.some.injEq, Prod.mk.injEq] at H
    obtain ⟨rfl, rfl, rfl⟩ := H
    go_enter Tryz.func50, Tryz.ntmps50
    go_wp2_with (first | ((with_reducible refine gate_callee (f := 68) rfl ?_); refine goesL_ (some 9) rfl rfl Tryz.func68 (by kernel_rfl) rfl #[.pointer (some ⟨g, 0, none⟩)] rfl (by (try simp only [List.map_toArray, List.map_cons, List.map_nil]); first | done | rfl | (simp only [List.length_drop, List.length_take]; rfl)) ?_; (with_reducible refine (spec_l00Src_next.calls g s0_0 s0_1 s0_2 t160 t161 t162 w0 _ ?side1 ?side2 A4.out).mono ?_); (case side1 => repeat (first | (with_reducible first | exact HI0.out | apply IsS90.alloc | apply IsS90.drewN | apply IsS90.drew | apply IsS90.set_1 | apply IsS90.set_2) | exact HI0.out)); (case side2 => repeat (first | (with_reducible first | exact HB.out | apply below_alloc | apply pw_below_drewN | apply below_drew1 | refine below_set ?_ (IsS90.ge HI0.out)) | exact HB.out)); rintro e w11 ⟨rfl, hi, hb, hk⟩; refine ⟨_, rfl, ?_⟩; have n0_ := Aside0.mk (KeepBut.trans (by repeat (first | (with_reducible first | exact HK.out | apply KeepBut.set_ | apply keep_drewN | apply keep_drew | apply keep_alloc) | exact HK.out)) hk (.inl rfl)); have n1_ := Aside0.mk (hb); have n2_ := Aside0.mk (hi); clear HK; clear HB; clear HI0; have HK := n0_; have HB := n1_; have HI0 := n2_; clear n0_ n1_ n2_; (try clear hb); (try clear hb2); (try clear hk); (try clear hi)))
    go_ret
    exact ⟨by first | rfl | (simp [errW_none, errW_some] <;> rfl) | (simp [*, errW_none, errW_some] <;> rfl), by repeat (first | (with_reducible first | exact HI0.out | apply IsS90.alloc | apply IsS90.drewN | apply IsS90.drew | apply IsS90.set_1 | apply IsS90.set_2) | exact HI0.out), by repeat (first | (with_reducible first | exact HB.out | apply below_alloc | apply pw_below_drewN | apply below_drew1 | refine below_set ?_ (IsS90.ge HI0.out)) | exact HB.out), by repeat (first | (with_reducible first | exact HK.out | apply KeepBut.set_ | apply keep_drewN | apply keep_drew | apply keep_alloc) | exact HK.out)⟩
def spec_l00Src_among.f (s0_0 : List Int) (s0_1 : Int) (s0_2 : Int) (l1 : List Int) : Option (Int × Int × Int) := (spec_l00Src_pick.f s0_0 s0_1 s0_2 (l1.length : Int)).bind fun bt166 => (if 0 ≤ bt166.1 then (if bt166.1 < (l1.length : Int) then (some (rd l1 bt166.1, bt166.2.1, bt166.2.2)) else (none)) else (none))
set_option maxHeartbeats 8000000 in
set_option maxRecDepth 100000 in
theorem spec_l00Src_among.calls (g : Nat) (s0_0 : List Int) (s0_1 : Int) (s0_2 : Int) (A1 : Option Addr) (c1 : Nat) (l1 : List Int) (r1 : Int) (r2 : Int) (r3 : Int) (w0 w : World) (hI : IsS90 w0 w g s0_0 s0_1 s0_2) (hB : Below w0.heap.size w0 w) (hr1 : Kd.C (Kd.int .i64) w A1 l1.length l1) (hc1 : l1.length ≤ c1) (hf1 : ∀ ad, A1 = some ad → 0 < l1.length → ad.block ≠ g) (h : spec_l00Src_among.f s0_0 s0_1 s0_2 l1 = some (r1, r2, r3)) :
  Calls Tryz.prog 66 #[.pointer (some ⟨g, 0, none⟩), .slice A1 l1.length c1] w fun e w' => e = .returned (.int .i64 r1) ∧ IsS90 w0 w' g s0_0 r2 r3 ∧ Below w0.heap.size w0 w' ∧ KeepBut w w' g none := by
 have HR1 := Aside0.mk hr1
 have HC1 := Aside0.mk hc1
 clear hr1 hc1
 have HI0 := Aside0.mk hI
 have HK := Aside0.mk (KeepBut.refl w g none)
 have HL := Aside0.mk hB.size
 clear hI
 have HW0 := Aside0.mk hB.size
 have HB := Aside0.mk hB
 clear hB
 have H : ((spec_l00Src_pick.f s0_0 s0_1 s0_2 (l1.length : Int)).bind fun bt166 => (if 0 ≤ bt166.1 then (if bt166.1 < (l1.length : Int) then (some (rd l1 bt166.1, bt166.2.1, bt166.2.2)) else (none)) else (none))) = some (r1, r2, r3) := h
 clear h
 replace H := Option.bind_eq_some_iff.mp H
 obtain ⟨⟨t166, t167, t168⟩, A30, H⟩ := H
 replace H : (if 0 ≤ t166 then (if t166 < (l1.length : Int) then (some (rd l1 t166, t167, t168)) else (none)) else (none)) = some (r1, r2, r3) := H
 have A3 := Aside0.mk A30
 clear A30
 by_cases c4 : 0 ≤ t166
 ·rw [if_pos c4] at H
  have c4b0 : decide (0 ≤ t166) = true := decide_eq_true c4
  clear c4
  by_cases c5 : t166 < (l1.length : Int)
  ·rw [if_pos c5] at H
   have c5b0 : decide (t166 < (l1.length : Int)) = true := decide_eq_true c5
   clear c5
   simp only [Option.some.injEq, Prod.mk.injEq] at H
   obtain ⟨rfl, rfl, rfl⟩ := H
   go_enter Tryz.func66, Tryz.ntmps66
   go_wp2_with (first | ((with_reducible refine gate_callee (f := 50) rfl ?_); refine goesL_ (some 9) rfl rfl Tryz.func50 (by kernel_rfl) rfl #[.pointer (some ⟨g, 0, none⟩), .int .i64 (l1.length : Int)] rfl (by (try simp only [List.map_toArray, List.map_cons, List.map_nil]); first | done | rfl | (simp only [List.length_drop, List.length_take]; rfl)) ?_; (with_reducible refine (spec_l00Src_pick.calls g s0_0 s0_1 s0_2 (l1.length : Int) t166 t167 t168 w0 _ ?side1 ?side2 A3.out).mono ?_); (case side1 => repeat (first | (with_reducible first | exact HI0.out | apply IsS90.alloc | apply IsS90.drewN | apply IsS90.drew | apply IsS90.set_1 | apply IsS90.set_2) | exact HI0.out)); (case side2 => repeat (first | (with_reducible first | exact HB.out | apply below_alloc | apply pw_below_drewN | apply below_drew1 | refine below_set ?_ (IsS90.ge HI0.out)) | exact HB.out)); rintro e w6 ⟨rfl, hi, hb, hk⟩; refine ⟨_, rfl, ?_⟩; have n0_ := Aside0.mk (KeepBut.trans (by repeat (first | (with_reducible first | exact HK.out | apply KeepBut.set_ | apply keep_drewN | apply keep_drew | apply keep_alloc) | exact HK.out)) hk (.inl rfl)); have n1_ := Aside0.mk (hb); have n2_ := Aside0.mk (hi); clear HK; clear HB; clear HI0; have HK := n0_; have HB := n1_; have HI0 := n2_; clear n0_ n1_ n2_; (try clear hb); (try clear hb2); (try clear hk); (try clear hi); have p169 : 0 ≤ (t166 : Int) := of_decide_eq_true (by first | (with_reducible assumption) | assumption); have q169 : t166 < (l1.length : Int) := of_decide_eq_true (by first | (with_reducible assumption) | assumption); obtain ⟨ad169, e169, hx169_0⟩ := Kd.at_int HR1.out t166 p169 q169; cases e169; replace hx169_0 := keep_cell HK.out hx169_0 (by first | (rw [add_block]; exact hf1 _ rfl (by omega)) | exact hf1 _ rfl (by omega) | exact hf1 ad169 rfl (by omega)); replace p169 := eq_true p169; replace q169 := eq_true q169))
   go_ret
   exact ⟨by first | rfl | (simp [errW_none, errW_some] <;> rfl) | (simp [*, errW_none, errW_some] <;> rfl), by repeat (first | (with_reducible first | exact HI0.out | apply IsS90.alloc | apply IsS90.drewN | apply IsS90.drew | apply IsS90.set_1 | apply IsS90.set_2) | exact HI0.out), by repeat (first | (with_reducible first | exact HB.out | apply below_alloc | apply pw_below_drewN | apply below_drew1 | refine below_set ?_ (IsS90.ge HI0.out)) | exact HB.out), by repeat (first | (with_reducible first | exact HK.out | apply KeepBut.set_ | apply keep_drewN | apply keep_drew | apply keep_alloc) | exact HK.out)⟩
  ·rw [if_neg c5] at H
   exact absurd H (by simp)
 ·rw [if_neg c4] at H
  exact absurd H (by simp)
def spec_l00Src_one.f (s0_0 : List Int) (s0_1 : Int) (s0_2 : Int) (a1 : Int) : Option (Bool × Int × Int) := (spec_l00Src_pick.f s0_0 s0_1 s0_2 a1).bind fun bt170 => (some ((bt170.1 == 0), bt170.2.1, bt170.2.2))
set_option maxHeartbeats 8000000 in
set_option maxRecDepth 100000 in
theorem spec_l00Src_one.calls (g : Nat) (s0_0 : List Int) (s0_1 : Int) (s0_2 : Int) (a1 : Int) (r1 : Bool) (r2 : Int) (r3 : Int) (w0 w : World) (hI : IsS90 w0 w g s0_0 s0_1 s0_2) (hB : Below w0.heap.size w0 w) (h : spec_l00Src_one.f s0_0 s0_1 s0_2 a1 = some (r1, r2, r3)) :
  Calls Tryz.prog 67 #[.pointer (some ⟨g, 0, none⟩), .int .i64 a1] w fun e w' => e = .returned (.bool r1) ∧ IsS90 w0 w' g s0_0 r2 r3 ∧ Below w0.heap.size w0 w' ∧ KeepBut w w' g none := by
 have HI0 := Aside0.mk hI
 have HK := Aside0.mk (KeepBut.refl w g none)
 have HL := Aside0.mk hB.size
 clear hI
 have HW0 := Aside0.mk hB.size
 have HB := Aside0.mk hB
 clear hB
 have H : ((spec_l00Src_pick.f s0_0 s0_1 s0_2 a1).bind fun bt170 => (some ((bt170.1 == 0), bt170.2.1, bt170.2.2))) = some (r1, r2, r3) := h
 clear h
 replace H := Option.bind_eq_some_iff.mp H
 obtain ⟨⟨t170, t171, t172⟩, A30, H⟩ := H
 replace H : (some ((t170 == 0), t171, t172)) = some (r1, r2, r3) := H
 have A3 := Aside0.mk A30
 clear A30
 simp only [Option.some.injEq, Prod.mk.injEq] at H
 obtain ⟨rfl, rfl, rfl⟩ := H
 go_enter Tryz.func67, Tryz.ntmps67
 go_wp2_with (first | ((with_reducible refine gate_callee (f := 50) rfl ?_); refine goesL_ (some 7) rfl rfl Tryz.func50 (by kernel_rfl) rfl #[.pointer (some ⟨g, 0, none⟩), .int .i64 a1] rfl (by (try simp only [List.map_toArray, List.map_cons, List.map_nil]); first | done | rfl | (simp only [List.length_drop, List.length_take]; rfl)) ?_; (with_reducible refine (spec_l00Src_pick.calls g s0_0 s0_1 s0_2 a1 t170 t171 t172 w0 _ ?side1 ?side2 A3.out).mono ?_); (case side1 => repeat (first | (with_reducible first | exact HI0.out | apply IsS90.alloc | apply IsS90.drewN | apply IsS90.drew | apply IsS90.set_1 | apply IsS90.set_2) | exact HI0.out)); (case side2 => repeat (first | (with_reducible first | exact HB.out | apply below_alloc | apply pw_below_drewN | apply below_drew1 | refine below_set ?_ (IsS90.ge HI0.out)) | exact HB.out)); rintro e w4 ⟨rfl, hi, hb, hk⟩; refine ⟨_, rfl, ?_⟩; have n0_ := Aside0.mk (KeepBut.trans (by repeat (first | (with_reducible first | exact HK.out | apply KeepBut.set_ | apply keep_drewN | apply keep_drew | apply keep_alloc) | exact HK.out)) hk (.inl rfl)); have n1_ := Aside0.mk (hb); have n2_ := Aside0.mk (hi); clear HK; clear HB; clear HI0; have HK := n0_; have HB := n1_; have HI0 := n2_; clear n0_ n1_ n2_; (try clear hb); (try clear hb2); (try clear hk); (try clear hi)))
 go_ret
 exact ⟨by first | rfl | (simp [errW_none, errW_some] <;> rfl) | (simp [*, errW_none, errW_some] <;> rfl), by repeat (first | (with_reducible first | exact HI0.out | apply IsS90.alloc | apply IsS90.drewN | apply IsS90.drew | apply IsS90.set_1 | apply IsS90.set_2) | exact HI0.out), by repeat (first | (with_reducible first | exact HB.out | apply below_alloc | apply pw_below_drewN | apply below_drew1 | refine below_set ?_ (IsS90.ge HI0.out)) | exact HB.out), by repeat (first | (with_reducible first | exact HK.out | apply KeepBut.set_ | apply keep_drewN | apply keep_drew | apply keep_alloc) | exact HK.out)⟩
end Go.Proofs.YtpbomchjcgndoaaGreatDoor.N
namespace Go.Proofs.YtpbomchjcgndoaaGreatDoor.Arr
open Go.RowKit Go.Proofs.YtpbomchjcgndoaaGreatDoor.N Go.Proofs.YtpbomchjcgndoaaGreatDoor.U Go.Proofs.YtpbomchjcgndoaaGreatDoorW.PrintLast Go.Proofs.YtpbomchjcgndoaaGreatDoorW.PrintWords
set_option linter.unusedVariables false
set_option linter.unusedSimpArgs false
def stepH (st : List Int × Nat) (x : Int) : Option (List Int × Nat) :=
 if x = -10 then (if st.2 = st.1.length then none else some (st.1 ++ [x], st.1.length + 1))
 else if 0 ≤ x ∧ x ≤ 39 then some (st.1 ++ [x], st.2)
 else if -4 ≤ x ∧ x ≤ -1 then (if (st.2 : Int) + -x - 1 < st.1.length then some (st.1 ++ [rd st.1 ((st.2 : Int) + -x - 1)], st.2) else none)
 else none
def runH (h : List Int) : Nat → Option (List Int × Nat)
 | 0 => some ([], 0)
 | i + 1 => (runH h i).bind fun st => stepH st (rd h (i : Int))
def readH (h : List Int) : Option (List Int) :=
 if 1 ≤ h.length ∧ h.length ≤ 8 then (match runH h h.length with | some (o, s) => if s < o.length then some o else none | none => none) else none
def okH (h : List Int) : Bool := (readH h).isSome
theorem runH_none {h : List Int} {i : Nat} (hi : runH h i = none) : ∀ n, i ≤ n → runH h n = none
 | 0, hn => by obtain rfl : i = 0 := by omega
               exact hi
 | n + 1, hn => by
  rcases Nat.lt_or_ge i (n + 1) with h1 | h1
  ·rw [runH, runH_none hi n (by omega)]; rfl
  ·obtain rfl : i = n + 1 := by omega
   exact hi
structure GoodH (h : List Int) (i : Nat) (o : List Int) (s : Nat) : Prop where
 len : o.length = i
 le : s ≤ i
 kind : ∀ j : Nat, s ≤ j → j < i → 0 ≤ rd o (j : Int) ∧ rd o (j : Int) ≤ 39
 old : ∀ j : Nat, j < i → rd h (j : Int) = -10 ∨ (0 ≤ rd h (j : Int) ∧ rd h (j : Int) ≤ 39) ∨ (-4 ≤ rd h (j : Int) ∧ rd h (j : Int) ≤ -1)
theorem rd_app_left (l m : List Int) (j : Nat) (hj : j < l.length) : rd (l ++ m) (j : Int) = rd l (j : Int) := by
 rw [rd_get l j hj, rd_get _ j (by simp; omega), List.getElem_append_left hj]
theorem rd_app_end (l : List Int) (x : Int) : rd (l ++ [x]) (l.length : Int) = x := by
 rw [rd_get _ l.length (by simp)]
 simp
theorem runH_good {h : List Int} : ∀ (i : Nat) (o : List Int) (s : Nat), runH h i = some (o, s) → GoodH h i o s
 | 0, o, s, e => by
  simp only [runH, Option.some.injEq, Prod.mk.injEq] at e
  obtain ⟨rfl, rfl⟩ := e
  exact ⟨rfl, Nat.le_refl _, fun j _ hj => absurd hj (by omega), fun j hj => absurd hj (by omega)⟩
 | i + 1, o, s, e => by
  rw [runH] at e
  cases hr : runH h i with
  | none => rw [hr] at e; cases e
  | some st =>
   obtain ⟨o1, s1⟩ := st
   rw [hr, Option.bind_some] at e
   have g := runH_good i o1 s1 hr
   unfold stepH at e
   dsimp only at e
   have app : ∀ y : Int, GoodH h i o1 s1 → 0 ≤ y ∧ y ≤ 39 → (rd h (i : Int) = -10 ∨ (0 ≤ rd h (i : Int) ∧ rd h (i : Int) ≤ 39) ∨ (-4 ≤ rd h (i : Int) ∧ rd h (i : Int) ≤ -1)) → GoodH h (i + 1) (o1 ++ [y]) s1 := fun y g hy ho =>
    ⟨by simp [g.len], by have := g.le; omega, fun j h1 h2 => by
     rcases Nat.lt_or_ge j i with hj | hj
     ·rw [rd_app_left _ _ j (by rw [g.len]; exact hj)]; exact g.kind j h1 hj
     ·obtain rfl : j = o1.length := by rw [g.len]; omega
      rw [rd_app_end]; exact hy, fun j hj => by
     rcases Nat.lt_or_ge j i with h3 | h3
     ·exact g.old j h3
     ·obtain rfl : j = i := by omega
      exact ho⟩
   split at e
   ·rename_i hx
    split at e
    ·cases e
    ·simp only [Option.some.injEq, Prod.mk.injEq] at e
     obtain ⟨rfl, rfl⟩ := e
     exact ⟨by simp [g.len], by rw [g.len]; exact Nat.le_refl _, fun j h1 h2 => by rw [g.len] at h1; omega, fun j hj => by
      rcases Nat.lt_or_ge j i with h3 | h3
      ·exact g.old j h3
      ·obtain rfl : j = i := by omega
       exact Or.inl hx⟩
   ·split at e
    ·rename_i hx
     simp only [Option.some.injEq, Prod.mk.injEq] at e
     obtain ⟨rfl, rfl⟩ := e
     exact app _ g hx (Or.inr (Or.inl hx))
    ·split at e
     ·rename_i hx
      split at e
      ·rename_i hat
       simp only [Option.some.injEq, Prod.mk.injEq] at e
       obtain ⟨rfl, rfl⟩ := e
       have hk := g.kind ((s1 : Int) + -rd h (i : Int) - 1).toNat (by omega) (by have := g.len; omega)
       rw [Int.toNat_of_nonneg (by omega)] at hk
       exact app _ g hk (Or.inr (Or.inr hx))
      ·cases e
     ·cases e
theorem okH_len {h : List Int} (hk : okH h = true) : 1 ≤ h.length ∧ h.length ≤ 8 := by
 unfold okH readH at hk
 split at hk
 ·assumption
 ·cases hk
theorem okH_num {h : List Int} (hk : okH h = true) : ∀ x ∈ h, x = -10 ∨ (0 ≤ x ∧ x ≤ 39) ∨ (-4 ≤ x ∧ x ≤ -1) := by
 intro x hx
 obtain ⟨j, hj, rfl⟩ := List.getElem_of_mem hx
 unfold okH readH at hk
 split at hk
 ·cases hr : runH h h.length with
  | none => rw [hr] at hk; cases hk
  | some st =>
   obtain ⟨o, s⟩ := st
   have := (runH_good _ _ _ hr).old j hj
   rwa [rd_get h j hj] at this
 ·cases hk
theorem in_ev' (a b c : Int) : spec_l00In.f a b c = some (decide (b ≤ a ∧ a ≤ c)) := by
 unfold spec_l00In.f
 by_cases h : b ≤ a
 ·rw [if_pos h]; simp [h]
 ·rw [if_neg h, decide_eq_false (fun e => h e.1)]
theorem within_ev' (a b c : Int) : impl_within.f a b c = some (decide (b ≤ a ∧ a ≤ c)) := by
 unfold impl_within.f
 by_cases h : b ≤ a
 ·rw [if_pos h]; simp [h]
 ·rw [if_neg h, decide_eq_false (fun e => h e.1)]
theorem isKind_ev' (a : Int) (h0 : -128 ≤ a) (h1 : a ≤ 127) : impl_isKind.f a = some (decide (0 ≤ a ∧ a ≤ 39)) := by
 unfold impl_isKind.f
 rw [within_ev', w64 (by omega) (by omega)]; rfl
theorem i8w {x : Int} (h0 : -128 ≤ x) (h1 : x ≤ 127) : IntKind.i8.wrap x = x := by
 unfold IntKind.wrap
 simp only [IntKind.signed, IntKind.bits]
 simp
 omega
theorem readH_none {h : List Int} {i : Nat} (hi : i ≤ h.length) (hr : runH h i = none) : readH h = none := by
 unfold readH
 rw [runH_none hr h.length hi]
 split <;> rfl
theorem l02Read_ev (h : List Int) (hn : h.length ≤ 100000000) (hb : ∀ x ∈ h, -128 ≤ x ∧ x ≤ 127) : Ev (fun k => spec_l02Read.f k h) (match readH h with | some o => (o, true) | none => ([], false)) := by
 unfold spec_l02Read.f
 refine bindc (in_ev' _ _ _) ?_
 by_cases hl : 1 ≤ h.length ∧ h.length ≤ 8
 ·refine pos (by simpa using (show 1 ≤ (h.length : Int) ∧ (h.length : Int) ≤ 8 by omega)) ?_
  refine iter (F := fun k (s : List Int × Int × Int) => spec_l02Read.l0 k h (h.length : Int) s.1 s.2.1 s.2.2) (fun i s => ∃ st : Nat, s = (s.1, (st : Int), (i : Int)) ∧ runH h i = some (s.1, st) ∧ (i = h.length → st < i)) _ h.length ?_ ?_ 0 ([], 0, 0) (by omega) ⟨0, rfl, rfl, fun e => by omega⟩
  ·rintro i ⟨o, a, b⟩ hi ⟨st, e, hr, hlast⟩
   injection e with _ e
   injection e with e1 e2
   subst e1 e2
   dsimp only at hr
   have g := runH_good _ _ _ hr
   have hgl := g.len
   have hgs := g.le
   have hx := hb _ (by rw [rd_get h i hi]; exact List.getElem_mem hi : rd h (i : Int) ∈ h)
   have hnext : runH h (i + 1) = stepH (o, st) (rd h (i : Int)) := by rw [runH, hr]; rfl
   dsimp only at hnext ⊢
   generalize hX : rd h (i : Int) = x at *
   have fail : stepH (o, st) x = none → readH h = none := fun e => readH_none (i := i + 1) (by omega) (hnext.trans e)
   by_cases h10 : x = -10
   ·by_cases hst : (i : Int) = (st : Int)
    ·refine .inr (Ev.step (f := fun _ => some ([], false)) (fun k => ?_) (cons ?_))
     ·simp only [spec_l02Read.l0, hX]
      rw [if_pos (by omega), if_pos (by omega), if_pos (by omega), if_pos h10, if_pos hst]
     ·rw [fail (by unfold stepH; rw [if_pos h10, if_pos (by dsimp only; omega)])]
    ·by_cases hla : i + 1 = h.length
     ·refine .inr (Ev.step (f := fun _ => some ([], false)) (fun k => ?_) (cons ?_))
      ·simp only [spec_l02Read.l0, hX]
       rw [if_pos (by omega), if_pos (by omega), if_pos (by omega), if_pos h10, if_neg hst, w64 (by omega) (by omega), if_pos (by omega)]
      ·have : readH h = none := by
        unfold readH
        rw [if_pos hl, ← hla, hnext]
        unfold stepH
        rw [if_pos h10, if_neg (by dsimp only; omega)]
        simp
       rw [this]
     ·refine .inl ⟨(o ++ [x], ((o.length + 1 : Nat) : Int), ((i + 1 : Nat) : Int)), ⟨o.length + 1, rfl, by rw [hnext]; unfold stepH; rw [if_pos h10, if_neg (by dsimp only; omega)], fun e => by omega⟩, Ev.step fun k => ?_⟩
      simp only [spec_l02Read.l0, hX]
      rw [if_pos (by omega), if_pos (by omega), if_pos (by omega), if_pos h10, if_neg hst, w64 (by omega) (by omega), if_neg (by omega), if_pos (by omega), w64 (by omega) (by omega)]
      rw [show ((o.length + 1 : Nat) : Int) = (i : Int) + 1 by omega, show ((i + 1 : Nat) : Int) = (i : Int) + 1 by omega]
   ·by_cases hk : 0 ≤ x ∧ x ≤ 39
    ·refine .inl ⟨(o ++ [x], (st : Int), ((i + 1 : Nat) : Int)), ⟨st, rfl, by rw [hnext]; unfold stepH; rw [if_neg h10, if_pos hk], fun e => by omega⟩, fun hgo => ?_⟩
     refine Ev.step (f := fun k => spec_l02Read.j1 k h (h.length : Int) o (st : Int) (i : Int) x true) (fun k => ?_) ?_
     ·simp only [spec_l02Read.l0, hX]
      rw [if_pos (by omega), if_pos (by omega), if_pos (by omega), if_neg h10, if_pos (by omega), decide_eq_true (by omega)]
     ·refine Ev.step (fun k => ?_) hgo
      simp only [spec_l02Read.j1]
      rw [if_pos trivial, if_pos (by omega), w64 (by omega) (by omega), show ((i + 1 : Nat) : Int) = (i : Int) + 1 by omega]
    ·by_cases hs : -4 ≤ x ∧ x ≤ -1
     ·have hw : wrap64 (wrap64 ((st : Int) + wrap64 (IntKind.i8.wrap (-x))) - 1) = (st : Int) + -x - 1 := by
       rw [i8w (by omega) (by omega), w64 (x := -x) (by omega) (by omega), w64 (x := (st : Int) + -x) (by omega) (by omega), w64 (by omega) (by omega)]
      by_cases hat : (st : Int) + -x - 1 < o.length
      ·refine .inl ⟨(o ++ [rd o ((st : Int) + -x - 1)], (st : Int), ((i + 1 : Nat) : Int)), ⟨st, rfl, by rw [hnext]; unfold stepH; rw [if_neg h10, if_neg hk, if_pos hs, if_pos hat], fun e => by omega⟩, fun hgo => ?_⟩
       refine Ev.step (f := fun k => spec_l02Read.j1 k h (h.length : Int) o (st : Int) (i : Int) x false) (fun k => ?_) ?_
       ·simp only [spec_l02Read.l0, hX]
        rw [if_pos (by omega), if_pos (by omega), if_pos (by omega), if_neg h10, if_neg (by omega)]
       ·refine Ev.step (f := fun k => spec_l02Read.j2 k h (h.length : Int) o (st : Int) (i : Int) x true) (fun k => ?_) ?_
        ·simp only [spec_l02Read.j1]
         rw [if_neg (by simp), if_pos (by omega), decide_eq_true (by omega)]
        ·refine Ev.step (fun k => ?_) hgo
         simp only [spec_l02Read.j2, hw]
         rw [if_pos trivial, if_neg (by omega), if_pos (by omega), if_pos hat, if_pos (by omega), w64 (by omega) (by omega), show ((i + 1 : Nat) : Int) = (i : Int) + 1 by omega]
      ·refine .inr ?_
       rw [fail (by unfold stepH; rw [if_neg h10, if_neg hk, if_pos hs, if_neg hat])]
       refine Ev.step (f := fun k => spec_l02Read.j1 k h (h.length : Int) o (st : Int) (i : Int) x false) (fun k => ?_) ?_
       ·simp only [spec_l02Read.l0, hX]
        rw [if_pos (by omega), if_pos (by omega), if_pos (by omega), if_neg h10, if_neg (by omega)]
       ·refine Ev.step (f := fun k => spec_l02Read.j2 k h (h.length : Int) o (st : Int) (i : Int) x true) (fun k => ?_) ?_
        ·simp only [spec_l02Read.j1]
         rw [if_neg (by simp), if_pos (by omega), decide_eq_true (by omega)]
        ·refine Ev.step (f := fun _ => some ([], false)) (fun k => ?_) (Ev.now _)
         simp only [spec_l02Read.j2, hw]
         rw [if_pos trivial, if_pos (by omega)]
     ·refine .inr ?_
      rw [fail (by unfold stepH; rw [if_neg h10, if_neg hk, if_neg hs])]
      refine Ev.step (f := fun k => spec_l02Read.j1 k h (h.length : Int) o (st : Int) (i : Int) x false) (fun k => ?_) ?_
      ·simp only [spec_l02Read.l0, hX]
       rw [if_pos (by omega), if_pos (by omega), if_pos (by omega), if_neg h10]
       by_cases h0 : 0 ≤ x
       ·rw [if_pos h0, decide_eq_false (by omega)]
       ·rw [if_neg (by omega)]
      ·refine Ev.step (f := fun k => spec_l02Read.j2 k h (h.length : Int) o (st : Int) (i : Int) x false) (fun k => ?_) ?_
       ·simp only [spec_l02Read.j1]
        rw [if_neg (by simp)]
        by_cases h0 : x < 0
        ·rw [if_pos h0, decide_eq_false (by omega)]
        ·rw [if_neg h0]
       ·refine Ev.step (f := fun _ => some ([], false)) (fun k => ?_) (Ev.now _)
        simp only [spec_l02Read.j2]
        rw [if_neg (by simp)]
  ·rintro ⟨o, a, b⟩ ⟨st, e, hr, hlast⟩
   injection e with _ e
   injection e with e1 e2
   subst e1 e2
   dsimp only at hr
   have g := runH_good _ _ _ hr
   have hgl := g.len
   have hst := hlast rfl
   refine Ev.step (f := fun _ => some (o, true)) (fun k => ?_) (cons ?_)
   ·simp only [spec_l02Read.l0]
    rw [if_neg (by omega)]
   ·have : readH h = some o := by
     unfold readH
     rw [if_pos hl, hr]
     dsimp only
     rw [if_pos (by omega)]
    rw [this]
 ·refine neg (by simpa using (show ¬ (1 ≤ (h.length : Int) ∧ (h.length : Int) ≤ 8) by omega)) (cons ?_)
  unfold readH
  rw [if_neg hl]
theorem okH_none {h : List Int} {i : Nat} (hi : i ≤ h.length) (hr : runH h i = none) : okH h = false := by
 unfold okH; rw [readH_none hi hr]; rfl
def implRead (h : List Int) : List Int × Bool := match runH h h.length with | some (o, _) => (o, okH h) | none => ([], false)
theorem implRead_snd (h : List Int) : (implRead h).2 = okH h := by
 unfold implRead
 cases hr : runH h h.length with
 | none => exact (okH_none (Nat.le_refl _) hr).symm
 | some st => rfl
theorem implRead_fst {h : List Int} (hk : okH h = true) : readH h = some (implRead h).1 := by
 unfold okH readH at hk
 unfold implRead readH
 split at hk
 ·rename_i hl
  rw [if_pos hl]
  cases hr : runH h h.length with
  | none => rw [hr] at hk; cases hk
  | some st =>
   obtain ⟨o, s⟩ := st
   rw [hr] at hk
   dsimp only at hk ⊢
   split at hk
   ·rename_i h2; rw [if_pos h2]
   ·cases hk
 ·cases hk
theorem meaning_ev (h : List Int) (hn : h.length ≤ 100000000) (hb : ∀ x ∈ h, -128 ≤ x ∧ x ≤ 127) : Ev (fun k => impl_Hoist_meaning.f k h) (implRead h) := by
 unfold impl_Hoist_meaning.f
 refine iter (F := fun k (s : List Int × Int × Int) => impl_Hoist_meaning.l0 k h s.1 s.2.1 h (h.length : Int) s.2.2) (fun i s => ∃ st : Nat, s = (s.1, (st : Int), (i : Int)) ∧ runH h i = some (s.1, st)) _ h.length ?_ ?_ 0 ([], 0, 0) (by omega) ⟨0, rfl, rfl⟩
 ·rintro i ⟨o, a, b⟩ hi ⟨st, e, hr⟩
  injection e with _ e
  injection e with e1 e2
  subst e1 e2
  dsimp only at hr
  have g := runH_good _ _ _ hr
  have hgl := g.len
  have hgs := g.le
  have hx := hb _ (by rw [rd_get h i hi]; exact List.getElem_mem hi : rd h (i : Int) ∈ h)
  have hnext : runH h (i + 1) = stepH (o, st) (rd h (i : Int)) := by rw [runH, hr]; rfl
  dsimp only at hnext ⊢
  generalize hX : rd h (i : Int) = x at *
  have fail : stepH (o, st) x = none → implRead h = ([], false) := fun e => by
   unfold implRead
   rw [runH_none (hnext.trans e) h.length (by omega)]
  by_cases h10 : x = -10
  ·by_cases hst : (st : Int) = (o.length : Int)
   ·refine .inr (Ev.step (f := fun _ => some ([], false)) (fun k => ?_) (cons ?_))
    ·simp only [impl_Hoist_meaning.l0, hX]
     rw [if_pos (by omega), if_pos (by omega), if_pos (by omega), if_pos h10, if_pos hst]
    ·rw [fail (by unfold stepH; rw [if_pos h10, if_pos (by dsimp only; omega)])]
   ·refine .inl ⟨(o ++ [x], ((o.length + 1 : Nat) : Int), ((i + 1 : Nat) : Int)), ⟨o.length + 1, rfl, by rw [hnext]; unfold stepH; rw [if_pos h10, if_neg (by dsimp only; omega)]⟩, Ev.step fun k => ?_⟩
    simp only [impl_Hoist_meaning.l0, hX]
    rw [if_pos (by omega), if_pos (by omega), if_pos (by omega), if_pos h10, if_neg hst, if_pos (by omega), w64 (by omega) (by omega)]
    simp only [Option.bind_some]
    rw [show ((i + 1 : Nat) : Int) = (i : Int) + 1 by omega, show ((o ++ [x]).length : Int) = ((o.length + 1 : Nat) : Int) by simp]
  ·by_cases hs : -4 ≤ x ∧ x ≤ -1
   ·have hk : ¬ (0 ≤ x ∧ x ≤ 39) := by omega
    have hw : wrap64 (wrap64 ((st : Int) - wrap64 x) - 1) = (st : Int) + -x - 1 := by
     rw [w64 (x := x) (by omega) (by omega), w64 (x := (st : Int) - x) (by omega) (by omega), w64 (by omega) (by omega)]; omega
    have hl0 : ∀ k, impl_Hoist_meaning.l0 (k + 1) h o (st : Int) h (h.length : Int) (i : Int) = impl_Hoist_meaning.j1 k h o (st : Int) x ((st : Int) + -x - 1) h (h.length : Int) (i : Int) (decide ((st : Int) + -x - 1 < o.length)) := fun k => by
     simp only [impl_Hoist_meaning.l0, hX, hw]
     rw [if_pos (by omega), if_pos (by omega), if_pos (by omega), if_neg h10, w64 (x := x) (by omega) (by omega), within_ev', decide_eq_true hs]
     rfl
    by_cases hat : (st : Int) + -x - 1 < o.length
    ·have hkind := g.kind ((st : Int) + -x - 1).toNat (by omega) (by omega)
     rw [Int.toNat_of_nonneg (by omega)] at hkind
     refine .inl ⟨(o ++ [rd o ((st : Int) + -x - 1)], (st : Int), ((i + 1 : Nat) : Int)), ⟨st, rfl, by rw [hnext]; unfold stepH; rw [if_neg h10, if_neg hk, if_pos hs, if_pos hat]⟩, fun hgo => ?_⟩
     refine Ev.step hl0 (Ev.step (fun k => ?_) hgo)
     simp only [impl_Hoist_meaning.j1]
     rw [if_pos (by simpa using hat), if_pos (by omega), if_pos hat, isKind_ev' _ (by omega) (by omega), decide_eq_true hkind]
     simp only [Option.bind_some]
     rw [if_pos trivial, if_pos (by omega), w64 (by omega) (by omega), show ((i + 1 : Nat) : Int) = (i : Int) + 1 by omega]
    ·refine .inr ?_
     rw [fail (by unfold stepH; rw [if_neg h10, if_neg hk, if_pos hs, if_neg hat])]
     refine Ev.step hl0 (Ev.step (f := fun _ => some ([], false)) (fun k => ?_) (Ev.now _))
     simp only [impl_Hoist_meaning.j1]
     rw [if_neg (by simpa using hat), isKind_ev' _ (by omega) (by omega), decide_eq_false hk]
     rfl
   ·have hl0 : ∀ k, impl_Hoist_meaning.l0 (k + 1) h o (st : Int) h (h.length : Int) (i : Int) = impl_Hoist_meaning.j1 k h o (st : Int) x (wrap64 (wrap64 ((st : Int) - wrap64 x) - 1)) h (h.length : Int) (i : Int) false := fun k => by
     simp only [impl_Hoist_meaning.l0, hX]
     rw [if_pos (by omega), if_pos (by omega), if_pos (by omega), if_neg h10, within_ev', decide_eq_false (by rw [w64 (by omega) (by omega)]; exact hs)]
     rfl
    by_cases hk : 0 ≤ x ∧ x ≤ 39
    ·refine .inl ⟨(o ++ [x], (st : Int), ((i + 1 : Nat) : Int)), ⟨st, rfl, by rw [hnext]; unfold stepH; rw [if_neg h10, if_pos hk]⟩, fun hgo => ?_⟩
     refine Ev.step hl0 (Ev.step (fun k => ?_) hgo)
     simp only [impl_Hoist_meaning.j1]
     rw [if_neg (by simp), isKind_ev' _ (by omega) (by omega), decide_eq_true hk]
     simp only [Option.bind_some]
     rw [if_pos trivial, if_pos (by omega), w64 (by omega) (by omega), show ((i + 1 : Nat) : Int) = (i : Int) + 1 by omega]
    ·refine .inr ?_
     rw [fail (by unfold stepH; rw [if_neg h10, if_neg hk, if_neg hs])]
     refine Ev.step hl0 (Ev.step (f := fun _ => some ([], false)) (fun k => ?_) (Ev.now _))
     simp only [impl_Hoist_meaning.j1]
     rw [if_neg (by simp), isKind_ev' _ (by omega) (by omega), decide_eq_false hk]
     rfl
 ·rintro ⟨o, a, b⟩ ⟨st, e, hr⟩
  injection e with _ e
  injection e with e1 e2
  subst e1 e2
  dsimp only at hr
  have g := runH_good _ _ _ hr
  have hgl := g.len
  refine Ev.step (f := fun _ => some (implRead h)) (fun k => ?_) (Ev.now _)
  simp only [impl_Hoist_meaning.l0]
  rw [if_neg (by omega)]
  unfold impl_size_int8.f
  simp only [Option.bind_some, within_ev']
  unfold implRead okH readH
  rw [hr]
  dsimp only
  by_cases hl : 1 ≤ h.length ∧ h.length ≤ 8
  ·rw [if_pos (by simpa using (show 1 ≤ (h.length : Int) ∧ (h.length : Int) ≤ 8 by omega)), if_pos hl]
   by_cases h2 : st < o.length
   ·rw [if_pos h2, decide_eq_true (by omega)]; rfl
   ·rw [if_neg h2, decide_eq_false (by omega)]; rfl
  ·rw [if_neg (by simpa using (show ¬ (1 ≤ (h.length : Int) ∧ (h.length : Int) ≤ 8) by omega)), if_neg hl]; rfl
end Go.Proofs.YtpbomchjcgndoaaGreatDoor.Arr
namespace Go.Proofs.YtpbomchjcgndoaaGreatDoor.Arr
open Go.RowKit Go.Proofs.YtpbomchjcgndoaaGreatDoorW.PrintWords Go.Proofs.YtpbomchjcgndoaaGreatDoor.U
set_option maxRecDepth 100000
theorem agg39 : AggTy Tryz.prog 39 40 := ⟨by kernel_rfl, by kernel_rfl⟩
theorem zero39 : ZeroTy Tryz.prog 39 (vals .i64 (zs 40)) := ⟨.agg (vals .i64 (zs 40)), by kernel_rfl, rfl⟩
theorem built39 : Tryz.prog.built 39 [] = some (vals .i64 (zs 40)) := by kernel_rfl
theorem arr39 : ArrTy Tryz.prog 39 40 := ⟨_, Tryz.underlying39, by kernel_rfl, by kernel_rfl⟩
theorem agg42 : AggTy Tryz.prog 42 4 := ⟨by kernel_rfl, by kernel_rfl⟩
theorem zero42 : ZeroTy Tryz.prog 42 (vals .i64 (zs 4)) := ⟨.agg (vals .i64 (zs 4)), by kernel_rfl, rfl⟩
theorem built42 : Tryz.prog.built 42 [] = some (vals .i64 (zs 4)) := by kernel_rfl
theorem arr42 : ArrTy Tryz.prog 42 4 := ⟨_, Tryz.underlying42, by kernel_rfl, by kernel_rfl⟩
theorem agg75 : AggTy Tryz.prog 75 40 := ⟨by kernel_rfl, by kernel_rfl⟩
theorem arr75 : ArrTy Tryz.prog 75 40 := ⟨_, Tryz.underlying75, by kernel_rfl, by kernel_rfl⟩
theorem agg76 : AggTy Tryz.prog 76 4 := ⟨by kernel_rfl, by kernel_rfl⟩
theorem arr76 : ArrTy Tryz.prog 76 4 := ⟨_, Tryz.underlying76, by kernel_rfl, by kernel_rfl⟩
theorem agg78 : AggTy Tryz.prog 78 44 := ⟨by kernel_rfl, by kernel_rfl⟩
theorem zero78 : ZeroTy Tryz.prog 78 (vals .i64 (zs 44)) := ⟨.agg (vals .i64 (zs 44)), by kernel_rfl, rfl⟩
theorem built78 : Tryz.prog.built 78 [] = some (vals .i64 (zs 44)) := by kernel_rfl
theorem one2 : OneTy Tryz.prog 2 := ⟨by kernel_rfl, by kernel_rfl⟩
theorem one3 : OneTy Tryz.prog 3 := ⟨by kernel_rfl, by kernel_rfl⟩
end Go.Proofs.YtpbomchjcgndoaaGreatDoor.Arr
namespace Go.Proofs.YtpbomchjcgndoaaGreatDoor.Arr
open Go.RowKit Go.Proofs.YtpbomchjcgndoaaGreatDoorW.PrintWords Go.Proofs.YtpbomchjcgndoaaGreatDoorW.PrintLast Go.Proofs.YtpbomchjcgndoaaGreatDoorW.PrintMore Go.Proofs.YtpbomchjcgndoaaGreatDoor.U Go.Proofs.YtpbomchjcgndoaaGreatDoor.N
set_option linter.unusedVariables false
set_option linter.unusedSimpArgs false
def mixTo (L S : List Int) (off n : Nat) : List Int := L.take off ++ S.take n ++ L.drop (off + n)
theorem mixTo_zero (L S : List Int) (off : Nat) : mixTo L S off 0 = L := by simp [mixTo]
theorem mixTo_length (L S : List Int) (off n : Nat) (h : off + n ≤ L.length) (hn : n ≤ S.length) : (mixTo L S off n).length = L.length := by
 simp [mixTo]; omega
theorem mixTo_succ (L S : List Int) (off n : Nat) (h : off + n < L.length) (hn : n < S.length) : (mixTo L S off n).set (off + n) (rd S n) = mixTo L S off (n + 1) := by
 unfold mixTo
 rw [rd_get S n hn]
 apply List.ext_getElem?
 intro j
 simp only [List.getElem?_set, List.getElem?_append, List.length_append, List.length_take, List.getElem?_take, List.getElem?_drop, List.length_drop]
 repeat' split
 all_goals first | rfl | omega | (congr 1; omega) | (rw [← List.getElem?_eq_getElem hn]; congr 1; omega) | (rw [List.getElem?_eq_none (by omega)]; symm; apply List.getElem?_eq_none; omega)
theorem rd_take (L : List Int) (i n : Nat) (h : i < n) (hl : i < L.length) : rd (L.take n) (i : Int) = rd L (i : Int) := by
 rw [rd_get L i hl, rd_get _ i (by simp; omega)]; simp
theorem rd_drop (L : List Int) (i n : Nat) (hl : n + i < L.length) : rd (L.drop n) (i : Int) = rd L ((n + i : Nat) : Int) := by
 rw [rd_get L _ hl, rd_get _ i (by simp; omega)]; simp
theorem list_eq {L L' : List Int} {n : Nat} (h1 : L.length = n) (h2 : L'.length = n) (h : ∀ j : Nat, j < n → rd L (j : Int) = rd L' (j : Int)) : L = L' :=
 toList h1 h2 fun j hj => rd_opt (by omega) (by omega) (h j hj)
end Go.Proofs.YtpbomchjcgndoaaGreatDoor.Arr
namespace Go.Proofs.YtpbomchjcgndoaaGreatDoor.Arr
open Go.RowKit Go.Proofs.YtpbomchjcgndoaaGreatDoorW.PrintWords Go.Proofs.YtpbomchjcgndoaaGreatDoorW.PrintLast Go.Proofs.YtpbomchjcgndoaaGreatDoorW.PrintMore Go.Proofs.YtpbomchjcgndoaaGreatDoor.U
set_option linter.unusedVariables false
set_option linter.unusedSimpArgs false
def ixa {α : Type} (p : α → Bool) (l : List α) : Int := match l.findIdx? p with | some i => (i : Int) | none => -1
theorem ixa_found {α : Type} (p : α → Bool) (l : List α) (i : Nat) (x : α) (hi : l[i]? = some x) (h : ∀ j, j < i → ∀ y, l[j]? = some y → p y = false) (hp : p x = true) : ixa p l = i := by
 unfold ixa
 have hl := (List.getElem?_eq_some_iff.1 hi).1
 have hx := (List.getElem?_eq_some_iff.1 hi).2
 have : l.findIdx? p = some i := by
  rw [List.findIdx?_eq_some_iff_getElem]
  refine ⟨hl, by rw [hx]; exact hp, fun j hj => ?_⟩
  simp [h j hj _ (List.getElem?_eq_getElem (by omega))]
 rw [this]
theorem ixa_none {α : Type} (p : α → Bool) (l : List α) (h : ∀ j, j < l.length → ∀ y, l[j]? = some y → p y = false) : ixa p l = -1 := by
 unfold ixa
 have : l.findIdx? p = none := by
  rw [List.findIdx?_eq_none_iff]
  intro x hx
  obtain ⟨j, hj, rfl⟩ := List.getElem_of_mem hx
  exact h j hj _ (List.getElem?_eq_getElem hj)
 rw [this]
theorem ixa_any {α : Type} (p : α → Bool) (l : List α) : decide (0 ≤ ixa p l) = l.any p := by
 unfold ixa
 cases h : l.findIdx? p with
 | none =>
  rw [List.findIdx?_eq_none_iff] at h
  have : l.any p = false := by rw [List.any_eq_false]; intro x hx; simp [h x hx]
  rw [this]; rfl
 | some i =>
  rw [List.findIdx?_eq_some_iff_getElem] at h
  obtain ⟨hi, hp, _⟩ := h
  have : l.any p = true := List.any_eq_true.2 ⟨_, List.getElem_mem hi, hp⟩
  rw [this]; simp
theorem below_then {w w1 w2 : World} (h1 : Below w.heap.size w w1) (h2 : Below w1.heap.size w1 w2) : Below w.heap.size w w2 := h1.trans (h2.mono h1.size)
end Go.Proofs.YtpbomchjcgndoaaGreatDoor.Arr
namespace Go.Proofs.YtpbomchjcgndoaaGreatDoor.Arr
open Go.RowKit Go.Proofs.YtpbomchjcgndoaaGreatDoor.N Go.Proofs.YtpbomchjcgndoaaGreatDoor.U Go.Proofs.YtpbomchjcgndoaaGreatDoorW.PrintLast Go.Proofs.YtpbomchjcgndoaaGreatDoorW.PrintMore Go.Proofs.YtpbomchjcgndoaaGreatDoorW.PrintWords
set_option linter.unusedVariables false
set_option linter.unusedSimpArgs false
def NumH (x : Int) : Prop := x = -10 ∨ (0 ≤ x ∧ x ≤ 39) ∨ (-4 ≤ x ∧ x ≤ -1)
def slot (x : Int) : Nat := if 0 ≤ x then x.toNat else 40 + (-x - 1).toNat
theorem slot_lt {x : Int} (h : NumH x) (hx : x ≠ -10) : slot x < 44 := by
 unfold slot; rcases h with h | h | h <;> (try split) <;> omega
theorem slot_flag {x : Int} (h0 : 0 ≤ x) : slot x = x.toNat := if_pos h0
def bump (L : List Int) (x t : Int) : List Int := if x = -10 then L else L.set (slot x) (rd L (slot x : Nat) + t)
theorem bump_length (L : List Int) (x t : Int) : (bump L x t).length = L.length := by
 unfold bump; split <;> simp
theorem rd_set (L : List Int) (i j : Nat) (v : Int) (hj : j < L.length) : rd (L.set i v) (j : Int) = if j = i then v else rd L (j : Int) := by
 rw [rd_get _ j (by simpa using hj), rd_get L j hj, List.getElem_set]
 by_cases h : i = j
 ·rw [if_pos h, if_pos h.symm]
 ·rw [if_neg h, if_neg (fun e => h e.symm)]
theorem rd_bump (L : List Int) (x t : Int) (j : Nat) (hj : j < L.length) : rd (bump L x t) (j : Int) = rd L (j : Int) + if x ≠ -10 ∧ j = slot x then t else 0 := by
 unfold bump
 by_cases hx : x = -10
 ·rw [if_pos hx, if_neg (fun e => e.1 hx)]; omega
 ·rw [if_neg hx, rd_set L _ j _ hj]
  by_cases h : j = slot x
  ·rw [if_pos h, if_pos ⟨hx, h⟩, h]
  ·rw [if_neg h, if_neg (fun e => h e.2)]; omega
theorem rd_zs (n j : Nat) : rd (zs n) (j : Int) = 0 := by
 rcases Nat.lt_or_ge j n with h | h
 ·rw [rd_get (zs n) j (by rw [zs_length]; exact h)]; simp only [zs, List.getElem_replicate]
 ·unfold rd zs; simp only [List.getD_eq_getElem?_getD, Int.toNat_natCast]; rw [List.getElem?_eq_none (by simpa using h)]; rfl
def pile (L h : List Int) (t : Int) : Nat → List Int
 | 0 => L
 | i + 1 => bump (pile L h t i) (rd h (i : Int)) t
theorem pile_length (L h : List Int) (t : Int) : ∀ i, (pile L h t i).length = L.length
 | 0 => rfl
 | i + 1 => by rw [pile, bump_length, pile_length L h t i]
theorem pile_one (L h : List Int) (a b : Int) (i : Nat) (hb : ∀ j : Nat, j < L.length → a ≤ rd L (j : Int) ∧ rd L (j : Int) ≤ b) : ∀ j : Nat, j < L.length → a ≤ rd (pile L h 1 i) (j : Int) ∧ rd (pile L h 1 i) (j : Int) ≤ b + i := by
 induction i with
 | zero => intro j hj; have := hb j hj; simp only [pile]; omega
 | succ i ih =>
  intro j hj
  have := ih j hj
  rw [pile, rd_bump _ _ _ j (by rw [pile_length]; exact hj)]
  split <;> omega
theorem pile_small (h : List Int) (i : Nat) (j : Nat) (hj : j < 44) : 0 ≤ rd (pile (zs 44) h 1 i) (j : Int) ∧ rd (pile (zs 44) h 1 i) (j : Int) ≤ i := by
 have := pile_one (zs 44) h 0 0 i (fun j hj => by rw [rd_zs]; omega) j (by rw [zs_length]; exact hj)
 omega
theorem validHoist_calls (A0 : Option Addr) (c0 : Nat) (h : List Int) (w : World) (hr : Kd.C (Kd.int .i8) w A0 h.length h) (hc : h.length ≤ c0) (hn : h.length ≤ 100000000) (hb : ∀ x ∈ h, -128 ≤ x ∧ x ≤ 127) :
  Calls Tryz.prog 19 #[.slice A0 h.length c0] w fun e w' => e = .returned (.bool (okH h)) ∧ Below w.heap.size w w' := by
 obtain ⟨k, hk⟩ := (meaning_ev h hn hb).rounds
 refine impl_ValidHoist.calls k A0 c0 h (okH h) w hr hc ?_
 unfold impl_ValidHoist.f
 rw [hk, Option.bind_some, implRead_snd]
theorem i64w {x : Int} (h0 : -9223372036854775808 ≤ x) (h1 : x ≤ 9223372036854775807) : IntKind.i64.wrap x = x := by
 unfold IntKind.wrap
 simp only [IntKind.signed, IntKind.bits]
 simp
 omega
set_option maxHeartbeats 4000000 in
set_option maxRecDepth 100000 in
theorem add_calls (g : Nat) (L : List Int) (x t : Int) (w : World) (h0 : w.heap[g]? = some (.cells (vals .i64 L) 78 (0, 0))) (hl : L.length = 44) (hx : NumH x) (hb : ∀ j : Nat, j < 44 → -1000000000 ≤ rd L (j : Int) ∧ rd L (j : Int) ≤ 1000000000) (ht : -1000000000 ≤ t ∧ t ≤ 1000000000) :
  Calls Tryz.prog 61 #[.pointer (some ⟨g, 0, none⟩), .int .i8 x, .int .i64 t] w fun e w' => e = .returned (.tuple #[]) ∧ Fr1 g (vals .i64 (bump L x t)) 78 w w' := by
 have hm := Mem.given h0
 clear h0
 by_cases hx0 : 0 ≤ x
 ·have hx9 : x < 40 := by rcases hx with h | h | h <;> omega
  have hv := hm.get (n := 0) rfl x.toNat (by omega)
  have HB := Aside0.mk (show bump L x t = L.set x.toNat (rd L (x.toNat : Nat) + t) by unfold bump; rw [if_neg (by omega), slot_flag hx0])
  have h1 := hb x.toNat (by omega)
  generalize rd L (x.toNat : Nat) = y at *
  have HW := Aside0.mk (i64w (x := y + t) (by omega) (by omega))
  clear hx hb
  go_enter Tryz.func61, Tryz.ntmps61
  go_wp2_with (first | fail | ((with_reducible refine gt_field 78 0 ?_); refine st_field rfl 78 _ 0 rfl rfl field78_0 ?_) | ((with_reducible refine gt_elem 75 ?_); refine st_elem rfl 75 _ _ rfl rfl rfl arr75 (by first | omega | assumption | (simp only [lens]; first | omega | assumption) | (simp [lens]; done) | (simp [lens]; omega)) (by first | omega | assumption | (simp only [lens]; first | omega | assumption) | (simp [lens]; done) | (simp [lens]; omega)) ?_) | ((with_reducible refine gt_load 3 ?_); (first | (refine st_get rfl 3 _ rfl hm rfl 0 rfl one3 (by first | omega | assumption | (simp only [lens]; first | omega | assumption) | (simp [lens]; done) | (simp [lens]; omega)) ?_) | (refine st_get rfl 3 _ rfl hm rfl 1 rfl one3 (by first | omega | assumption | (simp only [lens]; first | omega | assumption) | (simp [lens]; done) | (simp [lens]; omega)) ?_))) | ((with_reducible refine gt_store 3 ?_); (first | (refine st_set rfl 3 _ _ rfl hm rfl rfl 0 rfl one3 (by first | omega | assumption | (simp only [lens]; first | omega | assumption) | (simp [lens]; done) | (simp [lens]; omega)) ?_) | (refine st_set rfl 3 _ _ rfl hm rfl rfl 1 rfl one3 (by first | omega | assumption | (simp only [lens]; first | omega | assumption) | (simp [lens]; done) | (simp [lens]; omega)) ?_)); clear hm; intro ws hm; simp only [List.set_cons_zero, List.set_cons_succ] at hm) | ((with_reducible refine gt_field 78 1 ?_); refine st_field rfl 78 _ 1 rfl rfl field78_1 ?_) | ((with_reducible refine gt_elem 76 ?_); refine st_elem rfl 76 _ _ rfl rfl rfl arr76 (by first | omega | assumption | (simp only [lens]; first | omega | assumption) | (simp [lens]; done) | (simp [lens]; omega)) (by first | omega | assumption | (simp only [lens]; first | omega | assumption) | (simp [lens]; done) | (simp [lens]; omega)) ?_))
  go_still_tail 11, (by kernel_rfl)
  replace hm := hm.drawn (w.drawn + 1)
  go_wp2_with (first | fail | ((with_reducible refine gt_field 78 0 ?_); refine st_field rfl 78 _ 0 rfl rfl field78_0 ?_) | ((with_reducible refine gt_elem 75 ?_); refine st_elem rfl 75 _ _ rfl rfl rfl arr75 (by first | omega | assumption | (simp only [lens]; first | omega | assumption) | (simp [lens]; done) | (simp [lens]; omega)) (by first | omega | assumption | (simp only [lens]; first | omega | assumption) | (simp [lens]; done) | (simp [lens]; omega)) ?_) | ((with_reducible refine gt_load 3 ?_); (first | (refine st_get rfl 3 _ rfl hm rfl 0 rfl one3 (by first | omega | assumption | (simp only [lens]; first | omega | assumption) | (simp [lens]; done) | (simp [lens]; omega)) ?_) | (refine st_get rfl 3 _ rfl hm rfl 1 rfl one3 (by first | omega | assumption | (simp only [lens]; first | omega | assumption) | (simp [lens]; done) | (simp [lens]; omega)) ?_))) | ((with_reducible refine gt_store 3 ?_); (first | (refine st_set rfl 3 _ _ rfl hm rfl rfl 0 rfl one3 (by first | omega | assumption | (simp only [lens]; first | omega | assumption) | (simp [lens]; done) | (simp [lens]; omega)) ?_) | (refine st_set rfl 3 _ _ rfl hm rfl rfl 1 rfl one3 (by first | omega | assumption | (simp only [lens]; first | omega | assumption) | (simp [lens]; done) | (simp [lens]; omega)) ?_)); clear hm; intro ws hm; simp only [List.set_cons_zero, List.set_cons_succ] at hm) | ((with_reducible refine gt_field 78 1 ?_); refine st_field rfl 78 _ 1 rfl rfl field78_1 ?_) | ((with_reducible refine gt_elem 76 ?_); refine st_elem rfl 76 _ _ rfl rfl rfl arr76 (by first | omega | assumption | (simp only [lens]; first | omega | assumption) | (simp [lens]; done) | (simp [lens]; omega)) (by first | omega | assumption | (simp only [lens]; first | omega | assumption) | (simp [lens]; done) | (simp [lens]; omega)) ?_))
  refine bodyPost_end (results_none rfl _ _ _) rfl ?_
  refine ⟨rfl, ?_⟩
  rw [HW.out] at hm
  rw [HB.out]
  exact hm.gives (M := []) rfl
 ·by_cases hx1 : x = -10
  ·have HB := Aside0.mk (show bump L x t = L by unfold bump; rw [if_pos hx1])
   subst hx1
   clear hx0 hx hb
   go_enter Tryz.func61, Tryz.ntmps61
   go_wp2_with (first | fail | ((with_reducible refine gt_field 78 0 ?_); refine st_field rfl 78 _ 0 rfl rfl field78_0 ?_) | ((with_reducible refine gt_elem 75 ?_); refine st_elem rfl 75 _ _ rfl rfl rfl arr75 (by first | omega | assumption | (simp only [lens]; first | omega | assumption) | (simp [lens]; done) | (simp [lens]; omega)) (by first | omega | assumption | (simp only [lens]; first | omega | assumption) | (simp [lens]; done) | (simp [lens]; omega)) ?_) | ((with_reducible refine gt_load 3 ?_); (first | (refine st_get rfl 3 _ rfl hm rfl 0 rfl one3 (by first | omega | assumption | (simp only [lens]; first | omega | assumption) | (simp [lens]; done) | (simp [lens]; omega)) ?_) | (refine st_get rfl 3 _ rfl hm rfl 1 rfl one3 (by first | omega | assumption | (simp only [lens]; first | omega | assumption) | (simp [lens]; done) | (simp [lens]; omega)) ?_))) | ((with_reducible refine gt_store 3 ?_); (first | (refine st_set rfl 3 _ _ rfl hm rfl rfl 0 rfl one3 (by first | omega | assumption | (simp only [lens]; first | omega | assumption) | (simp [lens]; done) | (simp [lens]; omega)) ?_) | (refine st_set rfl 3 _ _ rfl hm rfl rfl 1 rfl one3 (by first | omega | assumption | (simp only [lens]; first | omega | assumption) | (simp [lens]; done) | (simp [lens]; omega)) ?_)); clear hm; intro ws hm; simp only [List.set_cons_zero, List.set_cons_succ] at hm) | ((with_reducible refine gt_field 78 1 ?_); refine st_field rfl 78 _ 1 rfl rfl field78_1 ?_) | ((with_reducible refine gt_elem 76 ?_); refine st_elem rfl 76 _ _ rfl rfl rfl arr76 (by first | omega | assumption | (simp only [lens]; first | omega | assumption) | (simp [lens]; done) | (simp [lens]; omega)) (by first | omega | assumption | (simp only [lens]; first | omega | assumption) | (simp [lens]; done) | (simp [lens]; omega)) ?_))
   refine bodyPost_end (results_none rfl _ _ _) rfl ?_
   refine ⟨rfl, ?_⟩
   rw [HB.out]
   exact hm.gives (M := []) rfl
  ·have hx9 : x = -4 ∨ x = -3 ∨ x = -2 ∨ x = -1 := by rcases hx with h | h | h <;> omega
   have hv := hm.get (n := 0) rfl (slot x) (by have := slot_lt hx hx1; omega)
   have HB := Aside0.mk (show bump L x t = L.set (slot x) (rd L (slot x : Nat) + t) by unfold bump; rw [if_neg hx1])
   have h1 := hb (slot x) (slot_lt hx hx1)
   generalize rd L (slot x : Nat) = y at *
   have HW := Aside0.mk (i64w (x := y + t) (by omega) (by omega))
   clear hb hx hx0 hx1
   rcases hx9 with rfl | rfl | rfl | rfl
   all_goals
    simp only [slot] at hv
    simp at hv
    have k0 : IntKind.i8.wrap 0 = 0 := rfl
    have k1 : IntKind.i8.wrap 1 = 1 := rfl
    have k2 : IntKind.i8.wrap 2 = 2 := rfl
    have k3 : IntKind.i8.wrap 3 = 3 := rfl
    have k4 : IntKind.i8.wrap 4 = 4 := rfl
    go_enter Tryz.func61, Tryz.ntmps61
    go_wp2_with (first | fail | ((with_reducible refine gt_field 78 0 ?_); refine st_field rfl 78 _ 0 rfl rfl field78_0 ?_) | ((with_reducible refine gt_elem 75 ?_); refine st_elem rfl 75 _ _ rfl rfl rfl arr75 (by first | omega | assumption | (simp only [lens]; first | omega | assumption) | (simp [lens]; done) | (simp [lens]; omega)) (by first | omega | assumption | (simp only [lens]; first | omega | assumption) | (simp [lens]; done) | (simp [lens]; omega)) ?_) | ((with_reducible refine gt_load 3 ?_); (first | (refine st_get rfl 3 _ rfl hm rfl 0 rfl one3 (by first | omega | assumption | (simp only [lens]; first | omega | assumption) | (simp [lens]; done) | (simp [lens]; omega)) ?_) | (refine st_get rfl 3 _ rfl hm rfl 1 rfl one3 (by first | omega | assumption | (simp only [lens]; first | omega | assumption) | (simp [lens]; done) | (simp [lens]; omega)) ?_))) | ((with_reducible refine gt_store 3 ?_); (first | (refine st_set rfl 3 _ _ rfl hm rfl rfl 0 rfl one3 (by first | omega | assumption | (simp only [lens]; first | omega | assumption) | (simp [lens]; done) | (simp [lens]; omega)) ?_) | (refine st_set rfl 3 _ _ rfl hm rfl rfl 1 rfl one3 (by first | omega | assumption | (simp only [lens]; first | omega | assumption) | (simp [lens]; done) | (simp [lens]; omega)) ?_)); clear hm; intro ws hm; simp only [List.set_cons_zero, List.set_cons_succ] at hm) | ((with_reducible refine gt_field 78 1 ?_); refine st_field rfl 78 _ 1 rfl rfl field78_1 ?_) | ((with_reducible refine gt_elem 76 ?_); refine st_elem rfl 76 _ _ rfl rfl rfl arr76 (by first | omega | assumption | (simp only [lens]; first | omega | assumption) | (simp [lens]; done) | (simp [lens]; omega)) (by first | omega | assumption | (simp only [lens]; first | omega | assumption) | (simp [lens]; done) | (simp [lens]; omega)) ?_))
    go_still_tail 13, (by kernel_rfl)
    replace hm := hm.drawn (w.drawn + 1)
    go_wp2_with (first | fail | ((with_reducible refine gt_field 78 0 ?_); refine st_field rfl 78 _ 0 rfl rfl field78_0 ?_) | ((with_reducible refine gt_elem 75 ?_); refine st_elem rfl 75 _ _ rfl rfl rfl arr75 (by first | omega | assumption | (simp only [lens]; first | omega | assumption) | (simp [lens]; done) | (simp [lens]; omega)) (by first | omega | assumption | (simp only [lens]; first | omega | assumption) | (simp [lens]; done) | (simp [lens]; omega)) ?_) | ((with_reducible refine gt_load 3 ?_); (first | (refine st_get rfl 3 _ rfl hm rfl 0 rfl one3 (by first | omega | assumption | (simp only [lens]; first | omega | assumption) | (simp [lens]; done) | (simp [lens]; omega)) ?_) | (refine st_get rfl 3 _ rfl hm rfl 1 rfl one3 (by first | omega | assumption | (simp only [lens]; first | omega | assumption) | (simp [lens]; done) | (simp [lens]; omega)) ?_))) | ((with_reducible refine gt_store 3 ?_); (first | (refine st_set rfl 3 _ _ rfl hm rfl rfl 0 rfl one3 (by first | omega | assumption | (simp only [lens]; first | omega | assumption) | (simp [lens]; done) | (simp [lens]; omega)) ?_) | (refine st_set rfl 3 _ _ rfl hm rfl rfl 1 rfl one3 (by first | omega | assumption | (simp only [lens]; first | omega | assumption) | (simp [lens]; done) | (simp [lens]; omega)) ?_)); clear hm; intro ws hm; simp only [List.set_cons_zero, List.set_cons_succ] at hm) | ((with_reducible refine gt_field 78 1 ?_); refine st_field rfl 78 _ 1 rfl rfl field78_1 ?_) | ((with_reducible refine gt_elem 76 ?_); refine st_elem rfl 76 _ _ rfl rfl rfl arr76 (by first | omega | assumption | (simp only [lens]; first | omega | assumption) | (simp [lens]; done) | (simp [lens]; omega)) (by first | omega | assumption | (simp only [lens]; first | omega | assumption) | (simp [lens]; done) | (simp [lens]; omega)) ?_))
    refine bodyPost_end (results_none rfl _ _ _) rfl ?_
    refine ⟨rfl, ?_⟩
    rw [HW.out] at hm
    rw [HB.out]
    simpa [slot] using hm.gives (M := []) rfl
theorem NumH.at {h : List Int} (hh : ∀ x ∈ h, NumH x) (i : Nat) (hi : i < h.length) : NumH (rd h (i : Int)) := by
 rw [rd_get h i hi]; exact hh _ (List.getElem_mem hi)
set_option maxHeartbeats 4000000 in
set_option maxRecDepth 100000 in
theorem hoistPieces_calls (A0 : Option Addr) (c0 : Nat) (h : List Int) (w : World) (hr : Kd.C (Kd.int .i8) w A0 h.length h) (hc : h.length ≤ c0) (hh : ∀ x ∈ h, NumH x) (hn : h.length ≤ 1000) :
  Calls Tryz.prog 39 #[.slice A0 h.length c0] w fun e w' => e = .returned (.agg (vals .i64 (pile (zs 44) h 1 h.length))) ∧ Below w.heap.size w w' := by
 have hm := Mem.start w
 have HR := Aside0.mk hr
 have HH := Aside0.mk hh
 clear hr hh
 go_enter Tryz.func39, Tryz.ntmps39
 go_wp2_with (first | fail | ((with_reducible refine gt_alloc 2 78 ?_); refine st_alloc rfl 2 rfl 78 rfl hm zero78 ?_; clear hm; intro g2 w2 hm) | ((with_reducible refine gt_build 78 ?_); refine st_zero rfl 78 rfl built78 ?_) | ((with_reducible refine gt_alloc 3 78 ?_); refine st_alloc rfl 3 rfl 78 rfl hm zero78 ?_; clear hm; intro g3 w3 hm) | ((with_reducible refine gt_store 78 ?_); (first | (refine st_full rfl 78 _ _ rfl hm rfl rfl 0 rfl agg78 (by first | omega | assumption | (simp only [lens]; first | omega | assumption) | (simp [lens]; done) | (simp [lens]; omega)) (by first | omega | assumption | (simp only [lens]; first | omega | assumption) | (simp [lens]; done) | (simp [lens]; omega)) ?_) | (refine st_full rfl 78 _ _ rfl hm rfl rfl 1 rfl agg78 (by first | omega | assumption | (simp only [lens]; first | omega | assumption) | (simp [lens]; done) | (simp [lens]; omega)) (by first | omega | assumption | (simp only [lens]; first | omega | assumption) | (simp [lens]; done) | (simp [lens]; omega)) ?_) | (refine st_full rfl 78 _ _ rfl hm rfl rfl 2 rfl agg78 (by first | omega | assumption | (simp only [lens]; first | omega | assumption) | (simp [lens]; done) | (simp [lens]; omega)) (by first | omega | assumption | (simp only [lens]; first | omega | assumption) | (simp [lens]; done) | (simp [lens]; omega)) ?_) | (refine st_full rfl 78 _ _ rfl hm rfl rfl 3 rfl agg78 (by first | omega | assumption | (simp only [lens]; first | omega | assumption) | (simp [lens]; done) | (simp [lens]; omega)) (by first | omega | assumption | (simp only [lens]; first | omega | assumption) | (simp [lens]; done) | (simp [lens]; omega)) ?_)); clear hm; intro ws hm; simp only [List.set_cons_zero, List.set_cons_succ] at hm) | ((with_reducible refine gt_load 51 ?_); (first | (refine st_get rfl 51 _ rfl hm rfl 0 rfl one51 (by first | omega | assumption | (simp only [lens]; first | omega | assumption) | (simp [lens]; done) | (simp [lens]; omega)) ?_) | (refine st_get rfl 51 _ rfl hm rfl 1 rfl one51 (by first | omega | assumption | (simp only [lens]; first | omega | assumption) | (simp [lens]; done) | (simp [lens]; omega)) ?_) | (refine st_get rfl 51 _ rfl hm rfl 2 rfl one51 (by first | omega | assumption | (simp only [lens]; first | omega | assumption) | (simp [lens]; done) | (simp [lens]; omega)) ?_) | (refine st_get rfl 51 _ rfl hm rfl 3 rfl one51 (by first | omega | assumption | (simp only [lens]; first | omega | assumption) | (simp [lens]; done) | (simp [lens]; omega)) ?_))) | ((with_reducible refine gt_load 78 ?_); (first | (refine st_load rfl 78 _ rfl hm rfl 0 rfl agg78 (by first | omega | assumption | (simp only [lens]; first | omega | assumption) | (simp [lens]; done) | (simp [lens]; omega)) ?_) | (refine st_load rfl 78 _ rfl hm rfl 1 rfl agg78 (by first | omega | assumption | (simp only [lens]; first | omega | assumption) | (simp [lens]; done) | (simp [lens]; omega)) ?_) | (refine st_load rfl 78 _ rfl hm rfl 2 rfl agg78 (by first | omega | assumption | (simp only [lens]; first | omega | assumption) | (simp [lens]; done) | (simp [lens]; omega)) ?_) | (refine st_load rfl 78 _ rfl hm rfl 3 rfl agg78 (by first | omega | assumption | (simp only [lens]; first | omega | assumption) | (simp [lens]; done) | (simp [lens]; omega)) ?_))))
 go_loopw [9, 5] (fun v9 v5 wr => ∃ i : Nat, i ≤ h.length ∧ v9 = .int .i64 i ∧ Mem w wr [⟨g3, vals .i64 (pile (zs 44) h 1 i), 78, true⟩, ⟨g2, vals .i64 (zs 44), 78, true⟩]) (fun v9 _ _ => h.length - (intOf v9).toNat)
 case atStart => exact ⟨0, by omega, rfl, hm⟩
 case round =>
  obtain ⟨i, hi, rfl, hm⟩ := hrel
  have hl2 := (pile_length (zs 44) h 1 i).trans zs_length
  by_cases hlt : i < h.length
  ·obtain ⟨ad, rfl, hc1⟩ := Kd.at_int (Kd.C_below HR.out (hm.done rfl)) (i : Int) (by omega) (by omega)
   rw [Int.toNat_natCast] at hc1
   have HX := Aside0.mk (NumH.at HH.out i hlt)
   have HS : Aside0 (pile (zs 44) h 1 (i + 1) = bump (pile (zs 44) h 1 i) (rd h (i : Int)) 1) := ⟨rfl⟩
   have HP := Aside0.mk (fun j hj => pile_small h i j hj)
   generalize rd h (i : Int) = x at *
   generalize pile (zs 44) h 1 i = X at *
   go_wp2_with (first
    | (first | fail | ((with_reducible refine gt_alloc 2 78 ?_); refine st_alloc rfl 2 rfl 78 rfl hm zero78 ?_; clear hm; intro g2 w2 hm) | ((with_reducible refine gt_build 78 ?_); refine st_zero rfl 78 rfl built78 ?_) | ((with_reducible refine gt_alloc 3 78 ?_); refine st_alloc rfl 3 rfl 78 rfl hm zero78 ?_; clear hm; intro g3 w3 hm) | ((with_reducible refine gt_store 78 ?_); (first | (refine st_full rfl 78 _ _ rfl hm rfl rfl 0 rfl agg78 (by first | omega | assumption | (simp only [lens]; first | omega | assumption) | (simp [lens]; done) | (simp [lens]; omega)) (by first | omega | assumption | (simp only [lens]; first | omega | assumption) | (simp [lens]; done) | (simp [lens]; omega)) ?_) | (refine st_full rfl 78 _ _ rfl hm rfl rfl 1 rfl agg78 (by first | omega | assumption | (simp only [lens]; first | omega | assumption) | (simp [lens]; done) | (simp [lens]; omega)) (by first | omega | assumption | (simp only [lens]; first | omega | assumption) | (simp [lens]; done) | (simp [lens]; omega)) ?_) | (refine st_full rfl 78 _ _ rfl hm rfl rfl 2 rfl agg78 (by first | omega | assumption | (simp only [lens]; first | omega | assumption) | (simp [lens]; done) | (simp [lens]; omega)) (by first | omega | assumption | (simp only [lens]; first | omega | assumption) | (simp [lens]; done) | (simp [lens]; omega)) ?_) | (refine st_full rfl 78 _ _ rfl hm rfl rfl 3 rfl agg78 (by first | omega | assumption | (simp only [lens]; first | omega | assumption) | (simp [lens]; done) | (simp [lens]; omega)) (by first | omega | assumption | (simp only [lens]; first | omega | assumption) | (simp [lens]; done) | (simp [lens]; omega)) ?_)); clear hm; intro ws hm; simp only [List.set_cons_zero, List.set_cons_succ] at hm) | ((with_reducible refine gt_load 51 ?_); (first | (refine st_get rfl 51 _ rfl hm rfl 0 rfl one51 (by first | omega | assumption | (simp only [lens]; first | omega | assumption) | (simp [lens]; done) | (simp [lens]; omega)) ?_) | (refine st_get rfl 51 _ rfl hm rfl 1 rfl one51 (by first | omega | assumption | (simp only [lens]; first | omega | assumption) | (simp [lens]; done) | (simp [lens]; omega)) ?_) | (refine st_get rfl 51 _ rfl hm rfl 2 rfl one51 (by first | omega | assumption | (simp only [lens]; first | omega | assumption) | (simp [lens]; done) | (simp [lens]; omega)) ?_) | (refine st_get rfl 51 _ rfl hm rfl 3 rfl one51 (by first | omega | assumption | (simp only [lens]; first | omega | assumption) | (simp [lens]; done) | (simp [lens]; omega)) ?_))) | ((with_reducible refine gt_load 78 ?_); (first | (refine st_load rfl 78 _ rfl hm rfl 0 rfl agg78 (by first | omega | assumption | (simp only [lens]; first | omega | assumption) | (simp [lens]; done) | (simp [lens]; omega)) ?_) | (refine st_load rfl 78 _ rfl hm rfl 1 rfl agg78 (by first | omega | assumption | (simp only [lens]; first | omega | assumption) | (simp [lens]; done) | (simp [lens]; omega)) ?_) | (refine st_load rfl 78 _ rfl hm rfl 2 rfl agg78 (by first | omega | assumption | (simp only [lens]; first | omega | assumption) | (simp [lens]; done) | (simp [lens]; omega)) ?_) | (refine st_load rfl 78 _ rfl hm rfl 3 rfl agg78 (by first | omega | assumption | (simp only [lens]; first | omega | assumption) | (simp [lens]; done) | (simp [lens]; omega)) ?_))))
    | (go_at_call 61; refine (add_calls g3 X x 1 _ (hm.mem (n := 0) rfl) hl2 HX.out (fun j hj => by have := HP.out j hj; omega) (by omega)).mono ?_; rintro e wa ⟨rfl, hf⟩; replace hm := hm.fr1 (n := 0) rfl hf; simp only [List.set_cons_zero] at hm; clear hf))
   go_roundw
   case rel => exact ⟨i + 1, by omega, by go_num, by rw [HS.out]; exact hm⟩
   case measure => simp [intOf]; omega
  ·have HI := Aside0.mk (show i = h.length by omega)
   generalize hX : pile (zs 44) h 1 i = X at *
   have HX := Aside0.mk hX
   clear hX
   go_wp2_with (first | fail | ((with_reducible refine gt_alloc 2 78 ?_); refine st_alloc rfl 2 rfl 78 rfl hm zero78 ?_; clear hm; intro g2 w2 hm) | ((with_reducible refine gt_build 78 ?_); refine st_zero rfl 78 rfl built78 ?_) | ((with_reducible refine gt_alloc 3 78 ?_); refine st_alloc rfl 3 rfl 78 rfl hm zero78 ?_; clear hm; intro g3 w3 hm) | ((with_reducible refine gt_store 78 ?_); (first | (refine st_full rfl 78 _ _ rfl hm rfl rfl 0 rfl agg78 (by first | omega | assumption | (simp only [lens]; first | omega | assumption) | (simp [lens]; done) | (simp [lens]; omega)) (by first | omega | assumption | (simp only [lens]; first | omega | assumption) | (simp [lens]; done) | (simp [lens]; omega)) ?_) | (refine st_full rfl 78 _ _ rfl hm rfl rfl 1 rfl agg78 (by first | omega | assumption | (simp only [lens]; first | omega | assumption) | (simp [lens]; done) | (simp [lens]; omega)) (by first | omega | assumption | (simp only [lens]; first | omega | assumption) | (simp [lens]; done) | (simp [lens]; omega)) ?_) | (refine st_full rfl 78 _ _ rfl hm rfl rfl 2 rfl agg78 (by first | omega | assumption | (simp only [lens]; first | omega | assumption) | (simp [lens]; done) | (simp [lens]; omega)) (by first | omega | assumption | (simp only [lens]; first | omega | assumption) | (simp [lens]; done) | (simp [lens]; omega)) ?_) | (refine st_full rfl 78 _ _ rfl hm rfl rfl 3 rfl agg78 (by first | omega | assumption | (simp only [lens]; first | omega | assumption) | (simp [lens]; done) | (simp [lens]; omega)) (by first | omega | assumption | (simp only [lens]; first | omega | assumption) | (simp [lens]; done) | (simp [lens]; omega)) ?_)); clear hm; intro ws hm; simp only [List.set_cons_zero, List.set_cons_succ] at hm) | ((with_reducible refine gt_load 51 ?_); (first | (refine st_get rfl 51 _ rfl hm rfl 0 rfl one51 (by first | omega | assumption | (simp only [lens]; first | omega | assumption) | (simp [lens]; done) | (simp [lens]; omega)) ?_) | (refine st_get rfl 51 _ rfl hm rfl 1 rfl one51 (by first | omega | assumption | (simp only [lens]; first | omega | assumption) | (simp [lens]; done) | (simp [lens]; omega)) ?_) | (refine st_get rfl 51 _ rfl hm rfl 2 rfl one51 (by first | omega | assumption | (simp only [lens]; first | omega | assumption) | (simp [lens]; done) | (simp [lens]; omega)) ?_) | (refine st_get rfl 51 _ rfl hm rfl 3 rfl one51 (by first | omega | assumption | (simp only [lens]; first | omega | assumption) | (simp [lens]; done) | (simp [lens]; omega)) ?_))) | ((with_reducible refine gt_load 78 ?_); (first | (refine st_load rfl 78 _ rfl hm rfl 0 rfl agg78 (by first | omega | assumption | (simp only [lens]; first | omega | assumption) | (simp [lens]; done) | (simp [lens]; omega)) ?_) | (refine st_load rfl 78 _ rfl hm rfl 1 rfl agg78 (by first | omega | assumption | (simp only [lens]; first | omega | assumption) | (simp [lens]; done) | (simp [lens]; omega)) ?_) | (refine st_load rfl 78 _ rfl hm rfl 2 rfl agg78 (by first | omega | assumption | (simp only [lens]; first | omega | assumption) | (simp [lens]; done) | (simp [lens]; omega)) ?_) | (refine st_load rfl 78 _ rfl hm rfl 3 rfl agg78 (by first | omega | assumption | (simp only [lens]; first | omega | assumption) | (simp [lens]; done) | (simp [lens]; omega)) ?_))))
   ((try simp only [Exit.inBlock, Exit.then]); (first | (refine ret_cell hm rfl rfl 1 rfl agg78 (by first | omega | assumption | (simp only [lens]; first | omega | assumption) | (simp [lens]; done) | (simp [lens]; omega)) rfl ?_) | (refine ret_cell_tmp hm rfl rfl 1 rfl agg78 (by first | omega | assumption | (simp only [lens]; first | omega | assumption) | (simp [lens]; done) | (simp [lens]; omega)) rfl ?_)))
   exact ⟨by rw [← HX.out, HI.out], hm.done rfl⟩
def Small8 (h : List Int) : Prop := h.length ≤ 100000000 ∧ ∀ x ∈ h, -128 ≤ x ∧ x ≤ 127
theorem okH_N {h : List Int} (hk : okH h = true) : (∀ x ∈ h, NumH x) ∧ h.length ≤ 1000 := ⟨okH_num hk, by have := okH_len hk; omega⟩
end Go.Proofs.YtpbomchjcgndoaaGreatDoor.Arr
namespace Go.Proofs.YtpbomchjcgndoaaGreatDoor.Arr
open Go.RowKit Go.Proofs.YtpbomchjcgndoaaGreatDoorW.PrintWords Go.Proofs.YtpbomchjcgndoaaGreatDoorW.PrintLast Go.Proofs.YtpbomchjcgndoaaGreatDoorW.PrintMore Go.Proofs.YtpbomchjcgndoaaGreatDoor.U Go.Proofs.YtpbomchjcgndoaaGreatDoor.N
set_option linter.unusedVariables false
set_option linter.unusedSimpArgs false
def PlainN (x : Int) : Prop := x = -10 ∨ (0 ≤ x ∧ x ≤ 39)
def oddM (n : Int) : Bool := decide (n < 0) && decide (n ≠ -10)
def plainM (m : List Int) : Bool := okH m && !m.any oddM
theorem plainM_N {m : List Int} (h : plainM m = true) : (∀ x ∈ m, PlainN x) ∧ 1 ≤ m.length ∧ m.length ≤ 8 := by
 unfold plainM at h
 rw [Bool.and_eq_true, Bool.not_eq_true', List.any_eq_false] at h
 refine ⟨fun x hx => ?_, (okH_len h.1).1, (okH_len h.1).2⟩
 have h1 := okH_num h.1 x hx
 have h2 := h.2 x hx
 unfold oddM at h2
 rw [Bool.and_eq_true, decide_eq_true_eq, decide_eq_true_eq] at h2
 unfold PlainN
 omega
theorem runH_left (h : List Int) (x : Int) : ∀ i, i ≤ h.length → runH (h ++ [x]) i = runH h i
 | 0, _ => rfl
 | i + 1, hi => by
  rw [runH, runH, runH_left h x i (by omega), rd_app_left h [x] i (by omega)]
theorem runH_snoc (h : List Int) (x : Int) : runH (h ++ [x]) (h ++ [x]).length = (runH h h.length).bind fun st => stepH st x := by
 rw [List.length_append, List.length_singleton, runH, runH_left h x h.length (Nat.le_refl _), rd_app_end]
theorem rd_takeH (m : List Int) (k j : Nat) (hj : j < k) (hk : k ≤ m.length) : rd (m.take k) (j : Int) = rd m (j : Int) := by
 rw [rd_get _ j (by rw [List.length_take]; omega), rd_get m j (by omega), List.getElem_take]
theorem take_step (m : List Int) (k : Nat) (hk : k < m.length) : m.take (k + 1) = m.take k ++ [rd m (k : Int)] := by
 rw [rd_get m k hk, List.take_succ_eq_append_getElem hk]
theorem runH_plain {m : List Int} (hp : ∀ x ∈ m, PlainN x) (ho : okH m = true) : ∀ i, i ≤ m.length → ∃ s, runH m i = some (m.take i, s) ∧ s ≤ i
 | 0, _ => ⟨0, by simp [runH], Nat.le_refl _⟩
 | i + 1, hi => by
  obtain ⟨s, hs, hle⟩ := runH_plain hp ho i (by omega)
  have hnn : runH m (i + 1) ≠ none := fun e => by
   rw [okH_none (i := i + 1) hi e] at ho
   cases ho
  have hx := hp (rd m (i : Int)) (by rw [rd_get m i (by omega)]; exact List.getElem_mem _)
  have hl : (m.take i).length = i := by rw [List.length_take]; omega
  rw [runH, hs, Option.bind_some] at hnn ⊢
  rw [take_step m i (by omega)]
  unfold stepH at hnn ⊢
  dsimp only at hnn ⊢
  by_cases h10 : rd m (i : Int) = -10
  ·rw [if_pos h10] at hnn ⊢
   rw [hl] at hnn ⊢
   by_cases he : s = i
   ·rw [if_pos he] at hnn; exact absurd rfl hnn
   ·rw [if_neg he]; exact ⟨i + 1, rfl, Nat.le_refl _⟩
  ·rw [if_neg h10, if_pos (by rcases hx with hx | hx; exact absurd hx h10; exact hx)]
   exact ⟨s, rfl, by omega⟩
theorem plainM_read {m : List Int} (hp : plainM m = true) : ∃ s, runH m m.length = some (m, s) ∧ s < m.length ∧ readH m = some m := by
 obtain ⟨hN, h1, h8⟩ := plainM_N hp
 have ho : okH m = true := by
  unfold plainM at hp
  rw [Bool.and_eq_true] at hp
  exact hp.1
 obtain ⟨s, hs, hle⟩ := runH_plain hN ho m.length (Nat.le_refl _)
 rw [List.take_length] at hs
 have ho2 := ho
 unfold okH readH at ho2
 rw [if_pos ⟨h1, h8⟩, hs] at ho2
 dsimp only at ho2
 by_cases h : s < m.length
 ·refine ⟨s, hs, h, ?_⟩
  unfold readH
  rw [if_pos ⟨h1, h8⟩, hs]
  dsimp only
  rw [if_pos h]
 ·rw [if_neg h] at ho2
  cases ho2
end Go.Proofs.YtpbomchjcgndoaaGreatDoor.Arr
namespace Go.Proofs.YtpbomchjcgndoaaGreatDoor.Arr
open Go.RowKit Go.Proofs.YtpbomchjcgndoaaGreatDoorW.PrintWords Go.Proofs.YtpbomchjcgndoaaGreatDoorW.PrintLast Go.Proofs.YtpbomchjcgndoaaGreatDoorW.PrintMore Go.Proofs.YtpbomchjcgndoaaGreatDoor.U Go.Proofs.YtpbomchjcgndoaaGreatDoor.N
set_option linter.unusedVariables false
set_option linter.unusedSimpArgs false
def Off (h : List Int) (at_ : Nat) (k : Int) (j : Nat) (x y : Int) : Prop := x = y ∨ (y = k ∧ x = rd h (at_ : Int) ∧ at_ ≤ j ∧ (at_ < j → rd h (j : Int) < 0))
structure Beside (h : List Int) (at_ : Nat) (k : Int) (n : Nat) (o o' : List Int) : Prop where
 len : o.length = n
 len' : o'.length = n
 off : ∀ j : Nat, j < n → Off h at_ k j (rd o (j : Int)) (rd o' (j : Int))
 own : at_ < n → rd o (at_ : Int) = rd h (at_ : Int) ∧ rd o' (at_ : Int) = k
theorem Beside.snoc {h : List Int} {at_ : Nat} {k : Int} {n : Nat} {o o' : List Int} (b : Beside h at_ k n o o') (x y : Int) (hxy : Off h at_ k n x y) (hat : n = at_ → x = rd h (at_ : Int) ∧ y = k) : Beside h at_ k (n + 1) (o ++ [x]) (o' ++ [y]) := by
 refine ⟨by simp [b.len], by simp [b.len'], fun j hj => ?_, fun hj => ?_⟩
 ·rcases Nat.lt_or_ge j n with h1 | h1
  ·rw [rd_app_left o [x] j (by rw [b.len]; exact h1), rd_app_left o' [y] j (by rw [b.len']; exact h1)]
   exact b.off j h1
  ·obtain rfl : j = n := by omega
   have e1 := rd_app_end o x
   have e2 := rd_app_end o' y
   rw [b.len] at e1
   rw [b.len'] at e2
   rw [e1, e2]; exact hxy
 ·rcases Nat.lt_or_ge at_ n with h1 | h1
  ·rw [rd_app_left o [x] at_ (by rw [b.len]; exact h1), rd_app_left o' [y] at_ (by rw [b.len']; exact h1)]
   exact b.own h1
  ·obtain rfl : n = at_ := by omega
   have e1 := rd_app_end o x
   have e2 := rd_app_end o' y
   rw [b.len] at e1
   rw [b.len'] at e2
   rw [e1, e2]
   exact hat rfl
theorem rd_setK (h : List Int) (a j : Nat) (k : Int) (hj : j < h.length) : rd (h.set a k) (j : Int) = if j = a then k else rd h (j : Int) := by
 rw [rd_get _ j (by simpa using hj), rd_get h j hj, List.getElem_set]
 by_cases e : a = j
 ·rw [if_pos e, if_pos e.symm]
 ·rw [if_neg e, if_neg (fun h => e h.symm)]
theorem runH_set {h : List Int} {at_ : Nat} {k : Int} (ha : at_ < h.length) (h0 : 0 ≤ rd h (at_ : Int)) (hk0 : 0 ≤ k) (hk : k ≤ 39) : ∀ (n : Nat) (o : List Int) (s : Nat), n ≤ h.length → runH h n = some (o, s) → ∃ o', runH (h.set at_ k) n = some (o', s) ∧ Beside h at_ k n o o'
 | 0, o, s, _, e => by
  simp only [runH, Option.some.injEq, Prod.mk.injEq] at e
  obtain ⟨rfl, rfl⟩ := e
  exact ⟨[], rfl, rfl, rfl, fun j hj => absurd hj (by omega), fun hj => absurd hj (by omega)⟩
 | n + 1, o, s, hn, e => by
  rw [runH] at e
  cases hr : runH h n with
  | none => rw [hr] at e; cases e
  | some st =>
   obtain ⟨o1, s1⟩ := st
   rw [hr, Option.bind_some] at e
   obtain ⟨o2, hr2, b⟩ := runH_set ha h0 hk0 hk n o1 s1 (by omega) hr
   rw [runH, hr2, Option.bind_some, rd_setK h at_ n k (by omega)]
   unfold stepH at e ⊢
   dsimp only at e ⊢
   by_cases hna : n = at_
   ·subst hna
    rw [if_neg (by omega)] at e
    rw [if_pos (by
     by_cases h39 : 0 ≤ rd h (n : Int) ∧ rd h (n : Int) ≤ 39
     ·exact h39
     ·rw [if_neg h39, if_neg (by omega)] at e
      cases e)] at e
    simp only [Option.some.injEq, Prod.mk.injEq] at e
    obtain ⟨rfl, rfl⟩ := e
    rw [if_pos rfl, if_neg (by omega), if_pos ⟨hk0, hk⟩]
    exact ⟨_, rfl, b.snoc _ _ (.inr ⟨rfl, rfl, Nat.le_refl _, fun h => absurd h (by omega)⟩) (fun _ => ⟨rfl, rfl⟩)⟩
   ·rw [if_neg hna]
    rw [b.len] at e
    rw [b.len']
    by_cases h10 : rd h (n : Int) = -10
    ·rw [if_pos h10] at e ⊢
     by_cases hs : s1 = n
     ·rw [if_pos hs] at e; cases e
     ·rw [if_neg hs] at e ⊢
      simp only [Option.some.injEq, Prod.mk.injEq] at e
      obtain ⟨rfl, rfl⟩ := e
      exact ⟨_, rfl, b.snoc _ _ (.inl rfl) (fun h => absurd h hna)⟩
    ·rw [if_neg h10] at e ⊢
     by_cases h39 : 0 ≤ rd h (n : Int) ∧ rd h (n : Int) ≤ 39
     ·rw [if_pos h39] at e ⊢
      simp only [Option.some.injEq, Prod.mk.injEq] at e
      obtain ⟨rfl, rfl⟩ := e
      exact ⟨_, rfl, b.snoc _ _ (.inl rfl) (fun h => absurd h hna)⟩
     ·rw [if_neg h39] at e ⊢
      by_cases h4 : -4 ≤ rd h (n : Int) ∧ rd h (n : Int) ≤ -1
      ·rw [if_pos h4] at e ⊢
       by_cases hp : (s1 : Int) + -rd h (n : Int) - 1 < (n : Int)
       ·rw [if_pos hp] at e ⊢
        simp only [Option.some.injEq, Prod.mk.injEq] at e
        obtain ⟨rfl, rfl⟩ := e
        refine ⟨_, rfl, b.snoc _ _ ?_ (fun h => absurd h hna)⟩
        obtain ⟨p, hp2⟩ := Int.eq_ofNat_of_zero_le (show 0 ≤ (s1 : Int) + -rd h (n : Int) - 1 by omega)
        rw [hp2]
        rcases b.off p (by omega) with h1 | ⟨h1, h2, h3, h5⟩
        ·exact .inl h1
        ·exact .inr ⟨h1, h2, by omega, fun _ => by omega⟩
       ·rw [if_neg hp] at e; cases e
      ·rw [if_neg h4] at e; cases e
def grpN (m : List Int) : Nat → List (List Int)
 | 0 => [[]]
 | n + 1 => if rd m (n : Int) = -10 then grpN m n ++ [[]] else (grpN m n).set ((grpN m n).length - 1) ((grpN m n).getD ((grpN m n).length - 1) [] ++ [rd m (n : Int)])
def joinB (gs : List (List Int)) : Nat → List Int
 | 0 => []
 | n + 1 => (if n = 0 then joinB gs n else joinB gs n ++ [-10]) ++ gs.getD n []
theorem grpN_pos (m : List Int) : ∀ n, 1 ≤ (grpN m n).length
 | 0 => by simp [grpN]
 | n + 1 => by
  have := grpN_pos m n
  rw [grpN]
  split
  ·simp
  ·simp; omega
theorem joinB_congr {gs gs' : List (List Int)} : ∀ n, (∀ j, j < n → gs.getD j [] = gs'.getD j []) → joinB gs n = joinB gs' n
 | 0, _ => rfl
 | n + 1, h => by
  rw [joinB, joinB, joinB_congr n (fun j hj => h j (by omega)), h n (by omega)]
theorem getD_app_left (gs : List (List Int)) (x : List Int) (j : Nat) (h : j < gs.length) : (gs ++ [x]).getD j [] = gs.getD j [] := by
 rw [List.getD_eq_getElem?_getD, List.getD_eq_getElem?_getD, List.getElem?_append_left h]
theorem getD_app_end (gs : List (List Int)) (x : List Int) : (gs ++ [x]).getD gs.length [] = x := by
 rw [List.getD_eq_getElem?_getD, List.getElem?_append_right (Nat.le_refl _), Nat.sub_self]; rfl
theorem getD_setG (gs : List (List Int)) (x : List Int) (i j : Nat) (h : i < gs.length) : (gs.set i x).getD j [] = if j = i then x else gs.getD j [] := by
 rw [List.getD_eq_getElem?_getD, List.getD_eq_getElem?_getD]
 by_cases e : j = i
 ·subst e
  rw [List.getElem?_set_self h, if_pos rfl]; rfl
 ·rw [List.getElem?_set_ne (fun h => e h.symm), if_neg e]
theorem joinB_grp (m : List Int) : ∀ n, n ≤ m.length → joinB (grpN m n) (grpN m n).length = m.take n
 | 0, _ => by simp [grpN, joinB]
 | n + 1, hn => by
  have ih := joinB_grp m n (by omega)
  have hp := grpN_pos m n
  rw [take_step m n (by omega), grpN]
  generalize grpN m n = g at *
  by_cases h10 : rd m (n : Int) = -10
  ·rw [if_pos h10, List.length_append, List.length_singleton, joinB, if_neg (by omega), getD_app_end, joinB_congr (gs' := g) g.length (fun j hj => getD_app_left g [] j hj), ih, List.append_nil, h10]
  ·rw [if_neg h10, List.length_set]
   obtain ⟨q, hq⟩ : ∃ q, g.length = q + 1 := ⟨g.length - 1, by omega⟩
   rw [hq] at ih ⊢
   rw [joinB, Nat.add_sub_cancel, getD_setG g _ q q (by omega), if_pos rfl, joinB_congr (gs' := g) q (fun j hj => by rw [getD_setG g _ q j (by omega), if_neg (by omega)]), ← ih, joinB, List.append_assoc]
theorem grp_count {h : List Int} : ∀ (n : Nat) (o : List Int) (s : Nat), runH h n = some (o, s) → (∀ j : Nat, j < n → (rd o (j : Int) = -10 ↔ rd h (j : Int) = -10)) ∧ o.length = n
 | 0, o, s, e => by
  simp only [runH, Option.some.injEq, Prod.mk.injEq] at e
  obtain ⟨rfl, rfl⟩ := e
  exact ⟨fun j hj => absurd hj (by omega), rfl⟩
 | n + 1, o, s, e => by
  have hg := runH_good (n + 1) o s e
  rw [runH] at e
  cases hr : runH h n with
  | none => rw [hr] at e; cases e
  | some st =>
   obtain ⟨o1, s1⟩ := st
   have g1 := runH_good n o1 s1 hr
   obtain ⟨ih, hl⟩ := grp_count n o1 s1 hr
   rw [hr, Option.bind_some] at e
   have key : ∀ y : Int, o = o1 ++ [y] → (y = -10 ↔ rd h (n : Int) = -10) → (∀ j : Nat, j < n + 1 → (rd o (j : Int) = -10 ↔ rd h (j : Int) = -10)) ∧ o.length = n + 1 := by
    intro y ho hy
    subst ho
    refine ⟨fun j hj => ?_, by simp [hl]⟩
    rcases Nat.lt_or_ge j n with h1 | h1
    ·rw [rd_app_left o1 [y] j (by omega)]; exact ih j h1
    ·obtain rfl : j = o1.length := by omega
     rw [rd_app_end, hl]; exact hy
   unfold stepH at e
   dsimp only at e
   by_cases h10 : rd h (n : Int) = -10
   ·rw [if_pos h10] at e
    split at e
    ·cases e
    ·simp only [Option.some.injEq, Prod.mk.injEq] at e
     exact key _ e.1.symm (by simp [h10])
   ·rw [if_neg h10] at e
    split at e
    ·rename_i hx
     simp only [Option.some.injEq, Prod.mk.injEq] at e
     exact key _ e.1.symm (by simp [h10])
    ·split at e
     ·rename_i hx
      split at e
      ·rename_i hat
       simp only [Option.some.injEq, Prod.mk.injEq] at e
       have hk := g1.kind ((s1 : Int) + -rd h (n : Int) - 1).toNat (by omega) (by have := g1.len; omega)
       rw [Int.toNat_of_nonneg (by omega)] at hk
       exact key _ e.1.symm (by constructor <;> intro h <;> omega)
      ·cases e
     ·cases e
def cnb (h : List Int) : Nat → Int
 | 0 => 0
 | k + 1 => cnb h k + if rd h (k : Int) = -10 then 0 else 1
theorem grp_len (h o : List Int) : ∀ n, (∀ j : Nat, j < n → (rd o (j : Int) = -10 ↔ rd h (j : Int) = -10)) → ((grpN o n).length : Int) - 1 + cnb h n = n
 | 0, _ => by simp [grpN, cnb]
 | n + 1, hh => by
  have ih := grp_len h o n (fun j hj => hh j (by omega))
  have h1 := hh n (by omega)
  rw [grpN, cnb]
  by_cases h10 : rd h (n : Int) = -10
  ·rw [if_pos (h1.2 h10), if_pos h10, List.length_append, List.length_singleton]; omega
  ·rw [if_neg (fun e => h10 (h1.1 e)), if_neg h10, List.length_set]; omega
theorem grpN_app (o : List Int) (y : Int) : ∀ n, n ≤ o.length → grpN (o ++ [y]) n = grpN o n
 | 0, _ => rfl
 | n + 1, hn => by rw [grpN, grpN, grpN_app o y n (by omega), rd_app_left o [y] n (by omega)]
structure Full (o : List Int) (n s : Nat) : Prop where
 le : s ≤ n
 last : ((grpN o n).getD ((grpN o n).length - 1) []).length = n - s
 full : ∀ j, j + 1 < (grpN o n).length → (grpN o n).getD j [] ≠ []
theorem Full.brk {o : List Int} {n s : Nat} (f : Full o n s) (hl : o.length = n) (hs : s ≠ n) : Full (o ++ [-10]) (n + 1) (n + 1) := by
 have e : grpN (o ++ [-10]) (n + 1) = grpN o n ++ [[]] := by
  rw [grpN, grpN_app o _ n (by omega), if_pos (by rw [← hl]; exact rd_app_end o _)]
 have hp := grpN_pos o n
 obtain ⟨h1, h2, h3⟩ := f
 refine ⟨Nat.le_refl _, ?_, fun j hj => ?_⟩
 ·rw [e, List.length_append, List.length_singleton, Nat.add_sub_cancel, getD_app_end]; simp
 ·rw [e, List.length_append, List.length_singleton] at hj
  rw [e, getD_app_left _ _ j (by omega)]
  by_cases h4 : j + 1 < (grpN o n).length
  ·exact h3 j h4
  ·obtain rfl : j = (grpN o n).length - 1 := by omega
   intro h5
   rw [h5] at h2
   simp at h2
   omega
theorem Full.one {o : List Int} {n s : Nat} (f : Full o n s) (hl : o.length = n) {y : Int} (hy : y ≠ -10) : Full (o ++ [y]) (n + 1) s := by
 have e : grpN (o ++ [y]) (n + 1) = (grpN o n).set ((grpN o n).length - 1) ((grpN o n).getD ((grpN o n).length - 1) [] ++ [y]) := by
  have hr : rd (o ++ [y]) (n : Int) = y := by rw [← hl]; exact rd_app_end o _
  rw [grpN, grpN_app o _ n (by omega), hr, if_neg hy]
 have hp := grpN_pos o n
 obtain ⟨h1, h2, h3⟩ := f
 refine ⟨by omega, ?_, fun j hj => ?_⟩
 ·rw [e, List.length_set, getD_setG _ _ _ _ (by omega), if_pos rfl, List.length_append, h2]; simp; omega
 ·rw [e, List.length_set] at hj
  rw [e, getD_setG _ _ _ _ (by omega), if_neg (by omega)]
  exact h3 j hj
theorem runH_full {h : List Int} : ∀ (n : Nat) (o : List Int) (s : Nat), runH h n = some (o, s) → Full o n s
 | 0, o, s, e => by
  simp only [runH, Option.some.injEq, Prod.mk.injEq] at e
  obtain ⟨rfl, rfl⟩ := e
  exact ⟨Nat.le_refl _, by simp [grpN], fun j hj => by simp [grpN] at hj⟩
 | n + 1, o, s, e => by
  rw [runH] at e
  cases hr : runH h n with
  | none => rw [hr] at e; cases e
  | some st =>
   obtain ⟨o1, s1⟩ := st
   have g1 := runH_good n o1 s1 hr
   have ih := runH_full n o1 s1 hr
   rw [hr, Option.bind_some] at e
   unfold stepH at e
   dsimp only at e
   by_cases h10 : rd h (n : Int) = -10
   ·rw [if_pos h10] at e
    split at e
    ·cases e
    ·rename_i hs
     simp only [Option.some.injEq, Prod.mk.injEq] at e
     obtain ⟨rfl, rfl⟩ := e
     rw [h10, g1.len]
     rw [g1.len] at hs
     exact ih.brk g1.len hs
   ·rw [if_neg h10] at e
    split at e
    ·rename_i hx
     simp only [Option.some.injEq, Prod.mk.injEq] at e
     obtain ⟨rfl, rfl⟩ := e
     exact ih.one g1.len h10
    ·split at e
     ·rename_i hx
      split at e
      ·rename_i hat
       simp only [Option.some.injEq, Prod.mk.injEq] at e
       obtain ⟨rfl, rfl⟩ := e
       have hk := g1.kind ((s1 : Int) + -rd h (n : Int) - 1).toNat (by omega) (by have := g1.len; omega)
       rw [Int.toNat_of_nonneg (by omega)] at hk
       exact ih.one g1.len (by omega)
      ·cases e
     ·cases e
theorem readH_run {h m : List Int} (e : readH h = some m) : ∃ s, runH h h.length = some (m, s) ∧ s < m.length ∧ m.length = h.length := by
 unfold readH at e
 split at e
 ·cases hr : runH h h.length with
  | none => rw [hr] at e; cases e
  | some st =>
   obtain ⟨o, s⟩ := st
   rw [hr] at e
   dsimp only at e
   split at e
   ·rename_i hs
    cases e
    exact ⟨s, rfl, hs, (runH_good _ _ _ hr).len⟩
   ·cases e
 ·cases e
theorem groups_full {h m : List Int} (e : readH h = some m) : ∀ j, j < (grpN m m.length).length → (grpN m m.length).getD j [] ≠ [] := by
 obtain ⟨s, hr, hs, hl⟩ := readH_run e
 have f := runH_full _ _ _ hr
 rw [← hl] at f
 intro j hj
 by_cases h4 : j + 1 < (grpN m m.length).length
 ·exact f.full j h4
 ·obtain rfl : j = (grpN m m.length).length - 1 := by omega
  have := f.last
  intro h5
  rw [h5] at this
  simp at this
  omega
theorem readH_set {h m : List Int} (e : readH h = some m) {at_ : Nat} {k : Int} (ha : at_ < h.length) (h0 : 0 ≤ rd h (at_ : Int)) (hk0 : 0 ≤ k) (hk : k ≤ 39) : ∃ m', readH (h.set at_ k) = some m' ∧ Beside h at_ k h.length m m' := by
 obtain ⟨s, hr, hs, hl⟩ := readH_run e
 obtain ⟨o', hr', b⟩ := runH_set ha h0 hk0 hk _ _ _ (Nat.le_refl _) hr
 refine ⟨o', ?_, b⟩
 have hlen := okH_len (h := h) (by unfold okH; rw [e]; rfl)
 unfold readH
 rw [List.length_set, if_pos hlen, hr']
 dsimp only
 rw [if_pos (by rw [b.len']; omega)]
theorem runH_plainN {h : List Int} : ∀ (n : Nat) (o : List Int) (s : Nat), runH h n = some (o, s) → (∀ x ∈ o, PlainN x) ∧ runH o n = some (o, s)
 | 0, o, s, e => by
  have e2 := e
  simp only [runH, Option.some.injEq, Prod.mk.injEq] at e
  obtain ⟨rfl, rfl⟩ := e
  exact ⟨by simp, rfl⟩
 | n + 1, o, s, e => by
  rw [runH] at e
  cases hr : runH h n with
  | none => rw [hr] at e; cases e
  | some st =>
   obtain ⟨o1, s1⟩ := st
   have g1 := runH_good n o1 s1 hr
   obtain ⟨ih, ih2⟩ := runH_plainN n o1 s1 hr
   have hl := g1.len
   have app : ∀ y : Int, (0 ≤ y ∧ y ≤ 39) → (∀ x ∈ o1 ++ [y], PlainN x) ∧ runH (o1 ++ [y]) (n + 1) = some (o1 ++ [y], s1) := fun y hy => by
    refine ⟨fun x hx => ?_, ?_⟩
    ·rcases List.mem_append.1 hx with h | h
     ·exact ih x h
     ·rw [List.mem_singleton] at h; subst h; exact .inr hy
    ·rw [runH, runH_left o1 y n (by omega), ih2, Option.bind_some]
     have hr1 : rd (o1 ++ [y]) (n : Int) = y := by rw [← hl]; exact rd_app_end o1 y
     rw [hr1]
     unfold stepH
     dsimp only
     rw [if_neg (by omega), if_pos hy]
   rw [hr, Option.bind_some] at e
   unfold stepH at e
   dsimp only at e
   by_cases h10 : rd h (n : Int) = -10
   ·rw [if_pos h10] at e
    split at e
    ·cases e
    ·rename_i hs
     simp only [Option.some.injEq, Prod.mk.injEq] at e
     obtain ⟨rfl, rfl⟩ := e
     rw [h10]
     refine ⟨fun x hx => ?_, ?_⟩
     ·rcases List.mem_append.1 hx with h | h
      ·exact ih x h
      ·rw [List.mem_singleton] at h; subst h; exact .inl rfl
     ·rw [runH, runH_left o1 _ n (by omega), ih2, Option.bind_some]
      have hr1 : rd (o1 ++ [-10]) (n : Int) = -10 := by rw [← hl]; exact rd_app_end o1 _
      rw [hr1]
      unfold stepH
      dsimp only
      rw [if_pos rfl, if_neg hs]
   ·rw [if_neg h10] at e
    split at e
    ·rename_i hx
     simp only [Option.some.injEq, Prod.mk.injEq] at e
     obtain ⟨rfl, rfl⟩ := e
     exact app _ hx
    ·split at e
     ·rename_i hx
      split at e
      ·rename_i hat
       simp only [Option.some.injEq, Prod.mk.injEq] at e
       obtain ⟨rfl, rfl⟩ := e
       have hk := g1.kind ((s1 : Int) + -rd h (n : Int) - 1).toNat (by omega) (by have := g1.len; omega)
       rw [Int.toNat_of_nonneg (by omega)] at hk
       exact app _ hk
      ·cases e
     ·cases e
theorem plain_of {h m : List Int} (e : readH h = some m) : plainM m = true := by
 obtain ⟨s, hr, hs, hl⟩ := readH_run e
 obtain ⟨hN, hr2⟩ := runH_plainN _ _ _ hr
 have hlen := okH_len (h := h) (by unfold okH; rw [e]; rfl)
 unfold plainM
 rw [Bool.and_eq_true, Bool.not_eq_true', List.any_eq_false]
 refine ⟨?_, fun x hx => ?_⟩
 ·unfold okH readH
  rw [hl, if_pos hlen, hr2]
  dsimp only
  rw [if_pos hs]; rfl
 ·have := hN x hx
  unfold PlainN at this
  unfold oddM
  rw [Bool.and_eq_true, decide_eq_true_eq, decide_eq_true_eq]
  omega
def offL (m m' : List Int) : Nat → List Int
 | 0 => []
 | n + 1 => if rd m (n : Int) = rd m' (n : Int) then offL m m' n else offL m m' n ++ [(n : Int)]
theorem offL_le (m m' : List Int) : ∀ n, (offL m m' n).length ≤ n
 | 0 => by simp [offL]
 | n + 1 => by
  have := offL_le m m' n
  rw [offL]
  split
  ·omega
  ·simp; omega
theorem offL_mem (m m' : List Int) : ∀ (n : Nat) (x : Int), x ∈ offL m m' n ↔ ∃ j : Nat, j < n ∧ x = (j : Int) ∧ rd m (j : Int) ≠ rd m' (j : Int)
 | 0, x => by simp [offL]
 | n + 1, x => by
  have ih := offL_mem m m' n x
  rw [offL]
  split
  ·rename_i he
   rw [ih]
   constructor
   ·rintro ⟨j, h1, h2, h3⟩; exact ⟨j, by omega, h2, h3⟩
   ·rintro ⟨j, h1, h2, h3⟩
    rcases Nat.lt_or_ge j n with h | h
    ·exact ⟨j, h, h2, h3⟩
    ·obtain rfl : j = n := by omega
     exact absurd he h3
  ·rename_i he
   rw [List.mem_append, List.mem_singleton, ih]
   constructor
   ·rintro (⟨j, h1, h2, h3⟩ | rfl)
    ·exact ⟨j, by omega, h2, h3⟩
    ·exact ⟨n, by omega, rfl, he⟩
   ·rintro ⟨j, h1, h2, h3⟩
    rcases Nat.lt_or_ge j n with h | h
    ·exact .inl ⟨j, h, h2, h3⟩
    ·obtain rfl : j = n := by omega
     exact .inr h2
def sumN (L : List Int) : Nat → Int
 | 0 => 0
 | i + 1 => sumN L i + rd L (i : Int)
end Go.Proofs.YtpbomchjcgndoaaGreatDoor.Arr
namespace Go.Proofs.YtpbomchjcgndoaaGreatDoor.Arr
open Go.RowKit Go.Proofs.YtpbomchjcgndoaaGreatDoorW.PrintWords Go.Proofs.YtpbomchjcgndoaaGreatDoorW.PrintLast Go.Proofs.YtpbomchjcgndoaaGreatDoorW.PrintMore Go.Proofs.YtpbomchjcgndoaaGreatDoor.U Go.Proofs.YtpbomchjcgndoaaGreatDoor.N
set_option linter.unusedVariables false
set_option linter.unusedSimpArgs false
set_option maxHeartbeats 1000000 in
set_option maxRecDepth 100000 in
theorem indexFunc_i8 (g : FuncId) (hg : ∀ (a : Array Value) (W : World), (callFunc g a).run Tryz.prog W = .ok (.enter g a) W) (cap : Array Value) (p : Int → Bool) (A0 : Option Addr) (c0 : Nat) (l0 : List Int) (w : World) (hr0 : Kd.C (Kd.int .i8) w A0 l0.length l0) (hc0 : l0.length ≤ c0)
  (hf : ∀ x ∈ l0, ∀ W, Below w.heap.size w W → Calls Tryz.prog g (#[.int .i8 x] ++ cap) W fun e W' => e = .returned (.bool (p x)) ∧ Below W.heap.size W W') :
  Calls Tryz.prog 62 #[.slice A0 l0.length c0, .func (.func g) #[] cap] w fun e w' => e = .returned (.int .i64 (ixa p l0)) ∧ Below w.heap.size w w' := by
 have HF := Aside0.mk hf
 have HR0 := Aside0.mk hr0
 have hm := Kd.C_max hr0
 clear hf hr0
 go_enter Tryz.func62, Tryz.ntmps62
 go_wp2_with fail
 go_loopw [8, 5] (fun v8 v5 wr => ∃ i : Nat, i ≤ l0.length ∧ v8 = .int .i64 i ∧ Aside0 (Below w.heap.size w wr) ∧ Aside0 (∀ j, j < i → ∀ y, l0[j]? = some y → p y = false)) (fun v8 _ _ => l0.length - (intOf v8).toNat)
 case atStart => exact ⟨0, Nat.zero_le _, rfl, ⟨Below.refl _ _⟩, ⟨fun j hj => absurd hj (by omega)⟩⟩
 case round =>
  obtain ⟨i, hi, rfl, HB, HP⟩ := hrel
  by_cases hlt : i < l0.length
  ·obtain ⟨ad, rfl, hcell⟩ := Kd.at_int (Kd.C_below HR0.out HB.out) (i : Int) (by omega) (by omega)
   rw [Int.toNat_natCast] at hcell
   have HM := Aside0.mk (HF.out (rd l0 (i : Int)) (by rw [rd_get l0 i hlt]; exact List.getElem_mem hlt) wr HB.out)
   have HX : Aside0 (l0[i]? = some (rd l0 (i : Int))) := ⟨by rw [rd_get l0 i hlt, List.getElem?_eq_getElem hlt]⟩
   generalize rd l0 (i : Int) = x at *
   cases hp : p x with
   | true =>
    have HPX := Aside0.mk hp
    rw [hp] at HM
    clear hp
    go_wp2_with (refine HM.out.mono ?_; rintro e w1 ⟨rfl, hb1⟩; have HB1 := Aside0.mk hb1; clear hb1)
    go_ret
    exact ⟨by rw [ixa_found p l0 i x HX.out HP.out HPX.out]; rfl, below_then HB.out HB1.out⟩
   | false =>
    have HPX := Aside0.mk hp
    rw [hp] at HM
    clear hp
    go_wp2_with (refine HM.out.mono ?_; rintro e w1 ⟨rfl, hb1⟩; have HB1 := Aside0.mk hb1; clear hb1)
    go_roundw
    case rel => exact ⟨i + 1, by omega, by go_num, ⟨HB.out.trans (HB1.out.mono HB.out.size)⟩, ⟨fun j hj y hy => by
     rcases Nat.lt_or_ge j i with h | h
     ·exact HP.out j h y hy
     ·obtain rfl : j = i := by omega
      rw [HX.out] at hy
      rw [← Option.some.inj hy]; exact HPX.out⟩⟩
    case measure => simp [intOf]; omega
  ·have HI := Aside0.mk (show i = l0.length by omega)
   go_wp2_with fail
   go_ret
   exact ⟨by rw [ixa_none p l0 (fun j hj => HP.out j (by rw [HI.out]; exact hj))]; rfl, HB.out⟩
set_option maxHeartbeats 1000000 in
set_option maxRecDepth 100000 in
theorem containsFunc_i8 (g : FuncId) (hg : ∀ (a : Array Value) (W : World), (callFunc g a).run Tryz.prog W = .ok (.enter g a) W) (cap : Array Value) (p : Int → Bool) (A0 : Option Addr) (c0 : Nat) (l0 : List Int) (w : World) (hr0 : Kd.C (Kd.int .i8) w A0 l0.length l0) (hc0 : l0.length ≤ c0)
  (hf : ∀ x ∈ l0, ∀ W, Below w.heap.size w W → Calls Tryz.prog g (#[.int .i8 x] ++ cap) W fun e W' => e = .returned (.bool (p x)) ∧ Below W.heap.size W W') :
  Calls Tryz.prog 43 #[.slice A0 l0.length c0, .func (.func g) #[] cap] w fun e w' => e = .returned (.bool (l0.any p)) ∧ Below w.heap.size w w' := by
 have HM := Aside0.mk (indexFunc_i8 g hg cap p A0 c0 l0 w hr0 hc0 hf)
 have HA := Aside0.mk (ixa_any p l0)
 clear hf hr0 hg hc0
 generalize ixa p l0 = n at *
 generalize l0.any p = b at *
 go_enter Tryz.func43, Tryz.ntmps43
 go_wp2_with (go_at_call 62; refine HM.out.mono ?_; rintro e w1 ⟨rfl, hb1⟩; have HB1 := Aside0.mk hb1; clear hb1)
 go_ret
 exact ⟨by rw [← HA.out]; rfl, HB1.out⟩
set_option maxHeartbeats 1000000 in
set_option maxRecDepth 100000 in
theorem validMeaning1 (x : Int) (w : World) : Calls Tryz.prog 44 (#[.int .i8 x] ++ #[]) w fun e w' => e = .returned (.bool (oddM x)) ∧ Below w.heap.size w w' := by
 show Calls Tryz.prog 44 #[.int .i8 x] w _
 by_cases h0 : x < 0
 ·by_cases h1 : x = -10
  ·subst h1
   rw [show oddM (-10) = false from rfl]
   go_enter Tryz.func44, Tryz.ntmps44
   go_wp2
   go_ret
   exact ⟨rfl, Below.refl _ _⟩
  ·have h2 : (x != -10) = true := by rw [bne_iff_ne]; exact h1
   rw [show oddM x = true by unfold oddM; rw [decide_eq_true h0, decide_eq_true h1]; rfl]
   clear h1
   go_enter Tryz.func44, Tryz.ntmps44
   go_wp2
   go_ret
   exact ⟨rfl, Below.refl _ _⟩
 ·rw [show oddM x = false by unfold oddM; rw [decide_eq_false h0]; rfl]
  go_enter Tryz.func44, Tryz.ntmps44
  go_wp2
  go_ret
  exact ⟨rfl, Below.refl _ _⟩
theorem validMeaning1_enters (a : Array Value) (W : World) : (callFunc 44 a).run Tryz.prog W = .ok (.enter 44 a) W := by kernel_rfl
set_option maxHeartbeats 2000000 in
set_option maxRecDepth 100000 in
theorem validMeaning_calls (A0 : Option Addr) (c0 : Nat) (m : List Int) (w : World) (hr : Kd.C (Kd.int .i8) w A0 m.length m) (hc : m.length ≤ c0) (hs : Small8 m) :
  Calls Tryz.prog 20 #[.slice A0 m.length c0] w fun e w' => e = .returned (.bool (plainM m)) ∧ Below w.heap.size w w' := by
 have HV := Aside0.mk (validHoist_calls A0 c0 m w hr hc hs.1 hs.2)
 have HCF : Aside0 (∀ W, Below w.heap.size w W → Calls Tryz.prog 43 #[.slice A0 m.length c0, .func (.func 44) #[] #[]] W fun e w' => e = .returned (.bool (m.any oddM)) ∧ Below W.heap.size W w') := ⟨fun W hW =>
  containsFunc_i8 _ validMeaning1_enters #[] oddM A0 c0 m W (Kd.C_below hr hW) hc fun x _ W1 _ => validMeaning1 x W1⟩
 unfold plainM
 clear hr hs
 generalize m.any oddM = b2 at *
 generalize okH m = b1 at *
 cases b1
 ·go_enter Tryz.func20, Tryz.ntmps20
  go_wp2_with (go_at_call 19; refine HV.out.mono ?_; rintro e w1 ⟨rfl, hb1⟩; have HB1 := Aside0.mk hb1; clear hb1)
  go_ret
  exact ⟨rfl, HB1.out⟩
 ·go_enter Tryz.func20, Tryz.ntmps20
  go_wp2_with (first
   | (go_at_call 19; refine HV.out.mono ?_; rintro e w1 ⟨rfl, hb1⟩; have HB1 := Aside0.mk hb1; clear hb1)
   | (go_at_call 43; refine (HCF.out _ HB1.out).mono ?_; rintro e w2 ⟨rfl, hb2⟩; have HB2 := Aside0.mk hb2; clear hb2))
  go_ret
  exact ⟨rfl, HB1.out.trans (HB2.out.mono HB1.out.size)⟩
end Go.Proofs.YtpbomchjcgndoaaGreatDoor.Arr
namespace Go.Proofs.YtpbomchjcgndoaaGreatDoor.O
open Go.RowKit Go.Proofs.YtpbomchjcgndoaaGreatDoorW.PrintWords Go.Proofs.YtpbomchjcgndoaaGreatDoorW.PrintLast Go.Proofs.YtpbomchjcgndoaaGreatDoorW.PrintMore
attribute [local go_sem] max2_int min2_int max_two min_two max_three min_three max_four min_four
set_option linter.unusedVariables false
set_option linter.unusedSimpArgs false
def errW : Option Int → Value
 | none => .nilIface
 | some c => .iface 0 (.int .i64 c)
theorem errW_none : errW none = .nilIface := rfl
theorem errW_some (c : Int) : errW (some c) = .iface 0 (.int .i64 c) := rfl
theorem info2 : (Tryz.prog.info? 2).map (fun i => (i.zero, i.size, i.bytes)) = some (some (.int .i64 0), 1, 8) := by kernel_rfl
theorem info51 : (Tryz.prog.info? 51).map (fun i => (i.zero, i.size, i.bytes)) = some (some (.int .i8 0), 1, 1) := by kernel_rfl
end Go.Proofs.YtpbomchjcgndoaaGreatDoor.O
