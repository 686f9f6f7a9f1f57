/- The texts that the statement FnExactReadLocker needs, part 1: contracts of the program's functions and plain laws, without what it does not reach. No condition beyond what each theorem says. -/
import Derived.Shelf.Strconv.Itoa4
import Derived.Shelf.Strings.OnBuilder
import Derived.Test.YtehagnkcfgkomaaDoorProg
import Derived.KernelRfl
import Derived.Below
import Derived.Deep.Draws
import Derived.Deep.AppendLies
import Derived.Maps.AppendAt
import Derived.OwnWalk
import Derived.Laws.BytesArg
import Derived.Laws.MakeOwn
import Derived.Laws.OwnMore
import Derived.Deep.OwnRows
import Derived.Tactics
import Derived.Lib.ConvBytes
import Derived.Laws.Slices
import Derived.WalkKit
import Derived.RowKit3
import Derived.Deep.LoopGhost
import Derived.Deep.QuietTactic
import Derived.BigQuiet
import Derived.WideLaws
import Derived.Deep.DeepCutAuto
import Derived.Deep.CutBlock
import Derived.Deep.RegionHeld3
import Derived.Laws.Rows
import Derived.Lib.AppendStr
import Derived.ArgAppend
import Derived.Laws.IdiomCopy
import Derived.RowKit
import Derived.OrdersHeld
import Derived.Laws.BitsLemmas
import Derived.Laws.StructEq
import Derived.Laws.Tables
import Derived.BigFrame
import Derived.Laws.CopyRow
import Derived.Laws.ResultCell
import Derived.WalkSpells
import Derived.Lib.SplitLaws
import Derived.Lib.ParseIntB
import Derived.Lib.CountLaws
import Derived.Shelf.Strings.SplitShaped
import Derived.Shelf.Strings.Shaped
import Derived.Shelf.Small.Wraps
import Derived.Shelf.Strconv.ErrVarParseInt
import Derived.Lib.SmallJoins
import Derived.Lib.AppendIntMem
import Derived.Lib.ParseIntBTie
import Derived.ProofKit
import Derived.OpenShut
import Derived.Deep.Slices
import Derived.Test.YtehagnkcfgkomaaDoorRows
import Derived.ShutString
import Derived.ChangeOld
import Derived.SizedLaws
import Derived.HandedShaped
import Derived.LaidMore
import Derived.Lay
import Derived.Stop.Joined
import Derived.Stop.LaidErr
import Derived.Lib.LaidTab
import Derived.Test.YtehagnkcfgkomaaDoorCards
import Derived.Test.YtehagnkcfgkomaaDoorTie
import Derived.SevenTiedAt
import Derived.Test.YtehagnkcfgkomaaDoorZFnExactReadLocker0
namespace Go.Proofs.YtehagnkcfgkomaaDoor.Arr
open Go.Shelf Go.Proofs
set_option maxRecDepth 100000
def ren173 : Ren :=
{
 f := fun x =>
  match x with
  | 173 => 33
  | 246 => 42
  | 283 => 52
  | 284 => 53
  | 285 => 54
  | 286 => 55
  | 129 => 71
  | 317 => 70
  | 318 => 72
  | 319 => 73
  | 320 => 74
  | 337 => 83
  | 338 => 84
  | n => n,
 t := fun x =>
  match x with
  | 2 => 2
  | 3 => 3
  | 9 => 9
  | 4 => 4
  | 171 => 88
  | 0 => 0
  | 53 => 89
  | 37 => 68
  | 5 => 5
  | 173 => 92
  | 212 => 110
  | 51 => 111
  | 20 => 20
  | 213 => 112
  | 46 => 102
  | 232 => 130
  | 233 => 131
  | n => n,
 g := fun x =>
  match x with
  | 17 => 1
  | 18 => 6
  | 19 => 7
  | n => n }
theorem lay173 : Lays.n173 Go.Proofs.Tryd.prog ren173 where
 mixed := by kernel_rfl
 f129 := Eq.trans Go.Proofs.Tryd.func71 (congrArg some (by kernel_rfl))
 f173 := Eq.trans Go.Proofs.Tryd.func33 (congrArg some (by kernel_rfl))
 f246 := Eq.trans Go.Proofs.Tryd.func42 (congrArg some (by kernel_rfl))
 f283 := Eq.trans Go.Proofs.Tryd.func52 (congrArg some (by kernel_rfl))
 f284 := Eq.trans Go.Proofs.Tryd.func53 (congrArg some (by kernel_rfl))
 f285 := Eq.trans Go.Proofs.Tryd.func54 (congrArg some (by kernel_rfl))
 f286 := Eq.trans Go.Proofs.Tryd.func55 (congrArg some (by kernel_rfl))
 f317 := Eq.trans Go.Proofs.Tryd.func70 (congrArg some (by kernel_rfl))
 f318 := Eq.trans Go.Proofs.Tryd.func72 (congrArg some (by kernel_rfl))
 f319 := Eq.trans Go.Proofs.Tryd.func73 (congrArg some (by kernel_rfl))
 f320 := Eq.trans Go.Proofs.Tryd.func74 (congrArg some (by kernel_rfl))
 f337 := Eq.trans Go.Proofs.Tryd.func83 (congrArg some (by kernel_rfl))
 f338 := Eq.trans Go.Proofs.Tryd.func84 (congrArg some (by kernel_rfl))
 t0 := Go.Proofs.Tryd.underlying0
 a0 := Go.Proofs.Tryd.isAgg0
 z0 := Go.Proofs.Tryd.sizeOf0
 v0 := Go.Proofs.Tryd.zeroValue0
 t2 := Go.Proofs.Tryd.underlying2
 a2 := Go.Proofs.Tryd.isAgg2
 z2 := Go.Proofs.Tryd.sizeOf2
 v2 := Go.Proofs.Tryd.zeroValue2
 t3 := Go.Proofs.Tryd.underlying3
 a3 := Go.Proofs.Tryd.isAgg3
 z3 := Go.Proofs.Tryd.sizeOf3
 v3 := Go.Proofs.Tryd.zeroValue3
 t4 := Go.Proofs.Tryd.underlying4
 a4 := Go.Proofs.Tryd.isAgg4
 z4 := Go.Proofs.Tryd.sizeOf4
 v4 := Go.Proofs.Tryd.zeroValue4
 t5 := Go.Proofs.Tryd.underlying5
 a5 := Go.Proofs.Tryd.isAgg5
 z5 := Go.Proofs.Tryd.sizeOf5
 v5 := Go.Proofs.Tryd.zeroValue5
 t9 := Go.Proofs.Tryd.underlying9
 a9 := Go.Proofs.Tryd.isAgg9
 z9 := Go.Proofs.Tryd.sizeOf9
 v9 := Go.Proofs.Tryd.zeroValue9
 t20 := Go.Proofs.Tryd.underlying20
 a20 := Go.Proofs.Tryd.isAgg20
 z20 := Go.Proofs.Tryd.sizeOf20
 v20 := Go.Proofs.Tryd.zeroValue20
 t37 := Go.Proofs.Tryd.underlying68
 a37 := Go.Proofs.Tryd.isAgg68
 z37 := Go.Proofs.Tryd.sizeOf68
 v37 := Go.Proofs.Tryd.zeroValue68
 t46 := Go.Proofs.Tryd.underlying102
 a46 := Go.Proofs.Tryd.isAgg102
 z46 := Go.Proofs.Tryd.sizeOf102
 v46 := Go.Proofs.Tryd.zeroValue102
 t51 := Go.Proofs.Tryd.underlying111
 a51 := Go.Proofs.Tryd.isAgg111
 z51 := Go.Proofs.Tryd.sizeOf111
 v51 := Go.Proofs.Tryd.zeroValue111
 t53 := Go.Proofs.Tryd.underlying89
 a53 := Go.Proofs.Tryd.isAgg89
 z53 := Go.Proofs.Tryd.sizeOf89
 v53 := Go.Proofs.Tryd.zeroValue89
 t171 := Go.Proofs.Tryd.underlying88
 a171 := Go.Proofs.Tryd.isAgg88
 z171 := Go.Proofs.Tryd.sizeOf88
 v171 := Go.Proofs.Tryd.zeroValue88
 t173 := Go.Proofs.Tryd.underlying92
 a173 := Go.Proofs.Tryd.isAgg92
 z173 := Go.Proofs.Tryd.sizeOf92
 v173 := Go.Proofs.Tryd.zeroValue92
 t212 := Go.Proofs.Tryd.underlying110
 a212 := Go.Proofs.Tryd.isAgg110
 z212 := Go.Proofs.Tryd.sizeOf110
 v212 := Go.Proofs.Tryd.zeroValue110
 t213 := Go.Proofs.Tryd.underlying112
 a213 := Go.Proofs.Tryd.isAgg112
 z213 := Go.Proofs.Tryd.sizeOf112
 t232 := Go.Proofs.Tryd.underlying130
 a232 := Go.Proofs.Tryd.isAgg130
 z232 := Go.Proofs.Tryd.sizeOf130
 v232 := Go.Proofs.Tryd.zeroValue130
 t233 := Go.Proofs.Tryd.underlying131
 a233 := Go.Proofs.Tryd.isAgg131
 z233 := Go.Proofs.Tryd.sizeOf131
 v233 := Go.Proofs.Tryd.zeroValue131
 g17 := by kernel_rfl
 g18 := by kernel_rfl
 g19 := by kernel_rfl
def ren156 : Ren :=
{
 f := fun x =>
  match x with
  | 156 => 17
  | 165 => 34
  | 166 => 35
  | 169 => 36
  | 240 => 43
  | 241 => 44
  | 276 => 56
  | 277 => 57
  | n => n,
 t := fun x =>
  match x with
  | 31 => 41
  | 9 => 9
  | 3 => 3
  | 4 => 4
  | 0 => 0
  | 20 => 20
  | 72 => 70
  | 76 => 74
  | 70 => 67
  | 37 => 68
  | 75 => 73
  | 127 => 82
  | 164 => 94
  | 5 => 5
  | 80 => 76
  | n => n,
 g := fun n => n }
theorem lay156 : Lays.n156 Go.Proofs.Tryd.prog ren156 where
 mixed := by kernel_rfl
 f156 := Eq.trans Go.Proofs.Tryd.func17 (congrArg some (by kernel_rfl))
 f165 := Eq.trans Go.Proofs.Tryd.func34 (congrArg some (by kernel_rfl))
 f166 := Eq.trans Go.Proofs.Tryd.func35 (congrArg some (by kernel_rfl))
 f169 := Eq.trans Go.Proofs.Tryd.func36 (congrArg some (by kernel_rfl))
 f240 := Eq.trans Go.Proofs.Tryd.func43 (congrArg some (by kernel_rfl))
 f241 := Eq.trans Go.Proofs.Tryd.func44 (congrArg some (by kernel_rfl))
 f276 := Eq.trans Go.Proofs.Tryd.func56 (congrArg some (by kernel_rfl))
 f277 := Eq.trans Go.Proofs.Tryd.func57 (congrArg some (by kernel_rfl))
 t0 := Go.Proofs.Tryd.underlying0
 a0 := Go.Proofs.Tryd.isAgg0
 z0 := Go.Proofs.Tryd.sizeOf0
 v0 := Go.Proofs.Tryd.zeroValue0
 t3 := Go.Proofs.Tryd.underlying3
 a3 := Go.Proofs.Tryd.isAgg3
 z3 := Go.Proofs.Tryd.sizeOf3
 v3 := Go.Proofs.Tryd.zeroValue3
 t4 := Go.Proofs.Tryd.underlying4
 a4 := Go.Proofs.Tryd.isAgg4
 z4 := Go.Proofs.Tryd.sizeOf4
 v4 := Go.Proofs.Tryd.zeroValue4
 t9 := Go.Proofs.Tryd.underlying9
 a9 := Go.Proofs.Tryd.isAgg9
 z9 := Go.Proofs.Tryd.sizeOf9
 v9 := Go.Proofs.Tryd.zeroValue9
 t20 := Go.Proofs.Tryd.underlying20
 a20 := Go.Proofs.Tryd.isAgg20
 z20 := Go.Proofs.Tryd.sizeOf20
 v20 := Go.Proofs.Tryd.zeroValue20
 t31 := Go.Proofs.Tryd.underlying41
 a31 := Go.Proofs.Tryd.isAgg41
 z31 := Go.Proofs.Tryd.sizeOf41
 v31 := Go.Proofs.Tryd.zeroValue41
 t37 := Go.Proofs.Tryd.underlying68
 a37 := Go.Proofs.Tryd.isAgg68
 z37 := Go.Proofs.Tryd.sizeOf68
 v37 := Go.Proofs.Tryd.zeroValue68
 t70 := Go.Proofs.Tryd.underlying67
 a70 := Go.Proofs.Tryd.isAgg67
 z70 := Go.Proofs.Tryd.sizeOf67
 v70 := Go.Proofs.Tryd.zeroValue67
 t72 := Go.Proofs.Tryd.underlying70
 a72 := Go.Proofs.Tryd.isAgg70
 z72 := Go.Proofs.Tryd.sizeOf70
 v72 := Go.Proofs.Tryd.zeroValue70
 t75 := Go.Proofs.Tryd.underlying73
 a75 := Go.Proofs.Tryd.isAgg73
 z75 := Go.Proofs.Tryd.sizeOf73
 v75 := Go.Proofs.Tryd.zeroValue73
 t76 := Go.Proofs.Tryd.underlying74
 a76 := Go.Proofs.Tryd.isAgg74
 z76 := Go.Proofs.Tryd.sizeOf74
 v76 := Go.Proofs.Tryd.zeroValue74
 t127 := Go.Proofs.Tryd.underlying82
 a127 := Go.Proofs.Tryd.isAgg82
 z127 := Go.Proofs.Tryd.sizeOf82
 v127 := Go.Proofs.Tryd.zeroValue82
 t164 := Go.Proofs.Tryd.underlying94
 a164 := Go.Proofs.Tryd.isAgg94
 z164 := Go.Proofs.Tryd.sizeOf94
 v164 := Go.Proofs.Tryd.zeroValue94
theorem extra156 : Builder.Extra Go.Proofs.Tryd.prog ren156 where
 sizeBuilder := by kernel_rfl
 liesBuilder := by kernel_rfl
 t5 := Go.Proofs.Tryd.underlying5
 a5 := Go.Proofs.Tryd.isAgg5
 z5 := Go.Proofs.Tryd.sizeOf5
 v5 := Go.Proofs.Tryd.zeroValue5
 infoByte := by kernel_rfl
 cellsByte := by kernel_rfl
 sizeByte := by kernel_rfl
 neB5 := by decide
end Go.Proofs.YtehagnkcfgkomaaDoor.Arr
namespace Go.Proofs.YtehagnkcfgkomaaDoor.U
open Go.RowKit Go.Proofs.YtehagnkcfgkomaaDoorW.PrintWords
set_option linter.unusedVariables false
set_option linter.unusedSimpArgs false
theorem pos {α : Type} {c : Prop} [Decidable c] {g f : Nat → Option α} {r : α} (h : c) (k : Ev g r) : Ev (fun n => if c then g n else f n) r :=
 Ev.congr (fun n => if_pos h) k
theorem ret {α : Type} (r : α) : Ev (fun _ => some r) r := Ev.now r
theorem cons {α : Type} {r : α} {a : α} (h : a = r) : Ev (fun _ => some a) r := h ▸ Ev.now a
theorem w64 {x : Int} (h0 : -9223372036854775808 ≤ x) (h1 : x ≤ 9223372036854775807) : wrap64 x = x := by
 unfold wrap64; omega
theorem rd_get (xs : List Int) (i : Nat) (h : i < xs.length) : rd xs (i : Int) = xs[i] := by
 unfold rd
 simp [List.getD_eq_getElem?_getD, List.getElem?_eq_getElem h]
theorem toList {l l' : List Int} {n : Nat} (h1 : l.length = n) (h2 : l'.length = n) (h : ∀ j, j < n → l[j]? = l'[j]?) : l = l' := by
 apply List.ext_getElem?
 intro j
 rcases Nat.lt_or_ge j n with hj | hj
 ·exact h j hj
 ·rw [List.getElem?_eq_none (by omega), List.getElem?_eq_none (by omega)]
theorem rd_opt {l l' : List Int} {j : Nat} (h : j < l.length) (h' : j < l'.length) (e : rd l (j : Int) = rd l' (j : Int)) : l[j]? = l'[j]? := by
 rw [rd_get l j h, rd_get l' j h'] at e
 rw [List.getElem?_eq_getElem h, List.getElem?_eq_getElem h', e]
theorem wfu8 {x : Int} (h : (Lit.int .u8 x).wf = true) : 0 ≤ x ∧ x ≤ 255 := by
 simp only [Lit.wf, IntKind.min, IntKind.max, IntKind.signed, IntKind.bits, Bool.and_eq_true, decide_eq_true_eq] at h
 simpa using h
def Bytes (l : List Int) : Prop := ∀ x ∈ l, 0 ≤ x ∧ x ≤ 255
theorem Bytes.of {l : List Int} (h : ∀ x ∈ l, (Lit.int .u8 x).wf = true) : Bytes l := fun x hx => wfu8 (h x hx)
def WfI (k : IntKind) (n : Int) : Prop := (Lit.int k n).wf = true
def WfL {α : Type} (wf : α → Prop) (l : List α) : Prop := l.length ≤ maxLen ∧ ∀ a ∈ l, wf a
theorem WfL.bytes {l : List Int} (h : WfL (WfI .u8) l) : Bytes l := Bytes.of h.2
end Go.Proofs.YtehagnkcfgkomaaDoor.U
namespace Go.Proofs.YtehagnkcfgkomaaDoor.Arr
open Go.RowKit Go.Proofs.YtehagnkcfgkomaaDoorW.PrintWords Go.Proofs.YtehagnkcfgkomaaDoor.U
set_option linter.unusedVariables false
set_option linter.unusedSimpArgs false
def zs (n : Nat) : List Int := List.replicate n 0
theorem zs_length {n : Nat} : (zs n).length = n := by simp [zs]
def vals (k : IntKind) (L : List Int) : Array Value := (L.map (Value.int k)).toArray
section
variable {k : IntKind} {L : List Int}
theorem vals_size : (vals k L).size = L.length := by simp [vals]
theorem vals_get {i : Nat} (h : i < L.length) : (vals k L)[i]? = some (.int k (rd L (i : Int))) := by
 rw [rd_get L i h]; simp [vals, List.getElem?_eq_getElem h]
theorem vals_set {i : Nat} {n : Int} : (vals k L).setIfInBounds i (.int k n) = vals k (L.set i n) := by
 simp [vals, List.map_set]
theorem vals_one : (vals k L).all (·.oneCell') = true := by
 simp [vals, Value.oneCell']
end
structure Ent where
 g : Nat
 cs : Array Value
 t : TypeId
 own : Bool
structure Mem (w0 w : World) (M : List Ent) : Prop where
 os : w.os = w0.os
 tape : w.tape = w0.tape
 output : w.output = w0.output
 size : w0.heap.size ≤ w.heap.size
 block : ∀ k, k < w0.heap.size → (∀ e ∈ M, e.g ≠ k) → w.heap[k]? = w0.heap[k]?
 ent : ∀ e ∈ M, w.heap[e.g]? = some (.cells e.cs e.t (0, 0)) ∧ (e.own = true → w0.heap.size ≤ e.g)
 apart : ∀ (m n : Nat) (e f : Ent), M[m]? = some e → M[n]? = some f → e.g = f.g → m = n
theorem lt_of_some {w : World} {g : Nat} {o : Obj} (h : w.heap[g]? = some o) : g < w.heap.size := (Array.getElem?_eq_some_iff.1 h).1
namespace Mem
variable {w0 w w' : World} {M : List Ent} {n g : Nat} {cs cs' : Array Value} {t : TypeId} {o : Bool}
theorem start (w : World) : Mem w w [] := ⟨rfl, rfl, rfl, Nat.le_refl _, fun _ _ _ => rfl, fun _ h => absurd h (by simp), fun m n e f h => by simp at h⟩
theorem mem (h : Mem w0 w M) (hn : M[n]? = some ⟨g, cs, t, o⟩) : w.heap[g]? = some (.cells cs t (0, 0)) :=
 (h.ent _ (List.mem_of_getElem? hn)).1
theorem cell (h : Mem w0 w M) (hn : M[n]? = some ⟨g, cs, t, o⟩) (i : Nat) : w.cell? ⟨g, i, none⟩ = cs[i]? :=
 cell_of_row w g i cs t (0, 0) (h.mem hn)
theorem frozen (h : Mem w0 w M) (hn : M[n]? = some ⟨g, cs, t, o⟩) (i : Nat) : w.frozen? ⟨g, i, none⟩ = false :=
 frozen_of_row w g i cs t (h.mem hn)
theorem done (h : Mem w0 w M) (ho : M.all (·.own) = true) : Below w0.heap.size w0 w :=
 ⟨h.os, h.tape, h.output, h.size, fun k hk => h.block k hk fun e he => by
  have := (h.ent e he).2 (List.all_eq_true.1 ho e he)
  omega⟩
theorem new (h : Mem w0 w M) (cs : Array Value) (t : TypeId) : Mem w0 (w.alloc (.cells cs t)) (⟨w.heap.size, cs, t, true⟩ :: M) := by
 have hlt : ∀ e ∈ M, e.g < w.heap.size := fun e he => lt_of_some (h.ent e he).1
 refine ⟨h.os, h.tape, h.output, ?_, fun k hk hne => ?_, fun e he => ?_, fun m n e f hm hn hef => ?_⟩
 ·have := h.size; simp; omega
 ·have := h.size
  rw [Below.heap_alloc w _ k (by omega)]
  exact h.block k hk fun e he => hne e (List.mem_cons_of_mem _ he)
 ·rcases List.mem_cons.1 he with rfl | he
  ·exact ⟨Go.heap_alloc_new w _, fun _ => h.size⟩
  ·rw [Below.heap_alloc w _ _ (hlt e he)]; exact h.ent e he
 ·rcases m with _ | m <;> rcases n with _ | n
  ·rfl
  ·simp only [List.getElem?_cons_zero, Option.some.injEq, List.getElem?_cons_succ] at hm hn
   have := hlt f (List.mem_of_getElem? hn); subst hm; simp at hef; omega
  ·simp only [List.getElem?_cons_zero, Option.some.injEq, List.getElem?_cons_succ] at hm hn
   have := hlt e (List.mem_of_getElem? hm); subst hn; simp at hef; omega
  ·simp only [List.getElem?_cons_succ] at hm hn
   rw [h.apart m n e f hm hn hef]
theorem upd (h : Mem w0 w M) (hn : M[n]? = some ⟨g, cs, t, o⟩) (hos : w'.os = w.os) (htape : w'.tape = w.tape) (hout : w'.output = w.output) (hsize : w.heap.size ≤ w'.heap.size)
  (hg : w'.heap[g]? = some (.cells cs' t (0, 0))) (hk : ∀ k, k < w.heap.size → k ≠ g → w'.heap[k]? = w.heap[k]?) : Mem w0 w' (M.set n ⟨g, cs', t, o⟩) := by
 have hnl := (List.getElem?_eq_some_iff.1 hn).1
 have hself : (M.set n ⟨g, cs', t, o⟩)[n]? = some ⟨g, cs', t, o⟩ := List.getElem?_set_self hnl
 have key : ∀ (m : Nat) (e : Ent), (M.set n ⟨g, cs', t, o⟩)[m]? = some e → (m = n ∧ e = ⟨g, cs', t, o⟩) ∨ (m ≠ n ∧ M[m]? = some e) := by
  intro m e hm
  by_cases hmn : m = n
  ·subst hmn; rw [hself] at hm; exact Or.inl ⟨rfl, (Option.some.inj hm).symm⟩
  ·rw [List.getElem?_set_ne (Ne.symm hmn)] at hm; exact Or.inr ⟨hmn, hm⟩
 have gof : ∀ (m : Nat) (e : Ent), (M.set n ⟨g, cs', t, o⟩)[m]? = some e → ∃ e', M[m]? = some e' ∧ e'.g = e.g := by
  intro m e hm
  rcases key m e hm with ⟨rfl, rfl⟩ | ⟨_, hm⟩
  ·exact ⟨_, hn, rfl⟩
  ·exact ⟨_, hm, rfl⟩
 refine ⟨hos.trans h.os, htape.trans h.tape, hout.trans h.output, Nat.le_trans h.size hsize, fun k hk' hne => ?_, fun e he => ?_, fun m m' e f hm hm' hef => ?_⟩
 ·have hgk : g ≠ k := by
   have := hne _ (List.mem_of_getElem? hself); exact this
  have := h.size
  rw [hk k (by omega) (Ne.symm hgk)]
  refine h.block k hk' fun e he => ?_
  obtain ⟨m, hm⟩ := List.getElem?_of_mem he
  by_cases hmn : m = n
  ·subst hmn; rw [hn] at hm; rw [← Option.some.inj hm]; exact hgk
  ·exact hne e (List.mem_of_getElem? (by rw [List.getElem?_set_ne (Ne.symm hmn)]; exact hm))
 ·obtain ⟨m, hm⟩ := List.getElem?_of_mem he
  rcases key m e hm with ⟨rfl, rfl⟩ | ⟨hmn, hm⟩
  ·exact ⟨hg, (h.ent _ (List.mem_of_getElem? hn)).2⟩
  ·have he' := h.ent e (List.mem_of_getElem? hm)
   have hne : e.g ≠ g := fun e' => hmn (h.apart m n e _ hm hn e')
   rw [hk _ (lt_of_some he'.1) hne]
   exact he'
 ·obtain ⟨e', he', hge⟩ := gof m e hm
  obtain ⟨f', hf', hgf⟩ := gof m' f hm'
  exact h.apart m m' e' f' he' hf' (by rw [hge, hgf, hef])
theorem row (h : Mem w0 w M) (hn : M[n]? = some ⟨g, cs, t, o⟩) (cs' : Array Value) : Mem w0 (w.setRow g cs') (M.set n ⟨g, cs', t, o⟩) :=
 h.upd hn rfl rfl rfl (by simp) (setRow_heap w g cs cs' t (0, 0) (h.mem hn)) (fun k _ hk => setRow_other w g k cs' hk)
theorem set (h : Mem w0 w M) (hn : M[n]? = some ⟨g, cs, t, o⟩) (i : Nat) (v : Value) : Mem w0 (w.setCell ⟨g, i, none⟩ v) (M.set n ⟨g, cs.setIfInBounds i v, t, o⟩) := by
 rw [setCell_eq_setRow w g i cs t (0, 0) v (h.mem hn)]
 exact h.row hn _
theorem after (h : Mem w0 w M) (hb : Below w.heap.size w w') : Mem w0 w' M := by
 have hlt : ∀ e ∈ M, e.g < w.heap.size := fun e he => lt_of_some (h.ent e he).1
 have := h.size
 exact ⟨hb.os.trans h.os, hb.tape.trans h.tape, hb.output.trans h.output, Nat.le_trans h.size hb.size,
  fun k hk hne => (hb.block k (by omega)).trans (h.block k hk hne),
  fun e he => by rw [hb.block _ (hlt e he)]; exact h.ent e he, h.apart⟩
theorem drawn (h : Mem w0 w M) (n : Nat) : Mem w0 { w with drawn := n } M :=
 ⟨h.os, h.tape, h.output, h.size, h.block, h.ent, h.apart⟩
theorem get {k : IntKind} {L : List Int} (h : Mem w0 w M) (hn : M[n]? = some ⟨g, vals k L, t, o⟩) (i : Nat) (hi : i < L.length) : w.cell? ⟨g, i, none⟩ = some (.int k (rd L (i : Int))) :=
 (h.cell hn i).trans (vals_get hi)
theorem below (h : Mem w0 w M) (ho : M.all (·.own) = true) : Below w0.heap.size w0 w := h.done ho
end Mem
structure Fr1 (g : Nat) (cs : Array Value) (t : TypeId) (w w' : World) : Prop where
 os : w'.os = w.os
 tape : w'.tape = w.tape
 output : w'.output = w.output
 size : w.heap.size ≤ w'.heap.size
 now : w'.heap[g]? = some (.cells cs t (0, 0))
 other : ∀ k, k < w.heap.size → k ≠ g → w'.heap[k]? = w.heap[k]?
theorem Fr1.below {g : Nat} {cs : Array Value} {t : TypeId} {w w' : World} (h : Fr1 g cs t w w') (h0 : w.heap[g]? = some (.cells cs t (0, 0))) : Below w.heap.size w w' :=
 ⟨h.os, h.tape, h.output, h.size, fun k hk => by
  by_cases e : k = g
  ·subst e; rw [h.now, h0]
  ·exact h.other k hk e⟩
def AggTy (P : Program) (t : TypeId) (m : Nat) : Prop := (P.underlying t).map (fun d => match d with | .struct _ | .array _ _ => true | _ => false) = some true ∧ (P.info? t).map (·.size) = some m
def OneTy (P : Program) (t : TypeId) : Prop := (P.underlying t).map (fun d => match d with | .struct _ | .array _ _ => true | _ => false) = some false ∧ (P.info? t).map (·.size) = some 1
def ArrTy (P : Program) (t : TypeId) (m : Nat) : Prop := ∃ e, P.underlying t = some (.array m e) ∧ OneTy P e
def ZeroTy (P : Program) (t : TypeId) (cs : Array Value) : Prop := ∃ z, (P.info? t).map (·.zero) = some (some z) ∧ z.cells = cs
def FieldTy (P : Program) (t : TypeId) (f off : Nat) : Prop :=
 (match P.underlying t with | some (.struct fs) => (fs[f]?).bind fun fd => (P.info? fd.type).bind fun inf => if inf.size = 0 then none else some fd.offset | _ => none) = some off
section
variable {P : Program} {ops : Array Oper} {rest : List Oper} {o : Oper} {a : Act} {w0 w : World} {M : List Ent} {Q : Exit → Act → World → Prop}
theorem run_alloc {ty : TypeId} {z old : Value} (hz : (P.info? ty).map (·.zero) = some (some z)) (w : World) : (Instr.alloc ty true old).run P w = .ok (.pointer (some ⟨w.heap.size, 0, none⟩)) (w.alloc (.cells z.cells ty)) := by
 cases hq : P.info? ty with
 | none => simp [hq] at hz
 | some i =>
  have hz' : i.zero = some z := by simpa [hq] using hz
  simp [Instr.alloc, zeroValue, typeInfo, hq, hz', newVar, newRow, Sem.run_bind]
theorem run_box {ty : TypeId} {v : Value} (w : World) : (Instr.box ty v).run P w = .ok (.pointer (some ⟨w.heap.size, 0, none⟩)) (w.alloc (.cells v.cells ty)) := by
 simp [Instr.box, newVar, newRow, Sem.run_bind]
theorem st_alloc (hgd : o.guard = none) (d : Nat) (hdst : o.dst = some d) (ty : TypeId) (ho : o.op = .alloc ty) (hm : Mem w0 w M) {cs : Array Value} (hzt : ZeroTy P ty cs)
  (h : ∀ g w1, Mem w0 w1 (⟨g, cs, ty, true⟩ :: M) → wpList P ops Q rest (a.put (some d) (.pointer (some ⟨g, 0, none⟩))) w1) : wpList P ops Q (o :: rest) a w := by
 obtain ⟨z, hz, rfl⟩ := hzt
 refine wpList_plain hgd fun K hK => ?_
 rw [← hdst] at h
 unfold Oper.wp execOp
 simp only [ho, Sem.run_bind, run_alloc hz, Sem.run_pure, Result.andThen_ok]
 exact hK _ _ (h _ _ (hm.new _ _))
theorem st_box (hgd : o.guard = none) (d : Nat) (hdst : o.dst = some d) (ty : TypeId) (x : Operand) (ho : o.op = .box ty x) (hm : Mem w0 w M) {v : Value} (hv : a.eval x = v) {cs : Array Value} (hcs : v.cells = cs)
  (h : ∀ g w1, Mem w0 w1 (⟨g, cs, ty, true⟩ :: M) → wpList P ops Q rest (a.put (some d) (.pointer (some ⟨g, 0, none⟩))) w1) : wpList P ops Q (o :: rest) a w := by
 refine wpList_plain hgd fun K hK => ?_
 rw [← hdst] at h
 unfold Oper.wp execOp
 subst hcs
 simp only [ho, Sem.run_bind, run_box, hv, Sem.run_pure, Result.andThen_ok]
 exact hK _ _ (h _ _ (hm.new _ _))
theorem st_zero (hgd : o.guard = none) (t : TypeId) (ho : o.op = .build t #[]) {cs : Array Value} (hz : P.built t [] = some cs)
  (h : wpList P ops Q rest (a.put o.dst (.agg cs)) w) : wpList P ops Q (o :: rest) a w := by
 refine wpList_build hgd t #[] ho ?_ ?_
 ·simp [hz]
 ·simp [hz]; exact h
theorem st_full (hgd : o.guard = none) (ty : TypeId) (x y : Operand) (ho : o.op = .store ty x y) (hm : Mem w0 w M) {g m : Nat} {k k' : IntKind} {S : List Int} (hx : a.eval x = .pointer (some ⟨g, 0, none⟩)) (hy : a.eval y = .agg (vals k S))
  (n : Nat) {L : List Int} {t : TypeId} {own : Bool} (hn : M[n]? = some ⟨g, vals k' L, t, own⟩) (hi : AggTy P ty m) (hs : S.length = m) (hl : L.length = m)
  (h : ∀ w1, Mem w0 w1 (M.set n ⟨g, vals k S, t, own⟩) → wpList P ops Q rest (a.put o.dst undef) w1) : wpList P ops Q (o :: rest) a w :=
 wpList_store_row hgd ty x y ho g (vals k S) hx hy t _ (hm.mem hn) (by rw [vals_size, hs]; exact hi.2) (by rw [vals_size, vals_size, hs, hl]) vals_one (h _ (hm.row hn _))
theorem st_load (hgd : o.guard = none) (ty : TypeId) (x : Operand) (ho : o.op = .load ty x) (hm : Mem w0 w M) {g : Nat} (hx : a.eval x = .pointer (some ⟨g, 0, none⟩))
  (n : Nat) {k : IntKind} {L : List Int} {m : Nat} {t : TypeId} {own : Bool} (hn : M[n]? = some ⟨g, vals k L, t, own⟩) (hi2 : AggTy P ty m) (hl : L.length = m)
  (h : wpList P ops Q rest (a.put o.dst (.agg (vals k L))) w) : wpList P ops Q (o :: rest) a w := by
 obtain ⟨hd, hi0⟩ := hi2
 have hi : (P.info? ty).map (·.size) = some (vals k L).size := by rw [vals_size, hl]; exact hi0
 cases hu : P.underlying ty with
 | none => simp [hu] at hd
 | some d =>
  refine wpList_load_row hgd ty x ho g hx t (vals k L) (0, 0) d (hm.mem hn) hu ?_ hi h
  cases d <;> simp_all
theorem run_store1 {ty : TypeId} {w : World} {a : Addr} {v : Value} (hi : (P.info? ty).map (·.size) = some 1) (hv : v.cells = #[v]) {old : Value} (hc : w.cell? a = some old) (hf : w.frozen? a = false) (h1 : v.oneCell' = true) : (storeVar ty a v).run P w = .ok () (w.setCell a v) := by
 cases hq : P.info? ty with
 | none => simp [hq] at hi
 | some i =>
  have hs : i.size = 1 := by simpa [hq] using hi
  have ha : a.add 0 = a := rfl
  simp [storeVar, sizeOf, typeInfo, hq, hs, hv, storeCells, Sem.run_bind, ha, run_store P w a v .plain h1, hc, hf]
theorem st_set (hgd : o.guard = none) (ty : TypeId) (x y : Operand) (ho : o.op = .store ty x y) (hm : Mem w0 w M) {g i : Nat} {k : IntKind} {u : Int} (hx : a.eval x = .pointer (some ⟨g, i, none⟩)) (hy : a.eval y = .int k u)
  (n : Nat) {L : List Int} {t : TypeId} {own : Bool} (hn : M[n]? = some ⟨g, vals k L, t, own⟩) (hi2 : OneTy P ty) (hl : i < L.length)
  (h : ∀ w1, Mem w0 w1 (M.set n ⟨g, vals k (L.set i u), t, own⟩) → wpList P ops Q rest (a.put o.dst undef) w1) : wpList P ops Q (o :: rest) a w := by
 refine wpList_plain hgd fun K hK => ?_
 unfold Oper.wp execOp
 have hst : (storeVar ty ⟨g, i, none⟩ (.int k u)).run P w = .ok () (w.setCell ⟨g, i, none⟩ (.int k u)) := run_store1 hi2.2 rfl ((hm.cell hn i).trans (vals_get hl)) (hm.frozen hn i) rfl
 simp only [ho, hx, hy, Instr.storeAt, Instr.sureAddr, Sem.run_bind, Sem.run_pure, Result.andThen_ok, hst]
 refine hK _ _ (h _ ?_)
 rw [← vals_set]
 exact hm.set hn i _
theorem st_get (hgd : o.guard = none) (ty : TypeId) (x : Operand) (ho : o.op = .load ty x) (hm : Mem w0 w M) {g i : Nat} {k : IntKind} (hx : a.eval x = .pointer (some ⟨g, i, none⟩))
  (n : Nat) {L : List Int} {t : TypeId} {own : Bool} (hn : M[n]? = some ⟨g, vals k L, t, own⟩) (hi2 : OneTy P ty) (hl : i < L.length)
  (h : wpList P ops Q rest (a.put o.dst (.int k (rd L (i : Int)))) w) : wpList P ops Q (o :: rest) a w := by
 have hd := hi2.1
 refine wpList_plain hgd fun K hK => ?_
 unfold Oper.wp execOp
 have hagg : (isAgg ty).run P w = .ok false w := by
  unfold isAgg
  cases hu : P.underlying ty with
  | none => simp [hu] at hd
  | some d =>
   rw [Sem.run_bind, run_underlying hu w]
   cases d <;> simp_all
 simp only [ho, hx, Instr.loadAt, Instr.sureAddr, Sem.run_bind, Sem.run_pure, Result.andThen_ok, loadVar, hagg]
 simp [run_load, (hm.cell hn i).trans (vals_get hl)]
 exact hK _ _ h
theorem st_part (hgd : o.guard = none) (ty : TypeId) (x : Operand) (ho : o.op = .load ty x) (hm : Mem w0 w M) {g i m : Nat} {k : IntKind} (hx : a.eval x = .pointer (some ⟨g, i, none⟩))
  (n : Nat) {L : List Int} {t : TypeId} {own : Bool} (hn : M[n]? = some ⟨g, vals k L, t, own⟩) (hi2 : AggTy P ty m) (hl : i + m ≤ L.length)
  (h : wpList P ops Q rest (a.put o.dst (.agg (vals k ((L.drop i).take m)))) w) : wpList P ops Q (o :: rest) a w := by
 obtain ⟨hd, hi⟩ := hi2
 refine wpList_plain hgd fun K hK => ?_
 unfold Oper.wp execOp
 have hagg : (isAgg ty).run P w = .ok true w := by
  unfold isAgg
  cases hu : P.underlying ty with
  | none => simp [hu] at hd
  | some d =>
   rw [Sem.run_bind, run_underlying hu w]
   cases d <;> simp_all
 have hsz : (sizeOf ty).run P w = .ok m w := by
  cases hq : P.info? ty with
  | none => simp [hq] at hi
  | some i => simp [sizeOf, typeInfo, hq, Sem.run_bind]; simpa [hq] using hi
 have hl2 : (loadCells ⟨g, i, none⟩ (vals k ((L.drop i).take m)).toList.length).run P w = .ok (vals k ((L.drop i).take m)).toList.toArray w :=
  run_loadCells_list (P := P) w ⟨g, i, none⟩ _ (fun j v hv => by
   have hjm : j < m := by
    have := (List.getElem?_eq_some_iff.1 hv).1
    simp [vals] at this; omega
   have hadd : (⟨g, i, none⟩ : Addr).add j = ⟨g, i + j, none⟩ := by unfold Addr.add; split <;> simp_all
   rw [hadd, (hm.cell hn (i + j)).trans (vals_get (by omega))]
   rw [Array.getElem?_toList, vals_get (by simp; omega)] at hv
   rw [← hv]
   congr 2
   simp only [rd, Int.toNat_natCast, List.getD_eq_getElem?_getD]
   rw [List.getElem?_take, if_pos hjm, List.getElem?_drop])
 have hlen : (vals k ((L.drop i).take m)).toList.length = m := by simp [vals]; omega
 rw [hlen, Array.toArray_toList] at hl2
 simp only [ho, hx, Instr.loadAt, Instr.sureAddr, Sem.run_bind, Sem.run_pure, Result.andThen_ok, loadVar, hagg, hsz, hl2, if_true]
 exact hK _ _ h
theorem st_index (hgd : o.guard = none) (ty : TypeId) (x y : Operand) (ho : o.op = .index ty x y) {k ki : IntKind} {L : List Int} {i : Int} {m : Nat} (hx : a.eval x = .agg (vals k L)) (hy : a.eval y = .int ki i)
  (hat : ArrTy P ty m) (h0 : 0 ≤ i) (h1 : i < m) (hl : L.length = m)
  (h : wpList P ops Q rest (a.put o.dst (.int k (rd L i))) w) : wpList P ops Q (o :: rest) a w := by
 obtain ⟨e, hu, hd, he⟩ := hat
 refine wpList_plain hgd fun K hK => ?_
 unfold Oper.wp execOp
 have hagg : (isAgg e).run P w = .ok false w := by
  unfold isAgg
  cases hu : P.underlying e with
  | none => simp [hu] at hd
  | some d =>
   rw [Sem.run_bind, run_underlying hu w]
   cases d <;> simp_all
 have hsz : (sizeOf e).run P w = .ok 1 w := by
  cases hq : P.info? e with
  | none => simp [hq] at he
  | some i => simp [sizeOf, typeInfo, hq, Sem.run_bind]; simpa [hq] using he
 have hg : (vals k L)[i.toNat]? = some (.int k (rd L i)) := by
  rw [vals_get (by omega), Int.toNat_of_nonneg h0]
 simp only [ho, hx, hy, Instr.index, asIntOf, Sem.run_bind, Sem.run_pure, Result.andThen_ok, run_underlying hu w, if_pos (And.intro h0 h1), hsz, part, hagg, Nat.mul_one]
 simp [hg]
 exact hK _ _ h
theorem st_field (hgd : o.guard = none) (ty : TypeId) (x : Operand) (f : Nat) (ho : o.op = .fieldAddr ty x f) {g i off : Nat} (hx : a.eval x = .pointer (some ⟨g, i, none⟩))
  (hf0 : FieldTy P ty f off)
  (h : wpList P ops Q rest (a.put o.dst (.pointer (some ⟨g, i + off, none⟩))) w) : wpList P ops Q (o :: rest) a w := by
 refine wpList_plain hgd fun K hK => ?_
 unfold Oper.wp execOp
 have hf := hf0
 unfold FieldTy at hf
 split at hf
 ·rename_i fs hu
  obtain ⟨fd, hfd, hf⟩ := Option.bind_eq_some_iff.1 hf
  obtain ⟨inf, hinf, hf⟩ := Option.bind_eq_some_iff.1 hf
  split at hf
  ·cases hf
  ·rename_i hne
   injection hf with hf
   subst hf
   have hadd : (⟨g, i, none⟩ : Addr).add fd.offset = ⟨g, i + fd.offset, none⟩ := by unfold Addr.add; split <;> simp_all
   simp [ho, hx, Instr.fieldAt, Sem.run_bind, run_underlying hu w, hfd, Instr.sureAddr, fieldPlace, sizeOf, typeInfo, hinf, hne, hadd]
   exact hK _ _ h
 ·cases hf
theorem st_elem (hgd : o.guard = none) (ty : TypeId) (x y : Operand) (ho : o.op = .indexAddr ty x y) {g off : Nat} {ki : IntKind} {i : Int} {m : Nat} (hx : a.eval x = .pointer (some ⟨g, off, none⟩)) (hy : a.eval y = .int ki i)
  (hat : ArrTy P ty m) (h0 : 0 ≤ i) (h1 : i < m)
  (h : wpList P ops Q rest (a.put o.dst (.pointer (some ⟨g, off + i.toNat, none⟩))) w) : wpList P ops Q (o :: rest) a w := by
 obtain ⟨e, hu, hd, he⟩ := hat
 refine wpList_plain hgd fun K hK => ?_
 unfold Oper.wp execOp
 have hsz : (sizeOf e).run P w = .ok 1 w := by
  cases hq : P.info? e with
  | none => simp [hq] at he
  | some i => simp [sizeOf, typeInfo, hq, Sem.run_bind]; simpa [hq] using he
 have hadd : (⟨g, off, none⟩ : Addr).add i.toNat = ⟨g, off + i.toNat, none⟩ := by unfold Addr.add; split <;> simp_all
 simp [ho, hx, hy, Instr.indexAt, asIntOf, Sem.run_bind, run_underlying hu w, Instr.sureAddr, hsz, h0, h1, hadd]
 exact hK _ _ h
theorem ret_cell {fn : Func} {R : Ending → World → Prop} {p : Tmp} {ty : TypeId} {g : Nat} (hm : Mem w0 w M) (h : fn.results = #[.cell p ty]) (hp : a.tmps.getD p undef = .pointer (some ⟨g, 0, none⟩))
  (n : Nat) {k : IntKind} {L : List Int} {m : Nat} {t : TypeId} {own : Bool} (hn : M[n]? = some ⟨g, vals k L, t, own⟩) (hi2 : AggTy P ty m) (hl : L.length = m)
  (hd : a.defers = []) (hR : R (.returned (.agg (vals k L))) w) : bodyPost P fn R .ret a w := by
 obtain ⟨hd2, hi0⟩ := hi2
 have hi : (P.info? ty).map (·.size) = some (vals k L).size := by rw [vals_size, hl]; exact hi0
 cases hu : P.underlying ty with
 | none => simp [hu] at hd2
 | some d =>
  have hld := run_loadVar_row (P := P) w g t ty (vals k L) (0, 0) d (hm.mem hn) hu (by cases d <;> simp_all) hi
  refine bodyPost_ret (v := .agg (vals k L)) ?_ hd hR
  have hp' : a.tmps[p]?.getD undef = .pointer (some ⟨g, 0, none⟩) := by simpa using hp
  simp [results, h, hp', asAddr, hld]
theorem ret_cell_tmp {fn : Func} {R : Ending → World → Prop} {p u : Tmp} {ty : TypeId} {g : Nat} (hm : Mem w0 w M) (h : fn.results = #[.cell p ty, .tmp u]) (hp : a.tmps.getD p undef = .pointer (some ⟨g, 0, none⟩))
  (n : Nat) {k : IntKind} {L : List Int} {m : Nat} {t : TypeId} {own : Bool} (hn : M[n]? = some ⟨g, vals k L, t, own⟩) (hi2 : AggTy P ty m) (hl : L.length = m)
  (hd : a.defers = []) (hR : R (.returned (.tuple #[.agg (vals k L), a.tmps.getD u undef])) w) : bodyPost P fn R .ret a w := by
 obtain ⟨hd2, hi0⟩ := hi2
 have hi : (P.info? ty).map (·.size) = some (vals k L).size := by rw [vals_size, hl]; exact hi0
 cases hu : P.underlying ty with
 | none => simp [hu] at hd2
 | some d =>
  have hld := run_loadVar_row (P := P) w g t ty (vals k L) (0, 0) d (hm.mem hn) hu (by cases d <;> simp_all) hi
  refine bodyPost_ret (v := .tuple #[.agg (vals k L), a.tmps.getD u undef]) ?_ hd hR
  rw [results_cell_tmp h, hp]
  simp [asAddr, hld]
end
theorem lens : (∀ (L : List Int) (i : Nat) (v : Int), (L.set i v).length = L.length) ∧ (∀ (n : Nat) (v : Int), (List.replicate n v).length = n) ∧ (∀ n : Nat, (zs n).length = n) ∧ (∀ (f : Int → Int) (L : List Int), (L.map f).length = L.length) ∧
  (∀ L L' : List Int, (L ++ L').length = L.length + L'.length) ∧ (∀ (n : Nat) (L : List Int), (L.take n).length = min n L.length) ∧ (∀ (n : Nat) (L : List Int), (L.drop n).length = L.length - n) ∧ (∀ (x : Int) (L : List Int), (x :: L).length = L.length + 1) ∧
  (([] : List Int).length = 0) ∧ (∀ n : Nat, 0 + n = n) ∧ (∀ n : Nat, n + 0 = n) ∧ (∀ n : Nat, ((n : Int).toNat) = n) :=
 ⟨by simp, by simp, fun n => zs_length, by simp, by simp, by simp, by simp, by simp, rfl, by simp, by simp, by simp⟩
section
variable {P : Program} {ops : Array Oper} {rest : List Oper} {a : Act} {w : World} {Q : Exit → Act → World → Prop} {dst : Option Tmp} {x y : Operand} {tt : TypeId} {pos : String} {after : Array Edge} {g : Option (Nat × Bool)}
theorem gt_alloc (d ty : Nat) (h : wpList P ops Q (⟨some d, .alloc ty, tt, pos, after, g⟩ :: rest) a w) : wpList P ops Q (⟨some d, .alloc ty, tt, pos, after, g⟩ :: rest) a w := h
theorem gt_box (d ty : Nat) (h : wpList P ops Q (⟨some d, .box ty x, tt, pos, after, g⟩ :: rest) a w) : wpList P ops Q (⟨some d, .box ty x, tt, pos, after, g⟩ :: rest) a w := h
theorem gt_build (ty : Nat) (h : wpList P ops Q (⟨dst, .build ty #[], tt, pos, after, g⟩ :: rest) a w) : wpList P ops Q (⟨dst, .build ty #[], tt, pos, after, g⟩ :: rest) a w := h
theorem gt_store (ty : Nat) (h : wpList P ops Q (⟨dst, .store ty x y, tt, pos, after, g⟩ :: rest) a w) : wpList P ops Q (⟨dst, .store ty x y, tt, pos, after, g⟩ :: rest) a w := h
theorem gt_load (ty : Nat) (h : wpList P ops Q (⟨dst, .load ty x, tt, pos, after, g⟩ :: rest) a w) : wpList P ops Q (⟨dst, .load ty x, tt, pos, after, g⟩ :: rest) a w := h
theorem gt_index (ty : Nat) (h : wpList P ops Q (⟨dst, .index ty x y, tt, pos, after, g⟩ :: rest) a w) : wpList P ops Q (⟨dst, .index ty x y, tt, pos, after, g⟩ :: rest) a w := h
theorem gt_elem (ty : Nat) (h : wpList P ops Q (⟨dst, .indexAddr ty x y, tt, pos, after, g⟩ :: rest) a w) : wpList P ops Q (⟨dst, .indexAddr ty x y, tt, pos, after, g⟩ :: rest) a w := h
theorem gt_field (ty f : Nat) (h : wpList P ops Q (⟨dst, .fieldAddr ty x f, tt, pos, after, g⟩ :: rest) a w) : wpList P ops Q (⟨dst, .fieldAddr ty x f, tt, pos, after, g⟩ :: rest) a w := h
end
end Go.Proofs.YtehagnkcfgkomaaDoor.Arr
namespace Go.Proofs.YtehagnkcfgkomaaDoor.Arr
open Go.RowKit Go.Proofs.YtehagnkcfgkomaaDoorW.PrintWords Go.Proofs.YtehagnkcfgkomaaDoor.U
set_option maxRecDepth 100000
theorem agg23 : AggTy Tryd.prog 23 40 := ⟨by kernel_rfl, by kernel_rfl⟩
theorem arr23 : ArrTy Tryd.prog 23 40 := ⟨_, Tryd.underlying23, by kernel_rfl, by kernel_rfl⟩
theorem agg24 : AggTy Tryd.prog 24 4 := ⟨by kernel_rfl, by kernel_rfl⟩
theorem arr24 : ArrTy Tryd.prog 24 4 := ⟨_, Tryd.underlying24, by kernel_rfl, by kernel_rfl⟩
theorem agg28 : AggTy Tryd.prog 28 44 := ⟨by kernel_rfl, by kernel_rfl⟩
theorem zero28 : ZeroTy Tryd.prog 28 (vals .i16 (zs 44)) := ⟨.agg (vals .i16 (zs 44)), by kernel_rfl, rfl⟩
theorem built28 : Tryd.prog.built 28 [] = some (vals .i16 (zs 44)) := by kernel_rfl
theorem field28_0 : FieldTy Tryd.prog 28 0 0 := by unfold FieldTy; kernel_rfl
theorem field28_1 : FieldTy Tryd.prog 28 1 40 := by unfold FieldTy; kernel_rfl
theorem arr56 : ArrTy Tryd.prog 56 40 := ⟨_, Tryd.underlying56, by kernel_rfl, by kernel_rfl⟩
theorem arr57 : ArrTy Tryd.prog 57 4 := ⟨_, Tryd.underlying57, by kernel_rfl, by kernel_rfl⟩
theorem agg59 : AggTy Tryd.prog 59 44 := ⟨by kernel_rfl, by kernel_rfl⟩
theorem zero59 : ZeroTy Tryd.prog 59 (vals .i64 (zs 44)) := ⟨.agg (vals .i64 (zs 44)), by kernel_rfl, rfl⟩
theorem built59 : Tryd.prog.built 59 [] = some (vals .i64 (zs 44)) := by kernel_rfl
theorem field59_0 : FieldTy Tryd.prog 59 0 0 := by unfold FieldTy; kernel_rfl
theorem field59_1 : FieldTy Tryd.prog 59 1 40 := by unfold FieldTy; kernel_rfl
theorem one3 : OneTy Tryd.prog 3 := ⟨by kernel_rfl, by kernel_rfl⟩
theorem one22 : OneTy Tryd.prog 22 := ⟨by kernel_rfl, by kernel_rfl⟩
end Go.Proofs.YtehagnkcfgkomaaDoor.Arr
namespace Go.Proofs.YtehagnkcfgkomaaDoor.I
open Go.RowKit Go.Proofs.YtehagnkcfgkomaaDoorW.PrintWords Go.Proofs.YtehagnkcfgkomaaDoorW.PrintLast Go.Proofs.YtehagnkcfgkomaaDoorW.PrintMore
attribute [local go_sem] max2_int min2_int max_two min_two max_three min_three max_four min_four
set_option linter.unusedVariables false
set_option linter.unusedSimpArgs false
def errW : Option Int → Value
 | none => .nilIface
 | some c => .iface 0 (.int .i64 c)
theorem errW_none : errW none = .nilIface := rfl
theorem errW_some (c : Int) : errW (some c) = .iface 0 (.int .i64 c) := rfl
theorem info9 : (Tryd.prog.info? 9).map (fun i => (i.zero, i.size, i.bytes)) = some (some (.string ⟨#[]⟩), 1, 16) := by kernel_rfl
end Go.Proofs.YtehagnkcfgkomaaDoor.I
namespace Go.Proofs.YtehagnkcfgkomaaDoor.I
open Go.RowKit Go.Proofs.YtehagnkcfgkomaaDoorW.PrintWords Go.Proofs.YtehagnkcfgkomaaDoorW.PrintLast Go.Proofs.YtehagnkcfgkomaaDoorW.PrintMore
attribute [local go_sem] max2_int min2_int max_two min_two max_three min_three max_four min_four
set_option linter.unusedVariables false
set_option linter.unusedSimpArgs false
def spec_Decimal.f : Nat → Int → Option (ByteArray)
 | 0, _ => none
 | k + 1, a0 => if a0 < 10 then (some (strOfNums (([(wrap64 (48 + (Int.tmod a0 10))) % 256] : List Int)))) else ((spec_Decimal.f k (wrap64 (Int.tdiv a0 10))).bind fun t104 => ((some (([(wrap64 (48 + (Int.tmod a0 10))) % 256] : List Int) : List Int)).bind fun y105 => (if t104.size + (strOfNums y105).size ≤ 9223372036854775807 then (some (t104 ++ (strOfNums y105))) else (none))))
def spec_Decimal.T3 : Bool × List (List Nat × List Nat) := (true, [([], []), ([0], [0]), ([1], [1]), ([], []), ([3], [3]), ([4], [4]), ([5], [5]), ([6], [6]), ([7], [7]), ([2, 8], [2, 8]), ([9, 2, 0, 1, 2, 3, 4, 5, 6, 7, 8, 9], [9])])
def spec_Decimal.B3 : List Nat := [0, 1, 3, 0, 8, 24, 56, 120, 248, 511, 1023]
theorem spec_Decimal.tab3 : rtab .any (opsOf Tryd.f28 3) = spec_Decimal.T3 := by kernel_rfl
theorem spec_Decimal.bits3 : waitsOk spec_Decimal.T3.2 spec_Decimal.B3 = true := by kernel_rfl
set_option maxHeartbeats 8000000 in
set_option maxRecDepth 100000 in
theorem spec_Decimal.calls (k : Nat) : ∀ (a0 : Int) (r : ByteArray) (w : World) (h : spec_Decimal.f k a0 = some r),
  Calls Tryd.prog 28 #[.int .i64 a0] w fun e w' => e = .returned (.string r) ∧ Below w.heap.size w w' := by
 induction k using Nat.strongRecOn with
 | _ k ih =>
 intro a0 r w h
 cases k with
 | zero => exact absurd h (by simp [spec_Decimal.f])
 | succ k =>
 simp only [spec_Decimal.f] at h
 have HB := Aside0.mk (Below.refl w.heap.size w)
 have H : (if a0 < 10 then (some (strOfNums (([(wrap64 (48 + (Int.tmod a0 10))) % 256] : List Int)))) else ((spec_Decimal.f k (wrap64 (Int.tdiv a0 10))).bind fun t104 => ((some (([(wrap64 (48 + (Int.tmod a0 10))) % 256] : List Int) : List Int)).bind fun y105 => (if t104.size + (strOfNums y105).size ≤ 9223372036854775807 then (some (t104 ++ (strOfNums y105))) else (none))))) = some r := h
 clear h
 by_cases c2 : a0 < 10
 ·rw [if_pos c2] at H
  have c2b0 : decide (a0 < 10) = true := decide_eq_true c2
  clear c2
  obtain ⟨y101, hy101⟩ : ∃ y_ : List Int, y_ = (([(wrap64 (48 + (Int.tmod a0 10))) % 256] : List Int)) := ⟨_, rfl⟩
  replace H : (some (strOfNums y101)) = some r := by first | (rw [hy101]; with_reducible exact H) | (have H2_ := (Option.bind_some _ _).symm.trans H; rw [hy101]; with_reducible exact H2_) | (have H2_ := (Option.bind_some _ _).symm.trans H; with_reducible exact H2_) | with_reducible exact H | (rw [hy101]; exact H) | exact H
  have Ny101 := Aside0.mk hy101
  clear hy101
  obtain rfl := Option.some.inj H
  go_enter Tryd.func28, Tryd.ntmps28
  go_wp2_with (first | ((with_reducible refine gate_dst (N := 9) rfl ?_); refine Kd.R_lit (Kd.int .u8) _ 5 ?hg (N := 9) ?hd (xs := ([(wrap64 (48 + (Int.tmod a0 10))) % 256] : List Int)) (inner := [.int .u8 ((wrap64 (48 + (Int.tmod a0 10))) % 256)]) (ok := fun _ => True) (okp := fun _ => True) ?hr ?hp (fun _ hk => hk) trivial (Below.refl _ _) (Nat.le_refl _) (by simp) ?_; (case hd => rfl); (case hg => rfl); (case hr => first | (go_simp; done) | (go_simp; rfl)); (case hp => exact (Reps.one (show Kd.M (Kd.int .u8) _ _ _ ((wrap64 (48 + (Int.tmod a0 10))) % 256) [.int .u8 ((wrap64 (48 + (Int.tmod a0 10))) % 256)] from rfl) (Reps.none _ _))); intro v102 w3 ho4 hb hg_ hnew_; clear hg_ hnew_; (first | rw [← Ny101.out] at ho4 | (simp only [Int.reduceToNat] at ho4; rw [← Ny101.out] at ho4)); have n0_ := Aside0.mk (Kd.R_lower ho4 (below_size (by repeat (first | (with_reducible first | exact HB.out | apply below_alloc | apply pw_below_drewN | apply below_drew1) | exact HB.out)))); have n1_ := Aside0.mk (below_step (by repeat (first | (with_reducible first | exact HB.out | apply below_alloc | apply pw_below_drewN | apply below_drew1) | exact HB.out)) hb); clear HB; have HO103 := n0_; have HB := n1_; clear n0_ n1_; clear hb ho4; have hcv5 := own_string (P := Tryd.prog) Tryd.underlying68 Tryd.underlying5 Tryd.underlying9 (Kd.own_of_R HO103.out)))
  go_ret
  exact ⟨by first | rfl | (simp [errW_none, errW_some] <;> rfl) | (simp [*, errW_none, errW_some] <;> rfl), by repeat (first | (with_reducible first | exact HB.out | apply below_alloc | apply pw_below_drewN | apply below_drew1) | exact HB.out)⟩
 ·rw [if_neg c2] at H
  have c2b0 : decide (a0 < 10) = false := decide_eq_false c2
  clear c2
  replace H := Option.bind_eq_some_iff.mp H
  obtain ⟨t104, A60, H⟩ := H
  replace H : ((some (([(wrap64 (48 + (Int.tmod a0 10))) % 256] : List Int) : List Int)).bind fun y105 => (if t104.size + (strOfNums y105).size ≤ 9223372036854775807 then (some (t104 ++ (strOfNums y105))) else (none))) = some r := H
  have A6 := Aside0.mk A60
  clear A60
  obtain ⟨y105, hy105⟩ : ∃ y_ : List Int, y_ = (([(wrap64 (48 + (Int.tmod a0 10))) % 256] : List Int)) := ⟨_, rfl⟩
  replace H : (if t104.size + (strOfNums y105).size ≤ 9223372036854775807 then (some (t104 ++ (strOfNums y105))) else (none)) = some r := by first | (rw [hy105]; with_reducible exact H) | (have H2_ := (Option.bind_some _ _).symm.trans H; rw [hy105]; with_reducible exact H2_) | (have H2_ := (Option.bind_some _ _).symm.trans H; with_reducible exact H2_) | with_reducible exact H | (rw [hy105]; exact H) | exact H
  have Ny105 := Aside0.mk hy105
  clear hy105
  by_cases c7 : t104.size + (strOfNums y105).size ≤ 9223372036854775807
  ·rw [if_pos c7] at H
   have c7b0 := eq_true c7
   have c7b1 : decide (t104.size + (strOfNums y105).size ≤ 9223372036854775807) = true := decide_eq_true c7
   try have c7b2 : (9223372036854775807 < t104.size + (strOfNums y105).size) = False := eq_false (Nat.not_lt.2 c7)
   obtain rfl := Option.some.inj H
   go_enter Tryd.func28, Tryd.ntmps28
   try go_wp2
   have n0_ := Aside0.mk (below_drew1 HB.out)
   clear HB
   have HB := n0_
   clear n0_
   refine start_ (n := 11) (S := fun w' => True) (ds := []) #[false, false, false, false, false, false, false, false, false, false, false] (by kernel_rfl) rfl rfl trivial (fun hHeld => ?_); refine with_tabW spec_Decimal.tab3 spec_Decimal.bits3 (fun HT_ HW_ => ?_)
   generalize w.drew = w8 at HB hHeld ⊢
   refine pure_ (i := 0) (N := some 11) (v := ?_) (a' := ?_) #[true, false, false, false, false, false, false, false, false, false, false] rfl rfl (any_of HT_.out (by kernel_rfl)) (fun _ _ _ h => h) (Or.inl ⟨by rfl, ?_⟩) ?_ ?_
   rotate_left
   ·intro w'
    go_simp
    with_reducible rfl
   rotate_left
   ·simp only [Act.put, List.setIfInBounds_toArray, List.set_cons_zero, List.set_cons_succ, i64_w, i32_w]
    rfl
   refine pure_ (i := 1) (N := some 12) (v := ?_) (a' := ?_) #[true, true, false, false, false, false, false, false, false, false, false] rfl rfl (any_of HT_.out (by kernel_rfl)) (fun _ _ _ h => h) (Or.inl ⟨by rfl, ?_⟩) ?_ ?_
   rotate_left
   ·intro w'
    go_simp
    with_reducible rfl
   rotate_left
   ·simp only [Act.put, List.setIfInBounds_toArray, List.set_cons_zero, List.set_cons_succ, i64_w, i32_w]
    rfl
   refine pure_ (i := 3) (N := some 14) (v := ?_) (a' := ?_) #[true, true, false, true, false, false, false, false, false, false, false] rfl rfl (any_of HT_.out (by kernel_rfl)) (fun _ _ _ h => h) (Or.inl ⟨by rfl, ?_⟩) ?_ ?_
   rotate_left
   ·intro w'
    go_simp
    with_reducible rfl
   rotate_left
   ·simp only [Act.put, List.setIfInBounds_toArray, List.set_cons_zero, List.set_cons_succ, i64_w, i32_w]
    rfl
   refine pure_ (i := 4) (N := some 15) (v := ?_) (a' := ?_) #[true, true, false, true, true, false, false, false, false, false, false] rfl rfl (any_of HT_.out (by kernel_rfl)) (fun _ _ _ h => h) (Or.inl ⟨by rfl, ?_⟩) ?_ ?_
   rotate_left
   ·intro w'
    go_simp
    with_reducible rfl
   rotate_left
   ·simp only [Act.put, List.setIfInBounds_toArray, List.set_cons_zero, List.set_cons_succ, i64_w, i32_w]
    rfl
   refine pure_ (i := 5) (N := some 16) (v := ?_) (a' := ?_) #[true, true, false, true, true, true, false, false, false, false, false] rfl rfl (any_of HT_.out (by kernel_rfl)) (fun _ _ _ h => h) (Or.inl ⟨by rfl, ?_⟩) ?_ ?_
   rotate_left
   ·intro w'
    go_simp
    with_reducible rfl
   rotate_left
   ·simp only [Act.put, List.setIfInBounds_toArray, List.set_cons_zero, List.set_cons_succ, i64_w, i32_w]
    rfl
   refine pure_ (i := 6) (N := some 17) (v := ?_) (a' := ?_) #[true, true, false, true, true, true, true, false, false, false, false] rfl rfl (any_of HT_.out (by kernel_rfl)) (fun _ _ _ h => h) (Or.inl ⟨by rfl, ?_⟩) ?_ ?_
   rotate_left
   ·intro w'
    go_simp
    with_reducible rfl
   rotate_left
   ·simp only [Act.put, List.setIfInBounds_toArray, List.set_cons_zero, List.set_cons_succ, i64_w, i32_w]
    rfl
   refine join_ (σ := Value) 2 #[true, true, true, true, true, true, true, true, true, false, false] (fun s_ => [(13, .string t104), (18, s_), (19, .string (strOfNums y105))]) (fun s_ w' => (Kd.R (Kd.int .u8) 5 w' w.heap.size (fun _ => True) s_ y105) ∧ (Below w.heap.size w w')) ?_ ?_
   rotate_left
   ·intro hCont
    refine two_ (i := 2) (j := 7) (Ni := some 13) (Nj := some 18) #[true, true, true, true, true, true, true, false, false, false, false] #[true, true, false, true, true, true, true, true, false, false, false] rfl rfl rfl rfl (two_of HT_.out (by kernel_rfl)) (by decide) (by decide) (fun K hK => ?_) (fun K hK => ?_)
    ·skip
     refine goes_ Tryd.func28 (by kernel_rfl) rfl #[.int .i64 (wrap64 (Int.tdiv a0 10))] (by rfl) rfl rfl (by (try simp only [List.map_toArray, List.map_cons, List.map_nil]); first | done | rfl | (simp only [List.length_drop, List.length_take]; rfl)) ?_
     with_reducible refine (ih k (by omega) (wrap64 (Int.tdiv a0 10)) t104 _ A6.out).mono ?_
     rintro e w9 ⟨rfl, hb⟩
     refine ⟨_, rfl, ?_⟩
     have n0_ := Aside0.mk (below_step (by repeat (first | (with_reducible first | exact HB.out | apply below_alloc | apply pw_below_drewN | apply below_drew1) | exact HB.out)) hb)
     clear HB
     have HB := n0_
     clear n0_
     (try clear hb)
     (try clear hb2)
     (try clear hk)
     (try clear hi)
     refine hK.out _ _ trivial (fun hHeld => ?_)
     clear hK K
     refine norm_ (a' := ?_) ?_ ?_
     rotate_left
     ·show Act.put _ (some 13) _ = _
      simp only [Act.put, List.setIfInBounds_toArray, List.set_cons_zero, List.set_cons_succ, i64_w, i32_w]
      rfl
     refine one_ (i := 7) (N := some 18) #[true, true, true, true, true, true, true, true, false, false, false] rfl rfl (one_of HT_.out (by kernel_rfl)) (by decide) (fun K hK => ?_)
     refine Kd.R_lit_step (Kd.int .u8) _ 5 ?hg (N := 18) ?hd (xs := ([(wrap64 (48 + (Int.tmod a0 10))) % 256] : List Int)) (inner := [.int .u8 ((wrap64 (48 + (Int.tmod a0 10))) % 256)]) (ok := fun _ => True) (okp := fun _ => True) ?hr ?hp (fun _ hk => hk) trivial (Below.refl _ _) (Nat.le_refl _) (by simp) ?_; (case hd => rfl); (case hg => rfl); (case hr => first | (go_simp; done) | (go_simp; rfl)); (case hp => exact (Reps.one (show Kd.M (Kd.int .u8) _ _ _ ((wrap64 (48 + (Int.tmod a0 10))) % 256) [.int .u8 ((wrap64 (48 + (Int.tmod a0 10))) % 256)] from rfl) (Reps.none _ _)))
     intro v106 w10 ho11 hb hg_ hnew_
     clear hg_ hnew_
     (first | rw [← Ny105.out] at ho11 | (simp only [Int.reduceToNat] at ho11; rw [← Ny105.out] at ho11))
     have n0_ := Aside0.mk (Kd.R_lower ho11 (below_size (by repeat (first | (with_reducible first | exact HB.out | apply below_alloc | apply pw_below_drewN | apply below_drew1) | exact HB.out))))
     have n1_ := Aside0.mk (below_step (by repeat (first | (with_reducible first | exact HB.out | apply below_alloc | apply pw_below_drewN | apply below_drew1) | exact HB.out)) hb)
     clear HB
     have HO107 := n0_
     have HB := n1_
     clear n0_ n1_
     clear hb ho11
     refine hK.out _ _ trivial (fun hHeld => ?_)
     clear hK K
     refine norm_ (a' := ?_) ?_ ?_
     rotate_left
     ·show Act.put _ (some 18) _ = _
      simp only [Act.put, List.setIfInBounds_toArray, List.set_cons_zero, List.set_cons_succ, i64_w, i32_w]
      rfl
     refine one_ (i := 8) (N := some 19) #[true, true, true, true, true, true, true, true, true, false, false] rfl rfl (one_of HT_.out (by kernel_rfl)) (by decide) (fun K hK => ?_)
     have hcv12 := own_string (P := Tryd.prog) Tryd.underlying68 Tryd.underlying5 Tryd.underlying9 (Kd.own_of_R HO107.out)
     refine value_ (w1 := ?_) (v := ?_) (by rfl) rfl ?_ ?_
     rotate_left 2
     ·go_simp
      constructor
      ·rfl
      ·rfl
     clear hcv12
     refine hK.out _ _ trivial (fun hHeld => ?_)
     clear hK K
     refine norm_ (a' := ?_) ?_ ?_
     rotate_left
     ·show Act.put _ (some 19) _ = _
      simp only [Act.put, List.setIfInBounds_toArray, List.set_cons_zero, List.set_cons_succ, i64_w, i32_w]
      rfl
     exact norm_ (by simp only [putAll, Act.put, List.setIfInBounds_toArray, List.set_cons_zero, List.set_cons_succ]) (hCont (v106) _ ⟨(by (with_reducible repeat (first | apply Kd.R_alloc | apply Kd.R_drewN | apply Kd.R_drew)); exact HO107.out), (by repeat (first | (with_reducible first | exact HB.out | apply below_alloc | apply pw_below_drewN | apply below_drew1) | exact HB.out))⟩)
    ·skip
     refine Kd.R_lit_step (Kd.int .u8) _ 5 ?hg (N := 18) ?hd (xs := ([(wrap64 (48 + (Int.tmod a0 10))) % 256] : List Int)) (inner := [.int .u8 ((wrap64 (48 + (Int.tmod a0 10))) % 256)]) (ok := fun _ => True) (okp := fun _ => True) ?hr ?hp (fun _ hk => hk) trivial (Below.refl _ _) (Nat.le_refl _) (by simp) ?_; (case hd => rfl); (case hg => rfl); (case hr => first | (go_simp; done) | (go_simp; rfl)); (case hp => exact (Reps.one (show Kd.M (Kd.int .u8) _ _ _ ((wrap64 (48 + (Int.tmod a0 10))) % 256) [.int .u8 ((wrap64 (48 + (Int.tmod a0 10))) % 256)] from rfl) (Reps.none _ _)))
     intro v106 w9 ho10 hb hg_ hnew_
     clear hg_ hnew_
     (first | rw [← Ny105.out] at ho10 | (simp only [Int.reduceToNat] at ho10; rw [← Ny105.out] at ho10))
     have n0_ := Aside0.mk (Kd.R_lower ho10 (below_size (by repeat (first | (with_reducible first | exact HB.out | apply below_alloc | apply pw_below_drewN | apply below_drew1) | exact HB.out))))
     have n1_ := Aside0.mk (below_step (by repeat (first | (with_reducible first | exact HB.out | apply below_alloc | apply pw_below_drewN | apply below_drew1) | exact HB.out)) hb)
     clear HB
     have HO107 := n0_
     have HB := n1_
     clear n0_ n1_
     clear hb ho10
     refine hK.out _ _ trivial (fun hHeld => ?_)
     clear hK K
     refine norm_ (a' := ?_) ?_ ?_
     rotate_left
     ·show Act.put _ (some 18) _ = _
      simp only [Act.put, List.setIfInBounds_toArray, List.set_cons_zero, List.set_cons_succ, i64_w, i32_w]
      rfl
     refine two_ (i := 2) (j := 8) (Ni := some 13) (Nj := some 19) #[true, true, true, true, true, true, true, true, false, false, false] #[true, true, false, true, true, true, true, true, true, false, false] rfl rfl rfl rfl (two_of HT_.out (by kernel_rfl)) (by decide) (by decide) (fun K hK => ?_) (fun K hK => ?_)
     ·skip
      refine goes_ Tryd.func28 (by kernel_rfl) rfl #[.int .i64 (wrap64 (Int.tdiv a0 10))] (by rfl) rfl rfl (by (try simp only [List.map_toArray, List.map_cons, List.map_nil]); first | done | rfl | (simp only [List.length_drop, List.length_take]; rfl)) ?_
      with_reducible refine (ih k (by omega) (wrap64 (Int.tdiv a0 10)) t104 _ A6.out).mono ?_
      rintro e w11 ⟨rfl, hb⟩
      refine ⟨_, rfl, ?_⟩
      have n0_ := Aside0.mk (Kd.R_below (by (with_reducible repeat (first | apply Kd.R_alloc | apply Kd.R_drewN | apply Kd.R_drew)); exact HO107.out) hb)
      have n1_ := Aside0.mk (below_step (by repeat (first | (with_reducible first | exact HB.out | apply below_alloc | apply pw_below_drewN | apply below_drew1) | exact HB.out)) hb)
      clear HO107
      clear HB
      have HO107 := n0_
      have HB := n1_
      clear n0_ n1_
      (try clear hb)
      (try clear hb2)
      (try clear hk)
      (try clear hi)
      refine hK.out _ _ trivial (fun hHeld => ?_)
      clear hK K
      refine norm_ (a' := ?_) ?_ ?_
      rotate_left
      ·show Act.put _ (some 13) _ = _
       simp only [Act.put, List.setIfInBounds_toArray, List.set_cons_zero, List.set_cons_succ, i64_w, i32_w]
       rfl
      refine one_ (i := 8) (N := some 19) #[true, true, true, true, true, true, true, true, true, false, false] rfl rfl (one_of HT_.out (by kernel_rfl)) (by decide) (fun K hK => ?_)
      have hcv12 := own_string (P := Tryd.prog) Tryd.underlying68 Tryd.underlying5 Tryd.underlying9 (Kd.own_of_R HO107.out)
      refine value_ (w1 := ?_) (v := ?_) (by rfl) rfl ?_ ?_
      rotate_left 2
      ·go_simp
       constructor
       ·rfl
       ·rfl
      clear hcv12
      refine hK.out _ _ trivial (fun hHeld => ?_)
      clear hK K
      refine norm_ (a' := ?_) ?_ ?_
      rotate_left
      ·show Act.put _ (some 19) _ = _
       simp only [Act.put, List.setIfInBounds_toArray, List.set_cons_zero, List.set_cons_succ, i64_w, i32_w]
       rfl
      exact norm_ (by simp only [putAll, Act.put, List.setIfInBounds_toArray, List.set_cons_zero, List.set_cons_succ]) (hCont (v106) _ ⟨(by (with_reducible repeat (first | apply Kd.R_alloc | apply Kd.R_drewN | apply Kd.R_drew)); exact HO107.out), (by repeat (first | (with_reducible first | exact HB.out | apply below_alloc | apply pw_below_drewN | apply below_drew1) | exact HB.out))⟩)
     ·skip
      have hcv11 := own_string (P := Tryd.prog) Tryd.underlying68 Tryd.underlying5 Tryd.underlying9 (Kd.own_of_R HO107.out)
      refine value_ (w1 := ?_) (v := ?_) (by rfl) rfl ?_ ?_
      rotate_left 2
      ·go_simp
       constructor
       ·rfl
       ·rfl
      clear hcv11
      refine hK.out _ _ trivial (fun hHeld => ?_)
      clear hK K
      refine norm_ (a' := ?_) ?_ ?_
      rotate_left
      ·show Act.put _ (some 19) _ = _
       simp only [Act.put, List.setIfInBounds_toArray, List.set_cons_zero, List.set_cons_succ, i64_w, i32_w]
       rfl
      refine one_ (i := 2) (N := some 13) #[true, true, true, true, true, true, true, true, true, false, false] rfl rfl (one_of HT_.out (by kernel_rfl)) (by decide) (fun K hK => ?_)
      refine goes_ Tryd.func28 (by kernel_rfl) rfl #[.int .i64 (wrap64 (Int.tdiv a0 10))] (by rfl) rfl rfl (by (try simp only [List.map_toArray, List.map_cons, List.map_nil]); first | done | rfl | (simp only [List.length_drop, List.length_take]; rfl)) ?_
      with_reducible refine (ih k (by omega) (wrap64 (Int.tdiv a0 10)) t104 _ A6.out).mono ?_
      rintro e w12 ⟨rfl, hb⟩
      refine ⟨_, rfl, ?_⟩
      have n0_ := Aside0.mk (Kd.R_below (by (with_reducible repeat (first | apply Kd.R_alloc | apply Kd.R_drewN | apply Kd.R_drew)); exact HO107.out) hb)
      have n1_ := Aside0.mk (below_step (by repeat (first | (with_reducible first | exact HB.out | apply below_alloc | apply pw_below_drewN | apply below_drew1) | exact HB.out)) hb)
      clear HO107
      clear HB
      have HO107 := n0_
      have HB := n1_
      clear n0_ n1_
      (try clear hb)
      (try clear hb2)
      (try clear hk)
      (try clear hi)
      refine hK.out _ _ trivial (fun hHeld => ?_)
      clear hK K
      refine norm_ (a' := ?_) ?_ ?_
      rotate_left
      ·show Act.put _ (some 13) _ = _
       simp only [Act.put, List.setIfInBounds_toArray, List.set_cons_zero, List.set_cons_succ, i64_w, i32_w]
       rfl
      exact norm_ (by simp only [putAll, Act.put, List.setIfInBounds_toArray, List.set_cons_zero, List.set_cons_succ]) (hCont (v106) _ ⟨(by (with_reducible repeat (first | apply Kd.R_alloc | apply Kd.R_drewN | apply Kd.R_drew)); exact HO107.out), (by repeat (first | (with_reducible first | exact HB.out | apply below_alloc | apply pw_below_drewN | apply below_drew1) | exact HB.out))⟩)
   rintro v106 w13 ⟨h0_, h1_⟩
   have n0_ : Aside0 (Kd.R (Kd.int .u8) 5 w13 w.heap.size (fun _ => True) v106 y105) := ⟨h0_⟩
   have n1_ : Aside0 (Below w.heap.size w w13) := ⟨h1_⟩
   clear HB
   clear h0_ h1_
   have HO107 := n0_
   have HB := n1_
   clear n0_ n1_
   have hHeld := trivial
   refine norm_ (a' := ?_) ?_ ?_
   rotate_left
   ·simp only [putAll, Act.put, List.setIfInBounds_toArray, List.set_cons_zero, List.set_cons_succ]
    rfl
   refine pure_ (i := 9) (N := some 20) (v := ?_) (a' := ?_) #[true, true, true, true, true, true, true, true, true, true, false] rfl rfl (any_of HT_.out (by kernel_rfl)) (fun _ _ _ h => h) (Or.inl ⟨by rfl, ?_⟩) ?_ ?_
   rotate_left
   ·intro w'
    go_simp
    with_reducible rfl
   rotate_left
   ·simp only [Act.put, List.setIfInBounds_toArray, List.set_cons_zero, List.set_cons_succ, i64_w, i32_w]
    rfl
   refine pure_ (i := 10) (N := some 2) (v := ?_) (a' := ?_) #[true, true, true, true, true, true, true, true, true, true, true] rfl rfl (any_of HT_.out (by kernel_rfl)) (fun _ _ _ h => h) (Or.inl ⟨by rfl, ?_⟩) ?_ ?_
   rotate_left
   ·intro w'
    go_simp
    with_reducible rfl
   rotate_left
   ·simp only [Act.put, List.setIfInBounds_toArray, List.set_cons_zero, List.set_cons_succ, i64_w, i32_w]
    rfl
   refine done_ (done_of HT_.out (by kernel_rfl)) ?_
   try go_wp2
   go_ret
   exact ⟨by first | rfl | (simp [errW_none, errW_some] <;> rfl) | (simp [*, errW_none, errW_some] <;> rfl), by repeat (first | (with_reducible first | exact HB.out | apply below_alloc | apply pw_below_drewN | apply below_drew1) | exact HB.out)⟩
  ·rw [if_neg c7] at H
   exact absurd H (by simp)
def spec_l00In.f (a0 : Int) (a1 : Int) (a2 : Int) : Option (Bool) := if a0 ≥ a1 then (some (decide (a0 ≤ a2))) else (some false)
set_option maxHeartbeats 8000000 in
set_option maxRecDepth 100000 in
theorem spec_l00In.calls (a0 : Int) (a1 : Int) (a2 : Int) (r : Bool) (w : World) (h : spec_l00In.f a0 a1 a2 = some r) :
  Calls Tryd.prog 20 #[.int .i64 a0, .int .i64 a1, .int .i64 a2] w fun e w' => e = .returned (.bool r) ∧ Drawn0 w w' := by
 have H : (if a0 ≥ a1 then (some (decide (a0 ≤ a2))) else (some false)) = some r := h
 clear h
 by_cases c4 : a0 ≥ a1
 ·rw [if_pos c4] at H
  have c4b0 : decide (a1 ≤ a0) = true := decide_eq_true c4
  clear c4
  obtain rfl := Option.some.inj H
  go_enter Tryd.func20, Tryd.ntmps20
  go_wp2
  go_ret
  exact ⟨by first | rfl | (simp; done) | (simp [*]; done), by repeat (first | exact Drawn0.refl _ | apply Drawn0.step)⟩
 ·rw [if_neg c4] at H
  have c4b0 : decide (a1 ≤ a0) = false := decide_eq_false c4
  clear c4
  obtain rfl := Option.some.inj H
  go_enter Tryd.func20, Tryd.ntmps20
  go_wp2
  go_ret
  exact ⟨by first | rfl | (simp; done) | (simp [*]; done), by repeat (first | exact Drawn0.refl _ | apply Drawn0.step)⟩
def impl_within.f (a0 : Int) (a1 : Int) (a2 : Int) : Option (Bool) := if a1 ≤ a0 then (some (decide (a0 ≤ a2))) else (some false)
set_option maxHeartbeats 8000000 in
set_option maxRecDepth 100000 in
theorem impl_within.calls (a0 : Int) (a1 : Int) (a2 : Int) (r : Bool) (w : World) (h : impl_within.f a0 a1 a2 = some r) :
  Calls Tryd.prog 25 #[.int .i64 a0, .int .i64 a1, .int .i64 a2] w fun e w' => e = .returned (.bool r) ∧ Drawn0 w w' := by
 have H : (if a1 ≤ a0 then (some (decide (a0 ≤ a2))) else (some false)) = some r := h
 clear h
 by_cases c4 : a1 ≤ a0
 ·rw [if_pos c4] at H
  have c4b0 : decide (a1 ≤ a0) = true := decide_eq_true c4
  clear c4
  obtain rfl := Option.some.inj H
  go_enter Tryd.func25, Tryd.ntmps25
  go_wp2
  go_ret
  exact ⟨by first | rfl | (simp; done) | (simp [*]; done), by repeat (first | exact Drawn0.refl _ | apply Drawn0.step)⟩
 ·rw [if_neg c4] at H
  have c4b0 : decide (a1 ≤ a0) = false := decide_eq_false c4
  clear c4
  obtain rfl := Option.some.inj H
  go_enter Tryd.func25, Tryd.ntmps25
  go_wp2
  go_ret
  exact ⟨by first | rfl | (simp; done) | (simp [*]; done), by repeat (first | exact Drawn0.refl _ | apply Drawn0.step)⟩
mutual
def spec_l01Number.j0 : Nat → ByteArray → Bool → Option (Int × Bool)
 | 0, _, _ => none
 | k + 1, x0, x22 => if x22 = true then (some (0, false)) else (spec_l01Number.l0 k x0 0 0)
def spec_l01Number.l0 : Nat → ByteArray → Int → Int → Option (Int × Bool)
 | 0, _, _, _ => none
 | k + 1, x0, x4, x5 => if x5 < (x0.size : Int) then (if 0 ≤ x5 then (if (bt x0 x5) < 48 then (some (0, false)) else (if (bt x0 x5) > 57 then (some (0, false)) else (spec_l01Number.l0 k x0 (wrap64 ((wrap64 (10 * x4)) + (((bt x0 x5) - 48) % 256))) (wrap64 (x5 + 1))))) else (none)) else (some (x4, true))
end
def spec_l01Number.f (k : Nat) (a0 : ByteArray) : Option (Int × Bool) := if a0.toList = ([] : List UInt8) then (spec_l01Number.j0 k a0 true) else (if (a0.size : Int) > 9 then (spec_l01Number.j0 k a0 true) else (if 0 < (a0.size : Int) then (if (bt a0 0) = 48 then (spec_l01Number.j0 k a0 (decide ((a0.size : Int) > 1))) else (spec_l01Number.j0 k a0 false)) else (none)))
set_option maxHeartbeats 8000000 in
set_option maxRecDepth 100000 in
theorem spec_l01Number.calls (k : Nat) (a0 : ByteArray) (r1 : Int) (r2 : Bool) (w : World) (h : spec_l01Number.f k a0 = some (r1, r2)) :
  Calls Tryd.prog 19 #[.string a0] w fun e w' => e = .returned (.tuple #[.int .i64 r1, .bool r2]) ∧ Drawn0 w w' := by
 have H : (if a0.toList = ([] : List UInt8) then (spec_l01Number.j0 k a0 true) else (if (a0.size : Int) > 9 then (spec_l01Number.j0 k a0 true) else (if 0 < (a0.size : Int) then (if (bt a0 0) = 48 then (spec_l01Number.j0 k a0 (decide ((a0.size : Int) > 1))) else (spec_l01Number.j0 k a0 false)) else (none)))) = some (r1, r2) := h
 clear h
 have HC2 := Aside0.mk H
 clear H
 go_enter Tryd.func19, Tryd.ntmps19
 go_upto_region 1 with (fail)
 go_cut [22] (fun v22 wc => ∃ (kq : Nat) (x22_1 : Bool), v22 = .bool x22_1 ∧ Aside0 (spec_l01Number.j0 kq a0 x22_1 = some (r1, r2)) ∧ Aside0 (kq ≤ k) ∧ Drawn0 w wc)
 case first =>
  have H := HC2.out
  clear HC2
  by_cases c3 : a0.toList = ([] : List UInt8)
  ·rw [if_pos c3] at H
   have c3b0 : (a0.toList == ([] : List UInt8)) = true := beq_iff_eq.mpr c3
   have c3b1 : (a0.toList != ([] : List UInt8)) = false := bne_eq_false_iff_eq.mpr c3
   clear c3
   (first | rw [c3b0] | (simp only [i64_w, i32_w]; rw [c3b0]) | skip)
   have H' := Aside0.mk H
   clear H
   go_wp2
   go_meet
   case rel => exact ⟨_, (true), (by first | rfl | (simp; done) | (simp [*]; done)), H', ⟨by first | omega | exact Nat.le_refl _⟩, by repeat (first | exact Drawn0.refl _ | apply Drawn0.step)⟩
  ·rw [if_neg c3] at H
   have c3b0 : (a0.toList == ([] : List UInt8)) = false := beq_eq_false_iff_ne.mpr c3
   have c3b1 : (a0.toList != ([] : List UInt8)) = true := bne_iff_ne.mpr c3
   (first | rw [c3b0] | (simp only [i64_w, i32_w]; rw [c3b0]) | skip)
   by_cases c4 : (a0.size : Int) > 9
   ·rw [if_pos c4] at H
    have c4b0 : decide (9 < (a0.size : Int)) = true := decide_eq_true c4
    have c4b1 : decide (9 < a0.size) = true := decide_eq_true (by omega)
    clear c4
    have H' := Aside0.mk H
    clear H
    go_wp2
    go_meet
    case rel => exact ⟨_, (true), (by first | rfl | (simp; done) | (simp [*]; done)), H', ⟨by first | omega | exact Nat.le_refl _⟩, by repeat (first | exact Drawn0.refl _ | apply Drawn0.step)⟩
   ·rw [if_neg c4] at H
    have c4b0 : decide (9 < (a0.size : Int)) = false := decide_eq_false c4
    have c4b1 : decide (9 < a0.size) = false := decide_eq_false (by omega)
    clear c4
    by_cases c5 : 0 < (a0.size : Int)
    ·rw [if_pos c5] at H
     have c5b0 : decide (0 < (a0.size : Int)) = true := decide_eq_true c5
     have c5b1 : decide (0 < a0.size) = true := decide_eq_true (by omega)
     clear c5
     by_cases c7 : (bt a0 0) = 48
     ·rw [if_pos c7] at H
      have c7b0 : ((bt a0 0) == 48) = true := beq_iff_eq.mpr c7
      have c7b1 : ((bt a0 0) != 48) = false := bne_eq_false_iff_eq.mpr c7
      clear c7
      have H' := Aside0.mk H
      clear H
      have p6 : 0 ≤ (0 : Int) := (by omega)
      have q6 : 0 < a0.size := (by have : (0 : Int) < (a0.size : Int) := of_decide_eq_true (by first | (with_reducible assumption) | assumption); omega)
      have hx6 : ∀ h : 0 < a0.size, ((a0[0]'h).toNat : Int) = bt a0 0 := bt_at a0 0
      clear p6
      have qi6 : (0 < (a0.size : Int)) = True := eq_true (of_decide_eq_true (by first | (with_reducible assumption) | assumption))
      replace q6 := eq_true q6
      go_wp2
      go_meet
      case rel => exact ⟨_, (decide ((a0.size : Int) > 1)), (by first | rfl | (simp; done) | (simp [*]; done)), H', ⟨by first | omega | exact Nat.le_refl _⟩, by repeat (first | exact Drawn0.refl _ | apply Drawn0.step)⟩
     ·rw [if_neg c7] at H
      have c7b0 : ((bt a0 0) == 48) = false := beq_eq_false_iff_ne.mpr c7
      have c7b1 : ((bt a0 0) != 48) = true := bne_iff_ne.mpr c7
      have H' := Aside0.mk H
      clear H
      have p6 : 0 ≤ (0 : Int) := (by omega)
      have q6 : 0 < a0.size := (by have : (0 : Int) < (a0.size : Int) := of_decide_eq_true (by first | (with_reducible assumption) | assumption); omega)
      have hx6 : ∀ h : 0 < a0.size, ((a0[0]'h).toNat : Int) = bt a0 0 := bt_at a0 0
      clear p6
      have qi6 : (0 < (a0.size : Int)) = True := eq_true (of_decide_eq_true (by first | (with_reducible assumption) | assumption))
      replace q6 := eq_true q6
      go_wp2
      go_meet
      case rel => exact ⟨_, (false), (by first | rfl | (simp; done) | (simp [*]; done)), H', ⟨by first | omega | exact Nat.le_refl _⟩, by repeat (first | exact Drawn0.refl _ | apply Drawn0.step)⟩
    ·rw [if_neg c5] at H
     exact absurd H (by simp)
 case rest =>
  clear HC2
  try clear c1
  try clear p2
  try clear c3
  try clear c3b0
  try clear c3b1
  try clear c4
  try clear c4b0
  try clear c4b1
  try clear c5
  try clear c5b0
  try clear c5b1
  try clear p6
  try clear q6
  try clear hx6
  try clear qi6
  try clear c7
  try clear c7b0
  try clear c7b1
  try clear p6
  try clear q6
  obtain ⟨kq, x22_1, rfl, HA, HJ1, ⟨mc1, rfl⟩⟩ := hcut
  cases kq with
  | zero => exact absurd HA.out (by simp [spec_l01Number.j0])
  | succ kj1 =>
   have H := HA.out
   clear HA
   simp only [spec_l01Number.j0] at H
   by_cases c8 : x22_1 = true
   ·subst c8
    have H1 : (some (0, false)) = some (r1, r2) := by rw [if_pos rfl] at H; exact H
    clear H
    have H := H1
    clear H1
    simp only [Option.some.injEq, Prod.mk.injEq] at H
    obtain ⟨rfl, rfl⟩ := H
    go_wp2
    go_ret2
    exact ⟨by first | rfl | (simp; done) | (simp [*]; done), by repeat (first | exact Drawn0.refl _ | apply Drawn0.step)⟩
   ·replace c8 := Bool.eq_false_iff.mpr c8
    subst c8
    have H1 : (spec_l01Number.l0 kj1 a0 0 0) = some (r1, r2) := by rw [if_neg (show ¬ (false = true) by decide)] at H; exact H
    clear H
    have H := H1
    clear H1
    have H' := Aside0.mk H
    clear H
    go_wp2
    go_loopg [4, 5] kj1 (fun kq v4 v5 w' => ∃ (x4_2 : Int) (x5_2 : Int), v4 = .int .i64 x4_2 ∧ v5 = .int .i64 x5_2 ∧ Aside0 (spec_l01Number.l0 kq a0 x4_2 x5_2 = some (r1, r2)) ∧ Aside0 (kq ≤ kj1) ∧ Drawn0 w w')
    case atStart => exact ⟨(0), (0), (by first | rfl | (simp; done) | (simp [*]; done)), (by first | rfl | (simp; done) | (simp [*]; done)), H', ⟨Nat.le_refl _⟩, by repeat (first | exact Drawn0.refl _ | apply Drawn0.step)⟩
    case round =>
     clear H'
     try clear c1
     try clear p2
     try clear c3
     try clear c3b0
     try clear c3b1
     try clear c4
     try clear c4b0
     try clear c4b1
     try clear c5
     try clear c5b0
     try clear c5b1
     try clear p6
     try clear q6
     try clear hx6
     try clear qi6
     try clear c7
     try clear c7b0
     try clear c7b1
     try clear c8
     try clear p2
     try clear p6
     try clear q6
     obtain ⟨x4_2, x5_2, rfl, rfl, HA, HK2, ⟨m2, rfl⟩⟩ := hrel
     cases gk with
     | zero => exact absurd HA.out (by simp [spec_l01Number.l0])
     | succ k2 =>
      have H := HA.out
      clear HA
      simp only [spec_l01Number.l0] at H
      by_cases c9 : x5_2 < (a0.size : Int)
      ·rw [if_pos c9] at H
       have c9b0 : decide (x5_2 < (a0.size : Int)) = true := decide_eq_true c9
       clear c9
       by_cases c10 : 0 ≤ x5_2
       ·rw [if_pos c10] at H
        have c10b0 : decide (0 ≤ x5_2) = true := decide_eq_true c10
        clear c10
        by_cases c12 : (bt a0 x5_2) < 48
        ·rw [if_pos c12] at H
         have c12b0 : decide ((bt a0 x5_2) < 48) = true := decide_eq_true c12
         clear c12
         simp only [Option.some.injEq, Prod.mk.injEq] at H
         obtain ⟨rfl, rfl⟩ := H
         have p11 : 0 ≤ (x5_2 : Int) := of_decide_eq_true (by first | (with_reducible assumption) | assumption)
         have q11 : x5_2 < (a0.size : Int) := of_decide_eq_true (by first | (with_reducible assumption) | assumption)
         have hx11 := bt_at a0 x5_2
         replace p11 := eq_true p11
         replace q11 := eq_true q11
         go_wp2
         go_ret2
         exact ⟨by first | rfl | (simp; done) | (simp [*]; done), by repeat (first | exact Drawn0.refl _ | apply Drawn0.step)⟩
        ·rw [if_neg c12] at H
         have c12b0 : decide ((bt a0 x5_2) < 48) = false := decide_eq_false c12
         clear c12
         by_cases c14 : (bt a0 x5_2) > 57
         ·rw [if_pos c14] at H
          have c14b0 : decide (57 < (bt a0 x5_2)) = true := decide_eq_true c14
          clear c14
          simp only [Option.some.injEq, Prod.mk.injEq] at H
          obtain ⟨rfl, rfl⟩ := H
          have p11 : 0 ≤ (x5_2 : Int) := of_decide_eq_true (by first | (with_reducible assumption) | assumption)
          have q11 : x5_2 < (a0.size : Int) := of_decide_eq_true (by first | (with_reducible assumption) | assumption)
          have hx11 := bt_at a0 x5_2
          replace p11 := eq_true p11
          replace q11 := eq_true q11
          have p13 : 0 ≤ (x5_2 : Int) := of_decide_eq_true (by first | (with_reducible assumption) | assumption)
          have q13 : x5_2 < (a0.size : Int) := of_decide_eq_true (by first | (with_reducible assumption) | assumption)
          have hx13 := bt_at a0 x5_2
          replace p13 := eq_true p13
          replace q13 := eq_true q13
          go_wp2
          go_ret2
          exact ⟨by first | rfl | (simp; done) | (simp [*]; done), by repeat (first | exact Drawn0.refl _ | apply Drawn0.step)⟩
         ·rw [if_neg c14] at H
          have c14b0 : decide (57 < (bt a0 x5_2)) = false := decide_eq_false c14
          clear c14
          have H' := Aside0.mk H
          clear H
          have p11 : 0 ≤ (x5_2 : Int) := of_decide_eq_true (by first | (with_reducible assumption) | assumption)
          have q11 : x5_2 < (a0.size : Int) := of_decide_eq_true (by first | (with_reducible assumption) | assumption)
          have hx11 := bt_at a0 x5_2
          replace p11 := eq_true p11
          replace q11 := eq_true q11
          have p13 : 0 ≤ (x5_2 : Int) := of_decide_eq_true (by first | (with_reducible assumption) | assumption)
          have q13 : x5_2 < (a0.size : Int) := of_decide_eq_true (by first | (with_reducible assumption) | assumption)
          have hx13 := bt_at a0 x5_2
          replace p13 := eq_true p13
          replace q13 := eq_true q13
          have p15 : 0 ≤ (x5_2 : Int) := of_decide_eq_true (by first | (with_reducible assumption) | assumption)
          have q15 : x5_2 < (a0.size : Int) := of_decide_eq_true (by first | (with_reducible assumption) | assumption)
          have hx15 := bt_at a0 x5_2
          replace p15 := eq_true p15
          replace q15 := eq_true q15
          go_wp2
          go_roundg k2
          case measure => have := HJ1.out; have := HK2.out; omega
          case rel => exact ⟨(wrap64 ((wrap64 (10 * x4_2)) + (((bt a0 x5_2) - 48) % 256))), (wrap64 (x5_2 + 1)), (by first | rfl | (simp; done) | (simp [*]; done)), (by first | rfl | (simp; done) | (simp [*]; done)), H', ⟨by have := HJ1.out; have := HK2.out; omega⟩, by repeat (first | exact Drawn0.refl _ | apply Drawn0.step)⟩
       ·rw [if_neg c10] at H
        exact absurd H (by simp)
      ·rw [if_neg c9] at H
       have c9b0 : decide (x5_2 < (a0.size : Int)) = false := decide_eq_false c9
       clear c9
       simp only [Option.some.injEq, Prod.mk.injEq] at H
       obtain ⟨rfl, rfl⟩ := H
       go_wp2
       go_ret2
       exact ⟨by first | rfl | (simp; done) | (simp [*]; done), by repeat (first | exact Drawn0.refl _ | apply Drawn0.step)⟩
def spec_l01Split.l0 : Nat → ByteArray → Int → List ByteArray → Int → Int → Option (List ByteArray)
 | 0, _, _, _, _, _ => none
 | k + 1, x0, x1, x5, x6, x7 => if x7 < (x0.size : Int) then (if 0 ≤ x7 then (if (bt x0 x7) = x1 then (if 0 ≤ x6 then (if x6 ≤ x7 then (if x7 ≤ (x0.size : Int) then (if x5.length < 8796093022208 then (spec_l01Split.l0 k x0 x1 (x5 ++ [x0.extract (x6 : Int).toNat (x7 : Int).toNat]) (wrap64 (x7 + 1)) (wrap64 (x7 + 1))) else (none)) else (none)) else (none)) else (none)) else (spec_l01Split.l0 k x0 x1 x5 x6 (wrap64 (x7 + 1)))) else (none)) else (if 0 ≤ x6 then (if x6 ≤ (x0.size : Int) then (if x5.length < 8796093022208 then (some (x5 ++ [x0.extract (x6 : Int).toNat x0.size])) else (none)) else (none)) else (none))
def spec_l01Split.f (k : Nat) (a0 : ByteArray) (a1 : Int) : Option (List ByteArray) := spec_l01Split.l0 k a0 a1 (([] : List ByteArray)) 0 0
set_option maxHeartbeats 8000000 in
set_option maxRecDepth 100000 in
theorem spec_l01Split.calls (k : Nat) (a0 : ByteArray) (a1 : Int) (r : List ByteArray) (w : World) (h : spec_l01Split.f k a0 a1 = some r) :
  Calls Tryd.prog 18 #[.string a0, .int .u8 a1] w fun e w' => ∃ v0_ : Value, e = .returned (v0_) ∧ Kd.R Kd.string 9 w' w.heap.size (fun _ => True) v0_ r ∧ Below w.heap.size w w' := by
 have HB := Aside0.mk (Below.refl w.heap.size w)
 have H : (spec_l01Split.l0 k a0 a1 (([] : List ByteArray)) 0 0) = some r := h
 clear h
 obtain ⟨y108, hy108⟩ : ∃ y_ : List ByteArray, y_ = (([] : List ByteArray)) := ⟨_, rfl⟩
 replace H : (spec_l01Split.l0 k a0 a1 y108 0 0) = some r := by first | (rw [hy108]; with_reducible exact H) | (have H2_ := (Option.bind_some _ _).symm.trans H; rw [hy108]; with_reducible exact H2_) | (have H2_ := (Option.bind_some _ _).symm.trans H; with_reducible exact H2_) | with_reducible exact H | (rw [hy108]; exact H) | exact H
 have Ny108 := Aside0.mk hy108
 clear hy108
 have H' := Aside0.mk H
 clear H
 go_enter Tryd.func18, Tryd.ntmps18
 go_wp2_with (first | ((with_reducible refine gate_dst (N := 8) rfl ?_); refine Kd.R_lit Kd.string _ 9 ?hg (N := 8) ?hd (xs := ([] : List ByteArray)) (inner := []) (ok := fun _ => True) (okp := fun _ => True) ?hr ?hp (fun _ hk => hk) trivial (Below.refl _ _) (Nat.le_refl _) (by simp) ?_; (case hd => rfl); (case hg => rfl); (case hr => first | (go_simp; done) | (go_simp; rfl)); (case hp => exact (Reps.none _ _)); intro v109 w3 ho4 hb hg_ hnew_; clear hg_ hnew_; (first | rw [← Ny108.out] at ho4 | (simp only [Int.reduceToNat] at ho4; rw [← Ny108.out] at ho4)); have n0_ := Aside0.mk (Kd.R_lower ho4 (below_size (by repeat (first | (with_reducible first | exact HB.out | apply below_alloc | apply pw_below_drewN | apply below_drew1) | exact HB.out)))); have n1_ := Aside0.mk (below_step (by repeat (first | (with_reducible first | exact HB.out | apply below_alloc | apply pw_below_drewN | apply below_drew1) | exact HB.out)) hb); clear HB; have HO110 := n0_; have HB := n1_; clear n0_ n1_; clear hb ho4))
 go_loopg [5, 6, 7] k (fun kq v5 v6 v7 w' => ∃ (x5_1 : List ByteArray) (x6_1 : Int) (x7_1 : Int), v6 = .int .i64 x6_1 ∧ v7 = .int .i64 x7_1 ∧ Aside0 (spec_l01Split.l0 kq a0 a1 x5_1 x6_1 x7_1 = some r) ∧ Aside0 (kq ≤ k) ∧ Aside0 (Kd.R Kd.string 9 w' w.heap.size (fun _ => True) v5 x5_1) ∧ Aside0 (Below w.heap.size w w'))
 case atStart => exact ⟨(y108), (0), (0), (by first | rfl | (simp; done) | (simp [*]; done)), (by first | rfl | (simp; done) | (simp [*]; done)), H', ⟨Nat.le_refl _⟩, ⟨by (with_reducible repeat (first | apply Kd.R_alloc | apply Kd.R_drewN | apply Kd.R_drew)); exact HO110.out⟩, ⟨by repeat (first | (with_reducible first | exact HB.out | apply below_alloc | apply pw_below_drewN | apply below_drew1) | exact HB.out)⟩⟩
 case round =>
  clear H'
  try clear c1
  try clear p2
  obtain ⟨x5_1, x6_1, x7_1, rfl, rfl, HA, HK1, HO_5, HB⟩ := hrel
  cases gk with
  | zero => exact absurd HA.out (by simp [spec_l01Split.l0])
  | succ k1 =>
   have H := HA.out
   clear HA
   simp only [spec_l01Split.l0] at H
   by_cases c5 : x7_1 < (a0.size : Int)
   ·rw [if_pos c5] at H
    have c5b0 : decide (x7_1 < (a0.size : Int)) = true := decide_eq_true c5
    clear c5
    by_cases c6 : 0 ≤ x7_1
    ·rw [if_pos c6] at H
     have c6b0 : decide (0 ≤ x7_1) = true := decide_eq_true c6
     clear c6
     by_cases c8 : (bt a0 x7_1) = a1
     ·rw [if_pos c8] at H
      have c8b0 : ((bt a0 x7_1) == a1) = true := beq_iff_eq.mpr c8
      have c8b1 : ((bt a0 x7_1) != a1) = false := bne_eq_false_iff_eq.mpr c8
      clear c8
      by_cases c9 : 0 ≤ x6_1
      ·rw [if_pos c9] at H
       have c9b0 := eq_true c9
       have c9b1 : decide (0 ≤ x6_1) = true := decide_eq_true c9
       clear c9
       by_cases c10 : x6_1 ≤ x7_1
       ·rw [if_pos c10] at H
        have c10b0 := eq_true c10
        have c10b1 : decide (x6_1 ≤ x7_1) = true := decide_eq_true c10
        clear c10
        by_cases c11 : x7_1 ≤ (a0.size : Int)
        ·rw [if_pos c11] at H
         have c11b0 := eq_true c11
         have c11b1 : decide (x7_1 ≤ (a0.size : Int)) = true := decide_eq_true c11
         clear c11
         by_cases c12 : x5_1.length < 8796093022208
         ·rw [if_pos c12] at H
          have LMc12 := Aside0.mk c12
          clear c12
          obtain ⟨y111, hy111⟩ : ∃ y_ : List ByteArray, y_ = (x5_1 ++ [a0.extract (x6_1 : Int).toNat (x7_1 : Int).toNat]) := ⟨_, rfl⟩
          replace H : (spec_l01Split.l0 k1 a0 a1 y111 (wrap64 (x7_1 + 1)) (wrap64 (x7_1 + 1))) = some r := by first | (rw [hy111]; with_reducible exact H) | (have H2_ := (Option.bind_some _ _).symm.trans H; rw [hy111]; with_reducible exact H2_) | (have H2_ := (Option.bind_some _ _).symm.trans H; with_reducible exact H2_) | with_reducible exact H | (rw [hy111]; exact H) | exact H
          have Ny111 := Aside0.mk hy111
          clear hy111
          have H' := Aside0.mk H
          clear H
          have p7 : 0 ≤ (x7_1 : Int) := of_decide_eq_true (by first | (with_reducible assumption) | assumption)
          have q7 : x7_1 < (a0.size : Int) := of_decide_eq_true (by first | (with_reducible assumption) | assumption)
          have hx7 := bt_at a0 x7_1
          replace p7 := eq_true p7
          replace q7 := eq_true q7
          go_wp2_with (first | ((with_reducible refine gate_builtin (b := .append) (xs := #[.tmp 20, .tmp 25]) rfl ?_); at_builtin; refine Kd.R_append Kd.string (w0 := w) w.heap.size rfl (.tmp 20) (.tmp 25) 41 9 (.string ⟨#[]⟩) 16 rfl Tryd.underlying41 info9 rfl (by decide) (by omega) u5 x5_1 (a0.extract (x6_1 : Int).toNat (x7_1 : Int).toNat) [.string (a0.extract (x6_1 : Int).toNat (x7_1 : Int).toNat)] (fun _ => True) (fun _ => False) rfl rfl ?aP (fun _ hk => hk.elim) ?aF ?aO ?aB ?aS ?aL ?_; (case aP => exact rfl); (case aB => exact (by repeat (first | (with_reducible first | exact HB.out | apply below_alloc | apply pw_below_drewN | apply below_drew1) | exact HB.out))); (case aF => exact (fun _ _ => trivial)); (case aO => exact (by (with_reducible repeat (first | apply Kd.R_alloc | apply Kd.R_drewN | apply Kd.R_drew)); exact HO_5.out)); (case aS => exact (below_size (by repeat (first | (with_reducible first | exact HB.out | apply below_alloc | apply pw_below_drewN | apply below_drew1) | exact HB.out)))); (case aL => have := LMc12.out; omega); intro v112 w13 ho hb hg hat; rw [← Ny111.out] at ho; have n0_ := Aside0.mk (hb); have n1_ := Aside0.mk (ho); clear HB; clear HO_5; have HB := n0_; have HO113 := n1_; clear n0_ n1_; clear ho hb hg hat))
          go_roundg k1
          case measure => have := HK1.out; omega
          case rel => exact ⟨(y111), (wrap64 (x7_1 + 1)), (wrap64 (x7_1 + 1)), (by first | rfl | (simp; done) | (simp [*]; done)), (by first | rfl | (simp; done) | (simp [*]; done)), H', ⟨by have := HK1.out; omega⟩, ⟨by (with_reducible repeat (first | apply Kd.R_alloc | apply Kd.R_drewN | apply Kd.R_drew)); exact HO113.out⟩, ⟨by repeat (first | (with_reducible first | exact HB.out | apply below_alloc | apply pw_below_drewN | apply below_drew1) | exact HB.out)⟩⟩
         ·rw [if_neg c12] at H
          exact absurd H (by simp)
        ·rw [if_neg c11] at H
         exact absurd H (by simp)
       ·rw [if_neg c10] at H
        exact absurd H (by simp)
      ·rw [if_neg c9] at H
       exact absurd H (by simp)
     ·rw [if_neg c8] at H
      have c8b0 : ((bt a0 x7_1) == a1) = false := beq_eq_false_iff_ne.mpr c8
      have c8b1 : ((bt a0 x7_1) != a1) = true := bne_iff_ne.mpr c8
      have H' := Aside0.mk H
      clear H
      have p7 : 0 ≤ (x7_1 : Int) := of_decide_eq_true (by first | (with_reducible assumption) | assumption)
      have q7 : x7_1 < (a0.size : Int) := of_decide_eq_true (by first | (with_reducible assumption) | assumption)
      have hx7 := bt_at a0 x7_1
      replace p7 := eq_true p7
      replace q7 := eq_true q7
      go_wp2
      go_roundg k1
      case measure => have := HK1.out; omega
      case rel => exact ⟨(x5_1), (x6_1), (wrap64 (x7_1 + 1)), (by first | rfl | (simp; done) | (simp [*]; done)), (by first | rfl | (simp; done) | (simp [*]; done)), H', ⟨by have := HK1.out; omega⟩, ⟨by (with_reducible repeat (first | apply Kd.R_alloc | apply Kd.R_drewN | apply Kd.R_drew)); exact HO_5.out⟩, ⟨by repeat (first | (with_reducible first | exact HB.out | apply below_alloc | apply pw_below_drewN | apply below_drew1) | exact HB.out)⟩⟩
    ·rw [if_neg c6] at H
     exact absurd H (by simp)
   ·rw [if_neg c5] at H
    have c5b0 : decide (x7_1 < (a0.size : Int)) = false := decide_eq_false c5
    clear c5
    by_cases c14 : 0 ≤ x6_1
    ·rw [if_pos c14] at H
     have c14b0 := eq_true c14
     have c14b1 : decide (0 ≤ x6_1) = true := decide_eq_true c14
     clear c14
     by_cases c15 : x6_1 ≤ (a0.size : Int)
     ·rw [if_pos c15] at H
      have c15b0 := eq_true c15
      have c15b1 : decide (x6_1 ≤ (a0.size : Int)) = true := decide_eq_true c15
      clear c15
      by_cases c16 : x5_1.length < 8796093022208
      ·rw [if_pos c16] at H
       have LMc16 := Aside0.mk c16
       clear c16
       obtain ⟨y114, hy114⟩ : ∃ y_ : List ByteArray, y_ = (x5_1 ++ [a0.extract (x6_1 : Int).toNat a0.size]) := ⟨_, rfl⟩
       replace H : (some y114) = some r := by first | (rw [hy114]; with_reducible exact H) | (have H2_ := (Option.bind_some _ _).symm.trans H; rw [hy114]; with_reducible exact H2_) | (have H2_ := (Option.bind_some _ _).symm.trans H; with_reducible exact H2_) | with_reducible exact H | (rw [hy114]; exact H) | exact H
       have Ny114 := Aside0.mk hy114
       clear hy114
       obtain rfl := Option.some.inj H
       go_wp2_with (first | ((with_reducible refine gate_builtin (b := .append) (xs := #[.tmp 29, .tmp 33]) rfl ?_); at_builtin; refine Kd.R_append Kd.string (w0 := w) w.heap.size rfl (.tmp 29) (.tmp 33) 41 9 (.string ⟨#[]⟩) 16 rfl Tryd.underlying41 info9 rfl (by decide) (by omega) u5 x5_1 (a0.extract (x6_1 : Int).toNat a0.size) [.string (a0.extract (x6_1 : Int).toNat a0.size)] (fun _ => True) (fun _ => False) rfl rfl ?aP (fun _ hk => hk.elim) ?aF ?aO ?aB ?aS ?aL ?_; (case aP => exact rfl); (case aB => exact (by repeat (first | (with_reducible first | exact HB.out | apply below_alloc | apply pw_below_drewN | apply below_drew1) | exact HB.out))); (case aF => exact (fun _ _ => trivial)); (case aO => exact (by (with_reducible repeat (first | apply Kd.R_alloc | apply Kd.R_drewN | apply Kd.R_drew)); exact HO_5.out)); (case aS => exact (below_size (by repeat (first | (with_reducible first | exact HB.out | apply below_alloc | apply pw_below_drewN | apply below_drew1) | exact HB.out)))); (case aL => have := LMc16.out; omega); intro v115 w17 ho hb hg hat; rw [← Ny114.out] at ho; have n0_ := Aside0.mk (hb); have n1_ := Aside0.mk (ho); clear HB; clear HO_5; have HB := n0_; have HO116 := n1_; clear n0_ n1_; clear ho hb hg hat))
       go_ret
       exact ⟨_, by first | rfl | (simp [errW_none, errW_some] <;> rfl) | (simp [*, errW_none, errW_some] <;> rfl), by (with_reducible repeat (first | apply Kd.R_alloc | apply Kd.R_drewN | apply Kd.R_drew)); exact HO116.out, by repeat (first | (with_reducible first | exact HB.out | apply below_alloc | apply pw_below_drewN | apply below_drew1) | exact HB.out)⟩
      ·rw [if_neg c16] at H
       exact absurd H (by simp)
     ·rw [if_neg c15] at H
      exact absurd H (by simp)
    ·rw [if_neg c14] at H
     exact absurd H (by simp)
end Go.Proofs.YtehagnkcfgkomaaDoor.I
namespace Go.Proofs.YtehagnkcfgkomaaDoor.Arr
open Go.RowKit Go.Proofs.YtehagnkcfgkomaaDoorW.PrintWords Go.Proofs.YtehagnkcfgkomaaDoorW.PrintLast Go.Proofs.YtehagnkcfgkomaaDoorW.PrintMore Go.Proofs.YtehagnkcfgkomaaDoor.U Go.Proofs.YtehagnkcfgkomaaDoor.I
set_option linter.unusedVariables false
set_option linter.unusedSimpArgs false
def mixTo (L S : List Int) (off n : Nat) : List Int := L.take off ++ S.take n ++ L.drop (off + n)
theorem mixTo_zero (L S : List Int) (off : Nat) : mixTo L S off 0 = L := by simp [mixTo]
theorem mixTo_length (L S : List Int) (off n : Nat) (h : off + n ≤ L.length) (hn : n ≤ S.length) : (mixTo L S off n).length = L.length := by
 simp [mixTo]; omega
theorem mixTo_succ (L S : List Int) (off n : Nat) (h : off + n < L.length) (hn : n < S.length) : (mixTo L S off n).set (off + n) (rd S n) = mixTo L S off (n + 1) := by
 unfold mixTo
 rw [rd_get S n hn]
 apply List.ext_getElem?
 intro j
 simp only [List.getElem?_set, List.getElem?_append, List.length_append, List.length_take, List.getElem?_take, List.getElem?_drop, List.length_drop]
 repeat' split
 all_goals first | rfl | omega | (congr 1; omega) | (rw [← List.getElem?_eq_getElem hn]; congr 1; omega) | (rw [List.getElem?_eq_none (by omega)]; symm; apply List.getElem?_eq_none; omega)
theorem rd_take (L : List Int) (i n : Nat) (h : i < n) (hl : i < L.length) : rd (L.take n) (i : Int) = rd L (i : Int) := by
 rw [rd_get L i hl, rd_get _ i (by simp; omega)]; simp
theorem halves (L : List Int) (h : L.length = 44) : L = (L.drop 0).take 40 ++ (L.drop 40).take 4 := by
 rw [List.drop_zero, List.take_of_length_le (l := L.drop 40) (by simp [h]), List.take_append_drop]
theorem list_eq {L L' : List Int} {n : Nat} (h1 : L.length = n) (h2 : L'.length = n) (h : ∀ j : Nat, j < n → rd L (j : Int) = rd L' (j : Int)) : L = L' :=
 toList h1 h2 fun j hj => rd_opt (by omega) (by omega) (h j hj)
theorem decided {P : Program} {f : FuncId} {args : Array Value} {w : World} {c : Prop} [Decidable c] {B : World → Prop} (h : Calls P f args w fun e w' => e = .returned (.bool (decide c)) ∧ B w') :
  Calls P f args w fun e w' => ∃ b, Aside0 (b = true ↔ c) ∧ e = .returned (.bool b) ∧ B w' :=
 h.mono fun e w' ⟨he, hb⟩ => ⟨decide c, ⟨by simp⟩, he, hb⟩
theorem within_calls (a lo hi : Int) (w : World) : Calls Tryd.prog 25 #[.int .i64 a, .int .i64 lo, .int .i64 hi] w fun e w' => e = .returned (.bool (decide (lo ≤ a ∧ a ≤ hi))) ∧ Below w.heap.size w w' := by
 refine (impl_within.calls a lo hi (decide (lo ≤ a ∧ a ≤ hi)) w ?_).mono ?_
 ·unfold impl_within.f
  by_cases h : lo ≤ a <;> simp [h]
 ·rintro e w' ⟨rfl, hb⟩; exact ⟨rfl, hb.below⟩
set_option maxHeartbeats 4000000 in
set_option maxRecDepth 100000 in
theorem eqInt16A40_calls (L L' : List Int) (w : World) (hl : L.length = 40) (hl' : L'.length = 40) : Calls Tryd.prog 26 #[.agg (vals .i16 L), .agg (vals .i16 L')] w fun e w' => e = .returned (.bool (decide (L = L'))) ∧ Below w.heap.size w w' := by
 have hm := Mem.start w
 go_enter Tryd.func26, Tryd.ntmps26
 go_wp2_with (first | fail | ((with_reducible refine gt_box 2 23 ?_); refine st_box rfl 2 rfl 23 _ rfl hm (v := .agg (vals _ _)) rfl (cs := vals _ _) rfl ?_; clear hm; intro g2 w2 hm) | ((with_reducible refine gt_box 3 23 ?_); refine st_box rfl 3 rfl 23 _ rfl hm (v := .agg (vals _ _)) rfl (cs := vals _ _) rfl ?_; clear hm; intro g3 w3 hm) | ((with_reducible refine gt_elem 23 ?_); refine st_elem rfl 23 _ _ rfl rfl rfl arr23 (by first | omega | assumption | (simp only [lens]; first | omega | assumption) | (simp [lens]; done) | (simp [lens]; omega)) (by first | omega | assumption | (simp only [lens]; first | omega | assumption) | (simp [lens]; done) | (simp [lens]; omega)) ?_) | ((with_reducible refine gt_load 22 ?_); (first | (refine st_get rfl 22 _ rfl hm rfl 0 rfl one22 (by first | omega | assumption | (simp only [lens]; first | omega | assumption) | (simp [lens]; done) | (simp [lens]; omega)) ?_) | (refine st_get rfl 22 _ rfl hm rfl 1 rfl one22 (by first | omega | assumption | (simp only [lens]; first | omega | assumption) | (simp [lens]; done) | (simp [lens]; omega)) ?_) | (refine st_get rfl 22 _ rfl hm rfl 2 rfl one22 (by first | omega | assumption | (simp only [lens]; first | omega | assumption) | (simp [lens]; done) | (simp [lens]; omega)) ?_) | (refine st_get rfl 22 _ rfl hm rfl 3 rfl one22 (by first | omega | assumption | (simp only [lens]; first | omega | assumption) | (simp [lens]; done) | (simp [lens]; omega)) ?_))))
 go_loopw [5] (fun v5 wr => ∃ i : Nat, i ≤ 40 ∧ v5 = .int .i64 i ∧ Aside0 (∀ j : Nat, j < i → rd L (j : Int) = rd L' (j : Int)) ∧ Mem w wr [⟨g3, vals .i16 L', 23, true⟩, ⟨g2, vals .i16 L, 23, true⟩]) (fun v5 _ => 40 - (intOf v5).toNat)
 case atStart => exact ⟨0, by omega, rfl, ⟨fun j hj => absurd hj (by omega)⟩, hm⟩
 case round =>
  obtain ⟨i, hi, rfl, HJ, hm⟩ := hrel
  by_cases hlt : i < 40
  ·have hc1 := hm.get (n := 1) rfl i (by omega)
   have hc2 := hm.get (n := 0) rfl i (by omega)
   have HM := Aside0.mk hm
   clear hm
   generalize hx : rd L (i : Int) = x at *
   generalize hy : rd L' (i : Int) = y at *
   have HX := Aside0.mk hx
   have HY := Aside0.mk hy
   clear hx hy
   by_cases hxy : x = y
   ·subst hxy
    go_wp2
    repeat (go_quiet (fail); try go_wp2)
    go_roundw
    case rel => exact ⟨i + 1, by omega, by go_num, ⟨fun j hj => by
     rcases Nat.lt_or_ge j i with h | h
     ·exact HJ.out j h
     ·obtain rfl : j = i := by omega
      rw [HX.out, HY.out]⟩, HM.out.drawn _⟩
    case measure => simp [intOf]; omega
   ·have hd := Aside0.mk (show (x != y) = true by simpa using hxy)
    go_wp2
    go_quiet (fail)
    rw [hd.out]
    go_wp2
    go_ret
    refine ⟨?_, (HM.out.drawn _).done rfl⟩
    rw [decide_eq_false (p := L = L') (fun e => hxy (by rw [← HX.out, ← HY.out, e]))]; rfl
  ·have HI := Aside0.mk (show i = 40 by omega)
   go_wp2_with (first | fail | ((with_reducible refine gt_box 2 23 ?_); refine st_box rfl 2 rfl 23 _ rfl hm (v := .agg (vals _ _)) rfl (cs := vals _ _) rfl ?_; clear hm; intro g2 w2 hm) | ((with_reducible refine gt_box 3 23 ?_); refine st_box rfl 3 rfl 23 _ rfl hm (v := .agg (vals _ _)) rfl (cs := vals _ _) rfl ?_; clear hm; intro g3 w3 hm) | ((with_reducible refine gt_elem 23 ?_); refine st_elem rfl 23 _ _ rfl rfl rfl arr23 (by first | omega | assumption | (simp only [lens]; first | omega | assumption) | (simp [lens]; done) | (simp [lens]; omega)) (by first | omega | assumption | (simp only [lens]; first | omega | assumption) | (simp [lens]; done) | (simp [lens]; omega)) ?_) | ((with_reducible refine gt_load 22 ?_); (first | (refine st_get rfl 22 _ rfl hm rfl 0 rfl one22 (by first | omega | assumption | (simp only [lens]; first | omega | assumption) | (simp [lens]; done) | (simp [lens]; omega)) ?_) | (refine st_get rfl 22 _ rfl hm rfl 1 rfl one22 (by first | omega | assumption | (simp only [lens]; first | omega | assumption) | (simp [lens]; done) | (simp [lens]; omega)) ?_) | (refine st_get rfl 22 _ rfl hm rfl 2 rfl one22 (by first | omega | assumption | (simp only [lens]; first | omega | assumption) | (simp [lens]; done) | (simp [lens]; omega)) ?_) | (refine st_get rfl 22 _ rfl hm rfl 3 rfl one22 (by first | omega | assumption | (simp only [lens]; first | omega | assumption) | (simp [lens]; done) | (simp [lens]; omega)) ?_))))
   go_ret
   refine ⟨?_, hm.done rfl⟩
   rw [decide_eq_true (p := L = L') (list_eq hl hl' (fun j hj => HJ.out j (by rw [HI.out]; exact hj)))]; rfl
set_option maxHeartbeats 4000000 in
set_option maxRecDepth 100000 in
theorem eqInt16A4_calls (L L' : List Int) (w : World) (hl : L.length = 4) (hl' : L'.length = 4) : Calls Tryd.prog 27 #[.agg (vals .i16 L), .agg (vals .i16 L')] w fun e w' => e = .returned (.bool (decide (L = L'))) ∧ Below w.heap.size w w' := by
 have hm := Mem.start w
 go_enter Tryd.func27, Tryd.ntmps27
 go_wp2_with (first | fail | ((with_reducible refine gt_box 2 24 ?_); refine st_box rfl 2 rfl 24 _ rfl hm (v := .agg (vals _ _)) rfl (cs := vals _ _) rfl ?_; clear hm; intro g2 w2 hm) | ((with_reducible refine gt_box 3 24 ?_); refine st_box rfl 3 rfl 24 _ rfl hm (v := .agg (vals _ _)) rfl (cs := vals _ _) rfl ?_; clear hm; intro g3 w3 hm) | ((with_reducible refine gt_elem 24 ?_); refine st_elem rfl 24 _ _ rfl rfl rfl arr24 (by first | omega | assumption | (simp only [lens]; first | omega | assumption) | (simp [lens]; done) | (simp [lens]; omega)) (by first | omega | assumption | (simp only [lens]; first | omega | assumption) | (simp [lens]; done) | (simp [lens]; omega)) ?_) | ((with_reducible refine gt_load 22 ?_); (first | (refine st_get rfl 22 _ rfl hm rfl 0 rfl one22 (by first | omega | assumption | (simp only [lens]; first | omega | assumption) | (simp [lens]; done) | (simp [lens]; omega)) ?_) | (refine st_get rfl 22 _ rfl hm rfl 1 rfl one22 (by first | omega | assumption | (simp only [lens]; first | omega | assumption) | (simp [lens]; done) | (simp [lens]; omega)) ?_) | (refine st_get rfl 22 _ rfl hm rfl 2 rfl one22 (by first | omega | assumption | (simp only [lens]; first | omega | assumption) | (simp [lens]; done) | (simp [lens]; omega)) ?_) | (refine st_get rfl 22 _ rfl hm rfl 3 rfl one22 (by first | omega | assumption | (simp only [lens]; first | omega | assumption) | (simp [lens]; done) | (simp [lens]; omega)) ?_))))
 go_loopw [5] (fun v5 wr => ∃ i : Nat, i ≤ 4 ∧ v5 = .int .i64 i ∧ Aside0 (∀ j : Nat, j < i → rd L (j : Int) = rd L' (j : Int)) ∧ Mem w wr [⟨g3, vals .i16 L', 24, true⟩, ⟨g2, vals .i16 L, 24, true⟩]) (fun v5 _ => 4 - (intOf v5).toNat)
 case atStart => exact ⟨0, by omega, rfl, ⟨fun j hj => absurd hj (by omega)⟩, hm⟩
 case round =>
  obtain ⟨i, hi, rfl, HJ, hm⟩ := hrel
  by_cases hlt : i < 4
  ·have hc1 := hm.get (n := 1) rfl i (by omega)
   have hc2 := hm.get (n := 0) rfl i (by omega)
   have HM := Aside0.mk hm
   clear hm
   generalize hx : rd L (i : Int) = x at *
   generalize hy : rd L' (i : Int) = y at *
   have HX := Aside0.mk hx
   have HY := Aside0.mk hy
   clear hx hy
   by_cases hxy : x = y
   ·subst hxy
    go_wp2
    repeat (go_quiet (fail); try go_wp2)
    go_roundw
    case rel => exact ⟨i + 1, by omega, by go_num, ⟨fun j hj => by
     rcases Nat.lt_or_ge j i with h | h
     ·exact HJ.out j h
     ·obtain rfl : j = i := by omega
      rw [HX.out, HY.out]⟩, HM.out.drawn _⟩
    case measure => simp [intOf]; omega
   ·have hd := Aside0.mk (show (x != y) = true by simpa using hxy)
    go_wp2
    go_quiet (fail)
    rw [hd.out]
    go_wp2
    go_ret
    refine ⟨?_, (HM.out.drawn _).done rfl⟩
    rw [decide_eq_false (p := L = L') (fun e => hxy (by rw [← HX.out, ← HY.out, e]))]; rfl
  ·have HI := Aside0.mk (show i = 4 by omega)
   go_wp2_with (first | fail | ((with_reducible refine gt_box 2 24 ?_); refine st_box rfl 2 rfl 24 _ rfl hm (v := .agg (vals _ _)) rfl (cs := vals _ _) rfl ?_; clear hm; intro g2 w2 hm) | ((with_reducible refine gt_box 3 24 ?_); refine st_box rfl 3 rfl 24 _ rfl hm (v := .agg (vals _ _)) rfl (cs := vals _ _) rfl ?_; clear hm; intro g3 w3 hm) | ((with_reducible refine gt_elem 24 ?_); refine st_elem rfl 24 _ _ rfl rfl rfl arr24 (by first | omega | assumption | (simp only [lens]; first | omega | assumption) | (simp [lens]; done) | (simp [lens]; omega)) (by first | omega | assumption | (simp only [lens]; first | omega | assumption) | (simp [lens]; done) | (simp [lens]; omega)) ?_) | ((with_reducible refine gt_load 22 ?_); (first | (refine st_get rfl 22 _ rfl hm rfl 0 rfl one22 (by first | omega | assumption | (simp only [lens]; first | omega | assumption) | (simp [lens]; done) | (simp [lens]; omega)) ?_) | (refine st_get rfl 22 _ rfl hm rfl 1 rfl one22 (by first | omega | assumption | (simp only [lens]; first | omega | assumption) | (simp [lens]; done) | (simp [lens]; omega)) ?_) | (refine st_get rfl 22 _ rfl hm rfl 2 rfl one22 (by first | omega | assumption | (simp only [lens]; first | omega | assumption) | (simp [lens]; done) | (simp [lens]; omega)) ?_) | (refine st_get rfl 22 _ rfl hm rfl 3 rfl one22 (by first | omega | assumption | (simp only [lens]; first | omega | assumption) | (simp [lens]; done) | (simp [lens]; omega)) ?_))))
   go_ret
   refine ⟨?_, hm.done rfl⟩
   rw [decide_eq_true (p := L = L') (list_eq hl hl' (fun j hj => HJ.out j (by rw [HI.out]; exact hj)))]; rfl
end Go.Proofs.YtehagnkcfgkomaaDoor.Arr
namespace Go.Proofs.YtehagnkcfgkomaaDoor.Arr
open Go.RowKit Go.Proofs.YtehagnkcfgkomaaDoorW.PrintWords Go.Proofs.YtehagnkcfgkomaaDoorW.PrintLast Go.Proofs.YtehagnkcfgkomaaDoorW.PrintMore Go.Proofs.YtehagnkcfgkomaaDoor.U
set_option linter.unusedVariables false
set_option linter.unusedSimpArgs false
def ixa {α : Type} (p : α → Bool) (l : List α) : Int := match l.findIdx? p with | some i => (i : Int) | none => -1
theorem ixa_found {α : Type} (p : α → Bool) (l : List α) (i : Nat) (x : α) (hi : l[i]? = some x) (h : ∀ j, j < i → ∀ y, l[j]? = some y → p y = false) (hp : p x = true) : ixa p l = i := by
 unfold ixa
 have hl := (List.getElem?_eq_some_iff.1 hi).1
 have hx := (List.getElem?_eq_some_iff.1 hi).2
 have : l.findIdx? p = some i := by
  rw [List.findIdx?_eq_some_iff_getElem]
  refine ⟨hl, by rw [hx]; exact hp, fun j hj => ?_⟩
  simp [h j hj _ (List.getElem?_eq_getElem (by omega))]
 rw [this]
theorem ixa_none {α : Type} (p : α → Bool) (l : List α) (h : ∀ j, j < l.length → ∀ y, l[j]? = some y → p y = false) : ixa p l = -1 := by
 unfold ixa
 have : l.findIdx? p = none := by
  rw [List.findIdx?_eq_none_iff]
  intro x hx
  obtain ⟨j, hj, rfl⟩ := List.getElem_of_mem hx
  exact h j hj _ (List.getElem?_eq_getElem hj)
 rw [this]
theorem ixa_any {α : Type} (p : α → Bool) (l : List α) : decide (0 ≤ ixa p l) = l.any p := by
 unfold ixa
 cases h : l.findIdx? p with
 | none =>
  rw [List.findIdx?_eq_none_iff] at h
  have : l.any p = false := by rw [List.any_eq_false]; intro x hx; simp [h x hx]
  rw [this]; rfl
 | some i =>
  rw [List.findIdx?_eq_some_iff_getElem] at h
  obtain ⟨hi, hp, _⟩ := h
  have : l.any p = true := List.any_eq_true.2 ⟨_, List.getElem_mem hi, hp⟩
  rw [this]; simp
theorem at_scalar {α : Type} {enc : α → Value} {h1 : ∀ x, (enc x).oneCell' = true} {w : World} {A : Option Addr} {n : Nat} {xs : List α} (h : Kd.C (Kd.scalar enc h1) w A n xs) (i : Nat) (x : α) (hx : xs[i]? = some x) (hi : i < n) :
  ∃ ad, A = some ad ∧ w.cell? (ad.add i) = some (enc x) := by
 obtain ⟨ad, c, e, _, hK, hc⟩ := Kd.C_get h x (i : Int) (by omega) (by omega)
 refine ⟨ad, e, ?_⟩
 rw [Int.toNat_natCast, List.getD_eq_getElem?_getD, hx] at hK
 have hK' : c = [enc x] := hK
 have := hc 0 (enc x) (by rw [hK']; rfl)
 rwa [Int.toNat_natCast, Nat.add_zero, show (Kd.scalar enc h1).sz = 1 from rfl, Nat.mul_one] at this
def ptrk (g : Nat) : Kd Nat := Kd.scalar (fun i : Nat => .pointer (some ⟨g, i, none⟩)) (fun _ => rfl)
theorem below_then {w w1 w2 : World} (h1 : Below w.heap.size w w1) (h2 : Below w1.heap.size w1 w2) : Below w.heap.size w w2 := h1.trans (h2.mono h1.size)
set_option maxHeartbeats 4000000 in
set_option maxRecDepth 100000 in
theorem indexFunc_ptr (g : FuncId) (hg : ∀ (a : Array Value) (W : World), (callFunc g a).run Tryd.prog W = .ok (.enter g a) W) (cap : Array Value) (b : Nat) (p : Nat → Bool) (A0 : Option Addr) (c0 : Nat) (l0 : List Nat) (w : World) (hr0 : Kd.C (ptrk b) w A0 l0.length l0) (hc0 : l0.length ≤ c0)
  (hf : ∀ x ∈ l0, ∀ W, Below w.heap.size w W → Calls Tryd.prog g (#[.pointer (some ⟨b, x, none⟩)] ++ cap) W fun e W' => e = .returned (.bool (p x)) ∧ Below W.heap.size W W') :
  Calls Tryd.prog 41 #[.slice A0 l0.length c0, .func (.func g) #[] cap] w fun e w' => e = .returned (.int .i64 (ixa p l0)) ∧ Below w.heap.size w w' := by
 have HF := Aside0.mk hf
 have HR0 := Aside0.mk hr0
 have hmx := Kd.C_max hr0
 clear hf hr0
 go_enter Tryd.func41, Tryd.ntmps41
 go_wp2_with fail
 go_loopw [8, 5] (fun v8 v5 wr => ∃ i : Nat, i ≤ l0.length ∧ v8 = .int .i64 i ∧ Aside0 (Below w.heap.size w wr) ∧ Aside0 (∀ j, j < i → ∀ y, l0[j]? = some y → p y = false)) (fun v8 _ _ => l0.length - (intOf v8).toNat)
 case atStart => exact ⟨0, Nat.zero_le _, rfl, ⟨Below.refl _ _⟩, ⟨fun j hj => absurd hj (by omega)⟩⟩
 case round =>
  obtain ⟨i, hi, rfl, HB, HP⟩ := hrel
  by_cases hlt : i < l0.length
  ·obtain ⟨x, hx⟩ : ∃ x, l0[i]? = some x := ⟨_, List.getElem?_eq_getElem hlt⟩
   obtain ⟨ad, rfl, hcell⟩ := at_scalar (Kd.C_below HR0.out HB.out) i x hx hlt
   have HM := Aside0.mk (HF.out x (List.mem_of_getElem? hx) _ HB.out)
   have HX := Aside0.mk hx
   clear hx
   cases hp : p x with
   | true =>
    have HPX := Aside0.mk hp
    rw [hp] at HM
    clear hp
    go_wp2_with (refine HM.out.mono ?_; rintro e w1 ⟨rfl, hb1⟩; have HB1 := Aside0.mk hb1; clear hb1)
    go_ret
    exact ⟨by rw [ixa_found p l0 i x HX.out HP.out HPX.out]; rfl, below_then HB.out HB1.out⟩
   | false =>
    have HPX := Aside0.mk hp
    rw [hp] at HM
    clear hp
    go_wp2_with (refine HM.out.mono ?_; rintro e w1 ⟨rfl, hb1⟩; have HB1 := Aside0.mk hb1; clear hb1)
    go_roundw
    case rel => exact ⟨i + 1, by omega, by go_num, ⟨below_then HB.out HB1.out⟩, ⟨fun j hj y hy => by
     rcases Nat.lt_or_ge j i with h | h
     ·exact HP.out j h y hy
     ·obtain rfl : j = i := by omega
      rw [HX.out] at hy
      rw [← Option.some.inj hy]; exact HPX.out⟩⟩
    case measure => simp [intOf]; omega
  ·have HI := Aside0.mk (show i = l0.length by omega)
   go_wp2_with fail
   go_ret
   exact ⟨by rw [ixa_none p l0 (fun j hj => HP.out j (by rw [HI.out]; exact hj))]; rfl, HB.out⟩
set_option maxHeartbeats 4000000 in
set_option maxRecDepth 100000 in
theorem containsFunc_ptr (g : FuncId) (hg : ∀ (a : Array Value) (W : World), (callFunc g a).run Tryd.prog W = .ok (.enter g a) W) (cap : Array Value) (b : Nat) (p : Nat → Bool) (A0 : Option Addr) (c0 : Nat) (l0 : List Nat) (w : World) (hr0 : Kd.C (ptrk b) w A0 l0.length l0) (hc0 : l0.length ≤ c0)
  (hf : ∀ x ∈ l0, ∀ W, Below w.heap.size w W → Calls Tryd.prog g (#[.pointer (some ⟨b, x, none⟩)] ++ cap) W fun e W' => e = .returned (.bool (p x)) ∧ Below W.heap.size W W') :
  Calls Tryd.prog 30 #[.slice A0 l0.length c0, .func (.func g) #[] cap] w fun e w' => e = .returned (.bool (l0.any p)) ∧ Below w.heap.size w w' := by
 have HM := Aside0.mk (indexFunc_ptr g hg cap b p A0 c0 l0 w hr0 hc0 hf)
 have HA := Aside0.mk (ixa_any p l0)
 clear hf hr0 hg hc0
 generalize ixa p l0 = n at *
 generalize l0.any p = b at *
 go_enter Tryd.func30, Tryd.ntmps30
 go_wp2_with (go_at_call 41; refine HM.out.mono ?_; rintro e w1 ⟨rfl, hb1⟩; have HB1 := Aside0.mk hb1; clear hb1)
 go_ret
 exact ⟨by rw [← HA.out]; rfl, HB1.out⟩
end Go.Proofs.YtehagnkcfgkomaaDoor.Arr
namespace Go.Proofs.YtehagnkcfgkomaaDoor.Arr
open Go.RowKit Go.Proofs.YtehagnkcfgkomaaDoorW.PrintWords Go.Proofs.YtehagnkcfgkomaaDoorW.PrintLast Go.Proofs.YtehagnkcfgkomaaDoorW.PrintMore Go.Proofs.YtehagnkcfgkomaaDoor.U Go.Proofs.YtehagnkcfgkomaaDoor.I
set_option linter.unusedVariables false
set_option linter.unusedSimpArgs false
def okx (x : Int) : Bool := decide (0 ≤ x ∧ x ≤ 20)
def okL (L : List Int) : Bool := L.all okx
theorem rd_in (L : List Int) (i : Nat) (h : i < L.length) : rd L (i : Int) ∈ L := by rw [rd_get L i h]; exact List.getElem_mem h
def Fits (k : IntKind) (L : List Int) : Prop := ∀ z ∈ L, (Lit.int k z).wf = true
theorem fits16 {x : Int} (h : (Lit.int .i16 x).wf = true) : -32768 ≤ x ∧ x ≤ 32767 := by
 simp only [Lit.wf, IntKind.min, IntKind.max, IntKind.signed, IntKind.bits, Bool.and_eq_true, decide_eq_true_eq, if_true] at h
 omega
theorem mix_all (L : List Int) (hl : L.length = 44) : mixTo (mixTo (zs 44) L 0 40) (L.drop 40) 40 4 = L := by
 have h1 : (L.take 40).length = 40 := by simp only [lens]; omega
 unfold mixTo
 simp only [Nat.zero_add, List.take_zero, List.nil_append]
 rw [List.take_left' h1, List.take_of_length_le (l := L.drop 40) (by simp only [lens]; omega), List.drop_of_length_le (i := 40 + 4) (by simp only [lens]; omega), List.append_nil, List.take_append_drop]
set_option maxHeartbeats 4000000 in
set_option maxRecDepth 100000 in
theorem pieces_calls (L : List Int) (w : World) (hl : L.length = 44) (hw : Fits .i16 L) : Calls Tryd.prog 29 #[.agg (vals .i16 L)] w fun e w' =>
  e = .returned (.agg (vals .i64 L)) ∧ Below w.heap.size w w' := by
 have hm := Mem.start w
 have HW := Aside0.mk hw
 have HL := Aside0.mk (halves L hl)
 clear hw
 go_enter Tryd.func29, Tryd.ntmps29
 go_wp2_with (first | fail | ((with_reducible refine gt_box 1 28 ?_); refine st_box rfl 1 rfl 28 _ rfl hm (v := .agg (vals _ _)) rfl (cs := vals _ _) rfl ?_; clear hm; intro g1 w1 hm) | ((with_reducible refine gt_alloc 2 59 ?_); refine st_alloc rfl 2 rfl 59 rfl hm zero59 ?_; clear hm; intro g2 w2 hm) | ((with_reducible refine gt_build 59 ?_); refine st_zero rfl 59 rfl built59 ?_) | ((with_reducible refine gt_alloc 3 59 ?_); refine st_alloc rfl 3 rfl 59 rfl hm zero59 ?_; clear hm; intro g3 w3 hm) | ((with_reducible refine gt_store 59 ?_); (first | (refine st_full rfl 59 _ _ rfl hm rfl rfl 0 rfl agg59 (by first | omega | assumption | (simp only [lens]; first | omega | assumption) | (simp [lens]; done) | (simp [lens]; omega)) (by first | omega | assumption | (simp only [lens]; first | omega | assumption) | (simp [lens]; done) | (simp [lens]; omega)) ?_) | (refine st_full rfl 59 _ _ rfl hm rfl rfl 1 rfl agg59 (by first | omega | assumption | (simp only [lens]; first | omega | assumption) | (simp [lens]; done) | (simp [lens]; omega)) (by first | omega | assumption | (simp only [lens]; first | omega | assumption) | (simp [lens]; done) | (simp [lens]; omega)) ?_) | (refine st_full rfl 59 _ _ rfl hm rfl rfl 2 rfl agg59 (by first | omega | assumption | (simp only [lens]; first | omega | assumption) | (simp [lens]; done) | (simp [lens]; omega)) (by first | omega | assumption | (simp only [lens]; first | omega | assumption) | (simp [lens]; done) | (simp [lens]; omega)) ?_) | (refine st_full rfl 59 _ _ rfl hm rfl rfl 3 rfl agg59 (by first | omega | assumption | (simp only [lens]; first | omega | assumption) | (simp [lens]; done) | (simp [lens]; omega)) (by first | omega | assumption | (simp only [lens]; first | omega | assumption) | (simp [lens]; done) | (simp [lens]; omega)) ?_) | (refine st_full rfl 59 _ _ rfl hm rfl rfl 4 rfl agg59 (by first | omega | assumption | (simp only [lens]; first | omega | assumption) | (simp [lens]; done) | (simp [lens]; omega)) (by first | omega | assumption | (simp only [lens]; first | omega | assumption) | (simp [lens]; done) | (simp [lens]; omega)) ?_)); clear hm; intro ws hm; simp only [List.set_cons_zero, List.set_cons_succ] at hm) | ((with_reducible refine gt_field 28 0 ?_); refine st_field rfl 28 _ 0 rfl rfl field28_0 ?_) | ((with_reducible refine gt_load 23 ?_); (first | (refine st_part rfl 23 _ rfl hm rfl 0 rfl agg23 (by first | omega | assumption | (simp only [lens]; first | omega | assumption) | (simp [lens]; done) | (simp [lens]; omega)) ?_) | (refine st_part rfl 23 _ rfl hm rfl 1 rfl agg23 (by first | omega | assumption | (simp only [lens]; first | omega | assumption) | (simp [lens]; done) | (simp [lens]; omega)) ?_) | (refine st_part rfl 23 _ rfl hm rfl 2 rfl agg23 (by first | omega | assumption | (simp only [lens]; first | omega | assumption) | (simp [lens]; done) | (simp [lens]; omega)) ?_) | (refine st_part rfl 23 _ rfl hm rfl 3 rfl agg23 (by first | omega | assumption | (simp only [lens]; first | omega | assumption) | (simp [lens]; done) | (simp [lens]; omega)) ?_) | (refine st_part rfl 23 _ rfl hm rfl 4 rfl agg23 (by first | omega | assumption | (simp only [lens]; first | omega | assumption) | (simp [lens]; done) | (simp [lens]; omega)) ?_))) | ((with_reducible refine gt_index 23 ?_); refine st_index rfl 23 _ _ rfl rfl rfl arr23 (by first | omega | assumption | (simp only [lens]; first | omega | assumption) | (simp [lens]; done) | (simp [lens]; omega)) (by first | omega | assumption | (simp only [lens]; first | omega | assumption) | (simp [lens]; done) | (simp [lens]; omega)) (by first | omega | assumption | (simp only [lens]; first | omega | assumption) | (simp [lens]; done) | (simp [lens]; omega)) ?_) | ((with_reducible refine gt_field 59 0 ?_); refine st_field rfl 59 _ 0 rfl rfl field59_0 ?_) | ((with_reducible refine gt_elem 56 ?_); refine st_elem rfl 56 _ _ rfl rfl rfl arr56 (by first | omega | assumption | (simp only [lens]; first | omega | assumption) | (simp [lens]; done) | (simp [lens]; omega)) (by first | omega | assumption | (simp only [lens]; first | omega | assumption) | (simp [lens]; done) | (simp [lens]; omega)) ?_) | ((with_reducible refine gt_store 3 ?_); (first | (refine st_set rfl 3 _ _ rfl hm rfl rfl 0 rfl one3 (by first | omega | assumption | (simp only [lens]; first | omega | assumption) | (simp [lens]; done) | (simp [lens]; omega)) ?_) | (refine st_set rfl 3 _ _ rfl hm rfl rfl 1 rfl one3 (by first | omega | assumption | (simp only [lens]; first | omega | assumption) | (simp [lens]; done) | (simp [lens]; omega)) ?_) | (refine st_set rfl 3 _ _ rfl hm rfl rfl 2 rfl one3 (by first | omega | assumption | (simp only [lens]; first | omega | assumption) | (simp [lens]; done) | (simp [lens]; omega)) ?_) | (refine st_set rfl 3 _ _ rfl hm rfl rfl 3 rfl one3 (by first | omega | assumption | (simp only [lens]; first | omega | assumption) | (simp [lens]; done) | (simp [lens]; omega)) ?_) | (refine st_set rfl 3 _ _ rfl hm rfl rfl 4 rfl one3 (by first | omega | assumption | (simp only [lens]; first | omega | assumption) | (simp [lens]; done) | (simp [lens]; omega)) ?_)); clear hm; intro ws hm; simp only [List.set_cons_zero, List.set_cons_succ] at hm) | ((with_reducible refine gt_field 28 1 ?_); refine st_field rfl 28 _ 1 rfl rfl field28_1 ?_) | ((with_reducible refine gt_load 24 ?_); (first | (refine st_part rfl 24 _ rfl hm rfl 0 rfl agg24 (by first | omega | assumption | (simp only [lens]; first | omega | assumption) | (simp [lens]; done) | (simp [lens]; omega)) ?_) | (refine st_part rfl 24 _ rfl hm rfl 1 rfl agg24 (by first | omega | assumption | (simp only [lens]; first | omega | assumption) | (simp [lens]; done) | (simp [lens]; omega)) ?_) | (refine st_part rfl 24 _ rfl hm rfl 2 rfl agg24 (by first | omega | assumption | (simp only [lens]; first | omega | assumption) | (simp [lens]; done) | (simp [lens]; omega)) ?_) | (refine st_part rfl 24 _ rfl hm rfl 3 rfl agg24 (by first | omega | assumption | (simp only [lens]; first | omega | assumption) | (simp [lens]; done) | (simp [lens]; omega)) ?_) | (refine st_part rfl 24 _ rfl hm rfl 4 rfl agg24 (by first | omega | assumption | (simp only [lens]; first | omega | assumption) | (simp [lens]; done) | (simp [lens]; omega)) ?_))) | ((with_reducible refine gt_index 24 ?_); refine st_index rfl 24 _ _ rfl rfl rfl arr24 (by first | omega | assumption | (simp only [lens]; first | omega | assumption) | (simp [lens]; done) | (simp [lens]; omega)) (by first | omega | assumption | (simp only [lens]; first | omega | assumption) | (simp [lens]; done) | (simp [lens]; omega)) (by first | omega | assumption | (simp only [lens]; first | omega | assumption) | (simp [lens]; done) | (simp [lens]; omega)) ?_) | ((with_reducible refine gt_field 59 1 ?_); refine st_field rfl 59 _ 1 rfl rfl field59_1 ?_) | ((with_reducible refine gt_elem 57 ?_); refine st_elem rfl 57 _ _ rfl rfl rfl arr57 (by first | omega | assumption | (simp only [lens]; first | omega | assumption) | (simp [lens]; done) | (simp [lens]; omega)) (by first | omega | assumption | (simp only [lens]; first | omega | assumption) | (simp [lens]; done) | (simp [lens]; omega)) ?_) | ((with_reducible refine gt_load 59 ?_); (first | (refine st_load rfl 59 _ rfl hm rfl 0 rfl agg59 (by first | omega | assumption | (simp only [lens]; first | omega | assumption) | (simp [lens]; done) | (simp [lens]; omega)) ?_) | (refine st_load rfl 59 _ rfl hm rfl 1 rfl agg59 (by first | omega | assumption | (simp only [lens]; first | omega | assumption) | (simp [lens]; done) | (simp [lens]; omega)) ?_) | (refine st_load rfl 59 _ rfl hm rfl 2 rfl agg59 (by first | omega | assumption | (simp only [lens]; first | omega | assumption) | (simp [lens]; done) | (simp [lens]; omega)) ?_) | (refine st_load rfl 59 _ rfl hm rfl 3 rfl agg59 (by first | omega | assumption | (simp only [lens]; first | omega | assumption) | (simp [lens]; done) | (simp [lens]; omega)) ?_) | (refine st_load rfl 59 _ rfl hm rfl 4 rfl agg59 (by first | omega | assumption | (simp only [lens]; first | omega | assumption) | (simp [lens]; done) | (simp [lens]; omega)) ?_))))
 go_loopw [11, 4, 5] (fun v11 v4 v5 wr => ∃ i : Nat, i ≤ 40 ∧ v11 = .int .i64 i ∧ Mem w wr [⟨g3, vals .i64 (mixTo (zs 44) L 0 i), 59, true⟩, ⟨g2, vals .i64 (zs 44), 59, true⟩, ⟨g1, vals .i16 L, 28, true⟩]) (fun v11 _ _ _ => 40 - (intOf v11).toNat)
 case atStart => exact ⟨0, by omega, rfl, by rw [mixTo_zero]; exact hm⟩
 case round =>
  obtain ⟨i, hi, rfl, hm⟩ := hrel
  have hl2 := mixTo_length (zs 44) L 0 i (by rw [zs_length]; omega) (by omega)
  rw [zs_length] at hl2
  by_cases hlt : i < 40
  ·have HR := Aside0.mk (rd_take L i 40 (by omega) (by omega))
   have hx16 := fits16 (HW.out _ (rd_in L i (by omega)))
   rw [← HR.out] at hx16
   go_wp2_with (first | fail | ((with_reducible refine gt_box 1 28 ?_); refine st_box rfl 1 rfl 28 _ rfl hm (v := .agg (vals _ _)) rfl (cs := vals _ _) rfl ?_; clear hm; intro g1 w1 hm) | ((with_reducible refine gt_alloc 2 59 ?_); refine st_alloc rfl 2 rfl 59 rfl hm zero59 ?_; clear hm; intro g2 w2 hm) | ((with_reducible refine gt_build 59 ?_); refine st_zero rfl 59 rfl built59 ?_) | ((with_reducible refine gt_alloc 3 59 ?_); refine st_alloc rfl 3 rfl 59 rfl hm zero59 ?_; clear hm; intro g3 w3 hm) | ((with_reducible refine gt_store 59 ?_); (first | (refine st_full rfl 59 _ _ rfl hm rfl rfl 0 rfl agg59 (by first | omega | assumption | (simp only [lens]; first | omega | assumption) | (simp [lens]; done) | (simp [lens]; omega)) (by first | omega | assumption | (simp only [lens]; first | omega | assumption) | (simp [lens]; done) | (simp [lens]; omega)) ?_) | (refine st_full rfl 59 _ _ rfl hm rfl rfl 1 rfl agg59 (by first | omega | assumption | (simp only [lens]; first | omega | assumption) | (simp [lens]; done) | (simp [lens]; omega)) (by first | omega | assumption | (simp only [lens]; first | omega | assumption) | (simp [lens]; done) | (simp [lens]; omega)) ?_) | (refine st_full rfl 59 _ _ rfl hm rfl rfl 2 rfl agg59 (by first | omega | assumption | (simp only [lens]; first | omega | assumption) | (simp [lens]; done) | (simp [lens]; omega)) (by first | omega | assumption | (simp only [lens]; first | omega | assumption) | (simp [lens]; done) | (simp [lens]; omega)) ?_) | (refine st_full rfl 59 _ _ rfl hm rfl rfl 3 rfl agg59 (by first | omega | assumption | (simp only [lens]; first | omega | assumption) | (simp [lens]; done) | (simp [lens]; omega)) (by first | omega | assumption | (simp only [lens]; first | omega | assumption) | (simp [lens]; done) | (simp [lens]; omega)) ?_) | (refine st_full rfl 59 _ _ rfl hm rfl rfl 4 rfl agg59 (by first | omega | assumption | (simp only [lens]; first | omega | assumption) | (simp [lens]; done) | (simp [lens]; omega)) (by first | omega | assumption | (simp only [lens]; first | omega | assumption) | (simp [lens]; done) | (simp [lens]; omega)) ?_)); clear hm; intro ws hm; simp only [List.set_cons_zero, List.set_cons_succ] at hm) | ((with_reducible refine gt_field 28 0 ?_); refine st_field rfl 28 _ 0 rfl rfl field28_0 ?_) | ((with_reducible refine gt_load 23 ?_); (first | (refine st_part rfl 23 _ rfl hm rfl 0 rfl agg23 (by first | omega | assumption | (simp only [lens]; first | omega | assumption) | (simp [lens]; done) | (simp [lens]; omega)) ?_) | (refine st_part rfl 23 _ rfl hm rfl 1 rfl agg23 (by first | omega | assumption | (simp only [lens]; first | omega | assumption) | (simp [lens]; done) | (simp [lens]; omega)) ?_) | (refine st_part rfl 23 _ rfl hm rfl 2 rfl agg23 (by first | omega | assumption | (simp only [lens]; first | omega | assumption) | (simp [lens]; done) | (simp [lens]; omega)) ?_) | (refine st_part rfl 23 _ rfl hm rfl 3 rfl agg23 (by first | omega | assumption | (simp only [lens]; first | omega | assumption) | (simp [lens]; done) | (simp [lens]; omega)) ?_) | (refine st_part rfl 23 _ rfl hm rfl 4 rfl agg23 (by first | omega | assumption | (simp only [lens]; first | omega | assumption) | (simp [lens]; done) | (simp [lens]; omega)) ?_))) | ((with_reducible refine gt_index 23 ?_); refine st_index rfl 23 _ _ rfl rfl rfl arr23 (by first | omega | assumption | (simp only [lens]; first | omega | assumption) | (simp [lens]; done) | (simp [lens]; omega)) (by first | omega | assumption | (simp only [lens]; first | omega | assumption) | (simp [lens]; done) | (simp [lens]; omega)) (by first | omega | assumption | (simp only [lens]; first | omega | assumption) | (simp [lens]; done) | (simp [lens]; omega)) ?_) | ((with_reducible refine gt_field 59 0 ?_); refine st_field rfl 59 _ 0 rfl rfl field59_0 ?_) | ((with_reducible refine gt_elem 56 ?_); refine st_elem rfl 56 _ _ rfl rfl rfl arr56 (by first | omega | assumption | (simp only [lens]; first | omega | assumption) | (simp [lens]; done) | (simp [lens]; omega)) (by first | omega | assumption | (simp only [lens]; first | omega | assumption) | (simp [lens]; done) | (simp [lens]; omega)) ?_) | ((with_reducible refine gt_store 3 ?_); (first | (refine st_set rfl 3 _ _ rfl hm rfl rfl 0 rfl one3 (by first | omega | assumption | (simp only [lens]; first | omega | assumption) | (simp [lens]; done) | (simp [lens]; omega)) ?_) | (refine st_set rfl 3 _ _ rfl hm rfl rfl 1 rfl one3 (by first | omega | assumption | (simp only [lens]; first | omega | assumption) | (simp [lens]; done) | (simp [lens]; omega)) ?_) | (refine st_set rfl 3 _ _ rfl hm rfl rfl 2 rfl one3 (by first | omega | assumption | (simp only [lens]; first | omega | assumption) | (simp [lens]; done) | (simp [lens]; omega)) ?_) | (refine st_set rfl 3 _ _ rfl hm rfl rfl 3 rfl one3 (by first | omega | assumption | (simp only [lens]; first | omega | assumption) | (simp [lens]; done) | (simp [lens]; omega)) ?_) | (refine st_set rfl 3 _ _ rfl hm rfl rfl 4 rfl one3 (by first | omega | assumption | (simp only [lens]; first | omega | assumption) | (simp [lens]; done) | (simp [lens]; omega)) ?_)); clear hm; intro ws hm; simp only [List.set_cons_zero, List.set_cons_succ] at hm) | ((with_reducible refine gt_field 28 1 ?_); refine st_field rfl 28 _ 1 rfl rfl field28_1 ?_) | ((with_reducible refine gt_load 24 ?_); (first | (refine st_part rfl 24 _ rfl hm rfl 0 rfl agg24 (by first | omega | assumption | (simp only [lens]; first | omega | assumption) | (simp [lens]; done) | (simp [lens]; omega)) ?_) | (refine st_part rfl 24 _ rfl hm rfl 1 rfl agg24 (by first | omega | assumption | (simp only [lens]; first | omega | assumption) | (simp [lens]; done) | (simp [lens]; omega)) ?_) | (refine st_part rfl 24 _ rfl hm rfl 2 rfl agg24 (by first | omega | assumption | (simp only [lens]; first | omega | assumption) | (simp [lens]; done) | (simp [lens]; omega)) ?_) | (refine st_part rfl 24 _ rfl hm rfl 3 rfl agg24 (by first | omega | assumption | (simp only [lens]; first | omega | assumption) | (simp [lens]; done) | (simp [lens]; omega)) ?_) | (refine st_part rfl 24 _ rfl hm rfl 4 rfl agg24 (by first | omega | assumption | (simp only [lens]; first | omega | assumption) | (simp [lens]; done) | (simp [lens]; omega)) ?_))) | ((with_reducible refine gt_index 24 ?_); refine st_index rfl 24 _ _ rfl rfl rfl arr24 (by first | omega | assumption | (simp only [lens]; first | omega | assumption) | (simp [lens]; done) | (simp [lens]; omega)) (by first | omega | assumption | (simp only [lens]; first | omega | assumption) | (simp [lens]; done) | (simp [lens]; omega)) (by first | omega | assumption | (simp only [lens]; first | omega | assumption) | (simp [lens]; done) | (simp [lens]; omega)) ?_) | ((with_reducible refine gt_field 59 1 ?_); refine st_field rfl 59 _ 1 rfl rfl field59_1 ?_) | ((with_reducible refine gt_elem 57 ?_); refine st_elem rfl 57 _ _ rfl rfl rfl arr57 (by first | omega | assumption | (simp only [lens]; first | omega | assumption) | (simp [lens]; done) | (simp [lens]; omega)) (by first | omega | assumption | (simp only [lens]; first | omega | assumption) | (simp [lens]; done) | (simp [lens]; omega)) ?_) | ((with_reducible refine gt_load 59 ?_); (first | (refine st_load rfl 59 _ rfl hm rfl 0 rfl agg59 (by first | omega | assumption | (simp only [lens]; first | omega | assumption) | (simp [lens]; done) | (simp [lens]; omega)) ?_) | (refine st_load rfl 59 _ rfl hm rfl 1 rfl agg59 (by first | omega | assumption | (simp only [lens]; first | omega | assumption) | (simp [lens]; done) | (simp [lens]; omega)) ?_) | (refine st_load rfl 59 _ rfl hm rfl 2 rfl agg59 (by first | omega | assumption | (simp only [lens]; first | omega | assumption) | (simp [lens]; done) | (simp [lens]; omega)) ?_) | (refine st_load rfl 59 _ rfl hm rfl 3 rfl agg59 (by first | omega | assumption | (simp only [lens]; first | omega | assumption) | (simp [lens]; done) | (simp [lens]; omega)) ?_) | (refine st_load rfl 59 _ rfl hm rfl 4 rfl agg59 (by first | omega | assumption | (simp only [lens]; first | omega | assumption) | (simp [lens]; done) | (simp [lens]; omega)) ?_))))
   go_roundw
   case rel =>
    refine ⟨i + 1, by omega, by go_num, ?_⟩
    rw [← mixTo_succ (zs 44) L 0 i (by rw [zs_length]; omega) (by omega), ← HR.out]
    simpa using hm
   case measure => simp [intOf]; omega
  ·have HI := Aside0.mk (show i = 40 by omega)
   generalize hF : mixTo (zs 44) L 0 i = F at *
   have HF := Aside0.mk hF
   clear hF
   go_wp2_with (first | fail | ((with_reducible refine gt_box 1 28 ?_); refine st_box rfl 1 rfl 28 _ rfl hm (v := .agg (vals _ _)) rfl (cs := vals _ _) rfl ?_; clear hm; intro g1 w1 hm) | ((with_reducible refine gt_alloc 2 59 ?_); refine st_alloc rfl 2 rfl 59 rfl hm zero59 ?_; clear hm; intro g2 w2 hm) | ((with_reducible refine gt_build 59 ?_); refine st_zero rfl 59 rfl built59 ?_) | ((with_reducible refine gt_alloc 3 59 ?_); refine st_alloc rfl 3 rfl 59 rfl hm zero59 ?_; clear hm; intro g3 w3 hm) | ((with_reducible refine gt_store 59 ?_); (first | (refine st_full rfl 59 _ _ rfl hm rfl rfl 0 rfl agg59 (by first | omega | assumption | (simp only [lens]; first | omega | assumption) | (simp [lens]; done) | (simp [lens]; omega)) (by first | omega | assumption | (simp only [lens]; first | omega | assumption) | (simp [lens]; done) | (simp [lens]; omega)) ?_) | (refine st_full rfl 59 _ _ rfl hm rfl rfl 1 rfl agg59 (by first | omega | assumption | (simp only [lens]; first | omega | assumption) | (simp [lens]; done) | (simp [lens]; omega)) (by first | omega | assumption | (simp only [lens]; first | omega | assumption) | (simp [lens]; done) | (simp [lens]; omega)) ?_) | (refine st_full rfl 59 _ _ rfl hm rfl rfl 2 rfl agg59 (by first | omega | assumption | (simp only [lens]; first | omega | assumption) | (simp [lens]; done) | (simp [lens]; omega)) (by first | omega | assumption | (simp only [lens]; first | omega | assumption) | (simp [lens]; done) | (simp [lens]; omega)) ?_) | (refine st_full rfl 59 _ _ rfl hm rfl rfl 3 rfl agg59 (by first | omega | assumption | (simp only [lens]; first | omega | assumption) | (simp [lens]; done) | (simp [lens]; omega)) (by first | omega | assumption | (simp only [lens]; first | omega | assumption) | (simp [lens]; done) | (simp [lens]; omega)) ?_) | (refine st_full rfl 59 _ _ rfl hm rfl rfl 4 rfl agg59 (by first | omega | assumption | (simp only [lens]; first | omega | assumption) | (simp [lens]; done) | (simp [lens]; omega)) (by first | omega | assumption | (simp only [lens]; first | omega | assumption) | (simp [lens]; done) | (simp [lens]; omega)) ?_)); clear hm; intro ws hm; simp only [List.set_cons_zero, List.set_cons_succ] at hm) | ((with_reducible refine gt_field 28 0 ?_); refine st_field rfl 28 _ 0 rfl rfl field28_0 ?_) | ((with_reducible refine gt_load 23 ?_); (first | (refine st_part rfl 23 _ rfl hm rfl 0 rfl agg23 (by first | omega | assumption | (simp only [lens]; first | omega | assumption) | (simp [lens]; done) | (simp [lens]; omega)) ?_) | (refine st_part rfl 23 _ rfl hm rfl 1 rfl agg23 (by first | omega | assumption | (simp only [lens]; first | omega | assumption) | (simp [lens]; done) | (simp [lens]; omega)) ?_) | (refine st_part rfl 23 _ rfl hm rfl 2 rfl agg23 (by first | omega | assumption | (simp only [lens]; first | omega | assumption) | (simp [lens]; done) | (simp [lens]; omega)) ?_) | (refine st_part rfl 23 _ rfl hm rfl 3 rfl agg23 (by first | omega | assumption | (simp only [lens]; first | omega | assumption) | (simp [lens]; done) | (simp [lens]; omega)) ?_) | (refine st_part rfl 23 _ rfl hm rfl 4 rfl agg23 (by first | omega | assumption | (simp only [lens]; first | omega | assumption) | (simp [lens]; done) | (simp [lens]; omega)) ?_))) | ((with_reducible refine gt_index 23 ?_); refine st_index rfl 23 _ _ rfl rfl rfl arr23 (by first | omega | assumption | (simp only [lens]; first | omega | assumption) | (simp [lens]; done) | (simp [lens]; omega)) (by first | omega | assumption | (simp only [lens]; first | omega | assumption) | (simp [lens]; done) | (simp [lens]; omega)) (by first | omega | assumption | (simp only [lens]; first | omega | assumption) | (simp [lens]; done) | (simp [lens]; omega)) ?_) | ((with_reducible refine gt_field 59 0 ?_); refine st_field rfl 59 _ 0 rfl rfl field59_0 ?_) | ((with_reducible refine gt_elem 56 ?_); refine st_elem rfl 56 _ _ rfl rfl rfl arr56 (by first | omega | assumption | (simp only [lens]; first | omega | assumption) | (simp [lens]; done) | (simp [lens]; omega)) (by first | omega | assumption | (simp only [lens]; first | omega | assumption) | (simp [lens]; done) | (simp [lens]; omega)) ?_) | ((with_reducible refine gt_store 3 ?_); (first | (refine st_set rfl 3 _ _ rfl hm rfl rfl 0 rfl one3 (by first | omega | assumption | (simp only [lens]; first | omega | assumption) | (simp [lens]; done) | (simp [lens]; omega)) ?_) | (refine st_set rfl 3 _ _ rfl hm rfl rfl 1 rfl one3 (by first | omega | assumption | (simp only [lens]; first | omega | assumption) | (simp [lens]; done) | (simp [lens]; omega)) ?_) | (refine st_set rfl 3 _ _ rfl hm rfl rfl 2 rfl one3 (by first | omega | assumption | (simp only [lens]; first | omega | assumption) | (simp [lens]; done) | (simp [lens]; omega)) ?_) | (refine st_set rfl 3 _ _ rfl hm rfl rfl 3 rfl one3 (by first | omega | assumption | (simp only [lens]; first | omega | assumption) | (simp [lens]; done) | (simp [lens]; omega)) ?_) | (refine st_set rfl 3 _ _ rfl hm rfl rfl 4 rfl one3 (by first | omega | assumption | (simp only [lens]; first | omega | assumption) | (simp [lens]; done) | (simp [lens]; omega)) ?_)); clear hm; intro ws hm; simp only [List.set_cons_zero, List.set_cons_succ] at hm) | ((with_reducible refine gt_field 28 1 ?_); refine st_field rfl 28 _ 1 rfl rfl field28_1 ?_) | ((with_reducible refine gt_load 24 ?_); (first | (refine st_part rfl 24 _ rfl hm rfl 0 rfl agg24 (by first | omega | assumption | (simp only [lens]; first | omega | assumption) | (simp [lens]; done) | (simp [lens]; omega)) ?_) | (refine st_part rfl 24 _ rfl hm rfl 1 rfl agg24 (by first | omega | assumption | (simp only [lens]; first | omega | assumption) | (simp [lens]; done) | (simp [lens]; omega)) ?_) | (refine st_part rfl 24 _ rfl hm rfl 2 rfl agg24 (by first | omega | assumption | (simp only [lens]; first | omega | assumption) | (simp [lens]; done) | (simp [lens]; omega)) ?_) | (refine st_part rfl 24 _ rfl hm rfl 3 rfl agg24 (by first | omega | assumption | (simp only [lens]; first | omega | assumption) | (simp [lens]; done) | (simp [lens]; omega)) ?_) | (refine st_part rfl 24 _ rfl hm rfl 4 rfl agg24 (by first | omega | assumption | (simp only [lens]; first | omega | assumption) | (simp [lens]; done) | (simp [lens]; omega)) ?_))) | ((with_reducible refine gt_index 24 ?_); refine st_index rfl 24 _ _ rfl rfl rfl arr24 (by first | omega | assumption | (simp only [lens]; first | omega | assumption) | (simp [lens]; done) | (simp [lens]; omega)) (by first | omega | assumption | (simp only [lens]; first | omega | assumption) | (simp [lens]; done) | (simp [lens]; omega)) (by first | omega | assumption | (simp only [lens]; first | omega | assumption) | (simp [lens]; done) | (simp [lens]; omega)) ?_) | ((with_reducible refine gt_field 59 1 ?_); refine st_field rfl 59 _ 1 rfl rfl field59_1 ?_) | ((with_reducible refine gt_elem 57 ?_); refine st_elem rfl 57 _ _ rfl rfl rfl arr57 (by first | omega | assumption | (simp only [lens]; first | omega | assumption) | (simp [lens]; done) | (simp [lens]; omega)) (by first | omega | assumption | (simp only [lens]; first | omega | assumption) | (simp [lens]; done) | (simp [lens]; omega)) ?_) | ((with_reducible refine gt_load 59 ?_); (first | (refine st_load rfl 59 _ rfl hm rfl 0 rfl agg59 (by first | omega | assumption | (simp only [lens]; first | omega | assumption) | (simp [lens]; done) | (simp [lens]; omega)) ?_) | (refine st_load rfl 59 _ rfl hm rfl 1 rfl agg59 (by first | omega | assumption | (simp only [lens]; first | omega | assumption) | (simp [lens]; done) | (simp [lens]; omega)) ?_) | (refine st_load rfl 59 _ rfl hm rfl 2 rfl agg59 (by first | omega | assumption | (simp only [lens]; first | omega | assumption) | (simp [lens]; done) | (simp [lens]; omega)) ?_) | (refine st_load rfl 59 _ rfl hm rfl 3 rfl agg59 (by first | omega | assumption | (simp only [lens]; first | omega | assumption) | (simp [lens]; done) | (simp [lens]; omega)) ?_) | (refine st_load rfl 59 _ rfl hm rfl 4 rfl agg59 (by first | omega | assumption | (simp only [lens]; first | omega | assumption) | (simp [lens]; done) | (simp [lens]; omega)) ?_))))
   go_loopw [23, 6, 7] (fun v23 v6 v7 wr => ∃ i : Nat, i ≤ 4 ∧ v23 = .int .i64 i ∧ Mem w wr [⟨g3, vals .i64 (mixTo F (L.drop 40) 40 i), 59, true⟩, ⟨g2, vals .i64 (zs 44), 59, true⟩, ⟨g1, vals .i16 L, 28, true⟩]) (fun v23 _ _ _ => 4 - (intOf v23).toNat)
   case atStart => exact ⟨0, by omega, rfl, by rw [mixTo_zero]; exact hm⟩
   case round =>
    obtain ⟨i2, hi2, rfl, hm⟩ := hrel
    have hl3 := mixTo_length F (L.drop 40) 40 i2 (by omega) (by simp; omega)
    by_cases hlt : i2 < 4
    ·have HR := Aside0.mk (rd_take (L.drop 40) i2 4 (by omega) (by simp; omega))
     have hx16 := fits16 (HW.out _ (List.mem_of_mem_drop (rd_in (L.drop 40) i2 (by simp; omega))))
     rw [← HR.out] at hx16
     go_wp2_with (first | fail | ((with_reducible refine gt_box 1 28 ?_); refine st_box rfl 1 rfl 28 _ rfl hm (v := .agg (vals _ _)) rfl (cs := vals _ _) rfl ?_; clear hm; intro g1 w1 hm) | ((with_reducible refine gt_alloc 2 59 ?_); refine st_alloc rfl 2 rfl 59 rfl hm zero59 ?_; clear hm; intro g2 w2 hm) | ((with_reducible refine gt_build 59 ?_); refine st_zero rfl 59 rfl built59 ?_) | ((with_reducible refine gt_alloc 3 59 ?_); refine st_alloc rfl 3 rfl 59 rfl hm zero59 ?_; clear hm; intro g3 w3 hm) | ((with_reducible refine gt_store 59 ?_); (first | (refine st_full rfl 59 _ _ rfl hm rfl rfl 0 rfl agg59 (by first | omega | assumption | (simp only [lens]; first | omega | assumption) | (simp [lens]; done) | (simp [lens]; omega)) (by first | omega | assumption | (simp only [lens]; first | omega | assumption) | (simp [lens]; done) | (simp [lens]; omega)) ?_) | (refine st_full rfl 59 _ _ rfl hm rfl rfl 1 rfl agg59 (by first | omega | assumption | (simp only [lens]; first | omega | assumption) | (simp [lens]; done) | (simp [lens]; omega)) (by first | omega | assumption | (simp only [lens]; first | omega | assumption) | (simp [lens]; done) | (simp [lens]; omega)) ?_) | (refine st_full rfl 59 _ _ rfl hm rfl rfl 2 rfl agg59 (by first | omega | assumption | (simp only [lens]; first | omega | assumption) | (simp [lens]; done) | (simp [lens]; omega)) (by first | omega | assumption | (simp only [lens]; first | omega | assumption) | (simp [lens]; done) | (simp [lens]; omega)) ?_) | (refine st_full rfl 59 _ _ rfl hm rfl rfl 3 rfl agg59 (by first | omega | assumption | (simp only [lens]; first | omega | assumption) | (simp [lens]; done) | (simp [lens]; omega)) (by first | omega | assumption | (simp only [lens]; first | omega | assumption) | (simp [lens]; done) | (simp [lens]; omega)) ?_) | (refine st_full rfl 59 _ _ rfl hm rfl rfl 4 rfl agg59 (by first | omega | assumption | (simp only [lens]; first | omega | assumption) | (simp [lens]; done) | (simp [lens]; omega)) (by first | omega | assumption | (simp only [lens]; first | omega | assumption) | (simp [lens]; done) | (simp [lens]; omega)) ?_)); clear hm; intro ws hm; simp only [List.set_cons_zero, List.set_cons_succ] at hm) | ((with_reducible refine gt_field 28 0 ?_); refine st_field rfl 28 _ 0 rfl rfl field28_0 ?_) | ((with_reducible refine gt_load 23 ?_); (first | (refine st_part rfl 23 _ rfl hm rfl 0 rfl agg23 (by first | omega | assumption | (simp only [lens]; first | omega | assumption) | (simp [lens]; done) | (simp [lens]; omega)) ?_) | (refine st_part rfl 23 _ rfl hm rfl 1 rfl agg23 (by first | omega | assumption | (simp only [lens]; first | omega | assumption) | (simp [lens]; done) | (simp [lens]; omega)) ?_) | (refine st_part rfl 23 _ rfl hm rfl 2 rfl agg23 (by first | omega | assumption | (simp only [lens]; first | omega | assumption) | (simp [lens]; done) | (simp [lens]; omega)) ?_) | (refine st_part rfl 23 _ rfl hm rfl 3 rfl agg23 (by first | omega | assumption | (simp only [lens]; first | omega | assumption) | (simp [lens]; done) | (simp [lens]; omega)) ?_) | (refine st_part rfl 23 _ rfl hm rfl 4 rfl agg23 (by first | omega | assumption | (simp only [lens]; first | omega | assumption) | (simp [lens]; done) | (simp [lens]; omega)) ?_))) | ((with_reducible refine gt_index 23 ?_); refine st_index rfl 23 _ _ rfl rfl rfl arr23 (by first | omega | assumption | (simp only [lens]; first | omega | assumption) | (simp [lens]; done) | (simp [lens]; omega)) (by first | omega | assumption | (simp only [lens]; first | omega | assumption) | (simp [lens]; done) | (simp [lens]; omega)) (by first | omega | assumption | (simp only [lens]; first | omega | assumption) | (simp [lens]; done) | (simp [lens]; omega)) ?_) | ((with_reducible refine gt_field 59 0 ?_); refine st_field rfl 59 _ 0 rfl rfl field59_0 ?_) | ((with_reducible refine gt_elem 56 ?_); refine st_elem rfl 56 _ _ rfl rfl rfl arr56 (by first | omega | assumption | (simp only [lens]; first | omega | assumption) | (simp [lens]; done) | (simp [lens]; omega)) (by first | omega | assumption | (simp only [lens]; first | omega | assumption) | (simp [lens]; done) | (simp [lens]; omega)) ?_) | ((with_reducible refine gt_store 3 ?_); (first | (refine st_set rfl 3 _ _ rfl hm rfl rfl 0 rfl one3 (by first | omega | assumption | (simp only [lens]; first | omega | assumption) | (simp [lens]; done) | (simp [lens]; omega)) ?_) | (refine st_set rfl 3 _ _ rfl hm rfl rfl 1 rfl one3 (by first | omega | assumption | (simp only [lens]; first | omega | assumption) | (simp [lens]; done) | (simp [lens]; omega)) ?_) | (refine st_set rfl 3 _ _ rfl hm rfl rfl 2 rfl one3 (by first | omega | assumption | (simp only [lens]; first | omega | assumption) | (simp [lens]; done) | (simp [lens]; omega)) ?_) | (refine st_set rfl 3 _ _ rfl hm rfl rfl 3 rfl one3 (by first | omega | assumption | (simp only [lens]; first | omega | assumption) | (simp [lens]; done) | (simp [lens]; omega)) ?_) | (refine st_set rfl 3 _ _ rfl hm rfl rfl 4 rfl one3 (by first | omega | assumption | (simp only [lens]; first | omega | assumption) | (simp [lens]; done) | (simp [lens]; omega)) ?_)); clear hm; intro ws hm; simp only [List.set_cons_zero, List.set_cons_succ] at hm) | ((with_reducible refine gt_field 28 1 ?_); refine st_field rfl 28 _ 1 rfl rfl field28_1 ?_) | ((with_reducible refine gt_load 24 ?_); (first | (refine st_part rfl 24 _ rfl hm rfl 0 rfl agg24 (by first | omega | assumption | (simp only [lens]; first | omega | assumption) | (simp [lens]; done) | (simp [lens]; omega)) ?_) | (refine st_part rfl 24 _ rfl hm rfl 1 rfl agg24 (by first | omega | assumption | (simp only [lens]; first | omega | assumption) | (simp [lens]; done) | (simp [lens]; omega)) ?_) | (refine st_part rfl 24 _ rfl hm rfl 2 rfl agg24 (by first | omega | assumption | (simp only [lens]; first | omega | assumption) | (simp [lens]; done) | (simp [lens]; omega)) ?_) | (refine st_part rfl 24 _ rfl hm rfl 3 rfl agg24 (by first | omega | assumption | (simp only [lens]; first | omega | assumption) | (simp [lens]; done) | (simp [lens]; omega)) ?_) | (refine st_part rfl 24 _ rfl hm rfl 4 rfl agg24 (by first | omega | assumption | (simp only [lens]; first | omega | assumption) | (simp [lens]; done) | (simp [lens]; omega)) ?_))) | ((with_reducible refine gt_index 24 ?_); refine st_index rfl 24 _ _ rfl rfl rfl arr24 (by first | omega | assumption | (simp only [lens]; first | omega | assumption) | (simp [lens]; done) | (simp [lens]; omega)) (by first | omega | assumption | (simp only [lens]; first | omega | assumption) | (simp [lens]; done) | (simp [lens]; omega)) (by first | omega | assumption | (simp only [lens]; first | omega | assumption) | (simp [lens]; done) | (simp [lens]; omega)) ?_) | ((with_reducible refine gt_field 59 1 ?_); refine st_field rfl 59 _ 1 rfl rfl field59_1 ?_) | ((with_reducible refine gt_elem 57 ?_); refine st_elem rfl 57 _ _ rfl rfl rfl arr57 (by first | omega | assumption | (simp only [lens]; first | omega | assumption) | (simp [lens]; done) | (simp [lens]; omega)) (by first | omega | assumption | (simp only [lens]; first | omega | assumption) | (simp [lens]; done) | (simp [lens]; omega)) ?_) | ((with_reducible refine gt_load 59 ?_); (first | (refine st_load rfl 59 _ rfl hm rfl 0 rfl agg59 (by first | omega | assumption | (simp only [lens]; first | omega | assumption) | (simp [lens]; done) | (simp [lens]; omega)) ?_) | (refine st_load rfl 59 _ rfl hm rfl 1 rfl agg59 (by first | omega | assumption | (simp only [lens]; first | omega | assumption) | (simp [lens]; done) | (simp [lens]; omega)) ?_) | (refine st_load rfl 59 _ rfl hm rfl 2 rfl agg59 (by first | omega | assumption | (simp only [lens]; first | omega | assumption) | (simp [lens]; done) | (simp [lens]; omega)) ?_) | (refine st_load rfl 59 _ rfl hm rfl 3 rfl agg59 (by first | omega | assumption | (simp only [lens]; first | omega | assumption) | (simp [lens]; done) | (simp [lens]; omega)) ?_) | (refine st_load rfl 59 _ rfl hm rfl 4 rfl agg59 (by first | omega | assumption | (simp only [lens]; first | omega | assumption) | (simp [lens]; done) | (simp [lens]; omega)) ?_))))
     go_roundw
     case rel =>
      refine ⟨i2 + 1, by omega, by go_num, ?_⟩
      rw [← mixTo_succ F (L.drop 40) 40 i2 (by omega) (by simp; omega), ← HR.out]
      simpa using hm
     case measure => simp [intOf]; omega
    ·have HI2 := Aside0.mk (show i2 = 4 by omega)
     have HFL := Aside0.mk hl3
     go_wp2_with (first | fail | ((with_reducible refine gt_box 1 28 ?_); refine st_box rfl 1 rfl 28 _ rfl hm (v := .agg (vals _ _)) rfl (cs := vals _ _) rfl ?_; clear hm; intro g1 w1 hm) | ((with_reducible refine gt_alloc 2 59 ?_); refine st_alloc rfl 2 rfl 59 rfl hm zero59 ?_; clear hm; intro g2 w2 hm) | ((with_reducible refine gt_build 59 ?_); refine st_zero rfl 59 rfl built59 ?_) | ((with_reducible refine gt_alloc 3 59 ?_); refine st_alloc rfl 3 rfl 59 rfl hm zero59 ?_; clear hm; intro g3 w3 hm) | ((with_reducible refine gt_store 59 ?_); (first | (refine st_full rfl 59 _ _ rfl hm rfl rfl 0 rfl agg59 (by first | omega | assumption | (simp only [lens]; first | omega | assumption) | (simp [lens]; done) | (simp [lens]; omega)) (by first | omega | assumption | (simp only [lens]; first | omega | assumption) | (simp [lens]; done) | (simp [lens]; omega)) ?_) | (refine st_full rfl 59 _ _ rfl hm rfl rfl 1 rfl agg59 (by first | omega | assumption | (simp only [lens]; first | omega | assumption) | (simp [lens]; done) | (simp [lens]; omega)) (by first | omega | assumption | (simp only [lens]; first | omega | assumption) | (simp [lens]; done) | (simp [lens]; omega)) ?_) | (refine st_full rfl 59 _ _ rfl hm rfl rfl 2 rfl agg59 (by first | omega | assumption | (simp only [lens]; first | omega | assumption) | (simp [lens]; done) | (simp [lens]; omega)) (by first | omega | assumption | (simp only [lens]; first | omega | assumption) | (simp [lens]; done) | (simp [lens]; omega)) ?_) | (refine st_full rfl 59 _ _ rfl hm rfl rfl 3 rfl agg59 (by first | omega | assumption | (simp only [lens]; first | omega | assumption) | (simp [lens]; done) | (simp [lens]; omega)) (by first | omega | assumption | (simp only [lens]; first | omega | assumption) | (simp [lens]; done) | (simp [lens]; omega)) ?_) | (refine st_full rfl 59 _ _ rfl hm rfl rfl 4 rfl agg59 (by first | omega | assumption | (simp only [lens]; first | omega | assumption) | (simp [lens]; done) | (simp [lens]; omega)) (by first | omega | assumption | (simp only [lens]; first | omega | assumption) | (simp [lens]; done) | (simp [lens]; omega)) ?_)); clear hm; intro ws hm; simp only [List.set_cons_zero, List.set_cons_succ] at hm) | ((with_reducible refine gt_field 28 0 ?_); refine st_field rfl 28 _ 0 rfl rfl field28_0 ?_) | ((with_reducible refine gt_load 23 ?_); (first | (refine st_part rfl 23 _ rfl hm rfl 0 rfl agg23 (by first | omega | assumption | (simp only [lens]; first | omega | assumption) | (simp [lens]; done) | (simp [lens]; omega)) ?_) | (refine st_part rfl 23 _ rfl hm rfl 1 rfl agg23 (by first | omega | assumption | (simp only [lens]; first | omega | assumption) | (simp [lens]; done) | (simp [lens]; omega)) ?_) | (refine st_part rfl 23 _ rfl hm rfl 2 rfl agg23 (by first | omega | assumption | (simp only [lens]; first | omega | assumption) | (simp [lens]; done) | (simp [lens]; omega)) ?_) | (refine st_part rfl 23 _ rfl hm rfl 3 rfl agg23 (by first | omega | assumption | (simp only [lens]; first | omega | assumption) | (simp [lens]; done) | (simp [lens]; omega)) ?_) | (refine st_part rfl 23 _ rfl hm rfl 4 rfl agg23 (by first | omega | assumption | (simp only [lens]; first | omega | assumption) | (simp [lens]; done) | (simp [lens]; omega)) ?_))) | ((with_reducible refine gt_index 23 ?_); refine st_index rfl 23 _ _ rfl rfl rfl arr23 (by first | omega | assumption | (simp only [lens]; first | omega | assumption) | (simp [lens]; done) | (simp [lens]; omega)) (by first | omega | assumption | (simp only [lens]; first | omega | assumption) | (simp [lens]; done) | (simp [lens]; omega)) (by first | omega | assumption | (simp only [lens]; first | omega | assumption) | (simp [lens]; done) | (simp [lens]; omega)) ?_) | ((with_reducible refine gt_field 59 0 ?_); refine st_field rfl 59 _ 0 rfl rfl field59_0 ?_) | ((with_reducible refine gt_elem 56 ?_); refine st_elem rfl 56 _ _ rfl rfl rfl arr56 (by first | omega | assumption | (simp only [lens]; first | omega | assumption) | (simp [lens]; done) | (simp [lens]; omega)) (by first | omega | assumption | (simp only [lens]; first | omega | assumption) | (simp [lens]; done) | (simp [lens]; omega)) ?_) | ((with_reducible refine gt_store 3 ?_); (first | (refine st_set rfl 3 _ _ rfl hm rfl rfl 0 rfl one3 (by first | omega | assumption | (simp only [lens]; first | omega | assumption) | (simp [lens]; done) | (simp [lens]; omega)) ?_) | (refine st_set rfl 3 _ _ rfl hm rfl rfl 1 rfl one3 (by first | omega | assumption | (simp only [lens]; first | omega | assumption) | (simp [lens]; done) | (simp [lens]; omega)) ?_) | (refine st_set rfl 3 _ _ rfl hm rfl rfl 2 rfl one3 (by first | omega | assumption | (simp only [lens]; first | omega | assumption) | (simp [lens]; done) | (simp [lens]; omega)) ?_) | (refine st_set rfl 3 _ _ rfl hm rfl rfl 3 rfl one3 (by first | omega | assumption | (simp only [lens]; first | omega | assumption) | (simp [lens]; done) | (simp [lens]; omega)) ?_) | (refine st_set rfl 3 _ _ rfl hm rfl rfl 4 rfl one3 (by first | omega | assumption | (simp only [lens]; first | omega | assumption) | (simp [lens]; done) | (simp [lens]; omega)) ?_)); clear hm; intro ws hm; simp only [List.set_cons_zero, List.set_cons_succ] at hm) | ((with_reducible refine gt_field 28 1 ?_); refine st_field rfl 28 _ 1 rfl rfl field28_1 ?_) | ((with_reducible refine gt_load 24 ?_); (first | (refine st_part rfl 24 _ rfl hm rfl 0 rfl agg24 (by first | omega | assumption | (simp only [lens]; first | omega | assumption) | (simp [lens]; done) | (simp [lens]; omega)) ?_) | (refine st_part rfl 24 _ rfl hm rfl 1 rfl agg24 (by first | omega | assumption | (simp only [lens]; first | omega | assumption) | (simp [lens]; done) | (simp [lens]; omega)) ?_) | (refine st_part rfl 24 _ rfl hm rfl 2 rfl agg24 (by first | omega | assumption | (simp only [lens]; first | omega | assumption) | (simp [lens]; done) | (simp [lens]; omega)) ?_) | (refine st_part rfl 24 _ rfl hm rfl 3 rfl agg24 (by first | omega | assumption | (simp only [lens]; first | omega | assumption) | (simp [lens]; done) | (simp [lens]; omega)) ?_) | (refine st_part rfl 24 _ rfl hm rfl 4 rfl agg24 (by first | omega | assumption | (simp only [lens]; first | omega | assumption) | (simp [lens]; done) | (simp [lens]; omega)) ?_))) | ((with_reducible refine gt_index 24 ?_); refine st_index rfl 24 _ _ rfl rfl rfl arr24 (by first | omega | assumption | (simp only [lens]; first | omega | assumption) | (simp [lens]; done) | (simp [lens]; omega)) (by first | omega | assumption | (simp only [lens]; first | omega | assumption) | (simp [lens]; done) | (simp [lens]; omega)) (by first | omega | assumption | (simp only [lens]; first | omega | assumption) | (simp [lens]; done) | (simp [lens]; omega)) ?_) | ((with_reducible refine gt_field 59 1 ?_); refine st_field rfl 59 _ 1 rfl rfl field59_1 ?_) | ((with_reducible refine gt_elem 57 ?_); refine st_elem rfl 57 _ _ rfl rfl rfl arr57 (by first | omega | assumption | (simp only [lens]; first | omega | assumption) | (simp [lens]; done) | (simp [lens]; omega)) (by first | omega | assumption | (simp only [lens]; first | omega | assumption) | (simp [lens]; done) | (simp [lens]; omega)) ?_) | ((with_reducible refine gt_load 59 ?_); (first | (refine st_load rfl 59 _ rfl hm rfl 0 rfl agg59 (by first | omega | assumption | (simp only [lens]; first | omega | assumption) | (simp [lens]; done) | (simp [lens]; omega)) ?_) | (refine st_load rfl 59 _ rfl hm rfl 1 rfl agg59 (by first | omega | assumption | (simp only [lens]; first | omega | assumption) | (simp [lens]; done) | (simp [lens]; omega)) ?_) | (refine st_load rfl 59 _ rfl hm rfl 2 rfl agg59 (by first | omega | assumption | (simp only [lens]; first | omega | assumption) | (simp [lens]; done) | (simp [lens]; omega)) ?_) | (refine st_load rfl 59 _ rfl hm rfl 3 rfl agg59 (by first | omega | assumption | (simp only [lens]; first | omega | assumption) | (simp [lens]; done) | (simp [lens]; omega)) ?_) | (refine st_load rfl 59 _ rfl hm rfl 4 rfl agg59 (by first | omega | assumption | (simp only [lens]; first | omega | assumption) | (simp [lens]; done) | (simp [lens]; omega)) ?_))))
     ((try simp only [Exit.inBlock, Exit.then]); (first | (refine ret_cell hm rfl rfl 1 rfl agg59 (by first | omega | assumption | (simp only [lens]; first | omega | assumption) | (simp [lens]; done) | (simp [lens]; omega)) rfl ?_) | (refine ret_cell_tmp hm rfl rfl 1 rfl agg59 (by first | omega | assumption | (simp only [lens]; first | omega | assumption) | (simp [lens]; done) | (simp [lens]; omega)) rfl ?_)))
     refine ⟨?_, hm.done rfl⟩
     rw [← HF.out, HI.out, HI2.out]
     rw [mix_all L hl]
theorem info63p : (Tryd.prog.info? 63).map (fun i => (i.zero, i.size, i.bytes)) = some (some (.pointer none), 1, 8) := by kernel_rfl
set_option maxHeartbeats 4000000 in
set_option maxRecDepth 100000 in
theorem all_calls (g : Nat) (w : World) : Calls Tryd.prog 31 #[.pointer (some ⟨g, 0, none⟩)] w fun e w' =>
  ∃ v, e = .returned v ∧ Kd.R (ptrk g) 63 w' w.heap.size (fun _ => True) v (List.range 44) ∧ Below w.heap.size w w' := by
 have HB := Aside0.mk (Below.refl w.heap.size w)
 go_enter Tryd.func31, Tryd.ntmps31
 go_wp2_with ((with_reducible refine gate_dst (N := 6) rfl ?_); refine Kd.R_lit (ptrk g) _ 63 ?hg (N := 6) ?hd (xs := ([] : List Nat)) (inner := []) (ok := fun _ => True) (okp := fun _ => True) ?hr ?hp (fun _ hk => hk) trivial (Below.refl _ _) (Nat.le_refl _) (by simp) ?_; (case hd => rfl); (case hg => rfl); (case hr => first | (go_simp; done) | (go_simp; rfl)); (case hp => exact (Reps.none _ _)); intro v6 w6 ho6 hb hg_ hnew_; clear hg_ hnew_; have HO := Aside0.mk ho6; have HB := Aside0.mk hb; clear ho6 hb)
 go_loopw [7, 3, 4] (fun v7 v3 v4 wr => ∃ i : Nat, i ≤ 40 ∧ v7 = .int .i64 i ∧ Aside0 (Kd.R (ptrk g) 63 wr w.heap.size (fun _ => True) v3 (List.range i)) ∧ Aside0 (Below w.heap.size w wr)) (fun v7 _ _ _ => 40 - (intOf v7).toNat)
 case atStart => exact ⟨0, by omega, rfl, HO, HB⟩
 case round =>
  obtain ⟨i, hi, rfl, HO, HB⟩ := hrel
  by_cases hlt : i < 40
  ·go_wp2_with (first | (first | fail | ((with_reducible refine gt_field 59 0 ?_); refine st_field rfl 59 _ 0 rfl rfl field59_0 ?_) | ((with_reducible refine gt_elem 56 ?_); refine st_elem rfl 56 _ _ rfl rfl rfl arr56 (by first | omega | assumption | (simp only [lens]; first | omega | assumption) | (simp [lens]; done) | (simp [lens]; omega)) (by first | omega | assumption | (simp only [lens]; first | omega | assumption) | (simp [lens]; done) | (simp [lens]; omega)) ?_) | ((with_reducible refine gt_field 59 1 ?_); refine st_field rfl 59 _ 1 rfl rfl field59_1 ?_) | ((with_reducible refine gt_elem 57 ?_); refine st_elem rfl 57 _ _ rfl rfl rfl arr57 (by first | omega | assumption | (simp only [lens]; first | omega | assumption) | (simp [lens]; done) | (simp [lens]; omega)) (by first | omega | assumption | (simp only [lens]; first | omega | assumption) | (simp [lens]; done) | (simp [lens]; omega)) ?_)) | ((with_reducible refine gate_builtin (b := .append) (xs := #[.tmp 10, .tmp 16]) rfl ?_); at_builtin; refine Kd.R_append (ptrk g) (w0 := w) w.heap.size rfl (.tmp 10) (.tmp 16) 62 63 (.pointer none) 8 rfl Tryd.underlying62 info63p rfl (Nat.lt_succ_self 0) (by omega) _ (List.range i) i [.pointer (some ⟨g, i, none⟩)] (fun _ => True) (fun _ => False) rfl rfl ?aP (fun _ hk => hk.elim) ?aF ?aO ?aB ?aS ?aL ?_; (case aP => exact rfl); (case aB => exact HB.out); (case aF => exact (fun _ _ => trivial)); (case aO => exact HO.out); (case aS => exact HB.out.size); (case aL => rw [List.length_range]; omega); intro v1 w1 ho hb hg hat; have HO := Aside0.mk ho; have HB := Aside0.mk hb; clear ho hb hg hat))
   go_roundw
   case rel => exact ⟨i + 1, by omega, by go_num, by rw [List.range_succ]; exact HO, HB⟩
   case measure => simp [intOf]; omega
  ·have HI := Aside0.mk (show i = 40 by omega)
   go_wp2_with fail
   go_loopw [19, 3, 5] (fun v19 v3 v5 wr => ∃ i : Nat, i ≤ 4 ∧ v19 = .int .i64 i ∧ Aside0 (Kd.R (ptrk g) 63 wr w.heap.size (fun _ => True) v3 (List.range (40 + i))) ∧ Aside0 (Below w.heap.size w wr)) (fun v19 _ _ _ => 4 - (intOf v19).toNat)
   case atStart => exact ⟨0, by omega, rfl, by rw [HI.out] at HO; exact HO, HB⟩
   case round =>
    obtain ⟨i2, hi2, rfl, HO, HB⟩ := hrel
    by_cases hlt : i2 < 4
    ·go_wp2_with (first | (first | fail | ((with_reducible refine gt_field 59 0 ?_); refine st_field rfl 59 _ 0 rfl rfl field59_0 ?_) | ((with_reducible refine gt_elem 56 ?_); refine st_elem rfl 56 _ _ rfl rfl rfl arr56 (by first | omega | assumption | (simp only [lens]; first | omega | assumption) | (simp [lens]; done) | (simp [lens]; omega)) (by first | omega | assumption | (simp only [lens]; first | omega | assumption) | (simp [lens]; done) | (simp [lens]; omega)) ?_) | ((with_reducible refine gt_field 59 1 ?_); refine st_field rfl 59 _ 1 rfl rfl field59_1 ?_) | ((with_reducible refine gt_elem 57 ?_); refine st_elem rfl 57 _ _ rfl rfl rfl arr57 (by first | omega | assumption | (simp only [lens]; first | omega | assumption) | (simp [lens]; done) | (simp [lens]; omega)) (by first | omega | assumption | (simp only [lens]; first | omega | assumption) | (simp [lens]; done) | (simp [lens]; omega)) ?_)) | ((with_reducible refine gate_builtin (b := .append) (xs := #[.tmp 22, .tmp 28]) rfl ?_); at_builtin; refine Kd.R_append (ptrk g) (w0 := w) w.heap.size rfl (.tmp 22) (.tmp 28) 62 63 (.pointer none) 8 rfl Tryd.underlying62 info63p rfl (Nat.lt_succ_self 0) (by omega) _ (List.range (40 + i2)) (40 + i2) [.pointer (some ⟨g, 40 + i2, none⟩)] (fun _ => True) (fun _ => False) rfl rfl ?aP (fun _ hk => hk.elim) ?aF ?aO ?aB ?aS ?aL ?_; (case aP => exact rfl); (case aB => exact HB.out); (case aF => exact (fun _ _ => trivial)); (case aO => exact HO.out); (case aS => exact HB.out.size); (case aL => rw [List.length_range]; omega); intro v1 w1 ho hb hg hat; have HO := Aside0.mk ho; have HB := Aside0.mk hb; clear ho hb hg hat))
     go_roundw
     case rel => exact ⟨i2 + 1, by omega, by go_num, by rw [show 40 + (i2 + 1) = 40 + i2 + 1 from rfl, List.range_succ]; exact HO, HB⟩
     case measure => simp [intOf]; omega
    ·have HI2 := Aside0.mk (show i2 = 4 by omega)
     go_wp2_with fail
     go_ret
     refine ⟨_, rfl, ?_, HB.out⟩
     have := HO.out
     rwa [HI2.out] at this
set_option maxHeartbeats 4000000 in
set_option maxRecDepth 100000 in
theorem valid1_calls (g i : Nat) (n : Int) (w : World) (hc : w.cell? ⟨g, i, none⟩ = some (.int .i64 n)) :
  Calls Tryd.prog 32 (#[.pointer (some ⟨g, i, none⟩)] ++ #[]) w fun e w' => e = .returned (.bool (!okx n)) ∧ Below w.heap.size w w' := by
 go_enter Tryd.func32, Tryd.ntmps32
 go_wp2_with (go_at_call 25; refine (within_calls _ _ _ _).mono ?_; rintro e wa ⟨rfl, hb⟩; have HB := Aside0.mk hb; clear hb)
 go_ret
 refine ⟨?_, HB.out⟩
 unfold okx
 congr 2
 by_cases h0 : 0 ≤ n <;> by_cases h1 : n ≤ 20 <;> simp [h0, h1]
theorem valid1_enters (a : Array Value) (W : World) : (callFunc 32 a).run Tryd.prog W = .ok (.enter 32 a) W := by kernel_rfl
theorem any_range (L : List Int) (hl : L.length = 44) : (List.range 44).any (fun i => !okx (rd L (i : Int))) = !okL L := by
 cases h : okL L with
 | true =>
  rw [List.any_eq_false.2]
  ·rfl
  ·intro i hi
   have := List.all_eq_true.1 h _ (rd_in L i (by rw [hl]; exact List.mem_range.1 hi))
   simp [this]
 | false =>
  obtain ⟨x, hx, hp⟩ := List.all_eq_false.1 h
  obtain ⟨j, hj, rfl⟩ := List.getElem_of_mem hx
  rw [List.any_eq_true.2]
  ·rfl
  ·exact ⟨j, List.mem_range.2 (by omega), by rw [rd_get L j hj]; simpa using hp⟩
set_option maxHeartbeats 4000000 in
set_option maxRecDepth 100000 in
theorem implValid_calls (L : List Int) (w : World) (hl : L.length = 44) (hw : Fits .i16 L) : Calls Tryd.prog 15 #[.agg (vals .i16 L)] w fun e w' => e = .returned (.bool (okL L)) ∧ Below w.heap.size w w' := by
 have hm := Mem.start w
 have HW := Aside0.mk hw
 have HA := Aside0.mk (any_range L hl)
 clear hw
 go_enter Tryd.func15, Tryd.ntmps15
 go_wp2_with (first
  | (first | fail | ((with_reducible refine gt_box 1 28 ?_); refine st_box rfl 1 rfl 28 _ rfl hm (v := .agg (vals _ _)) rfl (cs := vals _ _) rfl ?_; clear hm; intro g1 w1 hm) | ((with_reducible refine gt_load 28 ?_); (first | (refine st_load rfl 28 _ rfl hm rfl 0 rfl agg28 (by first | omega | assumption | (simp only [lens]; first | omega | assumption) | (simp [lens]; done) | (simp [lens]; omega)) ?_) | (refine st_load rfl 28 _ rfl hm rfl 1 rfl agg28 (by first | omega | assumption | (simp only [lens]; first | omega | assumption) | (simp [lens]; done) | (simp [lens]; omega)) ?_) | (refine st_load rfl 28 _ rfl hm rfl 2 rfl agg28 (by first | omega | assumption | (simp only [lens]; first | omega | assumption) | (simp [lens]; done) | (simp [lens]; omega)) ?_) | (refine st_load rfl 28 _ rfl hm rfl 3 rfl agg28 (by first | omega | assumption | (simp only [lens]; first | omega | assumption) | (simp [lens]; done) | (simp [lens]; omega)) ?_))) | ((with_reducible refine gt_alloc 3 59 ?_); refine st_alloc rfl 3 rfl 59 rfl hm zero59 ?_; clear hm; intro g3 w3 hm) | ((with_reducible refine gt_store 59 ?_); (first | (refine st_full rfl 59 _ _ rfl hm rfl rfl 0 rfl agg59 (by first | omega | assumption | (simp only [lens]; first | omega | assumption) | (simp [lens]; done) | (simp [lens]; omega)) (by first | omega | assumption | (simp only [lens]; first | omega | assumption) | (simp [lens]; done) | (simp [lens]; omega)) ?_) | (refine st_full rfl 59 _ _ rfl hm rfl rfl 1 rfl agg59 (by first | omega | assumption | (simp only [lens]; first | omega | assumption) | (simp [lens]; done) | (simp [lens]; omega)) (by first | omega | assumption | (simp only [lens]; first | omega | assumption) | (simp [lens]; done) | (simp [lens]; omega)) ?_) | (refine st_full rfl 59 _ _ rfl hm rfl rfl 2 rfl agg59 (by first | omega | assumption | (simp only [lens]; first | omega | assumption) | (simp [lens]; done) | (simp [lens]; omega)) (by first | omega | assumption | (simp only [lens]; first | omega | assumption) | (simp [lens]; done) | (simp [lens]; omega)) ?_) | (refine st_full rfl 59 _ _ rfl hm rfl rfl 3 rfl agg59 (by first | omega | assumption | (simp only [lens]; first | omega | assumption) | (simp [lens]; done) | (simp [lens]; omega)) (by first | omega | assumption | (simp only [lens]; first | omega | assumption) | (simp [lens]; done) | (simp [lens]; omega)) ?_)); clear hm; intro ws hm; simp only [List.set_cons_zero, List.set_cons_succ] at hm))
  | (go_at_call 29; refine (pieces_calls _ _ hl HW.out).mono ?_; rintro e wa ⟨rfl, hb⟩; replace hm := hm.after hb; clear hb)
  | (go_at_call 31; refine (all_calls _ _).mono ?_; rintro e wa ⟨v, rfl, hR, hb⟩; replace hm := hm.after hb; clear hb; obtain ⟨A, c, rfl, hc, hC⟩ := Kd.R_reads hR; have HC := Aside0.mk hC; have Hc := Aside0.mk hc; clear hC hc hR)
  | (go_at_call 30; refine (containsFunc_ptr 32 valid1_enters #[] _ (fun i => !okx (rd L (i : Int))) _ _ _ _ HC.out Hc.out (fun x hx W hB => valid1_calls _ _ _ _ (((hm.after hB).get (n := 0) rfl x (by rw [hl]; exact List.mem_range.1 hx))))).mono ?_; rintro e wa ⟨rfl, hb⟩; replace hm := hm.after hb; clear hb; rw [HA.out]))
 go_ret
 exact ⟨by simp, hm.done rfl⟩
end Go.Proofs.YtehagnkcfgkomaaDoor.Arr
namespace Go.Proofs.YtehagnkcfgkomaaDoor.Arr
open Go.RowKit Go.Proofs.YtehagnkcfgkomaaDoorW.PrintWords Go.Proofs.YtehagnkcfgkomaaDoorW.PrintLast Go.Proofs.YtehagnkcfgkomaaDoorW.PrintMore Go.Proofs.YtehagnkcfgkomaaDoor.U Go.Proofs.YtehagnkcfgkomaaDoor.I
set_option linter.unusedVariables false
set_option linter.unusedSimpArgs false
theorem bs_app_data (a b : Array UInt8) : (⟨a⟩ : ByteArray) ++ ⟨b⟩ = ⟨a ++ b⟩ := by
 apply ByteArray.ext
 simp
theorem bs_size (l : List UInt8) : (⟨l.toArray⟩ : ByteArray).size = l.length := by simp [ByteArray.size]
def dg (n : Nat) : List UInt8 := if n < 10 then [UInt8.ofNat (48 + n)] else [UInt8.ofNat (48 + n / 10), UInt8.ofNat (48 + n % 10)]
theorem dg_dec {n : Nat} (h : n < 100) : Lib.decDigits n = dg n := by
 unfold dg
 by_cases h1 : n < 10
 ·rw [if_pos h1, Lib.decDigits, dif_pos h1]
 ·rw [if_neg h1, Lib.decDigits, dif_neg h1, Lib.decDigits, dif_pos (by omega)]
  rfl
theorem dg_len (n : Nat) : (dg n).length ≤ 2 := by
 unfold dg
 split <;> simp
theorem specDec_fin : ∀ n : Fin 100, spec_Decimal.f 2 (n.val : Int) = some ⟨(dg n.val).toArray⟩ := by decide +kernel
theorem specDec_calls (n : Nat) (h : n < 100) (w : World) : Calls Tryd.prog 28 #[.int .i64 (n : Int)] w fun e w' => e = .returned (.string ⟨(dg n).toArray⟩) ∧ Below w.heap.size w w' :=
 spec_Decimal.calls 2 _ _ w (specDec_fin ⟨n, h⟩)
theorem format_calls (n : Nat) (h : n < 100) (w : World) : Calls Tryd.prog 33 #[.int .i64 (n : Int), .int .i64 10] w fun e w' => e = .returned (.string ⟨(dg n).toArray⟩) ∧ w' = w := by
 rw [← dg_dec h]
 exact Any.strconv_FormatInt_10_small lay173 n h w
theorem decimal_calls (n : Nat) (h : n < 100) (w : World) : Calls Tryd.prog 16 #[.int .i64 (n : Int)] w fun e w' => e = .returned (.string ⟨(dg n).toArray⟩) ∧ Below w.heap.size w w' := by
 have HF := Aside0.mk (fun W => format_calls n h W)
 go_enter Tryd.func16, Tryd.ntmps16
 go_wp2_with (go_at_call 33; refine (HF.out _).mono ?_; rintro e w1 ⟨rfl, rfl⟩)
 go_ret
 exact ⟨rfl, Below.refl _ _⟩
def wd (j : Nat) (n : Int) : List UInt8 := if j < 40 then (dg j ++ [120]) ++ dg n.toNat else (([115] ++ dg (j - 39)) ++ [120]) ++ dg n.toNat
def wds (L : List Int) : Nat → List (List UInt8)
 | 0 => []
 | j + 1 => if 0 < rd L (j : Int) then wds L j ++ [wd j (rd L (j : Int))] else wds L j
def spT (L : List Int) : Nat → List UInt8
 | 0 => []
 | j + 1 => if 0 < rd L (j : Int) then spT L j ++ (32 :: wd j (rd L (j : Int))) else spT L j
theorem wd_len (j : Nat) (n : Int) : (wd j n).length ≤ 6 := by
 unfold wd
 have h1 := dg_len j
 have h2 := dg_len (j - 39)
 have h3 := dg_len n.toNat
 split <;> simp <;> omega
theorem wds_len (L : List Int) : ∀ j, (wds L j).length ≤ j
 | 0 => Nat.le_refl _
 | j + 1 => by
  rw [wds]
  have := wds_len L j
  split
  ·simp
   omega
  ·omega
theorem spT_len (L : List Int) : ∀ j, (spT L j).length ≤ 7 * j
 | 0 => Nat.le_refl _
 | j + 1 => by
  rw [spT]
  have := spT_len L j
  have := wd_len j (rd L (j : Int))
  split
  ·simp
   omega
  ·omega
theorem spT_wds (L : List Int) : ∀ j, spT L j = Lib.joinTail [32] (wds L j)
 | 0 => rfl
 | j + 1 => by
  rw [spT, wds]
  split
  ·rw [spT_wds L j]
   simp [Lib.joinTail]
  ·exact spT_wds L j
def lockT (L : List Int) : List UInt8 := if wds L 44 = [] then [45] else Lib.join (wds L 44) [32]
theorem lockT_spec (L : List Int) : lockT L = if spT L 44 = [] then [45] else (spT L 44).drop 1 := by
 unfold lockT
 rw [spT_wds]
 cases h : wds L 44 with
 | nil => rfl
 | cons x r =>
  rw [if_neg (by simp), if_neg (by simp [Lib.joinTail]), Lib.join_cons]
  simp [Lib.joinTail]
theorem join_len (xs : List (List UInt8)) (h : ∀ x ∈ xs, x.length ≤ 6) : (Lib.join xs [32]).length ≤ 7 * xs.length := by
 cases xs with
 | nil => simp [Lib.join_nil]
 | cons x r =>
  rw [Lib.join_cons]
  have key : ∀ r : List (List UInt8), (∀ x ∈ r, x.length ≤ 6) → (Lib.joinTail [32] r).length ≤ 7 * r.length := by
   intro r
   induction r with
   | nil => intro _; simp [Lib.joinTail]
   | cons y r ih =>
    intro hr
    have h1 := ih (fun x hx => hr x (by simp [hx]))
    have h2 := hr y (by simp)
    show (([32] ++ y) ++ Lib.joinTail [32] r).length ≤ 7 * (r.length + 1)
    rw [List.length_append]
    have h3 : ([32] ++ y : List UInt8).length = y.length + 1 := by simp
    omega
  have h1 := key r (fun y hy => h y (by simp [hy]))
  have h2 := h x (by simp)
  simp
  omega
theorem wds_mem (L : List Int) : ∀ j, ∀ x ∈ wds L j, x.length ≤ 6
 | 0, x, hx => by cases hx
 | j + 1, x, hx => by
  rw [wds] at hx
  split at hx
  ·rcases List.mem_append.1 hx with h | h
   ·exact wds_mem L j x h
   ·rw [List.mem_singleton] at h
    rw [h]
    exact wd_len _ _
  ·exact wds_mem L j x hx
end Go.Proofs.YtehagnkcfgkomaaDoor.Arr
namespace Go.Proofs.YtehagnkcfgkomaaDoor.Arr
open Go.RowKit Go.Proofs.YtehagnkcfgkomaaDoorW.PrintWords Go.Proofs.YtehagnkcfgkomaaDoorW.PrintLast Go.Proofs.YtehagnkcfgkomaaDoorW.PrintMore Go.Proofs.YtehagnkcfgkomaaDoor.U Go.Proofs.YtehagnkcfgkomaaDoor.I
set_option linter.unusedVariables false
set_option linter.unusedSimpArgs false
def sp (c : UInt8) : List UInt8 → List (List UInt8)
 | [] => [[]]
 | x :: r => if x = c then [] :: sp c r else match sp c r with | h :: t => (x :: h) :: t | [] => [[x]]
theorem sp_no (c : UInt8) : ∀ (l : List UInt8), (∀ x ∈ l, x ≠ c) → sp c l = [l]
 | [], _ => rfl
 | x :: r, h => by
  rw [sp, if_neg (h x (List.mem_cons_self ..)), sp_no c r (fun y hy => h y (List.mem_cons_of_mem _ hy))]
theorem sp_cut (c : UInt8) (b : List UInt8) : ∀ (a : List UInt8), (∀ x ∈ a, x ≠ c) → sp c (a ++ c :: b) = a :: sp c b
 | [], _ => by rw [List.nil_append, sp, if_pos rfl]
 | x :: r, h => by
  rw [List.cons_append, sp, if_neg (h x (List.mem_cons_self ..)), sp_cut c b r (fun y hy => h y (List.mem_cons_of_mem _ hy))]
theorem sp_join (c : UInt8) : ∀ (ws : List (List UInt8)) (w : List UInt8), (∀ x ∈ w, x ≠ c) → (∀ v ∈ ws, ∀ x ∈ v, x ≠ c) → sp c (w ++ Lib.joinTail [c] ws) = w :: ws
 | [], w, h, _ => by rw [show Lib.joinTail [c] [] = [] from rfl, List.append_nil, sp_no c w h]
 | v :: ws, w, h, hs => by
  rw [show Lib.joinTail [c] (v :: ws) = c :: (v ++ Lib.joinTail [c] ws) from by simp [Lib.joinTail], sp_cut c _ w h, sp_join c ws v (hs v (List.mem_cons_self ..)) (fun u hu => hs u (List.mem_cons_of_mem _ hu))]
theorem sp_ne (c : UInt8) (l : List UInt8) : sp c l ≠ [] := by
 cases l with
 | nil => simp [sp]
 | cons x r =>
  rw [sp]
  split
  ·simp
  ·split <;> simp
theorem sp_len (c : UInt8) : ∀ l : List UInt8, (sp c l).length ≤ l.length + 1
 | [] => Nat.le_refl _
 | x :: r => by
  have := sp_len c r
  rw [sp]
  split
  ·simp only [List.length_cons]; omega
  ·split
   ·rename_i h t e
    rw [e] at this
    simp only [List.length_cons] at this ⊢; omega
   ·simp
theorem sp_mem (c : UInt8) : ∀ (l : List UInt8), ∀ v ∈ sp c l, v.length ≤ l.length
 | [], v, h => by simp [sp] at h; simp [h]
 | x :: r, v, h => by
  have ih := sp_mem c r
  rw [sp] at h
  split at h
  ·rcases List.mem_cons.1 h with rfl | h
   ·simp
   ·exact Nat.le_trans (ih v h) (by simp)
  ·split at h
   ·rename_i a t e
    rw [e] at ih
    rcases List.mem_cons.1 h with rfl | h
    ·have := ih a (List.mem_cons_self ..)
     simp only [List.length_cons]; omega
    ·exact Nat.le_trans (ih v (List.mem_cons_of_mem _ h)) (by simp)
   ·simp at h; simp [h]
theorem index_one (c : UInt8) (b : List UInt8) : ∀ a : List UInt8, (∀ x ∈ a, x ≠ c) → Lib.index (a ++ c :: b) [c] = (a.length : Int)
 | [], _ => by simp [Lib.index]
 | x :: r, h => by
  have ih := index_one c b r (fun y hy => h y (List.mem_cons_of_mem _ hy))
  have hx : ¬ (([c] : List UInt8).isPrefixOf (x :: (r ++ c :: b))) = true := by
   simp only [List.isPrefixOf, Bool.and_true, beq_iff_eq]
   exact fun e => h x (List.mem_cons_self ..) e.symm
  rw [List.cons_append, Lib.index, if_neg hx, ih, if_neg (by simp only [beq_iff_eq]; omega)]
  simp
theorem index_no (c : UInt8) : ∀ a : List UInt8, (∀ x ∈ a, x ≠ c) → Lib.index a [c] = -1
 | [], _ => by simp [Lib.index]
 | x :: r, h => by
  have ih := index_no c r (fun y hy => h y (List.mem_cons_of_mem _ hy))
  have hx : ¬ (([c] : List UInt8).isPrefixOf (x :: r)) = true := by
   simp only [List.isPrefixOf, Bool.and_true, beq_iff_eq]
   exact fun e => h x (List.mem_cons_self ..) e.symm
  rw [Lib.index, if_neg hx, ih]
  simp
theorem at_first (c : UInt8) : ∀ l : List UInt8, (∀ x ∈ l, x ≠ c) ∨ ∃ a b, l = a ++ c :: b ∧ ∀ x ∈ a, x ≠ c
 | [] => Or.inl (by simp)
 | x :: r => by
  by_cases h : x = c
  ·exact Or.inr ⟨[], r, by simp [h], by simp⟩
  ·rcases at_first c r with h1 | ⟨a, b, rfl, h1⟩
   ·refine Or.inl fun y hy => ?_
    rcases List.mem_cons.1 hy with rfl | hy
    ·exact h
    ·exact h1 y hy
   ·refine Or.inr ⟨x :: a, b, rfl, fun y hy => ?_⟩
    rcases List.mem_cons.1 hy with rfl | hy
    ·exact h
    ·exact h1 y hy
theorem splitB_sp (c : UInt8) : ∀ (n : Nat) (s : ByteArray), s.size ≤ n → (Lib.splitB ⟨#[c]⟩ 0 (Lib.countB s ⟨#[c]⟩) s).map (·.data.toList) = sp c s.data.toList
 | n, s, hn => by
  rcases at_first c s.data.toList with h | ⟨a, b, e, h⟩
  ·have hi : Lib.indexB s ⟨#[c]⟩ = -1 := index_no c _ h
   rw [Lib.splitB_miss _ _ _ _ hi, sp_no c _ h]
   rfl
  ·have hi : Lib.indexB s ⟨#[c]⟩ = (a.length : Int) := by
    show Lib.index s.data.toList [c] = _
    rw [e]; exact index_one c b a h
   have hz : s.size = a.length + (b.length + 1) := by
    have : s.size = s.data.toList.length := (Array.length_toList).symm
    rw [this, e]; simp
   have h1 : (s.extract 0 (a.length + 0)).data.toList = a := by
    rw [Lib.extract_from_zero, e]; simp
   have h2 : (s.extract (a.length + (⟨#[c]⟩ : ByteArray).size) s.size).data.toList = b := by
    rw [show (⟨#[c]⟩ : ByteArray).size = 1 from rfl]
    have : s.extract (a.length + 1) s.size = s.extract (a.length + 1) s.data.size := rfl
    simp only [ByteArray.data_extract, Array.toList_extract]
    rw [e]
    simp [List.extract, hz]
    exact List.take_of_length_le (by omega)
   rw [Lib.countB_hit s ⟨#[c]⟩ a.length (Nat.le_refl 1) hi, Nat.add_comm, Lib.splitB_hit _ _ _ _ _ hi, List.map_cons, h1, e, sp_cut c b a h]
   match n, hn with
   | 0, hn => omega
   | n + 1, hn =>
    rw [splitB_sp c n _ (by
     have : (s.extract (a.length + (⟨#[c]⟩ : ByteArray).size) s.size).size = b.length := by
      rw [← h2]; exact (Array.length_toList).symm
     omega), h2]
def numGo : Int → List UInt8 → Int × Bool
 | n, [] => (n, true)
 | n, c :: r => if c.toNat < 48 ∨ 57 < c.toNat then (0, false) else numGo (10 * n + ((c.toNat - 48 : Nat) : Int)) r
def numS (s : List UInt8) : Int × Bool := if s = [] ∨ 9 < s.length ∨ (s.head? = some 48 ∧ 1 < s.length) then (0, false) else numGo 0 s
theorem numGo_ge : ∀ (s : List UInt8) (n : Int), 0 ≤ n → 0 ≤ (numGo n s).1
 | [], n, h => h
 | c :: r, n, h => by
  rw [numGo]
  split
  ·exact Int.le_refl _
  ·exact numGo_ge r _ (by omega)
theorem numS_ge (s : List UInt8) : 0 ≤ (numS s).1 := by
 unfold numS
 split
 ·exact Int.le_refl _
 ·exact numGo_ge s 0 (Int.le_refl _)
theorem numS_dg : ∀ k : Fin 100, numS (dg k.val) = ((k.val : Int), true) := by decide +kernel
theorem dg_inj {k j : Nat} (hk : k < 100) (hj : j < 100) (h : dg k = dg j) : k = j := by
 have h1 := numS_dg ⟨k, hk⟩
 have h2 := numS_dg ⟨j, hj⟩
 simp only at h1 h2
 rw [h, h2] at h1
 have := congrArg Prod.fst h1
 simp only at this
 omega
def numI (most : Nat) (s : List UInt8) : Option Nat := (List.range (most + 1)).find? fun k => dg k == s
theorem numI_some {most k : Nat} {s : List UInt8} (hm : most < 100) (h : numI most s = some k) : k ≤ most ∧ dg k = s := by
 have h1 := List.find?_some h
 have h2 := List.mem_of_find?_eq_some h
 simp only [beq_iff_eq] at h1
 simp only [List.mem_range] at h2
 exact ⟨by omega, h1⟩
theorem numI_eq {most k : Nat} (hm : most < 100) (hk : k ≤ most) : numI most (dg k) = some k := by
 rcases hx : numI most (dg k) with _ | j
 ·have := List.find?_eq_none.1 hx k (by simp; omega)
  simp at this
 ·obtain ⟨h1, h2⟩ := numI_some hm hx
  rw [dg_inj (by omega) (by omega) h2]
theorem parse_dg : ∀ k : Fin 100, Lib.parseIntB 64 (dg k.val) = .ok (k.val : Int) := by decide +kernel
theorem numI_none {most : Nat} (hm : most < 100) {s : List UInt8} (h : ∀ v : Int, Lib.parseIntB 64 s ≠ .ok v) : numI most s = none := by
 rcases hx : numI most s with _ | j
 ·rfl
 ·obtain ⟨h1, h2⟩ := numI_some hm hx
  exact absurd (h2 ▸ parse_dg ⟨j, by omega⟩) (h _)
theorem numI_ok {most : Nat} (hm : most < 100) {s : List UInt8} {v : Int} (h : Lib.parseIntB 64 s = .ok v) :
  (Lib.itoa v = s ∧ 0 ≤ v ∧ v ≤ most → numI most s = some v.toNat) ∧ (¬ (Lib.itoa v = s ∧ 0 ≤ v ∧ v ≤ most) → numI most s = none) := by
 refine ⟨fun ⟨h1, h2, h3⟩ => ?_, fun h1 => ?_⟩
 ·have : dg v.toNat = s := by
   rw [← h1, ← dg_dec (by omega)]
   unfold Lib.itoa
   rw [if_neg (by omega)]
  rw [← this]
  exact numI_eq hm (by omega)
 ·rcases hx : numI most s with _ | j
  ·rfl
  ·obtain ⟨h2, h3⟩ := numI_some hm hx
   have h4 := parse_dg ⟨j, by omega⟩
   simp only at h4
   rw [h3, h] at h4
   obtain rfl : v = (j : Int) := by injection h4
   refine absurd ⟨?_, by omega, by omega⟩ h1
   rw [← h3, ← dg_dec (by omega)]
   unfold Lib.itoa
   rw [if_neg (by omega)]
   congr 1
def wordP (sub : Bool) (ps : List (List UInt8)) : Option (Nat × Int) :=
 match ps with
 | [a, b] =>
  if (numS a).2 = true ∧ (numS b).2 = true ∧ (1 ≤ (numS b).1 ∧ (numS b).1 ≤ 20) ∧ (numS a).1 < 40 ∧ (sub = true → 1 ≤ (numS a).1 ∧ (numS a).1 ≤ 4) then
   some (if sub = true then 39 + (numS a).1.toNat else (numS a).1.toNat, (numS b).1)
  else none
 | _ => none
def wordS : List UInt8 → Option (Nat × Int)
 | [] => none
 | c :: r => if c = 115 then wordP true (sp 120 r) else wordP false (sp 120 (c :: r))
def wordI (w : List UInt8) : Option (Nat × Int) :=
 match numI 39 (Lib.trimPrefix (Lib.cut w [120]).1 [115]), numI 20 (Lib.cut w [120]).2.1 with
 | some k, some n => if Lib.hasPrefix (Lib.cut w [120]).1 [115] = true then (if 1 ≤ k ∧ k ≤ 4 then some (39 + k, (n : Int)) else none) else some (k, (n : Int))
 | _, _ => none
def goS : List (List UInt8) → List Int → Option (List Int)
 | [], L => some L
 | w :: ws, L => match wordS w with | none => none | some (j, n) => goS ws (L.set j n)
def goI (text : List UInt8) : List (List UInt8) → List Int → Option (List Int)
 | [], L => some L
 | w :: ws, L => if text = [45] then goI text ws L else match wordI w with | none => none | some (j, n) => goI text ws (L.set j n)
def zeros44 : List Int := List.replicate 44 0
def readS (text : List UInt8) : Option (List Int) :=
 if text = [45] then some zeros44 else match goS (sp 32 text) zeros44 with | none => none | some L => if lockT L = text then some L else none
def readI (text : List UInt8) : Option (List Int) :=
 match goI text (sp 32 text) zeros44 with | none => none | some L => if (if okL L = true then lockT L else []) = text then some L else none
theorem words_fin : ∀ (j : Fin 44) (n : Fin 20), wordS (wd j.val ((n.val : Int) + 1)) = some (j.val, (n.val : Int) + 1) ∧ wordI (wd j.val ((n.val : Int) + 1)) = some (j.val, (n.val : Int) + 1) ∧
  (wd j.val ((n.val : Int) + 1)).all (fun x => x != 32) = true ∧ (wd j.val ((n.val : Int) + 1) != [45]) = true := by decide +kernel
theorem words_at (j : Nat) (n : Int) (hj : j < 44) (h1 : 1 ≤ n) (h2 : n ≤ 20) : wordS (wd j n) = some (j, n) ∧ wordI (wd j n) = some (j, n) ∧ (∀ x ∈ wd j n, x ≠ 32) ∧ wd j n ≠ [45] := by
 obtain ⟨m, rfl⟩ : ∃ m : Nat, n = (m : Int) + 1 := ⟨(n - 1).toNat, by omega⟩
 obtain ⟨a, b, c, d⟩ := words_fin ⟨j, hj⟩ ⟨m, by omega⟩
 exact ⟨a, b, fun x hx => by simpa using List.all_eq_true.1 c x hx, by simpa using d⟩
theorem wds_at (L : List Int) : ∀ j, ∀ x ∈ wds L j, ∃ i, i < j ∧ 0 < rd L (i : Int) ∧ x = wd i (rd L (i : Int))
 | 0, x, h => by simp [wds] at h
 | j + 1, x, h => by
  rw [wds] at h
  split at h
  ·rcases List.mem_append.1 h with h | h
   ·obtain ⟨i, a, b, c⟩ := wds_at L j x h
    exact ⟨i, by omega, b, c⟩
   ·simp at h
    exact ⟨j, by omega, by assumption, h⟩
  ·obtain ⟨i, a, b, c⟩ := wds_at L j x h
   exact ⟨i, by omega, b, c⟩
theorem goS_app (b : List (List UInt8)) : ∀ (a : List (List UInt8)) (L : List Int), goS (a ++ b) L = (goS a L).bind (goS b)
 | [], L => rfl
 | w :: a, L => by
  rw [List.cons_append, goS, goS]
  split
  ·rfl
  ·exact goS_app b a _
theorem goI_app (t : List UInt8) (ht : t ≠ [45]) (b : List (List UInt8)) : ∀ (a : List (List UInt8)) (L : List Int), goI t (a ++ b) L = (goI t a L).bind (goI t b)
 | [], L => rfl
 | w :: a, L => by
  rw [List.cons_append, goI, goI, if_neg ht, if_neg ht]
  split
  ·rfl
  ·exact goI_app t ht b a _
theorem okL_at {L : List Int} (h : okL L = true) (j : Nat) (hj : j < L.length) : 0 ≤ rd L (j : Int) ∧ rd L (j : Int) ≤ 20 := by
 have := List.all_eq_true.1 h _ (rd_in L j hj)
 unfold okx at this
 exact of_decide_eq_true this
theorem rd_at (L : List Int) (j : Nat) (hj : j < L.length) : L[j]? = some (rd L (j : Int)) := by
 rw [rd_get L j hj]; simp [List.getElem?_eq_getElem hj]
theorem fill_step (L : List Int) (j : Nat) (hl : L.length = 44) (hj : j < 44) : (L.take j ++ List.replicate (44 - j) (0 : Int)).set j (rd L (j : Int)) = L.take (j + 1) ++ List.replicate (44 - (j + 1)) (0 : Int) := by
 have ht : (L.take j).length = j := by simp; omega
 rw [show 44 - j = (44 - (j + 1)) + 1 by omega, List.replicate_succ, List.set_append_right _ _ (by omega), ht, Nat.sub_self, List.set_cons_zero, List.take_add_one, rd_at L j (by omega)]
 simp
theorem fill_keep (L : List Int) (j : Nat) (hl : L.length = 44) (hj : j < 44) (h0 : rd L (j : Int) = 0) : L.take j ++ List.replicate (44 - j) (0 : Int) = L.take (j + 1) ++ List.replicate (44 - (j + 1)) (0 : Int) := by
 rw [show 44 - j = (44 - (j + 1)) + 1 by omega, List.replicate_succ, List.take_add_one, rd_at L j (by omega), h0]
 simp
theorem goS_wds (L : List Int) (hl : L.length = 44) (hok : okL L = true) : ∀ j, j ≤ 44 → goS (wds L j) zeros44 = some (L.take j ++ List.replicate (44 - j) (0 : Int))
 | 0, _ => rfl
 | j + 1, h => by
  have hb := okL_at hok j (by omega)
  rw [wds]
  split
  ·rename_i hp
   rw [goS_app, goS_wds L hl hok j (by omega)]
   show goS [wd j (rd L (j : Int))] _ = _
   rw [goS, (words_at j _ (by omega) (by omega) hb.2).1]
   show some _ = _
   rw [fill_step L j hl (by omega)]
  ·rw [goS_wds L hl hok j (by omega), fill_keep L j hl (by omega) (by omega)]
theorem goI_wds (t : List UInt8) (ht : t ≠ [45]) (L : List Int) (hl : L.length = 44) (hok : okL L = true) : ∀ j, j ≤ 44 → goI t (wds L j) zeros44 = some (L.take j ++ List.replicate (44 - j) (0 : Int))
 | 0, _ => rfl
 | j + 1, h => by
  have hb := okL_at hok j (by omega)
  rw [wds]
  split
  ·rename_i hp
   rw [goI_app t ht, goI_wds t ht L hl hok j (by omega)]
   show goI t [wd j (rd L (j : Int))] _ = _
   rw [goI, if_neg ht, (words_at j _ (by omega) (by omega) hb.2).2.1]
   show some _ = _
   rw [fill_step L j hl (by omega)]
  ·rw [goI_wds t ht L hl hok j (by omega), fill_keep L j hl (by omega) (by omega)]
theorem lockT_split (L : List Int) (hl : L.length = 44) (hok : okL L = true) (hne : wds L 44 ≠ []) : sp 32 (lockT L) = wds L 44 ∧ lockT L ≠ [45] := by
 have hw : ∀ v ∈ wds L 44, (∀ x ∈ v, x ≠ 32) ∧ v ≠ [45] := fun v hv => by
  obtain ⟨i, hi, hp, rfl⟩ := wds_at L 44 v hv
  have hb := okL_at hok i (by omega)
  exact ⟨(words_at i _ hi (by omega) hb.2).2.2.1, (words_at i _ hi (by omega) hb.2).2.2.2⟩
 have h1 : sp 32 (lockT L) = wds L 44 := by
  unfold lockT
  rw [if_neg hne]
  rcases hx : wds L 44 with _ | ⟨v, ws⟩
  ·exact absurd hx hne
  ·rw [Lib.join_cons]
   rw [hx] at hw
   exact sp_join 32 ws v (hw v (List.mem_cons_self ..)).1 (fun u hu => (hw u (List.mem_cons_of_mem _ hu)).1)
 refine ⟨h1, fun e => ?_⟩
 rw [e] at h1
 have : [45] ∈ wds L 44 := by rw [← h1]; decide
 exact (hw _ this).2 rfl
theorem wds_nil (L : List Int) (hl : L.length = 44) (hok : okL L = true) (hne : wds L 44 = []) : L = zeros44 := by
 have h := goS_wds L hl hok 44 (Nat.le_refl _)
 rw [hne] at h
 have h2 := Option.some.inj h
 rw [List.take_of_length_le (by omega)] at h2
 simpa using h2.symm
theorem read_whole (L : List Int) (hl : L.length = 44) (hok : okL L = true) : readS (lockT L) = some L ∧ readI (lockT L) = some L := by
 by_cases hne : wds L 44 = []
 ·obtain rfl := wds_nil L hl hok hne
  have : lockT zeros44 = [45] := by unfold lockT; rw [if_pos hne]
  rw [this]
  decide +kernel
 ·obtain ⟨h1, h2⟩ := lockT_split L hl hok hne
  have h3 : L.take 44 ++ List.replicate (44 - 44) (0 : Int) = L := by rw [List.take_of_length_le (by omega)]; simp
  constructor
  ·unfold readS
   rw [if_neg h2, h1, goS_wds L hl hok 44 (Nat.le_refl _), h3]
   show (if lockT L = lockT L then _ else _) = _
   rw [if_pos rfl]
  ·unfold readI
   rw [h1, goI_wds _ h2 L hl hok 44 (Nat.le_refl _), h3]
   show (if (if okL L = true then lockT L else []) = lockT L then _ else _) = _
   rw [if_pos hok, if_pos rfl]
theorem wordP_bd {sub : Bool} {ps : List (List UInt8)} {j : Nat} {n : Int} (h : wordP sub ps = some (j, n)) : j < 44 ∧ 1 ≤ n ∧ n ≤ 20 := by
 unfold wordP at h
 split at h
 ·rename_i a b
  split at h
  ·rename_i hc
   have := numS_ge a
   simp only [Option.some.injEq, Prod.mk.injEq] at h
   obtain ⟨rfl, rfl⟩ := h
   refine ⟨?_, hc.2.2.1.1, hc.2.2.1.2⟩
   split
   ·have := hc.2.2.2.2 (by assumption); omega
   ·omega
  ·cases h
 ·cases h
theorem wordS_bd {w : List UInt8} {j : Nat} {n : Int} (h : wordS w = some (j, n)) : j < 44 ∧ 1 ≤ n ∧ n ≤ 20 := by
 cases w with
 | nil => cases h
 | cons c r =>
  rw [wordS] at h
  split at h
  ·exact wordP_bd h
  ·exact wordP_bd h
theorem wordI_bd {w : List UInt8} {j : Nat} {n : Int} (h : wordI w = some (j, n)) : j < 44 ∧ 0 ≤ n ∧ n ≤ 20 := by
 unfold wordI at h
 split at h
 ·rename_i k m hk hm
  have h1 := numI_some (by omega) hk
  have h2 := numI_some (by omega) hm
  split at h
  ·split at h
   ·simp only [Option.some.injEq, Prod.mk.injEq] at h
    omega
   ·cases h
  ·simp only [Option.some.injEq, Prod.mk.injEq] at h
   omega
 ·cases h
theorem okL_set {L : List Int} (h : okL L = true) (j : Nat) {n : Int} (h0 : 0 ≤ n) (h1 : n ≤ 20) : okL (L.set j n) = true := by
 refine List.all_eq_true.2 fun x hx => ?_
 rcases List.mem_or_eq_of_mem_set hx with hx | rfl
 ·exact List.all_eq_true.1 h x hx
 ·unfold okx
  exact decide_eq_true ⟨h0, h1⟩
theorem goS_ok : ∀ (ws : List (List UInt8)) (L R : List Int), goS ws L = some R → L.length = 44 → okL L = true → R.length = 44 ∧ okL R = true
 | [], L, R, h, hl, hk => by obtain rfl := Option.some.inj h; exact ⟨hl, hk⟩
 | w :: ws, L, R, h, hl, hk => by
  rw [goS] at h
  split at h
  ·cases h
  ·rename_i j n hw
   have := wordS_bd hw
   exact goS_ok ws _ R h (by simpa using hl) (okL_set hk j (by omega) this.2.2)
theorem goI_ok (t : List UInt8) : ∀ (ws : List (List UInt8)) (L R : List Int), goI t ws L = some R → L.length = 44 → okL L = true → R.length = 44 ∧ okL R = true
 | [], L, R, h, hl, hk => by obtain rfl := Option.some.inj h; exact ⟨hl, hk⟩
 | w :: ws, L, R, h, hl, hk => by
  rw [goI] at h
  split at h
  ·exact goI_ok t ws L R h hl hk
  ·split at h
   ·cases h
   ·rename_i j n hw
    have := wordI_bd hw
    exact goI_ok t ws _ R h (by simpa using hl) (okL_set hk j (by omega) this.2.2)
theorem zeros_ok : zeros44.length = 44 ∧ okL zeros44 = true := by decide +kernel
theorem readS_sound {t : List UInt8} {L : List Int} (h : readS t = some L) : L.length = 44 ∧ okL L = true ∧ lockT L = t := by
 unfold readS at h
 split at h
 ·rename_i e
  obtain rfl := Option.some.inj h
  exact ⟨zeros_ok.1, zeros_ok.2, by rw [e]; decide +kernel⟩
 ·split at h
  ·cases h
  ·rename_i R hR
   split at h
   ·rename_i e
    obtain rfl := Option.some.inj h
    have := goS_ok _ _ _ hR zeros_ok.1 zeros_ok.2
    exact ⟨this.1, this.2, e⟩
   ·cases h
theorem readI_sound {t : List UInt8} {L : List Int} (h : readI t = some L) : L.length = 44 ∧ okL L = true ∧ lockT L = t := by
 unfold readI at h
 split at h
 ·cases h
 ·rename_i R hR
  have := goI_ok t _ _ _ hR zeros_ok.1 zeros_ok.2
  rw [if_pos this.2] at h
  split at h
  ·rename_i e
   obtain rfl := Option.some.inj h
   exact ⟨this.1, this.2, e⟩
  ·cases h
theorem read_eq (t : List UInt8) : readI t = readS t := by
 rcases hI : readI t with _ | L
 ·rcases hS : readS t with _ | L
  ·rfl
  ·obtain ⟨a, b, rfl⟩ := readS_sound hS
   rw [(read_whole L a b).2] at hI
   cases hI
 ·obtain ⟨a, b, rfl⟩ := readI_sound hI
  rw [(read_whole L a b).1]
end Go.Proofs.YtehagnkcfgkomaaDoor.Arr
namespace Go.Proofs.YtehagnkcfgkomaaDoor.Arr
open Go.RowKit Go.Proofs.YtehagnkcfgkomaaDoorW.PrintWords Go.Proofs.YtehagnkcfgkomaaDoorW.PrintLast Go.Proofs.YtehagnkcfgkomaaDoorW.PrintMore Go.Proofs.YtehagnkcfgkomaaDoor.U Go.Proofs.YtehagnkcfgkomaaDoor.I
set_option linter.unusedVariables false
set_option linter.unusedSimpArgs false
theorem okL_bdT {L : List Int} (h : okL L = true) (j : Nat) (hj : j < L.length) : 0 ≤ rd L (j : Int) ∧ rd L (j : Int) ≤ 20 := by
 have := List.all_eq_true.1 h _ (rd_in L j hj)
 unfold okx at this
 exact of_decide_eq_true this
theorem bs_drop1 (c : UInt8) (r : List UInt8) : (⟨(c :: r).toArray⟩ : ByteArray).extract 1 (r.length + 1) = ⟨r.toArray⟩ := AnyPlain.small_ba _ r (by rw [Lib.extract_data]; simp)
theorem below_thenT {w w1 w2 : World} (h1 : Below w.heap.size w w1) (h2 : Below w1.heap.size w1 w2) : Below w.heap.size w w2 := h1.trans (h2.mono h1.size)
theorem oneI16T : OneTy Tryd.prog 22 := ⟨by kernel_rfl, by kernel_rfl⟩
theorem FrBelow.read {w w1 : World} (h : Below w.heap.size w w1) {p : Addr} {v : Value} (hc : w.cell? p = some v) : w1.cell? p = some v :=
 (World.cell?_of_block (w := w) (h.block p.block (World.block_lt_of_cell? w _ hc))).trans hc
section
variable {P : Program} {o : Oper} {a : Act} {w : World}
theorem y_cellT {ty : TypeId} {x : Operand} {p : Addr} {v : Value} (ho : o.op = .load ty x) (hx : a.eval x = .pointer (some p)) (h1 : OneTy P ty) (hc : w.cell? p = some v) : (execOp a.eval o).run P w = .ok (.value v) w := by
 have hd := h1.1
 unfold execOp
 have hagg : (isAgg ty).run P w = .ok false w := by
  unfold isAgg
  cases hu : P.underlying ty with
  | none => simp [hu] at hd
  | some d =>
   rw [Sem.run_bind, run_underlying hu w]
   cases d <;> simp_all
 simp only [ho, hx, Instr.loadAt, Instr.sureAddr, Sem.run_bind, Sem.run_pure, Result.andThen_ok, loadVar, hagg]
 simp [run_load, hc]
end
set_option maxHeartbeats 8000000 in
set_option maxRecDepth 100000 in
theorem specText_calls (g : Nat) (L : List Int) (w : World) (hl : L.length = 44) (hok : okL L = true) (hg : w.heap[g]? = some (.cells (vals .i16 L) 28 (0, 0))) :
  Calls Tryd.prog 12 #[.pointer (some ⟨g, 0, none⟩)] w fun e w' => e = .returned (.string ⟨(lockT L).toArray⟩) ∧ Below w.heap.size w w' := by
 have HB0 := Aside0.mk (fun (j : Nat) (hj : j < 44) => okL_bdT hok j (by omega))
 have HC := Aside0.mk (fun W (hW : Below w.heap.size w W) (j : Nat) (hj : j < 44) => show W.cell? ⟨g, j, none⟩ = some (.int .i16 (rd L (j : Int))) by
  rw [cell_of_row W g j _ _ (0, 0) ((hW.block _ (lt_of_some hg)).trans hg)]
  simp [vals, rd_get L j (by omega), List.getElem?_eq_getElem (show j < L.length by omega)])
 have HT := Aside0.mk (lockT_spec L)
 have HLN := Aside0.mk (spT_len L)
 generalize lockT L = T at *
 clear hg hok
 go_enter Tryd.func12, Tryd.ntmps12
 go_wp2_with fail
 go_loopw [4, 3] (fun v4 v3 wr => ∃ i : Nat, i ≤ 40 ∧ v4 = .int .i64 i ∧ v3 = .string ⟨(spT L i).toArray⟩ ∧ Aside0 (Below w.heap.size w wr)) (fun v4 _ _ => 40 - (intOf v4).toNat)
 case atStart => exact ⟨0, by omega, rfl, rfl, ⟨Below.refl _ _⟩⟩
 case round =>
  obtain ⟨i, hi, rfl, rfl, HB⟩ := hrel
  by_cases hlt : i < 40
  ·have hci := HC.out wr HB.out i (by omega)
   have hbi := HB0.out i (by omega)
   have hln := HLN.out i
   have HSU := Aside0.mk (show spT L (i + 1) = if 0 < rd L (i : Int) then spT L i ++ (32 :: wd i (rd L (i : Int))) else spT L i from rfl)
   generalize hx : rd L (i : Int) = x at *
   have hsz := bs_size (spT L i)
   generalize spT L i = s at *
   clear hx
   by_cases hpos : 0 < x
   ·rw [if_pos hpos] at HSU
    obtain ⟨n, rfl⟩ := Int.eq_ofNat_of_zero_le hbi.1
    have HDI := Aside0.mk (fun W => specDec_calls i (by omega) W)
    have HDN := Aside0.mk (fun W => specDec_calls n (by omega) W)
    have hw64 : wrap64 (n : Int) = (n : Int) := w64 (by omega) (by omega)
    have hdi := dg_len i
    have hdn := dg_len n
    have HWD := Aside0.mk (show wd i (n : Int) = (dg i ++ [120]) ++ dg n by unfold wd; rw [if_pos hlt, Int.toNat_natCast])
    go_wp2_with fail
    refine start_ (n := 16) (S := fun w' => Below wr.heap.size wr w') (ds := []) #[false, false, false, false, false, false, false, false, false, false, false, false, false, false, false, false] (by kernel_rfl) rfl rfl (below_drew (Below.refl _ _)) (fun hHeld => ?_)
    refine pure_ (i := 0) (N := some 17) (v := ?_) (a' := ?_) #[true, false, false, false, false, false, false, false, false, false, false, false, false, false, false, false] rfl rfl (by kernel_rfl) (fun _ _ _ h => h) (Or.inl ⟨by rfl, ?_⟩) ?_ ?_
    rotate_left
    ·intro w'
     go_simp
     with_reducible rfl
    rotate_left
    ·simp only [Act.put, List.setIfInBounds_toArray, List.set_cons_zero, List.set_cons_succ, i64_w, i32_w]
     rfl
    refine pure_ (i := 1) (N := some 18) (v := ?_) (a' := ?_) #[true, true, false, false, false, false, false, false, false, false, false, false, false, false, false, false] rfl rfl (by kernel_rfl) (fun _ _ _ h => h) (Or.inl ⟨by rfl, ?_⟩) ?_ ?_
    rotate_left
    ·intro w'
     go_simp
     with_reducible rfl
    rotate_left
    ·simp only [Act.put, List.setIfInBounds_toArray, List.set_cons_zero, List.set_cons_succ, i64_w, i32_w]
     rfl
    refine pure_ (i := 5) (N := some 22) (v := ?_) (a' := ?_) #[true, true, false, false, false, true, false, false, false, false, false, false, false, false, false, false] rfl rfl (by kernel_rfl) (fun _ _ _ h => h) (Or.inl ⟨by rfl, ?_⟩) ?_ ?_
    rotate_left
    ·intro w'
     go_simp
     with_reducible rfl
    rotate_left
    ·simp only [Act.put, List.setIfInBounds_toArray, List.set_cons_zero, List.set_cons_succ, i64_w, i32_w]
     rfl
    refine pure_ (i := 6) (N := some 23) (v := ?_) (a' := ?_) #[true, true, false, false, false, true, true, false, false, false, false, false, false, false, false, false] rfl rfl (by kernel_rfl) (fun _ _ _ h => h) (Or.inl ⟨by rfl, ?_⟩) ?_ ?_
    rotate_left
    ·intro w'
     go_simp
     with_reducible rfl
    rotate_left
    ·simp only [Act.put, List.setIfInBounds_toArray, List.set_cons_zero, List.set_cons_succ, i64_w, i32_w]
     rfl
    refine pure_ (i := 7) (N := some 24) (v := ?_) (a' := ?_) #[true, true, false, false, false, true, true, true, false, false, false, false, false, false, false, false] rfl rfl (by kernel_rfl) (fun _ _ _ h => h) (Or.inl ⟨by rfl, ?_⟩) ?_ ?_
    rotate_left
    ·intro w'
     go_simp
     with_reducible rfl
    rotate_left
    ·simp only [Act.put, List.setIfInBounds_toArray, List.set_cons_zero, List.set_cons_succ, i64_w, i32_w]
     rfl
    refine pure_ (i := 8) (N := some 25) (v := ?_) (a' := ?_) #[true, true, false, false, false, true, true, true, true, false, false, false, false, false, false, false] rfl rfl (by kernel_rfl) (fun _ _ _ h => h) (Or.inl ⟨by rfl, ?_⟩) ?_ ?_
    rotate_left
    ·intro w'
     go_simp
     with_reducible rfl
    rotate_left
    ·simp only [Act.put, List.setIfInBounds_toArray, List.set_cons_zero, List.set_cons_succ, i64_w, i32_w]
     rfl
    refine pure_ (i := 9) (N := some 26) (v := ?_) (a' := ?_) #[true, true, false, false, false, true, true, true, true, true, false, false, false, false, false, false] rfl rfl (by kernel_rfl) (fun _ _ _ h => h) (Or.inl ⟨by rfl, ?_⟩) ?_ ?_
    rotate_left
    ·intro w'
     go_simp
     with_reducible rfl
    rotate_left
    ·simp only [Act.put, List.setIfInBounds_toArray, List.set_cons_zero, List.set_cons_succ, i64_w, i32_w]
     rfl
    refine take_ (i := 10) (N := some 27) (v := .int .i16 (n : Int)) (a' := ?_) #[true, true, false, false, false, true, true, true, true, true, true, false, false, false, false, false] rfl rfl (by kernel_rfl) (fun _ _ _ h => h) (Or.inl ⟨by rfl, ?_⟩) hHeld ?_ ?_
    ·intro w' s0
     exact y_cellT (by rfl) (by rfl) oneI16T (FrBelow.read s0 hci)
    rotate_left
    ·simp only [Act.put, List.setIfInBounds_toArray, List.set_cons_zero, List.set_cons_succ, i64_w, i32_w]
     rfl
    refine take_ (i := 11) (N := some 28) (v := .int .i64 (n : Int)) (a' := ?_) #[true, true, false, false, false, true, true, true, true, true, true, true, false, false, false, false] rfl rfl (by kernel_rfl) (fun _ _ _ h => h) (Or.inl ⟨by rfl, ?_⟩) hHeld ?_ ?_
    ·intro w' s0
     exact (by go_simp; first | (rw [i64_w, hw64]; done) | (rw [i64_w, hw64]; rfl) | exact hw64)
    rotate_left
    ·simp only [Act.put, List.setIfInBounds_toArray, List.set_cons_zero, List.set_cons_succ, i64_w, i32_w]
     rfl
    refine one_ (i := 2) (N := some 19) #[true, true, true, false, false, true, true, true, true, true, true, true, false, false, false, false] rfl rfl (by kernel_rfl) (by decide) (fun K hK => ?_)
    refine goes_ Tryd.func28 (by kernel_rfl) rfl #[.int .i64 (i : Int)] (by rfl) rfl rfl (by simp only [List.map_toArray, List.map_cons, List.map_nil]; rfl) ?_
    refine (HDI.out _).mono ?_
    rintro e w5 ⟨rfl, hb⟩
    refine ⟨_, rfl, ?_⟩
    refine hK.out _ _ (hHeld.trans (hb.mono hHeld.size)) (fun hHeld => ?_)
    clear hK K
    refine norm_ (a' := ?_) ?_ ?_
    rotate_left
    ·show Act.put _ (some 19) _ = _
     simp only [Act.put, List.setIfInBounds_toArray, List.set_cons_zero, List.set_cons_succ, i64_w, i32_w]
     rfl
    refine take_ (i := 3) (N := some 20) (v := .string ⟨([32] ++ dg i).toArray⟩) (a' := ?_) #[true, true, true, true, false, true, true, true, true, true, true, true, false, false, false, false] rfl rfl (by kernel_rfl) (fun _ _ _ h => h) (Or.inl ⟨by rfl, ?_⟩) hHeld ?_ ?_
    ·intro w' s0
     exact (by go_simp; rw [if_neg (by simp only [bs_size, List.length_append, List.length_cons, List.length_nil] at *; omega)]; simp [bs_app_data])
    rotate_left
    ·simp only [Act.put, List.setIfInBounds_toArray, List.set_cons_zero, List.set_cons_succ, i64_w, i32_w]
     rfl
    refine take_ (i := 4) (N := some 21) (v := .string ⟨(([32] ++ dg i) ++ [120]).toArray⟩) (a' := ?_) #[true, true, true, true, true, true, true, true, true, true, true, true, false, false, false, false] rfl rfl (by kernel_rfl) (fun _ _ _ h => h) (Or.inl ⟨by rfl, ?_⟩) hHeld ?_ ?_
    ·intro w' s0
     exact (by go_simp; rw [if_neg (by simp only [bs_size, List.length_append, List.length_cons, List.length_nil] at *; omega)]; simp [bs_app_data])
    rotate_left
    ·simp only [Act.put, List.setIfInBounds_toArray, List.set_cons_zero, List.set_cons_succ, i64_w, i32_w]
     rfl
    refine one_ (i := 12) (N := some 29) #[true, true, true, true, true, true, true, true, true, true, true, true, true, false, false, false] rfl rfl (by kernel_rfl) (by decide) (fun K hK => ?_)
    refine goes_ Tryd.func28 (by kernel_rfl) rfl #[.int .i64 (n : Int)] (by rfl) rfl rfl (by simp only [List.map_toArray, List.map_cons, List.map_nil]; rfl) ?_
    refine (HDN.out _).mono ?_
    rintro e w6 ⟨rfl, hb⟩
    refine ⟨_, rfl, ?_⟩
    refine hK.out _ _ (hHeld.trans (hb.mono hHeld.size)) (fun hHeld => ?_)
    clear hK K
    refine norm_ (a' := ?_) ?_ ?_
    rotate_left
    ·show Act.put _ (some 29) _ = _
     simp only [Act.put, List.setIfInBounds_toArray, List.set_cons_zero, List.set_cons_succ, i64_w, i32_w]
     rfl
    refine take_ (i := 13) (N := some 30) (v := .string ⟨((([32] ++ dg i) ++ [120]) ++ dg n).toArray⟩) (a' := ?_) #[true, true, true, true, true, true, true, true, true, true, true, true, true, true, false, false] rfl rfl (by kernel_rfl) (fun _ _ _ h => h) (Or.inl ⟨by rfl, ?_⟩) hHeld ?_ ?_
    ·intro w' s0
     exact (by go_simp; rw [if_neg (by simp only [bs_size, List.length_append, List.length_cons, List.length_nil] at *; omega)]; simp [bs_app_data])
    rotate_left
    ·simp only [Act.put, List.setIfInBounds_toArray, List.set_cons_zero, List.set_cons_succ, i64_w, i32_w]
     rfl
    refine take_ (i := 14) (N := some 31) (v := .string ⟨(s ++ ((([32] ++ dg i) ++ [120]) ++ dg n)).toArray⟩) (a' := ?_) #[true, true, true, true, true, true, true, true, true, true, true, true, true, true, true, false] rfl rfl (by kernel_rfl) (fun _ _ _ h => h) (Or.inl ⟨by rfl, ?_⟩) hHeld ?_ ?_
    ·intro w' s0
     exact (by go_simp; rw [if_neg (by simp only [bs_size, List.length_append, List.length_cons, List.length_nil] at *; omega)]; simp [bs_app_data])
    rotate_left
    ·simp only [Act.put, List.setIfInBounds_toArray, List.set_cons_zero, List.set_cons_succ, i64_w, i32_w]
     rfl
    refine pure_ (i := 15) (N := some 3) (v := ?_) (a' := ?_) #[true, true, true, true, true, true, true, true, true, true, true, true, true, true, true, true] rfl rfl (by kernel_rfl) (fun _ _ _ h => h) (Or.inl ⟨by rfl, ?_⟩) ?_ ?_
    rotate_left
    ·intro w'
     go_simp
     with_reducible rfl
    rotate_left
    ·simp only [Act.put, List.setIfInBounds_toArray, List.set_cons_zero, List.set_cons_succ, i64_w, i32_w]
     rfl
    refine done_ (by kernel_rfl) ?_
    skip
    go_wp2_with fail
    go_roundw
    case rel => exact ⟨i + 1, by omega, by go_num, by rw [HSU.out, HWD.out]; simp, ⟨below_thenT HB.out hHeld⟩⟩
    case measure => simp [intOf]; omega
   ·rw [if_neg hpos] at HSU
    go_wp2_with fail
    go_roundw
    case rel => exact ⟨i + 1, by omega, by go_num, by rw [HSU.out], HB⟩
    case measure => simp [intOf]; omega
  ·have HI := Aside0.mk (show i = 40 by omega)
   generalize hs0 : spT L i = s0v at *
   have HS0 := Aside0.mk (show spT L 40 = s0v by rw [← HI.out]; exact hs0)
   clear hs0
   go_wp2_with fail
   go_loopw [5, 3] (fun v5 v3 wr => ∃ i2 : Nat, i2 ≤ 4 ∧ v5 = .int .i64 i2 ∧ v3 = .string ⟨(spT L (40 + i2)).toArray⟩ ∧ Aside0 (Below w.heap.size w wr)) (fun v5 _ _ => 4 - (intOf v5).toNat)
   case atStart => exact ⟨0, by omega, rfl, by rw [HS0.out], HB⟩
   case round =>
    clear HB
    obtain ⟨i2, hi2, rfl, rfl, HB⟩ := hrel
    by_cases hlt2 : i2 < 4
    ·have hci := HC.out wr HB.out (40 + i2) (by omega)
     have hbi := HB0.out (40 + i2) (by omega)
     have hln := HLN.out (40 + i2)
     have HSU := Aside0.mk (show spT L (40 + (i2 + 1)) = if 0 < rd L ((40 + i2 : Nat) : Int) then spT L (40 + i2) ++ (32 :: wd (40 + i2) (rd L ((40 + i2 : Nat) : Int))) else spT L (40 + i2) from rfl)
     generalize hx : rd L ((40 + i2 : Nat) : Int) = x at *
     have hsz := bs_size (spT L (40 + i2))
     generalize spT L (40 + i2) = s at *
     clear hx
     by_cases hpos : 0 < x
     ·rw [if_pos hpos] at HSU
      obtain ⟨n, rfl⟩ := Int.eq_ofNat_of_zero_le hbi.1
      have HDI := Aside0.mk (fun W => specDec_calls (i2 + 1) (by omega) W)
      have HDN := Aside0.mk (fun W => specDec_calls n (by omega) W)
      have hw64 : wrap64 (n : Int) = (n : Int) := w64 (by omega) (by omega)
      have hwi : wrap64 ((i2 : Int) + 1) = ((i2 + 1 : Nat) : Int) := by rw [w64 (by omega) (by omega)]; omega
      have hdi := dg_len (i2 + 1)
      have hdn := dg_len n
      have HWD := Aside0.mk (show wd (40 + i2) (n : Int) = (([115] ++ dg (i2 + 1)) ++ [120]) ++ dg n by unfold wd; rw [if_neg (by omega), Int.toNat_natCast, show 40 + i2 - 39 = i2 + 1 by omega])
      go_wp2_with fail
      refine start_ (n := 17) (S := fun w' => Below wr.heap.size wr w') (ds := []) #[false, false, false, false, false, false, false, false, false, false, false, false, false, false, false, false, false] (by kernel_rfl) rfl rfl (below_drew (Below.refl _ _)) (fun hHeld => ?_)
      refine pure_ (i := 0) (N := some 43) (v := ?_) (a' := ?_) #[true, false, false, false, false, false, false, false, false, false, false, false, false, false, false, false, false] rfl rfl (by kernel_rfl) (fun _ _ _ h => h) (Or.inl ⟨by rfl, ?_⟩) ?_ ?_
      rotate_left
      ·intro w'
       go_simp
       with_reducible rfl
      rotate_left
      ·simp only [Act.put, List.setIfInBounds_toArray, List.set_cons_zero, List.set_cons_succ, i64_w, i32_w]
       rfl
      refine pure_ (i := 1) (N := some 44) (v := ?_) (a' := ?_) #[true, true, false, false, false, false, false, false, false, false, false, false, false, false, false, false, false] rfl rfl (by kernel_rfl) (fun _ _ _ h => h) (Or.inl ⟨by rfl, ?_⟩) ?_ ?_
      rotate_left
      ·intro w'
       go_simp
       with_reducible rfl
      rotate_left
      ·simp only [Act.put, List.setIfInBounds_toArray, List.set_cons_zero, List.set_cons_succ, i64_w, i32_w]
       rfl
      refine pure_ (i := 6) (N := some 49) (v := ?_) (a' := ?_) #[true, true, false, false, false, false, true, false, false, false, false, false, false, false, false, false, false] rfl rfl (by kernel_rfl) (fun _ _ _ h => h) (Or.inl ⟨by rfl, ?_⟩) ?_ ?_
      rotate_left
      ·intro w'
       go_simp
       with_reducible rfl
      rotate_left
      ·simp only [Act.put, List.setIfInBounds_toArray, List.set_cons_zero, List.set_cons_succ, i64_w, i32_w]
       rfl
      refine pure_ (i := 7) (N := some 50) (v := ?_) (a' := ?_) #[true, true, false, false, false, false, true, true, false, false, false, false, false, false, false, false, false] rfl rfl (by kernel_rfl) (fun _ _ _ h => h) (Or.inl ⟨by rfl, ?_⟩) ?_ ?_
      rotate_left
      ·intro w'
       go_simp
       with_reducible rfl
      rotate_left
      ·simp only [Act.put, List.setIfInBounds_toArray, List.set_cons_zero, List.set_cons_succ, i64_w, i32_w]
       rfl
      refine pure_ (i := 8) (N := some 51) (v := ?_) (a' := ?_) #[true, true, false, false, false, false, true, true, true, false, false, false, false, false, false, false, false] rfl rfl (by kernel_rfl) (fun _ _ _ h => h) (Or.inl ⟨by rfl, ?_⟩) ?_ ?_
      rotate_left
      ·intro w'
       go_simp
       with_reducible rfl
      rotate_left
      ·simp only [Act.put, List.setIfInBounds_toArray, List.set_cons_zero, List.set_cons_succ, i64_w, i32_w]
       rfl
      refine pure_ (i := 9) (N := some 52) (v := ?_) (a' := ?_) #[true, true, false, false, false, false, true, true, true, true, false, false, false, false, false, false, false] rfl rfl (by kernel_rfl) (fun _ _ _ h => h) (Or.inl ⟨by rfl, ?_⟩) ?_ ?_
      rotate_left
      ·intro w'
       go_simp
       with_reducible rfl
      rotate_left
      ·simp only [Act.put, List.setIfInBounds_toArray, List.set_cons_zero, List.set_cons_succ, i64_w, i32_w]
       rfl
      refine pure_ (i := 10) (N := some 53) (v := ?_) (a' := ?_) #[true, true, false, false, false, false, true, true, true, true, true, false, false, false, false, false, false] rfl rfl (by kernel_rfl) (fun _ _ _ h => h) (Or.inl ⟨by rfl, ?_⟩) ?_ ?_
      rotate_left
      ·intro w'
       go_simp
       with_reducible rfl
      rotate_left
      ·simp only [Act.put, List.setIfInBounds_toArray, List.set_cons_zero, List.set_cons_succ, i64_w, i32_w]
       rfl
      refine take_ (i := 2) (N := some 45) (v := .int .i64 ((i2 + 1 : Nat) : Int)) (a' := ?_) #[true, true, true, false, false, false, true, true, true, true, true, false, false, false, false, false, false] rfl rfl (by kernel_rfl) (fun _ _ _ h => h) (Or.inl ⟨by rfl, ?_⟩) hHeld ?_ ?_
      ·intro w' s0
       exact (by go_simp; rw [i64_w, w64 (by omega) (by omega)])
      rotate_left
      ·simp only [Act.put, List.setIfInBounds_toArray, List.set_cons_zero, List.set_cons_succ, i64_w, i32_w]
       rfl
      refine take_ (i := 11) (N := some 54) (v := .int .i16 (n : Int)) (a' := ?_) #[true, true, true, false, false, false, true, true, true, true, true, true, false, false, false, false, false] rfl rfl (by kernel_rfl) (fun _ _ _ h => h) (Or.inl ⟨by rfl, ?_⟩) hHeld ?_ ?_
      ·intro w' s0
       exact y_cellT (by rfl) (by rfl) oneI16T (FrBelow.read s0 hci)
      rotate_left
      ·simp only [Act.put, List.setIfInBounds_toArray, List.set_cons_zero, List.set_cons_succ, i64_w, i32_w]
       rfl
      refine take_ (i := 12) (N := some 55) (v := .int .i64 (n : Int)) (a' := ?_) #[true, true, true, false, false, false, true, true, true, true, true, true, true, false, false, false, false] rfl rfl (by kernel_rfl) (fun _ _ _ h => h) (Or.inl ⟨by rfl, ?_⟩) hHeld ?_ ?_
      ·intro w' s0
       exact (by go_simp; first | (rw [i64_w, hw64]; done) | (rw [i64_w, hw64]; rfl) | exact hw64)
      rotate_left
      ·simp only [Act.put, List.setIfInBounds_toArray, List.set_cons_zero, List.set_cons_succ, i64_w, i32_w]
       rfl
      refine one_ (i := 3) (N := some 46) #[true, true, true, true, false, false, true, true, true, true, true, true, true, false, false, false, false] rfl rfl (by kernel_rfl) (by decide) (fun K hK => ?_)
      refine goes_ Tryd.func28 (by kernel_rfl) rfl #[.int .i64 ((i2 + 1 : Nat) : Int)] (by rfl) rfl rfl (by simp only [List.map_toArray, List.map_cons, List.map_nil]; rfl) ?_
      refine (HDI.out _).mono ?_
      rintro e w5 ⟨rfl, hb⟩
      refine ⟨_, rfl, ?_⟩
      refine hK.out _ _ (hHeld.trans (hb.mono hHeld.size)) (fun hHeld => ?_)
      clear hK K
      refine norm_ (a' := ?_) ?_ ?_
      rotate_left
      ·show Act.put _ (some 46) _ = _
       simp only [Act.put, List.setIfInBounds_toArray, List.set_cons_zero, List.set_cons_succ, i64_w, i32_w]
       rfl
      refine take_ (i := 4) (N := some 47) (v := .string ⟨([32, 115] ++ dg (i2 + 1)).toArray⟩) (a' := ?_) #[true, true, true, true, true, false, true, true, true, true, true, true, true, false, false, false, false] rfl rfl (by kernel_rfl) (fun _ _ _ h => h) (Or.inl ⟨by rfl, ?_⟩) hHeld ?_ ?_
      ·intro w' s0
       exact (by go_simp; rw [if_neg (by simp only [bs_size, List.length_append, List.length_cons, List.length_nil] at *; omega)]; simp [bs_app_data])
      rotate_left
      ·simp only [Act.put, List.setIfInBounds_toArray, List.set_cons_zero, List.set_cons_succ, i64_w, i32_w]
       rfl
      refine take_ (i := 5) (N := some 48) (v := .string ⟨(([32, 115] ++ dg (i2 + 1)) ++ [120]).toArray⟩) (a' := ?_) #[true, true, true, true, true, true, true, true, true, true, true, true, true, false, false, false, false] rfl rfl (by kernel_rfl) (fun _ _ _ h => h) (Or.inl ⟨by rfl, ?_⟩) hHeld ?_ ?_
      ·intro w' s0
       exact (by go_simp; rw [if_neg (by simp only [bs_size, List.length_append, List.length_cons, List.length_nil] at *; omega)]; simp [bs_app_data])
      rotate_left
      ·simp only [Act.put, List.setIfInBounds_toArray, List.set_cons_zero, List.set_cons_succ, i64_w, i32_w]
       rfl
      refine one_ (i := 13) (N := some 56) #[true, true, true, true, true, true, true, true, true, true, true, true, true, true, false, false, false] rfl rfl (by kernel_rfl) (by decide) (fun K hK => ?_)
      refine goes_ Tryd.func28 (by kernel_rfl) rfl #[.int .i64 (n : Int)] (by rfl) rfl rfl (by simp only [List.map_toArray, List.map_cons, List.map_nil]; rfl) ?_
      refine (HDN.out _).mono ?_
      rintro e w6 ⟨rfl, hb⟩
      refine ⟨_, rfl, ?_⟩
      refine hK.out _ _ (hHeld.trans (hb.mono hHeld.size)) (fun hHeld => ?_)
      clear hK K
      refine norm_ (a' := ?_) ?_ ?_
      rotate_left
      ·show Act.put _ (some 56) _ = _
       simp only [Act.put, List.setIfInBounds_toArray, List.set_cons_zero, List.set_cons_succ, i64_w, i32_w]
       rfl
      refine take_ (i := 14) (N := some 57) (v := .string ⟨((([32, 115] ++ dg (i2 + 1)) ++ [120]) ++ dg n).toArray⟩) (a' := ?_) #[true, true, true, true, true, true, true, true, true, true, true, true, true, true, true, false, false] rfl rfl (by kernel_rfl) (fun _ _ _ h => h) (Or.inl ⟨by rfl, ?_⟩) hHeld ?_ ?_
      ·intro w' s0
       exact (by go_simp; rw [if_neg (by simp only [bs_size, List.length_append, List.length_cons, List.length_nil] at *; omega)]; simp [bs_app_data])
      rotate_left
      ·simp only [Act.put, List.setIfInBounds_toArray, List.set_cons_zero, List.set_cons_succ, i64_w, i32_w]
       rfl
      refine take_ (i := 15) (N := some 58) (v := .string ⟨(s ++ ((([32, 115] ++ dg (i2 + 1)) ++ [120]) ++ dg n)).toArray⟩) (a' := ?_) #[true, true, true, true, true, true, true, true, true, true, true, true, true, true, true, true, false] rfl rfl (by kernel_rfl) (fun _ _ _ h => h) (Or.inl ⟨by rfl, ?_⟩) hHeld ?_ ?_
      ·intro w' s0
       exact (by go_simp; rw [if_neg (by simp only [bs_size, List.length_append, List.length_cons, List.length_nil] at *; omega)]; simp [bs_app_data])
      rotate_left
      ·simp only [Act.put, List.setIfInBounds_toArray, List.set_cons_zero, List.set_cons_succ, i64_w, i32_w]
       rfl
      refine pure_ (i := 16) (N := some 3) (v := ?_) (a' := ?_) #[true, true, true, true, true, true, true, true, true, true, true, true, true, true, true, true, true] rfl rfl (by kernel_rfl) (fun _ _ _ h => h) (Or.inl ⟨by rfl, ?_⟩) ?_ ?_
      rotate_left
      ·intro w'
       go_simp
       with_reducible rfl
      rotate_left
      ·simp only [Act.put, List.setIfInBounds_toArray, List.set_cons_zero, List.set_cons_succ, i64_w, i32_w]
       rfl
      refine done_ (by kernel_rfl) ?_
      skip
      go_wp2_with fail
      go_roundw
      case rel => exact ⟨i2 + 1, by omega, by go_num, by rw [HSU.out, HWD.out]; simp, ⟨below_thenT HB.out hHeld⟩⟩
      case measure => simp [intOf]; omega
     ·rw [if_neg hpos] at HSU
      go_wp2_with fail
      go_roundw
      case rel => exact ⟨i2 + 1, by omega, by go_num, by rw [HSU.out], HB⟩
      case measure => simp [intOf]; omega
    ·have HI2 := Aside0.mk (show i2 = 4 by omega)
     have hln := HLN.out 44
     generalize hsv : spT L (40 + i2) = sv at *
     have HSV := Aside0.mk (show spT L 44 = sv by rw [← hsv, HI2.out])
     rw [HSV.out] at HT hln
     clear hsv
     cases sv with
     | nil =>
      have HTE := Aside0.mk (HT.out.trans (if_pos rfl))
      go_wp2_with fail
      go_ret
      exact ⟨by rw [HTE.out]; rfl, HB.out⟩
     | cons c r =>
      have HTE := Aside0.mk (show T = r from HT.out.trans (if_neg (by simp)))
      have hne : ¬ ((⟨(c :: r).toArray⟩ : ByteArray) = ⟨#[]⟩) := fun h => by
       have := congrArg ByteArray.size h
       simp [ByteArray.size] at this
      have hsz1 : (⟨(c :: r).toArray⟩ : ByteArray).size = r.length + 1 := by simp [ByteArray.size]
      go_wp2_with fail
      go_ret
      refine ⟨?_, HB.out⟩
      rw [HTE.out]
      show Ending.returned (.string ((⟨(c :: r).toArray⟩ : ByteArray).extract 1 (r.length + 1))) = _
      rw [bs_drop1]
end Go.Proofs.YtehagnkcfgkomaaDoor.Arr
namespace Go.Proofs.YtehagnkcfgkomaaDoor.Arr
open Go.RowKit Go.Proofs.YtehagnkcfgkomaaDoorW.PrintWords Go.Proofs.YtehagnkcfgkomaaDoorW.PrintLast Go.Proofs.YtehagnkcfgkomaaDoorW.PrintMore Go.Proofs.YtehagnkcfgkomaaDoor.U Go.Proofs.YtehagnkcfgkomaaDoor.I
set_option linter.unusedVariables false
set_option linter.unusedSimpArgs false
theorem Mem.addT {w0 w : World} {g : Nat} {cs : Array Value} {t : TypeId} (h : Below w0.heap.size w0 w) (hg : w.heap[g]? = some (.cells cs t (0, 0))) (hb : w0.heap.size ≤ g) : Mem w0 w [⟨g, cs, t, true⟩] := by
 have h0 := (Mem.start w0).after h
 refine ⟨h0.os, h0.tape, h0.output, h0.size, fun k hk hn => h0.block k hk (fun e he => by cases he), fun e he => ?_, fun m n e f hm hn hef => ?_⟩
 ·rw [List.mem_singleton] at he
  subst he
  exact ⟨hg, fun _ => hb⟩
 ·rcases m with _ | m <;> rcases n with _ | n <;> simp_all
abbrev txs (l : List (List UInt8)) : List ByteArray := l.map fun x => ⟨x.toArray⟩
structure WT (w : World) (g : Nat) (L : List Int) (v : Value) (l : List (List UInt8)) (W : World) : Prop where
 bel : Below w.heap.size w W
 ge : w.heap.size ≤ g
 box : W.heap[g]? = some (.cells (vals .i16 L) 28 (0, 0))
 own : Kd.R Kd.string 9 W w.heap.size (fun k => k ≠ g) v (txs l)
section
variable {w W W1 : World} {g : Nat} {L : List Int} {v v1 : Value} {l l1 : List (List UInt8)}
theorem WT.below (h : WT w g L v l W) (hb : Below W.heap.size W W1) : WT w g L v l W1 := ⟨below_thenT h.bel hb, h.ge, (hb.block _ (lt_of_some h.box)).trans h.box, Kd.R_below h.own hb⟩
theorem WT.grown (h : WT w g L v l W) (ho : Kd.R Kd.string 9 W1 w.heap.size (fun k => k ≠ g) v1 (txs l1)) (hb : Below w.heap.size w W1) (hg : W.grownBy W1 v.ownBlock) : WT w g L v1 l1 W1 :=
 ⟨hb, h.ge, (hg.block _ (lt_of_some h.box) (Kd.R_away h.own (fun k hk => hk))).trans h.box, ho⟩
theorem WT.fresh (h : WT w g L v l W) {k : Nat} (hk : W.heap.size ≤ k) : k ≠ g := by
 have := lt_of_some h.box
 omega
end
theorem infoStrT : (Tryd.prog.info? 9).map (fun i => (i.zero, i.size, i.bytes)) = some (some (.string ByteArray.empty), 1, 16) := by kernel_rfl
theorem decimalI_calls (z : Int) (h0 : 0 ≤ z) (h : z < 100) (w : World) : Calls Tryd.prog 16 #[.int .i64 z] w fun e w' => e = .returned (.string ⟨(dg z.toNat).toArray⟩) ∧ Below w.heap.size w w' := by
 obtain ⟨n, rfl⟩ := Int.eq_ofNat_of_zero_le h0
 rw [Int.toNat_natCast]
 exact decimal_calls n (by omega) w
theorem join_calls (bk c : Nat) (l : List (List UInt8)) (w : World) (hc : ∀ (j : Nat) x, (txs l)[j]? = some x → w.cell? ⟨bk, 0 + j, none⟩ = some (.string x)) (hbk : bk < w.heap.size) (hn : l.length ≤ 44) (hcap : l.length ≤ c) (h6 : ∀ x ∈ l, x.length ≤ 6) :
  Calls Tryd.prog 17 #[.slice (some ⟨bk, 0, none⟩) l.length c, .string ⟨#[32]⟩] w fun e w' => e = .returned (.string ⟨(Lib.join l [32]).toArray⟩) ∧ Below w.heap.size w w' := by
 have hmap : (txs l).map (·.data.toList) = l := by
  rw [List.map_map]
  have : ((fun x : ByteArray => x.data.toList) ∘ fun x : List UInt8 => (⟨x.toArray⟩ : ByteArray)) = id := by funext x; simp
  rw [this, List.map_id]
 have h := Any.strings_Join lay156 extra156 bk 0 c (txs l) ⟨#[32]⟩ w hc hbk (by simp; omega) (by simpa using hcap) (by
  rw [hmap]
  have := join_len l h6
  show (Lib.join l [32]).length ≤ _
  omega)
 rw [hmap, List.length_map] at h
 exact h
theorem rd_drop40 (L : List Int) (i : Nat) (h : 40 + i < L.length) : rd (L.drop 40) (i : Int) = rd L ((40 + i : Nat) : Int) := by
 rw [rd_get _ i (by simp; omega), rd_get L (40 + i) h, List.getElem_drop]
theorem txt_cell {W : World} {bk n : Nat} {xs : List ByteArray} (h : Kd.C Kd.string W (some ⟨bk, 0, none⟩) n xs) {j : Nat} {y : ByteArray} (hj : xs[j]? = some y) : W.cell? ⟨bk, 0 + j, none⟩ = some (.string y) := by
 have hl := (List.getElem?_eq_some_iff.1 hj).1
 obtain ⟨hn, _, h3⟩ := h
 obtain ⟨ad, e2, hcell⟩ := h3 (by omega)
 cases e2
 obtain ⟨cs, _, hk, hq⟩ := hcell j _ hj
 have hk : cs = [Value.string y] := hk
 have := hq 0 _ (by rw [hk]; rfl)
 rcases Nat.eq_zero_or_pos j with h0 | h0
 ·subst h0
  simpa [Addr.add, Kd.string, Kd.scalar] using this
 ·have hj0 : ¬ j = 0 := by omega
  simpa [Addr.add, Kd.string, Kd.scalar, hj0] using this
set_option maxHeartbeats 8000000 in
set_option maxRecDepth 100000 in
theorem implText_calls (L : List Int) (w : World) (hl : L.length = 44) (hw : Fits .i16 L) :
  Calls Tryd.prog 7 #[.agg (vals .i16 L)] w fun e w' => e = .returned (.string ⟨(if okL L = true then lockT L else []).toArray⟩) ∧ Below w.heap.size w w' := by
 have hm := Mem.start w
 have HV := Aside0.mk (fun W => implValid_calls L W hl hw)
 by_cases hok : okL L = true
 ·rw [if_pos hok]
  rw [hok] at HV
  have HB0 := Aside0.mk (fun (j : Nat) (hj : j < 44) => okL_bdT hok j (show j < L.length by omega))
  have HMW := Aside0.mk (wds_mem L)
  have HLN := Aside0.mk (wds_len L)
  have HT := Aside0.mk (show lockT L = if wds L 44 = [] then [45] else Lib.join (wds L 44) [32] from rfl)
  generalize lockT L = T at *
  clear hok hw
  go_enter Tryd.func7, Tryd.ntmps7
  go_wp2_with (first
   | (first | fail | ((with_reducible refine gt_box 1 28 ?_); refine st_box rfl 1 rfl 28 _ rfl hm (v := .agg (vals _ _)) rfl (cs := vals _ _) rfl ?_; clear hm; intro g1 w1 hm) | ((with_reducible refine gt_load 28 ?_); (first | (refine st_load rfl 28 _ rfl hm rfl 0 rfl agg28 (by first | omega | assumption | (simp only [lens]; first | omega | assumption) | (simp [lens]; done) | (simp [lens]; omega)) ?_) | (refine st_load rfl 28 _ rfl hm rfl 1 rfl agg28 (by first | omega | assumption | (simp only [lens]; first | omega | assumption) | (simp [lens]; done) | (simp [lens]; omega)) ?_) | (refine st_load rfl 28 _ rfl hm rfl 2 rfl agg28 (by first | omega | assumption | (simp only [lens]; first | omega | assumption) | (simp [lens]; done) | (simp [lens]; omega)) ?_))) | ((with_reducible refine gt_field 28 0 ?_); refine st_field rfl 28 _ 0 rfl rfl field28_0 ?_) | ((with_reducible refine gt_load 23 ?_); (first | (refine st_part rfl 23 _ rfl hm rfl 0 rfl agg23 (by first | omega | assumption | (simp only [lens]; first | omega | assumption) | (simp [lens]; done) | (simp [lens]; omega)) ?_) | (refine st_part rfl 23 _ rfl hm rfl 1 rfl agg23 (by first | omega | assumption | (simp only [lens]; first | omega | assumption) | (simp [lens]; done) | (simp [lens]; omega)) ?_) | (refine st_part rfl 23 _ rfl hm rfl 2 rfl agg23 (by first | omega | assumption | (simp only [lens]; first | omega | assumption) | (simp [lens]; done) | (simp [lens]; omega)) ?_))) | ((with_reducible refine gt_index 23 ?_); refine st_index rfl 23 _ _ rfl rfl rfl arr23 (by first | omega | assumption | (simp only [lens]; first | omega | assumption) | (simp [lens]; done) | (simp [lens]; omega)) (by first | omega | assumption | (simp only [lens]; first | omega | assumption) | (simp [lens]; done) | (simp [lens]; omega)) (by first | omega | assumption | (simp only [lens]; first | omega | assumption) | (simp [lens]; done) | (simp [lens]; omega)) ?_) | ((with_reducible refine gt_field 28 1 ?_); refine st_field rfl 28 _ 1 rfl rfl field28_1 ?_) | ((with_reducible refine gt_load 24 ?_); (first | (refine st_part rfl 24 _ rfl hm rfl 0 rfl agg24 (by first | omega | assumption | (simp only [lens]; first | omega | assumption) | (simp [lens]; done) | (simp [lens]; omega)) ?_) | (refine st_part rfl 24 _ rfl hm rfl 1 rfl agg24 (by first | omega | assumption | (simp only [lens]; first | omega | assumption) | (simp [lens]; done) | (simp [lens]; omega)) ?_) | (refine st_part rfl 24 _ rfl hm rfl 2 rfl agg24 (by first | omega | assumption | (simp only [lens]; first | omega | assumption) | (simp [lens]; done) | (simp [lens]; omega)) ?_))) | ((with_reducible refine gt_index 24 ?_); refine st_index rfl 24 _ _ rfl rfl rfl arr24 (by first | omega | assumption | (simp only [lens]; first | omega | assumption) | (simp [lens]; done) | (simp [lens]; omega)) (by first | omega | assumption | (simp only [lens]; first | omega | assumption) | (simp [lens]; done) | (simp [lens]; omega)) (by first | omega | assumption | (simp only [lens]; first | omega | assumption) | (simp [lens]; done) | (simp [lens]; omega)) ?_))
   | (go_at_call 15; refine (HV.out _).mono ?_; rintro e wa ⟨rfl, hb⟩; replace hm := hm.after hb; clear hb)
   | ((with_reducible refine gate_dst (N := 11) rfl ?_); refine Kd.R_lit Kd.string (w0 := w) w.heap.size 9 ?hg (N := 11) ?hd (xs := []) (inner := []) (ok := fun k => k ≠ g1) (okp := fun k => k ≠ g1) ?hr ?hp (fun _ hk => hk) (show _ ≠ g1 by have := lt_of_some (hm.mem (n := 0) rfl); omega) (hm.done rfl) (hm.done rfl).size (by simp) ?_; (case hd => rfl); (case hg => rfl); (case hr => first | (go_simp; done) | (go_simp; rfl)); (case hp => exact (Reps.none _ _)); intro v11 w3 ho hb hgr _; have HWT := Aside0.mk (WT.mk (l := []) hb ((hm.ent _ (List.mem_cons_self ..)).2 rfl) ((hgr.block _ (lt_of_some (hm.mem (n := 0) rfl)) (by simp)).trans (hm.mem (n := 0) rfl)) ho); replace hm := Mem.addT HWT.out.bel HWT.out.box HWT.out.ge; clear ho hb hgr))
  have HWTa := HWT
  go_loopw [14, 3] (fun v14 v3 wr => ∃ i : Nat, i ≤ 40 ∧ v14 = .int .i64 i ∧ Aside0 (WT w g1 L v3 (wds L i) wr)) (fun v14 _ _ => 40 - (intOf v14).toNat)
  case atStart => exact ⟨0, by omega, rfl, HWTa⟩
  case round =>
   clear hm HWT HWTa
   obtain ⟨i, hi, rfl, HO⟩ := hrel
   have hm := Mem.addT HO.out.bel HO.out.box HO.out.ge
   obtain ⟨A3, c3, hv3⟩ := Kd.R_slice HO.out.own
   rw [txs, List.length_map] at hv3
   subst hv3
   by_cases hlt : i < 40
   ·have HR := Aside0.mk (rd_take L i 40 (by omega) (by omega))
    have hbi := HB0.out i (by omega)
    rw [← HR.out] at hbi
    have hln := HLN.out i
    have HSU := Aside0.mk (show wds L (i + 1) = if 0 < rd (L.take 40) (i : Int) then wds L i ++ [wd i (rd (L.take 40) (i : Int))] else wds L i by rw [HR.out]; rfl)
    have hw64 : wrap64 (rd (L.take 40) (i : Int)) = rd (L.take 40) (i : Int) := w64 (by omega) (by omega)
    have hdi := dg_len i
    have hdn := dg_len (rd (L.take 40) (i : Int)).toNat
    by_cases hpos : 0 < rd (L.take 40) (i : Int)
    ·rw [if_pos hpos] at HSU
     have HWD := Aside0.mk (show ((((⟨(dg i).toArray⟩ : ByteArray) ++ ⟨#[120]⟩) ++ ⟨(dg (rd (L.take 40) (i : Int)).toNat).toArray⟩) : ByteArray) = ⟨(wd i (rd (L.take 40) (i : Int))).toArray⟩ by unfold wd; rw [if_pos hlt]; simp [bs_app_data])
     have hg1 : ¬ (9223372036854775807 < (dg i).length + 1) := by omega
     have hg2 : ¬ (9223372036854775807 < (dg i).length + 1 + (dg (rd (L.take 40) (i : Int)).toNat).length) := by omega
     go_wp2_with (first
      | (first | fail | ((with_reducible refine gt_box 1 28 ?_); refine st_box rfl 1 rfl 28 _ rfl hm (v := .agg (vals _ _)) rfl (cs := vals _ _) rfl ?_; clear hm; intro g1 w1 hm) | ((with_reducible refine gt_load 28 ?_); (first | (refine st_load rfl 28 _ rfl hm rfl 0 rfl agg28 (by first | omega | assumption | (simp only [lens]; first | omega | assumption) | (simp [lens]; done) | (simp [lens]; omega)) ?_) | (refine st_load rfl 28 _ rfl hm rfl 1 rfl agg28 (by first | omega | assumption | (simp only [lens]; first | omega | assumption) | (simp [lens]; done) | (simp [lens]; omega)) ?_) | (refine st_load rfl 28 _ rfl hm rfl 2 rfl agg28 (by first | omega | assumption | (simp only [lens]; first | omega | assumption) | (simp [lens]; done) | (simp [lens]; omega)) ?_))) | ((with_reducible refine gt_field 28 0 ?_); refine st_field rfl 28 _ 0 rfl rfl field28_0 ?_) | ((with_reducible refine gt_load 23 ?_); (first | (refine st_part rfl 23 _ rfl hm rfl 0 rfl agg23 (by first | omega | assumption | (simp only [lens]; first | omega | assumption) | (simp [lens]; done) | (simp [lens]; omega)) ?_) | (refine st_part rfl 23 _ rfl hm rfl 1 rfl agg23 (by first | omega | assumption | (simp only [lens]; first | omega | assumption) | (simp [lens]; done) | (simp [lens]; omega)) ?_) | (refine st_part rfl 23 _ rfl hm rfl 2 rfl agg23 (by first | omega | assumption | (simp only [lens]; first | omega | assumption) | (simp [lens]; done) | (simp [lens]; omega)) ?_))) | ((with_reducible refine gt_index 23 ?_); refine st_index rfl 23 _ _ rfl rfl rfl arr23 (by first | omega | assumption | (simp only [lens]; first | omega | assumption) | (simp [lens]; done) | (simp [lens]; omega)) (by first | omega | assumption | (simp only [lens]; first | omega | assumption) | (simp [lens]; done) | (simp [lens]; omega)) (by first | omega | assumption | (simp only [lens]; first | omega | assumption) | (simp [lens]; done) | (simp [lens]; omega)) ?_) | ((with_reducible refine gt_field 28 1 ?_); refine st_field rfl 28 _ 1 rfl rfl field28_1 ?_) | ((with_reducible refine gt_load 24 ?_); (first | (refine st_part rfl 24 _ rfl hm rfl 0 rfl agg24 (by first | omega | assumption | (simp only [lens]; first | omega | assumption) | (simp [lens]; done) | (simp [lens]; omega)) ?_) | (refine st_part rfl 24 _ rfl hm rfl 1 rfl agg24 (by first | omega | assumption | (simp only [lens]; first | omega | assumption) | (simp [lens]; done) | (simp [lens]; omega)) ?_) | (refine st_part rfl 24 _ rfl hm rfl 2 rfl agg24 (by first | omega | assumption | (simp only [lens]; first | omega | assumption) | (simp [lens]; done) | (simp [lens]; omega)) ?_))) | ((with_reducible refine gt_index 24 ?_); refine st_index rfl 24 _ _ rfl rfl rfl arr24 (by first | omega | assumption | (simp only [lens]; first | omega | assumption) | (simp [lens]; done) | (simp [lens]; omega)) (by first | omega | assumption | (simp only [lens]; first | omega | assumption) | (simp [lens]; done) | (simp [lens]; omega)) (by first | omega | assumption | (simp only [lens]; first | omega | assumption) | (simp [lens]; done) | (simp [lens]; omega)) ?_))
      | (go_at_call 16; refine (decimalI_calls _ (by omega) (by omega) _).mono ?_; rintro e wa ⟨rfl, hb⟩; replace hm := hm.after hb; replace HO := Aside0.mk (HO.out.below hb); (try simp only [Int.toNat_natCast]); clear hb)
      | ((with_reducible refine gate_builtin (b := .append) (xs := #[.tmp 20, .tmp 28]) rfl ?_); at_builtin; refine Kd.R_append Kd.string (w0 := w) w.heap.size rfl (.tmp 20) (.tmp 28) 41 9 (.string ByteArray.empty) 16 rfl Tryd.underlying41 infoStrT rfl (by decide) (by decide) (.slice A3 (wds L i).length c3) (txs (wds L i)) _ _ (fun k => k ≠ g1) (fun _ => False) rfl rfl (by rfl) (fun _ hk => hk.elim) (fun k hk => HO.out.fresh hk) HO.out.own HO.out.bel HO.out.bel.size (by simp; omega) ?_; intro v4 w9 ho9 hb9 hg9 _; rw [HWD.out] at ho9; have HO9 := Aside0.mk (HO.out.grown (l1 := wds L (i + 1)) (by rw [HSU.out, txs, List.map_append]; exact ho9) hb9 hg9); clear ho9 hb9 hg9))
     go_roundw
     case rel => exact ⟨i + 1, by omega, by go_num, HO9⟩
     case measure => simp [intOf]; omega
    ·rw [if_neg hpos] at HSU
     go_wp2_with (first | fail | ((with_reducible refine gt_box 1 28 ?_); refine st_box rfl 1 rfl 28 _ rfl hm (v := .agg (vals _ _)) rfl (cs := vals _ _) rfl ?_; clear hm; intro g1 w1 hm) | ((with_reducible refine gt_load 28 ?_); (first | (refine st_load rfl 28 _ rfl hm rfl 0 rfl agg28 (by first | omega | assumption | (simp only [lens]; first | omega | assumption) | (simp [lens]; done) | (simp [lens]; omega)) ?_) | (refine st_load rfl 28 _ rfl hm rfl 1 rfl agg28 (by first | omega | assumption | (simp only [lens]; first | omega | assumption) | (simp [lens]; done) | (simp [lens]; omega)) ?_) | (refine st_load rfl 28 _ rfl hm rfl 2 rfl agg28 (by first | omega | assumption | (simp only [lens]; first | omega | assumption) | (simp [lens]; done) | (simp [lens]; omega)) ?_))) | ((with_reducible refine gt_field 28 0 ?_); refine st_field rfl 28 _ 0 rfl rfl field28_0 ?_) | ((with_reducible refine gt_load 23 ?_); (first | (refine st_part rfl 23 _ rfl hm rfl 0 rfl agg23 (by first | omega | assumption | (simp only [lens]; first | omega | assumption) | (simp [lens]; done) | (simp [lens]; omega)) ?_) | (refine st_part rfl 23 _ rfl hm rfl 1 rfl agg23 (by first | omega | assumption | (simp only [lens]; first | omega | assumption) | (simp [lens]; done) | (simp [lens]; omega)) ?_) | (refine st_part rfl 23 _ rfl hm rfl 2 rfl agg23 (by first | omega | assumption | (simp only [lens]; first | omega | assumption) | (simp [lens]; done) | (simp [lens]; omega)) ?_))) | ((with_reducible refine gt_index 23 ?_); refine st_index rfl 23 _ _ rfl rfl rfl arr23 (by first | omega | assumption | (simp only [lens]; first | omega | assumption) | (simp [lens]; done) | (simp [lens]; omega)) (by first | omega | assumption | (simp only [lens]; first | omega | assumption) | (simp [lens]; done) | (simp [lens]; omega)) (by first | omega | assumption | (simp only [lens]; first | omega | assumption) | (simp [lens]; done) | (simp [lens]; omega)) ?_) | ((with_reducible refine gt_field 28 1 ?_); refine st_field rfl 28 _ 1 rfl rfl field28_1 ?_) | ((with_reducible refine gt_load 24 ?_); (first | (refine st_part rfl 24 _ rfl hm rfl 0 rfl agg24 (by first | omega | assumption | (simp only [lens]; first | omega | assumption) | (simp [lens]; done) | (simp [lens]; omega)) ?_) | (refine st_part rfl 24 _ rfl hm rfl 1 rfl agg24 (by first | omega | assumption | (simp only [lens]; first | omega | assumption) | (simp [lens]; done) | (simp [lens]; omega)) ?_) | (refine st_part rfl 24 _ rfl hm rfl 2 rfl agg24 (by first | omega | assumption | (simp only [lens]; first | omega | assumption) | (simp [lens]; done) | (simp [lens]; omega)) ?_))) | ((with_reducible refine gt_index 24 ?_); refine st_index rfl 24 _ _ rfl rfl rfl arr24 (by first | omega | assumption | (simp only [lens]; first | omega | assumption) | (simp [lens]; done) | (simp [lens]; omega)) (by first | omega | assumption | (simp only [lens]; first | omega | assumption) | (simp [lens]; done) | (simp [lens]; omega)) (by first | omega | assumption | (simp only [lens]; first | omega | assumption) | (simp [lens]; done) | (simp [lens]; omega)) ?_))
     go_roundw
     case rel => exact ⟨i + 1, by omega, by go_num, by rw [HSU.out]; exact HO⟩
     case measure => simp [intOf]; omega
   ·have HI := Aside0.mk (show i = 40 by omega)
    generalize hW0 : wds L i = W0 at *
    have HW0 := Aside0.mk (show wds L 40 = W0 by rw [← HI.out]; exact hW0)
    clear hW0
    go_wp2_with (first | fail | ((with_reducible refine gt_box 1 28 ?_); refine st_box rfl 1 rfl 28 _ rfl hm (v := .agg (vals _ _)) rfl (cs := vals _ _) rfl ?_; clear hm; intro g1 w1 hm) | ((with_reducible refine gt_load 28 ?_); (first | (refine st_load rfl 28 _ rfl hm rfl 0 rfl agg28 (by first | omega | assumption | (simp only [lens]; first | omega | assumption) | (simp [lens]; done) | (simp [lens]; omega)) ?_) | (refine st_load rfl 28 _ rfl hm rfl 1 rfl agg28 (by first | omega | assumption | (simp only [lens]; first | omega | assumption) | (simp [lens]; done) | (simp [lens]; omega)) ?_) | (refine st_load rfl 28 _ rfl hm rfl 2 rfl agg28 (by first | omega | assumption | (simp only [lens]; first | omega | assumption) | (simp [lens]; done) | (simp [lens]; omega)) ?_))) | ((with_reducible refine gt_field 28 0 ?_); refine st_field rfl 28 _ 0 rfl rfl field28_0 ?_) | ((with_reducible refine gt_load 23 ?_); (first | (refine st_part rfl 23 _ rfl hm rfl 0 rfl agg23 (by first | omega | assumption | (simp only [lens]; first | omega | assumption) | (simp [lens]; done) | (simp [lens]; omega)) ?_) | (refine st_part rfl 23 _ rfl hm rfl 1 rfl agg23 (by first | omega | assumption | (simp only [lens]; first | omega | assumption) | (simp [lens]; done) | (simp [lens]; omega)) ?_) | (refine st_part rfl 23 _ rfl hm rfl 2 rfl agg23 (by first | omega | assumption | (simp only [lens]; first | omega | assumption) | (simp [lens]; done) | (simp [lens]; omega)) ?_))) | ((with_reducible refine gt_index 23 ?_); refine st_index rfl 23 _ _ rfl rfl rfl arr23 (by first | omega | assumption | (simp only [lens]; first | omega | assumption) | (simp [lens]; done) | (simp [lens]; omega)) (by first | omega | assumption | (simp only [lens]; first | omega | assumption) | (simp [lens]; done) | (simp [lens]; omega)) (by first | omega | assumption | (simp only [lens]; first | omega | assumption) | (simp [lens]; done) | (simp [lens]; omega)) ?_) | ((with_reducible refine gt_field 28 1 ?_); refine st_field rfl 28 _ 1 rfl rfl field28_1 ?_) | ((with_reducible refine gt_load 24 ?_); (first | (refine st_part rfl 24 _ rfl hm rfl 0 rfl agg24 (by first | omega | assumption | (simp only [lens]; first | omega | assumption) | (simp [lens]; done) | (simp [lens]; omega)) ?_) | (refine st_part rfl 24 _ rfl hm rfl 1 rfl agg24 (by first | omega | assumption | (simp only [lens]; first | omega | assumption) | (simp [lens]; done) | (simp [lens]; omega)) ?_) | (refine st_part rfl 24 _ rfl hm rfl 2 rfl agg24 (by first | omega | assumption | (simp only [lens]; first | omega | assumption) | (simp [lens]; done) | (simp [lens]; omega)) ?_))) | ((with_reducible refine gt_index 24 ?_); refine st_index rfl 24 _ _ rfl rfl rfl arr24 (by first | omega | assumption | (simp only [lens]; first | omega | assumption) | (simp [lens]; done) | (simp [lens]; omega)) (by first | omega | assumption | (simp only [lens]; first | omega | assumption) | (simp [lens]; done) | (simp [lens]; omega)) (by first | omega | assumption | (simp only [lens]; first | omega | assumption) | (simp [lens]; done) | (simp [lens]; omega)) ?_))
    go_loopw [33, 3] (fun v33 v3 wr => ∃ i2 : Nat, i2 ≤ 4 ∧ v33 = .int .i64 i2 ∧ Aside0 (WT w g1 L v3 (wds L (40 + i2)) wr)) (fun v33 _ _ => 4 - (intOf v33).toNat)
    case atStart => exact ⟨0, by omega, rfl, by rw [HW0.out]; exact HO⟩
    case round =>
     clear hm HO
     obtain ⟨i2, hi2, rfl, HO⟩ := hrel
     have hm := Mem.addT HO.out.bel HO.out.box HO.out.ge
     obtain ⟨A3, c3, hv3⟩ := Kd.R_slice HO.out.own
     rw [txs, List.length_map] at hv3
     subst hv3
     have hln := HLN.out (40 + i2)
     by_cases hlt2 : i2 < 4
     ·have HR := Aside0.mk ((rd_take (L.drop 40) i2 4 (by omega) (by simp; omega)).trans (rd_drop40 L i2 (by omega)))
      have hbi := HB0.out (40 + i2) (by omega)
      rw [← HR.out] at hbi
      have HSU := Aside0.mk (show wds L (40 + (i2 + 1)) = if 0 < rd ((L.drop 40).take 4) (i2 : Int) then wds L (40 + i2) ++ [wd (40 + i2) (rd ((L.drop 40).take 4) (i2 : Int))] else wds L (40 + i2) by rw [HR.out]; rfl)
      have hw64 : wrap64 (rd ((L.drop 40).take 4) (i2 : Int)) = rd ((L.drop 40).take 4) (i2 : Int) := w64 (by omega) (by omega)
      have hwi : wrap64 ((i2 : Int) + 1) = (i2 : Int) + 1 := w64 (by omega) (by omega)
      have hdi := dg_len (i2 + 1)
      have hdn := dg_len (rd ((L.drop 40).take 4) (i2 : Int)).toNat
      by_cases hpos : 0 < rd ((L.drop 40).take 4) (i2 : Int)
      ·rw [if_pos hpos] at HSU
       have HWD := Aside0.mk (show (((((⟨#[115]⟩ : ByteArray) ++ ⟨(dg (i2 + 1)).toArray⟩) ++ ⟨#[120]⟩) ++ ⟨(dg (rd ((L.drop 40).take 4) (i2 : Int)).toNat).toArray⟩) : ByteArray) = ⟨(wd (40 + i2) (rd ((L.drop 40).take 4) (i2 : Int))).toArray⟩ by unfold wd; rw [if_neg (by omega), show 40 + i2 - 39 = i2 + 1 by omega]; simp [bs_app_data])
       have hg1 : ¬ (9223372036854775807 < 1 + (dg (i2 + 1)).length) := by omega
       have hg2 : ¬ (9223372036854775807 < 1 + (dg (i2 + 1)).length + 1) := by omega
       have hg3 : ¬ (9223372036854775807 < 1 + (dg (i2 + 1)).length + 1 + (dg (rd ((L.drop 40).take 4) (i2 : Int)).toNat).length) := by omega
       go_wp2_with (first
        | (first | fail | ((with_reducible refine gt_box 1 28 ?_); refine st_box rfl 1 rfl 28 _ rfl hm (v := .agg (vals _ _)) rfl (cs := vals _ _) rfl ?_; clear hm; intro g1 w1 hm) | ((with_reducible refine gt_load 28 ?_); (first | (refine st_load rfl 28 _ rfl hm rfl 0 rfl agg28 (by first | omega | assumption | (simp only [lens]; first | omega | assumption) | (simp [lens]; done) | (simp [lens]; omega)) ?_) | (refine st_load rfl 28 _ rfl hm rfl 1 rfl agg28 (by first | omega | assumption | (simp only [lens]; first | omega | assumption) | (simp [lens]; done) | (simp [lens]; omega)) ?_) | (refine st_load rfl 28 _ rfl hm rfl 2 rfl agg28 (by first | omega | assumption | (simp only [lens]; first | omega | assumption) | (simp [lens]; done) | (simp [lens]; omega)) ?_))) | ((with_reducible refine gt_field 28 0 ?_); refine st_field rfl 28 _ 0 rfl rfl field28_0 ?_) | ((with_reducible refine gt_load 23 ?_); (first | (refine st_part rfl 23 _ rfl hm rfl 0 rfl agg23 (by first | omega | assumption | (simp only [lens]; first | omega | assumption) | (simp [lens]; done) | (simp [lens]; omega)) ?_) | (refine st_part rfl 23 _ rfl hm rfl 1 rfl agg23 (by first | omega | assumption | (simp only [lens]; first | omega | assumption) | (simp [lens]; done) | (simp [lens]; omega)) ?_) | (refine st_part rfl 23 _ rfl hm rfl 2 rfl agg23 (by first | omega | assumption | (simp only [lens]; first | omega | assumption) | (simp [lens]; done) | (simp [lens]; omega)) ?_))) | ((with_reducible refine gt_index 23 ?_); refine st_index rfl 23 _ _ rfl rfl rfl arr23 (by first | omega | assumption | (simp only [lens]; first | omega | assumption) | (simp [lens]; done) | (simp [lens]; omega)) (by first | omega | assumption | (simp only [lens]; first | omega | assumption) | (simp [lens]; done) | (simp [lens]; omega)) (by first | omega | assumption | (simp only [lens]; first | omega | assumption) | (simp [lens]; done) | (simp [lens]; omega)) ?_) | ((with_reducible refine gt_field 28 1 ?_); refine st_field rfl 28 _ 1 rfl rfl field28_1 ?_) | ((with_reducible refine gt_load 24 ?_); (first | (refine st_part rfl 24 _ rfl hm rfl 0 rfl agg24 (by first | omega | assumption | (simp only [lens]; first | omega | assumption) | (simp [lens]; done) | (simp [lens]; omega)) ?_) | (refine st_part rfl 24 _ rfl hm rfl 1 rfl agg24 (by first | omega | assumption | (simp only [lens]; first | omega | assumption) | (simp [lens]; done) | (simp [lens]; omega)) ?_) | (refine st_part rfl 24 _ rfl hm rfl 2 rfl agg24 (by first | omega | assumption | (simp only [lens]; first | omega | assumption) | (simp [lens]; done) | (simp [lens]; omega)) ?_))) | ((with_reducible refine gt_index 24 ?_); refine st_index rfl 24 _ _ rfl rfl rfl arr24 (by first | omega | assumption | (simp only [lens]; first | omega | assumption) | (simp [lens]; done) | (simp [lens]; omega)) (by first | omega | assumption | (simp only [lens]; first | omega | assumption) | (simp [lens]; done) | (simp [lens]; omega)) (by first | omega | assumption | (simp only [lens]; first | omega | assumption) | (simp [lens]; done) | (simp [lens]; omega)) ?_))
        | (go_at_call 16; refine (decimalI_calls _ (by omega) (by omega) _).mono ?_; rintro e wa ⟨rfl, hb⟩; replace hm := hm.after hb; replace HO := Aside0.mk (HO.out.below hb); clear hb)
        | ((with_reducible refine gate_builtin (b := .append) (xs := #[.tmp 39, .tmp 49]) rfl ?_); at_builtin; refine Kd.R_append Kd.string (w0 := w) w.heap.size rfl (.tmp 39) (.tmp 49) 41 9 (.string ByteArray.empty) 16 rfl Tryd.underlying41 infoStrT rfl (by decide) (by decide) (.slice A3 (wds L (40 + i2)).length c3) (txs (wds L (40 + i2))) _ _ (fun k => k ≠ g1) (fun _ => False) rfl rfl (by rfl) (fun _ hk => hk.elim) (fun k hk => HO.out.fresh hk) HO.out.own HO.out.bel HO.out.bel.size (by simp; omega) ?_; intro v4 w9 ho9 hb9 hg9 _; rw [HWD.out] at ho9; have HO9 := Aside0.mk (HO.out.grown (l1 := wds L (40 + (i2 + 1))) (by rw [HSU.out, txs, List.map_append]; exact ho9) hb9 hg9); clear ho9 hb9 hg9))
       go_roundw
       case rel => exact ⟨i2 + 1, by omega, by go_num, HO9⟩
       case measure => simp [intOf]; omega
      ·rw [if_neg hpos] at HSU
       go_wp2_with (first | fail | ((with_reducible refine gt_box 1 28 ?_); refine st_box rfl 1 rfl 28 _ rfl hm (v := .agg (vals _ _)) rfl (cs := vals _ _) rfl ?_; clear hm; intro g1 w1 hm) | ((with_reducible refine gt_load 28 ?_); (first | (refine st_load rfl 28 _ rfl hm rfl 0 rfl agg28 (by first | omega | assumption | (simp only [lens]; first | omega | assumption) | (simp [lens]; done) | (simp [lens]; omega)) ?_) | (refine st_load rfl 28 _ rfl hm rfl 1 rfl agg28 (by first | omega | assumption | (simp only [lens]; first | omega | assumption) | (simp [lens]; done) | (simp [lens]; omega)) ?_) | (refine st_load rfl 28 _ rfl hm rfl 2 rfl agg28 (by first | omega | assumption | (simp only [lens]; first | omega | assumption) | (simp [lens]; done) | (simp [lens]; omega)) ?_))) | ((with_reducible refine gt_field 28 0 ?_); refine st_field rfl 28 _ 0 rfl rfl field28_0 ?_) | ((with_reducible refine gt_load 23 ?_); (first | (refine st_part rfl 23 _ rfl hm rfl 0 rfl agg23 (by first | omega | assumption | (simp only [lens]; first | omega | assumption) | (simp [lens]; done) | (simp [lens]; omega)) ?_) | (refine st_part rfl 23 _ rfl hm rfl 1 rfl agg23 (by first | omega | assumption | (simp only [lens]; first | omega | assumption) | (simp [lens]; done) | (simp [lens]; omega)) ?_) | (refine st_part rfl 23 _ rfl hm rfl 2 rfl agg23 (by first | omega | assumption | (simp only [lens]; first | omega | assumption) | (simp [lens]; done) | (simp [lens]; omega)) ?_))) | ((with_reducible refine gt_index 23 ?_); refine st_index rfl 23 _ _ rfl rfl rfl arr23 (by first | omega | assumption | (simp only [lens]; first | omega | assumption) | (simp [lens]; done) | (simp [lens]; omega)) (by first | omega | assumption | (simp only [lens]; first | omega | assumption) | (simp [lens]; done) | (simp [lens]; omega)) (by first | omega | assumption | (simp only [lens]; first | omega | assumption) | (simp [lens]; done) | (simp [lens]; omega)) ?_) | ((with_reducible refine gt_field 28 1 ?_); refine st_field rfl 28 _ 1 rfl rfl field28_1 ?_) | ((with_reducible refine gt_load 24 ?_); (first | (refine st_part rfl 24 _ rfl hm rfl 0 rfl agg24 (by first | omega | assumption | (simp only [lens]; first | omega | assumption) | (simp [lens]; done) | (simp [lens]; omega)) ?_) | (refine st_part rfl 24 _ rfl hm rfl 1 rfl agg24 (by first | omega | assumption | (simp only [lens]; first | omega | assumption) | (simp [lens]; done) | (simp [lens]; omega)) ?_) | (refine st_part rfl 24 _ rfl hm rfl 2 rfl agg24 (by first | omega | assumption | (simp only [lens]; first | omega | assumption) | (simp [lens]; done) | (simp [lens]; omega)) ?_))) | ((with_reducible refine gt_index 24 ?_); refine st_index rfl 24 _ _ rfl rfl rfl arr24 (by first | omega | assumption | (simp only [lens]; first | omega | assumption) | (simp [lens]; done) | (simp [lens]; omega)) (by first | omega | assumption | (simp only [lens]; first | omega | assumption) | (simp [lens]; done) | (simp [lens]; omega)) (by first | omega | assumption | (simp only [lens]; first | omega | assumption) | (simp [lens]; done) | (simp [lens]; omega)) ?_))
       go_roundw
       case rel => exact ⟨i2 + 1, by omega, by go_num, by rw [HSU.out]; exact HO⟩
       case measure => simp [intOf]; omega
     ·have HI2 := Aside0.mk (show i2 = 4 by omega)
      have h6 := HMW.out 44
      generalize hW1 : wds L (40 + i2) = W1 at *
      have HW1 := Aside0.mk (show wds L 44 = W1 by rw [← hW1, HI2.out])
      rw [HW1.out] at HT h6
      clear hW1
      cases W1 with
      | nil =>
       have HTE := Aside0.mk (HT.out.trans (if_pos rfl))
       go_wp2_with fail
       go_ret
       exact ⟨by rw [HTE.out]; rfl, HO.out.bel⟩
      | cons x r =>
       have HTE := Aside0.mk (HT.out.trans (if_neg (by simp)))
       have hn0 : (((x :: r).length : Int) == 0) = false := by rw [beq_eq_false_iff_ne]; simp; omega
       obtain ⟨bk, cap, hv, _, hbk, _⟩ := Kd.R_form HO.out.own (by simp)
       rw [txs, List.length_map] at hv
       injection hv with hA _ hc
       subst hA hc
       have HRD := Aside0.mk (Kd.R_reads' HO.out.own)
       have HCL := Aside0.mk (fun (j : Nat) y (hj : (txs (x :: r))[j]? = some y) => txt_cell HRD.out.2.2 hj)
       have HJ := Aside0.mk (join_calls bk c3 (x :: r) wr HCL.out hbk (by omega) (by have := HRD.out.2.1; exact this) h6)
       generalize hlx : (x :: r).length = nx at *
       go_wp2_with (go_at_call 17; refine HJ.out.mono ?_; rintro e wa ⟨rfl, hb⟩; have HB9 := Aside0.mk (below_thenT HO.out.bel hb); clear hb)
       go_ret
       exact ⟨by rw [HTE.out]; rfl, HB9.out⟩
 ·rw [if_neg hok]
  rw [show okL L = false by cases h : okL L with | true => exact absurd h hok | false => rfl] at HV
  clear hok hw
  go_enter Tryd.func7, Tryd.ntmps7
  go_wp2_with (first
   | (first | fail | ((with_reducible refine gt_box 1 28 ?_); refine st_box rfl 1 rfl 28 _ rfl hm (v := .agg (vals _ _)) rfl (cs := vals _ _) rfl ?_; clear hm; intro g1 w1 hm) | ((with_reducible refine gt_load 28 ?_); (first | (refine st_load rfl 28 _ rfl hm rfl 0 rfl agg28 (by first | omega | assumption | (simp only [lens]; first | omega | assumption) | (simp [lens]; done) | (simp [lens]; omega)) ?_) | (refine st_load rfl 28 _ rfl hm rfl 1 rfl agg28 (by first | omega | assumption | (simp only [lens]; first | omega | assumption) | (simp [lens]; done) | (simp [lens]; omega)) ?_) | (refine st_load rfl 28 _ rfl hm rfl 2 rfl agg28 (by first | omega | assumption | (simp only [lens]; first | omega | assumption) | (simp [lens]; done) | (simp [lens]; omega)) ?_))) | ((with_reducible refine gt_field 28 0 ?_); refine st_field rfl 28 _ 0 rfl rfl field28_0 ?_) | ((with_reducible refine gt_load 23 ?_); (first | (refine st_part rfl 23 _ rfl hm rfl 0 rfl agg23 (by first | omega | assumption | (simp only [lens]; first | omega | assumption) | (simp [lens]; done) | (simp [lens]; omega)) ?_) | (refine st_part rfl 23 _ rfl hm rfl 1 rfl agg23 (by first | omega | assumption | (simp only [lens]; first | omega | assumption) | (simp [lens]; done) | (simp [lens]; omega)) ?_) | (refine st_part rfl 23 _ rfl hm rfl 2 rfl agg23 (by first | omega | assumption | (simp only [lens]; first | omega | assumption) | (simp [lens]; done) | (simp [lens]; omega)) ?_))) | ((with_reducible refine gt_index 23 ?_); refine st_index rfl 23 _ _ rfl rfl rfl arr23 (by first | omega | assumption | (simp only [lens]; first | omega | assumption) | (simp [lens]; done) | (simp [lens]; omega)) (by first | omega | assumption | (simp only [lens]; first | omega | assumption) | (simp [lens]; done) | (simp [lens]; omega)) (by first | omega | assumption | (simp only [lens]; first | omega | assumption) | (simp [lens]; done) | (simp [lens]; omega)) ?_) | ((with_reducible refine gt_field 28 1 ?_); refine st_field rfl 28 _ 1 rfl rfl field28_1 ?_) | ((with_reducible refine gt_load 24 ?_); (first | (refine st_part rfl 24 _ rfl hm rfl 0 rfl agg24 (by first | omega | assumption | (simp only [lens]; first | omega | assumption) | (simp [lens]; done) | (simp [lens]; omega)) ?_) | (refine st_part rfl 24 _ rfl hm rfl 1 rfl agg24 (by first | omega | assumption | (simp only [lens]; first | omega | assumption) | (simp [lens]; done) | (simp [lens]; omega)) ?_) | (refine st_part rfl 24 _ rfl hm rfl 2 rfl agg24 (by first | omega | assumption | (simp only [lens]; first | omega | assumption) | (simp [lens]; done) | (simp [lens]; omega)) ?_))) | ((with_reducible refine gt_index 24 ?_); refine st_index rfl 24 _ _ rfl rfl rfl arr24 (by first | omega | assumption | (simp only [lens]; first | omega | assumption) | (simp [lens]; done) | (simp [lens]; omega)) (by first | omega | assumption | (simp only [lens]; first | omega | assumption) | (simp [lens]; done) | (simp [lens]; omega)) (by first | omega | assumption | (simp only [lens]; first | omega | assumption) | (simp [lens]; done) | (simp [lens]; omega)) ?_))
   | (go_at_call 15; refine (HV.out _).mono ?_; rintro e wa ⟨rfl, hb⟩; replace hm := hm.after hb; clear hb))
  go_ret
  exact ⟨rfl, hm.done rfl⟩
end Go.Proofs.YtehagnkcfgkomaaDoor.Arr
namespace Go.Proofs.YtehagnkcfgkomaaDoor.Arr
open Go.RowKit Go.Proofs.YtehagnkcfgkomaaDoorW.PrintWords Go.Proofs.YtehagnkcfgkomaaDoorW.PrintLast Go.Proofs.YtehagnkcfgkomaaDoorW.PrintMore Go.Proofs.YtehagnkcfgkomaaDoor.U Go.Proofs.YtehagnkcfgkomaaDoor.I
set_option linter.unusedVariables false
set_option linter.unusedSimpArgs false
theorem bt_app (a b : List UInt8) (c : UInt8) : bt ⟨(a ++ c :: b).toArray⟩ (a.length : Int) = (c.toNat : Int) := by
 unfold bt
 have h : ((a.length : Int)).toNat < (⟨(a ++ c :: b).toArray⟩ : ByteArray).size := by rw [bs_size]; simp
 rw [dif_pos h]
 congr 2
 show (a ++ c :: b).toArray[a.length]'_ = c
 simp
theorem num_l0 (l : List UInt8) (hl : l.length ≤ 9) : ∀ (r a : List UInt8) (n : Int), l = a ++ r → 0 ≤ n → n < 10 ^ a.length → spec_l01Number.l0 (r.length + 1) ⟨l.toArray⟩ n (a.length : Int) = some (numGo n r)
 | [], a, n, e, h0, h1 => by
  rw [List.length_nil, spec_l01Number.l0, bs_size, if_neg (by rw [e]; simp)]
  rfl
 | c :: r, a, n, e, h0, h1 => by
  have hn : l.length = a.length + (r.length + 1) := by rw [e]; simp
  have hb : bt ⟨l.toArray⟩ (a.length : Int) = (c.toNat : Int) := by rw [e]; exact bt_app a r c
  have hc : c.toNat < 256 := c.toNat_lt
  have h9 : (10 : Int) ^ a.length ≤ 10 ^ 8 := by
   have : (10 : Nat) ^ a.length ≤ 10 ^ 8 := Nat.pow_le_pow_right (by omega) (by omega)
   exact_mod_cast this
  rw [List.length_cons, spec_l01Number.l0, bs_size, if_pos (by omega), if_pos (by omega), hb, numGo]
  by_cases h2 : c.toNat < 48
  ·rw [if_pos (by omega), if_pos (by omega)]
  ·by_cases h3 : 57 < c.toNat
   ·rw [if_neg (by omega), if_pos (by omega), if_pos (by omega)]
   ·rw [if_neg (by omega), if_neg (by omega), if_neg (by omega), w64 (x := 10 * n) (by omega) (by omega), show ((c.toNat : Int) - 48) % 256 = ((c.toNat - 48 : Nat) : Int) by omega, w64 (by omega) (by omega),
     w64 (x := (a.length : Int) + 1) (by omega) (by omega)]
    have := num_l0 l hl r (a ++ [c]) (10 * n + ((c.toNat - 48 : Nat) : Int)) (by rw [e]; simp) (by omega) (by
     rw [List.length_append, List.length_singleton, Int.pow_succ]
     omega)
    rw [List.length_append, List.length_singleton] at this
    exact this
theorem num_f (l : List UInt8) : spec_l01Number.f (l.length + 2) ⟨l.toArray⟩ = some (numS l) := by
 unfold spec_l01Number.f numS
 rw [Lib.toList_data]
 cases l with
 | nil => rfl
 | cons c r =>
  have hb : bt ⟨(c :: r).toArray⟩ 0 = (c.toNat : Int) := bt_app [] r c
  have hc : c.toNat < 256 := c.toNat_lt
  rw [if_neg (by simp), bs_size, hb]
  by_cases h1 : 9 < (c :: r).length
  ·rw [if_pos (by omega), if_pos (Or.inr (Or.inl h1))]
   rfl
  ·rw [if_neg (by omega), if_pos (by simp)]
   have hgo := num_l0 (c :: r) (by omega) (c :: r) [] 0 rfl (by omega) (by simp)
   by_cases h2 : c.toNat = 48
   ·have hc48 : c = 48 := by
     apply UInt8.toNat_inj.1
     exact h2
    rw [if_pos (by omega)]
    by_cases h3 : 1 < (c :: r).length
    ·rw [if_pos (Or.inr (Or.inr ⟨by rw [hc48]; rfl, h3⟩)), decide_eq_true (by omega)]
     rfl
    ·rw [if_neg (by simp only [List.cons_ne_nil, false_or]; omega), decide_eq_false (by omega)]
     exact hgo
   ·rw [if_neg (by omega), if_neg (by
     rintro (h | h | ⟨h, _⟩)
     ·cases h
     ·exact h1 h
     ·simp only [List.head?_cons, Option.some.injEq] at h
      rw [h] at h2
      exact h2 rfl)]
    exact hgo
theorem num_calls (l : List UInt8) (w : World) : Calls Tryd.prog 19 #[.string ⟨l.toArray⟩] w fun e w' => e = .returned (.tuple #[.int .i64 (numS l).1, .bool (numS l).2]) ∧ Below w.heap.size w w' :=
 (spec_l01Number.calls _ _ _ _ w (num_f l)).mono fun e w' ⟨h1, h2⟩ => ⟨h1, h2.below⟩
theorem bs_extract (a b c : List UInt8) : (⟨(a ++ (b ++ c)).toArray⟩ : ByteArray).extract ((a.length : Int)).toNat (((a.length + b.length : Nat) : Int)).toNat = ⟨b.toArray⟩ := AnyPlain.small_ba _ b (by
 rw [Lib.extract_data, Int.toNat_natCast, Int.toNat_natCast]
 simp)
theorem split_l0 (c : UInt8) (l : List UInt8) (hl : l.length ≤ 1048576) : ∀ (r b a : List UInt8) (out : List (List UInt8)), l = a ++ (b ++ r) → (∀ x ∈ b, x ≠ c) → out.length ≤ a.length →
  spec_l01Split.l0 (r.length + 1) ⟨l.toArray⟩ (c.toNat : Int) (txs out) (a.length : Int) ((a.length + b.length : Nat) : Int) = some (txs (out ++ sp c (b ++ r)))
 | [], b, a, out, e, hb, ho => by
  have hn : l.length = a.length + b.length := by rw [e]; simp
  rw [List.length_nil, spec_l01Split.l0, bs_size, if_neg (by omega), if_pos (by omega), if_pos (by omega), if_pos (by simp; omega), List.append_nil, sp_no c b hb]
  congr 1
  unfold txs
  rw [List.map_append, List.map_singleton]
  congr 2
  have := bs_extract a b []
  rw [List.append_nil] at this
  rw [e, List.append_nil]
  rw [Int.toNat_natCast] at this ⊢
  rw [List.length_append]
  exact this
 | x :: r, b, a, out, e, hb, ho => by
  have hn : l.length = a.length + b.length + (r.length + 1) := by rw [e]; simp; omega
  have hx : bt ⟨l.toArray⟩ ((a.length + b.length : Nat) : Int) = (x.toNat : Int) := by
   have := bt_app (a ++ b) r x
   rw [List.append_assoc, ← e, List.length_append] at this
   exact this
  rw [List.length_cons, spec_l01Split.l0, bs_size, if_pos (by omega), if_pos (by omega), hx, w64 (by omega) (by omega)]
  by_cases h : x = c
  ·subst h
   rw [if_pos rfl, if_pos (by omega), if_pos (by omega), if_pos (by omega), if_pos (by simp; omega)]
   have h2 := bs_extract a b (x :: r)
   rw [e, h2, show txs out ++ [(⟨b.toArray⟩ : ByteArray)] = txs (out ++ [b]) by simp [txs], sp_cut x r b hb]
   have := split_l0 x l hl r [] (a ++ b ++ [x]) (out ++ [b]) (by rw [e]; simp) (by simp) (by simp; omega)
   simp only [List.length_append, List.length_singleton, List.length_nil, Nat.add_zero, List.nil_append, List.append_assoc, e] at this
   rw [show ((a.length + b.length : Nat) : Int) + 1 = ((a.length + (b.length + 1) : Nat) : Int) by omega]
   exact this
  ·rw [if_neg (fun h2 => h (UInt8.toNat_inj.1 (by omega)))]
   have := split_l0 c l hl r (b ++ [x]) a out (by rw [e]; simp) (by
    intro y hy
    rcases List.mem_append.1 hy with hy | hy
    ·exact hb y hy
    ·simp at hy; rw [hy]; exact h) ho
   simp only [List.length_append, List.length_singleton, List.append_assoc, List.singleton_append] at this
   rw [show ((a.length + b.length : Nat) : Int) + 1 = ((a.length + (b.length + 1) : Nat) : Int) by omega]
   exact this
theorem split_f (c : UInt8) (l : List UInt8) (hl : l.length ≤ 1048576) : spec_l01Split.f (l.length + 1) ⟨l.toArray⟩ (c.toNat : Int) = some (txs (sp c l)) :=
 split_l0 c l hl l [] [] [] rfl (by simp) (Nat.le_refl _)
theorem split_calls (c : UInt8) (l : List UInt8) (hl : l.length ≤ 1048576) (w : World) : Calls Tryd.prog 18 #[.string ⟨l.toArray⟩, .int .u8 (c.toNat : Int)] w
  fun e w' => ∃ v, e = .returned v ∧ Kd.R Kd.string 9 w' w.heap.size (fun _ => True) v (txs (sp c l)) ∧ Below w.heap.size w w' :=
 spec_l01Split.calls _ _ _ _ w (split_f c l hl)
end Go.Proofs.YtehagnkcfgkomaaDoor.Arr
