/- The texts that the statement FnExactReadBook needs, part 1: contracts of the program's functions and plain laws, without what it does not reach. No condition beyond what each theorem says. -/
import Derived.Shelf.Strconv.Itoa4
import Derived.Test.YtdgecgfgekmhcaaDoorProg
import Derived.KernelRfl
import Derived.Below
import Derived.Deep.Draws
import Derived.Deep.AppendLies
import Derived.Maps.AppendAt
import Derived.OwnWalk
import Derived.Laws.BytesArg
import Derived.Laws.MakeOwn
import Derived.Laws.OwnMore
import Derived.Deep.OwnRows
import Derived.Tactics
import Derived.Lib.ConvBytes
import Derived.Laws.Slices
import Derived.WalkKit
import Derived.RowKit3
import Derived.Deep.LoopGhost
import Derived.Deep.QuietTactic
import Derived.BigQuiet
import Derived.WideLaws
import Derived.Deep.DeepCutAuto
import Derived.Deep.CutBlock
import Derived.Deep.RegionHeld3
import Derived.Laws.Rows
import Derived.Lib.AppendStr
import Derived.ArgAppend
import Derived.Laws.IdiomCopy
import Derived.RowKit
import Derived.OrdersHeld
import Derived.Laws.BitsLemmas
import Derived.Laws.StructEq
import Derived.Laws.Tables
import Derived.BigFrame
import Derived.Laws.CopyRow
import Derived.Laws.ResultCell
import Derived.WalkSpells
import Derived.Lib.SplitLaws
import Derived.Lib.Join
import Derived.Lib.ParseIntB
import Derived.Lib.CountLaws
import Derived.Shelf.Strings.SplitShaped
import Derived.Shelf.Strings.Shaped
import Derived.Shelf.Small.Wraps
import Derived.Shelf.Strconv.ErrVarParseInt
import Derived.Lib.SmallJoins
import Derived.Lib.AppendIntMem
import Derived.Lib.ParseIntBTie
import Derived.StillTailTactics
import Derived.Laws.CopyOwn
import Derived.ProofKit
import Derived.OpenShut
import Derived.Deep.Slices
import Derived.Test.YtdgecgfgekmhcaaDoorRows
import Derived.ShutString
import Derived.ChangeOld
import Derived.SizedLaws
import Derived.HandedShaped
import Derived.LaidMore
import Derived.Lay
import Derived.Stop.Joined
import Derived.Stop.LaidErr
import Derived.Lib.LaidTab
import Derived.Test.YtdgecgfgekmhcaaDoorCards
import Derived.Test.YtdgecgfgekmhcaaDoorTie
import Derived.SevenTiedAt
import Derived.Test.YtdgecgfgekmhcaaDoorZFnExactReadBook0
namespace Go.Proofs.YtdgecgfgekmhcaaDoor.Arr
open Go.Shelf Go.Proofs
set_option maxRecDepth 100000
def ren173 : Ren :=
 {
  f := fun x =>
   match x with
   | 173 => 54
   | 246 => 68
   | 283 => 87
   | 284 => 88
   | 285 => 89
   | 286 => 90
   | 129 => 113
   | 317 => 112
   | 318 => 114
   | 319 => 115
   | 320 => 116
   | 337 => 135
   | 338 => 136
   | n => n,
  t := fun x =>
   match x with
   | 2 => 2
   | 3 => 3
   | 9 => 9
   | 4 => 4
   | 171 => 114
   | 0 => 0
   | 53 => 115
   | 37 => 96
   | 5 => 5
   | 173 => 118
   | 212 => 142
   | 51 => 143
   | 20 => 20
   | 213 => 144
   | 46 => 136
   | 232 => 176
   | 233 => 177
   | n => n,
  g := fun x =>
   match x with
   | 17 => 0
   | 18 => 6
   | 19 => 7
   | n => n }
theorem lay173 : Lays.n173 Go.Proofs.Tryd.prog ren173 where
 mixed := by kernel_rfl
 f129 := Eq.trans Go.Proofs.Tryd.func113 (congrArg some (by kernel_rfl))
 f173 := Eq.trans Go.Proofs.Tryd.func54 (congrArg some (by kernel_rfl))
 f246 := Eq.trans Go.Proofs.Tryd.func68 (congrArg some (by kernel_rfl))
 f283 := Eq.trans Go.Proofs.Tryd.func87 (congrArg some (by kernel_rfl))
 f284 := Eq.trans Go.Proofs.Tryd.func88 (congrArg some (by kernel_rfl))
 f285 := Eq.trans Go.Proofs.Tryd.func89 (congrArg some (by kernel_rfl))
 f286 := Eq.trans Go.Proofs.Tryd.func90 (congrArg some (by kernel_rfl))
 f317 := Eq.trans Go.Proofs.Tryd.func112 (congrArg some (by kernel_rfl))
 f318 := Eq.trans Go.Proofs.Tryd.func114 (congrArg some (by kernel_rfl))
 f319 := Eq.trans Go.Proofs.Tryd.func115 (congrArg some (by kernel_rfl))
 f320 := Eq.trans Go.Proofs.Tryd.func116 (congrArg some (by kernel_rfl))
 f337 := Eq.trans Go.Proofs.Tryd.func135 (congrArg some (by kernel_rfl))
 f338 := Eq.trans Go.Proofs.Tryd.func136 (congrArg some (by kernel_rfl))
 t0 := Go.Proofs.Tryd.underlying0
 a0 := Go.Proofs.Tryd.isAgg0
 z0 := Go.Proofs.Tryd.sizeOf0
 v0 := Go.Proofs.Tryd.zeroValue0
 t2 := Go.Proofs.Tryd.underlying2
 a2 := Go.Proofs.Tryd.isAgg2
 z2 := Go.Proofs.Tryd.sizeOf2
 v2 := Go.Proofs.Tryd.zeroValue2
 t3 := Go.Proofs.Tryd.underlying3
 a3 := Go.Proofs.Tryd.isAgg3
 z3 := Go.Proofs.Tryd.sizeOf3
 v3 := Go.Proofs.Tryd.zeroValue3
 t4 := Go.Proofs.Tryd.underlying4
 a4 := Go.Proofs.Tryd.isAgg4
 z4 := Go.Proofs.Tryd.sizeOf4
 v4 := Go.Proofs.Tryd.zeroValue4
 t5 := Go.Proofs.Tryd.underlying5
 a5 := Go.Proofs.Tryd.isAgg5
 z5 := Go.Proofs.Tryd.sizeOf5
 v5 := Go.Proofs.Tryd.zeroValue5
 t9 := Go.Proofs.Tryd.underlying9
 a9 := Go.Proofs.Tryd.isAgg9
 z9 := Go.Proofs.Tryd.sizeOf9
 v9 := Go.Proofs.Tryd.zeroValue9
 t20 := Go.Proofs.Tryd.underlying20
 a20 := Go.Proofs.Tryd.isAgg20
 z20 := Go.Proofs.Tryd.sizeOf20
 v20 := Go.Proofs.Tryd.zeroValue20
 t37 := Go.Proofs.Tryd.underlying96
 a37 := Go.Proofs.Tryd.isAgg96
 z37 := Go.Proofs.Tryd.sizeOf96
 v37 := Go.Proofs.Tryd.zeroValue96
 t46 := Go.Proofs.Tryd.underlying136
 a46 := Go.Proofs.Tryd.isAgg136
 z46 := Go.Proofs.Tryd.sizeOf136
 v46 := Go.Proofs.Tryd.zeroValue136
 t51 := Go.Proofs.Tryd.underlying143
 a51 := Go.Proofs.Tryd.isAgg143
 z51 := Go.Proofs.Tryd.sizeOf143
 v51 := Go.Proofs.Tryd.zeroValue143
 t53 := Go.Proofs.Tryd.underlying115
 a53 := Go.Proofs.Tryd.isAgg115
 z53 := Go.Proofs.Tryd.sizeOf115
 v53 := Go.Proofs.Tryd.zeroValue115
 t171 := Go.Proofs.Tryd.underlying114
 a171 := Go.Proofs.Tryd.isAgg114
 z171 := Go.Proofs.Tryd.sizeOf114
 v171 := Go.Proofs.Tryd.zeroValue114
 t173 := Go.Proofs.Tryd.underlying118
 a173 := Go.Proofs.Tryd.isAgg118
 z173 := Go.Proofs.Tryd.sizeOf118
 v173 := Go.Proofs.Tryd.zeroValue118
 t212 := Go.Proofs.Tryd.underlying142
 a212 := Go.Proofs.Tryd.isAgg142
 z212 := Go.Proofs.Tryd.sizeOf142
 v212 := Go.Proofs.Tryd.zeroValue142
 t213 := Go.Proofs.Tryd.underlying144
 a213 := Go.Proofs.Tryd.isAgg144
 z213 := Go.Proofs.Tryd.sizeOf144
 t232 := Go.Proofs.Tryd.underlying176
 a232 := Go.Proofs.Tryd.isAgg176
 z232 := Go.Proofs.Tryd.sizeOf176
 v232 := Go.Proofs.Tryd.zeroValue176
 t233 := Go.Proofs.Tryd.underlying177
 a233 := Go.Proofs.Tryd.isAgg177
 z233 := Go.Proofs.Tryd.sizeOf177
 v233 := Go.Proofs.Tryd.zeroValue177
 g17 := by kernel_rfl
 g18 := by kernel_rfl
 g19 := by kernel_rfl
end Go.Proofs.YtdgecgfgekmhcaaDoor.Arr
namespace Go.Proofs.YtdgecgfgekmhcaaDoor.U
open Go.RowKit Go.Proofs.YtdgecgfgekmhcaaDoorW.PrintWords
set_option linter.unusedVariables false
set_option linter.unusedSimpArgs false
theorem pos {α : Type} {c : Prop} [Decidable c] {g f : Nat → Option α} {r : α} (h : c) (k : Ev g r) : Ev (fun n => if c then g n else f n) r :=
 Ev.congr (fun n => if_pos h) k
theorem neg {α : Type} {c : Prop} [Decidable c] {g f : Nat → Option α} {r : α} (h : ¬ c) (k : Ev f r) : Ev (fun n => if c then g n else f n) r :=
 Ev.congr (fun n => if_neg h) k
theorem bindc {α β : Type} {g : Option α} {f : Nat → α → Option β} {a : α} {r : β} (h : g = some a) (k : Ev (fun n => f n a) r) : Ev (fun n => g.bind (f n)) r :=
 Ev.congr (fun n => by rw [h]; rfl) k
theorem cons {α : Type} {r : α} {a : α} (h : a = r) : Ev (fun _ => some a) r := h ▸ Ev.now a
theorem w64 {x : Int} (h0 : -9223372036854775808 ≤ x) (h1 : x ≤ 9223372036854775807) : wrap64 x = x := by
 unfold wrap64; omega
theorem rd_get (xs : List Int) (i : Nat) (h : i < xs.length) : rd xs (i : Int) = xs[i] := by
 unfold rd
 simp [List.getD_eq_getElem?_getD, List.getElem?_eq_getElem h]
theorem iter {σ α : Type} (F : Nat → σ → Option α) (Inv : Nat → σ → Prop) (r : α) (n : Nat)
  (hstep : ∀ i s, i < n → Inv i s → (∃ s', Inv (i + 1) s' ∧ (Ev (fun k => F k s') r → Ev (fun k => F k s) r)) ∨ Ev (fun k => F k s) r)
  (hend : ∀ s, Inv n s → Ev (fun k => F k s) r) : ∀ i s, i ≤ n → Inv i s → Ev (fun k => F k s) r := by
 intro i
 generalize hd : n - i = d
 induction d generalizing i with
 | zero =>
  intro s hi h
  have e : i = n := by omega
  subst e
  exact hend s h
 | succ d ih =>
  intro s hi h
  rcases hstep i s (by omega) h with ⟨s', hs, hk⟩ | he
  ·exact hk (ih (i + 1) (by omega) s' (by omega) hs)
  ·exact he
theorem toList {l l' : List Int} {n : Nat} (h1 : l.length = n) (h2 : l'.length = n) (h : ∀ j, j < n → l[j]? = l'[j]?) : l = l' := by
 apply List.ext_getElem?
 intro j
 rcases Nat.lt_or_ge j n with hj | hj
 ·exact h j hj
 ·rw [List.getElem?_eq_none (by omega), List.getElem?_eq_none (by omega)]
theorem rd_opt {l l' : List Int} {j : Nat} (h : j < l.length) (h' : j < l'.length) (e : rd l (j : Int) = rd l' (j : Int)) : l[j]? = l'[j]? := by
 rw [rd_get l j h, rd_get l' j h'] at e
 rw [List.getElem?_eq_getElem h, List.getElem?_eq_getElem h', e]
def Bytes (l : List Int) : Prop := ∀ x ∈ l, 0 ≤ x ∧ x ≤ 255
def WfI (k : IntKind) (n : Int) : Prop := (Lit.int k n).wf = true
def WfL {α : Type} (wf : α → Prop) (l : List α) : Prop := l.length ≤ maxLen ∧ ∀ a ∈ l, wf a
end Go.Proofs.YtdgecgfgekmhcaaDoor.U
namespace Go.Proofs.YtdgecgfgekmhcaaDoor.Arr
open Go.RowKit Go.Proofs.YtdgecgfgekmhcaaDoorW.PrintWords Go.Proofs.YtdgecgfgekmhcaaDoor.U
set_option linter.unusedVariables false
set_option linter.unusedSimpArgs false
def zs (n : Nat) : List Int := List.replicate n 0
theorem zs_length {n : Nat} : (zs n).length = n := by simp [zs]
def vals (k : IntKind) (L : List Int) : Array Value := (L.map (Value.int k)).toArray
section
variable {k : IntKind} {L : List Int}
theorem vals_size : (vals k L).size = L.length := by simp [vals]
theorem vals_get {i : Nat} (h : i < L.length) : (vals k L)[i]? = some (.int k (rd L (i : Int))) := by
 rw [rd_get L i h]; simp [vals, List.getElem?_eq_getElem h]
theorem vals_set {i : Nat} {n : Int} : (vals k L).setIfInBounds i (.int k n) = vals k (L.set i n) := by
 simp [vals, List.map_set]
theorem vals_one : (vals k L).all (·.oneCell') = true := by
 simp [vals, Value.oneCell']
end
structure Ent where
 g : Nat
 cs : Array Value
 t : TypeId
 own : Bool
structure Mem (w0 w : World) (M : List Ent) : Prop where
 os : w.os = w0.os
 tape : w.tape = w0.tape
 output : w.output = w0.output
 size : w0.heap.size ≤ w.heap.size
 block : ∀ k, k < w0.heap.size → (∀ e ∈ M, e.g ≠ k) → w.heap[k]? = w0.heap[k]?
 ent : ∀ e ∈ M, w.heap[e.g]? = some (.cells e.cs e.t (0, 0)) ∧ (e.own = true → w0.heap.size ≤ e.g)
 apart : ∀ (m n : Nat) (e f : Ent), M[m]? = some e → M[n]? = some f → e.g = f.g → m = n
theorem lt_of_some {w : World} {g : Nat} {o : Obj} (h : w.heap[g]? = some o) : g < w.heap.size := (Array.getElem?_eq_some_iff.1 h).1
namespace Mem
variable {w0 w w' : World} {M : List Ent} {n g : Nat} {cs cs' : Array Value} {t : TypeId} {o : Bool}
theorem start (w : World) : Mem w w [] := ⟨rfl, rfl, rfl, Nat.le_refl _, fun _ _ _ => rfl, fun _ h => absurd h (by simp), fun m n e f h => by simp at h⟩
theorem given {w : World} (h : w.heap[g]? = some (.cells cs t (0, 0))) : Mem w w [⟨g, cs, t, false⟩] :=
 ⟨rfl, rfl, rfl, Nat.le_refl _, fun _ _ _ => rfl, fun e he => by
  rw [List.mem_singleton] at he; subst he; exact ⟨h, fun h => by cases h⟩, fun m n e f h1 h2 _ => by
  have h3 := (List.getElem?_eq_some_iff.1 h1).1
  have h4 := (List.getElem?_eq_some_iff.1 h2).1
  simp at h3 h4; omega⟩
theorem given2 {w : World} {g2 : Nat} {cs2 : Array Value} {t2 : TypeId} (h : w.heap[g]? = some (.cells cs t (0, 0))) (h2 : w.heap[g2]? = some (.cells cs2 t2 (0, 0))) (hne : g ≠ g2) : Mem w w [⟨g, cs, t, false⟩, ⟨g2, cs2, t2, false⟩] :=
 ⟨rfl, rfl, rfl, Nat.le_refl _, fun _ _ _ => rfl, fun e he => by
  simp only [List.mem_cons, List.not_mem_nil, or_false] at he
  rcases he with rfl | rfl
  ·exact ⟨h, fun h => by cases h⟩
  ·exact ⟨h2, fun h => by cases h⟩, fun m n e f h1 h2 he => by
  rcases m with _ | _ | m <;> rcases n with _ | _ | n <;> simp at h1 h2 <;> first | rfl | (subst h1; subst h2; simp at he; omega)⟩
theorem mem (h : Mem w0 w M) (hn : M[n]? = some ⟨g, cs, t, o⟩) : w.heap[g]? = some (.cells cs t (0, 0)) :=
 (h.ent _ (List.mem_of_getElem? hn)).1
theorem cell (h : Mem w0 w M) (hn : M[n]? = some ⟨g, cs, t, o⟩) (i : Nat) : w.cell? ⟨g, i, none⟩ = cs[i]? :=
 cell_of_row w g i cs t (0, 0) (h.mem hn)
theorem frozen (h : Mem w0 w M) (hn : M[n]? = some ⟨g, cs, t, o⟩) (i : Nat) : w.frozen? ⟨g, i, none⟩ = false :=
 frozen_of_row w g i cs t (h.mem hn)
theorem done (h : Mem w0 w M) (ho : M.all (·.own) = true) : Below w0.heap.size w0 w :=
 ⟨h.os, h.tape, h.output, h.size, fun k hk => h.block k hk fun e he => by
  have := (h.ent e he).2 (List.all_eq_true.1 ho e he)
  omega⟩
theorem new (h : Mem w0 w M) (cs : Array Value) (t : TypeId) : Mem w0 (w.alloc (.cells cs t)) (⟨w.heap.size, cs, t, true⟩ :: M) := by
 have hlt : ∀ e ∈ M, e.g < w.heap.size := fun e he => lt_of_some (h.ent e he).1
 refine ⟨h.os, h.tape, h.output, ?_, fun k hk hne => ?_, fun e he => ?_, fun m n e f hm hn hef => ?_⟩
 ·have := h.size; simp; omega
 ·have := h.size
  rw [Below.heap_alloc w _ k (by omega)]
  exact h.block k hk fun e he => hne e (List.mem_cons_of_mem _ he)
 ·rcases List.mem_cons.1 he with rfl | he
  ·exact ⟨Go.heap_alloc_new w _, fun _ => h.size⟩
  ·rw [Below.heap_alloc w _ _ (hlt e he)]; exact h.ent e he
 ·rcases m with _ | m <;> rcases n with _ | n
  ·rfl
  ·simp only [List.getElem?_cons_zero, Option.some.injEq, List.getElem?_cons_succ] at hm hn
   have := hlt f (List.mem_of_getElem? hn); subst hm; simp at hef; omega
  ·simp only [List.getElem?_cons_zero, Option.some.injEq, List.getElem?_cons_succ] at hm hn
   have := hlt e (List.mem_of_getElem? hm); subst hn; simp at hef; omega
  ·simp only [List.getElem?_cons_succ] at hm hn
   rw [h.apart m n e f hm hn hef]
theorem upd (h : Mem w0 w M) (hn : M[n]? = some ⟨g, cs, t, o⟩) (hos : w'.os = w.os) (htape : w'.tape = w.tape) (hout : w'.output = w.output) (hsize : w.heap.size ≤ w'.heap.size)
  (hg : w'.heap[g]? = some (.cells cs' t (0, 0))) (hk : ∀ k, k < w.heap.size → k ≠ g → w'.heap[k]? = w.heap[k]?) : Mem w0 w' (M.set n ⟨g, cs', t, o⟩) := by
 have hnl := (List.getElem?_eq_some_iff.1 hn).1
 have hself : (M.set n ⟨g, cs', t, o⟩)[n]? = some ⟨g, cs', t, o⟩ := List.getElem?_set_self hnl
 have key : ∀ (m : Nat) (e : Ent), (M.set n ⟨g, cs', t, o⟩)[m]? = some e → (m = n ∧ e = ⟨g, cs', t, o⟩) ∨ (m ≠ n ∧ M[m]? = some e) := by
  intro m e hm
  by_cases hmn : m = n
  ·subst hmn; rw [hself] at hm; exact Or.inl ⟨rfl, (Option.some.inj hm).symm⟩
  ·rw [List.getElem?_set_ne (Ne.symm hmn)] at hm; exact Or.inr ⟨hmn, hm⟩
 have gof : ∀ (m : Nat) (e : Ent), (M.set n ⟨g, cs', t, o⟩)[m]? = some e → ∃ e', M[m]? = some e' ∧ e'.g = e.g := by
  intro m e hm
  rcases key m e hm with ⟨rfl, rfl⟩ | ⟨_, hm⟩
  ·exact ⟨_, hn, rfl⟩
  ·exact ⟨_, hm, rfl⟩
 refine ⟨hos.trans h.os, htape.trans h.tape, hout.trans h.output, Nat.le_trans h.size hsize, fun k hk' hne => ?_, fun e he => ?_, fun m m' e f hm hm' hef => ?_⟩
 ·have hgk : g ≠ k := by
   have := hne _ (List.mem_of_getElem? hself); exact this
  have := h.size
  rw [hk k (by omega) (Ne.symm hgk)]
  refine h.block k hk' fun e he => ?_
  obtain ⟨m, hm⟩ := List.getElem?_of_mem he
  by_cases hmn : m = n
  ·subst hmn; rw [hn] at hm; rw [← Option.some.inj hm]; exact hgk
  ·exact hne e (List.mem_of_getElem? (by rw [List.getElem?_set_ne (Ne.symm hmn)]; exact hm))
 ·obtain ⟨m, hm⟩ := List.getElem?_of_mem he
  rcases key m e hm with ⟨rfl, rfl⟩ | ⟨hmn, hm⟩
  ·exact ⟨hg, (h.ent _ (List.mem_of_getElem? hn)).2⟩
  ·have he' := h.ent e (List.mem_of_getElem? hm)
   have hne : e.g ≠ g := fun e' => hmn (h.apart m n e _ hm hn e')
   rw [hk _ (lt_of_some he'.1) hne]
   exact he'
 ·obtain ⟨e', he', hge⟩ := gof m e hm
  obtain ⟨f', hf', hgf⟩ := gof m' f hm'
  exact h.apart m m' e' f' he' hf' (by rw [hge, hgf, hef])
theorem row (h : Mem w0 w M) (hn : M[n]? = some ⟨g, cs, t, o⟩) (cs' : Array Value) : Mem w0 (w.setRow g cs') (M.set n ⟨g, cs', t, o⟩) :=
 h.upd hn rfl rfl rfl (by simp) (setRow_heap w g cs cs' t (0, 0) (h.mem hn)) (fun k _ hk => setRow_other w g k cs' hk)
theorem set (h : Mem w0 w M) (hn : M[n]? = some ⟨g, cs, t, o⟩) (i : Nat) (v : Value) : Mem w0 (w.setCell ⟨g, i, none⟩ v) (M.set n ⟨g, cs.setIfInBounds i v, t, o⟩) := by
 rw [setCell_eq_setRow w g i cs t (0, 0) v (h.mem hn)]
 exact h.row hn _
theorem after (h : Mem w0 w M) (hb : Below w.heap.size w w') : Mem w0 w' M := by
 have hlt : ∀ e ∈ M, e.g < w.heap.size := fun e he => lt_of_some (h.ent e he).1
 have := h.size
 exact ⟨hb.os.trans h.os, hb.tape.trans h.tape, hb.output.trans h.output, Nat.le_trans h.size hb.size,
  fun k hk hne => (hb.block k (by omega)).trans (h.block k hk hne),
  fun e he => by rw [hb.block _ (hlt e he)]; exact h.ent e he, h.apart⟩
theorem drawn (h : Mem w0 w M) (n : Nat) : Mem w0 { w with drawn := n } M :=
 ⟨h.os, h.tape, h.output, h.size, h.block, h.ent, h.apart⟩
theorem get {k : IntKind} {L : List Int} (h : Mem w0 w M) (hn : M[n]? = some ⟨g, vals k L, t, o⟩) (i : Nat) (hi : i < L.length) : w.cell? ⟨g, i, none⟩ = some (.int k (rd L (i : Int))) :=
 (h.cell hn i).trans (vals_get hi)
end Mem
structure Fr1 (g : Nat) (cs : Array Value) (t : TypeId) (w w' : World) : Prop where
 os : w'.os = w.os
 tape : w'.tape = w.tape
 output : w'.output = w.output
 size : w.heap.size ≤ w'.heap.size
 now : w'.heap[g]? = some (.cells cs t (0, 0))
 other : ∀ k, k < w.heap.size → k ≠ g → w'.heap[k]? = w.heap[k]?
theorem Mem.gives {w0 w : World} {M : List Ent} {g : Nat} {cs : Array Value} {t : TypeId} (h : Mem w0 w (M ++ [⟨g, cs, t, false⟩])) (ho : M.all (·.own) = true) : Fr1 g cs t w0 w :=
 ⟨h.os, h.tape, h.output, h.size, (h.ent ⟨g, cs, t, false⟩ (by simp)).1, fun k hk hne => h.block k hk fun e he => by
  rcases List.mem_append.1 he with he | he
  ·have := (h.ent e (List.mem_append_left _ he)).2 (List.all_eq_true.1 ho e he); omega
  ·rw [List.mem_singleton] at he; subst he; exact Ne.symm hne⟩
def AggTy (P : Program) (t : TypeId) (m : Nat) : Prop := (P.underlying t).map (fun d => match d with | .struct _ | .array _ _ => true | _ => false) = some true ∧ (P.info? t).map (·.size) = some m
def OneTy (P : Program) (t : TypeId) : Prop := (P.underlying t).map (fun d => match d with | .struct _ | .array _ _ => true | _ => false) = some false ∧ (P.info? t).map (·.size) = some 1
def ArrTy (P : Program) (t : TypeId) (m : Nat) : Prop := ∃ e, P.underlying t = some (.array m e) ∧ OneTy P e
def ZeroTy (P : Program) (t : TypeId) (cs : Array Value) : Prop := ∃ z, (P.info? t).map (·.zero) = some (some z) ∧ z.cells = cs
def FieldTy (P : Program) (t : TypeId) (f off : Nat) : Prop :=
 (match P.underlying t with | some (.struct fs) => (fs[f]?).bind fun fd => (P.info? fd.type).bind fun inf => if inf.size = 0 then none else some fd.offset | _ => none) = some off
section
variable {P : Program} {ops : Array Oper} {rest : List Oper} {o : Oper} {a : Act} {w0 w : World} {M : List Ent} {Q : Exit → Act → World → Prop}
theorem run_alloc {ty : TypeId} {z old : Value} (hz : (P.info? ty).map (·.zero) = some (some z)) (w : World) : (Instr.alloc ty true old).run P w = .ok (.pointer (some ⟨w.heap.size, 0, none⟩)) (w.alloc (.cells z.cells ty)) := by
 cases hq : P.info? ty with
 | none => simp [hq] at hz
 | some i =>
  have hz' : i.zero = some z := by simpa [hq] using hz
  simp [Instr.alloc, zeroValue, typeInfo, hq, hz', newVar, newRow, Sem.run_bind]
theorem run_box {ty : TypeId} {v : Value} (w : World) : (Instr.box ty v).run P w = .ok (.pointer (some ⟨w.heap.size, 0, none⟩)) (w.alloc (.cells v.cells ty)) := by
 simp [Instr.box, newVar, newRow, Sem.run_bind]
theorem st_alloc (hgd : o.guard = none) (d : Nat) (hdst : o.dst = some d) (ty : TypeId) (ho : o.op = .alloc ty) (hm : Mem w0 w M) {cs : Array Value} (hzt : ZeroTy P ty cs)
  (h : ∀ g w1, Mem w0 w1 (⟨g, cs, ty, true⟩ :: M) → wpList P ops Q rest (a.put (some d) (.pointer (some ⟨g, 0, none⟩))) w1) : wpList P ops Q (o :: rest) a w := by
 obtain ⟨z, hz, rfl⟩ := hzt
 refine wpList_plain hgd fun K hK => ?_
 rw [← hdst] at h
 unfold Oper.wp execOp
 simp only [ho, Sem.run_bind, run_alloc hz, Sem.run_pure, Result.andThen_ok]
 exact hK _ _ (h _ _ (hm.new _ _))
theorem st_box (hgd : o.guard = none) (d : Nat) (hdst : o.dst = some d) (ty : TypeId) (x : Operand) (ho : o.op = .box ty x) (hm : Mem w0 w M) {v : Value} (hv : a.eval x = v) {cs : Array Value} (hcs : v.cells = cs)
  (h : ∀ g w1, Mem w0 w1 (⟨g, cs, ty, true⟩ :: M) → wpList P ops Q rest (a.put (some d) (.pointer (some ⟨g, 0, none⟩))) w1) : wpList P ops Q (o :: rest) a w := by
 refine wpList_plain hgd fun K hK => ?_
 rw [← hdst] at h
 unfold Oper.wp execOp
 subst hcs
 simp only [ho, Sem.run_bind, run_box, hv, Sem.run_pure, Result.andThen_ok]
 exact hK _ _ (h _ _ (hm.new _ _))
theorem st_zero (hgd : o.guard = none) (t : TypeId) (ho : o.op = .build t #[]) {cs : Array Value} (hz : P.built t [] = some cs)
  (h : wpList P ops Q rest (a.put o.dst (.agg cs)) w) : wpList P ops Q (o :: rest) a w := by
 refine wpList_build hgd t #[] ho ?_ ?_
 ·simp [hz]
 ·simp [hz]; exact h
theorem st_full (hgd : o.guard = none) (ty : TypeId) (x y : Operand) (ho : o.op = .store ty x y) (hm : Mem w0 w M) {g m : Nat} {k k' : IntKind} {S : List Int} (hx : a.eval x = .pointer (some ⟨g, 0, none⟩)) (hy : a.eval y = .agg (vals k S))
  (n : Nat) {L : List Int} {t : TypeId} {own : Bool} (hn : M[n]? = some ⟨g, vals k' L, t, own⟩) (hi : AggTy P ty m) (hs : S.length = m) (hl : L.length = m)
  (h : ∀ w1, Mem w0 w1 (M.set n ⟨g, vals k S, t, own⟩) → wpList P ops Q rest (a.put o.dst undef) w1) : wpList P ops Q (o :: rest) a w :=
 wpList_store_row hgd ty x y ho g (vals k S) hx hy t _ (hm.mem hn) (by rw [vals_size, hs]; exact hi.2) (by rw [vals_size, vals_size, hs, hl]) vals_one (h _ (hm.row hn _))
theorem st_store (hgd : o.guard = none) (ty : TypeId) (x y : Operand) (ho : o.op = .store ty x y) (hm : Mem w0 w M) {g : Nat} {cs : Array Value} (hx : a.eval x = .pointer (some ⟨g, 0, none⟩)) (hy : a.eval y = .agg cs)
  (n : Nat) {old : Array Value} {t : TypeId} {own : Bool} (hn : M[n]? = some ⟨g, old, t, own⟩) (hi : (P.info? ty).map (·.size) = some cs.size) (hold : old.size = cs.size) (h1 : cs.all (·.oneCell') = true)
  (h : ∀ w1, Mem w0 w1 (M.set n ⟨g, cs, t, own⟩) → wpList P ops Q rest (a.put o.dst undef) w1) : wpList P ops Q (o :: rest) a w :=
 wpList_store_row hgd ty x y ho g cs hx hy t old (hm.mem hn) hi hold h1 (h _ (hm.row hn _))
theorem st_load (hgd : o.guard = none) (ty : TypeId) (x : Operand) (ho : o.op = .load ty x) (hm : Mem w0 w M) {g : Nat} (hx : a.eval x = .pointer (some ⟨g, 0, none⟩))
  (n : Nat) {k : IntKind} {L : List Int} {m : Nat} {t : TypeId} {own : Bool} (hn : M[n]? = some ⟨g, vals k L, t, own⟩) (hi2 : AggTy P ty m) (hl : L.length = m)
  (h : wpList P ops Q rest (a.put o.dst (.agg (vals k L))) w) : wpList P ops Q (o :: rest) a w := by
 obtain ⟨hd, hi0⟩ := hi2
 have hi : (P.info? ty).map (·.size) = some (vals k L).size := by rw [vals_size, hl]; exact hi0
 cases hu : P.underlying ty with
 | none => simp [hu] at hd
 | some d =>
  refine wpList_load_row hgd ty x ho g hx t (vals k L) (0, 0) d (hm.mem hn) hu ?_ hi h
  cases d <;> simp_all
theorem run_store1 {ty : TypeId} {w : World} {a : Addr} {v : Value} (hi : (P.info? ty).map (·.size) = some 1) (hv : v.cells = #[v]) {old : Value} (hc : w.cell? a = some old) (hf : w.frozen? a = false) (h1 : v.oneCell' = true) : (storeVar ty a v).run P w = .ok () (w.setCell a v) := by
 cases hq : P.info? ty with
 | none => simp [hq] at hi
 | some i =>
  have hs : i.size = 1 := by simpa [hq] using hi
  have ha : a.add 0 = a := rfl
  simp [storeVar, sizeOf, typeInfo, hq, hs, hv, storeCells, Sem.run_bind, ha, run_store P w a v .plain h1, hc, hf]
theorem st_set (hgd : o.guard = none) (ty : TypeId) (x y : Operand) (ho : o.op = .store ty x y) (hm : Mem w0 w M) {g i : Nat} {k : IntKind} {u : Int} (hx : a.eval x = .pointer (some ⟨g, i, none⟩)) (hy : a.eval y = .int k u)
  (n : Nat) {L : List Int} {t : TypeId} {own : Bool} (hn : M[n]? = some ⟨g, vals k L, t, own⟩) (hi2 : OneTy P ty) (hl : i < L.length)
  (h : ∀ w1, Mem w0 w1 (M.set n ⟨g, vals k (L.set i u), t, own⟩) → wpList P ops Q rest (a.put o.dst undef) w1) : wpList P ops Q (o :: rest) a w := by
 refine wpList_plain hgd fun K hK => ?_
 unfold Oper.wp execOp
 have hst : (storeVar ty ⟨g, i, none⟩ (.int k u)).run P w = .ok () (w.setCell ⟨g, i, none⟩ (.int k u)) := run_store1 hi2.2 rfl ((hm.cell hn i).trans (vals_get hl)) (hm.frozen hn i) rfl
 simp only [ho, hx, hy, Instr.storeAt, Instr.sureAddr, Sem.run_bind, Sem.run_pure, Result.andThen_ok, hst]
 refine hK _ _ (h _ ?_)
 rw [← vals_set]
 exact hm.set hn i _
theorem st_get (hgd : o.guard = none) (ty : TypeId) (x : Operand) (ho : o.op = .load ty x) (hm : Mem w0 w M) {g i : Nat} {k : IntKind} (hx : a.eval x = .pointer (some ⟨g, i, none⟩))
  (n : Nat) {L : List Int} {t : TypeId} {own : Bool} (hn : M[n]? = some ⟨g, vals k L, t, own⟩) (hi2 : OneTy P ty) (hl : i < L.length)
  (h : wpList P ops Q rest (a.put o.dst (.int k (rd L (i : Int)))) w) : wpList P ops Q (o :: rest) a w := by
 have hd := hi2.1
 refine wpList_plain hgd fun K hK => ?_
 unfold Oper.wp execOp
 have hagg : (isAgg ty).run P w = .ok false w := by
  unfold isAgg
  cases hu : P.underlying ty with
  | none => simp [hu] at hd
  | some d =>
   rw [Sem.run_bind, run_underlying hu w]
   cases d <;> simp_all
 simp only [ho, hx, Instr.loadAt, Instr.sureAddr, Sem.run_bind, Sem.run_pure, Result.andThen_ok, loadVar, hagg]
 simp [run_load, (hm.cell hn i).trans (vals_get hl)]
 exact hK _ _ h
theorem st_field (hgd : o.guard = none) (ty : TypeId) (x : Operand) (f : Nat) (ho : o.op = .fieldAddr ty x f) {g i off : Nat} (hx : a.eval x = .pointer (some ⟨g, i, none⟩))
  (hf0 : FieldTy P ty f off)
  (h : wpList P ops Q rest (a.put o.dst (.pointer (some ⟨g, i + off, none⟩))) w) : wpList P ops Q (o :: rest) a w := by
 refine wpList_plain hgd fun K hK => ?_
 unfold Oper.wp execOp
 have hf := hf0
 unfold FieldTy at hf
 split at hf
 ·rename_i fs hu
  obtain ⟨fd, hfd, hf⟩ := Option.bind_eq_some_iff.1 hf
  obtain ⟨inf, hinf, hf⟩ := Option.bind_eq_some_iff.1 hf
  split at hf
  ·cases hf
  ·rename_i hne
   injection hf with hf
   subst hf
   have hadd : (⟨g, i, none⟩ : Addr).add fd.offset = ⟨g, i + fd.offset, none⟩ := by unfold Addr.add; split <;> simp_all
   simp [ho, hx, Instr.fieldAt, Sem.run_bind, run_underlying hu w, hfd, Instr.sureAddr, fieldPlace, sizeOf, typeInfo, hinf, hne, hadd]
   exact hK _ _ h
 ·cases hf
theorem st_elem (hgd : o.guard = none) (ty : TypeId) (x y : Operand) (ho : o.op = .indexAddr ty x y) {g off : Nat} {ki : IntKind} {i : Int} {m : Nat} (hx : a.eval x = .pointer (some ⟨g, off, none⟩)) (hy : a.eval y = .int ki i)
  (hat : ArrTy P ty m) (h0 : 0 ≤ i) (h1 : i < m)
  (h : wpList P ops Q rest (a.put o.dst (.pointer (some ⟨g, off + i.toNat, none⟩))) w) : wpList P ops Q (o :: rest) a w := by
 obtain ⟨e, hu, hd, he⟩ := hat
 refine wpList_plain hgd fun K hK => ?_
 unfold Oper.wp execOp
 have hsz : (sizeOf e).run P w = .ok 1 w := by
  cases hq : P.info? e with
  | none => simp [hq] at he
  | some i => simp [sizeOf, typeInfo, hq, Sem.run_bind]; simpa [hq] using he
 have hadd : (⟨g, off, none⟩ : Addr).add i.toNat = ⟨g, off + i.toNat, none⟩ := by unfold Addr.add; split <;> simp_all
 simp [ho, hx, hy, Instr.indexAt, asIntOf, Sem.run_bind, run_underlying hu w, Instr.sureAddr, hsz, h0, h1, hadd]
 exact hK _ _ h
theorem ret_cell {fn : Func} {R : Ending → World → Prop} {p : Tmp} {ty : TypeId} {g : Nat} (hm : Mem w0 w M) (h : fn.results = #[.cell p ty]) (hp : a.tmps.getD p undef = .pointer (some ⟨g, 0, none⟩))
  (n : Nat) {k : IntKind} {L : List Int} {m : Nat} {t : TypeId} {own : Bool} (hn : M[n]? = some ⟨g, vals k L, t, own⟩) (hi2 : AggTy P ty m) (hl : L.length = m)
  (hd : a.defers = []) (hR : R (.returned (.agg (vals k L))) w) : bodyPost P fn R .ret a w := by
 obtain ⟨hd2, hi0⟩ := hi2
 have hi : (P.info? ty).map (·.size) = some (vals k L).size := by rw [vals_size, hl]; exact hi0
 cases hu : P.underlying ty with
 | none => simp [hu] at hd2
 | some d =>
  have hld := run_loadVar_row (P := P) w g t ty (vals k L) (0, 0) d (hm.mem hn) hu (by cases d <;> simp_all) hi
  refine bodyPost_ret (v := .agg (vals k L)) ?_ hd hR
  have hp' : a.tmps[p]?.getD undef = .pointer (some ⟨g, 0, none⟩) := by simpa using hp
  simp [results, h, hp', asAddr, hld]
end
theorem lens : (∀ (L : List Int) (i : Nat) (v : Int), (L.set i v).length = L.length) ∧ (∀ (n : Nat) (v : Int), (List.replicate n v).length = n) ∧ (∀ n : Nat, (zs n).length = n) ∧ (∀ (f : Int → Int) (L : List Int), (L.map f).length = L.length) ∧
  (∀ L L' : List Int, (L ++ L').length = L.length + L'.length) ∧ (∀ (n : Nat) (L : List Int), (L.take n).length = min n L.length) ∧ (∀ (n : Nat) (L : List Int), (L.drop n).length = L.length - n) ∧ (∀ (x : Int) (L : List Int), (x :: L).length = L.length + 1) ∧
  (([] : List Int).length = 0) ∧ (∀ n : Nat, 0 + n = n) ∧ (∀ n : Nat, n + 0 = n) ∧ (∀ n : Nat, ((n : Int).toNat) = n) :=
 ⟨by simp, by simp, fun n => zs_length, by simp, by simp, by simp, by simp, by simp, rfl, by simp, by simp, by simp⟩
section
variable {P : Program} {ops : Array Oper} {rest : List Oper} {a : Act} {w : World} {Q : Exit → Act → World → Prop} {dst : Option Tmp} {x y : Operand} {tt : TypeId} {pos : String} {after : Array Edge} {g : Option (Nat × Bool)}
theorem gt_alloc (d ty : Nat) (h : wpList P ops Q (⟨some d, .alloc ty, tt, pos, after, g⟩ :: rest) a w) : wpList P ops Q (⟨some d, .alloc ty, tt, pos, after, g⟩ :: rest) a w := h
theorem gt_box (d ty : Nat) (h : wpList P ops Q (⟨some d, .box ty x, tt, pos, after, g⟩ :: rest) a w) : wpList P ops Q (⟨some d, .box ty x, tt, pos, after, g⟩ :: rest) a w := h
theorem gt_build (ty : Nat) (h : wpList P ops Q (⟨dst, .build ty #[], tt, pos, after, g⟩ :: rest) a w) : wpList P ops Q (⟨dst, .build ty #[], tt, pos, after, g⟩ :: rest) a w := h
theorem gt_store (ty : Nat) (h : wpList P ops Q (⟨dst, .store ty x y, tt, pos, after, g⟩ :: rest) a w) : wpList P ops Q (⟨dst, .store ty x y, tt, pos, after, g⟩ :: rest) a w := h
theorem gt_load (ty : Nat) (h : wpList P ops Q (⟨dst, .load ty x, tt, pos, after, g⟩ :: rest) a w) : wpList P ops Q (⟨dst, .load ty x, tt, pos, after, g⟩ :: rest) a w := h
theorem gt_elem (ty : Nat) (h : wpList P ops Q (⟨dst, .indexAddr ty x y, tt, pos, after, g⟩ :: rest) a w) : wpList P ops Q (⟨dst, .indexAddr ty x y, tt, pos, after, g⟩ :: rest) a w := h
theorem gt_field (ty f : Nat) (h : wpList P ops Q (⟨dst, .fieldAddr ty x f, tt, pos, after, g⟩ :: rest) a w) : wpList P ops Q (⟨dst, .fieldAddr ty x f, tt, pos, after, g⟩ :: rest) a w := h
end
end Go.Proofs.YtdgecgfgekmhcaaDoor.Arr
namespace Go.Proofs.YtdgecgfgekmhcaaDoor.Arr
open Go.RowKit Go.Proofs.YtdgecgfgekmhcaaDoorW.PrintWords Go.Proofs.YtdgecgfgekmhcaaDoor.U
set_option maxRecDepth 100000
theorem agg149 : AggTy Tryd.prog 149 40 := ⟨by kernel_rfl, by kernel_rfl⟩
theorem zero149 : ZeroTy Tryd.prog 149 (vals .i64 (zs 40)) := ⟨.agg (vals .i64 (zs 40)), by kernel_rfl, rfl⟩
theorem built149 : Tryd.prog.built 149 [] = some (vals .i64 (zs 40)) := by kernel_rfl
theorem arr149 : ArrTy Tryd.prog 149 40 := ⟨_, Tryd.underlying149, by kernel_rfl, by kernel_rfl⟩
theorem agg152 : AggTy Tryd.prog 152 4 := ⟨by kernel_rfl, by kernel_rfl⟩
theorem zero152 : ZeroTy Tryd.prog 152 (vals .i64 (zs 4)) := ⟨.agg (vals .i64 (zs 4)), by kernel_rfl, rfl⟩
theorem built152 : Tryd.prog.built 152 [] = some (vals .i64 (zs 4)) := by kernel_rfl
theorem arr152 : ArrTy Tryd.prog 152 4 := ⟨_, Tryd.underlying152, by kernel_rfl, by kernel_rfl⟩
theorem arr86 : ArrTy Tryd.prog 86 40 := ⟨_, Tryd.underlying86, by kernel_rfl, by kernel_rfl⟩
theorem arr87 : ArrTy Tryd.prog 87 4 := ⟨_, Tryd.underlying87, by kernel_rfl, by kernel_rfl⟩
theorem agg89 : AggTy Tryd.prog 89 44 := ⟨by kernel_rfl, by kernel_rfl⟩
theorem zero89 : ZeroTy Tryd.prog 89 (vals .i64 (zs 44)) := ⟨.agg (vals .i64 (zs 44)), by kernel_rfl, rfl⟩
theorem built89 : Tryd.prog.built 89 [] = some (vals .i64 (zs 44)) := by kernel_rfl
theorem field89_0 : FieldTy Tryd.prog 89 0 0 := by unfold FieldTy; kernel_rfl
theorem field89_1 : FieldTy Tryd.prog 89 1 40 := by unfold FieldTy; kernel_rfl
theorem agg64 : AggTy Tryd.prog 64 3 := ⟨by kernel_rfl, by kernel_rfl⟩
theorem zero64 : ZeroTy Tryd.prog 64 (vals .i64 (zs 3)) := ⟨.agg (vals .i64 (zs 3)), by kernel_rfl, rfl⟩
theorem built64 : Tryd.prog.built 64 [] = some (vals .i64 (zs 3)) := by kernel_rfl
theorem arr64 : ArrTy Tryd.prog 64 3 := ⟨_, Tryd.underlying64, by kernel_rfl, by kernel_rfl⟩
theorem agg67 : AggTy Tryd.prog 67 3 := ⟨by kernel_rfl, by kernel_rfl⟩
theorem zero67 : ZeroTy Tryd.prog 67 (vals .i8 (zs 3)) := ⟨.agg (vals .i8 (zs 3)), by kernel_rfl, rfl⟩
theorem built67 : Tryd.prog.built 67 [] = some (vals .i8 (zs 3)) := by kernel_rfl
theorem arr67 : ArrTy Tryd.prog 67 3 := ⟨_, Tryd.underlying67, by kernel_rfl, by kernel_rfl⟩
theorem one2 : OneTy Tryd.prog 2 := ⟨by kernel_rfl, by kernel_rfl⟩
theorem one3 : OneTy Tryd.prog 3 := ⟨by kernel_rfl, by kernel_rfl⟩
theorem one22 : OneTy Tryd.prog 22 := ⟨by kernel_rfl, by kernel_rfl⟩
end Go.Proofs.YtdgecgfgekmhcaaDoor.Arr
namespace Go.Proofs.YtdgecgfgekmhcaaDoor.J
open Go.RowKit Go.Proofs.YtdgecgfgekmhcaaDoorW.PrintWords Go.Proofs.YtdgecgfgekmhcaaDoorW.PrintLast Go.Proofs.YtdgecgfgekmhcaaDoorW.PrintMore
attribute [local go_sem] max2_int min2_int max_two min_two max_three min_three max_four min_four
set_option linter.unusedVariables false
set_option linter.unusedSimpArgs false
def errW : Option Int → Value
 | none => .nilIface
 | some c => .iface 0 (.int .i64 c)
theorem errW_none : errW none = .nilIface := rfl
theorem errW_some (c : Int) : errW (some c) = .iface 0 (.int .i64 c) := rfl
theorem info9 : (Tryd.prog.info? 9).map (fun i => (i.zero, i.size, i.bytes)) = some (some (.string ⟨#[]⟩), 1, 16) := by kernel_rfl
theorem info22 : (Tryd.prog.info? 22).map (fun i => (i.zero, i.size, i.bytes)) = some (some (.int .i8 0), 1, 1) := by kernel_rfl
end Go.Proofs.YtdgecgfgekmhcaaDoor.J
namespace Go.Proofs.YtdgecgfgekmhcaaDoor.J
open Go.RowKit Go.Proofs.YtdgecgfgekmhcaaDoorW.PrintWords Go.Proofs.YtdgecgfgekmhcaaDoorW.PrintLast Go.Proofs.YtdgecgfgekmhcaaDoorW.PrintMore
attribute [local go_sem] max2_int min2_int max_two min_two max_three min_three max_four min_four
set_option linter.unusedVariables false
set_option linter.unusedSimpArgs false
mutual
def spec_l01Number.j0 : Nat → ByteArray → Bool → Option (Int × Bool)
 | 0, _, _ => none
 | k + 1, x0, x22 => if x22 = true then (some (0, false)) else (spec_l01Number.l0 k x0 0 0)
def spec_l01Number.l0 : Nat → ByteArray → Int → Int → Option (Int × Bool)
 | 0, _, _, _ => none
 | k + 1, x0, x4, x5 => if x5 < (x0.size : Int) then (if 0 ≤ x5 then (if (bt x0 x5) < 48 then (some (0, false)) else (if (bt x0 x5) > 57 then (some (0, false)) else (spec_l01Number.l0 k x0 (wrap64 ((wrap64 (10 * x4)) + (((bt x0 x5) - 48) % 256))) (wrap64 (x5 + 1))))) else (none)) else (some (x4, true))
end
def spec_l01Number.f (k : Nat) (a0 : ByteArray) : Option (Int × Bool) := if a0.toList = ([] : List UInt8) then (spec_l01Number.j0 k a0 true) else (if (a0.size : Int) > 9 then (spec_l01Number.j0 k a0 true) else (if 0 < (a0.size : Int) then (if (bt a0 0) = 48 then (spec_l01Number.j0 k a0 (decide ((a0.size : Int) > 1))) else (spec_l01Number.j0 k a0 false)) else (none)))
set_option maxHeartbeats 8000000 in
set_option maxRecDepth 100000 in
theorem spec_l01Number.calls (k : Nat) (a0 : ByteArray) (r1 : Int) (r2 : Bool) (w : World) (h : spec_l01Number.f k a0 = some (r1, r2)) :
  Calls Tryd.prog 40 #[.string a0] w fun e w' => e = .returned (.tuple #[.int .i64 r1, .bool r2]) ∧ Drawn0 w w' := by
 have H : (if a0.toList = ([] : List UInt8) then (spec_l01Number.j0 k a0 true) else (if (a0.size : Int) > 9 then (spec_l01Number.j0 k a0 true) else (if 0 < (a0.size : Int) then (if (bt a0 0) = 48 then (spec_l01Number.j0 k a0 (decide ((a0.size : Int) > 1))) else (spec_l01Number.j0 k a0 false)) else (none)))) = some (r1, r2) := h
 clear h
 have HC2 := Aside0.mk H
 clear H
 go_enter Tryd.func40, Tryd.ntmps40
 go_upto_region 1 with (fail)
 go_cut [22] (fun v22 wc => ∃ (kq : Nat) (x22_1 : Bool), v22 = .bool x22_1 ∧ Aside0 (spec_l01Number.j0 kq a0 x22_1 = some (r1, r2)) ∧ Aside0 (kq ≤ k) ∧ Drawn0 w wc)
 case first =>
  have H := HC2.out
  clear HC2
  by_cases c3 : a0.toList = ([] : List UInt8)
  ·rw [if_pos c3] at H
   have c3b0 : (a0.toList == ([] : List UInt8)) = true := beq_iff_eq.mpr c3
   have c3b1 : (a0.toList != ([] : List UInt8)) = false := bne_eq_false_iff_eq.mpr c3
   clear c3
   (first | rw [c3b0] | (simp only [i64_w, i32_w]; rw [c3b0]) | skip)
   have H' := Aside0.mk H
   clear H
   go_wp2
   go_meet
   case rel => exact ⟨_, (true), (by first | rfl | (simp; done) | (simp [*]; done)), H', ⟨by first | omega | exact Nat.le_refl _⟩, by repeat (first | exact Drawn0.refl _ | apply Drawn0.step)⟩
  ·rw [if_neg c3] at H
   have c3b0 : (a0.toList == ([] : List UInt8)) = false := beq_eq_false_iff_ne.mpr c3
   have c3b1 : (a0.toList != ([] : List UInt8)) = true := bne_iff_ne.mpr c3
   (first | rw [c3b0] | (simp only [i64_w, i32_w]; rw [c3b0]) | skip)
   by_cases c4 : (a0.size : Int) > 9
   ·rw [if_pos c4] at H
    have c4b0 : decide (9 < (a0.size : Int)) = true := decide_eq_true c4
    have c4b1 : decide (9 < a0.size) = true := decide_eq_true (by omega)
    clear c4
    have H' := Aside0.mk H
    clear H
    go_wp2
    go_meet
    case rel => exact ⟨_, (true), (by first | rfl | (simp; done) | (simp [*]; done)), H', ⟨by first | omega | exact Nat.le_refl _⟩, by repeat (first | exact Drawn0.refl _ | apply Drawn0.step)⟩
   ·rw [if_neg c4] at H
    have c4b0 : decide (9 < (a0.size : Int)) = false := decide_eq_false c4
    have c4b1 : decide (9 < a0.size) = false := decide_eq_false (by omega)
    clear c4
    by_cases c5 : 0 < (a0.size : Int)
    ·rw [if_pos c5] at H
     have c5b0 : decide (0 < (a0.size : Int)) = true := decide_eq_true c5
     have c5b1 : decide (0 < a0.size) = true := decide_eq_true (by omega)
     clear c5
     by_cases c7 : (bt a0 0) = 48
     ·rw [if_pos c7] at H
      have c7b0 : ((bt a0 0) == 48) = true := beq_iff_eq.mpr c7
      have c7b1 : ((bt a0 0) != 48) = false := bne_eq_false_iff_eq.mpr c7
      clear c7
      have H' := Aside0.mk H
      clear H
      have p6 : 0 ≤ (0 : Int) := (by omega)
      have q6 : 0 < a0.size := (by have : (0 : Int) < (a0.size : Int) := of_decide_eq_true (by first | (with_reducible assumption) | assumption); omega)
      have hx6 : ∀ h : 0 < a0.size, ((a0[0]'h).toNat : Int) = bt a0 0 := bt_at a0 0
      clear p6
      have qi6 : (0 < (a0.size : Int)) = True := eq_true (of_decide_eq_true (by first | (with_reducible assumption) | assumption))
      replace q6 := eq_true q6
      go_wp2
      go_meet
      case rel => exact ⟨_, (decide ((a0.size : Int) > 1)), (by first | rfl | (simp; done) | (simp [*]; done)), H', ⟨by first | omega | exact Nat.le_refl _⟩, by repeat (first | exact Drawn0.refl _ | apply Drawn0.step)⟩
     ·rw [if_neg c7] at H
      have c7b0 : ((bt a0 0) == 48) = false := beq_eq_false_iff_ne.mpr c7
      have c7b1 : ((bt a0 0) != 48) = true := bne_iff_ne.mpr c7
      have H' := Aside0.mk H
      clear H
      have p6 : 0 ≤ (0 : Int) := (by omega)
      have q6 : 0 < a0.size := (by have : (0 : Int) < (a0.size : Int) := of_decide_eq_true (by first | (with_reducible assumption) | assumption); omega)
      have hx6 : ∀ h : 0 < a0.size, ((a0[0]'h).toNat : Int) = bt a0 0 := bt_at a0 0
      clear p6
      have qi6 : (0 < (a0.size : Int)) = True := eq_true (of_decide_eq_true (by first | (with_reducible assumption) | assumption))
      replace q6 := eq_true q6
      go_wp2
      go_meet
      case rel => exact ⟨_, (false), (by first | rfl | (simp; done) | (simp [*]; done)), H', ⟨by first | omega | exact Nat.le_refl _⟩, by repeat (first | exact Drawn0.refl _ | apply Drawn0.step)⟩
    ·rw [if_neg c5] at H
     exact absurd H (by simp)
 case rest =>
  clear HC2
  try clear p2
  try clear c3
  try clear c3b0
  try clear c3b1
  try clear c4
  try clear c4b0
  try clear c4b1
  try clear c5
  try clear c5b0
  try clear c5b1
  try clear p6
  try clear q6
  try clear hx6
  try clear qi6
  try clear c7
  try clear c7b0
  try clear c7b1
  try clear p6
  try clear q6
  obtain ⟨kq, x22_1, rfl, HA, HJ1, ⟨mc1, rfl⟩⟩ := hcut
  cases kq with
  | zero => exact absurd HA.out (by simp [spec_l01Number.j0])
  | succ kj1 =>
   have H := HA.out
   clear HA
   simp only [spec_l01Number.j0] at H
   by_cases c8 : x22_1 = true
   ·subst c8
    have H1 : (some (0, false)) = some (r1, r2) := by rw [if_pos rfl] at H; exact H
    clear H
    have H := H1
    clear H1
    simp only [Option.some.injEq, Prod.mk.injEq] at H
    obtain ⟨rfl, rfl⟩ := H
    go_wp2
    go_ret2
    exact ⟨by first | rfl | (simp; done) | (simp [*]; done), by repeat (first | exact Drawn0.refl _ | apply Drawn0.step)⟩
   ·replace c8 := Bool.eq_false_iff.mpr c8
    subst c8
    have H1 : (spec_l01Number.l0 kj1 a0 0 0) = some (r1, r2) := by rw [if_neg (show ¬ (false = true) by decide)] at H; exact H
    clear H
    have H := H1
    clear H1
    have H' := Aside0.mk H
    clear H
    go_wp2
    go_loopg [4, 5] kj1 (fun kq v4 v5 w' => ∃ (x4_2 : Int) (x5_2 : Int), v4 = .int .i64 x4_2 ∧ v5 = .int .i64 x5_2 ∧ Aside0 (spec_l01Number.l0 kq a0 x4_2 x5_2 = some (r1, r2)) ∧ Aside0 (kq ≤ kj1) ∧ Drawn0 w w')
    case atStart => exact ⟨(0), (0), (by first | rfl | (simp; done) | (simp [*]; done)), (by first | rfl | (simp; done) | (simp [*]; done)), H', ⟨Nat.le_refl _⟩, by repeat (first | exact Drawn0.refl _ | apply Drawn0.step)⟩
    case round =>
     clear H'
     try clear c1
     try clear p2
     try clear c3
     try clear c3b0
     try clear c3b1
     try clear c4
     try clear c4b0
     try clear c4b1
     try clear c5
     try clear c5b0
     try clear c5b1
     try clear p6
     try clear q6
     try clear hx6
     try clear qi6
     try clear c7
     try clear c7b0
     try clear c7b1
     try clear c8
     try clear p2
     try clear p6
     try clear q6
     obtain ⟨x4_2, x5_2, rfl, rfl, HA, HK2, ⟨m2, rfl⟩⟩ := hrel
     cases gk with
     | zero => exact absurd HA.out (by simp [spec_l01Number.l0])
     | succ k2 =>
      have H := HA.out
      clear HA
      simp only [spec_l01Number.l0] at H
      by_cases c9 : x5_2 < (a0.size : Int)
      ·rw [if_pos c9] at H
       have c9b0 : decide (x5_2 < (a0.size : Int)) = true := decide_eq_true c9
       clear c9
       by_cases c10 : 0 ≤ x5_2
       ·rw [if_pos c10] at H
        have c10b0 : decide (0 ≤ x5_2) = true := decide_eq_true c10
        clear c10
        by_cases c12 : (bt a0 x5_2) < 48
        ·rw [if_pos c12] at H
         have c12b0 : decide ((bt a0 x5_2) < 48) = true := decide_eq_true c12
         clear c12
         simp only [Option.some.injEq, Prod.mk.injEq] at H
         obtain ⟨rfl, rfl⟩ := H
         have p11 : 0 ≤ (x5_2 : Int) := of_decide_eq_true (by first | (with_reducible assumption) | assumption)
         have q11 : x5_2 < (a0.size : Int) := of_decide_eq_true (by first | (with_reducible assumption) | assumption)
         have hx11 := bt_at a0 x5_2
         replace p11 := eq_true p11
         replace q11 := eq_true q11
         go_wp2
         go_ret2
         exact ⟨by first | rfl | (simp; done) | (simp [*]; done), by repeat (first | exact Drawn0.refl _ | apply Drawn0.step)⟩
        ·rw [if_neg c12] at H
         have c12b0 : decide ((bt a0 x5_2) < 48) = false := decide_eq_false c12
         clear c12
         by_cases c14 : (bt a0 x5_2) > 57
         ·rw [if_pos c14] at H
          have c14b0 : decide (57 < (bt a0 x5_2)) = true := decide_eq_true c14
          clear c14
          simp only [Option.some.injEq, Prod.mk.injEq] at H
          obtain ⟨rfl, rfl⟩ := H
          have p11 : 0 ≤ (x5_2 : Int) := of_decide_eq_true (by first | (with_reducible assumption) | assumption)
          have q11 : x5_2 < (a0.size : Int) := of_decide_eq_true (by first | (with_reducible assumption) | assumption)
          have hx11 := bt_at a0 x5_2
          replace p11 := eq_true p11
          replace q11 := eq_true q11
          have p13 : 0 ≤ (x5_2 : Int) := of_decide_eq_true (by first | (with_reducible assumption) | assumption)
          have q13 : x5_2 < (a0.size : Int) := of_decide_eq_true (by first | (with_reducible assumption) | assumption)
          have hx13 := bt_at a0 x5_2
          replace p13 := eq_true p13
          replace q13 := eq_true q13
          go_wp2
          go_ret2
          exact ⟨by first | rfl | (simp; done) | (simp [*]; done), by repeat (first | exact Drawn0.refl _ | apply Drawn0.step)⟩
         ·rw [if_neg c14] at H
          have c14b0 : decide (57 < (bt a0 x5_2)) = false := decide_eq_false c14
          clear c14
          have H' := Aside0.mk H
          clear H
          have p11 : 0 ≤ (x5_2 : Int) := of_decide_eq_true (by first | (with_reducible assumption) | assumption)
          have q11 : x5_2 < (a0.size : Int) := of_decide_eq_true (by first | (with_reducible assumption) | assumption)
          have hx11 := bt_at a0 x5_2
          replace p11 := eq_true p11
          replace q11 := eq_true q11
          have p13 : 0 ≤ (x5_2 : Int) := of_decide_eq_true (by first | (with_reducible assumption) | assumption)
          have q13 : x5_2 < (a0.size : Int) := of_decide_eq_true (by first | (with_reducible assumption) | assumption)
          have hx13 := bt_at a0 x5_2
          replace p13 := eq_true p13
          replace q13 := eq_true q13
          have p15 : 0 ≤ (x5_2 : Int) := of_decide_eq_true (by first | (with_reducible assumption) | assumption)
          have q15 : x5_2 < (a0.size : Int) := of_decide_eq_true (by first | (with_reducible assumption) | assumption)
          have hx15 := bt_at a0 x5_2
          replace p15 := eq_true p15
          replace q15 := eq_true q15
          go_wp2
          go_roundg k2
          case measure => have := HJ1.out; have := HK2.out; omega
          case rel => exact ⟨(wrap64 ((wrap64 (10 * x4_2)) + (((bt a0 x5_2) - 48) % 256))), (wrap64 (x5_2 + 1)), (by first | rfl | (simp; done) | (simp [*]; done)), (by first | rfl | (simp; done) | (simp [*]; done)), H', ⟨by have := HJ1.out; have := HK2.out; omega⟩, by repeat (first | exact Drawn0.refl _ | apply Drawn0.step)⟩
       ·rw [if_neg c10] at H
        exact absurd H (by simp)
      ·rw [if_neg c9] at H
       have c9b0 : decide (x5_2 < (a0.size : Int)) = false := decide_eq_false c9
       clear c9
       simp only [Option.some.injEq, Prod.mk.injEq] at H
       obtain ⟨rfl, rfl⟩ := H
       go_wp2
       go_ret2
       exact ⟨by first | rfl | (simp; done) | (simp [*]; done), by repeat (first | exact Drawn0.refl _ | apply Drawn0.step)⟩
def spec_l01Split.l0 : Nat → ByteArray → Int → List ByteArray → Int → Int → Option (List ByteArray)
 | 0, _, _, _, _, _ => none
 | k + 1, x0, x1, x5, x6, x7 => if x7 < (x0.size : Int) then (if 0 ≤ x7 then (if (bt x0 x7) = x1 then (if 0 ≤ x6 then (if x6 ≤ x7 then (if x7 ≤ (x0.size : Int) then (if x5.length < 8796093022208 then (spec_l01Split.l0 k x0 x1 (x5 ++ [x0.extract (x6 : Int).toNat (x7 : Int).toNat]) (wrap64 (x7 + 1)) (wrap64 (x7 + 1))) else (none)) else (none)) else (none)) else (none)) else (spec_l01Split.l0 k x0 x1 x5 x6 (wrap64 (x7 + 1)))) else (none)) else (if 0 ≤ x6 then (if x6 ≤ (x0.size : Int) then (if x5.length < 8796093022208 then (some (x5 ++ [x0.extract (x6 : Int).toNat x0.size])) else (none)) else (none)) else (none))
def spec_l01Split.f (k : Nat) (a0 : ByteArray) (a1 : Int) : Option (List ByteArray) := spec_l01Split.l0 k a0 a1 (([] : List ByteArray)) 0 0
set_option maxHeartbeats 8000000 in
set_option maxRecDepth 100000 in
theorem spec_l01Split.calls (k : Nat) (a0 : ByteArray) (a1 : Int) (r : List ByteArray) (w : World) (h : spec_l01Split.f k a0 a1 = some r) :
  Calls Tryd.prog 28 #[.string a0, .int .u8 a1] w fun e w' => ∃ v0_ : Value, e = .returned (v0_) ∧ Kd.R Kd.string 9 w' w.heap.size (fun _ => True) v0_ r ∧ Below w.heap.size w w' := by
 have HB := Aside0.mk (Below.refl w.heap.size w)
 have H : (spec_l01Split.l0 k a0 a1 (([] : List ByteArray)) 0 0) = some r := h
 clear h
 obtain ⟨y184, hy184⟩ : ∃ y_ : List ByteArray, y_ = (([] : List ByteArray)) := ⟨_, rfl⟩
 replace H : (spec_l01Split.l0 k a0 a1 y184 0 0) = some r := by first | (rw [hy184]; with_reducible exact H) | (have H2_ := (Option.bind_some _ _).symm.trans H; rw [hy184]; with_reducible exact H2_) | (have H2_ := (Option.bind_some _ _).symm.trans H; with_reducible exact H2_) | with_reducible exact H | (rw [hy184]; exact H) | exact H
 have Ny184 := Aside0.mk hy184
 clear hy184
 have H' := Aside0.mk H
 clear H
 go_enter Tryd.func28, Tryd.ntmps28
 go_wp2_with (first | ((with_reducible refine gate_dst (N := 8) rfl ?_); refine Kd.R_lit Kd.string _ 9 ?hg (N := 8) ?hd (xs := ([] : List ByteArray)) (inner := []) (ok := fun _ => True) (okp := fun _ => True) ?hr ?hp (fun _ hk => hk) trivial (Below.refl _ _) (Nat.le_refl _) (by simp) ?_; (case hd => rfl); (case hg => rfl); (case hr => first | (go_simp; done) | (go_simp; rfl)); (case hp => exact (Reps.none _ _)); intro v185 w3 ho4 hb hg_ hnew_; clear hg_ hnew_; (first | rw [← Ny184.out] at ho4 | (simp only [Int.reduceToNat] at ho4; rw [← Ny184.out] at ho4)); have n0_ := Aside0.mk (Kd.R_lower ho4 (below_size (by repeat (first | (with_reducible first | exact HB.out | apply below_alloc | apply pw_below_drewN | apply below_drew1) | exact HB.out)))); have n1_ := Aside0.mk (below_step (by repeat (first | (with_reducible first | exact HB.out | apply below_alloc | apply pw_below_drewN | apply below_drew1) | exact HB.out)) hb); clear HB; have HO186 := n0_; have HB := n1_; clear n0_ n1_; clear hb ho4))
 go_loopg [5, 6, 7] k (fun kq v5 v6 v7 w' => ∃ (x5_1 : List ByteArray) (x6_1 : Int) (x7_1 : Int), v6 = .int .i64 x6_1 ∧ v7 = .int .i64 x7_1 ∧ Aside0 (spec_l01Split.l0 kq a0 a1 x5_1 x6_1 x7_1 = some r) ∧ Aside0 (kq ≤ k) ∧ Aside0 (Kd.R Kd.string 9 w' w.heap.size (fun _ => True) v5 x5_1) ∧ Aside0 (Below w.heap.size w w'))
 case atStart => exact ⟨(y184), (0), (0), (by first | rfl | (simp; done) | (simp [*]; done)), (by first | rfl | (simp; done) | (simp [*]; done)), H', ⟨Nat.le_refl _⟩, ⟨by (with_reducible repeat (first | apply Kd.R_alloc | apply Kd.R_drewN | apply Kd.R_drew)); exact HO186.out⟩, ⟨by repeat (first | (with_reducible first | exact HB.out | apply below_alloc | apply pw_below_drewN | apply below_drew1) | exact HB.out)⟩⟩
 case round =>
  clear H'
  try clear c2
  try clear p2
  obtain ⟨x5_1, x6_1, x7_1, rfl, rfl, HA, HK1, HO_5, HB⟩ := hrel
  cases gk with
  | zero => exact absurd HA.out (by simp [spec_l01Split.l0])
  | succ k1 =>
   have H := HA.out
   clear HA
   simp only [spec_l01Split.l0] at H
   by_cases c5 : x7_1 < (a0.size : Int)
   ·rw [if_pos c5] at H
    have c5b0 : decide (x7_1 < (a0.size : Int)) = true := decide_eq_true c5
    clear c5
    by_cases c6 : 0 ≤ x7_1
    ·rw [if_pos c6] at H
     have c6b0 : decide (0 ≤ x7_1) = true := decide_eq_true c6
     clear c6
     by_cases c8 : (bt a0 x7_1) = a1
     ·rw [if_pos c8] at H
      have c8b0 : ((bt a0 x7_1) == a1) = true := beq_iff_eq.mpr c8
      have c8b1 : ((bt a0 x7_1) != a1) = false := bne_eq_false_iff_eq.mpr c8
      clear c8
      by_cases c9 : 0 ≤ x6_1
      ·rw [if_pos c9] at H
       have c9b0 := eq_true c9
       have c9b1 : decide (0 ≤ x6_1) = true := decide_eq_true c9
       clear c9
       by_cases c10 : x6_1 ≤ x7_1
       ·rw [if_pos c10] at H
        have c10b0 := eq_true c10
        have c10b1 : decide (x6_1 ≤ x7_1) = true := decide_eq_true c10
        clear c10
        by_cases c11 : x7_1 ≤ (a0.size : Int)
        ·rw [if_pos c11] at H
         have c11b0 := eq_true c11
         have c11b1 : decide (x7_1 ≤ (a0.size : Int)) = true := decide_eq_true c11
         clear c11
         by_cases c12 : x5_1.length < 8796093022208
         ·rw [if_pos c12] at H
          have LMc12 := Aside0.mk c12
          clear c12
          obtain ⟨y187, hy187⟩ : ∃ y_ : List ByteArray, y_ = (x5_1 ++ [a0.extract (x6_1 : Int).toNat (x7_1 : Int).toNat]) := ⟨_, rfl⟩
          replace H : (spec_l01Split.l0 k1 a0 a1 y187 (wrap64 (x7_1 + 1)) (wrap64 (x7_1 + 1))) = some r := by first | (rw [hy187]; with_reducible exact H) | (have H2_ := (Option.bind_some _ _).symm.trans H; rw [hy187]; with_reducible exact H2_) | (have H2_ := (Option.bind_some _ _).symm.trans H; with_reducible exact H2_) | with_reducible exact H | (rw [hy187]; exact H) | exact H
          have Ny187 := Aside0.mk hy187
          clear hy187
          have H' := Aside0.mk H
          clear H
          have p7 : 0 ≤ (x7_1 : Int) := of_decide_eq_true (by first | (with_reducible assumption) | assumption)
          have q7 : x7_1 < (a0.size : Int) := of_decide_eq_true (by first | (with_reducible assumption) | assumption)
          have hx7 := bt_at a0 x7_1
          replace p7 := eq_true p7
          replace q7 := eq_true q7
          go_wp2_with (first | ((with_reducible refine gate_builtin (b := .append) (xs := #[.tmp 20, .tmp 25]) rfl ?_); at_builtin; refine Kd.R_append Kd.string (w0 := w) w.heap.size rfl (.tmp 20) (.tmp 25) 23 9 (.string ⟨#[]⟩) 16 rfl Tryd.underlying23 info9 rfl (by decide) (by omega) u5 x5_1 (a0.extract (x6_1 : Int).toNat (x7_1 : Int).toNat) [.string (a0.extract (x6_1 : Int).toNat (x7_1 : Int).toNat)] (fun _ => True) (fun _ => False) rfl rfl ?aP (fun _ hk => hk.elim) ?aF ?aO ?aB ?aS ?aL ?_; (case aP => exact rfl); (case aB => exact (by repeat (first | (with_reducible first | exact HB.out | apply below_alloc | apply pw_below_drewN | apply below_drew1) | exact HB.out))); (case aF => exact (fun _ _ => trivial)); (case aO => exact (by (with_reducible repeat (first | apply Kd.R_alloc | apply Kd.R_drewN | apply Kd.R_drew)); exact HO_5.out)); (case aS => exact (below_size (by repeat (first | (with_reducible first | exact HB.out | apply below_alloc | apply pw_below_drewN | apply below_drew1) | exact HB.out)))); (case aL => have := LMc12.out; omega); intro v188 w13 ho hb hg hat; rw [← Ny187.out] at ho; have n0_ := Aside0.mk (hb); have n1_ := Aside0.mk (ho); clear HB; clear HO_5; have HB := n0_; have HO189 := n1_; clear n0_ n1_; clear ho hb hg hat))
          go_roundg k1
          case measure => have := HK1.out; omega
          case rel => exact ⟨(y187), (wrap64 (x7_1 + 1)), (wrap64 (x7_1 + 1)), (by first | rfl | (simp; done) | (simp [*]; done)), (by first | rfl | (simp; done) | (simp [*]; done)), H', ⟨by have := HK1.out; omega⟩, ⟨by (with_reducible repeat (first | apply Kd.R_alloc | apply Kd.R_drewN | apply Kd.R_drew)); exact HO189.out⟩, ⟨by repeat (first | (with_reducible first | exact HB.out | apply below_alloc | apply pw_below_drewN | apply below_drew1) | exact HB.out)⟩⟩
         ·rw [if_neg c12] at H
          exact absurd H (by simp)
        ·rw [if_neg c11] at H
         exact absurd H (by simp)
       ·rw [if_neg c10] at H
        exact absurd H (by simp)
      ·rw [if_neg c9] at H
       exact absurd H (by simp)
     ·rw [if_neg c8] at H
      have c8b0 : ((bt a0 x7_1) == a1) = false := beq_eq_false_iff_ne.mpr c8
      have c8b1 : ((bt a0 x7_1) != a1) = true := bne_iff_ne.mpr c8
      have H' := Aside0.mk H
      clear H
      have p7 : 0 ≤ (x7_1 : Int) := of_decide_eq_true (by first | (with_reducible assumption) | assumption)
      have q7 : x7_1 < (a0.size : Int) := of_decide_eq_true (by first | (with_reducible assumption) | assumption)
      have hx7 := bt_at a0 x7_1
      replace p7 := eq_true p7
      replace q7 := eq_true q7
      go_wp2
      go_roundg k1
      case measure => have := HK1.out; omega
      case rel => exact ⟨(x5_1), (x6_1), (wrap64 (x7_1 + 1)), (by first | rfl | (simp; done) | (simp [*]; done)), (by first | rfl | (simp; done) | (simp [*]; done)), H', ⟨by have := HK1.out; omega⟩, ⟨by (with_reducible repeat (first | apply Kd.R_alloc | apply Kd.R_drewN | apply Kd.R_drew)); exact HO_5.out⟩, ⟨by repeat (first | (with_reducible first | exact HB.out | apply below_alloc | apply pw_below_drewN | apply below_drew1) | exact HB.out)⟩⟩
    ·rw [if_neg c6] at H
     exact absurd H (by simp)
   ·rw [if_neg c5] at H
    have c5b0 : decide (x7_1 < (a0.size : Int)) = false := decide_eq_false c5
    clear c5
    by_cases c14 : 0 ≤ x6_1
    ·rw [if_pos c14] at H
     have c14b0 := eq_true c14
     have c14b1 : decide (0 ≤ x6_1) = true := decide_eq_true c14
     clear c14
     by_cases c15 : x6_1 ≤ (a0.size : Int)
     ·rw [if_pos c15] at H
      have c15b0 := eq_true c15
      have c15b1 : decide (x6_1 ≤ (a0.size : Int)) = true := decide_eq_true c15
      clear c15
      by_cases c16 : x5_1.length < 8796093022208
      ·rw [if_pos c16] at H
       have LMc16 := Aside0.mk c16
       clear c16
       obtain ⟨y190, hy190⟩ : ∃ y_ : List ByteArray, y_ = (x5_1 ++ [a0.extract (x6_1 : Int).toNat a0.size]) := ⟨_, rfl⟩
       replace H : (some y190) = some r := by first | (rw [hy190]; with_reducible exact H) | (have H2_ := (Option.bind_some _ _).symm.trans H; rw [hy190]; with_reducible exact H2_) | (have H2_ := (Option.bind_some _ _).symm.trans H; with_reducible exact H2_) | with_reducible exact H | (rw [hy190]; exact H) | exact H
       have Ny190 := Aside0.mk hy190
       clear hy190
       obtain rfl := Option.some.inj H
       go_wp2_with (first | ((with_reducible refine gate_builtin (b := .append) (xs := #[.tmp 29, .tmp 33]) rfl ?_); at_builtin; refine Kd.R_append Kd.string (w0 := w) w.heap.size rfl (.tmp 29) (.tmp 33) 23 9 (.string ⟨#[]⟩) 16 rfl Tryd.underlying23 info9 rfl (by decide) (by omega) u5 x5_1 (a0.extract (x6_1 : Int).toNat a0.size) [.string (a0.extract (x6_1 : Int).toNat a0.size)] (fun _ => True) (fun _ => False) rfl rfl ?aP (fun _ hk => hk.elim) ?aF ?aO ?aB ?aS ?aL ?_; (case aP => exact rfl); (case aB => exact (by repeat (first | (with_reducible first | exact HB.out | apply below_alloc | apply pw_below_drewN | apply below_drew1) | exact HB.out))); (case aF => exact (fun _ _ => trivial)); (case aO => exact (by (with_reducible repeat (first | apply Kd.R_alloc | apply Kd.R_drewN | apply Kd.R_drew)); exact HO_5.out)); (case aS => exact (below_size (by repeat (first | (with_reducible first | exact HB.out | apply below_alloc | apply pw_below_drewN | apply below_drew1) | exact HB.out)))); (case aL => have := LMc16.out; omega); intro v191 w17 ho hb hg hat; rw [← Ny190.out] at ho; have n0_ := Aside0.mk (hb); have n1_ := Aside0.mk (ho); clear HB; clear HO_5; have HB := n0_; have HO192 := n1_; clear n0_ n1_; clear ho hb hg hat))
       go_ret
       exact ⟨_, by first | rfl | (simp [errW_none, errW_some] <;> rfl) | (simp [*, errW_none, errW_some] <;> rfl), by (with_reducible repeat (first | apply Kd.R_alloc | apply Kd.R_drewN | apply Kd.R_drew)); exact HO192.out, by repeat (first | (with_reducible first | exact HB.out | apply below_alloc | apply pw_below_drewN | apply below_drew1) | exact HB.out)⟩
      ·rw [if_neg c16] at H
       exact absurd H (by simp)
     ·rw [if_neg c15] at H
      exact absurd H (by simp)
    ·rw [if_neg c14] at H
     exact absurd H (by simp)
end Go.Proofs.YtdgecgfgekmhcaaDoor.J
namespace Go.Proofs.YtdgecgfgekmhcaaDoor.Arr
open Go.RowKit Go.Proofs.YtdgecgfgekmhcaaDoorW.PrintWords Go.Proofs.YtdgecgfgekmhcaaDoorW.PrintLast Go.Proofs.YtdgecgfgekmhcaaDoorW.PrintMore Go.Proofs.YtdgecgfgekmhcaaDoor.U Go.Proofs.YtdgecgfgekmhcaaDoor.J
set_option linter.unusedVariables false
set_option linter.unusedSimpArgs false
theorem bs_app_data (a b : Array UInt8) : (⟨a⟩ : ByteArray) ++ ⟨b⟩ = ⟨a ++ b⟩ := by
 apply ByteArray.ext
 simp
theorem bs_size (l : List UInt8) : (⟨l.toArray⟩ : ByteArray).size = l.length := by simp [ByteArray.size]
def dg (n : Nat) : List UInt8 := if n < 10 then [UInt8.ofNat (48 + n)] else [UInt8.ofNat (48 + n / 10), UInt8.ofNat (48 + n % 10)]
theorem dg_dec {n : Nat} (h : n < 100) : Lib.decDigits n = dg n := by
 unfold dg
 by_cases h1 : n < 10
 ·rw [if_pos h1, Lib.decDigits, dif_pos h1]
 ·rw [if_neg h1, Lib.decDigits, dif_neg h1, Lib.decDigits, dif_pos (by omega)]
  rfl
theorem dg_len (n : Nat) : (dg n).length ≤ 2 := by
 unfold dg
 split <;> simp
theorem format_calls (n : Nat) (h : n < 100) (w : World) : Calls Tryd.prog 54 #[.int .i64 (n : Int), .int .i64 10] w fun e w' => e = .returned (.string ⟨(dg n).toArray⟩) ∧ w' = w := by
 rw [← dg_dec h]
 exact Any.strconv_FormatInt_10_small lay173 n h w
theorem decimal_calls (n : Nat) (h : n < 100) (w : World) : Calls Tryd.prog 25 #[.int .i64 (n : Int)] w fun e w' => e = .returned (.string ⟨(dg n).toArray⟩) ∧ Below w.heap.size w w' := by
 have HF := Aside0.mk (fun W => format_calls n h W)
 go_enter Tryd.func25, Tryd.ntmps25
 go_wp2_with (go_at_call 54; refine (HF.out _).mono ?_; rintro e w1 ⟨rfl, rfl⟩)
 go_ret
 exact ⟨rfl, Below.refl _ _⟩
def sp (c : UInt8) : List UInt8 → List (List UInt8)
 | [] => [[]]
 | x :: r => if x = c then [] :: sp c r else match sp c r with | h :: t => (x :: h) :: t | [] => [[x]]
theorem sp_no (c : UInt8) : ∀ (l : List UInt8), (∀ x ∈ l, x ≠ c) → sp c l = [l]
 | [], _ => rfl
 | x :: r, h => by
  rw [sp, if_neg (h x (List.mem_cons_self ..)), sp_no c r (fun y hy => h y (List.mem_cons_of_mem _ hy))]
theorem sp_cut (c : UInt8) (b : List UInt8) : ∀ (a : List UInt8), (∀ x ∈ a, x ≠ c) → sp c (a ++ c :: b) = a :: sp c b
 | [], _ => by rw [List.nil_append, sp, if_pos rfl]
 | x :: r, h => by
  rw [List.cons_append, sp, if_neg (h x (List.mem_cons_self ..)), sp_cut c b r (fun y hy => h y (List.mem_cons_of_mem _ hy))]
theorem sp_join (c : UInt8) : ∀ (ws : List (List UInt8)) (w : List UInt8), (∀ x ∈ w, x ≠ c) → (∀ v ∈ ws, ∀ x ∈ v, x ≠ c) → sp c (w ++ Lib.joinTail [c] ws) = w :: ws
 | [], w, h, _ => by rw [show Lib.joinTail [c] [] = [] from rfl, List.append_nil, sp_no c w h]
 | v :: ws, w, h, hs => by
  rw [show Lib.joinTail [c] (v :: ws) = c :: (v ++ Lib.joinTail [c] ws) from by simp [Lib.joinTail], sp_cut c _ w h, sp_join c ws v (hs v (List.mem_cons_self ..)) (fun u hu => hs u (List.mem_cons_of_mem _ hu))]
theorem sp_ne (c : UInt8) (l : List UInt8) : sp c l ≠ [] := by
 cases l with
 | nil => simp [sp]
 | cons x r =>
  rw [sp]
  split
  ·simp
  ·split <;> simp
theorem sp_len (c : UInt8) : ∀ l : List UInt8, (sp c l).length ≤ l.length + 1
 | [] => Nat.le_refl _
 | x :: r => by
  have := sp_len c r
  rw [sp]
  split
  ·simp only [List.length_cons]; omega
  ·split
   ·rename_i h t e
    rw [e] at this
    simp only [List.length_cons] at this ⊢; omega
   ·simp
theorem sp_mem (c : UInt8) : ∀ (l : List UInt8), ∀ v ∈ sp c l, v.length ≤ l.length
 | [], v, h => by simp [sp] at h; simp [h]
 | x :: r, v, h => by
  have ih := sp_mem c r
  rw [sp] at h
  split at h
  ·rcases List.mem_cons.1 h with rfl | h
   ·simp
   ·exact Nat.le_trans (ih v h) (by simp)
  ·split at h
   ·rename_i a t e
    rw [e] at ih
    rcases List.mem_cons.1 h with rfl | h
    ·have := ih a (List.mem_cons_self ..)
     simp only [List.length_cons]; omega
    ·exact Nat.le_trans (ih v (List.mem_cons_of_mem _ h)) (by simp)
   ·simp at h; simp [h]
theorem index_one (c : UInt8) (b : List UInt8) : ∀ a : List UInt8, (∀ x ∈ a, x ≠ c) → Lib.index (a ++ c :: b) [c] = (a.length : Int)
 | [], _ => by simp [Lib.index]
 | x :: r, h => by
  have ih := index_one c b r (fun y hy => h y (List.mem_cons_of_mem _ hy))
  have hx : ¬ (([c] : List UInt8).isPrefixOf (x :: (r ++ c :: b))) = true := by
   simp only [List.isPrefixOf, Bool.and_true, beq_iff_eq]
   exact fun e => h x (List.mem_cons_self ..) e.symm
  rw [List.cons_append, Lib.index, if_neg hx, ih, if_neg (by simp only [beq_iff_eq]; omega)]
  simp
theorem index_no (c : UInt8) : ∀ a : List UInt8, (∀ x ∈ a, x ≠ c) → Lib.index a [c] = -1
 | [], _ => by simp [Lib.index]
 | x :: r, h => by
  have ih := index_no c r (fun y hy => h y (List.mem_cons_of_mem _ hy))
  have hx : ¬ (([c] : List UInt8).isPrefixOf (x :: r)) = true := by
   simp only [List.isPrefixOf, Bool.and_true, beq_iff_eq]
   exact fun e => h x (List.mem_cons_self ..) e.symm
  rw [Lib.index, if_neg hx, ih]
  simp
theorem at_first (c : UInt8) : ∀ l : List UInt8, (∀ x ∈ l, x ≠ c) ∨ ∃ a b, l = a ++ c :: b ∧ ∀ x ∈ a, x ≠ c
 | [] => Or.inl (by simp)
 | x :: r => by
  by_cases h : x = c
  ·exact Or.inr ⟨[], r, by simp [h], by simp⟩
  ·rcases at_first c r with h1 | ⟨a, b, rfl, h1⟩
   ·refine Or.inl fun y hy => ?_
    rcases List.mem_cons.1 hy with rfl | hy
    ·exact h
    ·exact h1 y hy
   ·refine Or.inr ⟨x :: a, b, rfl, fun y hy => ?_⟩
    rcases List.mem_cons.1 hy with rfl | hy
    ·exact h
    ·exact h1 y hy
theorem splitB_sp (c : UInt8) : ∀ (n : Nat) (s : ByteArray), s.size ≤ n → (Lib.splitB ⟨#[c]⟩ 0 (Lib.countB s ⟨#[c]⟩) s).map (·.data.toList) = sp c s.data.toList
 | n, s, hn => by
  rcases at_first c s.data.toList with h | ⟨a, b, e, h⟩
  ·have hi : Lib.indexB s ⟨#[c]⟩ = -1 := index_no c _ h
   rw [Lib.splitB_miss _ _ _ _ hi, sp_no c _ h]
   rfl
  ·have hi : Lib.indexB s ⟨#[c]⟩ = (a.length : Int) := by
    show Lib.index s.data.toList [c] = _
    rw [e]; exact index_one c b a h
   have hz : s.size = a.length + (b.length + 1) := by
    have : s.size = s.data.toList.length := (Array.length_toList).symm
    rw [this, e]; simp
   have h1 : (s.extract 0 (a.length + 0)).data.toList = a := by
    rw [Lib.extract_from_zero, e]; simp
   have h2 : (s.extract (a.length + (⟨#[c]⟩ : ByteArray).size) s.size).data.toList = b := by
    rw [show (⟨#[c]⟩ : ByteArray).size = 1 from rfl]
    have : s.extract (a.length + 1) s.size = s.extract (a.length + 1) s.data.size := rfl
    simp only [ByteArray.data_extract, Array.toList_extract]
    rw [e]
    simp [List.extract, hz]
    exact List.take_of_length_le (by omega)
   rw [Lib.countB_hit s ⟨#[c]⟩ a.length (Nat.le_refl 1) hi, Nat.add_comm, Lib.splitB_hit _ _ _ _ _ hi, List.map_cons, h1, e, sp_cut c b a h]
   match n, hn with
   | 0, hn => omega
   | n + 1, hn =>
    rw [splitB_sp c n _ (by
     have : (s.extract (a.length + (⟨#[c]⟩ : ByteArray).size) s.size).size = b.length := by
      rw [← h2]; exact (Array.length_toList).symm
     omega), h2]
def numGo : Int → List UInt8 → Int × Bool
 | n, [] => (n, true)
 | n, c :: r => if c.toNat < 48 ∨ 57 < c.toNat then (0, false) else numGo (10 * n + ((c.toNat - 48 : Nat) : Int)) r
def numS (s : List UInt8) : Int × Bool := if s = [] ∨ 9 < s.length ∨ (s.head? = some 48 ∧ 1 < s.length) then (0, false) else numGo 0 s
theorem numGo_ge : ∀ (s : List UInt8) (n : Int), 0 ≤ n → 0 ≤ (numGo n s).1
 | [], n, h => h
 | c :: r, n, h => by
  rw [numGo]
  split
  ·exact Int.le_refl _
  ·exact numGo_ge r _ (by omega)
theorem numS_ge (s : List UInt8) : 0 ≤ (numS s).1 := by
 unfold numS
 split
 ·exact Int.le_refl _
 ·exact numGo_ge s 0 (Int.le_refl _)
theorem numS_dg : ∀ k : Fin 100, numS (dg k.val) = ((k.val : Int), true) := by decide +kernel
theorem dg_inj {k j : Nat} (hk : k < 100) (hj : j < 100) (h : dg k = dg j) : k = j := by
 have h1 := numS_dg ⟨k, hk⟩
 have h2 := numS_dg ⟨j, hj⟩
 simp only at h1 h2
 rw [h, h2] at h1
 have := congrArg Prod.fst h1
 simp only at this
 omega
def numI (most : Nat) (s : List UInt8) : Option Nat := (List.range (most + 1)).find? fun k => dg k == s
theorem numI_some {most k : Nat} {s : List UInt8} (hm : most < 100) (h : numI most s = some k) : k ≤ most ∧ dg k = s := by
 have h1 := List.find?_some h
 have h2 := List.mem_of_find?_eq_some h
 simp only [beq_iff_eq] at h1
 simp only [List.mem_range] at h2
 exact ⟨by omega, h1⟩
theorem numI_eq {most k : Nat} (hm : most < 100) (hk : k ≤ most) : numI most (dg k) = some k := by
 rcases hx : numI most (dg k) with _ | j
 ·have := List.find?_eq_none.1 hx k (by simp; omega)
  simp at this
 ·obtain ⟨h1, h2⟩ := numI_some hm hx
  rw [dg_inj (by omega) (by omega) h2]
theorem parse_dg : ∀ k : Fin 100, Lib.parseIntB 64 (dg k.val) = .ok (k.val : Int) := by decide +kernel
theorem numI_none {most : Nat} (hm : most < 100) {s : List UInt8} (h : ∀ v : Int, Lib.parseIntB 64 s ≠ .ok v) : numI most s = none := by
 rcases hx : numI most s with _ | j
 ·rfl
 ·obtain ⟨h1, h2⟩ := numI_some hm hx
  exact absurd (h2 ▸ parse_dg ⟨j, by omega⟩) (h _)
theorem numI_ok {most : Nat} (hm : most < 100) {s : List UInt8} {v : Int} (h : Lib.parseIntB 64 s = .ok v) :
  (Lib.itoa v = s ∧ 0 ≤ v ∧ v ≤ most → numI most s = some v.toNat) ∧ (¬ (Lib.itoa v = s ∧ 0 ≤ v ∧ v ≤ most) → numI most s = none) := by
 refine ⟨fun ⟨h1, h2, h3⟩ => ?_, fun h1 => ?_⟩
 ·have : dg v.toNat = s := by
   rw [← h1, ← dg_dec (by omega)]
   unfold Lib.itoa
   rw [if_neg (by omega)]
  rw [← this]
  exact numI_eq hm (by omega)
 ·rcases hx : numI most s with _ | j
  ·rfl
  ·obtain ⟨h2, h3⟩ := numI_some hm hx
   have h4 := parse_dg ⟨j, by omega⟩
   simp only at h4
   rw [h3, h] at h4
   obtain rfl : v = (j : Int) := by injection h4
   refine absurd ⟨?_, by omega, by omega⟩ h1
   rw [← h3, ← dg_dec (by omega)]
   unfold Lib.itoa
   rw [if_neg (by omega)]
   congr 1
end Go.Proofs.YtdgecgfgekmhcaaDoor.Arr
namespace Go.Proofs.YtdgecgfgekmhcaaDoor.Arr
open Go.Shelf Go.Proofs
set_option maxRecDepth 100000
def ren146 : Ren :=
 {
  f := fun x =>
   match x with
   | 146 => 33
   | 221 => 59
   | 268 => 71
   | 138 => 72
   | 143 => 73
   | 195 => 93
   | 197 => 94
   | 218 => 95
   | 219 => 96
   | 260 => 121
   | 217 => 122
   | 225 => 123
   | 224 => 124
   | 267 => 125
   | 266 => 137
   | 314 => 138
   | n => n,
  t := fun x =>
   match x with
   | 9 => 9
   | 31 => 23
   | 3 => 3
   | 4 => 4
   | 0 => 0
   | 105 => 122
   | 21 => 21
   | 5 => 5
   | 46 => 136
   | 119 => 164
   | 139 => 167
   | 138 => 166
   | 146 => 168
   | 51 => 143
   | n => n,
  g := fun x =>
   match x with
   | 1 => 1
   | 3 => 4
   | 4 => 5
   | n => n }
theorem lay146 : LaysM.n146 Go.Proofs.Tryd.prog ren146 where
 mixed := by kernel_rfl
 f138 := Eq.trans Go.Proofs.Tryd.func72 (congrArg some (by kernel_rfl))
 f143 := Eq.trans Go.Proofs.Tryd.func73 (congrArg some (by kernel_rfl))
 f146 := Eq.trans Go.Proofs.Tryd.func33 (congrArg some (by kernel_rfl))
 f195 := Eq.trans Go.Proofs.Tryd.func93 (congrArg some (by kernel_rfl))
 f197 := Eq.trans Go.Proofs.Tryd.func94 (congrArg some (by kernel_rfl))
 f217 := Eq.trans Go.Proofs.Tryd.func122 (congrArg some (by kernel_rfl))
 f218 := Eq.trans Go.Proofs.Tryd.func95 (congrArg some (by kernel_rfl))
 f219 := Eq.trans Go.Proofs.Tryd.func96 (congrArg some (by kernel_rfl))
 f221 := Eq.trans Go.Proofs.Tryd.func59 (congrArg some (by kernel_rfl))
 f224 := Eq.trans Go.Proofs.Tryd.func124 (congrArg some (by kernel_rfl))
 f225 := Eq.trans Go.Proofs.Tryd.func123 (congrArg some (by kernel_rfl))
 f260 := Eq.trans Go.Proofs.Tryd.func121 (congrArg some (by kernel_rfl))
 f266 := Eq.trans Go.Proofs.Tryd.func137 (congrArg some (by kernel_rfl))
 f267 := Eq.trans Go.Proofs.Tryd.func125 (congrArg some (by kernel_rfl))
 f268 := Eq.trans Go.Proofs.Tryd.func71 (congrArg some (by kernel_rfl))
 f314 := Eq.trans Go.Proofs.Tryd.func138 (congrArg some (by kernel_rfl))
 t0 := Go.Proofs.Tryd.underlying0
 a0 := Go.Proofs.Tryd.isAgg0
 z0 := Go.Proofs.Tryd.sizeOf0
 v0 := Go.Proofs.Tryd.zeroValue0
 t3 := Go.Proofs.Tryd.underlying3
 a3 := Go.Proofs.Tryd.isAgg3
 z3 := Go.Proofs.Tryd.sizeOf3
 v3 := Go.Proofs.Tryd.zeroValue3
 t4 := Go.Proofs.Tryd.underlying4
 a4 := Go.Proofs.Tryd.isAgg4
 z4 := Go.Proofs.Tryd.sizeOf4
 v4 := Go.Proofs.Tryd.zeroValue4
 t5 := Go.Proofs.Tryd.underlying5
 a5 := Go.Proofs.Tryd.isAgg5
 z5 := Go.Proofs.Tryd.sizeOf5
 v5 := Go.Proofs.Tryd.zeroValue5
 t9 := Go.Proofs.Tryd.underlying9
 a9 := Go.Proofs.Tryd.isAgg9
 z9 := Go.Proofs.Tryd.sizeOf9
 v9 := Go.Proofs.Tryd.zeroValue9
 t21 := Go.Proofs.Tryd.underlying21
 a21 := Go.Proofs.Tryd.isAgg21
 z21 := Go.Proofs.Tryd.sizeOf21
 v21 := Go.Proofs.Tryd.zeroValue21
 t31 := Go.Proofs.Tryd.underlying23
 a31 := Go.Proofs.Tryd.isAgg23
 z31 := Go.Proofs.Tryd.sizeOf23
 v31 := Go.Proofs.Tryd.zeroValue23
 t46 := Go.Proofs.Tryd.underlying136
 a46 := Go.Proofs.Tryd.isAgg136
 z46 := Go.Proofs.Tryd.sizeOf136
 v46 := Go.Proofs.Tryd.zeroValue136
 t51 := Go.Proofs.Tryd.underlying143
 a51 := Go.Proofs.Tryd.isAgg143
 z51 := Go.Proofs.Tryd.sizeOf143
 v51 := Go.Proofs.Tryd.zeroValue143
 t105 := Go.Proofs.Tryd.underlying122
 a105 := Go.Proofs.Tryd.isAgg122
 z105 := Go.Proofs.Tryd.sizeOf122
 v105 := Go.Proofs.Tryd.zeroValue122
 t119 := Go.Proofs.Tryd.underlying164
 a119 := Go.Proofs.Tryd.isAgg164
 z119 := Go.Proofs.Tryd.sizeOf164
 t138 := Go.Proofs.Tryd.underlying166
 a138 := Go.Proofs.Tryd.isAgg166
 z138 := Go.Proofs.Tryd.sizeOf166
 v138 := Go.Proofs.Tryd.zeroValue166
 t139 := Go.Proofs.Tryd.underlying167
 a139 := Go.Proofs.Tryd.isAgg167
 z139 := Go.Proofs.Tryd.sizeOf167
 v139 := Go.Proofs.Tryd.zeroValue167
 t146 := Go.Proofs.Tryd.underlying168
 a146 := Go.Proofs.Tryd.isAgg168
 z146 := Go.Proofs.Tryd.sizeOf168
 v146 := Go.Proofs.Tryd.zeroValue168
 g1 := by kernel_rfl
 g3 := by kernel_rfl
 g4 := by kernel_rfl
 i0 := Eq.refl (some (some (Value.tuple #[]), 1, 0))
 i3 := Eq.refl (some (some (Value.int IntKind.i64 0), 1, 8))
 i4 := Eq.refl (some (some (Value.bool false), 1, 1))
 i5 := Eq.refl (some (some (Value.int IntKind.u8 0), 1, 1))
 i9 := Eq.refl (some (some (Value.string { data := #[] }), 1, 16))
 i21 := Eq.refl (some (some (Value.int IntKind.i32 0), 1, 4))
 i31 := Eq.refl (some (some (Value.slice none 0 0), 1, 24))
 i46 := Eq.refl (some (some (Value.int IntKind.u64 0), 1, 8))
 i51 := Eq.refl (some (some (Value.int IntKind.u32 0), 1, 4))
 i105 := Eq.refl (some (some (Value.tuple #[Value.int IntKind.i32 0, Value.int IntKind.i64 0]), 1, 0))
 i138 := Eq.refl (some (some (Value.agg #[Value.int IntKind.u8 0, Value.int IntKind.u8 0]), 2, 2))
 i139 := Eq.refl (some (some (Value.agg #[Value.int IntKind.u8 0, Value.int IntKind.u8 0, Value.int IntKind.u8 0, Value.int IntKind.u8 0, Value.int IntKind.u8 0, Value.int IntKind.u8 0, Value.int IntKind.u8 0, Value.int IntKind.u8 0, Value.int IntKind.u8 0, Value.int IntKind.u8 0, Value.int IntKind.u8 0, Value.int IntKind.u8 0, Value.int IntKind.u8 0, Value.int IntKind.u8 0, Value.int IntKind.u8 0, Value.int IntKind.u8 0, Value.int IntKind.u8 0, Value.int IntKind.u8 0, Value.int IntKind.u8 0, Value.int IntKind.u8 0, Value.int IntKind.u8 0, Value.int IntKind.u8 0, Value.int IntKind.u8 0, Value.int IntKind.u8 0, Value.int IntKind.u8 0, Value.int IntKind.u8 0, Value.int IntKind.u8 0, Value.int IntKind.u8 0, Value.int IntKind.u8 0, Value.int IntKind.u8 0, Value.int IntKind.u8 0, Value.int IntKind.u8 0]), 32, 32))
 i146 := Eq.refl (some (some (Value.tuple #[Value.int IntKind.u32 0, Value.int IntKind.u32 0]), 1, 0))
 m1 := by kernel_rfl
 s1_3 := fun w h => cell_of_shapedOpen_int (zero := #[.int .i64 0]) (t := 3) h (of_decide_eq_true (by kernel_rfl)) (by kernel_rfl) rfl (by kernel_rfl) (by kernel_rfl) Go.Proofs.Tryd.underlying3
 m3 := by kernel_rfl
 m4 := by kernel_rfl
def ren174 : Ren :=
 {
  f := fun x =>
   match x with
   | 174 => 64
   | 247 => 85
   | 245 => 86
   | 287 => 107
   | 279 => 108
   | 280 => 109
   | 281 => 110
   | 282 => 111
   | 321 => 130
   | 322 => 131
   | 316 => 132
   | 171 => 134
   | 205 => 133
   | 243 => 143
   | 246 => 68
   | 283 => 87
   | 284 => 88
   | 285 => 89
   | 286 => 90
   | 129 => 113
   | 317 => 112
   | 318 => 114
   | 319 => 115
   | 320 => 116
   | 337 => 135
   | 338 => 136
   | n => n,
  t := fun x =>
   match x with
   | 9 => 9
   | 3 => 3
   | 2 => 2
   | 75 => 92
   | 85 => 93
   | 4 => 4
   | 167 => 133
   | 5 => 5
   | 53 => 115
   | 175 => 134
   | 46 => 136
   | 168 => 137
   | 37 => 96
   | 0 => 0
   | 210 => 161
   | 21 => 21
   | 127 => 172
   | 145 => 175
   | 143 => 173
   | 171 => 114
   | 173 => 118
   | 212 => 142
   | 51 => 143
   | 20 => 20
   | 213 => 144
   | 232 => 176
   | 233 => 177
   | 80 => 178
   | n => n,
  g := fun x =>
   match x with
   | 15 => 2
   | 16 => 3
   | 17 => 0
   | 18 => 6
   | 19 => 7
   | n => n }
theorem lay174 : LaysC.n174 Go.Proofs.Tryd.prog ren174 where
 mixed := by kernel_rfl
 f129 := Eq.trans Go.Proofs.Tryd.func113 (congrArg some (by kernel_rfl))
 f171 := Eq.trans Go.Proofs.Tryd.func134 (congrArg some (by kernel_rfl))
 f174 := Eq.trans Go.Proofs.Tryd.func64 (congrArg some (by kernel_rfl))
 f205 := Eq.trans Go.Proofs.Tryd.func133 (congrArg some (by kernel_rfl))
 f243 := Eq.trans Go.Proofs.Tryd.func143 (congrArg some (by kernel_rfl))
 f245 := Eq.trans Go.Proofs.Tryd.func86 (congrArg some (by kernel_rfl))
 f246 := Eq.trans Go.Proofs.Tryd.func68 (congrArg some (by kernel_rfl))
 f247 := Eq.trans Go.Proofs.Tryd.func85 (congrArg some (by kernel_rfl))
 f279 := Eq.trans Go.Proofs.Tryd.func108 (congrArg some (by kernel_rfl))
 f280 := Eq.trans Go.Proofs.Tryd.func109 (congrArg some (by kernel_rfl))
 f281 := Eq.trans Go.Proofs.Tryd.func110 (congrArg some (by kernel_rfl))
 f282 := Eq.trans Go.Proofs.Tryd.func111 (congrArg some (by kernel_rfl))
 f283 := Eq.trans Go.Proofs.Tryd.func87 (congrArg some (by kernel_rfl))
 f284 := Eq.trans Go.Proofs.Tryd.func88 (congrArg some (by kernel_rfl))
 f285 := Eq.trans Go.Proofs.Tryd.func89 (congrArg some (by kernel_rfl))
 f286 := Eq.trans Go.Proofs.Tryd.func90 (congrArg some (by kernel_rfl))
 f287 := Eq.trans Go.Proofs.Tryd.func107 (congrArg some (by kernel_rfl))
 f316 := Eq.trans Go.Proofs.Tryd.func132 (congrArg some (by kernel_rfl))
 f317 := Eq.trans Go.Proofs.Tryd.func112 (congrArg some (by kernel_rfl))
 f318 := Eq.trans Go.Proofs.Tryd.func114 (congrArg some (by kernel_rfl))
 f319 := Eq.trans Go.Proofs.Tryd.func115 (congrArg some (by kernel_rfl))
 f320 := Eq.trans Go.Proofs.Tryd.func116 (congrArg some (by kernel_rfl))
 f321 := Eq.trans Go.Proofs.Tryd.func130 (congrArg some (by kernel_rfl))
 f322 := Eq.trans Go.Proofs.Tryd.func131 (congrArg some (by kernel_rfl))
 f337 := Eq.trans Go.Proofs.Tryd.func135 (congrArg some (by kernel_rfl))
 f338 := Eq.trans Go.Proofs.Tryd.func136 (congrArg some (by kernel_rfl))
 t0 := Go.Proofs.Tryd.underlying0
 a0 := Go.Proofs.Tryd.isAgg0
 z0 := Go.Proofs.Tryd.sizeOf0
 v0 := Go.Proofs.Tryd.zeroValue0
 t2 := Go.Proofs.Tryd.underlying2
 a2 := Go.Proofs.Tryd.isAgg2
 z2 := Go.Proofs.Tryd.sizeOf2
 v2 := Go.Proofs.Tryd.zeroValue2
 t3 := Go.Proofs.Tryd.underlying3
 a3 := Go.Proofs.Tryd.isAgg3
 z3 := Go.Proofs.Tryd.sizeOf3
 v3 := Go.Proofs.Tryd.zeroValue3
 t4 := Go.Proofs.Tryd.underlying4
 a4 := Go.Proofs.Tryd.isAgg4
 z4 := Go.Proofs.Tryd.sizeOf4
 v4 := Go.Proofs.Tryd.zeroValue4
 t5 := Go.Proofs.Tryd.underlying5
 a5 := Go.Proofs.Tryd.isAgg5
 z5 := Go.Proofs.Tryd.sizeOf5
 v5 := Go.Proofs.Tryd.zeroValue5
 t9 := Go.Proofs.Tryd.underlying9
 a9 := Go.Proofs.Tryd.isAgg9
 z9 := Go.Proofs.Tryd.sizeOf9
 v9 := Go.Proofs.Tryd.zeroValue9
 t20 := Go.Proofs.Tryd.underlying20
 a20 := Go.Proofs.Tryd.isAgg20
 z20 := Go.Proofs.Tryd.sizeOf20
 v20 := Go.Proofs.Tryd.zeroValue20
 t21 := Go.Proofs.Tryd.underlying21
 a21 := Go.Proofs.Tryd.isAgg21
 z21 := Go.Proofs.Tryd.sizeOf21
 v21 := Go.Proofs.Tryd.zeroValue21
 t37 := Go.Proofs.Tryd.underlying96
 a37 := Go.Proofs.Tryd.isAgg96
 z37 := Go.Proofs.Tryd.sizeOf96
 v37 := Go.Proofs.Tryd.zeroValue96
 t46 := Go.Proofs.Tryd.underlying136
 a46 := Go.Proofs.Tryd.isAgg136
 z46 := Go.Proofs.Tryd.sizeOf136
 v46 := Go.Proofs.Tryd.zeroValue136
 t51 := Go.Proofs.Tryd.underlying143
 a51 := Go.Proofs.Tryd.isAgg143
 z51 := Go.Proofs.Tryd.sizeOf143
 v51 := Go.Proofs.Tryd.zeroValue143
 t53 := Go.Proofs.Tryd.underlying115
 a53 := Go.Proofs.Tryd.isAgg115
 z53 := Go.Proofs.Tryd.sizeOf115
 v53 := Go.Proofs.Tryd.zeroValue115
 t75 := Go.Proofs.Tryd.underlying92
 a75 := Go.Proofs.Tryd.isAgg92
 z75 := Go.Proofs.Tryd.sizeOf92
 v75 := Go.Proofs.Tryd.zeroValue92
 t85 := Go.Proofs.Tryd.underlying93
 a85 := Go.Proofs.Tryd.isAgg93
 z85 := Go.Proofs.Tryd.sizeOf93
 v85 := Go.Proofs.Tryd.zeroValue93
 t127 := Go.Proofs.Tryd.underlying172
 a127 := Go.Proofs.Tryd.isAgg172
 z127 := Go.Proofs.Tryd.sizeOf172
 v127 := Go.Proofs.Tryd.zeroValue172
 t143 := Go.Proofs.Tryd.underlying173
 a143 := Go.Proofs.Tryd.isAgg173
 z143 := Go.Proofs.Tryd.sizeOf173
 v143 := Go.Proofs.Tryd.zeroValue173
 t145 := Go.Proofs.Tryd.underlying175
 a145 := Go.Proofs.Tryd.isAgg175
 z145 := Go.Proofs.Tryd.sizeOf175
 v145 := Go.Proofs.Tryd.zeroValue175
 t167 := Go.Proofs.Tryd.underlying133
 a167 := Go.Proofs.Tryd.isAgg133
 z167 := Go.Proofs.Tryd.sizeOf133
 v167 := Go.Proofs.Tryd.zeroValue133
 t168 := Go.Proofs.Tryd.underlying137
 a168 := Go.Proofs.Tryd.isAgg137
 z168 := Go.Proofs.Tryd.sizeOf137
 v168 := Go.Proofs.Tryd.zeroValue137
 t171 := Go.Proofs.Tryd.underlying114
 a171 := Go.Proofs.Tryd.isAgg114
 z171 := Go.Proofs.Tryd.sizeOf114
 v171 := Go.Proofs.Tryd.zeroValue114
 t173 := Go.Proofs.Tryd.underlying118
 a173 := Go.Proofs.Tryd.isAgg118
 z173 := Go.Proofs.Tryd.sizeOf118
 v173 := Go.Proofs.Tryd.zeroValue118
 t175 := Go.Proofs.Tryd.underlying134
 a175 := Go.Proofs.Tryd.isAgg134
 z175 := Go.Proofs.Tryd.sizeOf134
 v175 := Go.Proofs.Tryd.zeroValue134
 t210 := Go.Proofs.Tryd.underlying161
 a210 := Go.Proofs.Tryd.isAgg161
 z210 := Go.Proofs.Tryd.sizeOf161
 v210 := Go.Proofs.Tryd.zeroValue161
 t212 := Go.Proofs.Tryd.underlying142
 a212 := Go.Proofs.Tryd.isAgg142
 z212 := Go.Proofs.Tryd.sizeOf142
 v212 := Go.Proofs.Tryd.zeroValue142
 t213 := Go.Proofs.Tryd.underlying144
 a213 := Go.Proofs.Tryd.isAgg144
 z213 := Go.Proofs.Tryd.sizeOf144
 t232 := Go.Proofs.Tryd.underlying176
 a232 := Go.Proofs.Tryd.isAgg176
 z232 := Go.Proofs.Tryd.sizeOf176
 v232 := Go.Proofs.Tryd.zeroValue176
 t233 := Go.Proofs.Tryd.underlying177
 a233 := Go.Proofs.Tryd.isAgg177
 z233 := Go.Proofs.Tryd.sizeOf177
 v233 := Go.Proofs.Tryd.zeroValue177
 g15 := by kernel_rfl
 g16 := by kernel_rfl
 g17 := by kernel_rfl
 g18 := by kernel_rfl
 g19 := by kernel_rfl
 t80 := Go.Proofs.Tryd.underlying178
 a80 := Go.Proofs.Tryd.isAgg178
 z80 := Go.Proofs.Tryd.sizeOf178
 v80 := Go.Proofs.Tryd.zeroValue178
 i0 := Eq.refl (some (some (Value.tuple #[]), 1, 0))
 i2 := Eq.refl (some (some (Value.int IntKind.i64 0), 1, 8))
 i3 := Eq.refl (some (some (Value.int IntKind.i64 0), 1, 8))
 i4 := Eq.refl (some (some (Value.bool false), 1, 1))
 i5 := Eq.refl (some (some (Value.int IntKind.u8 0), 1, 1))
 i9 := Eq.refl (some (some (Value.string { data := #[] }), 1, 16))
 i20 := by kernel_rfl
 i21 := Eq.refl (some (some (Value.int IntKind.i32 0), 1, 4))
 i37 := Eq.refl (some (some (Value.slice none 0 0), 1, 24))
 i46 := Eq.refl (some (some (Value.int IntKind.u64 0), 1, 8))
 i51 := Eq.refl (some (some (Value.int IntKind.u32 0), 1, 4))
 i53 := Eq.refl (some (some (Value.int IntKind.u64 0), 1, 8))
 i75 := by kernel_rfl
 i80 := by kernel_rfl
 i85 := Eq.refl (some (some (Value.tuple #[Value.int IntKind.i64 0, Value.nilIface]), 1, 0))
 i127 := Eq.refl (some (some (Value.pointer none), 1, 8))
 i143 := Eq.refl (some (some (Value.pointer none), 1, 8))
 i145 := Eq.refl (some (some (Value.agg #[Value.string { data := #[] }]), 1, 16))
 i167 := Eq.refl (some (some (Value.int IntKind.i64 0), 1, 8))
 i168 := Eq.refl (some (some (Value.pointer none), 1, 8))
 i171 := Eq.refl (some (some (Value.agg #[Value.int IntKind.u8 0, Value.int IntKind.u8 0, Value.int IntKind.u8 0, Value.int IntKind.u8 0, Value.int IntKind.u8 0, Value.int IntKind.u8 0, Value.int IntKind.u8 0, Value.int IntKind.u8 0, Value.int IntKind.u8 0, Value.int IntKind.u8 0, Value.int IntKind.u8 0, Value.int IntKind.u8 0, Value.int IntKind.u8 0, Value.int IntKind.u8 0, Value.int IntKind.u8 0, Value.int IntKind.u8 0, Value.int IntKind.u8 0, Value.int IntKind.u8 0, Value.int IntKind.u8 0, Value.int IntKind.u8 0, Value.int IntKind.u8 0, Value.int IntKind.u8 0, Value.int IntKind.u8 0, Value.int IntKind.u8 0]), 24, 24))
 i173 := Eq.refl (some (some (Value.tuple #[Value.slice none 0 0, Value.string { data := #[] }]), 1, 0))
 i175 := Eq.refl (some (some (Value.tuple #[Value.int IntKind.u64 0, Value.nilIface]), 1, 0))
 i210 := Eq.refl (some (some (Value.agg #[Value.string { data := #[] }, Value.string { data := #[] }, Value.nilIface]), 3, 48))
 i212 := Eq.refl (some (some (Value.agg #[Value.int IntKind.u64 0, Value.int IntKind.u64 0, Value.int IntKind.u64 0, Value.int IntKind.u64 0, Value.int IntKind.u64 0, Value.int IntKind.u64 0, Value.int IntKind.u64 0, Value.int IntKind.u64 0, Value.int IntKind.u64 0, Value.int IntKind.u64 0, Value.int IntKind.u64 0, Value.int IntKind.u64 0, Value.int IntKind.u64 0, Value.int IntKind.u64 0, Value.int IntKind.u64 0, Value.int IntKind.u64 0, Value.int IntKind.u64 0, Value.int IntKind.u64 0, Value.int IntKind.u64 0, Value.int IntKind.u64 0]), 20, 160))
 i232 := Eq.refl (some (some (Value.agg #[Value.int IntKind.u8 0, Value.int IntKind.u8 0, Value.int IntKind.u8 0, Value.int IntKind.u8 0, Value.int IntKind.u8 0, Value.int IntKind.u8 0, Value.int IntKind.u8 0, Value.int IntKind.u8 0, Value.int IntKind.u8 0, Value.int IntKind.u8 0, Value.int IntKind.u8 0, Value.int IntKind.u8 0, Value.int IntKind.u8 0, Value.int IntKind.u8 0, Value.int IntKind.u8 0, Value.int IntKind.u8 0, Value.int IntKind.u8 0, Value.int IntKind.u8 0, Value.int IntKind.u8 0, Value.int IntKind.u8 0, Value.int IntKind.u8 0, Value.int IntKind.u8 0, Value.int IntKind.u8 0, Value.int IntKind.u8 0, Value.int IntKind.u8 0, Value.int IntKind.u8 0, Value.int IntKind.u8 0, Value.int IntKind.u8 0, Value.int IntKind.u8 0, Value.int IntKind.u8 0, Value.int IntKind.u8 0, Value.int IntKind.u8 0]), 32, 32))
 i233 := Eq.refl (some (some (Value.agg (let y := let y := let y := let y := [Value.int IntKind.u8 0, Value.int IntKind.u8 0, Value.int IntKind.u8 0, Value.int IntKind.u8 0]; Value.int IntKind.u8 0 :: Value.int IntKind.u8 0 :: Value.int IntKind.u8 0 :: Value.int IntKind.u8 0 :: y; let y := Value.int IntKind.u8 0 :: Value.int IntKind.u8 0 :: Value.int IntKind.u8 0 :: Value.int IntKind.u8 0 :: y; Value.int IntKind.u8 0 :: Value.int IntKind.u8 0 :: Value.int IntKind.u8 0 :: Value.int IntKind.u8 0 :: y; let y := let y := Value.int IntKind.u8 0 :: Value.int IntKind.u8 0 :: Value.int IntKind.u8 0 :: Value.int IntKind.u8 0 :: y; Value.int IntKind.u8 0 :: Value.int IntKind.u8 0 :: Value.int IntKind.u8 0 :: Value.int IntKind.u8 0 :: y; let y := Value.int IntKind.u8 0 :: Value.int IntKind.u8 0 :: Value.int IntKind.u8 0 :: Value.int IntKind.u8 0 :: y; Value.int IntKind.u8 0 :: Value.int IntKind.u8 0 :: Value.int IntKind.u8 0 :: Value.int IntKind.u8 0 :: y; let y := let y := let y := Value.int IntKind.u8 0 :: Value.int IntKind.u8 0 :: Value.int IntKind.u8 0 :: Value.int IntKind.u8 0 :: y; Value.int IntKind.u8 0 :: Value.int IntKind.u8 0 :: Value.int IntKind.u8 0 :: Value.int IntKind.u8 0 :: y; let y := Value.int IntKind.u8 0 :: Value.int IntKind.u8 0 :: Value.int IntKind.u8 0 :: Value.int IntKind.u8 0 :: y; Value.int IntKind.u8 0 :: Value.int IntKind.u8 0 :: Value.int IntKind.u8 0 :: Value.int IntKind.u8 0 :: y; let y := let y := Value.int IntKind.u8 0 :: Value.int IntKind.u8 0 :: Value.int IntKind.u8 0 :: Value.int IntKind.u8 0 :: y; Value.int IntKind.u8 0 :: Value.int IntKind.u8 0 :: Value.int IntKind.u8 0 :: Value.int IntKind.u8 0 :: y; let y := Value.int IntKind.u8 0 :: Value.int IntKind.u8 0 :: Value.int IntKind.u8 0 :: Value.int IntKind.u8 0 :: y; Value.int IntKind.u8 0 :: Value.int IntKind.u8 0 :: Value.int IntKind.u8 0 :: Value.int IntKind.u8 0 :: y).toArray), 64, 64))
 m15 := by kernel_rfl
 m16 := by kernel_rfl
 m17 := by kernel_rfl
 m18 := by kernel_rfl
 m19 := by kernel_rfl
 c0 := Eq.refl (some false)
 c2 := Eq.refl (some true)
 c3 := Eq.refl (some true)
 c4 := Eq.refl (some true)
 c5 := Eq.refl (some true)
 c9 := Eq.refl (some true)
 c20 := Eq.refl (some true)
 c21 := Eq.refl (some true)
 c37 := Eq.refl (some false)
 c46 := Eq.refl (some true)
 c51 := Eq.refl (some true)
 c53 := Eq.refl (some true)
 c75 := Eq.refl (some true)
 c80 := Eq.refl (some false)
 c85 := Eq.refl (some false)
 c127 := Eq.refl (some true)
 c143 := Eq.refl (some true)
 c145 := Eq.refl (some true)
 c167 := Eq.refl (some true)
 c168 := Eq.refl (some true)
 c171 := Eq.refl (some true)
 c173 := Eq.refl (some false)
 c175 := Eq.refl (some false)
 c210 := Eq.refl (some true)
 c212 := Eq.refl (some true)
 c213 := Eq.refl (some true)
 c232 := Eq.refl (some true)
 c233 := Eq.refl (some true)
def renM173 : Ren :=
 {
  f := fun x =>
   match x with
   | 173 => 54
   | 246 => 68
   | 283 => 87
   | 284 => 88
   | 285 => 89
   | 286 => 90
   | 129 => 113
   | 317 => 112
   | 318 => 114
   | 319 => 115
   | 320 => 116
   | 337 => 135
   | 338 => 136
   | n => n,
  t := fun x =>
   match x with
   | 2 => 2
   | 3 => 3
   | 9 => 9
   | 4 => 4
   | 171 => 114
   | 0 => 0
   | 53 => 115
   | 37 => 96
   | 5 => 5
   | 173 => 118
   | 212 => 142
   | 51 => 143
   | 20 => 20
   | 213 => 144
   | 46 => 136
   | 232 => 176
   | 233 => 177
   | n => n,
  g := fun x =>
   match x with
   | 17 => 0
   | 18 => 6
   | 19 => 7
   | n => n }
theorem layM173 : LaysM.n173 Go.Proofs.Tryd.prog renM173 where
 mixed := by kernel_rfl
 f129 := Eq.trans Go.Proofs.Tryd.func113 (congrArg some (by kernel_rfl))
 f173 := Eq.trans Go.Proofs.Tryd.func54 (congrArg some (by kernel_rfl))
 f246 := Eq.trans Go.Proofs.Tryd.func68 (congrArg some (by kernel_rfl))
 f283 := Eq.trans Go.Proofs.Tryd.func87 (congrArg some (by kernel_rfl))
 f284 := Eq.trans Go.Proofs.Tryd.func88 (congrArg some (by kernel_rfl))
 f285 := Eq.trans Go.Proofs.Tryd.func89 (congrArg some (by kernel_rfl))
 f286 := Eq.trans Go.Proofs.Tryd.func90 (congrArg some (by kernel_rfl))
 f317 := Eq.trans Go.Proofs.Tryd.func112 (congrArg some (by kernel_rfl))
 f318 := Eq.trans Go.Proofs.Tryd.func114 (congrArg some (by kernel_rfl))
 f319 := Eq.trans Go.Proofs.Tryd.func115 (congrArg some (by kernel_rfl))
 f320 := Eq.trans Go.Proofs.Tryd.func116 (congrArg some (by kernel_rfl))
 f337 := Eq.trans Go.Proofs.Tryd.func135 (congrArg some (by kernel_rfl))
 f338 := Eq.trans Go.Proofs.Tryd.func136 (congrArg some (by kernel_rfl))
 t0 := Go.Proofs.Tryd.underlying0
 a0 := Go.Proofs.Tryd.isAgg0
 z0 := Go.Proofs.Tryd.sizeOf0
 v0 := Go.Proofs.Tryd.zeroValue0
 t2 := Go.Proofs.Tryd.underlying2
 a2 := Go.Proofs.Tryd.isAgg2
 z2 := Go.Proofs.Tryd.sizeOf2
 v2 := Go.Proofs.Tryd.zeroValue2
 t3 := Go.Proofs.Tryd.underlying3
 a3 := Go.Proofs.Tryd.isAgg3
 z3 := Go.Proofs.Tryd.sizeOf3
 v3 := Go.Proofs.Tryd.zeroValue3
 t4 := Go.Proofs.Tryd.underlying4
 a4 := Go.Proofs.Tryd.isAgg4
 z4 := Go.Proofs.Tryd.sizeOf4
 v4 := Go.Proofs.Tryd.zeroValue4
 t5 := Go.Proofs.Tryd.underlying5
 a5 := Go.Proofs.Tryd.isAgg5
 z5 := Go.Proofs.Tryd.sizeOf5
 v5 := Go.Proofs.Tryd.zeroValue5
 t9 := Go.Proofs.Tryd.underlying9
 a9 := Go.Proofs.Tryd.isAgg9
 z9 := Go.Proofs.Tryd.sizeOf9
 v9 := Go.Proofs.Tryd.zeroValue9
 t20 := Go.Proofs.Tryd.underlying20
 a20 := Go.Proofs.Tryd.isAgg20
 z20 := Go.Proofs.Tryd.sizeOf20
 v20 := Go.Proofs.Tryd.zeroValue20
 t37 := Go.Proofs.Tryd.underlying96
 a37 := Go.Proofs.Tryd.isAgg96
 z37 := Go.Proofs.Tryd.sizeOf96
 v37 := Go.Proofs.Tryd.zeroValue96
 t46 := Go.Proofs.Tryd.underlying136
 a46 := Go.Proofs.Tryd.isAgg136
 z46 := Go.Proofs.Tryd.sizeOf136
 v46 := Go.Proofs.Tryd.zeroValue136
 t51 := Go.Proofs.Tryd.underlying143
 a51 := Go.Proofs.Tryd.isAgg143
 z51 := Go.Proofs.Tryd.sizeOf143
 v51 := Go.Proofs.Tryd.zeroValue143
 t53 := Go.Proofs.Tryd.underlying115
 a53 := Go.Proofs.Tryd.isAgg115
 z53 := Go.Proofs.Tryd.sizeOf115
 v53 := Go.Proofs.Tryd.zeroValue115
 t171 := Go.Proofs.Tryd.underlying114
 a171 := Go.Proofs.Tryd.isAgg114
 z171 := Go.Proofs.Tryd.sizeOf114
 v171 := Go.Proofs.Tryd.zeroValue114
 t173 := Go.Proofs.Tryd.underlying118
 a173 := Go.Proofs.Tryd.isAgg118
 z173 := Go.Proofs.Tryd.sizeOf118
 v173 := Go.Proofs.Tryd.zeroValue118
 t212 := Go.Proofs.Tryd.underlying142
 a212 := Go.Proofs.Tryd.isAgg142
 z212 := Go.Proofs.Tryd.sizeOf142
 v212 := Go.Proofs.Tryd.zeroValue142
 t213 := Go.Proofs.Tryd.underlying144
 a213 := Go.Proofs.Tryd.isAgg144
 z213 := Go.Proofs.Tryd.sizeOf144
 t232 := Go.Proofs.Tryd.underlying176
 a232 := Go.Proofs.Tryd.isAgg176
 z232 := Go.Proofs.Tryd.sizeOf176
 v232 := Go.Proofs.Tryd.zeroValue176
 t233 := Go.Proofs.Tryd.underlying177
 a233 := Go.Proofs.Tryd.isAgg177
 z233 := Go.Proofs.Tryd.sizeOf177
 v233 := Go.Proofs.Tryd.zeroValue177
 g17 := by kernel_rfl
 g18 := by kernel_rfl
 g19 := by kernel_rfl
 i0 := Eq.refl (some (some (Value.tuple #[]), 1, 0))
 i2 := Eq.refl (some (some (Value.int IntKind.i64 0), 1, 8))
 i3 := Eq.refl (some (some (Value.int IntKind.i64 0), 1, 8))
 i4 := Eq.refl (some (some (Value.bool false), 1, 1))
 i5 := Eq.refl (some (some (Value.int IntKind.u8 0), 1, 1))
 i9 := Eq.refl (some (some (Value.string { data := #[] }), 1, 16))
 i20 := by kernel_rfl
 i37 := Eq.refl (some (some (Value.slice none 0 0), 1, 24))
 i46 := Eq.refl (some (some (Value.int IntKind.u64 0), 1, 8))
 i51 := Eq.refl (some (some (Value.int IntKind.u32 0), 1, 4))
 i53 := Eq.refl (some (some (Value.int IntKind.u64 0), 1, 8))
 i171 := Eq.refl (some (some (Value.agg #[Value.int IntKind.u8 0, Value.int IntKind.u8 0, Value.int IntKind.u8 0, Value.int IntKind.u8 0, Value.int IntKind.u8 0, Value.int IntKind.u8 0, Value.int IntKind.u8 0, Value.int IntKind.u8 0, Value.int IntKind.u8 0, Value.int IntKind.u8 0, Value.int IntKind.u8 0, Value.int IntKind.u8 0, Value.int IntKind.u8 0, Value.int IntKind.u8 0, Value.int IntKind.u8 0, Value.int IntKind.u8 0, Value.int IntKind.u8 0, Value.int IntKind.u8 0, Value.int IntKind.u8 0, Value.int IntKind.u8 0, Value.int IntKind.u8 0, Value.int IntKind.u8 0, Value.int IntKind.u8 0, Value.int IntKind.u8 0]), 24, 24))
 i173 := Eq.refl (some (some (Value.tuple #[Value.slice none 0 0, Value.string { data := #[] }]), 1, 0))
 i212 := Eq.refl (some (some (Value.agg #[Value.int IntKind.u64 0, Value.int IntKind.u64 0, Value.int IntKind.u64 0, Value.int IntKind.u64 0, Value.int IntKind.u64 0, Value.int IntKind.u64 0, Value.int IntKind.u64 0, Value.int IntKind.u64 0, Value.int IntKind.u64 0, Value.int IntKind.u64 0, Value.int IntKind.u64 0, Value.int IntKind.u64 0, Value.int IntKind.u64 0, Value.int IntKind.u64 0, Value.int IntKind.u64 0, Value.int IntKind.u64 0, Value.int IntKind.u64 0, Value.int IntKind.u64 0, Value.int IntKind.u64 0, Value.int IntKind.u64 0]), 20, 160))
 i232 := Eq.refl (some (some (Value.agg #[Value.int IntKind.u8 0, Value.int IntKind.u8 0, Value.int IntKind.u8 0, Value.int IntKind.u8 0, Value.int IntKind.u8 0, Value.int IntKind.u8 0, Value.int IntKind.u8 0, Value.int IntKind.u8 0, Value.int IntKind.u8 0, Value.int IntKind.u8 0, Value.int IntKind.u8 0, Value.int IntKind.u8 0, Value.int IntKind.u8 0, Value.int IntKind.u8 0, Value.int IntKind.u8 0, Value.int IntKind.u8 0, Value.int IntKind.u8 0, Value.int IntKind.u8 0, Value.int IntKind.u8 0, Value.int IntKind.u8 0, Value.int IntKind.u8 0, Value.int IntKind.u8 0, Value.int IntKind.u8 0, Value.int IntKind.u8 0, Value.int IntKind.u8 0, Value.int IntKind.u8 0, Value.int IntKind.u8 0, Value.int IntKind.u8 0, Value.int IntKind.u8 0, Value.int IntKind.u8 0, Value.int IntKind.u8 0, Value.int IntKind.u8 0]), 32, 32))
 i233 := Eq.refl (some (some (Value.agg (let y := let y := let y := let y := [Value.int IntKind.u8 0, Value.int IntKind.u8 0, Value.int IntKind.u8 0, Value.int IntKind.u8 0]; Value.int IntKind.u8 0 :: Value.int IntKind.u8 0 :: Value.int IntKind.u8 0 :: Value.int IntKind.u8 0 :: y; let y := Value.int IntKind.u8 0 :: Value.int IntKind.u8 0 :: Value.int IntKind.u8 0 :: Value.int IntKind.u8 0 :: y; Value.int IntKind.u8 0 :: Value.int IntKind.u8 0 :: Value.int IntKind.u8 0 :: Value.int IntKind.u8 0 :: y; let y := let y := Value.int IntKind.u8 0 :: Value.int IntKind.u8 0 :: Value.int IntKind.u8 0 :: Value.int IntKind.u8 0 :: y; Value.int IntKind.u8 0 :: Value.int IntKind.u8 0 :: Value.int IntKind.u8 0 :: Value.int IntKind.u8 0 :: y; let y := Value.int IntKind.u8 0 :: Value.int IntKind.u8 0 :: Value.int IntKind.u8 0 :: Value.int IntKind.u8 0 :: y; Value.int IntKind.u8 0 :: Value.int IntKind.u8 0 :: Value.int IntKind.u8 0 :: Value.int IntKind.u8 0 :: y; let y := let y := let y := Value.int IntKind.u8 0 :: Value.int IntKind.u8 0 :: Value.int IntKind.u8 0 :: Value.int IntKind.u8 0 :: y; Value.int IntKind.u8 0 :: Value.int IntKind.u8 0 :: Value.int IntKind.u8 0 :: Value.int IntKind.u8 0 :: y; let y := Value.int IntKind.u8 0 :: Value.int IntKind.u8 0 :: Value.int IntKind.u8 0 :: Value.int IntKind.u8 0 :: y; Value.int IntKind.u8 0 :: Value.int IntKind.u8 0 :: Value.int IntKind.u8 0 :: Value.int IntKind.u8 0 :: y; let y := let y := Value.int IntKind.u8 0 :: Value.int IntKind.u8 0 :: Value.int IntKind.u8 0 :: Value.int IntKind.u8 0 :: y; Value.int IntKind.u8 0 :: Value.int IntKind.u8 0 :: Value.int IntKind.u8 0 :: Value.int IntKind.u8 0 :: y; let y := Value.int IntKind.u8 0 :: Value.int IntKind.u8 0 :: Value.int IntKind.u8 0 :: Value.int IntKind.u8 0 :: y; Value.int IntKind.u8 0 :: Value.int IntKind.u8 0 :: Value.int IntKind.u8 0 :: Value.int IntKind.u8 0 :: y).toArray), 64, 64))
 m17 := by kernel_rfl
 m18 := by kernel_rfl
 m19 := by kernel_rfl
end Go.Proofs.YtdgecgfgekmhcaaDoor.Arr
namespace Go.Proofs.YtdgecgfgekmhcaaDoor.Arr
open Go.RowKit Go.Proofs.YtdgecgfgekmhcaaDoor.U Go.Proofs.YtdgecgfgekmhcaaDoorW.PrintWords
set_option linter.unusedVariables false
set_option linter.unusedSimpArgs false
section
variable {P : Program} {ops : Array Oper} {rest : List Oper} {o : Oper} {a : Act} {w : World} {Q : Exit → Act → World → Prop} {dst : Option Tmp} {x : Operand} {tt : TypeId} {pos : String} {after : Array Edge} {g : Option (Nat × Bool)}
end
def Held (R : List Ent) (w : World) : Prop := ∀ e ∈ R, w.heap[e.g]? = some (.cells e.cs e.t (0, 0))
def entOf (w : World) (b k : Nat) : Option Ent := if b ≤ k then (match w.heap[k]? with | some (.cells cs t (0, 0)) => some ⟨k, cs, t, true⟩ | _ => none) else none
def newEnts (w : World) (b : Nat) : List Ent := (List.range w.heap.size).filterMap (entOf w b)
theorem entOf_some {w : World} {b k : Nat} {e : Ent} (h : entOf w b k = some e) : e.g = k ∧ e.own = true ∧ b ≤ k ∧ w.heap[k]? = some (.cells e.cs e.t (0, 0)) := by
 unfold entOf at h
 split at h
 ·rename_i hb
  split at h
  ·rename_i cs t hk
   injection h with h
   subst h
   exact ⟨rfl, rfl, hb, hk⟩
  ·cases h
 ·cases h
theorem entOf_cells {w : World} {b k : Nat} {cs : Array Value} {t : TypeId} (hb : b ≤ k) (h : w.heap[k]? = some (.cells cs t (0, 0))) : entOf w b k = some ⟨k, cs, t, true⟩ := by
 unfold entOf
 rw [if_pos hb, h]
 rfl
theorem newEnts_mem {w : World} {b : Nat} {e : Ent} (h : e ∈ newEnts w b) : e.own = true ∧ b ≤ e.g ∧ w.heap[e.g]? = some (.cells e.cs e.t (0, 0)) := by
 obtain ⟨k, _, hk⟩ := List.mem_filterMap.1 h
 obtain ⟨h1, h2, h3, h4⟩ := entOf_some hk
 subst h1
 exact ⟨h2, h3, h4⟩
theorem newEnts_own {w : World} {b : Nat} : (newEnts w b).all (·.own) = true := List.all_eq_true.2 fun e he => (newEnts_mem he).1
theorem newEnts_lt {w : World} {b : Nat} : (newEnts w b).Pairwise fun e f => e.g < f.g := by
 unfold newEnts
 rw [List.pairwise_filterMap]
 refine List.pairwise_lt_range.imp fun {a c} hac e he f hf => ?_
 rw [(entOf_some he).1, (entOf_some hf).1]
 exact hac
theorem newEnts_apart {w : World} {b m n : Nat} {e f : Ent} (hm : (newEnts w b)[m]? = some e) (hn : (newEnts w b)[n]? = some f) (hg : e.g = f.g) : m = n := by
 obtain ⟨hm1, rfl⟩ := List.getElem?_eq_some_iff.1 hm
 obtain ⟨hn1, rfl⟩ := List.getElem?_eq_some_iff.1 hn
 have h := List.pairwise_iff_getElem.1 (newEnts_lt (w := w) (b := b))
 rcases Nat.lt_trichotomy m n with h1 | h1 | h1
 ·have := h m n hm1 hn1 h1; omega
 ·exact h1
 ·have := h n m hn1 hm1 h1; omega
theorem Mem.grow {w0 w w' : World} {M : List Ent} (h : Mem w0 w M) (hb : Below w.heap.size w w') : Mem w0 w' (M ++ newEnts w' w.heap.size) := by
 have ha := h.after hb
 have hlt : ∀ e ∈ M, e.g < w.heap.size := fun e he => lt_of_some (h.ent e he).1
 refine ⟨ha.os, ha.tape, ha.output, ha.size, fun k hk hne => ha.block k hk fun e he => hne e (List.mem_append_left _ he), fun e he => ?_, fun m n e f hm hn hef => ?_⟩
 ·rcases List.mem_append.1 he with he | he
  ·exact ha.ent e he
  ·obtain ⟨_, h2, h3⟩ := newEnts_mem he
   exact ⟨h3, fun _ => Nat.le_trans h.size h2⟩
 ·rcases Nat.lt_or_ge m M.length with h1 | h1 <;> rcases Nat.lt_or_ge n M.length with h2 | h2
  ·rw [List.getElem?_append_left h1] at hm
   rw [List.getElem?_append_left h2] at hn
   exact h.apart m n e f hm hn hef
  ·rw [List.getElem?_append_left h1] at hm
   rw [List.getElem?_append_right h2] at hn
   have e1 := hlt e (List.mem_of_getElem? hm)
   have e2 := (newEnts_mem (List.mem_of_getElem? hn)).2.1
   omega
  ·rw [List.getElem?_append_right h1] at hm
   rw [List.getElem?_append_left h2] at hn
   have e1 := hlt f (List.mem_of_getElem? hn)
   have e2 := (newEnts_mem (List.mem_of_getElem? hm)).2.1
   omega
  ·rw [List.getElem?_append_right h1] at hm
   rw [List.getElem?_append_right h2] at hn
   have := newEnts_apart hm hn hef
   omega
theorem R_held {α : Type} {d : Kd α} {e : Nat} {w' W : World} {base : Nat} {ok : Nat → Prop} {v : Value} {xs : List α} (hR : d.R e w' base ok v xs) (hh : Held (newEnts w' base) W) : ∃ ok', d.R e W base ok' v xs := by
 refine ⟨_, Kd.R_move (Kd.R_bound hR) fun k hk => ?_⟩
 obtain ⟨_, hb, hlt, q, hq, cells, hc⟩ := hk
 have := hh ⟨k, cells, q, true⟩ (List.mem_filterMap.2 ⟨k, List.mem_range.2 hlt, entOf_cells hb hc⟩)
 rw [hc]; exact this
theorem C_held {α : Type} {d : Kd α} {e : Nat} {w' W : World} {base n c : Nat} {ok : Nat → Prop} {A : Option Addr} {xs : List α} (hR : d.R e w' base ok (.slice A n c) xs) (hh : Held (newEnts w' base) W) : d.C W A n xs := by
 obtain ⟨ok', h⟩ := R_held hR hh
 obtain ⟨e1, _, h2⟩ := Kd.R_reads' h
 rw [e1]; exact h2
end Go.Proofs.YtdgecgfgekmhcaaDoor.Arr
namespace Go.Proofs.YtdgecgfgekmhcaaDoor.J
open Go.RowKit Go.Proofs.YtdgecgfgekmhcaaDoorW.PrintWords Go.Proofs.YtdgecgfgekmhcaaDoorW.PrintLast Go.Proofs.YtdgecgfgekmhcaaDoorW.PrintMore
attribute [local go_sem] max2_int min2_int max_two min_two max_three min_three max_four min_four
set_option linter.unusedVariables false
set_option linter.unusedSimpArgs false
def spec_l00In.f (a0 : Int) (a1 : Int) (a2 : Int) : Option (Bool) := if a0 ≥ a1 then (some (decide (a0 ≤ a2))) else (some false)
set_option maxHeartbeats 8000000 in
set_option maxRecDepth 100000 in
theorem spec_l00In.calls (a0 : Int) (a1 : Int) (a2 : Int) (r : Bool) (w : World) (h : spec_l00In.f a0 a1 a2 = some r) :
  Calls Tryd.prog 27 #[.int .i64 a0, .int .i64 a1, .int .i64 a2] w fun e w' => e = .returned (.bool r) ∧ Drawn0 w w' := by
 have H : (if a0 ≥ a1 then (some (decide (a0 ≤ a2))) else (some false)) = some r := h
 clear h
 by_cases c4 : a0 ≥ a1
 ·rw [if_pos c4] at H
  have c4b0 : decide (a1 ≤ a0) = true := decide_eq_true c4
  clear c4
  obtain rfl := Option.some.inj H
  go_enter Tryd.func27, Tryd.ntmps27
  go_wp2
  go_ret
  exact ⟨by first | rfl | (simp; done) | (simp [*]; done), by repeat (first | exact Drawn0.refl _ | apply Drawn0.step)⟩
 ·rw [if_neg c4] at H
  have c4b0 : decide (a1 ≤ a0) = false := decide_eq_false c4
  clear c4
  obtain rfl := Option.some.inj H
  go_enter Tryd.func27, Tryd.ntmps27
  go_wp2
  go_ret
  exact ⟨by first | rfl | (simp; done) | (simp [*]; done), by repeat (first | exact Drawn0.refl _ | apply Drawn0.step)⟩
mutual
def spec_l02Read.l0 : Nat → List Int → Int → List Int → Int → Int → Option (List Int × Bool)
 | 0, _, _, _, _, _ => none
 | k + 1, x0, x4, x5, x6, x7 => if x7 < x4 then (if 0 ≤ x7 then (if x7 < (x0.length : Int) then (if (rd x0 x7) = (-10) then (if x7 = x6 then (some ((([] : List Int)), false)) else (if x7 = (wrap64 (x4 - 1)) then (some ((([] : List Int)), false)) else (if x5.length < 140737488355328 then (spec_l02Read.l0 k x0 x4 (x5 ++ [rd x0 x7]) (wrap64 (x7 + 1)) (wrap64 (x7 + 1))) else (none)))) else (if (rd x0 x7) ≥ 0 then (spec_l02Read.j1 k x0 x4 x5 x6 x7 (rd x0 x7) (decide ((rd x0 x7) < 40))) else (spec_l02Read.j1 k x0 x4 x5 x6 x7 (rd x0 x7) false))) else (none)) else (none)) else (some (x5, true))
def spec_l02Read.j1 : Nat → List Int → Int → List Int → Int → Int → Int → Bool → Option (List Int × Bool)
 | 0, _, _, _, _, _, _, _ => none
 | k + 1, x0, x4, x5, x6, x7, x8, x46 => if x46 = true then (if x5.length < 140737488355328 then (spec_l02Read.l0 k x0 x4 (x5 ++ [x8]) x6 (wrap64 (x7 + 1))) else (none)) else (if x8 < 0 then (spec_l02Read.j2 k x0 x4 x5 x6 x7 x8 (decide (x8 ≥ (-4)))) else (spec_l02Read.j2 k x0 x4 x5 x6 x7 x8 false))
def spec_l02Read.j2 : Nat → List Int → Int → List Int → Int → Int → Int → Bool → Option (List Int × Bool)
 | 0, _, _, _, _, _, _, _ => none
 | k + 1, x0, x4, x5, x6, x7, x8, x57 => if x57 = true then (if (wrap64 ((wrap64 (x6 + (wrap64 (IntKind.i8.wrap (-x8))))) - 1)) ≥ x7 then (some ((([] : List Int)), false)) else (if 0 ≤ (wrap64 ((wrap64 (x6 + (wrap64 (IntKind.i8.wrap (-x8))))) - 1)) then (if (wrap64 ((wrap64 (x6 + (wrap64 (IntKind.i8.wrap (-x8))))) - 1)) < (x5.length : Int) then (if x5.length < 140737488355328 then (spec_l02Read.l0 k x0 x4 (x5 ++ [rd x5 (wrap64 ((wrap64 (x6 + (wrap64 (IntKind.i8.wrap (-x8))))) - 1))]) x6 (wrap64 (x7 + 1))) else (none)) else (none)) else (none))) else (some ((([] : List Int)), false))
end
def spec_l02Read.f (k : Nat) (l0 : List Int) : Option (List Int × Bool) := (spec_l00In.f (l0.length : Int) 1 8).bind fun t101 => (if t101 = true then (spec_l02Read.l0 k l0 (l0.length : Int) (([] : List Int)) 0 0) else (some ((([] : List Int)), false)))
set_option maxHeartbeats 8000000 in
set_option maxRecDepth 100000 in
theorem spec_l02Read.calls (k : Nat) (A0 : Option Addr) (c0 : Nat) (l0 : List Int) (r1 : List Int) (r2 : Bool) (w : World) (hr0 : Kd.C (Kd.int .i8) w A0 l0.length l0) (hc0 : l0.length ≤ c0) (h : spec_l02Read.f k l0 = some (r1, r2)) :
  Calls Tryd.prog 117 #[.slice A0 l0.length c0] w fun e w' => ∃ v0_ : Value, e = .returned (.tuple #[v0_, .bool r2]) ∧ Kd.R (Kd.int .i8) 22 w' w.heap.size (fun _ => True) v0_ r1 ∧ Below w.heap.size w w' := by
 have HR0 := Aside0.mk hr0
 have HC0 := Aside0.mk hc0
 clear hr0 hc0
 have HB := Aside0.mk (Below.refl w.heap.size w)
 have H : ((spec_l00In.f (l0.length : Int) 1 8).bind fun t101 => (if t101 = true then (spec_l02Read.l0 k l0 (l0.length : Int) (([] : List Int)) 0 0) else (some ((([] : List Int)), false)))) = some (r1, r2) := h
 clear h
 replace H := Option.bind_eq_some_iff.mp H
 obtain ⟨t101, A20, H⟩ := H
 replace H : (if t101 = true then (spec_l02Read.l0 k l0 (l0.length : Int) (([] : List Int)) 0 0) else (some ((([] : List Int)), false))) = some (r1, r2) := H
 have A2 := Aside0.mk A20
 clear A20
 by_cases c3 : t101 = true
 ·subst c3
  have H1 : (spec_l02Read.l0 k l0 (l0.length : Int) (([] : List Int)) 0 0) = some (r1, r2) := by rw [if_pos rfl] at H; exact H
  clear H
  have H := H1
  clear H1
  obtain ⟨y105, hy105⟩ : ∃ y_ : List Int, y_ = (([] : List Int)) := ⟨_, rfl⟩
  replace H : (spec_l02Read.l0 k l0 (l0.length : Int) y105 0 0) = some (r1, r2) := by first | (rw [hy105]; with_reducible exact H) | (have H2_ := (Option.bind_some _ _).symm.trans H; rw [hy105]; with_reducible exact H2_) | (have H2_ := (Option.bind_some _ _).symm.trans H; with_reducible exact H2_) | with_reducible exact H | (rw [hy105]; exact H) | exact H
  have Ny105 := Aside0.mk hy105
  clear hy105
  have H' := Aside0.mk H
  clear H
  go_enter Tryd.func117, Tryd.ntmps117
  go_wp2_with (first | ((with_reducible refine gate_callee (f := 27) rfl ?_); refine goesL_ (some 13) rfl rfl Tryd.func27 (by kernel_rfl) rfl #[.int .i64 (l0.length : Int), .int .i64 1, .int .i64 8] rfl (by (try simp only [List.map_toArray, List.map_cons, List.map_nil]); first | done | rfl | (simp only [List.length_drop, List.length_take]; rfl)) ?_; (with_reducible refine (spec_l00In.calls (l0.length : Int) 1 8 true _ A2.out).mono ?_); rintro e w' ⟨rfl, ⟨nd, rfl⟩⟩; refine ⟨_, rfl, ?_⟩) | ((with_reducible refine gate_dst (N := 16) rfl ?_); refine Kd.R_lit (Kd.int .i8) _ 22 ?hg (N := 16) ?hd (xs := ([] : List Int)) (inner := []) (ok := fun _ => True) (okp := fun _ => True) ?hr ?hp (fun _ hk => hk) trivial (Below.refl _ _) (Nat.le_refl _) (by simp) ?_; (case hd => rfl); (case hg => rfl); (case hr => first | (go_simp; done) | (go_simp; rfl)); (case hp => exact (Reps.none _ _)); intro v106 w4 ho5 hb hg_ hnew_; clear hg_ hnew_; (first | rw [← Ny105.out] at ho5 | (simp only [Int.reduceToNat] at ho5; rw [← Ny105.out] at ho5)); have n0_ := Aside0.mk (Kd.R_lower ho5 (below_size (by repeat (first | (with_reducible first | exact HB.out | apply below_alloc | apply pw_below_drewN | apply below_drew1) | exact HB.out)))); have n1_ := Aside0.mk (below_step (by repeat (first | (with_reducible first | exact HB.out | apply below_alloc | apply pw_below_drewN | apply below_drew1) | exact HB.out)) hb); clear HB; have HO107 := n0_; have HB := n1_; clear n0_ n1_; clear hb ho5))
  go_loopg [5, 6, 7] k (fun kq v5 v6 v7 w' => ∃ (x5_1 : List Int) (x6_1 : Int) (x7_1 : Int), v6 = .int .i64 x6_1 ∧ v7 = .int .i64 x7_1 ∧ Aside0 (spec_l02Read.l0 kq l0 (l0.length : Int) x5_1 x6_1 x7_1 = some (r1, r2)) ∧ Aside0 (kq ≤ k) ∧ Aside0 (Kd.R (Kd.int .i8) 22 w' w.heap.size (fun _ => True) v5 x5_1) ∧ Aside0 (Below w.heap.size w w'))
  case atStart => exact ⟨(y105), (0), (0), (by first | rfl | (simp; done) | (simp [*]; done)), (by first | rfl | (simp; done) | (simp [*]; done)), H', ⟨Nat.le_refl _⟩, ⟨by (with_reducible repeat (first | apply Kd.R_alloc | apply Kd.R_drewN | apply Kd.R_drew)); exact HO107.out⟩, ⟨by repeat (first | (with_reducible first | exact HB.out | apply below_alloc | apply pw_below_drewN | apply below_drew1) | exact HB.out)⟩⟩
  case round =>
   clear H'
   try clear c1
   try clear c2
   try clear p2
   try clear c3
   obtain ⟨x5_1, x6_1, x7_1, rfl, rfl, HA, HK1, HO_5, HB⟩ := hrel
   cases gk with
   | zero => exact absurd HA.out (by simp [spec_l02Read.l0])
   | succ k1 =>
    have H := HA.out
    clear HA
    simp only [spec_l02Read.l0] at H
    by_cases c6 : x7_1 < (l0.length : Int)
    ·rw [if_pos c6] at H
     have c6b0 : decide (x7_1 < (l0.length : Int)) = true := decide_eq_true c6
     clear c6
     by_cases c7 : 0 ≤ x7_1
     ·rw [if_pos c7] at H
      have c7b0 : decide (0 ≤ x7_1) = true := decide_eq_true c7
      clear c7
      by_cases c8 : x7_1 < (l0.length : Int)
      ·rw [if_pos c8] at H
       have c8b0 : decide (x7_1 < (l0.length : Int)) = true := decide_eq_true c8
       clear c8
       by_cases c9 : (rd l0 x7_1) = (-10)
       ·rw [if_pos c9] at H
        have c9b0 : ((rd l0 x7_1) == (-10)) = true := beq_iff_eq.mpr c9
        have c9b1 : ((rd l0 x7_1) != (-10)) = false := bne_eq_false_iff_eq.mpr c9
        clear c9
        by_cases c10 : x7_1 = x6_1
        ·rw [if_pos c10] at H
         have c10b0 : (x7_1 == x6_1) = true := beq_iff_eq.mpr c10
         have c10b1 : (x7_1 != x6_1) = false := bne_eq_false_iff_eq.mpr c10
         clear c10
         obtain ⟨y109, hy109⟩ : ∃ y_ : List Int, y_ = (([] : List Int)) := ⟨_, rfl⟩
         replace H : (some (y109, false)) = some (r1, r2) := by first | (rw [hy109]; with_reducible exact H) | (have H2_ := (Option.bind_some _ _).symm.trans H; rw [hy109]; with_reducible exact H2_) | (have H2_ := (Option.bind_some _ _).symm.trans H; with_reducible exact H2_) | with_reducible exact H | (rw [hy109]; exact H) | exact H
         have Ny109 := Aside0.mk hy109
         clear hy109
         simp only [Option.some.injEq, Prod.mk.injEq] at H
         obtain ⟨rfl, rfl⟩ := H
         have p108 : 0 ≤ (x7_1 : Int) := of_decide_eq_true (by first | (with_reducible assumption) | assumption)
         have q108 : x7_1 < (l0.length : Int) := of_decide_eq_true (by first | (with_reducible assumption) | assumption)
         obtain ⟨ad108, e108, hx108_0⟩ := Kd.at_int HR0.out x7_1 p108 q108
         cases e108
         replace hx108_0 := (HB.out.cell (World.block_lt_of_cell? w _ hx108_0)).trans hx108_0
         replace p108 := eq_true p108
         replace q108 := eq_true q108
         go_wp2_with (first | ((with_reducible refine gate_dst (N := 39) rfl ?_); refine Kd.R_lit (Kd.int .i8) _ 22 ?hg (N := 39) ?hd (xs := ([] : List Int)) (inner := []) (ok := fun _ => True) (okp := fun _ => True) ?hr ?hp (fun _ hk => hk) trivial (Below.refl _ _) (Nat.le_refl _) (by simp) ?_; (case hd => rfl); (case hg => rfl); (case hr => first | (go_simp; done) | (go_simp; rfl)); (case hp => exact (Reps.none _ _)); intro v110 w11 ho12 hb hg_ hnew_; clear hg_ hnew_; (first | rw [← Ny109.out] at ho12 | (simp only [Int.reduceToNat] at ho12; rw [← Ny109.out] at ho12)); have n0_ := Aside0.mk (Kd.R_elder' (by (with_reducible repeat (first | apply Kd.R_alloc | apply Kd.R_drewN | apply Kd.R_drew)); exact HO_5.out) (Kd.R_base ho12) hb); have n1_ := Aside0.mk (Kd.R_lower (Kd.R_new' ho12 (Kd.R_lt (by (with_reducible repeat (first | apply Kd.R_alloc | apply Kd.R_drewN | apply Kd.R_drew)); exact HO_5.out))) (below_size (by repeat (first | (with_reducible first | exact HB.out | apply below_alloc | apply pw_below_drewN | apply below_drew1) | exact HB.out)))); have n2_ := Aside0.mk (below_step (by repeat (first | (with_reducible first | exact HB.out | apply below_alloc | apply pw_below_drewN | apply below_drew1) | exact HB.out)) hb); clear HO_5; clear HB; have HO_5 := n0_; have HO111 := n1_; have HB := n2_; clear n0_ n1_ n2_; clear hb ho12))
         go_ret2
         exact ⟨_, by first | rfl | (simp [errW_none, errW_some] <;> rfl) | (simp [*, errW_none, errW_some] <;> rfl), by (with_reducible repeat (first | apply Kd.R_alloc | apply Kd.R_drewN | apply Kd.R_drew)); exact Kd.R_mono HO111.out (fun _ hk => trivial), by repeat (first | (with_reducible first | exact HB.out | apply below_alloc | apply pw_below_drewN | apply below_drew1) | exact HB.out)⟩
        ·rw [if_neg c10] at H
         have c10b0 : (x7_1 == x6_1) = false := beq_eq_false_iff_ne.mpr c10
         have c10b1 : (x7_1 != x6_1) = true := bne_iff_ne.mpr c10
         by_cases c13 : x7_1 = (wrap64 ((l0.length : Int) - 1))
         ·rw [if_pos c13] at H
          have c13b0 : (x7_1 == (wrap64 ((l0.length : Int) - 1))) = true := beq_iff_eq.mpr c13
          have c13b1 : (x7_1 != (wrap64 ((l0.length : Int) - 1))) = false := bne_eq_false_iff_eq.mpr c13
          clear c13
          obtain ⟨y112, hy112⟩ : ∃ y_ : List Int, y_ = (([] : List Int)) := ⟨_, rfl⟩
          replace H : (some (y112, false)) = some (r1, r2) := by first | (rw [hy112]; with_reducible exact H) | (have H2_ := (Option.bind_some _ _).symm.trans H; rw [hy112]; with_reducible exact H2_) | (have H2_ := (Option.bind_some _ _).symm.trans H; with_reducible exact H2_) | with_reducible exact H | (rw [hy112]; exact H) | exact H
          have Ny112 := Aside0.mk hy112
          clear hy112
          simp only [Option.some.injEq, Prod.mk.injEq] at H
          obtain ⟨rfl, rfl⟩ := H
          have p108 : 0 ≤ (x7_1 : Int) := of_decide_eq_true (by first | (with_reducible assumption) | assumption)
          have q108 : x7_1 < (l0.length : Int) := of_decide_eq_true (by first | (with_reducible assumption) | assumption)
          obtain ⟨ad108, e108, hx108_0⟩ := Kd.at_int HR0.out x7_1 p108 q108
          cases e108
          replace hx108_0 := (HB.out.cell (World.block_lt_of_cell? w _ hx108_0)).trans hx108_0
          replace p108 := eq_true p108
          replace q108 := eq_true q108
          go_wp2_with (first | ((with_reducible refine gate_dst (N := 39) rfl ?_); refine Kd.R_lit (Kd.int .i8) _ 22 ?hg (N := 39) ?hd (xs := ([] : List Int)) (inner := []) (ok := fun _ => True) (okp := fun _ => True) ?hr ?hp (fun _ hk => hk) trivial (Below.refl _ _) (Nat.le_refl _) (by simp) ?_; (case hd => rfl); (case hg => rfl); (case hr => first | (go_simp; done) | (go_simp; rfl)); (case hp => exact (Reps.none _ _)); intro v113 w14 ho15 hb hg_ hnew_; clear hg_ hnew_; (first | rw [← Ny112.out] at ho15 | (simp only [Int.reduceToNat] at ho15; rw [← Ny112.out] at ho15)); have n0_ := Aside0.mk (Kd.R_elder' (by (with_reducible repeat (first | apply Kd.R_alloc | apply Kd.R_drewN | apply Kd.R_drew)); exact HO_5.out) (Kd.R_base ho15) hb); have n1_ := Aside0.mk (Kd.R_lower (Kd.R_new' ho15 (Kd.R_lt (by (with_reducible repeat (first | apply Kd.R_alloc | apply Kd.R_drewN | apply Kd.R_drew)); exact HO_5.out))) (below_size (by repeat (first | (with_reducible first | exact HB.out | apply below_alloc | apply pw_below_drewN | apply below_drew1) | exact HB.out)))); have n2_ := Aside0.mk (below_step (by repeat (first | (with_reducible first | exact HB.out | apply below_alloc | apply pw_below_drewN | apply below_drew1) | exact HB.out)) hb); clear HO_5; clear HB; have HO_5 := n0_; have HO114 := n1_; have HB := n2_; clear n0_ n1_ n2_; clear hb ho15))
          go_ret2
          exact ⟨_, by first | rfl | (simp [errW_none, errW_some] <;> rfl) | (simp [*, errW_none, errW_some] <;> rfl), by (with_reducible repeat (first | apply Kd.R_alloc | apply Kd.R_drewN | apply Kd.R_drew)); exact Kd.R_mono HO114.out (fun _ hk => trivial), by repeat (first | (with_reducible first | exact HB.out | apply below_alloc | apply pw_below_drewN | apply below_drew1) | exact HB.out)⟩
         ·rw [if_neg c13] at H
          have c13b0 : (x7_1 == (wrap64 ((l0.length : Int) - 1))) = false := beq_eq_false_iff_ne.mpr c13
          have c13b1 : (x7_1 != (wrap64 ((l0.length : Int) - 1))) = true := bne_iff_ne.mpr c13
          by_cases c16 : x5_1.length < 140737488355328
          ·rw [if_pos c16] at H
           have LMc16 := Aside0.mk c16
           clear c16
           obtain ⟨y115, hy115⟩ : ∃ y_ : List Int, y_ = (x5_1 ++ [rd l0 x7_1]) := ⟨_, rfl⟩
           replace H : (spec_l02Read.l0 k1 l0 (l0.length : Int) y115 (wrap64 (x7_1 + 1)) (wrap64 (x7_1 + 1))) = some (r1, r2) := by first | (rw [hy115]; with_reducible exact H) | (have H2_ := (Option.bind_some _ _).symm.trans H; rw [hy115]; with_reducible exact H2_) | (have H2_ := (Option.bind_some _ _).symm.trans H; with_reducible exact H2_) | with_reducible exact H | (rw [hy115]; exact H) | exact H
           have Ny115 := Aside0.mk hy115
           clear hy115
           have H' := Aside0.mk H
           clear H
           have p108 : 0 ≤ (x7_1 : Int) := of_decide_eq_true (by first | (with_reducible assumption) | assumption)
           have q108 : x7_1 < (l0.length : Int) := of_decide_eq_true (by first | (with_reducible assumption) | assumption)
           obtain ⟨ad108, e108, hx108_0⟩ := Kd.at_int HR0.out x7_1 p108 q108
           cases e108
           replace hx108_0 := (HB.out.cell (World.block_lt_of_cell? w _ hx108_0)).trans hx108_0
           replace p108 := eq_true p108
           replace q108 := eq_true q108
           go_wp2_with (first | ((with_reducible refine gate_builtin (b := .append) (xs := #[.tmp 42, .tmp 44]) rfl ?_); at_builtin; refine Kd.R_append (Kd.int .i8) (w0 := w) w.heap.size rfl (.tmp 42) (.tmp 44) 53 22 (.int .i8 0) 1 rfl Tryd.underlying53 info22 rfl (by decide) (by omega) u5 x5_1 (rd l0 x7_1) [.int .i8 (rd l0 x7_1)] (fun _ => True) (fun _ => False) rfl rfl ?aP (fun _ hk => hk.elim) ?aF ?aO ?aB ?aS ?aL ?_; (case aP => exact rfl); (case aB => exact (by repeat (first | (with_reducible first | exact HB.out | apply below_alloc | apply pw_below_drewN | apply below_drew1) | exact HB.out))); (case aF => exact (fun _ _ => trivial)); (case aO => exact (by (with_reducible repeat (first | apply Kd.R_alloc | apply Kd.R_drewN | apply Kd.R_drew)); exact HO_5.out)); (case aS => exact (below_size (by repeat (first | (with_reducible first | exact HB.out | apply below_alloc | apply pw_below_drewN | apply below_drew1) | exact HB.out)))); (case aL => have := LMc16.out; omega); intro v116 w17 ho hb hg hat; rw [← Ny115.out] at ho; have n0_ := Aside0.mk (hb); have n1_ := Aside0.mk (ho); clear HB; clear HO_5; have HB := n0_; have HO117 := n1_; clear n0_ n1_; clear ho hb hg hat))
           go_roundg k1
           case measure => have := HK1.out; omega
           case rel => exact ⟨(y115), (wrap64 (x7_1 + 1)), (wrap64 (x7_1 + 1)), (by first | rfl | (simp; done) | (simp [*]; done)), (by first | rfl | (simp; done) | (simp [*]; done)), H', ⟨by have := HK1.out; omega⟩, ⟨by (with_reducible repeat (first | apply Kd.R_alloc | apply Kd.R_drewN | apply Kd.R_drew)); exact HO117.out⟩, ⟨by repeat (first | (with_reducible first | exact HB.out | apply below_alloc | apply pw_below_drewN | apply below_drew1) | exact HB.out)⟩⟩
          ·rw [if_neg c16] at H
           exact absurd H (by simp)
       ·rw [if_neg c9] at H
        have c9b0 : ((rd l0 x7_1) == (-10)) = false := beq_eq_false_iff_ne.mpr c9
        have c9b1 : ((rd l0 x7_1) != (-10)) = true := bne_iff_ne.mpr c9
        have HC18 := Aside0.mk H
        clear H
        have p108 : 0 ≤ (x7_1 : Int) := of_decide_eq_true (by first | (with_reducible assumption) | assumption)
        have q108 : x7_1 < (l0.length : Int) := of_decide_eq_true (by first | (with_reducible assumption) | assumption)
        obtain ⟨ad108, e108, hx108_0⟩ := Kd.at_int HR0.out x7_1 p108 q108
        cases e108
        replace hx108_0 := (HB.out.cell (World.block_lt_of_cell? w _ hx108_0)).trans hx108_0
        replace p108 := eq_true p108
        replace q108 := eq_true q108
        go_upto_region 16 with (fail)
        go_cut [46] (fun v46 wc => ∃ (kq : Nat) (x46_17 : Bool), v46 = .bool x46_17 ∧ Aside0 (spec_l02Read.j1 kq l0 (l0.length : Int) x5_1 x6_1 x7_1 (rd l0 x7_1) x46_17 = some (r1, r2)) ∧ Aside0 (kq ≤ k1) ∧ Aside0 (Kd.R (Kd.int .i8) 22 wc w.heap.size (fun _ => True) u5 x5_1) ∧ Aside0 (Below w.heap.size w wc))
        case first =>
         have H := HC18.out
         clear HC18
         by_cases c19 : (rd l0 x7_1) ≥ 0
         ·rw [if_pos c19] at H
          have c19b0 : decide (0 ≤ (rd l0 x7_1)) = true := decide_eq_true c19
          clear c19
          (first | rw [c19b0] | (simp only [i64_w, i32_w]; rw [c19b0]) | skip)
          have H' := Aside0.mk H
          clear H
          go_wp2
          go_meet
          case rel => exact ⟨_, (decide ((rd l0 x7_1) < 40)), (by first | rfl | (simp; done) | (simp [*]; done)), H', ⟨by have := HK1.out; first | omega | exact Nat.le_refl _⟩, ⟨by (with_reducible repeat (first | apply Kd.R_alloc | apply Kd.R_drewN | apply Kd.R_drew)); exact HO_5.out⟩, ⟨by repeat (first | (with_reducible first | exact HB.out | apply below_alloc | apply pw_below_drewN | apply below_drew1) | exact HB.out)⟩⟩
         ·rw [if_neg c19] at H
          have c19b0 : decide (0 ≤ (rd l0 x7_1)) = false := decide_eq_false c19
          clear c19
          (first | rw [c19b0] | (simp only [i64_w, i32_w]; rw [c19b0]) | skip)
          have H' := Aside0.mk H
          clear H
          go_wp2
          go_meet
          case rel => exact ⟨_, (false), (by first | rfl | (simp; done) | (simp [*]; done)), H', ⟨by have := HK1.out; first | omega | exact Nat.le_refl _⟩, ⟨by (with_reducible repeat (first | apply Kd.R_alloc | apply Kd.R_drewN | apply Kd.R_drew)); exact HO_5.out⟩, ⟨by repeat (first | (with_reducible first | exact HB.out | apply below_alloc | apply pw_below_drewN | apply below_drew1) | exact HB.out)⟩⟩
        case rest =>
         clear HC18
         try clear c1
         try clear p1
         try clear q1
         try clear hx1
         try clear c2
         try clear p2
         try clear c3
         try clear c6
         try clear c6b0
         try clear p6
         try clear c7
         try clear c7b0
         try clear c8
         try clear c8b0
         try clear c9
         try clear c9b0
         try clear c9b1
         try clear c10
         try clear c10b0
         try clear c10b1
         try clear p10
         try clear q10
         try clear hx10
         try clear c11
         try clear c13
         try clear c13b0
         try clear c13b1
         try clear c16
         try clear c19
         try clear c19b0
         try clear hx108_0
         try clear p108
         try clear p2
         try clear q108
         obtain ⟨kq, x46_17, rfl, HA, HJ17, HO_5, HB⟩ := hcut
         cases kq with
         | zero => exact absurd HA.out (by simp [spec_l02Read.j1])
         | succ kj17 =>
          have H := HA.out
          clear HA
          simp only [spec_l02Read.j1] at H
          by_cases c20 : x46_17 = true
          ·subst c20
           have H1 : (if x5_1.length < 140737488355328 then (spec_l02Read.l0 kj17 l0 (l0.length : Int) (x5_1 ++ [(rd l0 x7_1)]) x6_1 (wrap64 (x7_1 + 1))) else (none)) = some (r1, r2) := by rw [if_pos rfl] at H; exact H
           clear H
           have H := H1
           clear H1
           by_cases c21 : x5_1.length < 140737488355328
           ·rw [if_pos c21] at H
            have LMc21 := Aside0.mk c21
            clear c21
            obtain ⟨y118, hy118⟩ : ∃ y_ : List Int, y_ = (x5_1 ++ [(rd l0 x7_1)]) := ⟨_, rfl⟩
            replace H : (spec_l02Read.l0 kj17 l0 (l0.length : Int) y118 x6_1 (wrap64 (x7_1 + 1))) = some (r1, r2) := by first | (rw [hy118]; with_reducible exact H) | (have H2_ := (Option.bind_some _ _).symm.trans H; rw [hy118]; with_reducible exact H2_) | (have H2_ := (Option.bind_some _ _).symm.trans H; with_reducible exact H2_) | with_reducible exact H | (rw [hy118]; exact H) | exact H
            have Ny118 := Aside0.mk hy118
            clear hy118
            have H' := Aside0.mk H
            clear H
            go_wp2_with (first | ((with_reducible refine gate_builtin (b := .append) (xs := #[.tmp 53, .tmp 55]) rfl ?_); at_builtin; refine Kd.R_append (Kd.int .i8) (w0 := w) w.heap.size rfl (.tmp 53) (.tmp 55) 53 22 (.int .i8 0) 1 rfl Tryd.underlying53 info22 rfl (by decide) (by omega) u5 x5_1 (rd l0 x7_1) [.int .i8 (rd l0 x7_1)] (fun _ => True) (fun _ => False) rfl rfl ?aP (fun _ hk => hk.elim) ?aF ?aO ?aB ?aS ?aL ?_; (case aP => exact rfl); (case aB => exact (by repeat (first | (with_reducible first | exact HB.out | apply below_alloc | apply pw_below_drewN | apply below_drew1) | exact HB.out))); (case aF => exact (fun _ _ => trivial)); (case aO => exact (by (with_reducible repeat (first | apply Kd.R_alloc | apply Kd.R_drewN | apply Kd.R_drew)); exact HO_5.out)); (case aS => exact (below_size (by repeat (first | (with_reducible first | exact HB.out | apply below_alloc | apply pw_below_drewN | apply below_drew1) | exact HB.out)))); (case aL => have := LMc21.out; omega); intro v119 w22 ho hb hg hat; rw [← Ny118.out] at ho; have n0_ := Aside0.mk (hb); have n1_ := Aside0.mk (ho); clear HB; clear HO_5; have HB := n0_; have HO120 := n1_; clear n0_ n1_; clear ho hb hg hat))
            go_roundg kj17
            case measure => have := HK1.out; have := HJ17.out; omega
            case rel => exact ⟨(y118), (x6_1), (wrap64 (x7_1 + 1)), (by first | rfl | (simp; done) | (simp [*]; done)), (by first | rfl | (simp; done) | (simp [*]; done)), H', ⟨by have := HK1.out; have := HJ17.out; omega⟩, ⟨by (with_reducible repeat (first | apply Kd.R_alloc | apply Kd.R_drewN | apply Kd.R_drew)); exact HO120.out⟩, ⟨by repeat (first | (with_reducible first | exact HB.out | apply below_alloc | apply pw_below_drewN | apply below_drew1) | exact HB.out)⟩⟩
           ·rw [if_neg c21] at H
            exact absurd H (by simp)
          ·replace c20 := Bool.eq_false_iff.mpr c20
           subst c20
           have H1 : (if (rd l0 x7_1) < 0 then (spec_l02Read.j2 kj17 l0 (l0.length : Int) x5_1 x6_1 x7_1 (rd l0 x7_1) (decide ((rd l0 x7_1) ≥ (-4)))) else (spec_l02Read.j2 kj17 l0 (l0.length : Int) x5_1 x6_1 x7_1 (rd l0 x7_1) false)) = some (r1, r2) := by rw [if_neg (show ¬ (false = true) by decide)] at H; exact H
           clear H
           have H := H1
           clear H1
           have HC23 := Aside0.mk H
           clear H
           go_upto_region 18 with (fail)
           go_cut [57] (fun v57 wc => ∃ (kq : Nat) (x57_22 : Bool), v57 = .bool x57_22 ∧ Aside0 (spec_l02Read.j2 kq l0 (l0.length : Int) x5_1 x6_1 x7_1 (rd l0 x7_1) x57_22 = some (r1, r2)) ∧ Aside0 (kq ≤ kj17) ∧ Aside0 (Kd.R (Kd.int .i8) 22 wc w.heap.size (fun _ => True) u5 x5_1) ∧ Aside0 (Below w.heap.size w wc))
           case first =>
            have H := HC23.out
            clear HC23
            by_cases c24 : (rd l0 x7_1) < 0
            ·rw [if_pos c24] at H
             have c24b0 : decide ((rd l0 x7_1) < 0) = true := decide_eq_true c24
             clear c24
             (first | rw [c24b0] | (simp only [i64_w, i32_w]; rw [c24b0]) | skip)
             have H' := Aside0.mk H
             clear H
             go_wp2
             go_meet
             case rel => exact ⟨_, (decide ((rd l0 x7_1) ≥ (-4))), (by first | rfl | (simp; done) | (simp [*]; done)), H', ⟨by have := HK1.out; have := HJ17.out; first | omega | exact Nat.le_refl _⟩, ⟨by (with_reducible repeat (first | apply Kd.R_alloc | apply Kd.R_drewN | apply Kd.R_drew)); exact HO_5.out⟩, ⟨by repeat (first | (with_reducible first | exact HB.out | apply below_alloc | apply pw_below_drewN | apply below_drew1) | exact HB.out)⟩⟩
            ·rw [if_neg c24] at H
             have c24b0 : decide ((rd l0 x7_1) < 0) = false := decide_eq_false c24
             clear c24
             (first | rw [c24b0] | (simp only [i64_w, i32_w]; rw [c24b0]) | skip)
             have H' := Aside0.mk H
             clear H
             go_wp2
             go_meet
             case rel => exact ⟨_, (false), (by first | rfl | (simp; done) | (simp [*]; done)), H', ⟨by have := HK1.out; have := HJ17.out; first | omega | exact Nat.le_refl _⟩, ⟨by (with_reducible repeat (first | apply Kd.R_alloc | apply Kd.R_drewN | apply Kd.R_drew)); exact HO_5.out⟩, ⟨by repeat (first | (with_reducible first | exact HB.out | apply below_alloc | apply pw_below_drewN | apply below_drew1) | exact HB.out)⟩⟩
           case rest =>
            clear HC23
            try clear c1
            try clear p1
            try clear q1
            try clear hx1
            try clear c2
            try clear p2
            try clear c3
            try clear c6
            try clear c6b0
            try clear p6
            try clear c7
            try clear c7b0
            try clear c8
            try clear c8b0
            try clear c9
            try clear c9b0
            try clear c9b1
            try clear c10
            try clear c10b0
            try clear c10b1
            try clear p10
            try clear q10
            try clear hx10
            try clear c11
            try clear c13
            try clear c13b0
            try clear c13b1
            try clear c16
            try clear c19
            try clear c19b0
            try clear c20
            try clear c21
            try clear c24
            try clear c24b0
            try clear hx108_0
            try clear p1
            try clear p10
            try clear p108
            try clear p2
            try clear p6
            try clear q1
            try clear q10
            try clear q108
            obtain ⟨kq, x57_22, rfl, HA, HJ22, HO_5, HB⟩ := hcut
            cases kq with
            | zero => exact absurd HA.out (by simp [spec_l02Read.j2])
            | succ kj22 =>
             have H := HA.out
             clear HA
             simp only [spec_l02Read.j2] at H
             by_cases c25 : x57_22 = true
             ·subst c25
              have H1 : (if (wrap64 ((wrap64 (x6_1 + (wrap64 (IntKind.i8.wrap (-(rd l0 x7_1)))))) - 1)) ≥ x7_1 then (some ((([] : List Int)), false)) else (if 0 ≤ (wrap64 ((wrap64 (x6_1 + (wrap64 (IntKind.i8.wrap (-(rd l0 x7_1)))))) - 1)) then (if (wrap64 ((wrap64 (x6_1 + (wrap64 (IntKind.i8.wrap (-(rd l0 x7_1)))))) - 1)) < (x5_1.length : Int) then (if x5_1.length < 140737488355328 then (spec_l02Read.l0 kj22 l0 (l0.length : Int) (x5_1 ++ [rd x5_1 (wrap64 ((wrap64 (x6_1 + (wrap64 (IntKind.i8.wrap (-(rd l0 x7_1)))))) - 1))]) x6_1 (wrap64 (x7_1 + 1))) else (none)) else (none)) else (none))) = some (r1, r2) := by rw [if_pos rfl] at H; exact H
              clear H
              have H := H1
              clear H1
              by_cases c26 : (wrap64 ((wrap64 (x6_1 + (wrap64 (IntKind.i8.wrap (-(rd l0 x7_1)))))) - 1)) ≥ x7_1
              ·rw [if_pos c26] at H
               have c26b0 : decide (x7_1 ≤ (wrap64 ((wrap64 (x6_1 + (wrap64 (IntKind.i8.wrap (-(rd l0 x7_1)))))) - 1))) = true := decide_eq_true c26
               clear c26
               obtain ⟨y121, hy121⟩ : ∃ y_ : List Int, y_ = (([] : List Int)) := ⟨_, rfl⟩
               replace H : (some (y121, false)) = some (r1, r2) := by first | (rw [hy121]; with_reducible exact H) | (have H2_ := (Option.bind_some _ _).symm.trans H; rw [hy121]; with_reducible exact H2_) | (have H2_ := (Option.bind_some _ _).symm.trans H; with_reducible exact H2_) | with_reducible exact H | (rw [hy121]; exact H) | exact H
               have Ny121 := Aside0.mk hy121
               clear hy121
               simp only [Option.some.injEq, Prod.mk.injEq] at H
               obtain ⟨rfl, rfl⟩ := H
               go_wp2_with (first | ((with_reducible refine gate_dst (N := 73) rfl ?_); refine Kd.R_lit (Kd.int .i8) _ 22 ?hg (N := 73) ?hd (xs := ([] : List Int)) (inner := []) (ok := fun _ => True) (okp := fun _ => True) ?hr ?hp (fun _ hk => hk) trivial (Below.refl _ _) (Nat.le_refl _) (by simp) ?_; (case hd => rfl); (case hg => rfl); (case hr => first | (go_simp; done) | (go_simp; rfl)); (case hp => exact (Reps.none _ _)); intro v122 w27 ho28 hb hg_ hnew_; clear hg_ hnew_; (first | rw [← Ny121.out] at ho28 | (simp only [Int.reduceToNat] at ho28; rw [← Ny121.out] at ho28)); have n0_ := Aside0.mk (Kd.R_elder' (by (with_reducible repeat (first | apply Kd.R_alloc | apply Kd.R_drewN | apply Kd.R_drew)); exact HO_5.out) (Kd.R_base ho28) hb); have n1_ := Aside0.mk (Kd.R_lower (Kd.R_new' ho28 (Kd.R_lt (by (with_reducible repeat (first | apply Kd.R_alloc | apply Kd.R_drewN | apply Kd.R_drew)); exact HO_5.out))) (below_size (by repeat (first | (with_reducible first | exact HB.out | apply below_alloc | apply pw_below_drewN | apply below_drew1) | exact HB.out)))); have n2_ := Aside0.mk (below_step (by repeat (first | (with_reducible first | exact HB.out | apply below_alloc | apply pw_below_drewN | apply below_drew1) | exact HB.out)) hb); clear HO_5; clear HB; have HO_5 := n0_; have HO123 := n1_; have HB := n2_; clear n0_ n1_ n2_; clear hb ho28))
               go_ret2
               exact ⟨_, by first | rfl | (simp [errW_none, errW_some] <;> rfl) | (simp [*, errW_none, errW_some] <;> rfl), by (with_reducible repeat (first | apply Kd.R_alloc | apply Kd.R_drewN | apply Kd.R_drew)); exact Kd.R_mono HO123.out (fun _ hk => trivial), by repeat (first | (with_reducible first | exact HB.out | apply below_alloc | apply pw_below_drewN | apply below_drew1) | exact HB.out)⟩
              ·rw [if_neg c26] at H
               have c26b0 : decide (x7_1 ≤ (wrap64 ((wrap64 (x6_1 + (wrap64 (IntKind.i8.wrap (-(rd l0 x7_1)))))) - 1))) = false := decide_eq_false c26
               clear c26
               obtain ⟨ji29, hji29⟩ : ∃ j_ : Int, (wrap64 ((wrap64 (x6_1 + (wrap64 (IntKind.i8.wrap (-(rd l0 x7_1)))))) - 1)) = j_ := ⟨_, rfl⟩
               replace H : (if 0 ≤ (ji29) then (if (ji29) < (x5_1.length : Int) then (if x5_1.length < 140737488355328 then (spec_l02Read.l0 kj22 l0 (l0.length : Int) (x5_1 ++ [rd x5_1 (ji29)]) x6_1 (wrap64 (x7_1 + 1))) else (none)) else (none)) else (none)) = some (r1, r2) := by first | (rw [hji29] at H; exact H) | (simp only [hji29] at H ⊢; exact H)
               (try rw [hji29] at c26b0)
               have hji29w : (IntKind.i64.wrap ((wrap64 (x6_1 + (wrap64 (IntKind.i8.wrap (-(rd l0 x7_1)))))) - 1)) = ji29 := (i64_w _).trans hji29
               by_cases c30 : 0 ≤ (ji29)
               ·rw [if_pos c30] at H
                have c30b0 : decide (0 ≤ (ji29)) = true := decide_eq_true c30
                clear c30
                by_cases c31 : (ji29) < (x5_1.length : Int)
                ·rw [if_pos c31] at H
                 have c31b0 : decide ((ji29) < (x5_1.length : Int)) = true := decide_eq_true c31
                 clear c31
                 by_cases c32 : x5_1.length < 140737488355328
                 ·rw [if_pos c32] at H
                  have LMc32 := Aside0.mk c32
                  clear c32
                  obtain ⟨y125, hy125⟩ : ∃ y_ : List Int, y_ = (x5_1 ++ [rd x5_1 (ji29)]) := ⟨_, rfl⟩
                  replace H : (spec_l02Read.l0 kj22 l0 (l0.length : Int) y125 x6_1 (wrap64 (x7_1 + 1))) = some (r1, r2) := by first | (rw [hy125]; with_reducible exact H) | (have H2_ := (Option.bind_some _ _).symm.trans H; rw [hy125]; with_reducible exact H2_) | (have H2_ := (Option.bind_some _ _).symm.trans H; with_reducible exact H2_) | with_reducible exact H | (rw [hy125]; exact H) | exact H
                  have Ny125 := Aside0.mk hy125
                  clear hy125
                  have H' := Aside0.mk H
                  clear H
                  obtain ⟨Ao33, co33, eo33⟩ := Kd.R_slice HO_5.out
                  subst eo33
                  have p124 : 0 ≤ ((ji29) : Int) := of_decide_eq_true (by first | (with_reducible assumption) | assumption)
                  have q124 : (ji29) < (x5_1.length : Int) := of_decide_eq_true (by first | (with_reducible assumption) | assumption)
                  obtain ⟨ad124, e124, hx124_0⟩ := Kd.at_int (Kd.R_reads' HO_5.out).2.2 (ji29) p124 q124
                  cases e124
                  replace p124 := eq_true p124
                  replace q124 := eq_true q124
                  go_wp2_with (first | ((with_reducible refine gate_builtin (b := .append) (xs := #[.tmp 74, .tmp 79]) rfl ?_); at_builtin; refine Kd.R_append (Kd.int .i8) (w0 := w) w.heap.size rfl (.tmp 74) (.tmp 79) 53 22 (.int .i8 0) 1 rfl Tryd.underlying53 info22 rfl (by decide) (by omega) (.slice (some ad124) x5_1.length co33) x5_1 (rd x5_1 (ji29)) [.int .i8 (rd x5_1 (ji29))] (fun _ => True) (fun _ => False) rfl rfl ?aP (fun _ hk => hk.elim) ?aF ?aO ?aB ?aS ?aL ?_; (case aP => exact rfl); (case aB => exact (by repeat (first | (with_reducible first | exact HB.out | apply below_alloc | apply pw_below_drewN | apply below_drew1) | exact HB.out))); (case aF => exact (fun _ _ => trivial)); (case aO => exact (by (with_reducible repeat (first | apply Kd.R_alloc | apply Kd.R_drewN | apply Kd.R_drew)); exact HO_5.out)); (case aS => exact (below_size (by repeat (first | (with_reducible first | exact HB.out | apply below_alloc | apply pw_below_drewN | apply below_drew1) | exact HB.out)))); (case aL => have := LMc32.out; omega); intro v126 w34 ho hb hg hat; rw [← Ny125.out] at ho; have n0_ := Aside0.mk (hb); have n1_ := Aside0.mk (ho); clear HB; clear HO_5; have HB := n0_; have HO127 := n1_; clear n0_ n1_; clear ho hb hg hat))
                  go_roundg kj22
                  case measure => have := HK1.out; have := HJ17.out; have := HJ22.out; omega
                  case rel => exact ⟨(y125), (x6_1), (wrap64 (x7_1 + 1)), (by first | rfl | (simp; done) | (simp [*]; done)), (by first | rfl | (simp; done) | (simp [*]; done)), H', ⟨by have := HK1.out; have := HJ17.out; have := HJ22.out; omega⟩, ⟨by (with_reducible repeat (first | apply Kd.R_alloc | apply Kd.R_drewN | apply Kd.R_drew)); exact HO127.out⟩, ⟨by repeat (first | (with_reducible first | exact HB.out | apply below_alloc | apply pw_below_drewN | apply below_drew1) | exact HB.out)⟩⟩
                 ·rw [if_neg c32] at H
                  exact absurd H (by simp)
                ·rw [if_neg c31] at H
                 exact absurd H (by simp)
               ·rw [if_neg c30] at H
                exact absurd H (by simp)
             ·replace c25 := Bool.eq_false_iff.mpr c25
              subst c25
              have H1 : (some ((([] : List Int)), false)) = some (r1, r2) := by rw [if_neg (show ¬ (false = true) by decide)] at H; exact H
              clear H
              have H := H1
              clear H1
              obtain ⟨y128, hy128⟩ : ∃ y_ : List Int, y_ = (([] : List Int)) := ⟨_, rfl⟩
              replace H : (some (y128, false)) = some (r1, r2) := by first | (rw [hy128]; with_reducible exact H) | (have H2_ := (Option.bind_some _ _).symm.trans H; rw [hy128]; with_reducible exact H2_) | (have H2_ := (Option.bind_some _ _).symm.trans H; with_reducible exact H2_) | with_reducible exact H | (rw [hy128]; exact H) | exact H
              have Ny128 := Aside0.mk hy128
              clear hy128
              simp only [Option.some.injEq, Prod.mk.injEq] at H
              obtain ⟨rfl, rfl⟩ := H
              go_wp2_with (first | ((with_reducible refine gate_dst (N := 26) rfl ?_); refine Kd.R_lit (Kd.int .i8) _ 22 ?hg (N := 26) ?hd (xs := ([] : List Int)) (inner := []) (ok := fun _ => True) (okp := fun _ => True) ?hr ?hp (fun _ hk => hk) trivial (Below.refl _ _) (Nat.le_refl _) (by simp) ?_; (case hd => rfl); (case hg => rfl); (case hr => first | (go_simp; done) | (go_simp; rfl)); (case hp => exact (Reps.none _ _)); intro v129 w35 ho36 hb hg_ hnew_; clear hg_ hnew_; (first | rw [← Ny128.out] at ho36 | (simp only [Int.reduceToNat] at ho36; rw [← Ny128.out] at ho36)); have n0_ := Aside0.mk (Kd.R_elder' (by (with_reducible repeat (first | apply Kd.R_alloc | apply Kd.R_drewN | apply Kd.R_drew)); exact HO_5.out) (Kd.R_base ho36) hb); have n1_ := Aside0.mk (Kd.R_lower (Kd.R_new' ho36 (Kd.R_lt (by (with_reducible repeat (first | apply Kd.R_alloc | apply Kd.R_drewN | apply Kd.R_drew)); exact HO_5.out))) (below_size (by repeat (first | (with_reducible first | exact HB.out | apply below_alloc | apply pw_below_drewN | apply below_drew1) | exact HB.out)))); have n2_ := Aside0.mk (below_step (by repeat (first | (with_reducible first | exact HB.out | apply below_alloc | apply pw_below_drewN | apply below_drew1) | exact HB.out)) hb); clear HO_5; clear HB; have HO_5 := n0_; have HO130 := n1_; have HB := n2_; clear n0_ n1_ n2_; clear hb ho36))
              go_ret2
              exact ⟨_, by first | rfl | (simp [errW_none, errW_some] <;> rfl) | (simp [*, errW_none, errW_some] <;> rfl), by (with_reducible repeat (first | apply Kd.R_alloc | apply Kd.R_drewN | apply Kd.R_drew)); exact Kd.R_mono HO130.out (fun _ hk => trivial), by repeat (first | (with_reducible first | exact HB.out | apply below_alloc | apply pw_below_drewN | apply below_drew1) | exact HB.out)⟩
      ·rw [if_neg c8] at H
       exact absurd H (by simp)
     ·rw [if_neg c7] at H
      exact absurd H (by simp)
    ·rw [if_neg c6] at H
     have c6b0 : decide (x7_1 < (l0.length : Int)) = false := decide_eq_false c6
     clear c6
     simp only [Option.some.injEq, Prod.mk.injEq] at H
     obtain ⟨rfl, rfl⟩ := H
     go_wp2
     go_ret2
     exact ⟨_, by first | rfl | (simp [errW_none, errW_some] <;> rfl) | (simp [*, errW_none, errW_some] <;> rfl), by (with_reducible repeat (first | apply Kd.R_alloc | apply Kd.R_drewN | apply Kd.R_drew)); exact HO_5.out, by repeat (first | (with_reducible first | exact HB.out | apply below_alloc | apply pw_below_drewN | apply below_drew1) | exact HB.out)⟩
 ·replace c3 := Bool.eq_false_iff.mpr c3
  subst c3
  have H1 : (some ((([] : List Int)), false)) = some (r1, r2) := by rw [if_neg (show ¬ (false = true) by decide)] at H; exact H
  clear H
  have H := H1
  clear H1
  obtain ⟨y102, hy102⟩ : ∃ y_ : List Int, y_ = (([] : List Int)) := ⟨_, rfl⟩
  replace H : (some (y102, false)) = some (r1, r2) := by first | (rw [hy102]; with_reducible exact H) | (have H2_ := (Option.bind_some _ _).symm.trans H; rw [hy102]; with_reducible exact H2_) | (have H2_ := (Option.bind_some _ _).symm.trans H; with_reducible exact H2_) | with_reducible exact H | (rw [hy102]; exact H) | exact H
  have Ny102 := Aside0.mk hy102
  clear hy102
  simp only [Option.some.injEq, Prod.mk.injEq] at H
  obtain ⟨rfl, rfl⟩ := H
  go_enter Tryd.func117, Tryd.ntmps117
  go_wp2_with (first | ((with_reducible refine gate_callee (f := 27) rfl ?_); refine goesL_ (some 13) rfl rfl Tryd.func27 (by kernel_rfl) rfl #[.int .i64 (l0.length : Int), .int .i64 1, .int .i64 8] rfl (by (try simp only [List.map_toArray, List.map_cons, List.map_nil]); first | done | rfl | (simp only [List.length_drop, List.length_take]; rfl)) ?_; (with_reducible refine (spec_l00In.calls (l0.length : Int) 1 8 false _ A2.out).mono ?_); rintro e w' ⟨rfl, ⟨nd, rfl⟩⟩; refine ⟨_, rfl, ?_⟩) | ((with_reducible refine gate_dst (N := 15) rfl ?_); refine Kd.R_lit (Kd.int .i8) _ 22 ?hg (N := 15) ?hd (xs := ([] : List Int)) (inner := []) (ok := fun _ => True) (okp := fun _ => True) ?hr ?hp (fun _ hk => hk) trivial (Below.refl _ _) (Nat.le_refl _) (by simp) ?_; (case hd => rfl); (case hg => rfl); (case hr => first | (go_simp; done) | (go_simp; rfl)); (case hp => exact (Reps.none _ _)); intro v103 w37 ho38 hb hg_ hnew_; clear hg_ hnew_; (first | rw [← Ny102.out] at ho38 | (simp only [Int.reduceToNat] at ho38; rw [← Ny102.out] at ho38)); have n0_ := Aside0.mk (Kd.R_lower ho38 (below_size (by repeat (first | (with_reducible first | exact HB.out | apply below_alloc | apply pw_below_drewN | apply below_drew1) | exact HB.out)))); have n1_ := Aside0.mk (below_step (by repeat (first | (with_reducible first | exact HB.out | apply below_alloc | apply pw_below_drewN | apply below_drew1) | exact HB.out)) hb); clear HB; have HO104 := n0_; have HB := n1_; clear n0_ n1_; clear hb ho38))
  go_ret2
  exact ⟨_, by first | rfl | (simp [errW_none, errW_some] <;> rfl) | (simp [*, errW_none, errW_some] <;> rfl), by (with_reducible repeat (first | apply Kd.R_alloc | apply Kd.R_drewN | apply Kd.R_drew)); exact HO104.out, by repeat (first | (with_reducible first | exact HB.out | apply below_alloc | apply pw_below_drewN | apply below_drew1) | exact HB.out)⟩
def spec_l02Ok.f (k : Nat) (l0 : List Int) : Option (Bool) := (spec_l02Read.f k l0).bind fun bt131 => (some bt131.2)
set_option maxHeartbeats 8000000 in
set_option maxRecDepth 100000 in
theorem spec_l02Ok.calls (k : Nat) (A0 : Option Addr) (c0 : Nat) (l0 : List Int) (r : Bool) (w : World) (hr0 : Kd.C (Kd.int .i8) w A0 l0.length l0) (hc0 : l0.length ≤ c0) (h : spec_l02Ok.f k l0 = some r) :
  Calls Tryd.prog 91 #[.slice A0 l0.length c0] w fun e w' => e = .returned (.bool r) ∧ Below w.heap.size w w' := by
 have HR0 := Aside0.mk hr0
 have HC0 := Aside0.mk hc0
 clear hr0 hc0
 have HB := Aside0.mk (Below.refl w.heap.size w)
 have H : ((spec_l02Read.f k l0).bind fun bt131 => (some bt131.2)) = some r := h
 clear h
 replace H := Option.bind_eq_some_iff.mp H
 obtain ⟨⟨t131, t132⟩, A20, H⟩ := H
 replace H : (some t132) = some r := H
 have A2 := Aside0.mk A20
 clear A20
 obtain rfl := Option.some.inj H
 go_enter Tryd.func91, Tryd.ntmps91
 go_wp2_with (first | ((with_reducible refine gate_callee (f := 117) rfl ?_); refine goesL_ (some 7) rfl rfl Tryd.func117 (by kernel_rfl) rfl #[.slice A0 l0.length c0] rfl (by (try simp only [List.map_toArray, List.map_cons, List.map_nil]); first | done | rfl | (simp only [List.length_drop, List.length_take]; rfl)) ?_; (with_reducible refine (spec_l02Read.calls k _ _ l0 t131 t132 _ ?side1 ?side2 A2.out).mono ?_); (case side1 => repeat (first | exact HR0.out | (with_reducible refine Kd.C_alloc ?_ _) | (with_reducible refine Kd.C_drewN ?_ _) | (with_reducible refine Kd.C_drew ?_))); (case side2 => exact HC0.out); rintro e w3 ⟨v133, rfl, ho0, hb⟩; refine ⟨_, rfl, ?_⟩; have n0_ := Aside0.mk (Kd.R_lower ho0 (below_size (by repeat (first | (with_reducible first | exact HB.out | apply below_alloc | apply pw_below_drewN | apply below_drew1) | exact HB.out)))); have n1_ := Aside0.mk (below_step (by repeat (first | (with_reducible first | exact HB.out | apply below_alloc | apply pw_below_drewN | apply below_drew1) | exact HB.out)) hb); clear HB; have HO134 := n0_; have HB := n1_; clear n0_ n1_; (try clear hb); (try clear hb2); (try clear hk); (try clear hi); (try clear ho0)))
 go_ret
 exact ⟨by first | rfl | (simp [errW_none, errW_some] <;> rfl) | (simp [*, errW_none, errW_some] <;> rfl), by repeat (first | (with_reducible first | exact HB.out | apply below_alloc | apply pw_below_drewN | apply below_drew1) | exact HB.out)⟩
def impl_within.f (a0 : Int) (a1 : Int) (a2 : Int) : Option (Bool) := if a1 ≤ a0 then (some (decide (a0 ≤ a2))) else (some false)
set_option maxHeartbeats 8000000 in
set_option maxRecDepth 100000 in
theorem impl_within.calls (a0 : Int) (a1 : Int) (a2 : Int) (r : Bool) (w : World) (h : impl_within.f a0 a1 a2 = some r) :
  Calls Tryd.prog 32 #[.int .i64 a0, .int .i64 a1, .int .i64 a2] w fun e w' => e = .returned (.bool r) ∧ Drawn0 w w' := by
 have H : (if a1 ≤ a0 then (some (decide (a0 ≤ a2))) else (some false)) = some r := h
 clear h
 by_cases c4 : a1 ≤ a0
 ·rw [if_pos c4] at H
  have c4b0 : decide (a1 ≤ a0) = true := decide_eq_true c4
  clear c4
  obtain rfl := Option.some.inj H
  go_enter Tryd.func32, Tryd.ntmps32
  go_wp2
  go_ret
  exact ⟨by first | rfl | (simp; done) | (simp [*]; done), by repeat (first | exact Drawn0.refl _ | apply Drawn0.step)⟩
 ·rw [if_neg c4] at H
  have c4b0 : decide (a1 ≤ a0) = false := decide_eq_false c4
  clear c4
  obtain rfl := Option.some.inj H
  go_enter Tryd.func32, Tryd.ntmps32
  go_wp2
  go_ret
  exact ⟨by first | rfl | (simp; done) | (simp [*]; done), by repeat (first | exact Drawn0.refl _ | apply Drawn0.step)⟩
end Go.Proofs.YtdgecgfgekmhcaaDoor.J
namespace Go.Proofs.YtdgecgfgekmhcaaDoor.Arr
open Go.RowKit Go.Proofs.YtdgecgfgekmhcaaDoorW.PrintWords Go.Proofs.YtdgecgfgekmhcaaDoorW.PrintLast Go.Proofs.YtdgecgfgekmhcaaDoorW.PrintMore Go.Proofs.YtdgecgfgekmhcaaDoor.U Go.Proofs.YtdgecgfgekmhcaaDoor.J
set_option linter.unusedVariables false
set_option linter.unusedSimpArgs false
abbrev txs (l : List (List UInt8)) : List ByteArray := l.map fun x => ⟨x.toArray⟩
theorem txt_cell {W : World} {bk n : Nat} {xs : List ByteArray} (h : Kd.C Kd.string W (some ⟨bk, 0, none⟩) n xs) {j : Nat} {y : ByteArray} (hj : xs[j]? = some y) : W.cell? ⟨bk, 0 + j, none⟩ = some (.string y) := by
 have hl := (List.getElem?_eq_some_iff.1 hj).1
 obtain ⟨hn, _, h3⟩ := h
 obtain ⟨ad, e2, hcell⟩ := h3 (by omega)
 cases e2
 obtain ⟨cs, _, hk, hq⟩ := hcell j _ hj
 have hk : cs = [Value.string y] := hk
 have := hq 0 _ (by rw [hk]; rfl)
 rcases Nat.eq_zero_or_pos j with h0 | h0
 ·subst h0
  simpa [Addr.add, Kd.string, Kd.scalar] using this
 ·have hj0 : ¬ j = 0 := by omega
  simpa [Addr.add, Kd.string, Kd.scalar, hj0] using this
theorem FrBelow.read {w w1 : World} (h : Below w.heap.size w w1) {p : Addr} {v : Value} (hc : w.cell? p = some v) : w1.cell? p = some v :=
 (World.cell?_of_block (w := w) (h.block p.block (World.block_lt_of_cell? w _ hc))).trans hc
theorem bt_app (a b : List UInt8) (c : UInt8) : bt ⟨(a ++ c :: b).toArray⟩ (a.length : Int) = (c.toNat : Int) := by
 unfold bt
 have h : ((a.length : Int)).toNat < (⟨(a ++ c :: b).toArray⟩ : ByteArray).size := by rw [bs_size]; simp
 rw [dif_pos h]
 congr 2
 show (a ++ c :: b).toArray[a.length]'_ = c
 simp
theorem num_l0 (l : List UInt8) (hl : l.length ≤ 9) : ∀ (r a : List UInt8) (n : Int), l = a ++ r → 0 ≤ n → n < 10 ^ a.length → spec_l01Number.l0 (r.length + 1) ⟨l.toArray⟩ n (a.length : Int) = some (numGo n r)
 | [], a, n, e, h0, h1 => by
  rw [List.length_nil, spec_l01Number.l0, bs_size, if_neg (by rw [e]; simp)]
  rfl
 | c :: r, a, n, e, h0, h1 => by
  have hn : l.length = a.length + (r.length + 1) := by rw [e]; simp
  have hb : bt ⟨l.toArray⟩ (a.length : Int) = (c.toNat : Int) := by rw [e]; exact bt_app a r c
  have hc : c.toNat < 256 := c.toNat_lt
  have h9 : (10 : Int) ^ a.length ≤ 10 ^ 8 := by
   have : (10 : Nat) ^ a.length ≤ 10 ^ 8 := Nat.pow_le_pow_right (by omega) (by omega)
   exact_mod_cast this
  rw [List.length_cons, spec_l01Number.l0, bs_size, if_pos (by omega), if_pos (by omega), hb, numGo]
  by_cases h2 : c.toNat < 48
  ·rw [if_pos (by omega), if_pos (by omega)]
  ·by_cases h3 : 57 < c.toNat
   ·rw [if_neg (by omega), if_pos (by omega), if_pos (by omega)]
   ·rw [if_neg (by omega), if_neg (by omega), if_neg (by omega), w64 (x := 10 * n) (by omega) (by omega), show ((c.toNat : Int) - 48) % 256 = ((c.toNat - 48 : Nat) : Int) by omega, w64 (by omega) (by omega),
     w64 (x := (a.length : Int) + 1) (by omega) (by omega)]
    have := num_l0 l hl r (a ++ [c]) (10 * n + ((c.toNat - 48 : Nat) : Int)) (by rw [e]; simp) (by omega) (by
     rw [List.length_append, List.length_singleton, Int.pow_succ]
     omega)
    rw [List.length_append, List.length_singleton] at this
    exact this
theorem num_f (l : List UInt8) : spec_l01Number.f (l.length + 2) ⟨l.toArray⟩ = some (numS l) := by
 unfold spec_l01Number.f numS
 rw [Lib.toList_data]
 cases l with
 | nil => rfl
 | cons c r =>
  have hb : bt ⟨(c :: r).toArray⟩ 0 = (c.toNat : Int) := bt_app [] r c
  have hc : c.toNat < 256 := c.toNat_lt
  rw [if_neg (by simp), bs_size, hb]
  by_cases h1 : 9 < (c :: r).length
  ·rw [if_pos (by omega), if_pos (Or.inr (Or.inl h1))]
   rfl
  ·rw [if_neg (by omega), if_pos (by simp)]
   have hgo := num_l0 (c :: r) (by omega) (c :: r) [] 0 rfl (by omega) (by simp)
   by_cases h2 : c.toNat = 48
   ·have hc48 : c = 48 := by
     apply UInt8.toNat_inj.1
     exact h2
    rw [if_pos (by omega)]
    by_cases h3 : 1 < (c :: r).length
    ·rw [if_pos (Or.inr (Or.inr ⟨by rw [hc48]; rfl, h3⟩)), decide_eq_true (by omega)]
     rfl
    ·rw [if_neg (by simp only [List.cons_ne_nil, false_or]; omega), decide_eq_false (by omega)]
     exact hgo
   ·rw [if_neg (by omega), if_neg (by
     rintro (h | h | ⟨h, _⟩)
     ·cases h
     ·exact h1 h
     ·simp only [List.head?_cons, Option.some.injEq] at h
      rw [h] at h2
      exact h2 rfl)]
    exact hgo
theorem num_calls (l : List UInt8) (w : World) : Calls Tryd.prog 40 #[.string ⟨l.toArray⟩] w fun e w' => e = .returned (.tuple #[.int .i64 (numS l).1, .bool (numS l).2]) ∧ Below w.heap.size w w' :=
 (spec_l01Number.calls _ _ _ _ w (num_f l)).mono fun e w' ⟨h1, h2⟩ => ⟨h1, h2.below⟩
theorem bs_extract (a b c : List UInt8) : (⟨(a ++ (b ++ c)).toArray⟩ : ByteArray).extract ((a.length : Int)).toNat (((a.length + b.length : Nat) : Int)).toNat = ⟨b.toArray⟩ := AnyPlain.small_ba _ b (by
 rw [Lib.extract_data, Int.toNat_natCast, Int.toNat_natCast]
 simp)
theorem split_l0 (c : UInt8) (l : List UInt8) (hl : l.length ≤ 1048576) : ∀ (r b a : List UInt8) (out : List (List UInt8)), l = a ++ (b ++ r) → (∀ x ∈ b, x ≠ c) → out.length ≤ a.length →
  spec_l01Split.l0 (r.length + 1) ⟨l.toArray⟩ (c.toNat : Int) (txs out) (a.length : Int) ((a.length + b.length : Nat) : Int) = some (txs (out ++ sp c (b ++ r)))
 | [], b, a, out, e, hb, ho => by
  have hn : l.length = a.length + b.length := by rw [e]; simp
  rw [List.length_nil, spec_l01Split.l0, bs_size, if_neg (by omega), if_pos (by omega), if_pos (by omega), if_pos (by simp; omega), List.append_nil, sp_no c b hb]
  congr 1
  unfold txs
  rw [List.map_append, List.map_singleton]
  congr 2
  have := bs_extract a b []
  rw [List.append_nil] at this
  rw [e, List.append_nil]
  rw [Int.toNat_natCast] at this ⊢
  rw [List.length_append]
  exact this
 | x :: r, b, a, out, e, hb, ho => by
  have hn : l.length = a.length + b.length + (r.length + 1) := by rw [e]; simp; omega
  have hx : bt ⟨l.toArray⟩ ((a.length + b.length : Nat) : Int) = (x.toNat : Int) := by
   have := bt_app (a ++ b) r x
   rw [List.append_assoc, ← e, List.length_append] at this
   exact this
  rw [List.length_cons, spec_l01Split.l0, bs_size, if_pos (by omega), if_pos (by omega), hx, w64 (by omega) (by omega)]
  by_cases h : x = c
  ·subst h
   rw [if_pos rfl, if_pos (by omega), if_pos (by omega), if_pos (by omega), if_pos (by simp; omega)]
   have h2 := bs_extract a b (x :: r)
   rw [e, h2, show txs out ++ [(⟨b.toArray⟩ : ByteArray)] = txs (out ++ [b]) by simp [txs], sp_cut x r b hb]
   have := split_l0 x l hl r [] (a ++ b ++ [x]) (out ++ [b]) (by rw [e]; simp) (by simp) (by simp; omega)
   simp only [List.length_append, List.length_singleton, List.length_nil, Nat.add_zero, List.nil_append, List.append_assoc, e] at this
   rw [show ((a.length + b.length : Nat) : Int) + 1 = ((a.length + (b.length + 1) : Nat) : Int) by omega]
   exact this
  ·rw [if_neg (fun h2 => h (UInt8.toNat_inj.1 (by omega)))]
   have := split_l0 c l hl r (b ++ [x]) a out (by rw [e]; simp) (by
    intro y hy
    rcases List.mem_append.1 hy with hy | hy
    ·exact hb y hy
    ·simp at hy; rw [hy]; exact h) ho
   simp only [List.length_append, List.length_singleton, List.append_assoc, List.singleton_append] at this
   rw [show ((a.length + b.length : Nat) : Int) + 1 = ((a.length + (b.length + 1) : Nat) : Int) by omega]
   exact this
theorem split_f (c : UInt8) (l : List UInt8) (hl : l.length ≤ 1048576) : spec_l01Split.f (l.length + 1) ⟨l.toArray⟩ (c.toNat : Int) = some (txs (sp c l)) :=
 split_l0 c l hl l [] [] [] rfl (by simp) (Nat.le_refl _)
theorem split_calls (c : UInt8) (l : List UInt8) (hl : l.length ≤ 1048576) (w : World) : Calls Tryd.prog 28 #[.string ⟨l.toArray⟩, .int .u8 (c.toNat : Int)] w
  fun e w' => ∃ v, e = .returned v ∧ Kd.R Kd.string 9 w' w.heap.size (fun _ => True) v (txs (sp c l)) ∧ Below w.heap.size w w' :=
 spec_l01Split.calls _ _ _ _ w (split_f c l hl)
theorem Below.drawn3 {B : Nat} {a w : World} (h : Below B a w) (n : Nat) : Below B a (w.drewN n) := h.trans ⟨rfl, rfl, rfl, Nat.le_refl _, fun _ _ => rfl⟩
structure Door (w : World) : Prop where
 len : ∃ m, w.cell? ⟨ren146.g 1, 0, none⟩ = some (.int .i64 m)
 syn : ∃ te pe, w.cell? ⟨ren174.g 15, 0, none⟩ = some (.iface te pe)
 rng : ∃ te pe, w.cell? ⟨ren174.g 16, 0, none⟩ = some (.iface te pe)
 pow : Lib.TabIs Tryd.prog w "internal/strconv.uint64pow10" .u64 Lib.pow10Tab
theorem Door.below {w w1 : World} (h : Door w) (hb : Below w.heap.size w w1) : Door w1 := by
 obtain ⟨⟨m, h1⟩, ⟨a, b, h2⟩, ⟨c, d, h3⟩, h4⟩ := h
 exact ⟨⟨m, FrBelow.read hb h1⟩, ⟨a, b, FrBelow.read hb h2⟩, ⟨c, d, FrBelow.read hb h3⟩, Go.Joins.tab_stays (g := ren174.g 17) (by kernel_rfl) h4 hb (Nat.le_refl _)⟩
theorem parse_ok (l : List UInt8) (hl : l.length ≤ 1048576) (w : World) (v : Int) (hx : Lib.parseIntB 64 l = .ok v) :
  Calls Tryd.prog 64 #[.string ⟨l.toArray⟩, .int .i64 10, .int .i64 64] w fun e w' => e = .returned (.tuple #[.int .i64 v, .nilIface]) ∧ Below w.heap.size w w' := by
 have hs : (⟨l.toArray⟩ : ByteArray).size = l.length := bs_size l
 have hd : (⟨l.toArray⟩ : ByteArray).data.toList = l := by simp
 refine (Any.strconv_ParseInt_10_at64_ok lay174 ⟨l.toArray⟩ (by omega) v (by rw [hd]; exact hx) w).mono ?_
 rintro e w' ⟨rfl, hw⟩
 refine ⟨rfl, ?_⟩
 rcases hw with rfl | ⟨t, rfl⟩
 ·exact Below.refl _ _
 ·exact Lib.bytesWorld_below _ _ _
theorem parse_no (l : List UInt8) (hl : l.length ≤ 1048576) (w : World) (hD : Door w) (hx : ∀ v : Int, Lib.parseIntB 64 l ≠ .ok v) :
  Calls Tryd.prog 64 #[.string ⟨l.toArray⟩, .int .i64 10, .int .i64 64] w fun e w' => ∃ (n : Int) (t : TypeId) (p : Value), e = .returned (.tuple #[.int .i64 n, .iface t p]) ∧ Below w.heap.size w w' := by
 have hs : (⟨l.toArray⟩ : ByteArray).size = l.length := bs_size l
 have hd : (⟨l.toArray⟩ : ByteArray).data.toList = l := by simp
 rcases hy : Lib.parseIntB 64 l with v | _ | _
 ·exact absurd hy (hx v)
 ·obtain ⟨te, pe, hc⟩ := hD.syn
  refine (Any.strconv_ParseInt_10_at64_syntax lay174 ⟨l.toArray⟩ (by omega) (by rw [hd]; exact hy) (.iface te pe) w hc (Or.inr ⟨te, pe, rfl⟩)).mono ?_
  rintro e w' ⟨N, rfl, _, _, hb⟩
  exact ⟨_, _, _, rfl, hb⟩
 ·obtain ⟨te, pe, hc⟩ := hD.rng
  refine (Any.strconv_ParseInt_10_at64_range lay174 ⟨l.toArray⟩ (by omega) (by rw [hd]; exact hy) (.iface te pe) w hc (Or.inr ⟨te, pe, rfl⟩)).mono ?_
  rintro e w' ⟨N, rfl, _, _, hb⟩
  exact ⟨_, _, _, rfl, hb⟩
theorem decimalA_calls (v : Int) (h0 : -9223372036854775808 ≤ v) (h1 : v ≤ 9223372036854775807) (w : World) (hD : Door w) :
  Calls Tryd.prog 25 #[.int .i64 v] w fun e w' => e = .returned (.string ⟨(Lib.itoa v).toArray⟩) ∧ Below w.heap.size w w' := by
 have HF := Aside0.mk (Any.strconv_FormatInt_10 layM173 v h0 h1 w hD.pow)
 go_enter Tryd.func25, Tryd.ntmps25
 go_wp2_with (go_at_call 54; refine HF.out.mono ?_; rintro e w1 ⟨rfl, k, os, rfl⟩)
 go_ret
 exact ⟨rfl, Go.Lib.below_grow _ _ (Nat.le_refl _) _ _⟩
set_option maxHeartbeats 4000000 in
set_option maxRecDepth 100000 in
theorem number_calls (l : List UInt8) (hl : l.length ≤ 1048576) (most : Nat) (hm : most < 100) (w : World) (hD : Door w) :
  Calls Tryd.prog 41 #[.string ⟨l.toArray⟩, .int .i64 (most : Int)] w fun e w' =>
   e = .returned (.tuple #[.int .i64 (((numI most l).getD 0 : Nat) : Int), .bool (numI most l).isSome]) ∧ Below w.heap.size w w' := by
 by_cases hp : ∃ v : Int, Lib.parseIntB 64 l = .ok v
 ·obtain ⟨v, hv⟩ := hp
  have HP := Aside0.mk (fun W => parse_ok l hl W v hv)
  have hbd := Go.Lib.parseIntB_bounds hv
  have hb1 := hbd.1
  have hb2 := hbd.2
  have hN := numI_ok hm hv
  have HD := Aside0.mk (fun W hW => decimalA_calls v (by omega) (by omega) W hW)
  clear hbd hv
  go_enter Tryd.func41, Tryd.ntmps41
  have HW := Aside0.mk (fun W => impl_within.calls v 0 (most : Int) (decide (0 ≤ v ∧ v ≤ (most : Int))) W (by
   unfold impl_within.f
   by_cases h : 0 ≤ v <;> simp [h]))
  go_wp2_with (first
   | (go_at_call 64; refine (HP.out _).mono ?_; rintro e w1 ⟨rfl, hb1⟩)
   | (go_at_call 25; refine (HD.out _ (hD.below hb1)).mono ?_; rintro e w2 ⟨rfl, hb2⟩)
   | (go_at_call 32; refine (HW.out _).mono ?_; rintro e w3 ⟨rfl, n3, rfl⟩))
  ·rename_i he h2
   go_ret2
   simp only [Bool.not_eq_true', decide_eq_false_iff_not] at h2
   rw [hN.2 (by omega)]
   exact ⟨rfl, Below.drawn3 (hb1.trans (hb2.mono hb1.size)) n3⟩
  ·rename_i he h2
   go_ret2
   simp only [Bool.not_eq_false', decide_eq_true_eq] at h2
   rw [hN.1 ⟨he, h2⟩, Option.getD_some, Int.toNat_of_nonneg h2.1]
   exact ⟨rfl, Below.drawn3 (hb1.trans (hb2.mono hb1.size)) n3⟩
  ·rename_i he
   go_ret2
   rw [hN.2 (fun h => he h.1)]
   exact ⟨rfl, hb1.trans (hb2.mono hb1.size)⟩
 ·have hp' : ∀ v : Int, Lib.parseIntB 64 l ≠ .ok v := fun v h => hp ⟨v, h⟩
  have HP := Aside0.mk (fun W hW => parse_no l hl W hW hp')
  have hN := numI_none hm hp'
  rw [hN]
  clear hp hp'
  go_enter Tryd.func41, Tryd.ntmps41
  go_wp2_with (go_at_call 64; refine (HP.out _ hD).mono ?_; rintro e w1 ⟨n, t, p, rfl, hb1⟩)
  go_ret2
  exact ⟨rfl, hb1⟩
def TxAt (R : List Ent) (bk : Nat) (ws : List (List UInt8)) : Prop := ∀ W, Held R W → ∀ j x, ws[j]? = some x → W.cell? ⟨bk, j, none⟩ = some (.string ⟨x.toArray⟩)
theorem splitK_calls (c : UInt8) (l : List UInt8) (hl : l.length ≤ 1048576) (w : World) : Calls Tryd.prog 28 #[.string ⟨l.toArray⟩, .int .u8 (c.toNat : Int)] w
  fun e w' => ∃ bk cap R, e = .returned (.slice (some ⟨bk, 0, none⟩) (sp c l).length cap) ∧ newEnts w' w.heap.size = R ∧ R.all (·.own) = true ∧ TxAt R bk (sp c l) ∧ Below w.heap.size w w' ∧ (sp c l).length ≤ cap := by
 refine (split_calls c l hl w).mono ?_
 rintro e w' ⟨v, rfl, hR, hb⟩
 have hne : 0 < (txs (sp c l)).length := by
  rw [txs, List.length_map]
  exact List.length_pos_iff.2 (sp_ne c l)
 obtain ⟨bk, cap, hv, _, hbk, _⟩ := Kd.R_form hR hne
 obtain ⟨A, c2, hv2⟩ := Kd.R_slice hR
 subst hv2
 injection hv with hA _ hc
 subst hA hc
 have hle := (Kd.R_reads' hR).2.1
 rw [txs, List.length_map] at hR hle ⊢
 refine ⟨bk, _, _, rfl, rfl, newEnts_own, fun W hh j x hj => ?_, hb, hle⟩
 have hC := C_held hR hh
 rw [← List.length_map (f := fun x : List UInt8 => (⟨x.toArray⟩ : ByteArray))] at hC
 have := txt_cell hC (show (txs (sp c l))[j]? = some ⟨x.toArray⟩ by rw [List.getElem?_map, hj]; rfl)
 rw [Nat.zero_add] at this
 exact this
theorem splitI_calls (c : UInt8) (l : List UInt8) (hl : l.length ≤ 1048576) (w : World) (hD : Door w) : Calls Tryd.prog 33 #[.string ⟨l.toArray⟩, .string ⟨#[c]⟩] w
  fun e w' => ∃ bk R, e = .returned (.slice (some ⟨bk, 0, none⟩) (sp c l).length (sp c l).length) ∧ newEnts w' w.heap.size = R ∧ R.all (·.own) = true ∧ TxAt R bk (sp c l) ∧ Below w.heap.size w w' := by
 obtain ⟨m, hm⟩ := hD.len
 have hn : (Lib.splitB ⟨#[c]⟩ 0 (Lib.countB ⟨l.toArray⟩ ⟨#[c]⟩) ⟨l.toArray⟩).length = Lib.countB ⟨l.toArray⟩ ⟨#[c]⟩ + 1 := Lib.splitB_all ⟨#[c]⟩ (Nat.le_refl 1) 0 _ _ rfl
 have hs := splitB_sp c l.length ⟨l.toArray⟩ (by rw [bs_size]; exact Nat.le_refl _)
 rw [show (⟨l.toArray⟩ : ByteArray).data.toList = l by simp] at hs
 have hl2 : Lib.countB ⟨l.toArray⟩ ⟨#[c]⟩ + 1 = (sp c l).length := by rw [← hn, ← hs, List.length_map]
 refine (Any.strings_Split { lay146 with } lay146.i9 ⟨l.toArray⟩ ⟨#[c]⟩ m w (by rw [bs_size]; omega) hm (Nat.le_refl 1)).mono ?_
 rintro e w' ⟨rfl, rfl⟩
 rw [hl2]
 generalize Lib.splitB ⟨#[c]⟩ 0 (Lib.countB ⟨l.toArray⟩ ⟨#[c]⟩) ⟨l.toArray⟩ = xs at *
 refine ⟨w.heap.size, _, rfl, rfl, newEnts_own, fun W hh j x hj => ?_, Below.alloc (Below.refl _ _) (Nat.le_refl _) _⟩
 have hc := hh ⟨w.heap.size, (xs.map Value.string).toArray, ren146.t 9, true⟩ (List.mem_filterMap.2 ⟨w.heap.size, List.mem_range.2 (by simp), entOf_cells (Nat.le_refl _) (show (w.heap.push _)[w.heap.size]? = _ by simp)⟩)
 rw [cell_of_row W w.heap.size j _ _ (0, 0) hc, List.getElem?_toArray, List.getElem?_map]
 have hj2 : (xs.map (·.data.toList))[j]? = some x := by rw [hs]; exact hj
 rw [List.getElem?_map] at hj2
 rcases hy : xs[j]? with _ | y
 ·rw [hy] at hj2; cases hj2
 ·rw [hy] at hj2
  injection hj2 with hj2
  subst hj2
  rfl
end Go.Proofs.YtdgecgfgekmhcaaDoor.Arr
namespace Go.Proofs.YtdgecgfgekmhcaaDoor.J
open Go.RowKit Go.Proofs.YtdgecgfgekmhcaaDoorW.PrintWords Go.Proofs.YtdgecgfgekmhcaaDoorW.PrintLast Go.Proofs.YtdgecgfgekmhcaaDoorW.PrintMore
attribute [local go_sem] max2_int min2_int max_two min_two max_three min_three max_four min_four
set_option linter.unusedVariables false
set_option linter.unusedSimpArgs false
def spec_l00Max.f (a0 : Int) (a1 : Int) : Option (Int) := if a0 > a1 then (some a0) else (some a1)
set_option maxHeartbeats 8000000 in
set_option maxRecDepth 100000 in
theorem spec_l00Max.calls (a0 : Int) (a1 : Int) (r : Int) (w : World) (h : spec_l00Max.f a0 a1 = some r) :
  Calls Tryd.prog 119 #[.int .i64 a0, .int .i64 a1] w fun e w' => e = .returned (.int .i64 r) ∧ Drawn0 w w' := by
 have H : (if a0 > a1 then (some a0) else (some a1)) = some r := h
 clear h
 by_cases c3 : a0 > a1
 ·rw [if_pos c3] at H
  have c3b0 : decide (a1 < a0) = true := decide_eq_true c3
  clear c3
  obtain rfl := Option.some.inj H
  go_enter Tryd.func119, Tryd.ntmps119
  go_wp2
  go_ret
  exact ⟨by first | rfl | (simp; done) | (simp [*]; done), by repeat (first | exact Drawn0.refl _ | apply Drawn0.step)⟩
 ·rw [if_neg c3] at H
  have c3b0 : decide (a1 < a0) = false := decide_eq_false c3
  clear c3
  obtain rfl := Option.some.inj H
  go_enter Tryd.func119, Tryd.ntmps119
  go_wp2
  go_ret
  exact ⟨by first | rfl | (simp; done) | (simp [*]; done), by repeat (first | exact Drawn0.refl _ | apply Drawn0.step)⟩
def spec_l02Plain.l0 : Nat → List Int → Int → Option (Bool)
 | 0, _, _ => none
 | k + 1, x0, x3 => if x3 < (x0.length : Int) then (if 0 ≤ x3 then (if (rd x0 x3) < 0 then (if (rd x0 x3) = (-10) then (spec_l02Plain.l0 k x0 (wrap64 (x3 + 1))) else (some false)) else (spec_l02Plain.l0 k x0 (wrap64 (x3 + 1)))) else (none)) else ((spec_l02Ok.f k x0).bind fun t161 => (some t161))
def spec_l02Plain.f (k : Nat) (l0 : List Int) : Option (Bool) := spec_l02Plain.l0 k l0 0
set_option maxHeartbeats 8000000 in
set_option maxRecDepth 100000 in
theorem spec_l02Plain.calls (k : Nat) (A0 : Option Addr) (c0 : Nat) (l0 : List Int) (r : Bool) (w : World) (hr0 : Kd.C (Kd.int .i8) w A0 l0.length l0) (hc0 : l0.length ≤ c0) (h : spec_l02Plain.f k l0 = some r) :
  Calls Tryd.prog 69 #[.slice A0 l0.length c0] w fun e w' => e = .returned (.bool r) ∧ Below w.heap.size w w' := by
 have HR0 := Aside0.mk hr0
 have HC0 := Aside0.mk hc0
 clear hr0 hc0
 have HB := Aside0.mk (Below.refl w.heap.size w)
 have H : (spec_l02Plain.l0 k l0 0) = some r := h
 clear h
 have H' := Aside0.mk H
 clear H
 go_enter Tryd.func69, Tryd.ntmps69
 go_wp2
 go_loopg [3] k (fun kq v3 w' => ∃ (x3_1 : Int), v3 = .int .i64 x3_1 ∧ Aside0 (spec_l02Plain.l0 kq l0 x3_1 = some r) ∧ Aside0 (kq ≤ k) ∧ Aside0 (Below w.heap.size w w'))
 case atStart => exact ⟨(0), (by first | rfl | (simp; done) | (simp [*]; done)), H', ⟨Nat.le_refl _⟩, ⟨by repeat (first | (with_reducible first | exact HB.out | apply below_alloc | apply pw_below_drewN | apply below_drew1) | exact HB.out)⟩⟩
 case round =>
  clear H'
  obtain ⟨x3_1, rfl, HA, HK1, HB⟩ := hrel
  cases gk with
  | zero => exact absurd HA.out (by simp [spec_l02Plain.l0])
  | succ k1 =>
   have H := HA.out
   clear HA
   simp only [spec_l02Plain.l0] at H
   by_cases c2 : x3_1 < (l0.length : Int)
   ·rw [if_pos c2] at H
    have c2b0 : decide (x3_1 < (l0.length : Int)) = true := decide_eq_true c2
    clear c2
    by_cases c3 : 0 ≤ x3_1
    ·rw [if_pos c3] at H
     have c3b0 : decide (0 ≤ x3_1) = true := decide_eq_true c3
     clear c3
     by_cases c4 : (rd l0 x3_1) < 0
     ·rw [if_pos c4] at H
      have c4b0 : decide ((rd l0 x3_1) < 0) = true := decide_eq_true c4
      clear c4
      by_cases c5 : (rd l0 x3_1) = (-10)
      ·rw [if_pos c5] at H
       have c5b0 : ((rd l0 x3_1) == (-10)) = true := beq_iff_eq.mpr c5
       have c5b1 : ((rd l0 x3_1) != (-10)) = false := bne_eq_false_iff_eq.mpr c5
       clear c5
       have H' := Aside0.mk H
       clear H
       have p159 : 0 ≤ (x3_1 : Int) := of_decide_eq_true (by first | (with_reducible assumption) | assumption)
       have q159 : x3_1 < (l0.length : Int) := of_decide_eq_true (by first | (with_reducible assumption) | assumption)
       obtain ⟨ad159, e159, hx159_0⟩ := Kd.at_int HR0.out x3_1 p159 q159
       cases e159
       replace hx159_0 := (HB.out.cell (World.block_lt_of_cell? w _ hx159_0)).trans hx159_0
       replace p159 := eq_true p159
       replace q159 := eq_true q159
       have p160 : 0 ≤ (x3_1 : Int) := of_decide_eq_true (by first | (with_reducible assumption) | assumption)
       have q160 : x3_1 < (l0.length : Int) := of_decide_eq_true (by first | (with_reducible assumption) | assumption)
       obtain ⟨ad160, e160, hx160_0⟩ := Kd.at_int HR0.out x3_1 p160 q160
       obtain rfl : ad159 = ad160 := (by injection e160)
       replace hx160_0 := (HB.out.cell (World.block_lt_of_cell? w _ hx160_0)).trans hx160_0
       replace p160 := eq_true p160
       replace q160 := eq_true q160
       go_wp2
       go_roundg k1
       case measure => have := HK1.out; omega
       case rel => exact ⟨(wrap64 (x3_1 + 1)), (by first | rfl | (simp; done) | (simp [*]; done)), H', ⟨by have := HK1.out; omega⟩, ⟨by repeat (first | (with_reducible first | exact HB.out | apply below_alloc | apply pw_below_drewN | apply below_drew1) | exact HB.out)⟩⟩
      ·rw [if_neg c5] at H
       have c5b0 : ((rd l0 x3_1) == (-10)) = false := beq_eq_false_iff_ne.mpr c5
       have c5b1 : ((rd l0 x3_1) != (-10)) = true := bne_iff_ne.mpr c5
       obtain rfl := Option.some.inj H
       have p159 : 0 ≤ (x3_1 : Int) := of_decide_eq_true (by first | (with_reducible assumption) | assumption)
       have q159 : x3_1 < (l0.length : Int) := of_decide_eq_true (by first | (with_reducible assumption) | assumption)
       obtain ⟨ad159, e159, hx159_0⟩ := Kd.at_int HR0.out x3_1 p159 q159
       cases e159
       replace hx159_0 := (HB.out.cell (World.block_lt_of_cell? w _ hx159_0)).trans hx159_0
       replace p159 := eq_true p159
       replace q159 := eq_true q159
       have p160 : 0 ≤ (x3_1 : Int) := of_decide_eq_true (by first | (with_reducible assumption) | assumption)
       have q160 : x3_1 < (l0.length : Int) := of_decide_eq_true (by first | (with_reducible assumption) | assumption)
       obtain ⟨ad160, e160, hx160_0⟩ := Kd.at_int HR0.out x3_1 p160 q160
       obtain rfl : ad159 = ad160 := (by injection e160)
       replace hx160_0 := (HB.out.cell (World.block_lt_of_cell? w _ hx160_0)).trans hx160_0
       replace p160 := eq_true p160
       replace q160 := eq_true q160
       go_wp2
       go_ret
       exact ⟨by first | rfl | (simp [errW_none, errW_some] <;> rfl) | (simp [*, errW_none, errW_some] <;> rfl), by repeat (first | (with_reducible first | exact HB.out | apply below_alloc | apply pw_below_drewN | apply below_drew1) | exact HB.out)⟩
     ·rw [if_neg c4] at H
      have c4b0 : decide ((rd l0 x3_1) < 0) = false := decide_eq_false c4
      clear c4
      have H' := Aside0.mk H
      clear H
      have p159 : 0 ≤ (x3_1 : Int) := of_decide_eq_true (by first | (with_reducible assumption) | assumption)
      have q159 : x3_1 < (l0.length : Int) := of_decide_eq_true (by first | (with_reducible assumption) | assumption)
      obtain ⟨ad159, e159, hx159_0⟩ := Kd.at_int HR0.out x3_1 p159 q159
      cases e159
      replace hx159_0 := (HB.out.cell (World.block_lt_of_cell? w _ hx159_0)).trans hx159_0
      replace p159 := eq_true p159
      replace q159 := eq_true q159
      go_wp2
      go_roundg k1
      case measure => have := HK1.out; omega
      case rel => exact ⟨(wrap64 (x3_1 + 1)), (by first | rfl | (simp; done) | (simp [*]; done)), H', ⟨by have := HK1.out; omega⟩, ⟨by repeat (first | (with_reducible first | exact HB.out | apply below_alloc | apply pw_below_drewN | apply below_drew1) | exact HB.out)⟩⟩
    ·rw [if_neg c3] at H
     exact absurd H (by simp)
   ·rw [if_neg c2] at H
    have c2b0 : decide (x3_1 < (l0.length : Int)) = false := decide_eq_false c2
    clear c2
    replace H := Option.bind_eq_some_iff.mp H
    obtain ⟨t161, A60, H⟩ := H
    replace H : (some t161) = some r := H
    have A6 := Aside0.mk A60
    clear A60
    obtain rfl := Option.some.inj H
    go_wp2_with (first | ((with_reducible refine gate_callee (f := 91) rfl ?_); refine goesL_ (some 23) rfl rfl Tryd.func91 (by kernel_rfl) rfl #[.slice A0 l0.length c0] rfl (by (try simp only [List.map_toArray, List.map_cons, List.map_nil]); first | done | rfl | (simp only [List.length_drop, List.length_take]; rfl)) ?_; (with_reducible refine (spec_l02Ok.calls k1 _ _ l0 t161 _ ?side1 ?side2 A6.out).mono ?_); (case side1 => repeat (first | exact (Kd.C_below HR0.out HB.out) | (with_reducible refine Kd.C_alloc ?_ _) | (with_reducible refine Kd.C_drewN ?_ _) | (with_reducible refine Kd.C_drew ?_))); (case side2 => exact HC0.out); rintro e w7 ⟨rfl, hb⟩; refine ⟨_, rfl, ?_⟩; have n0_ := Aside0.mk (below_step (by repeat (first | (with_reducible first | exact HB.out | apply below_alloc | apply pw_below_drewN | apply below_drew1) | exact HB.out)) hb); clear HB; have HB := n0_; clear n0_; (try clear hb); (try clear hb2); (try clear hk); (try clear hi)))
    go_ret
    exact ⟨by first | rfl | (simp [errW_none, errW_some] <;> rfl) | (simp [*, errW_none, errW_some] <;> rfl), by repeat (first | (with_reducible first | exact HB.out | apply below_alloc | apply pw_below_drewN | apply below_drew1) | exact HB.out)⟩
def spec_l02Asked.f (k : Nat) (l0 : List Int) (a1 : Int) (a2 : Int) : Option (Int) := (spec_l02Plain.f k l0).bind fun t162 => (if t162 = true then ((spec_l00In.f a1 1 8).bind fun t163 => (if t163 = true then ((spec_l00In.f a2 0 4).bind fun t164 => (if t164 = true then (some 0) else (some 2))) else (some 2))) else (some 1))
set_option maxHeartbeats 8000000 in
set_option maxRecDepth 100000 in
theorem spec_l02Asked.calls (k : Nat) (A0 : Option Addr) (c0 : Nat) (l0 : List Int) (a1 : Int) (a2 : Int) (r : Int) (w : World) (hr0 : Kd.C (Kd.int .i8) w A0 l0.length l0) (hc0 : l0.length ≤ c0) (h : spec_l02Asked.f k l0 a1 a2 = some r) :
  Calls Tryd.prog 57 #[.slice A0 l0.length c0, .int .i64 a1, .int .i64 a2] w fun e w' => e = .returned (.int .i64 r) ∧ Below w.heap.size w w' := by
 have HR0 := Aside0.mk hr0
 have HC0 := Aside0.mk hc0
 clear hr0 hc0
 have HB := Aside0.mk (Below.refl w.heap.size w)
 have H : ((spec_l02Plain.f k l0).bind fun t162 => (if t162 = true then ((spec_l00In.f a1 1 8).bind fun t163 => (if t163 = true then ((spec_l00In.f a2 0 4).bind fun t164 => (if t164 = true then (some 0) else (some 2))) else (some 2))) else (some 1))) = some r := h
 clear h
 replace H := Option.bind_eq_some_iff.mp H
 obtain ⟨t162, A40, H⟩ := H
 replace H : (if t162 = true then ((spec_l00In.f a1 1 8).bind fun t163 => (if t163 = true then ((spec_l00In.f a2 0 4).bind fun t164 => (if t164 = true then (some 0) else (some 2))) else (some 2))) else (some 1)) = some r := H
 have A4 := Aside0.mk A40
 clear A40
 by_cases c5 : t162 = true
 ·subst c5
  have H1 : ((spec_l00In.f a1 1 8).bind fun t163 => (if t163 = true then ((spec_l00In.f a2 0 4).bind fun t164 => (if t164 = true then (some 0) else (some 2))) else (some 2))) = some r := by rw [if_pos rfl] at H; exact H
  clear H
  have H := H1
  clear H1
  replace H := Option.bind_eq_some_iff.mp H
  obtain ⟨t163, A60, H⟩ := H
  replace H : (if t163 = true then ((spec_l00In.f a2 0 4).bind fun t164 => (if t164 = true then (some 0) else (some 2))) else (some 2)) = some r := H
  have A6 := Aside0.mk A60
  clear A60
  by_cases c7 : t163 = true
  ·subst c7
   have H1 : ((spec_l00In.f a2 0 4).bind fun t164 => (if t164 = true then (some 0) else (some 2))) = some r := by rw [if_pos rfl] at H; exact H
   clear H
   have H := H1
   clear H1
   replace H := Option.bind_eq_some_iff.mp H
   obtain ⟨t164, A80, H⟩ := H
   replace H : (if t164 = true then (some 0) else (some 2)) = some r := H
   have A8 := Aside0.mk A80
   clear A80
   by_cases c9 : t164 = true
   ·subst c9
    have H1 : (some 0) = some r := by rw [if_pos rfl] at H; exact H
    clear H
    have H := H1
    clear H1
    obtain rfl := Option.some.inj H
    go_enter Tryd.func57, Tryd.ntmps57
    go_wp2_with (first | ((with_reducible refine gate_callee (f := 69) rfl ?_); refine goesL_ (some 8) rfl rfl Tryd.func69 (by kernel_rfl) rfl #[.slice A0 l0.length c0] rfl (by (try simp only [List.map_toArray, List.map_cons, List.map_nil]); first | done | rfl | (simp only [List.length_drop, List.length_take]; rfl)) ?_; (with_reducible refine (spec_l02Plain.calls k _ _ l0 true _ ?side1 ?side2 A4.out).mono ?_); (case side1 => repeat (first | exact HR0.out | (with_reducible refine Kd.C_alloc ?_ _) | (with_reducible refine Kd.C_drewN ?_ _) | (with_reducible refine Kd.C_drew ?_))); (case side2 => exact HC0.out); rintro e w10 ⟨rfl, hb⟩; refine ⟨_, rfl, ?_⟩; have n0_ := Aside0.mk (below_step (by repeat (first | (with_reducible first | exact HB.out | apply below_alloc | apply pw_below_drewN | apply below_drew1) | exact HB.out)) hb); clear HB; have HB := n0_; clear n0_; (try clear hb); (try clear hb2); (try clear hk); (try clear hi)) | ((with_reducible refine gate_callee (f := 27) rfl ?_); refine goesL_ (some 11) rfl rfl Tryd.func27 (by kernel_rfl) rfl #[.int .i64 a1, .int .i64 1, .int .i64 8] rfl (by (try simp only [List.map_toArray, List.map_cons, List.map_nil]); first | done | rfl | (simp only [List.length_drop, List.length_take]; rfl)) ?_; (with_reducible refine (spec_l00In.calls a1 1 8 true _ A6.out).mono ?_); rintro e w' ⟨rfl, ⟨nd, rfl⟩⟩; refine ⟨_, rfl, ?_⟩) | (go_at_call 27; (with_reducible refine (spec_l00In.calls a2 0 4 true _ A8.out).mono ?_); rintro e w' ⟨rfl, ⟨nd, rfl⟩⟩))
    go_ret
    exact ⟨by first | rfl | (simp [errW_none, errW_some] <;> rfl) | (simp [*, errW_none, errW_some] <;> rfl), by repeat (first | (with_reducible first | exact HB.out | apply below_alloc | apply pw_below_drewN | apply below_drew1) | exact HB.out)⟩
   ·replace c9 := Bool.eq_false_iff.mpr c9
    subst c9
    have H1 : (some 2) = some r := by rw [if_neg (show ¬ (false = true) by decide)] at H; exact H
    clear H
    have H := H1
    clear H1
    obtain rfl := Option.some.inj H
    go_enter Tryd.func57, Tryd.ntmps57
    go_wp2_with (first | ((with_reducible refine gate_callee (f := 69) rfl ?_); refine goesL_ (some 8) rfl rfl Tryd.func69 (by kernel_rfl) rfl #[.slice A0 l0.length c0] rfl (by (try simp only [List.map_toArray, List.map_cons, List.map_nil]); first | done | rfl | (simp only [List.length_drop, List.length_take]; rfl)) ?_; (with_reducible refine (spec_l02Plain.calls k _ _ l0 true _ ?side1 ?side2 A4.out).mono ?_); (case side1 => repeat (first | exact HR0.out | (with_reducible refine Kd.C_alloc ?_ _) | (with_reducible refine Kd.C_drewN ?_ _) | (with_reducible refine Kd.C_drew ?_))); (case side2 => exact HC0.out); rintro e w11 ⟨rfl, hb⟩; refine ⟨_, rfl, ?_⟩; have n0_ := Aside0.mk (below_step (by repeat (first | (with_reducible first | exact HB.out | apply below_alloc | apply pw_below_drewN | apply below_drew1) | exact HB.out)) hb); clear HB; have HB := n0_; clear n0_; (try clear hb); (try clear hb2); (try clear hk); (try clear hi)) | ((with_reducible refine gate_callee (f := 27) rfl ?_); refine goesL_ (some 11) rfl rfl Tryd.func27 (by kernel_rfl) rfl #[.int .i64 a1, .int .i64 1, .int .i64 8] rfl (by (try simp only [List.map_toArray, List.map_cons, List.map_nil]); first | done | rfl | (simp only [List.length_drop, List.length_take]; rfl)) ?_; (with_reducible refine (spec_l00In.calls a1 1 8 true _ A6.out).mono ?_); rintro e w' ⟨rfl, ⟨nd, rfl⟩⟩; refine ⟨_, rfl, ?_⟩) | (go_at_call 27; (with_reducible refine (spec_l00In.calls a2 0 4 false _ A8.out).mono ?_); rintro e w' ⟨rfl, ⟨nd, rfl⟩⟩))
    go_ret
    exact ⟨by first | rfl | (simp [errW_none, errW_some] <;> rfl) | (simp [*, errW_none, errW_some] <;> rfl), by repeat (first | (with_reducible first | exact HB.out | apply below_alloc | apply pw_below_drewN | apply below_drew1) | exact HB.out)⟩
  ·replace c7 := Bool.eq_false_iff.mpr c7
   subst c7
   have H1 : (some 2) = some r := by rw [if_neg (show ¬ (false = true) by decide)] at H; exact H
   clear H
   have H := H1
   clear H1
   obtain rfl := Option.some.inj H
   go_enter Tryd.func57, Tryd.ntmps57
   go_wp2_with (first | ((with_reducible refine gate_callee (f := 69) rfl ?_); refine goesL_ (some 8) rfl rfl Tryd.func69 (by kernel_rfl) rfl #[.slice A0 l0.length c0] rfl (by (try simp only [List.map_toArray, List.map_cons, List.map_nil]); first | done | rfl | (simp only [List.length_drop, List.length_take]; rfl)) ?_; (with_reducible refine (spec_l02Plain.calls k _ _ l0 true _ ?side1 ?side2 A4.out).mono ?_); (case side1 => repeat (first | exact HR0.out | (with_reducible refine Kd.C_alloc ?_ _) | (with_reducible refine Kd.C_drewN ?_ _) | (with_reducible refine Kd.C_drew ?_))); (case side2 => exact HC0.out); rintro e w12 ⟨rfl, hb⟩; refine ⟨_, rfl, ?_⟩; have n0_ := Aside0.mk (below_step (by repeat (first | (with_reducible first | exact HB.out | apply below_alloc | apply pw_below_drewN | apply below_drew1) | exact HB.out)) hb); clear HB; have HB := n0_; clear n0_; (try clear hb); (try clear hb2); (try clear hk); (try clear hi)) | ((with_reducible refine gate_callee (f := 27) rfl ?_); refine goesL_ (some 11) rfl rfl Tryd.func27 (by kernel_rfl) rfl #[.int .i64 a1, .int .i64 1, .int .i64 8] rfl (by (try simp only [List.map_toArray, List.map_cons, List.map_nil]); first | done | rfl | (simp only [List.length_drop, List.length_take]; rfl)) ?_; (with_reducible refine (spec_l00In.calls a1 1 8 false _ A6.out).mono ?_); rintro e w' ⟨rfl, ⟨nd, rfl⟩⟩; refine ⟨_, rfl, ?_⟩))
   go_ret
   exact ⟨by first | rfl | (simp [errW_none, errW_some] <;> rfl) | (simp [*, errW_none, errW_some] <;> rfl), by repeat (first | (with_reducible first | exact HB.out | apply below_alloc | apply pw_below_drewN | apply below_drew1) | exact HB.out)⟩
 ·replace c5 := Bool.eq_false_iff.mpr c5
  subst c5
  have H1 : (some 1) = some r := by rw [if_neg (show ¬ (false = true) by decide)] at H; exact H
  clear H
  have H := H1
  clear H1
  obtain rfl := Option.some.inj H
  go_enter Tryd.func57, Tryd.ntmps57
  go_wp2_with (first | ((with_reducible refine gate_callee (f := 69) rfl ?_); refine goesL_ (some 8) rfl rfl Tryd.func69 (by kernel_rfl) rfl #[.slice A0 l0.length c0] rfl (by (try simp only [List.map_toArray, List.map_cons, List.map_nil]); first | done | rfl | (simp only [List.length_drop, List.length_take]; rfl)) ?_; (with_reducible refine (spec_l02Plain.calls k _ _ l0 false _ ?side1 ?side2 A4.out).mono ?_); (case side1 => repeat (first | exact HR0.out | (with_reducible refine Kd.C_alloc ?_ _) | (with_reducible refine Kd.C_drewN ?_ _) | (with_reducible refine Kd.C_drew ?_))); (case side2 => exact HC0.out); rintro e w13 ⟨rfl, hb⟩; refine ⟨_, rfl, ?_⟩; have n0_ := Aside0.mk (below_step (by repeat (first | (with_reducible first | exact HB.out | apply below_alloc | apply pw_below_drewN | apply below_drew1) | exact HB.out)) hb); clear HB; have HB := n0_; clear n0_; (try clear hb); (try clear hb2); (try clear hk); (try clear hi)))
  go_ret
  exact ⟨by first | rfl | (simp [errW_none, errW_some] <;> rfl) | (simp [*, errW_none, errW_some] <;> rfl), by repeat (first | (with_reducible first | exact HB.out | apply below_alloc | apply pw_below_drewN | apply below_drew1) | exact HB.out)⟩
def spec_l03Phrase.l0 : Nat → ByteArray → Int → Option (Bool)
 | 0, _, _ => none
 | k + 1, x0, x3 => if x3 < (x0.size : Int) then (if 0 ≤ x3 then (if (bt x0 x3) < 32 then (some false) else (if (bt x0 x3) > 126 then (some false) else (spec_l03Phrase.l0 k x0 (wrap64 (x3 + 1))))) else (none)) else ((spec_l00In.f (x0.size : Int) 1 40).bind fun t165 => (some t165))
def spec_l03Phrase.f (k : Nat) (a0 : ByteArray) : Option (Bool) := spec_l03Phrase.l0 k a0 0
set_option maxHeartbeats 8000000 in
set_option maxRecDepth 100000 in
theorem spec_l03Phrase.calls (k : Nat) (a0 : ByteArray) (r : Bool) (w : World) (h : spec_l03Phrase.f k a0 = some r) :
  Calls Tryd.prog 46 #[.string a0] w fun e w' => e = .returned (.bool r) ∧ Drawn0 w w' := by
 have H : (spec_l03Phrase.l0 k a0 0) = some r := h
 clear h
 have H' := Aside0.mk H
 clear H
 go_enter Tryd.func46, Tryd.ntmps46
 go_wp2
 go_loopg [3] k (fun kq v3 w' => ∃ (x3_1 : Int), v3 = .int .i64 x3_1 ∧ Aside0 (spec_l03Phrase.l0 kq a0 x3_1 = some r) ∧ Aside0 (kq ≤ k) ∧ Drawn0 w w')
 case atStart => exact ⟨(0), (by first | rfl | (simp; done) | (simp [*]; done)), H', ⟨Nat.le_refl _⟩, by repeat (first | exact Drawn0.refl _ | apply Drawn0.step)⟩
 case round =>
  clear H'
  obtain ⟨x3_1, rfl, HA, HK1, ⟨m1, rfl⟩⟩ := hrel
  cases gk with
  | zero => exact absurd HA.out (by simp [spec_l03Phrase.l0])
  | succ k1 =>
   have H := HA.out
   clear HA
   simp only [spec_l03Phrase.l0] at H
   by_cases c2 : x3_1 < (a0.size : Int)
   ·rw [if_pos c2] at H
    have c2b0 : decide (x3_1 < (a0.size : Int)) = true := decide_eq_true c2
    clear c2
    by_cases c3 : 0 ≤ x3_1
    ·rw [if_pos c3] at H
     have c3b0 : decide (0 ≤ x3_1) = true := decide_eq_true c3
     clear c3
     by_cases c5 : (bt a0 x3_1) < 32
     ·rw [if_pos c5] at H
      have c5b0 : decide ((bt a0 x3_1) < 32) = true := decide_eq_true c5
      clear c5
      obtain rfl := Option.some.inj H
      have p4 : 0 ≤ (x3_1 : Int) := of_decide_eq_true (by first | (with_reducible assumption) | assumption)
      have q4 : x3_1 < (a0.size : Int) := of_decide_eq_true (by first | (with_reducible assumption) | assumption)
      have hx4 := bt_at a0 x3_1
      replace p4 := eq_true p4
      replace q4 := eq_true q4
      go_wp2
      go_ret
      exact ⟨by first | rfl | (simp; done) | (simp [*]; done), by repeat (first | exact Drawn0.refl _ | apply Drawn0.step)⟩
     ·rw [if_neg c5] at H
      have c5b0 : decide ((bt a0 x3_1) < 32) = false := decide_eq_false c5
      clear c5
      by_cases c7 : (bt a0 x3_1) > 126
      ·rw [if_pos c7] at H
       have c7b0 : decide (126 < (bt a0 x3_1)) = true := decide_eq_true c7
       clear c7
       obtain rfl := Option.some.inj H
       have p4 : 0 ≤ (x3_1 : Int) := of_decide_eq_true (by first | (with_reducible assumption) | assumption)
       have q4 : x3_1 < (a0.size : Int) := of_decide_eq_true (by first | (with_reducible assumption) | assumption)
       have hx4 := bt_at a0 x3_1
       replace p4 := eq_true p4
       replace q4 := eq_true q4
       have p6 : 0 ≤ (x3_1 : Int) := of_decide_eq_true (by first | (with_reducible assumption) | assumption)
       have q6 : x3_1 < (a0.size : Int) := of_decide_eq_true (by first | (with_reducible assumption) | assumption)
       have hx6 := bt_at a0 x3_1
       replace p6 := eq_true p6
       replace q6 := eq_true q6
       go_wp2
       go_ret
       exact ⟨by first | rfl | (simp; done) | (simp [*]; done), by repeat (first | exact Drawn0.refl _ | apply Drawn0.step)⟩
      ·rw [if_neg c7] at H
       have c7b0 : decide (126 < (bt a0 x3_1)) = false := decide_eq_false c7
       clear c7
       have H' := Aside0.mk H
       clear H
       have p4 : 0 ≤ (x3_1 : Int) := of_decide_eq_true (by first | (with_reducible assumption) | assumption)
       have q4 : x3_1 < (a0.size : Int) := of_decide_eq_true (by first | (with_reducible assumption) | assumption)
       have hx4 := bt_at a0 x3_1
       replace p4 := eq_true p4
       replace q4 := eq_true q4
       have p6 : 0 ≤ (x3_1 : Int) := of_decide_eq_true (by first | (with_reducible assumption) | assumption)
       have q6 : x3_1 < (a0.size : Int) := of_decide_eq_true (by first | (with_reducible assumption) | assumption)
       have hx6 := bt_at a0 x3_1
       replace p6 := eq_true p6
       replace q6 := eq_true q6
       go_wp2
       go_roundg k1
       case measure => have := HK1.out; omega
       case rel => exact ⟨(wrap64 (x3_1 + 1)), (by first | rfl | (simp; done) | (simp [*]; done)), H', ⟨by have := HK1.out; omega⟩, by repeat (first | exact Drawn0.refl _ | apply Drawn0.step)⟩
    ·rw [if_neg c3] at H
     exact absurd H (by simp)
   ·rw [if_neg c2] at H
    have c2b0 : decide (x3_1 < (a0.size : Int)) = false := decide_eq_false c2
    clear c2
    replace H := Option.bind_eq_some_iff.mp H
    obtain ⟨t165, A80, H⟩ := H
    replace H : (some t165) = some r := H
    have A8 := Aside0.mk A80
    clear A80
    obtain rfl := Option.some.inj H
    go_wp2_with (first | ((with_reducible refine gate_callee (f := 27) rfl ?_); refine goesL_ (some 22) rfl rfl Tryd.func27 (by kernel_rfl) rfl #[.int .i64 (a0.size : Int), .int .i64 1, .int .i64 40] rfl (by (try simp only [List.map_toArray, List.map_cons, List.map_nil]); first | done | rfl | (simp only [List.length_drop, List.length_take]; rfl)) ?_; (with_reducible refine (spec_l00In.calls (a0.size : Int) 1 40 t165 _ A8.out).mono ?_); rintro e w' ⟨rfl, ⟨nd, rfl⟩⟩; refine ⟨_, rfl, ?_⟩))
    go_ret
    exact ⟨by first | rfl | (simp; done) | (simp [*]; done), by repeat (first | exact Drawn0.refl _ | apply Drawn0.step)⟩
end Go.Proofs.YtdgecgfgekmhcaaDoor.J
namespace Go.Proofs.YtdgecgfgekmhcaaDoor.Arr
open Go.RowKit Go.Proofs.YtdgecgfgekmhcaaDoor.J Go.Proofs.YtdgecgfgekmhcaaDoor.U Go.Proofs.YtdgecgfgekmhcaaDoorW.PrintLast Go.Proofs.YtdgecgfgekmhcaaDoorW.PrintWords
set_option linter.unusedVariables false
set_option linter.unusedSimpArgs false
def stepH (st : List Int × Nat) (x : Int) : Option (List Int × Nat) :=
 if x = -10 then (if st.2 = st.1.length then none else some (st.1 ++ [x], st.1.length + 1))
 else if 0 ≤ x ∧ x ≤ 39 then some (st.1 ++ [x], st.2)
 else if -4 ≤ x ∧ x ≤ -1 then (if (st.2 : Int) + -x - 1 < st.1.length then some (st.1 ++ [rd st.1 ((st.2 : Int) + -x - 1)], st.2) else none)
 else none
def runH (h : List Int) : Nat → Option (List Int × Nat)
 | 0 => some ([], 0)
 | i + 1 => (runH h i).bind fun st => stepH st (rd h (i : Int))
def readH (h : List Int) : Option (List Int) :=
 if 1 ≤ h.length ∧ h.length ≤ 8 then (match runH h h.length with | some (o, s) => if s < o.length then some o else none | none => none) else none
def okH (h : List Int) : Bool := (readH h).isSome
theorem runH_none {h : List Int} {i : Nat} (hi : runH h i = none) : ∀ n, i ≤ n → runH h n = none
 | 0, hn => by obtain rfl : i = 0 := by omega
               exact hi
 | n + 1, hn => by
  rcases Nat.lt_or_ge i (n + 1) with h1 | h1
  ·rw [runH, runH_none hi n (by omega)]; rfl
  ·obtain rfl : i = n + 1 := by omega
   exact hi
structure GoodH (h : List Int) (i : Nat) (o : List Int) (s : Nat) : Prop where
 len : o.length = i
 le : s ≤ i
 kind : ∀ j : Nat, s ≤ j → j < i → 0 ≤ rd o (j : Int) ∧ rd o (j : Int) ≤ 39
 old : ∀ j : Nat, j < i → rd h (j : Int) = -10 ∨ (0 ≤ rd h (j : Int) ∧ rd h (j : Int) ≤ 39) ∨ (-4 ≤ rd h (j : Int) ∧ rd h (j : Int) ≤ -1)
theorem rd_app_left (l m : List Int) (j : Nat) (hj : j < l.length) : rd (l ++ m) (j : Int) = rd l (j : Int) := by
 rw [rd_get l j hj, rd_get _ j (by simp; omega), List.getElem_append_left hj]
theorem rd_app_end (l : List Int) (x : Int) : rd (l ++ [x]) (l.length : Int) = x := by
 rw [rd_get _ l.length (by simp)]
 simp
theorem runH_good {h : List Int} : ∀ (i : Nat) (o : List Int) (s : Nat), runH h i = some (o, s) → GoodH h i o s
 | 0, o, s, e => by
  simp only [runH, Option.some.injEq, Prod.mk.injEq] at e
  obtain ⟨rfl, rfl⟩ := e
  exact ⟨rfl, Nat.le_refl _, fun j _ hj => absurd hj (by omega), fun j hj => absurd hj (by omega)⟩
 | i + 1, o, s, e => by
  rw [runH] at e
  cases hr : runH h i with
  | none => rw [hr] at e; cases e
  | some st =>
   obtain ⟨o1, s1⟩ := st
   rw [hr, Option.bind_some] at e
   have g := runH_good i o1 s1 hr
   unfold stepH at e
   dsimp only at e
   have app : ∀ y : Int, GoodH h i o1 s1 → 0 ≤ y ∧ y ≤ 39 → (rd h (i : Int) = -10 ∨ (0 ≤ rd h (i : Int) ∧ rd h (i : Int) ≤ 39) ∨ (-4 ≤ rd h (i : Int) ∧ rd h (i : Int) ≤ -1)) → GoodH h (i + 1) (o1 ++ [y]) s1 := fun y g hy ho =>
    ⟨by simp [g.len], by have := g.le; omega, fun j h1 h2 => by
     rcases Nat.lt_or_ge j i with hj | hj
     ·rw [rd_app_left _ _ j (by rw [g.len]; exact hj)]; exact g.kind j h1 hj
     ·obtain rfl : j = o1.length := by rw [g.len]; omega
      rw [rd_app_end]; exact hy, fun j hj => by
     rcases Nat.lt_or_ge j i with h3 | h3
     ·exact g.old j h3
     ·obtain rfl : j = i := by omega
      exact ho⟩
   split at e
   ·rename_i hx
    split at e
    ·cases e
    ·simp only [Option.some.injEq, Prod.mk.injEq] at e
     obtain ⟨rfl, rfl⟩ := e
     exact ⟨by simp [g.len], by rw [g.len]; exact Nat.le_refl _, fun j h1 h2 => by rw [g.len] at h1; omega, fun j hj => by
      rcases Nat.lt_or_ge j i with h3 | h3
      ·exact g.old j h3
      ·obtain rfl : j = i := by omega
       exact Or.inl hx⟩
   ·split at e
    ·rename_i hx
     simp only [Option.some.injEq, Prod.mk.injEq] at e
     obtain ⟨rfl, rfl⟩ := e
     exact app _ g hx (Or.inr (Or.inl hx))
    ·split at e
     ·rename_i hx
      split at e
      ·rename_i hat
       simp only [Option.some.injEq, Prod.mk.injEq] at e
       obtain ⟨rfl, rfl⟩ := e
       have hk := g.kind ((s1 : Int) + -rd h (i : Int) - 1).toNat (by omega) (by have := g.len; omega)
       rw [Int.toNat_of_nonneg (by omega)] at hk
       exact app _ g hk (Or.inr (Or.inr hx))
      ·cases e
     ·cases e
theorem okH_len {h : List Int} (hk : okH h = true) : 1 ≤ h.length ∧ h.length ≤ 8 := by
 unfold okH readH at hk
 split at hk
 ·assumption
 ·cases hk
theorem okH_num {h : List Int} (hk : okH h = true) : ∀ x ∈ h, x = -10 ∨ (0 ≤ x ∧ x ≤ 39) ∨ (-4 ≤ x ∧ x ≤ -1) := by
 intro x hx
 obtain ⟨j, hj, rfl⟩ := List.getElem_of_mem hx
 unfold okH readH at hk
 split at hk
 ·cases hr : runH h h.length with
  | none => rw [hr] at hk; cases hk
  | some st =>
   obtain ⟨o, s⟩ := st
   have := (runH_good _ _ _ hr).old j hj
   rwa [rd_get h j hj] at this
 ·cases hk
theorem in_ev' (a b c : Int) : spec_l00In.f a b c = some (decide (b ≤ a ∧ a ≤ c)) := by
 unfold spec_l00In.f
 by_cases h : b ≤ a
 ·rw [if_pos h]; simp [h]
 ·rw [if_neg h, decide_eq_false (fun e => h e.1)]
theorem within_ev' (a b c : Int) : impl_within.f a b c = some (decide (b ≤ a ∧ a ≤ c)) := by
 unfold impl_within.f
 by_cases h : b ≤ a
 ·rw [if_pos h]; simp [h]
 ·rw [if_neg h, decide_eq_false (fun e => h e.1)]
theorem i8w {x : Int} (h0 : -128 ≤ x) (h1 : x ≤ 127) : IntKind.i8.wrap x = x := by
 unfold IntKind.wrap
 simp only [IntKind.signed, IntKind.bits]
 simp
 omega
theorem readH_none {h : List Int} {i : Nat} (hi : i ≤ h.length) (hr : runH h i = none) : readH h = none := by
 unfold readH
 rw [runH_none hr h.length hi]
 split <;> rfl
theorem l02Read_ev (h : List Int) (hn : h.length ≤ 100000000) (hb : ∀ x ∈ h, -128 ≤ x ∧ x ≤ 127) : Ev (fun k => spec_l02Read.f k h) (match readH h with | some o => (o, true) | none => ([], false)) := by
 unfold spec_l02Read.f
 refine bindc (in_ev' _ _ _) ?_
 by_cases hl : 1 ≤ h.length ∧ h.length ≤ 8
 ·refine pos (by simpa using (show 1 ≤ (h.length : Int) ∧ (h.length : Int) ≤ 8 by omega)) ?_
  refine iter (F := fun k (s : List Int × Int × Int) => spec_l02Read.l0 k h (h.length : Int) s.1 s.2.1 s.2.2) (fun i s => ∃ st : Nat, s = (s.1, (st : Int), (i : Int)) ∧ runH h i = some (s.1, st) ∧ (i = h.length → st < i)) _ h.length ?_ ?_ 0 ([], 0, 0) (by omega) ⟨0, rfl, rfl, fun e => by omega⟩
  ·rintro i ⟨o, a, b⟩ hi ⟨st, e, hr, hlast⟩
   injection e with _ e
   injection e with e1 e2
   subst e1 e2
   dsimp only at hr
   have g := runH_good _ _ _ hr
   have hgl := g.len
   have hgs := g.le
   have hx := hb _ (by rw [rd_get h i hi]; exact List.getElem_mem hi : rd h (i : Int) ∈ h)
   have hnext : runH h (i + 1) = stepH (o, st) (rd h (i : Int)) := by rw [runH, hr]; rfl
   dsimp only at hnext ⊢
   generalize hX : rd h (i : Int) = x at *
   have fail : stepH (o, st) x = none → readH h = none := fun e => readH_none (i := i + 1) (by omega) (hnext.trans e)
   by_cases h10 : x = -10
   ·by_cases hst : (i : Int) = (st : Int)
    ·refine .inr (Ev.step (f := fun _ => some ([], false)) (fun k => ?_) (cons ?_))
     ·simp only [spec_l02Read.l0, hX]
      rw [if_pos (by omega), if_pos (by omega), if_pos (by omega), if_pos h10, if_pos hst]
     ·rw [fail (by unfold stepH; rw [if_pos h10, if_pos (by dsimp only; omega)])]
    ·by_cases hla : i + 1 = h.length
     ·refine .inr (Ev.step (f := fun _ => some ([], false)) (fun k => ?_) (cons ?_))
      ·simp only [spec_l02Read.l0, hX]
       rw [if_pos (by omega), if_pos (by omega), if_pos (by omega), if_pos h10, if_neg hst, w64 (by omega) (by omega), if_pos (by omega)]
      ·have : readH h = none := by
        unfold readH
        rw [if_pos hl, ← hla, hnext]
        unfold stepH
        rw [if_pos h10, if_neg (by dsimp only; omega)]
        simp
       rw [this]
     ·refine .inl ⟨(o ++ [x], ((o.length + 1 : Nat) : Int), ((i + 1 : Nat) : Int)), ⟨o.length + 1, rfl, by rw [hnext]; unfold stepH; rw [if_pos h10, if_neg (by dsimp only; omega)], fun e => by omega⟩, Ev.step fun k => ?_⟩
      simp only [spec_l02Read.l0, hX]
      rw [if_pos (by omega), if_pos (by omega), if_pos (by omega), if_pos h10, if_neg hst, w64 (by omega) (by omega), if_neg (by omega), if_pos (by omega), w64 (by omega) (by omega)]
      rw [show ((o.length + 1 : Nat) : Int) = (i : Int) + 1 by omega, show ((i + 1 : Nat) : Int) = (i : Int) + 1 by omega]
   ·by_cases hk : 0 ≤ x ∧ x ≤ 39
    ·refine .inl ⟨(o ++ [x], (st : Int), ((i + 1 : Nat) : Int)), ⟨st, rfl, by rw [hnext]; unfold stepH; rw [if_neg h10, if_pos hk], fun e => by omega⟩, fun hgo => ?_⟩
     refine Ev.step (f := fun k => spec_l02Read.j1 k h (h.length : Int) o (st : Int) (i : Int) x true) (fun k => ?_) ?_
     ·simp only [spec_l02Read.l0, hX]
      rw [if_pos (by omega), if_pos (by omega), if_pos (by omega), if_neg h10, if_pos (by omega), decide_eq_true (by omega)]
     ·refine Ev.step (fun k => ?_) hgo
      simp only [spec_l02Read.j1]
      rw [if_pos trivial, if_pos (by omega), w64 (by omega) (by omega), show ((i + 1 : Nat) : Int) = (i : Int) + 1 by omega]
    ·by_cases hs : -4 ≤ x ∧ x ≤ -1
     ·have hw : wrap64 (wrap64 ((st : Int) + wrap64 (IntKind.i8.wrap (-x))) - 1) = (st : Int) + -x - 1 := by
       rw [i8w (by omega) (by omega), w64 (x := -x) (by omega) (by omega), w64 (x := (st : Int) + -x) (by omega) (by omega), w64 (by omega) (by omega)]
      by_cases hat : (st : Int) + -x - 1 < o.length
      ·refine .inl ⟨(o ++ [rd o ((st : Int) + -x - 1)], (st : Int), ((i + 1 : Nat) : Int)), ⟨st, rfl, by rw [hnext]; unfold stepH; rw [if_neg h10, if_neg hk, if_pos hs, if_pos hat], fun e => by omega⟩, fun hgo => ?_⟩
       refine Ev.step (f := fun k => spec_l02Read.j1 k h (h.length : Int) o (st : Int) (i : Int) x false) (fun k => ?_) ?_
       ·simp only [spec_l02Read.l0, hX]
        rw [if_pos (by omega), if_pos (by omega), if_pos (by omega), if_neg h10, if_neg (by omega)]
       ·refine Ev.step (f := fun k => spec_l02Read.j2 k h (h.length : Int) o (st : Int) (i : Int) x true) (fun k => ?_) ?_
        ·simp only [spec_l02Read.j1]
         rw [if_neg (by simp), if_pos (by omega), decide_eq_true (by omega)]
        ·refine Ev.step (fun k => ?_) hgo
         simp only [spec_l02Read.j2, hw]
         rw [if_pos trivial, if_neg (by omega), if_pos (by omega), if_pos hat, if_pos (by omega), w64 (by omega) (by omega), show ((i + 1 : Nat) : Int) = (i : Int) + 1 by omega]
      ·refine .inr ?_
       rw [fail (by unfold stepH; rw [if_neg h10, if_neg hk, if_pos hs, if_neg hat])]
       refine Ev.step (f := fun k => spec_l02Read.j1 k h (h.length : Int) o (st : Int) (i : Int) x false) (fun k => ?_) ?_
       ·simp only [spec_l02Read.l0, hX]
        rw [if_pos (by omega), if_pos (by omega), if_pos (by omega), if_neg h10, if_neg (by omega)]
       ·refine Ev.step (f := fun k => spec_l02Read.j2 k h (h.length : Int) o (st : Int) (i : Int) x true) (fun k => ?_) ?_
        ·simp only [spec_l02Read.j1]
         rw [if_neg (by simp), if_pos (by omega), decide_eq_true (by omega)]
        ·refine Ev.step (f := fun _ => some ([], false)) (fun k => ?_) (Ev.now _)
         simp only [spec_l02Read.j2, hw]
         rw [if_pos trivial, if_pos (by omega)]
     ·refine .inr ?_
      rw [fail (by unfold stepH; rw [if_neg h10, if_neg hk, if_neg hs])]
      refine Ev.step (f := fun k => spec_l02Read.j1 k h (h.length : Int) o (st : Int) (i : Int) x false) (fun k => ?_) ?_
      ·simp only [spec_l02Read.l0, hX]
       rw [if_pos (by omega), if_pos (by omega), if_pos (by omega), if_neg h10]
       by_cases h0 : 0 ≤ x
       ·rw [if_pos h0, decide_eq_false (by omega)]
       ·rw [if_neg (by omega)]
      ·refine Ev.step (f := fun k => spec_l02Read.j2 k h (h.length : Int) o (st : Int) (i : Int) x false) (fun k => ?_) ?_
       ·simp only [spec_l02Read.j1]
        rw [if_neg (by simp)]
        by_cases h0 : x < 0
        ·rw [if_pos h0, decide_eq_false (by omega)]
        ·rw [if_neg h0]
       ·refine Ev.step (f := fun _ => some ([], false)) (fun k => ?_) (Ev.now _)
        simp only [spec_l02Read.j2]
        rw [if_neg (by simp)]
  ·rintro ⟨o, a, b⟩ ⟨st, e, hr, hlast⟩
   injection e with _ e
   injection e with e1 e2
   subst e1 e2
   dsimp only at hr
   have g := runH_good _ _ _ hr
   have hgl := g.len
   have hst := hlast rfl
   refine Ev.step (f := fun _ => some (o, true)) (fun k => ?_) (cons ?_)
   ·simp only [spec_l02Read.l0]
    rw [if_neg (by omega)]
   ·have : readH h = some o := by
     unfold readH
     rw [if_pos hl, hr]
     dsimp only
     rw [if_pos (by omega)]
    rw [this]
 ·refine neg (by simpa using (show ¬ (1 ≤ (h.length : Int) ∧ (h.length : Int) ≤ 8) by omega)) (cons ?_)
  unfold readH
  rw [if_neg hl]
end Go.Proofs.YtdgecgfgekmhcaaDoor.Arr
namespace Go.Proofs.YtdgecgfgekmhcaaDoor.Arr
open Go.RowKit Go.Proofs.YtdgecgfgekmhcaaDoorW.PrintWords Go.Proofs.YtdgecgfgekmhcaaDoorW.PrintLast Go.Proofs.YtdgecgfgekmhcaaDoorW.PrintMore Go.Proofs.YtdgecgfgekmhcaaDoor.U Go.Proofs.YtdgecgfgekmhcaaDoor.J
set_option linter.unusedVariables false
set_option linter.unusedSimpArgs false
def fillTo (L : List Int) (off n : Nat) (v : Int) : List Int := L.take off ++ List.replicate n v ++ L.drop (off + n)
theorem fillTo_succ (L : List Int) (off n : Nat) (v : Int) (h : off + n < L.length) : (fillTo L off n v).set (off + n) v = fillTo L off (n + 1) v := by
 unfold fillTo
 apply List.ext_getElem?
 intro j
 simp only [List.getElem?_set, List.getElem?_append, List.length_append, List.length_take, List.length_replicate, List.getElem?_take, List.getElem?_replicate, List.getElem?_drop, List.length_drop]
 repeat' split
 all_goals first | rfl | omega | (congr 1; omega)
theorem fillTo_zero (L : List Int) (off : Nat) (v : Int) : fillTo L off 0 v = L := by simp [fillTo]
theorem fillTo_length (L : List Int) (off n : Nat) (v : Int) (h : off + n ≤ L.length) : (fillTo L off n v).length = L.length := by
 simp [fillTo]; omega
theorem fillTo_get (L : List Int) (off n : Nat) (v : Int) (h : off + n ≤ L.length) (j : Nat) : (fillTo L off n v)[j]? = if off ≤ j ∧ j < off + n then some v else L[j]? := by
 unfold fillTo
 simp only [List.getElem?_append, List.length_append, List.length_take, List.length_replicate, List.getElem?_take, List.getElem?_replicate, List.getElem?_drop]
 repeat' split
 all_goals first | rfl | omega | (congr 1; omega) | (rename_i h; exact absurd h (by omega)) | (exfalso; omega)
theorem rd_take (L : List Int) (i n : Nat) (h : i < n) (hl : i < L.length) : rd (L.take n) (i : Int) = rd L (i : Int) := by
 rw [rd_get L i hl, rd_get _ i (by simp; omega)]; simp
theorem rd_drop (L : List Int) (i n : Nat) (hl : n + i < L.length) : rd (L.drop n) (i : Int) = rd L ((n + i : Nat) : Int) := by
 rw [rd_get L _ hl, rd_get _ i (by simp; omega)]; simp
theorem list_eq {L L' : List Int} {n : Nat} (h1 : L.length = n) (h2 : L'.length = n) (h : ∀ j : Nat, j < n → rd L (j : Int) = rd L' (j : Int)) : L = L' :=
 toList h1 h2 fun j hj => rd_opt (by omega) (by omega) (h j hj)
end Go.Proofs.YtdgecgfgekmhcaaDoor.Arr
namespace Go.Proofs.YtdgecgfgekmhcaaDoor.Arr
open Go.RowKit Go.Proofs.YtdgecgfgekmhcaaDoorW.PrintWords Go.Proofs.YtdgecgfgekmhcaaDoorW.PrintLast Go.Proofs.YtdgecgfgekmhcaaDoorW.PrintMore Go.Proofs.YtdgecgfgekmhcaaDoor.U
set_option linter.unusedVariables false
set_option linter.unusedSimpArgs false
def ixa {α : Type} (p : α → Bool) (l : List α) : Int := match l.findIdx? p with | some i => (i : Int) | none => -1
theorem ixa_found {α : Type} (p : α → Bool) (l : List α) (i : Nat) (x : α) (hi : l[i]? = some x) (h : ∀ j, j < i → ∀ y, l[j]? = some y → p y = false) (hp : p x = true) : ixa p l = i := by
 unfold ixa
 have hl := (List.getElem?_eq_some_iff.1 hi).1
 have hx := (List.getElem?_eq_some_iff.1 hi).2
 have : l.findIdx? p = some i := by
  rw [List.findIdx?_eq_some_iff_getElem]
  refine ⟨hl, by rw [hx]; exact hp, fun j hj => ?_⟩
  simp [h j hj _ (List.getElem?_eq_getElem (by omega))]
 rw [this]
theorem ixa_none {α : Type} (p : α → Bool) (l : List α) (h : ∀ j, j < l.length → ∀ y, l[j]? = some y → p y = false) : ixa p l = -1 := by
 unfold ixa
 have : l.findIdx? p = none := by
  rw [List.findIdx?_eq_none_iff]
  intro x hx
  obtain ⟨j, hj, rfl⟩ := List.getElem_of_mem hx
  exact h j hj _ (List.getElem?_eq_getElem hj)
 rw [this]
theorem ixa_any {α : Type} (p : α → Bool) (l : List α) : decide (0 ≤ ixa p l) = l.any p := by
 unfold ixa
 cases h : l.findIdx? p with
 | none =>
  rw [List.findIdx?_eq_none_iff] at h
  have : l.any p = false := by rw [List.any_eq_false]; intro x hx; simp [h x hx]
  rw [this]; rfl
 | some i =>
  rw [List.findIdx?_eq_some_iff_getElem] at h
  obtain ⟨hi, hp, _⟩ := h
  have : l.any p = true := List.any_eq_true.2 ⟨_, List.getElem_mem hi, hp⟩
  rw [this]; simp
end Go.Proofs.YtdgecgfgekmhcaaDoor.Arr
