/- Values of many cells of one kind of int, and the blocks of a call that hold them: laws of single operations over them, the world left abstract. No condition. -/
import Derived.Test.YtnpcjighcdmphaaU
import Derived.Laws.Rows
import Derived.Laws.Tables
import Derived.BigFrame
import Derived.Laws.CopyRow
import Derived.Laws.ResultCell
namespace Go.Proofs.Ytnpcjighcdmphaa.Arr
open Go.RowKit Go.Proofs.YtnpcjighcdmphaaW.PrintWords Go.Proofs.Ytnpcjighcdmphaa.U
set_option linter.unusedVariables false
set_option linter.unusedSimpArgs false

/-- So many zeros. -/
def zs (n : Nat) : List Int := List.replicate n 0
theorem zs_length {n : Nat} : (zs n).length = n := by simp [zs]
/-- The cells of a list of ints. -/
def vals (k : IntKind) (L : List Int) : Array Value := (L.map (Value.int k)).toArray
section
variable {k : IntKind} {L : List Int}
theorem vals_size : (vals k L).size = L.length := by simp [vals]
theorem vals_get {i : Nat} (h : i < L.length) : (vals k L)[i]? = some (.int k (rd L (i : Int))) := by
  rw [rd_get L i h]; simp [vals, List.getElem?_eq_getElem h]
theorem vals_set {i : Nat} {n : Int} : (vals k L).setIfInBounds i (.int k n) = vals k (L.set i n) := by
  simp [vals, List.map_set]
theorem vals_extract {a b : Nat} : (vals k L).extract a b = vals k ((L.take b).drop a) := by
  apply Array.ext_getElem?
  intro j
  simp only [vals, Array.getElem?_extract, List.size_toArray, List.length_map, List.getElem?_toArray, List.getElem?_map, List.getElem?_drop, List.getElem?_take]
  by_cases h : j < min b L.length - a
  · rw [if_pos h, if_pos (by omega)]
  · rw [if_neg h]
    by_cases h2 : a + j < b
    · rw [if_pos h2, List.getElem?_eq_none (by omega)]; rfl
    · rw [if_neg h2]; rfl
theorem vals_one : (vals k L).all (·.oneCell') = true := by
  simp [vals, Value.oneCell']
theorem vals_inj {L' : List Int} (h : vals k L = vals k L') : L = L' := by
  have h1 := congrArg Array.toList h
  simp only [vals] at h1
  exact (List.map_inj_right (fun a b e => by injection e)).1 h1
end

/-- A block: its number, its cells, their type, and whether the call made it. -/
structure Ent where
  g : Nat
  cs : Array Value
  t : TypeId
  own : Bool
/-- What a call knows of the memory: from the world w0 on only these blocks have turned. -/
structure Mem (w0 w : World) (M : List Ent) : Prop where
  os : w.os = w0.os
  tape : w.tape = w0.tape
  output : w.output = w0.output
  size : w0.heap.size ≤ w.heap.size
  block : ∀ k, k < w0.heap.size → (∀ e ∈ M, e.g ≠ k) → w.heap[k]? = w0.heap[k]?
  ent : ∀ e ∈ M, w.heap[e.g]? = some (.cells e.cs e.t (0, 0)) ∧ (e.own = true → w0.heap.size ≤ e.g)
  apart : ∀ (m n : Nat) (e f : Ent), M[m]? = some e → M[n]? = some f → e.g = f.g → m = n

theorem lt_of_some {w : World} {g : Nat} {o : Obj} (h : w.heap[g]? = some o) : g < w.heap.size := (Array.getElem?_eq_some_iff.1 h).1

namespace Mem
variable {w0 w w' : World} {M : List Ent} {n g : Nat} {cs cs' : Array Value} {t : TypeId} {o : Bool}
theorem start (w : World) : Mem w w [] := ⟨rfl, rfl, rfl, Nat.le_refl _, fun _ _ _ => rfl, fun _ h => absurd h (by simp), fun m n e f h => by simp at h⟩
theorem given {w : World} (h : w.heap[g]? = some (.cells cs t (0, 0))) : Mem w w [⟨g, cs, t, false⟩] :=
  ⟨rfl, rfl, rfl, Nat.le_refl _, fun _ _ _ => rfl, fun e he => by
    rw [List.mem_singleton] at he; subst he; exact ⟨h, fun h => by cases h⟩, fun m n e f h1 h2 _ => by
    have h3 := (List.getElem?_eq_some_iff.1 h1).1
    have h4 := (List.getElem?_eq_some_iff.1 h2).1
    simp at h3 h4; omega⟩
theorem given2 {w : World} {g2 : Nat} {cs2 : Array Value} {t2 : TypeId} (h : w.heap[g]? = some (.cells cs t (0, 0))) (h2 : w.heap[g2]? = some (.cells cs2 t2 (0, 0))) (hne : g ≠ g2) : Mem w w [⟨g, cs, t, false⟩, ⟨g2, cs2, t2, false⟩] :=
  ⟨rfl, rfl, rfl, Nat.le_refl _, fun _ _ _ => rfl, fun e he => by
    simp only [List.mem_cons, List.not_mem_nil, or_false] at he
    rcases he with rfl | rfl
    · exact ⟨h, fun h => by cases h⟩
    · exact ⟨h2, fun h => by cases h⟩, fun m n e f h1 h2 he => by
    rcases m with _ | _ | m <;> rcases n with _ | _ | n <;> simp at h1 h2 <;> first | rfl | (subst h1; subst h2; simp at he; omega)⟩
theorem mem (h : Mem w0 w M) (hn : M[n]? = some ⟨g, cs, t, o⟩) : w.heap[g]? = some (.cells cs t (0, 0)) :=
  (h.ent _ (List.mem_of_getElem? hn)).1
theorem cell (h : Mem w0 w M) (hn : M[n]? = some ⟨g, cs, t, o⟩) (i : Nat) : w.cell? ⟨g, i, none⟩ = cs[i]? :=
  cell_of_row w g i cs t (0, 0) (h.mem hn)
theorem frozen (h : Mem w0 w M) (hn : M[n]? = some ⟨g, cs, t, o⟩) (i : Nat) : w.frozen? ⟨g, i, none⟩ = false :=
  frozen_of_row w g i cs t (h.mem hn)
/-- Where every block is the call's own, nothing of what was there has turned. -/
theorem done (h : Mem w0 w M) (ho : M.all (·.own) = true) : Below w0.heap.size w0 w :=
  ⟨h.os, h.tape, h.output, h.size, fun k hk => h.block k hk fun e he => by
    have := (h.ent e he).2 (List.all_eq_true.1 ho e he)
    omega⟩
theorem new (h : Mem w0 w M) (cs : Array Value) (t : TypeId) : Mem w0 (w.alloc (.cells cs t)) (⟨w.heap.size, cs, t, true⟩ :: M) := by
  have hlt : ∀ e ∈ M, e.g < w.heap.size := fun e he => lt_of_some (h.ent e he).1
  refine ⟨h.os, h.tape, h.output, ?_, fun k hk hne => ?_, fun e he => ?_, fun m n e f hm hn hef => ?_⟩
  · have := h.size; simp; omega
  · have := h.size
    rw [Below.heap_alloc w _ k (by omega)]
    exact h.block k hk fun e he => hne e (List.mem_cons_of_mem _ he)
  · rcases List.mem_cons.1 he with rfl | he
    · exact ⟨Go.heap_alloc_new w _, fun _ => h.size⟩
    · rw [Below.heap_alloc w _ _ (hlt e he)]; exact h.ent e he
  · rcases m with _ | m <;> rcases n with _ | n
    · rfl
    · simp only [List.getElem?_cons_zero, Option.some.injEq, List.getElem?_cons_succ] at hm hn
      have := hlt f (List.mem_of_getElem? hn); subst hm; simp at hef; omega
    · simp only [List.getElem?_cons_zero, Option.some.injEq, List.getElem?_cons_succ] at hm hn
      have := hlt e (List.mem_of_getElem? hm); subst hn; simp at hef; omega
    · simp only [List.getElem?_cons_succ] at hm hn
      rw [h.apart m n e f hm hn hef]
theorem upd (h : Mem w0 w M) (hn : M[n]? = some ⟨g, cs, t, o⟩) (hos : w'.os = w.os) (htape : w'.tape = w.tape) (hout : w'.output = w.output) (hsize : w.heap.size ≤ w'.heap.size)
    (hg : w'.heap[g]? = some (.cells cs' t (0, 0))) (hk : ∀ k, k < w.heap.size → k ≠ g → w'.heap[k]? = w.heap[k]?) : Mem w0 w' (M.set n ⟨g, cs', t, o⟩) := by
  have hnl := (List.getElem?_eq_some_iff.1 hn).1
  have hself : (M.set n ⟨g, cs', t, o⟩)[n]? = some ⟨g, cs', t, o⟩ := List.getElem?_set_self hnl
  have key : ∀ (m : Nat) (e : Ent), (M.set n ⟨g, cs', t, o⟩)[m]? = some e → (m = n ∧ e = ⟨g, cs', t, o⟩) ∨ (m ≠ n ∧ M[m]? = some e) := by
    intro m e hm
    by_cases hmn : m = n
    · subst hmn; rw [hself] at hm; exact Or.inl ⟨rfl, (Option.some.inj hm).symm⟩
    · rw [List.getElem?_set_ne (Ne.symm hmn)] at hm; exact Or.inr ⟨hmn, hm⟩
  have gof : ∀ (m : Nat) (e : Ent), (M.set n ⟨g, cs', t, o⟩)[m]? = some e → ∃ e', M[m]? = some e' ∧ e'.g = e.g := by
    intro m e hm
    rcases key m e hm with ⟨rfl, rfl⟩ | ⟨_, hm⟩
    · exact ⟨_, hn, rfl⟩
    · exact ⟨_, hm, rfl⟩
  refine ⟨hos.trans h.os, htape.trans h.tape, hout.trans h.output, Nat.le_trans h.size hsize, fun k hk' hne => ?_, fun e he => ?_, fun m m' e f hm hm' hef => ?_⟩
  · have hgk : g ≠ k := by
      have := hne _ (List.mem_of_getElem? hself); exact this
    have := h.size
    rw [hk k (by omega) (Ne.symm hgk)]
    refine h.block k hk' fun e he => ?_
    obtain ⟨m, hm⟩ := List.getElem?_of_mem he
    by_cases hmn : m = n
    · subst hmn; rw [hn] at hm; rw [← Option.some.inj hm]; exact hgk
    · exact hne e (List.mem_of_getElem? (by rw [List.getElem?_set_ne (Ne.symm hmn)]; exact hm))
  · obtain ⟨m, hm⟩ := List.getElem?_of_mem he
    rcases key m e hm with ⟨rfl, rfl⟩ | ⟨hmn, hm⟩
    · exact ⟨hg, (h.ent _ (List.mem_of_getElem? hn)).2⟩
    · have he' := h.ent e (List.mem_of_getElem? hm)
      have hne : e.g ≠ g := fun e' => hmn (h.apart m n e _ hm hn e')
      rw [hk _ (lt_of_some he'.1) hne]
      exact he'
  · obtain ⟨e', he', hge⟩ := gof m e hm
    obtain ⟨f', hf', hgf⟩ := gof m' f hm'
    exact h.apart m m' e' f' he' hf' (by rw [hge, hgf, hef])
theorem row (h : Mem w0 w M) (hn : M[n]? = some ⟨g, cs, t, o⟩) (cs' : Array Value) : Mem w0 (w.setRow g cs') (M.set n ⟨g, cs', t, o⟩) :=
  h.upd hn rfl rfl rfl (by simp) (setRow_heap w g cs cs' t (0, 0) (h.mem hn)) (fun k _ hk => setRow_other w g k cs' hk)
theorem set (h : Mem w0 w M) (hn : M[n]? = some ⟨g, cs, t, o⟩) (i : Nat) (v : Value) : Mem w0 (w.setCell ⟨g, i, none⟩ v) (M.set n ⟨g, cs.setIfInBounds i v, t, o⟩) := by
  rw [setCell_eq_setRow w g i cs t (0, 0) v (h.mem hn)]
  exact h.row hn _
/-- Behind a call that leaves what was there as it was. -/
theorem after (h : Mem w0 w M) (hb : Below w.heap.size w w') : Mem w0 w' M := by
  have hlt : ∀ e ∈ M, e.g < w.heap.size := fun e he => lt_of_some (h.ent e he).1
  have := h.size
  exact ⟨hb.os.trans h.os, hb.tape.trans h.tape, hb.output.trans h.output, Nat.le_trans h.size hb.size,
    fun k hk hne => (hb.block k (by omega)).trans (h.block k hk hne),
    fun e he => by rw [hb.block _ (hlt e he)]; exact h.ent e he, h.apart⟩
theorem drawn (h : Mem w0 w M) (n : Nat) : Mem w0 { w with drawn := n } M :=
  ⟨h.os, h.tape, h.output, h.size, h.block, h.ent, h.apart⟩
theorem get {k : IntKind} {L : List Int} (h : Mem w0 w M) (hn : M[n]? = some ⟨g, vals k L, t, o⟩) (i : Nat) (hi : i < L.length) : w.cell? ⟨g, i, none⟩ = some (.int k (rd L (i : Int))) :=
  (h.cell hn i).trans (vals_get hi)
/-- What reads in the first world reads now, where the first world's blocks are as they were. -/
theorem below (h : Mem w0 w M) (ho : M.all (·.own) = true) : Below w0.heap.size w0 w := h.done ho
end Mem

/-- One block that was there has turned, and no other one. -/
structure Fr1 (g : Nat) (cs : Array Value) (t : TypeId) (w w' : World) : Prop where
  os : w'.os = w.os
  tape : w'.tape = w.tape
  output : w'.output = w.output
  size : w.heap.size ≤ w'.heap.size
  now : w'.heap[g]? = some (.cells cs t (0, 0))
  other : ∀ k, k < w.heap.size → k ≠ g → w'.heap[k]? = w.heap[k]?
theorem Fr1.below {g : Nat} {cs : Array Value} {t : TypeId} {w w' : World} (h : Fr1 g cs t w w') (h0 : w.heap[g]? = some (.cells cs t (0, 0))) : Below w.heap.size w w' :=
  ⟨h.os, h.tape, h.output, h.size, fun k hk => by
    by_cases e : k = g
    · subst e; rw [h.now, h0]
    · exact h.other k hk e⟩
theorem Mem.fr1 {w0 w w' : World} {M : List Ent} {n g : Nat} {cs cs' : Array Value} {t : TypeId} {o : Bool} (h : Mem w0 w M) (hn : M[n]? = some ⟨g, cs, t, o⟩) (hf : Fr1 g cs' t w w') : Mem w0 w' (M.set n ⟨g, cs', t, o⟩) :=
  h.upd hn hf.os hf.tape hf.output hf.size hf.now hf.other
theorem Mem.gives {w0 w : World} {M : List Ent} {g : Nat} {cs : Array Value} {t : TypeId} (h : Mem w0 w (M ++ [⟨g, cs, t, false⟩])) (ho : M.all (·.own) = true) : Fr1 g cs t w0 w :=
  ⟨h.os, h.tape, h.output, h.size, (h.ent ⟨g, cs, t, false⟩ (by simp)).1, fun k hk hne => h.block k hk fun e he => by
    rcases List.mem_append.1 he with he | he
    · have := (h.ent e (List.mem_append_left _ he)).2 (List.all_eq_true.1 ho e he); omega
    · rw [List.mem_singleton] at he; subst he; exact Ne.symm hne⟩

/-- A type of many cells. -/
def AggTy (P : Program) (t : TypeId) (m : Nat) : Prop := (P.underlying t).map (fun d => match d with | .struct _ | .array _ _ => true | _ => false) = some true ∧ (P.info? t).map (·.size) = some m
/-- A type of one cell. -/
def OneTy (P : Program) (t : TypeId) : Prop := (P.underlying t).map (fun d => match d with | .struct _ | .array _ _ => true | _ => false) = some false ∧ (P.info? t).map (·.size) = some 1
/-- An array type over a type of one cell. -/
def ArrTy (P : Program) (t : TypeId) (m : Nat) : Prop := ∃ e, P.underlying t = some (.array m e) ∧ OneTy P e
/-- What a type's zero is. -/
def ZeroTy (P : Program) (t : TypeId) (cs : Array Value) : Prop := ∃ z, (P.info? t).map (·.zero) = some (some z) ∧ z.cells = cs
/-- Where a field lies. -/
def FieldTy (P : Program) (t : TypeId) (f off : Nat) : Prop :=
  (match P.underlying t with | some (.struct fs) => (fs[f]?).bind fun fd => (P.info? fd.type).bind fun inf => if inf.size = 0 then none else some fd.offset | _ => none) = some off
section
variable {P : Program} {ops : Array Oper} {rest : List Oper} {o : Oper} {a : Act} {w0 w : World} {M : List Ent} {Q : Exit → Act → World → Prop}
theorem run_alloc {ty : TypeId} {z old : Value} (hz : (P.info? ty).map (·.zero) = some (some z)) (w : World) : (Instr.alloc ty true old).run P w = .ok (.pointer (some ⟨w.heap.size, 0, none⟩)) (w.alloc (.cells z.cells ty)) := by
  cases hq : P.info? ty with
  | none => simp [hq] at hz
  | some i =>
    have hz' : i.zero = some z := by simpa [hq] using hz
    simp [Instr.alloc, zeroValue, typeInfo, hq, hz', newVar, newRow, Sem.run_bind]
theorem run_box {ty : TypeId} {v : Value} (w : World) : (Instr.box ty v).run P w = .ok (.pointer (some ⟨w.heap.size, 0, none⟩)) (w.alloc (.cells v.cells ty)) := by
  simp [Instr.box, newVar, newRow, Sem.run_bind]
/-- A new variable, zero. -/
theorem st_alloc (hgd : o.guard = none) (d : Nat) (hdst : o.dst = some d) (ty : TypeId) (ho : o.op = .alloc ty) (hm : Mem w0 w M) {cs : Array Value} (hzt : ZeroTy P ty cs)
    (h : ∀ g w1, Mem w0 w1 (⟨g, cs, ty, true⟩ :: M) → wpList P ops Q rest (a.put (some d) (.pointer (some ⟨g, 0, none⟩))) w1) : wpList P ops Q (o :: rest) a w := by
  obtain ⟨z, hz, rfl⟩ := hzt
  refine wpList_plain hgd fun K hK => ?_
  rw [← hdst] at h
  unfold Oper.wp execOp
  simp only [ho, Sem.run_bind, run_alloc hz, Sem.run_pure, Result.andThen_ok]
  exact hK _ _ (h _ _ (hm.new _ _))
/-- A new variable that holds a value. -/
theorem st_box (hgd : o.guard = none) (d : Nat) (hdst : o.dst = some d) (ty : TypeId) (x : Operand) (ho : o.op = .box ty x) (hm : Mem w0 w M) {v : Value} (hv : a.eval x = v) {cs : Array Value} (hcs : v.cells = cs)
    (h : ∀ g w1, Mem w0 w1 (⟨g, cs, ty, true⟩ :: M) → wpList P ops Q rest (a.put (some d) (.pointer (some ⟨g, 0, none⟩))) w1) : wpList P ops Q (o :: rest) a w := by
  refine wpList_plain hgd fun K hK => ?_
  rw [← hdst] at h
  unfold Oper.wp execOp
  subst hcs
  simp only [ho, Sem.run_bind, run_box, hv, Sem.run_pure, Result.andThen_ok]
  exact hK _ _ (h _ _ (hm.new _ _))
/-- Zero, as a value of many cells. -/
theorem st_zero (hgd : o.guard = none) (t : TypeId) (ho : o.op = .build t #[]) {cs : Array Value} (hz : P.built t [] = some cs)
    (h : wpList P ops Q rest (a.put o.dst (.agg cs)) w) : wpList P ops Q (o :: rest) a w := by
  refine wpList_build hgd t #[] ho ?_ ?_
  · simp [hz]
  · simp [hz]; exact h
/-- A value of many cells into a part of a variable. -/
theorem st_put (hgd : o.guard = none) (ty : TypeId) (x y : Operand) (ho : o.op = .store ty x y) (hm : Mem w0 w M) {g i m : Nat} {k : IntKind} {S : List Int} (hx : a.eval x = .pointer (some ⟨g, i, none⟩)) (hy : a.eval y = .agg (vals k S))
    (n : Nat) {L : List Int} {t : TypeId} {own : Bool} (hn : M[n]? = some ⟨g, vals k L, t, own⟩) (hi : AggTy P ty m) (hs : S.length = m) (hl : i + m ≤ L.length)
    (h : ∀ w1, Mem w0 w1 (M.set n ⟨g, vals k (L.take i ++ S ++ L.drop (i + m)), t, own⟩) → wpList P ops Q rest (a.put o.dst undef) w1) : wpList P ops Q (o :: rest) a w := by
  refine wpList_plain hgd fun K hK => ?_
  unfold Oper.wp execOp
  have hst : (storeVar ty ⟨g, i, none⟩ (.agg (vals k S))).run P w = .ok () (w.setRow g (vals k (L.take i ++ S ++ L.drop (i + m)))) := by
    obtain ⟨_, hi⟩ := hi
    cases hq : P.info? ty with
    | none => simp [hq] at hi
    | some inf =>
      have hz : inf.size = m := by simpa [hq] using hi
      have h2 := run_storeCells_at (P := P) g i t (vals k S).toList 0 (vals k L) w (hm.mem hn) (by simp [vals]; omega) (fun v hv => by
        simp [vals] at hv; obtain ⟨z, _, rfl⟩ := hv; rfl)
      have e : (vals k L).toList.take (i + 0) ++ (vals k S).toList ++ (vals k L).toList.drop (i + 0 + (vals k S).toList.length) = (vals k (L.take i ++ S ++ L.drop (i + m))).toList := by
        simp [vals, hs, List.map_take, List.map_drop]
      rw [e, Array.toArray_toList] at h2
      have hsz : (vals k S).size = m := by rw [vals_size, hs]
      simp [storeVar, sizeOf, typeInfo, hq, hz, Value.cells, hsz, h2]
  simp only [ho, hx, hy, Instr.storeAt, Instr.sureAddr, Sem.run_bind, Sem.run_pure, Result.andThen_ok, hst]
  exact hK _ _ (h _ (hm.row hn _))
/-- A value of many cells into a variable. -/
theorem st_full (hgd : o.guard = none) (ty : TypeId) (x y : Operand) (ho : o.op = .store ty x y) (hm : Mem w0 w M) {g m : Nat} {k k' : IntKind} {S : List Int} (hx : a.eval x = .pointer (some ⟨g, 0, none⟩)) (hy : a.eval y = .agg (vals k S))
    (n : Nat) {L : List Int} {t : TypeId} {own : Bool} (hn : M[n]? = some ⟨g, vals k' L, t, own⟩) (hi : AggTy P ty m) (hs : S.length = m) (hl : L.length = m)
    (h : ∀ w1, Mem w0 w1 (M.set n ⟨g, vals k S, t, own⟩) → wpList P ops Q rest (a.put o.dst undef) w1) : wpList P ops Q (o :: rest) a w :=
  wpList_store_row hgd ty x y ho g (vals k S) hx hy t _ (hm.mem hn) (by rw [vals_size, hs]; exact hi.2) (by rw [vals_size, vals_size, hs, hl]) vals_one (h _ (hm.row hn _))
/-- A value of many cells into a variable. -/
theorem st_store (hgd : o.guard = none) (ty : TypeId) (x y : Operand) (ho : o.op = .store ty x y) (hm : Mem w0 w M) {g : Nat} {cs : Array Value} (hx : a.eval x = .pointer (some ⟨g, 0, none⟩)) (hy : a.eval y = .agg cs)
    (n : Nat) {old : Array Value} {t : TypeId} {own : Bool} (hn : M[n]? = some ⟨g, old, t, own⟩) (hi : (P.info? ty).map (·.size) = some cs.size) (hold : old.size = cs.size) (h1 : cs.all (·.oneCell') = true)
    (h : ∀ w1, Mem w0 w1 (M.set n ⟨g, cs, t, own⟩) → wpList P ops Q rest (a.put o.dst undef) w1) : wpList P ops Q (o :: rest) a w :=
  wpList_store_row hgd ty x y ho g cs hx hy t old (hm.mem hn) hi hold h1 (h _ (hm.row hn _))
/-- A variable of many cells is read. -/
theorem st_load (hgd : o.guard = none) (ty : TypeId) (x : Operand) (ho : o.op = .load ty x) (hm : Mem w0 w M) {g : Nat} (hx : a.eval x = .pointer (some ⟨g, 0, none⟩))
    (n : Nat) {k : IntKind} {L : List Int} {m : Nat} {t : TypeId} {own : Bool} (hn : M[n]? = some ⟨g, vals k L, t, own⟩) (hi2 : AggTy P ty m) (hl : L.length = m)
    (h : wpList P ops Q rest (a.put o.dst (.agg (vals k L))) w) : wpList P ops Q (o :: rest) a w := by
  obtain ⟨hd, hi0⟩ := hi2
  have hi : (P.info? ty).map (·.size) = some (vals k L).size := by rw [vals_size, hl]; exact hi0
  cases hu : P.underlying ty with
  | none => simp [hu] at hd
  | some d =>
    refine wpList_load_row hgd ty x ho g hx t (vals k L) (0, 0) d (hm.mem hn) hu ?_ hi h
    cases d <;> simp_all
theorem run_store1 {ty : TypeId} {w : World} {a : Addr} {v : Value} (hi : (P.info? ty).map (·.size) = some 1) (hv : v.cells = #[v]) {old : Value} (hc : w.cell? a = some old) (hf : w.frozen? a = false) (h1 : v.oneCell' = true) : (storeVar ty a v).run P w = .ok () (w.setCell a v) := by
  cases hq : P.info? ty with
  | none => simp [hq] at hi
  | some i =>
    have hs : i.size = 1 := by simpa [hq] using hi
    have ha : a.add 0 = a := rfl
    simp [storeVar, sizeOf, typeInfo, hq, hs, hv, storeCells, Sem.run_bind, ha, run_store P w a v .plain h1, hc, hf]
/-- One cell is written. -/
theorem st_set (hgd : o.guard = none) (ty : TypeId) (x y : Operand) (ho : o.op = .store ty x y) (hm : Mem w0 w M) {g i : Nat} {k : IntKind} {u : Int} (hx : a.eval x = .pointer (some ⟨g, i, none⟩)) (hy : a.eval y = .int k u)
    (n : Nat) {L : List Int} {t : TypeId} {own : Bool} (hn : M[n]? = some ⟨g, vals k L, t, own⟩) (hi2 : OneTy P ty) (hl : i < L.length)
    (h : ∀ w1, Mem w0 w1 (M.set n ⟨g, vals k (L.set i u), t, own⟩) → wpList P ops Q rest (a.put o.dst undef) w1) : wpList P ops Q (o :: rest) a w := by
  refine wpList_plain hgd fun K hK => ?_
  unfold Oper.wp execOp
  have hst : (storeVar ty ⟨g, i, none⟩ (.int k u)).run P w = .ok () (w.setCell ⟨g, i, none⟩ (.int k u)) := run_store1 hi2.2 rfl ((hm.cell hn i).trans (vals_get hl)) (hm.frozen hn i) rfl
  simp only [ho, hx, hy, Instr.storeAt, Instr.sureAddr, Sem.run_bind, Sem.run_pure, Result.andThen_ok, hst]
  refine hK _ _ (h _ ?_)
  rw [← vals_set]
  exact hm.set hn i _
/-- One cell is read. -/
theorem st_get (hgd : o.guard = none) (ty : TypeId) (x : Operand) (ho : o.op = .load ty x) (hm : Mem w0 w M) {g i : Nat} {k : IntKind} (hx : a.eval x = .pointer (some ⟨g, i, none⟩))
    (n : Nat) {L : List Int} {t : TypeId} {own : Bool} (hn : M[n]? = some ⟨g, vals k L, t, own⟩) (hi2 : OneTy P ty) (hl : i < L.length)
    (h : wpList P ops Q rest (a.put o.dst (.int k (rd L (i : Int)))) w) : wpList P ops Q (o :: rest) a w := by
  have hd := hi2.1
  refine wpList_plain hgd fun K hK => ?_
  unfold Oper.wp execOp
  have hagg : (isAgg ty).run P w = .ok false w := by
    unfold isAgg
    cases hu : P.underlying ty with
    | none => simp [hu] at hd
    | some d =>
      rw [Sem.run_bind, run_underlying hu w]
      cases d <;> simp_all
  simp only [ho, hx, Instr.loadAt, Instr.sureAddr, Sem.run_bind, Sem.run_pure, Result.andThen_ok, loadVar, hagg]
  simp [run_load, (hm.cell hn i).trans (vals_get hl)]
  exact hK _ _ h
/-- Some cells are read. -/
theorem st_part (hgd : o.guard = none) (ty : TypeId) (x : Operand) (ho : o.op = .load ty x) (hm : Mem w0 w M) {g i m : Nat} {k : IntKind} (hx : a.eval x = .pointer (some ⟨g, i, none⟩))
    (n : Nat) {L : List Int} {t : TypeId} {own : Bool} (hn : M[n]? = some ⟨g, vals k L, t, own⟩) (hi2 : AggTy P ty m) (hl : i + m ≤ L.length)
    (h : wpList P ops Q rest (a.put o.dst (.agg (vals k ((L.drop i).take m)))) w) : wpList P ops Q (o :: rest) a w := by
  obtain ⟨hd, hi⟩ := hi2
  refine wpList_plain hgd fun K hK => ?_
  unfold Oper.wp execOp
  have hagg : (isAgg ty).run P w = .ok true w := by
    unfold isAgg
    cases hu : P.underlying ty with
    | none => simp [hu] at hd
    | some d =>
      rw [Sem.run_bind, run_underlying hu w]
      cases d <;> simp_all
  have hsz : (sizeOf ty).run P w = .ok m w := by
    cases hq : P.info? ty with
    | none => simp [hq] at hi
    | some i => simp [sizeOf, typeInfo, hq, Sem.run_bind]; simpa [hq] using hi
  have hl2 : (loadCells ⟨g, i, none⟩ (vals k ((L.drop i).take m)).toList.length).run P w = .ok (vals k ((L.drop i).take m)).toList.toArray w :=
    run_loadCells_list (P := P) w ⟨g, i, none⟩ _ (fun j v hv => by
      have hjm : j < m := by
        have := (List.getElem?_eq_some_iff.1 hv).1
        simp [vals] at this; omega
      have hadd : (⟨g, i, none⟩ : Addr).add j = ⟨g, i + j, none⟩ := by unfold Addr.add; split <;> simp_all
      rw [hadd, (hm.cell hn (i + j)).trans (vals_get (by omega))]
      rw [Array.getElem?_toList, vals_get (by simp; omega)] at hv
      rw [← hv]
      congr 2
      simp only [rd, Int.toNat_natCast, List.getD_eq_getElem?_getD]
      rw [List.getElem?_take, if_pos hjm, List.getElem?_drop])
  have hlen : (vals k ((L.drop i).take m)).toList.length = m := by simp [vals]; omega
  rw [hlen, Array.toArray_toList] at hl2
  simp only [ho, hx, Instr.loadAt, Instr.sureAddr, Sem.run_bind, Sem.run_pure, Result.andThen_ok, loadVar, hagg, hsz, hl2, if_true]
  exact hK _ _ h
/-- One cell of a value is read. -/
theorem st_index (hgd : o.guard = none) (ty : TypeId) (x y : Operand) (ho : o.op = .index ty x y) {k ki : IntKind} {L : List Int} {i : Int} {m : Nat} (hx : a.eval x = .agg (vals k L)) (hy : a.eval y = .int ki i)
    (hat : ArrTy P ty m) (h0 : 0 ≤ i) (h1 : i < m) (hl : L.length = m)
    (h : wpList P ops Q rest (a.put o.dst (.int k (rd L i))) w) : wpList P ops Q (o :: rest) a w := by
  obtain ⟨e, hu, hd, he⟩ := hat
  refine wpList_plain hgd fun K hK => ?_
  unfold Oper.wp execOp
  have hagg : (isAgg e).run P w = .ok false w := by
    unfold isAgg
    cases hu : P.underlying e with
    | none => simp [hu] at hd
    | some d =>
      rw [Sem.run_bind, run_underlying hu w]
      cases d <;> simp_all
  have hsz : (sizeOf e).run P w = .ok 1 w := by
    cases hq : P.info? e with
    | none => simp [hq] at he
    | some i => simp [sizeOf, typeInfo, hq, Sem.run_bind]; simpa [hq] using he
  have hg : (vals k L)[i.toNat]? = some (.int k (rd L i)) := by
    rw [vals_get (by omega), Int.toNat_of_nonneg h0]
  simp only [ho, hx, hy, Instr.index, asIntOf, Sem.run_bind, Sem.run_pure, Result.andThen_ok, run_underlying hu w, if_pos (And.intro h0 h1), hsz, part, hagg, Nat.mul_one]
  simp [hg]
  exact hK _ _ h
/-- The place of a field. -/
theorem st_field (hgd : o.guard = none) (ty : TypeId) (x : Operand) (f : Nat) (ho : o.op = .fieldAddr ty x f) {g i off : Nat} (hx : a.eval x = .pointer (some ⟨g, i, none⟩))
    (hf0 : FieldTy P ty f off)
    (h : wpList P ops Q rest (a.put o.dst (.pointer (some ⟨g, i + off, none⟩))) w) : wpList P ops Q (o :: rest) a w := by
  refine wpList_plain hgd fun K hK => ?_
  unfold Oper.wp execOp
  have hf := hf0
  unfold FieldTy at hf
  split at hf
  · rename_i fs hu
    obtain ⟨fd, hfd, hf⟩ := Option.bind_eq_some_iff.1 hf
    obtain ⟨inf, hinf, hf⟩ := Option.bind_eq_some_iff.1 hf
    split at hf
    · cases hf
    · rename_i hne
      injection hf with hf
      subst hf
      have hadd : (⟨g, i, none⟩ : Addr).add fd.offset = ⟨g, i + fd.offset, none⟩ := by unfold Addr.add; split <;> simp_all
      simp [ho, hx, Instr.fieldAt, Sem.run_bind, run_underlying hu w, hfd, Instr.sureAddr, fieldPlace, sizeOf, typeInfo, hinf, hne, hadd]
      exact hK _ _ h
  · cases hf
/-- The place of an element. -/
theorem st_elem (hgd : o.guard = none) (ty : TypeId) (x y : Operand) (ho : o.op = .indexAddr ty x y) {g off : Nat} {ki : IntKind} {i : Int} {m : Nat} (hx : a.eval x = .pointer (some ⟨g, off, none⟩)) (hy : a.eval y = .int ki i)
    (hat : ArrTy P ty m) (h0 : 0 ≤ i) (h1 : i < m)
    (h : wpList P ops Q rest (a.put o.dst (.pointer (some ⟨g, off + i.toNat, none⟩))) w) : wpList P ops Q (o :: rest) a w := by
  obtain ⟨e, hu, hd, he⟩ := hat
  refine wpList_plain hgd fun K hK => ?_
  unfold Oper.wp execOp
  have hsz : (sizeOf e).run P w = .ok 1 w := by
    cases hq : P.info? e with
    | none => simp [hq] at he
    | some i => simp [sizeOf, typeInfo, hq, Sem.run_bind]; simpa [hq] using he
  have hadd : (⟨g, off, none⟩ : Addr).add i.toNat = ⟨g, off + i.toNat, none⟩ := by unfold Addr.add; split <;> simp_all
  simp [ho, hx, hy, Instr.indexAt, asIntOf, Sem.run_bind, run_underlying hu w, Instr.sureAddr, hsz, h0, h1, hadd]
  exact hK _ _ h
/-- What a call returns: a variable of many cells. -/
theorem ret_cell {fn : Func} {R : Ending → World → Prop} {p : Tmp} {ty : TypeId} {g : Nat} (hm : Mem w0 w M) (h : fn.results = #[.cell p ty]) (hp : a.tmps.getD p undef = .pointer (some ⟨g, 0, none⟩))
    (n : Nat) {k : IntKind} {L : List Int} {m : Nat} {t : TypeId} {own : Bool} (hn : M[n]? = some ⟨g, vals k L, t, own⟩) (hi2 : AggTy P ty m) (hl : L.length = m)
    (hd : a.defers = []) (hR : R (.returned (.agg (vals k L))) w) : bodyPost P fn R .ret a w := by
  obtain ⟨hd2, hi0⟩ := hi2
  have hi : (P.info? ty).map (·.size) = some (vals k L).size := by rw [vals_size, hl]; exact hi0
  cases hu : P.underlying ty with
  | none => simp [hu] at hd2
  | some d =>
    have hld := run_loadVar_row (P := P) w g t ty (vals k L) (0, 0) d (hm.mem hn) hu (by cases d <;> simp_all) hi
    refine bodyPost_ret (v := .agg (vals k L)) ?_ hd hR
    have hp' : a.tmps[p]?.getD undef = .pointer (some ⟨g, 0, none⟩) := by simpa using hp
    simp [results, h, hp', asAddr, hld]
theorem ret_cell_tmp {fn : Func} {R : Ending → World → Prop} {p u : Tmp} {ty : TypeId} {g : Nat} (hm : Mem w0 w M) (h : fn.results = #[.cell p ty, .tmp u]) (hp : a.tmps.getD p undef = .pointer (some ⟨g, 0, none⟩))
    (n : Nat) {k : IntKind} {L : List Int} {m : Nat} {t : TypeId} {own : Bool} (hn : M[n]? = some ⟨g, vals k L, t, own⟩) (hi2 : AggTy P ty m) (hl : L.length = m)
    (hd : a.defers = []) (hR : R (.returned (.tuple #[.agg (vals k L), a.tmps.getD u undef])) w) : bodyPost P fn R .ret a w := by
  obtain ⟨hd2, hi0⟩ := hi2
  have hi : (P.info? ty).map (·.size) = some (vals k L).size := by rw [vals_size, hl]; exact hi0
  cases hu : P.underlying ty with
  | none => simp [hu] at hd2
  | some d =>
    have hld := run_loadVar_row (P := P) w g t ty (vals k L) (0, 0) d (hm.mem hn) hu (by cases d <;> simp_all) hi
    refine bodyPost_ret (v := .tuple #[.agg (vals k L), a.tmps.getD u undef]) ?_ hd hR
    rw [results_cell_tmp h, hp]
    simp [asAddr, hld]
end
/-- Lengths. -/
theorem lens : (∀ (L : List Int) (i : Nat) (v : Int), (L.set i v).length = L.length) ∧ (∀ (n : Nat) (v : Int), (List.replicate n v).length = n) ∧ (∀ n : Nat, (zs n).length = n) ∧ (∀ (f : Int → Int) (L : List Int), (L.map f).length = L.length) ∧
    (∀ L L' : List Int, (L ++ L').length = L.length + L'.length) ∧ (∀ (n : Nat) (L : List Int), (L.take n).length = min n L.length) ∧ (∀ (n : Nat) (L : List Int), (L.drop n).length = L.length - n) ∧ (∀ (x : Int) (L : List Int), (x :: L).length = L.length + 1) ∧
    (([] : List Int).length = 0) ∧ (∀ n : Nat, 0 + n = n) ∧ (∀ n : Nat, n + 0 = n) ∧ (∀ n : Nat, ((n : Int).toNat) = n) :=
  ⟨by simp, by simp, fun n => zs_length, by simp, by simp, by simp, by simp, by simp, rfl, by simp, by simp, by simp⟩
/-! The forms of the operations: cheap to be tried. -/
section
variable {P : Program} {ops : Array Oper} {rest : List Oper} {a : Act} {w : World} {Q : Exit → Act → World → Prop} {dst : Option Tmp} {x y : Operand} {tt : TypeId} {pos : String} {after : Array Edge} {g : Option (Nat × Bool)}
theorem gt_alloc (d ty : Nat) (h : wpList P ops Q (⟨some d, .alloc ty, tt, pos, after, g⟩ :: rest) a w) : wpList P ops Q (⟨some d, .alloc ty, tt, pos, after, g⟩ :: rest) a w := h
theorem gt_box (d ty : Nat) (h : wpList P ops Q (⟨some d, .box ty x, tt, pos, after, g⟩ :: rest) a w) : wpList P ops Q (⟨some d, .box ty x, tt, pos, after, g⟩ :: rest) a w := h
theorem gt_build (ty : Nat) (h : wpList P ops Q (⟨dst, .build ty #[], tt, pos, after, g⟩ :: rest) a w) : wpList P ops Q (⟨dst, .build ty #[], tt, pos, after, g⟩ :: rest) a w := h
theorem gt_store (ty : Nat) (h : wpList P ops Q (⟨dst, .store ty x y, tt, pos, after, g⟩ :: rest) a w) : wpList P ops Q (⟨dst, .store ty x y, tt, pos, after, g⟩ :: rest) a w := h
theorem gt_load (ty : Nat) (h : wpList P ops Q (⟨dst, .load ty x, tt, pos, after, g⟩ :: rest) a w) : wpList P ops Q (⟨dst, .load ty x, tt, pos, after, g⟩ :: rest) a w := h
theorem gt_index (ty : Nat) (h : wpList P ops Q (⟨dst, .index ty x y, tt, pos, after, g⟩ :: rest) a w) : wpList P ops Q (⟨dst, .index ty x y, tt, pos, after, g⟩ :: rest) a w := h
theorem gt_elem (ty : Nat) (h : wpList P ops Q (⟨dst, .indexAddr ty x y, tt, pos, after, g⟩ :: rest) a w) : wpList P ops Q (⟨dst, .indexAddr ty x y, tt, pos, after, g⟩ :: rest) a w := h
theorem gt_field (ty f : Nat) (h : wpList P ops Q (⟨dst, .fieldAddr ty x f, tt, pos, after, g⟩ :: rest) a w) : wpList P ops Q (⟨dst, .fieldAddr ty x f, tt, pos, after, g⟩ :: rest) a w := h
end
end Go.Proofs.Ytnpcjighcdmphaa.Arr
