/- Slices of values of many cells: written out with one or two of them, and an element read. No condition. -/
import Derived.Test.YtnpcjighcdmphaaArr
namespace Go.Proofs.Ytnpcjighcdmphaa.Arr
open Go.RowKit Go.Proofs.YtnpcjighcdmphaaW.PrintWords Go.Proofs.Ytnpcjighcdmphaa.U
set_option linter.unusedVariables false
set_option linter.unusedSimpArgs false
theorem fold_put (off : Nat) : ∀ (vs : List Value) (n : Nat) (cells : Array Value), off + n + vs.length ≤ cells.size →
    (vs.zipIdx n).foldl (fun cs (p : Value × Nat) => cs.setIfInBounds (off + p.2) p.1) cells = (cells.toList.take (off + n) ++ vs ++ cells.toList.drop (off + n + vs.length)).toArray
  | [], n, cells, h => by simp
  | v :: vs, n, cells, h => by
    rw [List.zipIdx_cons, List.foldl_cons, fold_put off vs (n + 1) _ (by simp at h ⊢; omega)]
    apply Array.ext'
    apply List.ext_getElem?
    intro j
    simp only [Array.toList_setIfInBounds, List.getElem?_append, List.length_append, List.length_take, List.length_set, List.getElem?_take, List.getElem?_drop, List.getElem?_set, List.length_cons, Array.length_toList, List.getElem?_cons]
    simp only [List.length_cons] at h
    repeat' split
    all_goals first | rfl | omega | (congr 1; omega) | (exfalso; omega) | (symm; apply List.getElem?_eq_none; simp; omega)
theorem fill_one {k : IntKind} {L : List Int} {cells : Array Value} {off : Nat} {place : Nat → Option (Nat × Nat)} {i : Nat} {rest : List (Nat × Value)} {m : Nat} (hp : place i = some (off, m)) (hl : L.length = m) (hc : off + m ≤ cells.size) :
    Instr.fill place cells ((i, .agg (vals k L)) :: rest) = Instr.fill place (cells.toList.take off ++ L.map (Value.int k) ++ cells.toList.drop (off + m)).toArray rest := by
  rw [Instr.fill, hp]
  have hs : (Value.agg (vals k L)).cells.size = m := by show (vals k L).size = m; rw [vals_size, hl]
  simp only [hs]
  rw [if_neg (by simp; omega)]
  congr 1
  have h := fold_put off (L.map (Value.int k)) 0 cells (by simp [hl]; omega)
  simp only [Nat.add_zero, List.length_map, hl] at h
  rw [← h]
  show Array.foldl _ cells (Array.zipIdx (vals k L)) = _
  rw [← Array.foldl_toList, Array.toList_zipIdx]
  rfl
section
variable {P : Program} {ops : Array Oper} {rest : List Oper} {o : Oper} {a : Act} {w0 w : World} {M : List Ent} {Q : Exit → Act → World → Prop}
theorem st_lit1 (hgd : o.guard = none) (d : Nat) (hdst : o.dst = some d) (t : TypeId) (x : Operand) (ho : o.op = .buildSlice t 1 #[(0, x)]) (hm : Mem w0 w M) {k : IntKind} {L : List Int} {m : Nat} {e : TypeId} (hx : a.eval x = .agg (vals k L)) (hu : P.underlying t = some (.slice e))
    (he : AggTy P e m) {zc : Array Value} (hz : ZeroTy P e zc) (hl : L.length = m) (hm0 : 0 < m) (hm1 : m ≤ 1000)
    (h : ∀ g w1, Mem w0 w1 (⟨g, vals k L, e, true⟩ :: M) → wpList P ops Q rest (a.put (some d) (.slice (some ⟨g, 0, none⟩) 1 1)) w1) : wpList P ops Q (o :: rest) a w := by
  obtain ⟨z, hz, rfl⟩ := hz
  obtain ⟨_, hi⟩ := he
  refine wpList_plain hgd fun K hK => ?_
  rw [← hdst] at h
  unfold Oper.wp execOp
  cases hq : P.info? e with
  | none => simp [hq] at hi
  | some i =>
    have hs : i.size = m := by simpa [hq] using hi
    have hz' : i.zero = some z := by simpa [hq] using hz
    have hf := fill_one (k := k) (L := L) (cells := (Array.range (1 * m)).map (z.cells[· % z.cells.size]!)) (off := 0) (place := fun i => some (i * m, m)) (i := 0) (rest := []) (m := m) (by simp) hl (by simp)
    have hc : ((List.take 0 ((Array.range (1 * m)).map (z.cells[· % z.cells.size]!)).toList ++ L.map (Value.int k) ++ List.drop (0 + m) ((Array.range (1 * m)).map (z.cells[· % z.cells.size]!)).toList).toArray) = vals k L := by
      rw [List.drop_of_length_le (by simp)]
      simp [vals]
    rw [hc] at hf
    have hrun : (Instr.buildSlice t 1 #[(0, .agg (vals k L))]).run P w = .ok (.slice (some ⟨w.heap.size, 0, none⟩) 1 1) (w.alloc (.cells (vals k L) e)) := by
      simp only [Instr.buildSlice, Sem.run_bind, run_underlying hu w, Result.andThen_ok, sizeOf, typeInfo, run_program, hq, Sem.run_pure, hs, zeroValue, hz']
      rw [if_neg (by omega), if_neg (by omega)]
      simp only [Sem.run_bind, Sem.run_pure, Result.andThen_ok, hq, hz', hf, run_program]
      simp [Instr.fill, newRow, Sem.run_bind]
    simp only [ho, List.map_toArray, List.map_cons, List.map_nil, hx, Sem.run_bind, hrun, Sem.run_pure, Result.andThen_ok]
    exact hK _ _ (h _ _ (hm.new _ _))
theorem st_lit2 (hgd : o.guard = none) (d : Nat) (hdst : o.dst = some d) (t : TypeId) (x y : Operand) (ho : o.op = .buildSlice t 2 #[(0, x), (1, y)]) (hm : Mem w0 w M) {k : IntKind} {L L' : List Int} {m : Nat} {e : TypeId} (hx : a.eval x = .agg (vals k L)) (hy : a.eval y = .agg (vals k L')) (hu : P.underlying t = some (.slice e))
    (he : AggTy P e m) {zc : Array Value} (hz : ZeroTy P e zc) (hl : L.length = m) (hl' : L'.length = m) (hm0 : 0 < m) (hm1 : m ≤ 1000)
    (h : ∀ g w1, Mem w0 w1 (⟨g, vals k (L ++ L'), e, true⟩ :: M) → wpList P ops Q rest (a.put (some d) (.slice (some ⟨g, 0, none⟩) 2 2)) w1) : wpList P ops Q (o :: rest) a w := by
  obtain ⟨z, hz, rfl⟩ := hz
  obtain ⟨_, hi⟩ := he
  refine wpList_plain hgd fun K hK => ?_
  rw [← hdst] at h
  unfold Oper.wp execOp
  cases hq : P.info? e with
  | none => simp [hq] at hi
  | some i =>
    have hs : i.size = m := by simpa [hq] using hi
    have hz' : i.zero = some z := by simpa [hq] using hz
    have hf := fill_one (k := k) (L := L) (cells := (Array.range (2 * m)).map (z.cells[· % z.cells.size]!)) (off := 0) (place := fun i => some (i * m, m)) (i := 0) (rest := [(1, .agg (vals k L'))]) (m := m) (by simp) hl (by simp; omega)
    rw [fill_one (k := k) (L := L') (off := m) (m := m) (by simp) hl' (by simp [hl]; omega)] at hf
    have hc : ∀ Z : List Value, Z.length = 2 * m → (List.take m (List.take 0 Z ++ L.map (Value.int k) ++ List.drop (0 + m) Z).toArray.toList ++ L'.map (Value.int k) ++ List.drop (m + m) (List.take 0 Z ++ L.map (Value.int k) ++ List.drop (0 + m) Z).toArray.toList).toArray = vals k (L ++ L') := by
      intro Z hZ
      have e1 : List.take m (List.map (Value.int k) L ++ List.drop m Z) = List.map (Value.int k) L := List.take_left' (by simp [hl])
      simp only [List.take_zero, List.nil_append, Nat.zero_add, e1]
      rw [List.drop_of_length_le (by simp [hl, hZ]; omega)]
      simp [vals]
    rw [hc _ (by simp)] at hf
    have hrun : (Instr.buildSlice t 2 #[(0, .agg (vals k L)), (1, .agg (vals k L'))]).run P w = .ok (.slice (some ⟨w.heap.size, 0, none⟩) 2 2) (w.alloc (.cells (vals k (L ++ L')) e)) := by
      simp only [Instr.buildSlice, Sem.run_bind, run_underlying hu w, Result.andThen_ok, sizeOf, typeInfo, run_program, hq, Sem.run_pure, hs, zeroValue, hz']
      rw [if_neg (by omega), if_neg (by omega)]
      simp only [Sem.run_bind, Sem.run_pure, Result.andThen_ok, hq, hz', hf, run_program]
      simp [Instr.fill, newRow, Sem.run_bind]
    simp only [ho, List.map_toArray, List.map_cons, List.map_nil, hx, hy, Sem.run_bind, hrun, Sem.run_pure, Result.andThen_ok]
    exact hK _ _ (h _ _ (hm.new _ _))
/-- The place of an element of a slice. -/
theorem st_selem (hgd : o.guard = none) (ty : TypeId) (x y : Operand) (ho : o.op = .indexAddr ty x y) {g n c : Nat} {ki : IntKind} {i m : Nat} {e : TypeId} (hx : a.eval x = .slice (some ⟨g, 0, none⟩) n c) (hy : a.eval y = .int ki (i : Int))
    (hu : P.underlying ty = some (.slice e)) (he : (P.info? e).map (·.size) = some m) (h1 : i < n)
    (h : wpList P ops Q rest (a.put o.dst (.pointer (some ⟨g, i * m, none⟩))) w) : wpList P ops Q (o :: rest) a w := by
  refine wpList_plain hgd fun K hK => ?_
  unfold Oper.wp execOp
  have hsz : (sizeOf e).run P w = .ok m w := by
    cases hq : P.info? e with
    | none => simp [hq] at he
    | some i => simp [sizeOf, typeInfo, hq, Sem.run_bind]; simpa [hq] using he
  have hadd : (⟨g, 0, none⟩ : Addr).add (i * m) = ⟨g, i * m, none⟩ := by unfold Addr.add; split <;> simp_all
  simp [ho, hx, hy, Instr.indexAt, asIntOf, Sem.run_bind, run_underlying hu w, hsz, h1, hadd]
  exact hK _ _ h
/-- Many cells are read, one by one known. -/
theorem st_loadc (hgd : o.guard = none) (ty : TypeId) (x : Operand) (ho : o.op = .load ty x) {g i m : Nat} {k : IntKind} (hx : a.eval x = .pointer (some ⟨g, i, none⟩)) {L : List Int} (hl : L.length = m)
    (hc : ∀ j, j < m → w.cell? ⟨g, i + j, none⟩ = some (.int k (rd L (j : Int)))) (hi2 : AggTy P ty m)
    (h : wpList P ops Q rest (a.put o.dst (.agg (vals k L))) w) : wpList P ops Q (o :: rest) a w := by
  obtain ⟨hd, hi⟩ := hi2
  refine wpList_plain hgd fun K hK => ?_
  unfold Oper.wp execOp
  have hagg : (isAgg ty).run P w = .ok true w := by
    unfold isAgg
    cases hu : P.underlying ty with
    | none => simp [hu] at hd
    | some d =>
      rw [Sem.run_bind, run_underlying hu w]
      cases d <;> simp_all
  have hsz : (sizeOf ty).run P w = .ok m w := by
    cases hq : P.info? ty with
    | none => simp [hq] at hi
    | some i => simp [sizeOf, typeInfo, hq, Sem.run_bind]; simpa [hq] using hi
  have hl2 : (loadCells ⟨g, i, none⟩ (vals k L).toList.length).run P w = .ok (vals k L).toList.toArray w :=
    run_loadCells_list (P := P) w ⟨g, i, none⟩ _ (fun j v hv => by
      have hjm : j < m := by
        have := (List.getElem?_eq_some_iff.1 hv).1
        simp [vals] at this; omega
      have hadd : (⟨g, i, none⟩ : Addr).add j = ⟨g, i + j, none⟩ := by unfold Addr.add; split <;> simp_all
      rw [hadd, hc j hjm]
      rw [Array.getElem?_toList, vals_get (by omega)] at hv
      exact hv)
  have hlen : (vals k L).toList.length = m := by simp [vals]; omega
  rw [hlen, Array.toArray_toList] at hl2
  simp only [ho, hx, Instr.loadAt, Instr.sureAddr, Sem.run_bind, Sem.run_pure, Result.andThen_ok, loadVar, hagg, hsz, hl2, if_true]
  exact hK _ _ h
end
end Go.Proofs.Ytnpcjighcdmphaa.Arr
