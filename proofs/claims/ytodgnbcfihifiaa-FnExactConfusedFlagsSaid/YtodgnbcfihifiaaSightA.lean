/- Slices of arrays of whole numbers: how they are read. No condition. -/
import Derived.Test.YtodgnbcfihifiaaArrO
import Derived.Test.YtodgnbcfihifiaaArrS
import Derived.Test.YtodgnbcfihifiaaOpen
import Derived.BigQuiet
namespace Go.Proofs.Ytodgnbcfihifiaa.Arr
open Go.RowKit Go.Proofs.YtodgnbcfihifiaaW.PrintWords Go.Proofs.YtodgnbcfihifiaaW.PrintLast Go.Proofs.YtodgnbcfihifiaaW.PrintMore Go.Proofs.Ytodgnbcfihifiaa.U
set_option linter.unusedVariables false
set_option linter.unusedSimpArgs false

/-- An array of whole numbers. -/
def kA (k : IntKind) (n : Nat) : Kd (List Int) where
  sz := n
  E := []
  K := fun _ x cs => cs = x.map (Value.int k) ∧ x.length = n
  M := fun _ _ _ x cs => cs = x.map (Value.int k) ∧ x.length = n
  K_len := fun h => by rw [h.1, List.length_map, h.2]
  K_one := fun h u hu => by
    rw [h.1] at hu
    obtain ⟨z, _, rfl⟩ := List.mem_map.1 hu
    rfl
  K_below := fun _ h => h
  K_of_M := fun h => h
  M_mono := fun _ h => h
  M_bound := fun h => h
  M_move := fun _ h => h
  M_lower := fun _ h => h
theorem rdA_get (x : List Int) (j : Nat) (hj : j < x.length) : rd x (j : Int) = x[j] := by unfold rd; simp [List.getElem?_eq_getElem hj]
/-- The numbers of an array of a slice. -/
def ra (l : List (List Int)) (i : Nat) : List Int := l.getD i []
theorem ra_get (l : List (List Int)) (i : Nat) (hi : i < l.length) : ra l i = l[i] := by unfold ra; simp [List.getD_eq_getElem?_getD, List.getElem?_eq_getElem hi]
theorem addA (a : Addr) (i j : Nat) : (a.add i).add j = a.add (i + j) := by
  unfold Addr.add
  by_cases h1 : i = 0 <;> by_cases h2 : j = 0 <;> simp [h1, h2] <;> omega
theorem at_A {k : IntKind} {n : Nat} {w : World} {A : Option Addr} {m : Nat} {xs : List (List Int)} (h : Kd.C (kA k n) w A m xs) (i : Nat) (hi : i < xs.length) : ∃ ad, A = some ad ∧ (ra xs i).length = n ∧ ∀ j : Nat, j < n → w.cell? ((ad.add (i * n)).add j) = some (.int k (rd (ra xs i) (j : Int))) := by
  obtain ⟨h1, _, h3⟩ := h
  obtain ⟨ad, e, hc⟩ := h3 (by omega)
  obtain ⟨cs, _, ⟨rfl, hn⟩, hcell⟩ := hc i _ (List.getElem?_eq_getElem hi)
  refine ⟨ad, e, by rw [ra_get xs i hi]; exact hn, fun j hj => ?_⟩
  rw [addA, ra_get xs i hi]
  have := hcell j (.int k xs[i][j]) (by rw [List.getElem?_map, List.getElem?_eq_getElem (by omega)]; rfl)
  rw [rdA_get xs[i] j (by omega)]
  exact this
theorem opens_arrK {P : Program} {t : TypeId} {e : TypeId} {k : IntKind} {n : Nat} (ht : P.underlying t = some (.array n e)) (he : P.underlying e = some (.int k)) (hc : P.cellsOf e = 1) (hct : P.cellsOf t = n) : Open.Opens P t (kA k n) (fun x => x.length = n ∧ ∀ z ∈ x, WfI k z) := by
  intro H enc w held fuel cs x h
  obtain ⟨L, hl, hcs, hw⟩ := opens_arr ht he hc hct h
  exact ⟨L, ⟨hcs, hl⟩, hl, hw⟩
section
variable {P : Program} {o : Oper} {a : Act} {w : World}
/-- A load of an array out of the middle of a row. -/
theorem y_loadA {ty : TypeId} {x : Operand} (ho : o.op = .load ty x) {p : Addr} (hx : a.eval x = .pointer (some p)) {m : Nat} {cs : List Value} (hc : ∀ j v, cs[j]? = some v → w.cell? (p.add j) = some v) (hi2 : AggTy P ty m) (hl : cs.length = m) : (execOp a.eval o).run P w = .ok (.value (.agg cs.toArray)) w := by
  obtain ⟨hd, hi⟩ := hi2
  have hld := run_loadCells_list (P := P) w p cs hc
  have h : (loadVar ty p).run P w = .ok (.agg cs.toArray) w := by
    cases hu : P.underlying ty with
    | none => simp [hu] at hd
    | some d =>
      cases hq : P.info? ty with
      | none => simp [hq] at hi
      | some i =>
        have hs : i.size = cs.length := by rw [hl]; simpa [hq] using hi
        have hagg : (isAgg ty).run P w = .ok true w := by
          unfold isAgg
          rw [Sem.run_bind, run_underlying hu w]
          cases d <;> simp_all
        simp [loadVar, Sem.run_bind, hagg, sizeOf, typeInfo, hq, hs, hld]
  unfold execOp
  simp only [ho, hx, Instr.loadAt, Instr.sureAddr, Sem.run_bind, Sem.run_pure, Result.andThen_ok, h]
end
theorem cells_of {w : World} {p : Addr} {k : IntKind} {x : List Int} (h : ∀ j : Nat, j < x.length → w.cell? (p.add j) = some (.int k (rd x (j : Int)))) : ∀ j v, (x.map (Value.int k))[j]? = some v → w.cell? (p.add j) = some v := by
  intro j v hv
  rw [List.getElem?_map] at hv
  by_cases hj : j < x.length
  · rw [List.getElem?_eq_getElem hj] at hv
    obtain rfl := Option.some.inj hv
    rw [h j hj, rdA_get x j hj]
  · rw [List.getElem?_eq_none (by omega)] at hv
    cases hv
end Go.Proofs.Ytodgnbcfihifiaa.Arr
