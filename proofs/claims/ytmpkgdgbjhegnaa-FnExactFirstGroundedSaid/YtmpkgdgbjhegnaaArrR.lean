/- Operations over blocks of many cells where the order is drawn. No condition. -/
import Derived.Test.YtmpkgdgbjhegnaaArrF
namespace Go.Proofs.Ytmpkgdgbjhegnaa.Arr
open Go.RowKit Go.Proofs.YtmpkgdgbjhegnaaW.PrintWords Go.Proofs.YtmpkgdgbjhegnaaW.PrintLast Go.Proofs.Ytmpkgdgbjhegnaa.U
set_option linter.unusedVariables false
set_option linter.unusedSimpArgs false
section
variable {P : Program} {o : Oper} {a : Act} {w0 w : World} {M : List Ent}
theorem y_load {ty : TypeId} {x : Operand} (ho : o.op = .load ty x) {g : Nat} (hx : a.eval x = .pointer (some ⟨g, 0, none⟩)) (n : Nat) {k : IntKind} {L : List Int} {m : Nat} {t : TypeId} {own : Bool} (hn : M[n]? = some ⟨g, vals k L, t, own⟩) (hi2 : AggTy P ty m) (hl : L.length = m)
    (w' : World) (hm : Mem w0 w' M) : (execOp a.eval o).run P w' = .ok (.value (.agg (vals k L))) w' := by
  obtain ⟨hd, hi0⟩ := hi2
  have hi : (P.info? ty).map (·.size) = some (vals k L).size := by rw [vals_size, hl]; exact hi0
  cases hu : P.underlying ty with
  | none => simp [hu] at hd
  | some d =>
    have h := run_loadVar_row (P := P) w' g t ty (vals k L) (0, 0) d (hm.mem hn) hu (by cases d <;> simp_all) hi
    unfold execOp
    simp only [ho, hx, Instr.loadAt, Instr.sureAddr, Sem.run_bind, Sem.run_pure, Result.andThen_ok, h]
theorem y_store {ty : TypeId} {x y : Operand} (ho : o.op = .store ty x y) {g m : Nat} {k k' : IntKind} {L : List Int} (hx : a.eval x = .pointer (some ⟨g, 0, none⟩)) (hy : a.eval y = .agg (vals k L)) (n : Nat) {old : List Int} {t : TypeId} {own : Bool} (hm : Mem w0 w M) (hn : M[n]? = some ⟨g, vals k' old, t, own⟩)
    (hi2 : AggTy P ty m) (hl : L.length = m) (hold : old.length = m) : (execOp a.eval o).run P w = .ok .skip (w.setRow g (vals k L)) := by
  have h := run_storeVar_row (P := P) w g t ty (vals k' old) (vals k L) (hm.mem hn) (by rw [vals_size, hl]; exact hi2.2) (by rw [vals_size, vals_size, hold, hl]) vals_one
  unfold execOp
  simp only [ho, hx, hy, Instr.storeAt, Instr.sureAddr, Sem.run_bind, Sem.run_pure, Result.andThen_ok, h]
theorem s_alloc {ops : Array Oper} {N : Option Tmp} {K : Act → World → Prop} {Q : Exit → Act → World → Prop} {cs : Array Value} {ty : TypeId} (hw : Region.wanted o (yielded ops a.tmps) = true) (hN : o.dst = N) (ho : o.op = .alloc ty) (hm : Mem w0 w M) (hz : ZeroTy P ty cs)
    (h : ∀ g w1, Mem w0 w1 (⟨g, cs, ty, true⟩ :: M) → K (a.put N (.pointer (some ⟨g, 0, none⟩))) w1) : if Region.wanted o (yielded ops a.tmps) = true then Oper.wp P o a w K Q else K (a.put N undef) w := by
  obtain ⟨z, hz, rfl⟩ := hz
  refine value_ (w1 := w.alloc (.cells z.cells ty)) (v := .pointer (some ⟨w.heap.size, 0, none⟩)) hw hN ?_ (h _ _ (hm.new _ _))
  unfold execOp
  simp only [ho, Sem.run_bind, run_alloc hz, Sem.run_pure, Result.andThen_ok]
theorem Mem.rest {e : Ent} (h : Mem w0 w (e :: M)) (ho : e.own = true) : Mem w0 w M :=
  ⟨h.os, h.tape, h.output, h.size, fun k hk hn => h.block k hk fun f hf => by
    rcases List.mem_cons.1 hf with rfl | hf
    · have := (h.ent f (List.mem_cons_self ..)).2 ho; omega
    · exact hn f hf, fun f hf => h.ent f (List.mem_cons_of_mem _ hf), fun m n e f hm hn hef => by
    have := h.apart (m + 1) (n + 1) e f (by simpa using hm) (by simpa using hn) hef
    omega⟩
end
end Go.Proofs.Ytmpkgdgbjhegnaa.Arr
