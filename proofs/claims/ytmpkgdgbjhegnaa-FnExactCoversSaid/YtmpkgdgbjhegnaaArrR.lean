/- Operations over blocks of many cells where the order is drawn. No condition. -/
import Derived.Test.YtmpkgdgbjhegnaaArrF
namespace Go.Proofs.Ytmpkgdgbjhegnaa.Arr
open Go.RowKit Go.Proofs.YtmpkgdgbjhegnaaW.PrintWords Go.Proofs.YtmpkgdgbjhegnaaW.PrintLast Go.Proofs.Ytmpkgdgbjhegnaa.U
set_option linter.unusedVariables false
set_option linter.unusedSimpArgs false
section
variable {P : Program} {o : Oper} {a : Act} {w0 w : World} {M : List Ent}
theorem y_load {ty : TypeId} {x : Operand} (ho : o.op = .load ty x) {g : Nat} (hx : a.eval x = .pointer (some ⟨g, 0, none⟩)) (n : Nat) {k : IntKind} {L : List Int} {m : Nat} {t : TypeId} {own : Bool} (hn : M[n]? = some ⟨g, vals k L, t, own⟩) (hi2 : AggTy P ty m) (hl : L.length = m)
    (w' : World) (hm : Mem w0 w' M) : (execOp a.eval o).run P w' = .ok (.value (.agg (vals k L))) w' := by
  obtain ⟨hd, hi0⟩ := hi2
  have hi : (P.info? ty).map (·.size) = some (vals k L).size := by rw [vals_size, hl]; exact hi0
  cases hu : P.underlying ty with
  | none => simp [hu] at hd
  | some d =>
    have h := run_loadVar_row (P := P) w' g t ty (vals k L) (0, 0) d (hm.mem hn) hu (by cases d <;> simp_all) hi
    unfold execOp
    simp only [ho, hx, Instr.loadAt, Instr.sureAddr, Sem.run_bind, Sem.run_pure, Result.andThen_ok, h]
theorem y_store {ty : TypeId} {x y : Operand} (ho : o.op = .store ty x y) {g m : Nat} {k k' : IntKind} {L : List Int} (hx : a.eval x = .pointer (some ⟨g, 0, none⟩)) (hy : a.eval y = .agg (vals k L)) (n : Nat) {old : List Int} {t : TypeId} {own : Bool} (hm : Mem w0 w M) (hn : M[n]? = some ⟨g, vals k' old, t, own⟩)
    (hi2 : AggTy P ty m) (hl : L.length = m) (hold : old.length = m) : (execOp a.eval o).run P w = .ok .skip (w.setRow g (vals k L)) := by
  have h := run_storeVar_row (P := P) w g t ty (vals k' old) (vals k L) (hm.mem hn) (by rw [vals_size, hl]; exact hi2.2) (by rw [vals_size, vals_size, hold, hl]) vals_one
  unfold execOp
  simp only [ho, hx, hy, Instr.storeAt, Instr.sureAddr, Sem.run_bind, Sem.run_pure, Result.andThen_ok, h]
end
end Go.Proofs.Ytmpkgdgbjhegnaa.Arr
