/- A field of a value of many cells. No condition. -/
import Derived.Test.YtmpkgdgbjhegnaaArrEq
namespace Go.Proofs.Ytmpkgdgbjhegnaa.Arr
open Go.RowKit Go.Proofs.YtmpkgdgbjhegnaaW.PrintWords Go.Proofs.Ytmpkgdgbjhegnaa.U
set_option linter.unusedVariables false
set_option linter.unusedSimpArgs false
/-- What a field's cells are. -/
def PartTy (P : Program) (t : TypeId) (f off m : Nat) : Prop := ∃ (fs : Array Field) (fd : Field), P.underlying t = some (.struct fs) ∧ fs[f]? = some fd ∧ fd.offset = off ∧ AggTy P fd.type m
section
variable {P : Program} {ops : Array Oper} {rest : List Oper} {o : Oper} {a : Act} {w : World} {Q : Exit → Act → World → Prop} {dst : Option Tmp} {x : Operand} {tt : TypeId} {pos : String} {after : Array Edge} {g : Option (Nat × Bool)}
theorem st_fieldv (hgd : o.guard = none) (ty : TypeId) (x : Operand) (f : Nat) (ho : o.op = .field ty x f) {k : IntKind} {L S : List Int} {off m : Nat} (hx : a.eval x = .agg (vals k L)) (hf : PartTy P ty f off m) (hS : (L.drop off).take m = S)
    (h : wpList P ops Q rest (a.put o.dst (.agg (vals k S))) w) : wpList P ops Q (o :: rest) a w := by
  obtain ⟨fs, fd, hu, hfd, ho2, ha⟩ := hf
  subst ho2
  subst hS
  refine wpList_plain hgd fun K hK => ?_
  unfold Oper.wp execOp
  simp only [ho, hx, Instr.field, asAgg, Sem.run_bind, Sem.run_pure, Result.andThen_ok, run_underlying hu w, hfd, run_partA w ha]
  exact hK _ _ h
theorem gt_fieldv (ty f : Nat) (h : wpList P ops Q (⟨dst, .field ty x f, tt, pos, after, g⟩ :: rest) a w) : wpList P ops Q (⟨dst, .field ty x f, tt, pos, after, g⟩ :: rest) a w := h
end
theorem partP0 : PartTy Try.prog 68 0 0 40 := ⟨_, _, Try.underlying68, rfl, rfl, agg65⟩
theorem partP1 : PartTy Try.prog 68 1 40 4 := ⟨_, _, Try.underlying68, rfl, rfl, agg66⟩
end Go.Proofs.Ytmpkgdgbjhegnaa.Arr
