/- '==' of values of many cells of one kind of int: as lists. No condition. -/
import Derived.Test.YtmpkgdgbjhegnaaArrF
import Derived.Laws.StructEq
namespace Go.Proofs.Ytmpkgdgbjhegnaa.Arr
open Go.RowKit Go.Proofs.YtmpkgdgbjhegnaaW.PrintWords Go.Proofs.Ytmpkgdgbjhegnaa.U
set_option linter.unusedVariables false
set_option linter.unusedSimpArgs false
section
variable {P : Program} (w : World)
theorem run_part1 {e : TypeId} {k : IntKind} {L : List Int} {i : Nat} (h1 : OneTy P e) (hi : i < L.length) : (part e (vals k L) i).run P w = .ok (.int k (rd L (i : Int))) w := by
  obtain ⟨hd, _⟩ := h1
  have hagg : (isAgg e).run P w = .ok false w := by
    unfold isAgg
    cases hu : P.underlying e with
    | none => simp [hu] at hd
    | some d =>
      rw [Sem.run_bind, run_underlying hu w]
      cases d <;> simp_all
  simp [part, Sem.run_bind, hagg, vals_get hi]
theorem run_partA {t : TypeId} {k : IntKind} {L : List Int} {i m : Nat} (h1 : AggTy P t m) : (part t (vals k L) i).run P w = .ok (.agg (vals k ((L.drop i).take m))) w := by
  obtain ⟨hd, hi⟩ := h1
  have hagg : (isAgg t).run P w = .ok true w := by
    unfold isAgg
    cases hu : P.underlying t with
    | none => simp [hu] at hd
    | some d =>
      rw [Sem.run_bind, run_underlying hu w]
      cases d <;> simp_all
  have hsz : (sizeOf t).run P w = .ok m w := by
    cases hq : P.info? t with
    | none => simp [hq] at hi
    | some i => simp [sizeOf, typeInfo, hq, Sem.run_bind]; simpa [hq] using hi
  simp [part, Sem.run_bind, hagg, hsz, vals_extract, List.drop_take]
theorem run_equalIn_arr {t e : TypeId} {k : IntKind} {m d : Nat} {L L' : List Int} (hu : P.underlying t = some (.array m e)) (h1 : OneTy P e) (hl : L.length = m) (hl' : L'.length = m)
    (hE : ∀ a b, (Op.equalIn d e (.int k a) (.int k b)).run P w = .ok (a == b) w) :
    (Op.equalIn (d + 1) t (.agg (vals k L)) (.agg (vals k L'))).run P w = .ok (decide (L = L')) w := by
  have hsz : (sizeOf e).run P w = .ok 1 w := by
    obtain ⟨_, hi⟩ := h1
    cases hq : P.info? e with
    | none => simp [hq] at hi
    | some i => simp [sizeOf, typeInfo, hq, Sem.run_bind]; simpa [hq] using hi
  simp only [Op.equalIn, Sem.run_bind, run_underlying hu w, hsz, Result.andThen_ok]
  rw [Std.Legacy.Range.forIn_eq_forIn_range']
  have key : ∀ (F : Option Bool × PUnit → World → Result Bool) (_ : ∀ w', F (none, ()) w' = .ok true w') (_ : ∀ r w', F (some r, ()) w' = .ok r w') (n j : Nat) (b : Bool), j + n = m → (∀ i : Nat, i < j → rd L (i : Int) = rd L' (i : Int)) → b = decide (L = L') →
      (Sem.run P (forIn (List.range' j n 1) ((none : Option Bool), ()) fun i __s => do
            let __do_lift ← part e (vals k L) (i * 1)
            let __do_lift_1 ← part e (vals k L') (i * 1)
            let __do_lift ← Op.equalIn d e __do_lift __do_lift_1
            if (!__do_lift) = true then pure (ForInStep.done (some false, ()))
              else pure (ForInStep.yield (none, ()))) w).andThen F = .ok b w := by
    intro F hF1 hF2 n
    induction n with
    | zero =>
      intro j b hj hs hb
      have e : L = L' := by
        apply toList hl hl'
        intro i hi
        exact rd_opt (by omega) (by omega) (hs i (by omega))
      rw [decide_eq_true e] at hb
      subst hb
      simp [hF1]
    | succ n ih =>
      intro j b hj hs hb
      rw [List.range'_succ]
      simp only [List.forIn_cons, Sem.run_bind, Nat.mul_one, run_part1 w h1 (show j < L.length by omega), run_part1 w h1 (show j < L'.length by omega), Result.andThen_ok, hE]
      by_cases hx : rd L (j : Int) = rd L' (j : Int)
      · have h3 := ih (j + 1) b (by omega) (fun i hi => by
          rcases Nat.lt_or_ge i j with h | h
          · exact hs i h
          · obtain rfl : i = j := by omega
            exact hx) hb
        simp only [hx, beq_self_eq_true, Bool.not_true, Bool.false_eq_true, if_false, Sem.run_pure, Result.andThen_ok]
        simpa [Nat.mul_one] using h3
      · have hf : (rd L (j : Int) == rd L' (j : Int)) = false := by simpa using hx
        have hb2 : b = false := by
          rw [hb]
          exact decide_eq_false fun e => hx (by rw [e])
        subst hb2
        simp [hf, hF2]
  have hsize : Std.Legacy.Range.size [:m] = m := by simp [Std.Legacy.Range.size]
  rw [hsize]
  refine key _ ?_ ?_ m 0 _ (by omega) (fun i hi => absurd hi (by omega)) rfl
  · intro _; rfl
  · intro _ _; rfl
theorem run_eqFields_two {k : IntKind} {d m0 m1 : Nat} {L L' : List Int} {f0 f1 : Field} (hn0 : (f0.name == "_") = false) (hn1 : (f1.name == "_") = false) (h0 : AggTy P f0.type m0) (h1 : AggTy P f1.type m1) (ho0 : f0.offset = 0) (ho1 : f1.offset = m0)
    (hl : L.length = m0 + m1) (hl' : L'.length = m0 + m1)
    (hE0 : ∀ A B : List Int, A.length = m0 → B.length = m0 → (Op.equalIn d f0.type (.agg (vals k A)) (.agg (vals k B))).run P w = .ok (decide (A = B)) w)
    (hE1 : ∀ A B : List Int, A.length = m1 → B.length = m1 → (Op.equalIn d f1.type (.agg (vals k A)) (.agg (vals k B))).run P w = .ok (decide (A = B)) w) :
    (Op.eqFields d (vals k L) (vals k L') [f0, f1]).run P w = .ok (decide (L = L')) w := by
  have e0 := hE0 ((L.drop 0).take m0) ((L'.drop 0).take m0) (by simp; omega) (by simp; omega)
  have e1 := hE1 ((L.drop m0).take m1) ((L'.drop m0).take m1) (by simp; omega) (by simp; omega)
  have hsp : ∀ K : List Int, K.length = m0 + m1 → K = (K.drop 0).take m0 ++ (K.drop m0).take m1 := fun K hK => by
    rw [List.drop_zero, List.take_of_length_le (l := K.drop m0) (by simp; omega), List.take_append_drop]
  have g := eqf_cons (P := P) (d := d) (xs := vals k L) (ys := vals k L') (f := f0) (fs := [f1]) hn0 (run_partA w h0) (run_partA w h0) (by rw [ho0]; exact e0)
    (eqf_last hn1 (run_partA w h1) (run_partA w h1) (by rw [ho1]; exact e1))
  rw [g]
  congr 1
  by_cases h2 : (L.drop 0).take m0 = (L'.drop 0).take m0
  · by_cases h3 : (L.drop m0).take m1 = (L'.drop m0).take m1
    · have : L = L' := (hsp L hl).trans ((by rw [h2, h3] : _ = _).trans (hsp L' hl').symm)
      simp [h2, h3, this]
    · have hne : L ≠ L' := fun e => h3 (by rw [e])
      rw [decide_eq_false h3, decide_eq_false hne, Bool.and_false]
  · have hne : L ≠ L' := fun e => h2 (by rw [e])
    rw [decide_eq_false h2, decide_eq_false hne, Bool.false_and]
/-- Two values of a type are compared as their lists. -/
def EqTy (P : Program) (t : TypeId) (k : IntKind) (m : Nat) : Prop := P.eqGuardType P.depth t = false ∧ ∀ (w : World) (L L' : List Int), L.length = m → L'.length = m → (Op.equalIn 10000 t (.agg (vals k L)) (.agg (vals k L'))).run P w = .ok (decide (L = L')) w
theorem st_eql {ops : Array Oper} {rest : List Oper} {o : Oper} {a : Act} {Q : Exit → Act → World → Prop} {w : World} (hgd : o.guard = none) (t t' : TypeId) (x y : Operand) (ho : o.op = .binOp .eql t x y t') {k : IntKind} {m : Nat} {L L' : List Int} (hx : a.eval x = .agg (vals k L)) (hy : a.eval y = .agg (vals k L'))
    (he : EqTy P t k m) (hl : L.length = m) (hl' : L'.length = m) (h : wpList P ops Q rest (a.put o.dst (.bool (decide (L = L')))) w) : wpList P ops Q (o :: rest) a w := by
  refine wpList_plain hgd fun K hK => ?_
  unfold Oper.wp execOp
  simp only [ho, hx, hy, Sem.run_bind, run_eqGuard_agg w .eql t x y _ _ he.1, Result.andThen_ok, run_eql_struct, he.2 w L L' hl hl', Sem.run_pure]
  exact hK _ _ h
end
theorem eqTy_two {P : Program} {t : TypeId} {k : IntKind} {m0 m1 : Nat} {e0 e1 : TypeId} {f0 f1 : Field} (hg : P.eqGuardType P.depth t = false) (ht : P.underlying t = some (.struct #[f0, f1])) (hst : P.stoodInHeld t = false)
    (hn0 : (f0.name == "_") = false) (hn1 : (f1.name == "_") = false) (h0 : AggTy P f0.type m0) (h1 : AggTy P f1.type m1) (ho0 : f0.offset = 0) (ho1 : f1.offset = m0)
    (hu0 : P.underlying f0.type = some (.array m0 e0)) (hu1 : P.underlying f1.type = some (.array m1 e1)) (he0 : P.underlying e0 = some (.int k)) (he1 : P.underlying e1 = some (.int k)) (h10 : OneTy P e0) (h11 : OneTy P e1) : EqTy P t k (m0 + m1) := by
  refine ⟨hg, fun w L L' hl hl' => ?_⟩
  have hf : P.fieldsOf t = #[f0, f1] := by unfold Program.fieldsOf; rw [ht]
  rw [run_equalIn_struct w 9999 t _ _ (by rw [hf]; exact ht) hst, hf]
  exact run_eqFields_two w hn0 hn1 h0 h1 ho0 ho1 hl hl' (fun A B hA hB => run_equalIn_arr w hu0 h10 hA hB (fun a b => run_equalIn_int w 9997 e0 k k a b he0)) (fun A B hA hB => run_equalIn_arr w hu1 h11 hA hB (fun a b => run_equalIn_int w 9997 e1 k k a b he1))
theorem eqPieces : EqTy Try.prog 68 .i64 44 :=
  eqTy_two (by kernel_rfl) Try.underlying68 (by kernel_rfl) rfl rfl agg65 agg66 rfl rfl Try.underlying65 Try.underlying66 Try.underlying3 Try.underlying3 one3 one3
end Go.Proofs.Ytmpkgdgbjhegnaa.Arr
