/- What came in as values of many cells is opened. No condition beyond the types' own rows. -/
import Derived.Test.YtnpcjighcdmphaaArrF
import Derived.ProofKit
import Derived.OpenShut
import Derived.ChangeSame
namespace Go.Proofs.Ytnpcjighcdmphaa.Arr
open Go.RowKit Go.Proofs.YtnpcjighcdmphaaW.PrintWords Go.Proofs.Ytnpcjighcdmphaa.U
set_option linter.unusedVariables false
set_option linter.unusedSimpArgs false
theorem list_of' {α : Type} (n : Nat) (p : Nat → α → Prop) (h : ∀ i, i < n → ∃ a, p i a) : ∃ l : List α, l.length = n ∧ ∀ (i : Nat) (a : α), l[i]? = some a → p i a := by
  induction n with
  | zero => exact ⟨[], rfl, fun i a hi => by simp at hi⟩
  | succ n ih =>
    obtain ⟨l, hl, hp⟩ := ih (fun i hi => h i (by omega))
    obtain ⟨a, ha⟩ := h n (by omega)
    refine ⟨l ++ [a], by simp [hl], fun i b hb => ?_⟩
    rcases Nat.lt_or_ge i l.length with hi | hi
    · rw [List.getElem?_append_left hi] at hb; exact hp i b hb
    · rw [List.getElem?_append_right hi] at hb
      have : i - l.length = 0 := by
        rcases Nat.eq_zero_or_pos (i - l.length) with h0 | h0
        · exact h0
        · rw [List.getElem?_eq_none (by simp; omega)] at hb; cases hb
      rw [this] at hb
      simp at hb
      subst hb
      obtain rfl : i = n := by omega
      exact ha
section
variable {H : Type} {enc : TypeId × Value → H} {P : Program} {w : World} {base : Nat} {spare : Nat → Bool} {held : Bool} {fuel : Nat} {t : TypeId} {cs : List Value} {x : DataW H × List MemPlace}
theorem opens_arr {k : IntKind} {n : Nat} {e : TypeId} (ht : P.underlying t = some (.array n e)) (he : P.underlying e = some (.int k)) (hc : P.cellsOf e = 1) (hct : P.cellsOf t = n)
    (h : DataW.trod enc P w base spare held fuel t cs = some x) : ∃ L : List Int, L.length = n ∧ cs = L.map (Value.int k) ∧ ∀ z ∈ L, (Lit.int k z).wf = true := by
  obtain ⟨xs, m, rfl, rfl, hl, hlen, hx⟩ := DataW.trod_array ht h
  rw [hct] at hl
  have each : ∀ i, i < n → ∃ z : Int, cs[i]? = some (.int k z) ∧ (Lit.int k z).wf = true := by
    intro i hi
    have hxi := hx i hi
    rw [List.getElem?_eq_getElem (by omega), hc, Nat.mul_one] at hxi
    obtain ⟨z, hz, _, hw⟩ := DataW.trod_int he hxi
    refine ⟨z, ?_, hw⟩
    rw [List.drop_eq_getElem_cons (by omega), List.take_succ_cons] at hz
    injection hz with hz _
    rw [List.getElem?_eq_getElem (by omega), hz]
  obtain ⟨L, hL, hp⟩ := list_of' n _ each
  refine ⟨L, hL, ?_, fun z hz => ?_⟩
  · apply List.ext_getElem?
    intro j
    rcases Nat.lt_or_ge j n with hj | hj
    · rw [(hp j _ (List.getElem?_eq_getElem (by omega))).1]
      simp [List.getElem?_eq_getElem (show j < L.length by omega)]
    · rw [List.getElem?_eq_none (by omega), List.getElem?_eq_none (by simp; omega)]
  · obtain ⟨j, hj, rfl⟩ := List.getElem_of_mem hz
    exact (hp j _ (List.getElem?_eq_getElem hj)).2
theorem opens_two {k : IntKind} {n0 n1 : Nat} {e0 e1 : TypeId} {f0 f1 : Field} (ht : P.underlying t = some (.struct #[f0, f1])) (ht0 : P.underlying f0.type = some (.array n0 e0)) (ht1 : P.underlying f1.type = some (.array n1 e1))
    (he0 : P.underlying e0 = some (.int k)) (he1 : P.underlying e1 = some (.int k)) (hc0 : P.cellsOf e0 = 1) (hc1 : P.cellsOf e1 = 1) (hct0 : P.cellsOf f0.type = n0) (hct1 : P.cellsOf f1.type = n1) (hct : P.cellsOf t = n0 + n1)
    (ho0 : f0.offset = 0) (ho1 : f1.offset = n0)
    (h : DataW.trod enc P w base spare held fuel t cs = some x) : ∃ L : List Int, L.length = n0 + n1 ∧ cs = L.map (Value.int k) ∧ ∀ z ∈ L, (Lit.int k z).wf = true := by
  obtain ⟨y0, y1, m, rfl, hl, h0, h1⟩ := Go.ChangeShapes.trod_struct2 ht h
  obtain ⟨L0, hl0, hc0, hw0⟩ := opens_arr ht0 he0 hc0 hct0 h0
  obtain ⟨L1, hl1, hc1, hw1⟩ := opens_arr ht1 he1 hc1 hct1 h1
  rw [ho0, hct0, List.drop_zero] at hc0
  rw [ho1, hct1, List.take_of_length_le (by simp; omega)] at hc1
  refine ⟨L0 ++ L1, by simp; omega, ?_, fun z hz => ?_⟩
  · rw [List.map_append, ← hc0, ← hc1, List.take_append_drop]
  · rcases List.mem_append.1 hz with hz | hz
    · exact hw0 z hz
    · exact hw1 z hz
theorem agg_of {k : IntKind} {v : Value} {L : List Int} {m : Nat} (hm : L.length = m + 2) (h : v.cells.toList = L.map (Value.int k)) : v = .agg (vals k L) := by
  have hsz : v.cells.toList.length = m + 2 := by rw [h]; simpa using hm
  have : ∃ cs, v = .agg cs := by
    cases v <;> first | exact ⟨_, rfl⟩ | (simp [Value.cells] at hsz)
  obtain ⟨cs, rfl⟩ := this
  have h2 : cs.toList = L.map (Value.int k) := h
  unfold vals
  rw [← h2]
end
end Go.Proofs.Ytnpcjighcdmphaa.Arr
