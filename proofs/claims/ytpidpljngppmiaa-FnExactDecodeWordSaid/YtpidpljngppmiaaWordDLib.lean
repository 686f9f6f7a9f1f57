/- Lists of words: which are valid, and in how many letters two words differ. No condition beyond lengths that can be read. -/
import Derived.Test.YtpidpljngppmiaaWordSLib
import Derived.Test.YtpidpljngppmiaaPLx1
import Derived.Test.YtpidpljngppmiaaPLx3
import Derived.Test.YtpidpljngppmiaaPLx4
namespace Go.Proofs.Ytpidpljngppmiaa.L
open Go.RowKit Go.Proofs.YtpidpljngppmiaaW.PrintWords Go.Proofs.YtpidpljngppmiaaW.PrintLast Go.Proofs.Ytpidpljngppmiaa.U
set_option linter.unusedVariables false
set_option linter.unusedSimpArgs false

theorem apD_eq (l l' : List Int) : ∀ i : Nat, apartTo l l' i = apD l l' i
  | 0 => rfl
  | i + 1 => by rw [apartTo, apD, apD_eq l l' i]
theorem apD_comm (l l' : List Int) (i : Nat) : apD l l' i = apD l' l i := by rw [← apD_eq, ← apD_eq, apartTo_comm]
theorem isWB_ok (x : List Int) (hb : Bytes x) : isWB x 37 = wordOk x := by
  have h1 := isWB_f x 37
  rw [isWord_37 x hb] at h1
  exact (Option.some.inj h1).symm
theorem bad_ok (l : List (List Int)) (x : List Int) (hb : Bytes x) : badW l 37 x = (!wordOk x || decide ((x.length : Int) ≠ ((rd_L1 l 0).length : Int))) := by
  unfold badW; rw [isWB_ok x hb]
theorem l05Words_ev (l : List (List Int)) (hn : l.length ≤ 1048576) (hls : ∀ x ∈ l, x.length ≤ 1048576) (hb : ∀ x ∈ l, Bytes x) : Ev (fun k => spec_l05Words.f k l) (areW l 37) := by
  unfold spec_l05Words.f
  have hat : ∀ i : Nat, i < l.length → rd_L1 l (i : Int) ∈ l := fun i hi => by rw [rdS_get l i hi]; exact List.getElem_mem hi
  refine iter (F := fun k (s : Int) => spec_l05Words.l0 k l s) (fun i s => s = (i : Int) ∧ ∀ j : Nat, j < i → badW l 37 (rd_L1 l (j : Int)) = false) (areW l 37) l.length ?_ ?_ 0 0 (by omega) ⟨rfl, fun j hj => by omega⟩
  · rintro i s hi ⟨rfl, hp⟩
    have hx := hat i hi
    have hw := l05Word_ev (rd_L1 l (i : Int)) (by have := hls _ hx; omega)
    have hk := bad_ok l _ (hb _ hx)
    have hany : badW l 37 (rd_L1 l (i : Int)) = true → areW l 37 = false := fun h => by
      unfold areW
      rw [List.any_eq_true.2 ⟨_, hx, h⟩]; rfl
    cases h1 : wordOk (rd_L1 l (i : Int)) with
    | false =>
      refine .inr ?_
      rw [hany (by rw [hk, h1]; rfl)]
      refine Ev.step (fun k => by rw [spec_l05Words.l0]) ?_
      exact pos (by omega) (pos (by omega) (Ev.bind (h1 ▸ hw) (neg (by decide) (cons rfl))))
    | true =>
      by_cases he : ((rd_L1 l (i : Int)).length : Int) = ((rd_L1 l 0).length : Int)
      · refine .inl ⟨((i + 1 : Nat) : Int), ⟨rfl, fun j hj => ?_⟩, fun hgo => ?_⟩
        · rcases Nat.lt_or_ge j i with h | h
          · exact hp j h
          · obtain rfl : j = i := by omega
            rw [hk, h1, decide_eq_false (fun h => h he)]; rfl
        · refine Ev.step (fun k => by rw [spec_l05Words.l0]) ?_
          refine pos (by omega) (pos (by omega) (Ev.bind (h1 ▸ hw) (pos rfl (pos (by omega) (pos he ?_)))))
          rw [w64 (by omega) (by omega)]; exact hgo
      · refine .inr ?_
        rw [hany (by rw [hk, h1, decide_eq_true he]; rfl)]
        refine Ev.step (fun k => by rw [spec_l05Words.l0]) ?_
        exact pos (by omega) (pos (by omega) (Ev.bind (h1 ▸ hw) (pos rfl (pos (by omega) (neg he (cons rfl))))))
  · rintro s ⟨rfl, hp⟩
    have : areW l 37 = true := by
      unfold areW
      rw [List.any_eq_false.2 fun x hx => ?_]
      · rfl
      · obtain ⟨j, hj, rfl⟩ := List.getElem_of_mem hx
        have := hp j hj
        rw [rdS_get l j hj] at this
        simp [this]
    rw [this]
    refine Ev.step (f := fun _ => some true) (fun k => ?_) (cons rfl)
    rw [spec_l05Words.l0, if_neg (by omega)]
/-- What the kinds of lists of words say. -/
theorem listW {l : List (List Int)} (hw : WfL (WfL (WfI .u8)) l) : ∀ x ∈ l, Bytes x := fun x hx => Bytes.of (hw.2 x hx).2
end Go.Proofs.Ytpidpljngppmiaa.L
