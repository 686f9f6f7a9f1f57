/- For all lists of words, words and numbers the program's DecodeWord returns what the reference's returns, and changes nothing. No condition. -/
import Derived.Test.YtpidpljngppmiaaWordDLib
import Derived.Test.YtpidpljngppmiaaPLx1
import Derived.Test.YtpidpljngppmiaaPLx2
import Derived.Test.YtpidpljngppmiaaPLx5
import Derived.Test.YtpidpljngppmiaaPLx6
namespace Go.Proofs.Ytpidpljngppmiaa.Pure
open Go.RowKit Go.Proofs.Ytpidpljngppmiaa.L Go.Proofs.YtpidpljngppmiaaW.PrintWords Go.Proofs.YtpidpljngppmiaaW.PrintLast Go.Proofs.Ytpidpljngppmiaa.U
set_option linter.unusedVariables false
set_option linter.unusedSimpArgs false
theorem head_snoc (l : List (List Int)) (x : List Int) (h : 0 < l.length) : rd_L1 (l ++ [x]) 0 = rd_L1 l 0 := by
  have h1 := rdS_get l 0 h
  have h2 := rdS_get (l ++ [x]) 0 (by simp)
  rw [List.getElem_append_left h] at h2
  exact h2.trans h1.symm
theorem areW_snoc (l : List (List Int)) (x : List Int) (hb : ∀ y ∈ l, Bytes y) (hx : Bytes x) : areW (l ++ [x]) 37 = (areW l 37 && wordOk x && (if 0 < l.length then decide (((rd_L1 l 0).length : Int) = (x.length : Int)) else true)) := by
  unfold areW
  rw [List.any_append]
  by_cases h : 0 < l.length
  · have e : badW (l ++ [x]) 37 = badW l 37 := by funext y; unfold badW; rw [head_snoc l x h]
    rw [e, if_pos h]
    have e2 : [x].any (badW l 37) = badW l 37 x := by simp
    rw [e2, bad_ok l x hx]
    by_cases h3 : (x.length : Int) = ((rd_L1 l 0).length : Int)
    · rw [decide_eq_false (fun h => h h3), decide_eq_true h3.symm]
      cases l.any (badW l 37) <;> cases wordOk x <;> rfl
    · rw [decide_eq_true h3, decide_eq_false (fun h => h3 h.symm)]
      cases l.any (badW l 37) <;> cases wordOk x <;> rfl
  · obtain rfl : l = [] := List.eq_nil_of_length_eq_zero (by omega)
    rw [if_neg h]
    have e2 : [x].any (badW ([] ++ [x]) 37) = badW [x] 37 x := by simp
    rw [e2, bad_ok [x] x hx]
    have e3 : rd_L1 [x] 0 = x := rdS_get [x] 0 (by simp)
    rw [e3, decide_eq_false (fun h => h rfl)]
    cases wordOk x <;> rfl
theorem decN_mono (l : List (List Int)) (x : List Int) (a : Int) (i : Nat) : ∀ d : Nat, (decN l x a i).2 ≤ (decN l x a (i + d)).2
  | 0 => Int.le_refl _
  | d + 1 => by
    have := decN_mono l x a i d
    rw [← Nat.add_assoc, decN]
    split
    · simp only; omega
    · exact this
theorem decN_fst (l : List (List Int)) (x : List Int) (a : Int) : ∀ i : Nat, 0 ≤ (decN l x a i).1
  | 0 => Int.le_refl _
  | i + 1 => by
    rw [decN]
    split
    · simp only; omega
    · exact decN_fst l x a i
theorem loop_ev (l : List (List Int)) (x : List Int) (a : Int) (hn : l.length ≤ 60) (hl : ∀ y ∈ l, y.length ≤ 8 ∧ y.length = x.length) : Ev (fun k => spec_DecodeWord.l0 k l x a (-1) 0) (decR (decN l x a l.length)) := by
  refine iter (F := fun k (s : Int × Int) => spec_DecodeWord.l0 k l x a s.1 s.2) (fun i s => (decN l x a i).2 ≤ 1 ∧ s = ((if (decN l x a i).2 = 0 then -1 else (decN l x a i).1), (i : Int))) _ l.length ?_ ?_ 0 (-1, 0) (by omega) ⟨by show (0 : Int) ≤ 1; decide, rfl⟩
  · rintro i s hi ⟨hm, rfl⟩
    have hx := hl _ (by rw [rdS_get l i hi]; exact List.getElem_mem hi : rd_L1 l (i : Int) ∈ l)
    have hev := l05Apart_ev (rd_L1 l (i : Int)) x hx.2 (by omega)
    rw [apD_eq] at hev
    have hs : decN l x a (i + 1) = if apD (rd_L1 l (i : Int)) x (rd_L1 l (i : Int)).length ≤ a then ((i : Int), (decN l x a i).2 + 1) else decN l x a i := rfl
    have hmono := decN_mono l x a (i + 1) (l.length - (i + 1))
    rw [show i + 1 + (l.length - (i + 1)) = l.length by omega] at hmono
    have hb := decN_b l x a i
    have hf := decN_fst l x a i
    generalize apD (rd_L1 l (i : Int)) x (rd_L1 l (i : Int)).length = z at *
    by_cases hz : z ≤ a
    · rw [if_pos hz] at hs
      by_cases h0 : (decN l x a i).2 = 0
      · refine .inl ⟨_, ⟨by rw [hs]; simp only; omega, rfl⟩, fun hgo => ?_⟩
        refine Ev.step (fun k => by simp only; rw [spec_DecodeWord.l0]) ?_
        refine pos (by omega) (pos (by omega) (Ev.bind hev (neg (by omega) (neg (by rw [if_pos h0]; decide) ?_))))
        rw [hs] at hgo
        simp only at hgo
        rw [if_neg (by omega)] at hgo
        rw [w64 (by omega) (by omega)]; exact hgo
      · refine .inr ?_
        have hr : decR (decN l x a l.length) = (0, 8) := by
          have : 2 ≤ (decN l x a l.length).2 := by rw [hs] at hmono; simp only at hmono; omega
          unfold decR
          rw [if_neg (by omega), if_neg (by omega)]
        rw [hr]
        refine Ev.step (fun k => by simp only; rw [spec_DecodeWord.l0]) ?_
        exact pos (by omega) (pos (by omega) (Ev.bind hev (neg (by omega) (pos (by rw [if_neg h0]; omega) (cons rfl)))))
    · rw [if_neg hz] at hs
      refine .inl ⟨_, ⟨by rw [hs]; exact hm, rfl⟩, fun hgo => ?_⟩
      refine Ev.step (fun k => by simp only; rw [spec_DecodeWord.l0]) ?_
      refine pos (by omega) (pos (by omega) (Ev.bind hev (pos (by omega) ?_)))
      rw [hs] at hgo
      rw [w64 (by omega) (by omega)]; exact hgo
  · rintro s ⟨hm, rfl⟩
    have hb := decN_b l x a l.length
    have hf := decN_fst l x a l.length
    unfold decR
    refine Ev.step (fun k => by simp only; rw [spec_DecodeWord.l0]) ?_
    by_cases h0 : (decN l x a l.length).2 = 0
    · simp only [if_pos h0]
      exact neg (by omega) (pos (by decide) (cons rfl))
    · simp only [if_neg h0]
      rw [if_pos (show (decN l x a l.length).2 = 1 by omega)]
      exact neg (by omega) (neg (by omega) (cons rfl))
theorem dec_ev (l : List (List Int)) (x : List Int) (a : Int) (hn : l.length ≤ 1048576) (hls : ∀ y ∈ l, y.length ≤ 1048576) (hx : x.length ≤ 1048576) (hb : ∀ y ∈ l, Bytes y) (hbx : Bytes x) : Ev (fun k => spec_DecodeWord.f k l x a) (decodeW l x a) := by
  have hs := areW_snoc l x hb hbx
  have bad : areW (l ++ [x]) 37 = false → Ev (fun k => spec_DecodeWord.j0 k l x a true) (decodeW l x a) := fun h => by
    have hc : codeW l [x] = 1 := by unfold codeW; rw [h]; rfl
    unfold decodeW
    rw [hc, if_neg (by decide)]
    refine Ev.step (fun k => by rw [spec_DecodeWord.j0]) ?_
    exact pos rfl (cons rfl)
  have good : areW (l ++ [x]) 37 = true → Ev (fun k => spec_DecodeWord.j0 k l x a false) (decodeW l x a) := fun h => by
    have hev := areW_even h
    have hc : codeW l [x] = if (l.length : Int) ≤ 60 then 0 else 3 := by unfold codeW; rw [h]; rfl
    unfold decodeW
    rw [hc]
    refine Ev.step (fun k => by rw [spec_DecodeWord.j0]) ?_
    by_cases h6 : (l.length : Int) ≤ 60
    · rw [if_pos h6, if_pos rfl]
      refine neg (by decide) (neg (by omega) (bindc (in_ev a 0 8) ?_))
      by_cases hin : 0 ≤ a ∧ a ≤ 8
      · rw [if_pos hin, decide_eq_true hin]
        refine pos rfl (loop_ev l x a (by omega) fun y hy => ?_)
        have e1 := hev y (List.mem_append_left _ hy)
        have e2 := hev x (by simp)
        exact ⟨e1.1, by rw [e1.2, e2.2]⟩
      · rw [if_neg hin, decide_eq_false hin]
        exact neg (by decide) (cons rfl)
    · rw [if_neg h6, if_neg (by decide)]
      exact neg (by decide) (pos (by omega) (cons rfl))
  unfold spec_DecodeWord.f
  refine Ev.bind (l05Words_ev l hn hls hb) ?_
  cases h1 : areW l 37 with
  | false =>
    rw [h1] at hs
    exact neg (by decide) (bad (by rw [hs]; rfl))
  | true =>
    refine pos rfl (Ev.bind (l05Word_ev x (by omega)) ?_)
    cases h2 : wordOk x with
    | false =>
      rw [h1, h2] at hs
      exact neg (by decide) (bad (by rw [hs]; rfl))
    | true =>
      rw [h1, h2] at hs
      refine pos rfl ?_
      by_cases h3 : 0 < l.length
      · rw [if_pos h3] at hs
        refine pos (by omega) (pos (by omega) ?_)
        by_cases h4 : ((rd_L1 l 0).length : Int) = (x.length : Int)
        · rw [decide_eq_true h4] at hs
          rw [show (((rd_L1 l 0).length : Int) != (x.length : Int)) = false by rw [bne_eq_false_iff_eq]; exact h4]
          exact good (by rw [hs]; rfl)
        · rw [decide_eq_false h4] at hs
          rw [show (((rd_L1 l 0).length : Int) != (x.length : Int)) = true by rw [bne_iff_ne]; exact h4]
          exact bad (by rw [hs]; rfl)
      · rw [if_neg h3] at hs
        exact neg (by omega) (good (by rw [hs]; rfl))
def FnExactDecodeWordPure : Prop := ∀ (l0 : List (List Int)) (l1 : List Int) (a2 : Int), WfL (WfL (WfI .u8)) l0 → WfL (WfI .u8) l1 → WfI .i64 a2 → ∃ k, laws_FnExactDecodeWord.f k l0 l1 a2 = some true
theorem FnExactDecodeWord : FnExactDecodeWordPure := by
  intro l x a hw hwx _
  apply Ev.rounds
  unfold laws_FnExactDecodeWord.f
  by_cases c0 : (x.length : Int) > 1048576
  · exact pos c0 (cons rfl)
  obtain ⟨r1, h1, hr1, hp1⟩ := szWordS_ev l 1048576 (by omega) hw.1 (fun x hx => (hw.2 x hx).1)
  by_cases c1 : r1 < 0
  · exact neg c0 (Ev.bind h1 (pos c1 (cons rfl)))
  have q1 := hp1 (by omega)
  have n1 : l.length ≤ 1048576 := by have := q1.1; omega
  have m1 : ∀ x ∈ l, x.length ≤ 1048576 := fun x hx => by have := q1.2 x hx; omega
  have t1 := toWordS_ev l n1 m1
  have t2 := toWord_ev x (by omega)
  have hs := dec_ev l x a n1 m1 (by omega) (listW hw) (Bytes.of hwx.2)
  have hi : impl_DecodeWord.f l x a = some (decodeW l x a) := by unfold impl_DecodeWord.f; rw [if_pos (by omega)]
  refine neg c0 (Ev.bind h1 (neg c1 (Ev.bind t1 (Ev.bind t2 (Ev.bind hs (Ev.bind t1 (Ev.bind t2 (bindc hi (pos rfl ?_)))))))))
  refine Ev.step (fun k => by rw [laws_FnExactDecodeWord.j0]) ?_
  exact neg (by simp) (Ev.bind t1 (Ev.bind (eqWordS_refl l n1 m1) (pos rfl (Ev.bind t2 (Ev.bind (eqWord_refl x (by omega)) (pos rfl (cons rfl)))))))
end Go.Proofs.Ytpidpljngppmiaa.Pure
