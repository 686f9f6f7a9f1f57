/- What the laws' own functions on hoists and lists of hoists answer, as they are called. No condition beyond lengths that can be read. -/
import Derived.Test.YtmpkgdgbjhegnaaU
import Derived.Test.YtmpkgdgbjhegnaaArr
import Derived.Test.YtmpkgdgbjhegnaaPBx1
import Derived.Test.YtmpkgdgbjhegnaaPBx2
import Derived.Test.YtmpkgdgbjhegnaaPBx3
namespace Go.Proofs.Ytmpkgdgbjhegnaa.Arr
open Go.RowKit Go.Proofs.YtmpkgdgbjhegnaaW.PrintWords Go.Proofs.YtmpkgdgbjhegnaaW.PrintLast Go.Proofs.Ytmpkgdgbjhegnaa.U Go.Proofs.Ytmpkgdgbjhegnaa.B
set_option linter.unusedVariables false
set_option linter.unusedSimpArgs false

theorem eqHoist_l0 (l l' : List Int) (hl : l.length = l'.length) (hn : l.length ≤ 9223372036854775806) : ∀ (d i : Nat), i + d = l.length → (∀ j, j < i → l[j]? = l'[j]?) →
    Ev (fun k => laws_eqHoist.l0 k l l' (i : Int)) (decide (l = l')) := by
  intro d
  induction d with
  | zero =>
    intro i hi hp
    refine Ev.step (f := fun _ => some true) (fun k => by simp only [laws_eqHoist.l0]; rw [if_neg (by omega)]) (cons ?_)
    symm; apply decide_eq_true
    apply List.ext_getElem? 
    intro j
    rcases Nat.lt_or_ge j i with h | h
    · exact hp j h
    · rw [List.getElem?_eq_none (by omega), List.getElem?_eq_none (by omega)]
  | succ d ih =>
    intro i hi hp
    by_cases he : rd l i = rd l' i
    · refine Ev.step (f := fun k => laws_eqHoist.l0 k l l' ((i + 1 : Nat) : Int)) (fun k => ?_) (ih (i + 1) (by omega) ?_)
      · simp only [laws_eqHoist.l0]; rw [if_pos (by omega), if_pos (by omega), if_pos (by omega), if_pos he, w64 (by omega) (by omega)]; rfl
      · intro j hj
        rcases Nat.lt_or_ge j i with h | h
        · exact hp j h
        · obtain rfl : j = i := by omega
          rw [rd_get l j (by omega), rd_get l' j (by omega)] at he
          rw [List.getElem?_eq_getElem (by omega), List.getElem?_eq_getElem (by omega), he]
    · refine Ev.step (f := fun _ => some false) (fun k => ?_) (cons ?_)
      · simp only [laws_eqHoist.l0]; rw [if_pos (by omega), if_pos (by omega), if_pos (by omega), if_neg he]
      · symm; apply decide_eq_false
        intro e; exact he (by rw [e])

theorem eqHoist_ev (l l' : List Int) (hn : l.length ≤ 9223372036854775806) : Ev (fun k => laws_eqHoist.f k l l') (decide (l = l')) := by
  unfold laws_eqHoist.f
  by_cases h : (l.length : Int) = (l'.length : Int)
  · exact pos h (eqHoist_l0 l l' (by omega) hn l.length 0 (by omega) (fun j hj => by omega))
  · refine neg h (cons ?_)
    symm; apply decide_eq_false
    intro e; exact h (by rw [e])
theorem eqHoist_refl (l : List Int) (hn : l.length ≤ 9223372036854775806) : Ev (fun k => laws_eqHoist.f k l l) true := by
  have := eqHoist_ev l l hn; simpa using this

theorem toHoist_ev (l : List Int) (hn : l.length ≤ 140737488351232) : Ev (fun k => laws_toHoist.f k l) l := by
  unfold laws_toHoist.f
  refine pos (by omega) (pos (by omega) ?_)
  rw [Int.toNat_natCast]
  refine iter (F := fun k (s : List Int × Int) => laws_toHoist.l0 k l s.1 s.2) (fun i s => s.2 = (i : Int) ∧ s.1.length = l.length ∧ ∀ j, j < i → s.1[j]? = l[j]?) l l.length ?_ ?_ 0 (List.replicate l.length 0, 0) (by omega) ⟨rfl, by simp, fun j hj => by omega⟩
  · rintro i ⟨s, x⟩ hi ⟨rfl, hl, hp⟩
    dsimp only at hl hp
    refine .inl ⟨(s.set i (rd l (i : Int)), ((i + 1 : Nat) : Int)), ⟨rfl, by simpa using hl, fun j hj => ?_⟩, Ev.step fun k => ?_⟩
    · dsimp only
      by_cases e : j = i
      · subst e; rw [List.getElem?_set_self (by omega), rd_get l j hi, List.getElem?_eq_getElem hi]
      · rw [List.getElem?_set_ne (by omega)]; exact hp j (by omega)
    · simp only [laws_toHoist.l0]
      rw [if_pos (by omega), if_pos (by omega), if_pos (by omega), w64 (by omega) (by omega), Int.toNat_natCast]; rfl
  · rintro ⟨s, x⟩ ⟨rfl, hl, hp⟩
    dsimp only at hl hp
    refine Ev.step (f := fun _ => some s) (fun k => ?_) (cons (toList hl rfl hp))
    simp only [laws_toHoist.l0]; rw [if_neg (by omega)]

theorem rdS_get (xs : List (List Int)) (i : Nat) (h : i < xs.length) : rd_L1 xs (i : Int) = xs[i] := by
  simp [rd_L1, List.getElem?_eq_getElem h]
theorem toListS {l l' : List (List Int)} {n : Nat} (h1 : l.length = n) (h2 : l'.length = n) (h : ∀ j, j < n → l[j]? = l'[j]?) : l = l' := by
  apply List.ext_getElem?
  intro j
  rcases Nat.lt_or_ge j n with hj | hj
  · exact h j hj
  · rw [List.getElem?_eq_none (by omega), List.getElem?_eq_none (by omega)]

theorem szHoist_ev (l : List Int) (a : Int) (ha : 0 ≤ a ∧ a ≤ 1048576) (hl : l.length ≤ maxLen) : laws_szHoist.f l a = some (if a < (l.length : Int) then -1 else a - l.length) := by
  unfold laws_szHoist.f
  unfold maxLen at hl
  rw [w64 (by omega) (by omega)]
  by_cases h : a < (l.length : Int)
  · rw [if_pos (by omega), if_pos h]
  · rw [if_neg (by omega), if_neg h]
/-- What is left of a bound; -1 where it does not suffice. -/
theorem szHoistS_ev (l : List (List Int)) (a : Int) (ha : 0 ≤ a ∧ a ≤ 1048576) (hl : l.length ≤ maxLen) (hls : ∀ x ∈ l, x.length ≤ maxLen) :
    ∃ r, Ev (fun k => laws_szHoistS.f k l a) r ∧ r ≤ a ∧ (0 ≤ r → (l.length : Int) ≤ a ∧ ∀ x ∈ l, (x.length : Int) ≤ a) := by
  unfold laws_szHoistS.f
  have hl2 := hl
  unfold maxLen at hl2
  rw [w64 (x := a - (l.length : Int)) (by omega) (by omega)]
  by_cases h : a - (l.length : Int) < 0
  · exact ⟨-1, pos h (cons rfl), by omega, fun h => by omega⟩
  have key : ∀ (d i : Nat) (b : Int), i + d = l.length → 0 ≤ b → b ≤ a → (∀ j : Nat, j < i → ((rd_L1 l (j : Int)).length : Int) ≤ a) →
      ∃ r, Ev (fun k => laws_szHoistS.l0 k l b (i : Int)) r ∧ r ≤ a ∧ (0 ≤ r → ∀ j : Nat, j < l.length → ((rd_L1 l (j : Int)).length : Int) ≤ a) := by
    intro d
    induction d with
    | zero =>
      intro i b hi hb0 hb1 hp
      refine ⟨b, ?_, hb1, fun _ j hj => hp j (by omega)⟩
      refine Ev.step (fun k => by rw [laws_szHoistS.l0]) ?_
      exact neg (by omega) (Ev.now _)
    | succ d ih =>
      intro i b hi hb0 hb1 hp
      have hm : (rd_L1 l (i : Int)).length ≤ maxLen := by rw [rdS_get l i (by omega)]; exact hls _ (List.getElem_mem _)
      have hs := szHoist_ev (rd_L1 l (i : Int)) b ⟨hb0, by omega⟩ hm
      by_cases hc : b < ((rd_L1 l (i : Int)).length : Int)
      · rw [if_pos hc] at hs
        refine ⟨-1, ?_, by omega, fun h => by omega⟩
        refine Ev.step (fun k => by rw [laws_szHoistS.l0]) ?_
        exact pos (by omega) (pos (by omega) (bindc hs (pos (by omega) (cons rfl))))
      · rw [if_neg hc] at hs
        obtain ⟨r, hr, h1, h2⟩ := ih (i + 1) (b - ((rd_L1 l (i : Int)).length : Int)) (by omega) (by omega) (by omega) (fun j hj => by
          rcases Nat.lt_or_ge j i with h | h
          · exact hp j h
          · obtain rfl : j = i := by omega
            omega)
        refine ⟨r, ?_, h1, h2⟩
        refine Ev.step (fun k => by rw [laws_szHoistS.l0]) ?_
        refine pos (by omega) (pos (by omega) (bindc hs (neg (by omega) ?_)))
        rw [w64 (x := (i : Int) + 1) (by omega) (by omega)]; exact hr
  obtain ⟨r, hr, h1, h2⟩ := key l.length 0 (a - (l.length : Int)) (by omega) (by omega) (by omega) (fun j hj => by omega)
  refine ⟨r, neg h hr, h1, fun h0 => ⟨by omega, fun x hx => ?_⟩⟩
  obtain ⟨j, hj, rfl⟩ := List.getElem_of_mem hx
  have := h2 h0 j hj
  rwa [rdS_get l j hj] at this

theorem toHoistS_ev (l : List (List Int)) (hn : l.length ≤ 1048576) (hls : ∀ x ∈ l, x.length ≤ 1048576) : Ev (fun k => laws_toHoistS.f k l) l := by
  unfold laws_toHoistS.f
  refine pos (by omega) (pos (by omega) ?_)
  rw [Int.toNat_natCast]
  refine iter (F := fun k (s : List (List Int) × Int) => laws_toHoistS.l0 k l s.1 s.2) (fun i s => s.2 = (i : Int) ∧ s.1.length = l.length ∧ ∀ j, j < i → s.1[j]? = l[j]?) l l.length ?_ ?_ 0 (List.replicate l.length [], 0) (by omega) ⟨rfl, by simp, fun j hj => by omega⟩
  · rintro i ⟨s, x⟩ hi ⟨rfl, hl, hp⟩
    dsimp only at hl hp
    refine .inl ⟨(s.set i (rd_L1 l (i : Int)), ((i + 1 : Nat) : Int)), ⟨rfl, by simpa using hl, fun j hj => ?_⟩, fun hk => ?_⟩
    · dsimp only
      by_cases e : j = i
      · subst e; rw [List.getElem?_set_self (by omega), rdS_get l j hi, List.getElem?_eq_getElem hi]
      · rw [List.getElem?_set_ne (by omega)]; exact hp j (by omega)
    · refine Ev.step (fun k => by rw [laws_toHoistS.l0]) ?_
      dsimp only
      have hm : (rd_L1 l (i : Int)).length ≤ 1048576 := by rw [rdS_get l i hi]; exact hls _ (List.getElem_mem _)
      refine pos (by omega) (pos (by omega) (Ev.bind (toHoist_ev _ (by omega)) (pos (by omega) ?_)))
      rw [w64 (by omega) (by omega), Int.toNat_natCast]; exact hk
  · rintro ⟨s, x⟩ ⟨rfl, hl, hp⟩
    dsimp only at hl hp
    refine Ev.step (fun k => by rw [laws_toHoistS.l0]) ?_
    exact neg (by omega) (cons (toListS hl rfl hp))

theorem eqHoistS_ev (l l' : List (List Int)) (hn : l.length ≤ 1048576) (hls : ∀ x ∈ l, x.length ≤ 1048576) : Ev (fun k => laws_eqHoistS.f k l l') (decide (l = l')) := by
  unfold laws_eqHoistS.f
  by_cases h : (l.length : Int) = (l'.length : Int)
  · refine pos h ?_
    refine iter (F := fun k (s : Int) => laws_eqHoistS.l0 k l l' s) (fun i s => s = (i : Int) ∧ ∀ j, j < i → l[j]? = l'[j]?) _ l.length ?_ ?_ 0 0 (by omega) ⟨rfl, fun j hj => by omega⟩
    · rintro i s hi ⟨rfl, hp⟩
      have hm : (rd_L1 l (i : Int)).length ≤ 1048576 := by rw [rdS_get l i hi]; exact hls _ (List.getElem_mem _)
      have he := eqHoist_ev (rd_L1 l (i : Int)) (rd_L1 l' (i : Int)) (by omega)
      by_cases hc : rd_L1 l (i : Int) = rd_L1 l' (i : Int)
      · rw [decide_eq_true hc] at he
        refine .inl ⟨((i + 1 : Nat) : Int), ⟨rfl, fun j hj => ?_⟩, fun hk => ?_⟩
        · rcases Nat.lt_or_ge j i with h | h
          · exact hp j h
          · obtain rfl : j = i := by omega
            rw [rdS_get l j hi, rdS_get l' j (by omega)] at hc
            rw [List.getElem?_eq_getElem hi, List.getElem?_eq_getElem (by omega), hc]
        · refine Ev.step (fun k => by rw [laws_eqHoistS.l0]) ?_
          refine pos (by omega) (pos (by omega) (pos (by omega) (Ev.bind he (pos rfl ?_))))
          rw [w64 (by omega) (by omega)]; exact hk
      · rw [decide_eq_false hc] at he
        refine .inr ?_
        refine Ev.step (fun k => by rw [laws_eqHoistS.l0]) ?_
        refine pos (by omega) (pos (by omega) (pos (by omega) (Ev.bind he (neg (by decide) (cons ?_)))))
        symm; apply decide_eq_false
        intro e; exact hc (by rw [e])
    · rintro s ⟨rfl, hp⟩
      refine Ev.step (fun k => by rw [laws_eqHoistS.l0]) ?_
      refine neg (by omega) (cons ?_)
      exact (decide_eq_true (toListS rfl (by omega) hp)).symm
  · refine neg h (cons ?_)
    symm; apply decide_eq_false
    intro e; exact h (by rw [e])
theorem eqHoistS_refl (l : List (List Int)) (hn : l.length ≤ 1048576) (hls : ∀ x ∈ l, x.length ≤ 1048576) : Ev (fun k => laws_eqHoistS.f k l l) true := by
  have := eqHoistS_ev l l hn hls; simpa using this

theorem toHoist_calls (A0 : Option Addr) (c0 : Nat) (l : List Int) (w : World) (hr : Kd.C (Kd.int .i8) w A0 l.length l) (hc : l.length ≤ c0) (hn : l.length ≤ 1048576) :
    Calls Try.prog 26 #[.slice A0 l.length c0] w fun e w' => ∃ A c, e = .returned (.slice A l.length c) ∧ l.length ≤ c ∧ Kd.C (Kd.int .i8) w' A l.length l ∧ Below w.heap.size w w' := by
  obtain ⟨k, hk⟩ := (toHoist_ev l (by omega)).rounds
  refine (laws_toHoist.calls k A0 c0 l l w hr hc hk).mono ?_
  rintro e w' ⟨v, rfl, hR, hb⟩
  obtain ⟨A, c, rfl, h1, h2⟩ := Kd.R_reads hR
  exact ⟨A, c, rfl, h1, h2, hb⟩
theorem eqHoist_calls (A0 A1 : Option Addr) (c0 c1 : Nat) (l : List Int) (w : World) (hr : Kd.C (Kd.int .i8) w A0 l.length l) (hc : l.length ≤ c0) (hr1 : Kd.C (Kd.int .i8) w A1 l.length l) (hc1 : l.length ≤ c1) (hn : l.length ≤ 1048576) :
    Calls Try.prog 29 #[.slice A0 l.length c0, .slice A1 l.length c1] w fun e w' => e = .returned (.bool true) ∧ Below w.heap.size w w' := by
  obtain ⟨k, hk⟩ := (eqHoist_refl l (by omega)).rounds
  exact (laws_eqHoist.calls k A0 c0 l A1 c1 l true w hr hc hr1 hc1 hk).mono fun e w' ⟨h1, h2⟩ => ⟨h1, h2.below⟩
theorem toHoistS_calls (A0 : Option Addr) (c0 : Nat) (l : List (List Int)) (w : World) (hr : Kd.C (Kd.slice 90 (Kd.int .i8)) w A0 l.length l) (hc : l.length ≤ c0) (hn : l.length ≤ 1048576) (hls : ∀ x ∈ l, x.length ≤ 1048576) :
    Calls Try.prog 41 #[.slice A0 l.length c0] w fun e w' => ∃ A c, e = .returned (.slice A l.length c) ∧ l.length ≤ c ∧ Kd.C (Kd.slice 90 (Kd.int .i8)) w' A l.length l ∧ Below w.heap.size w w' := by
  obtain ⟨k, hk⟩ := (toHoistS_ev l hn hls).rounds
  refine (laws_toHoistS.calls k A0 c0 l l w hr hc hk).mono ?_
  rintro e w' ⟨v, rfl, hR, hb⟩
  obtain ⟨A, c, rfl, h1, h2⟩ := Kd.S_reads hR
  exact ⟨A, c, rfl, h1, h2, hb⟩
theorem eqHoistS_calls (A0 A1 : Option Addr) (c0 c1 : Nat) (l : List (List Int)) (w : World) (hr : Kd.C (Kd.slice 90 (Kd.int .i8)) w A0 l.length l) (hc : l.length ≤ c0) (hr1 : Kd.C (Kd.slice 90 (Kd.int .i8)) w A1 l.length l) (hc1 : l.length ≤ c1) (hn : l.length ≤ 1048576) (hls : ∀ x ∈ l, x.length ≤ 1048576) :
    Calls Try.prog 43 #[.slice A0 l.length c0, .slice A1 l.length c1] w fun e w' => e = .returned (.bool true) ∧ Below w.heap.size w w' := by
  obtain ⟨k, hk⟩ := (eqHoistS_refl l hn hls).rounds
  exact (laws_eqHoistS.calls k A0 c0 l A1 c1 l true w hr hc hr1 hc1 hk).mono fun e w' ⟨h1, h2⟩ => ⟨h1, h2.below⟩
end Go.Proofs.Ytmpkgdgbjhegnaa.Arr
