/- Both parts read a hoist as the plain lists tell. No condition beyond the list's length and its numbers' kind. -/
import Derived.Test.YtmpkgdgbjhegnaaU
import Derived.Test.YtmpkgdgbjhegnaaArr
import Derived.Test.YtmpkgdgbjhegnaaPBx1
import Derived.Test.YtmpkgdgbjhegnaaPBx2
import Derived.Test.YtmpkgdgbjhegnaaPBx3
import Derived.Test.YtmpkgdgbjhegnaaPBx1
import Derived.Test.YtmpkgdgbjhegnaaPBx2
namespace Go.Proofs.Ytmpkgdgbjhegnaa.Arr
open Go.RowKit Go.Proofs.Ytmpkgdgbjhegnaa.B Go.Proofs.Ytmpkgdgbjhegnaa.U Go.Proofs.YtmpkgdgbjhegnaaW.PrintLast Go.Proofs.YtmpkgdgbjhegnaaW.PrintWords
set_option linter.unusedVariables false
set_option linter.unusedSimpArgs false

theorem eqHoist_l0 (l l' : List Int) (hl : l.length = l'.length) (hn : l.length ≤ 9223372036854775806) : ∀ (d i : Nat), i + d = l.length → (∀ j, j < i → l[j]? = l'[j]?) →
    Ev (fun k => laws_eqHoist.l0 k l l' (i : Int)) (decide (l = l')) := by
  intro d
  induction d with
  | zero =>
    intro i hi hp
    refine Ev.step (f := fun _ => some true) (fun k => by simp only [laws_eqHoist.l0]; rw [if_neg (by omega)]) (cons ?_)
    symm; apply decide_eq_true
    apply List.ext_getElem? 
    intro j
    rcases Nat.lt_or_ge j i with h | h
    · exact hp j h
    · rw [List.getElem?_eq_none (by omega), List.getElem?_eq_none (by omega)]
  | succ d ih =>
    intro i hi hp
    by_cases he : rd l i = rd l' i
    · refine Ev.step (f := fun k => laws_eqHoist.l0 k l l' ((i + 1 : Nat) : Int)) (fun k => ?_) (ih (i + 1) (by omega) ?_)
      · simp only [laws_eqHoist.l0]; rw [if_pos (by omega), if_pos (by omega), if_pos (by omega), if_pos he, w64 (by omega) (by omega)]; rfl
      · intro j hj
        rcases Nat.lt_or_ge j i with h | h
        · exact hp j h
        · obtain rfl : j = i := by omega
          rw [rd_get l j (by omega), rd_get l' j (by omega)] at he
          rw [List.getElem?_eq_getElem (by omega), List.getElem?_eq_getElem (by omega), he]
    · refine Ev.step (f := fun _ => some false) (fun k => ?_) (cons ?_)
      · simp only [laws_eqHoist.l0]; rw [if_pos (by omega), if_pos (by omega), if_pos (by omega), if_neg he]
      · symm; apply decide_eq_false
        intro e; exact he (by rw [e])

theorem eqHoist_ev (l l' : List Int) (hn : l.length ≤ 9223372036854775806) : Ev (fun k => laws_eqHoist.f k l l') (decide (l = l')) := by
  unfold laws_eqHoist.f
  by_cases h : (l.length : Int) = (l'.length : Int)
  · exact pos h (eqHoist_l0 l l' (by omega) hn l.length 0 (by omega) (fun j hj => by omega))
  · refine neg h (cons ?_)
    symm; apply decide_eq_false
    intro e; exact h (by rw [e])
theorem eqHoist_refl (l : List Int) (hn : l.length ≤ 9223372036854775806) : Ev (fun k => laws_eqHoist.f k l l) true := by
  have := eqHoist_ev l l hn; simpa using this

theorem toHoist_ev (l : List Int) (hn : l.length ≤ 140737488351232) : Ev (fun k => laws_toHoist.f k l) l := by
  unfold laws_toHoist.f
  refine pos (by omega) (pos (by omega) ?_)
  rw [Int.toNat_natCast]
  refine iter (F := fun k (s : List Int × Int) => laws_toHoist.l0 k l s.1 s.2) (fun i s => s.2 = (i : Int) ∧ s.1.length = l.length ∧ ∀ j, j < i → s.1[j]? = l[j]?) l l.length ?_ ?_ 0 (List.replicate l.length 0, 0) (by omega) ⟨rfl, by simp, fun j hj => by omega⟩
  · rintro i ⟨s, x⟩ hi ⟨rfl, hl, hp⟩
    dsimp only at hl hp
    refine .inl ⟨(s.set i (rd l (i : Int)), ((i + 1 : Nat) : Int)), ⟨rfl, by simpa using hl, fun j hj => ?_⟩, Ev.step fun k => ?_⟩
    · dsimp only
      by_cases e : j = i
      · subst e; rw [List.getElem?_set_self (by omega), rd_get l j hi, List.getElem?_eq_getElem hi]
      · rw [List.getElem?_set_ne (by omega)]; exact hp j (by omega)
    · simp only [laws_toHoist.l0]
      rw [if_pos (by omega), if_pos (by omega), if_pos (by omega), w64 (by omega) (by omega), Int.toNat_natCast]; rfl
  · rintro ⟨s, x⟩ ⟨rfl, hl, hp⟩
    dsimp only at hl hp
    refine Ev.step (f := fun _ => some s) (fun k => ?_) (cons (toList hl rfl hp))
    simp only [laws_toHoist.l0]; rw [if_neg (by omega)]

theorem rdS_get (xs : List (List Int)) (i : Nat) (h : i < xs.length) : rd_L1 xs (i : Int) = xs[i] := by
  simp [rd_L1, List.getElem?_eq_getElem h]
theorem toListS {l l' : List (List Int)} {n : Nat} (h1 : l.length = n) (h2 : l'.length = n) (h : ∀ j, j < n → l[j]? = l'[j]?) : l = l' := by
  apply List.ext_getElem?
  intro j
  rcases Nat.lt_or_ge j n with hj | hj
  · exact h j hj
  · rw [List.getElem?_eq_none (by omega), List.getElem?_eq_none (by omega)]

theorem szHoist_ev (l : List Int) (a : Int) (ha : 0 ≤ a ∧ a ≤ 1048576) (hl : l.length ≤ maxLen) : laws_szHoist.f l a = some (if a < (l.length : Int) then -1 else a - l.length) := by
  unfold laws_szHoist.f
  unfold maxLen at hl
  rw [w64 (by omega) (by omega)]
  by_cases h : a < (l.length : Int)
  · rw [if_pos (by omega), if_pos h]
  · rw [if_neg (by omega), if_neg h]
/-- What is left of a bound; -1 where it does not suffice. -/
theorem szHoistS_ev (l : List (List Int)) (a : Int) (ha : 0 ≤ a ∧ a ≤ 1048576) (hl : l.length ≤ maxLen) (hls : ∀ x ∈ l, x.length ≤ maxLen) :
    ∃ r, Ev (fun k => laws_szHoistS.f k l a) r ∧ r ≤ a ∧ (0 ≤ r → (l.length : Int) ≤ a ∧ ∀ x ∈ l, (x.length : Int) ≤ a) := by
  unfold laws_szHoistS.f
  have hl2 := hl
  unfold maxLen at hl2
  rw [w64 (x := a - (l.length : Int)) (by omega) (by omega)]
  by_cases h : a - (l.length : Int) < 0
  · exact ⟨-1, pos h (cons rfl), by omega, fun h => by omega⟩
  have key : ∀ (d i : Nat) (b : Int), i + d = l.length → 0 ≤ b → b ≤ a → (∀ j : Nat, j < i → ((rd_L1 l (j : Int)).length : Int) ≤ a) →
      ∃ r, Ev (fun k => laws_szHoistS.l0 k l b (i : Int)) r ∧ r ≤ a ∧ (0 ≤ r → ∀ j : Nat, j < l.length → ((rd_L1 l (j : Int)).length : Int) ≤ a) := by
    intro d
    induction d with
    | zero =>
      intro i b hi hb0 hb1 hp
      refine ⟨b, ?_, hb1, fun _ j hj => hp j (by omega)⟩
      refine Ev.step (fun k => by rw [laws_szHoistS.l0]) ?_
      exact neg (by omega) (Ev.now _)
    | succ d ih =>
      intro i b hi hb0 hb1 hp
      have hm : (rd_L1 l (i : Int)).length ≤ maxLen := by rw [rdS_get l i (by omega)]; exact hls _ (List.getElem_mem _)
      have hs := szHoist_ev (rd_L1 l (i : Int)) b ⟨hb0, by omega⟩ hm
      by_cases hc : b < ((rd_L1 l (i : Int)).length : Int)
      · rw [if_pos hc] at hs
        refine ⟨-1, ?_, by omega, fun h => by omega⟩
        refine Ev.step (fun k => by rw [laws_szHoistS.l0]) ?_
        exact pos (by omega) (pos (by omega) (bindc hs (pos (by omega) (cons rfl))))
      · rw [if_neg hc] at hs
        obtain ⟨r, hr, h1, h2⟩ := ih (i + 1) (b - ((rd_L1 l (i : Int)).length : Int)) (by omega) (by omega) (by omega) (fun j hj => by
          rcases Nat.lt_or_ge j i with h | h
          · exact hp j h
          · obtain rfl : j = i := by omega
            omega)
        refine ⟨r, ?_, h1, h2⟩
        refine Ev.step (fun k => by rw [laws_szHoistS.l0]) ?_
        refine pos (by omega) (pos (by omega) (bindc hs (neg (by omega) ?_)))
        rw [w64 (x := (i : Int) + 1) (by omega) (by omega)]; exact hr
  obtain ⟨r, hr, h1, h2⟩ := key l.length 0 (a - (l.length : Int)) (by omega) (by omega) (by omega) (fun j hj => by omega)
  refine ⟨r, neg h hr, h1, fun h0 => ⟨by omega, fun x hx => ?_⟩⟩
  obtain ⟨j, hj, rfl⟩ := List.getElem_of_mem hx
  have := h2 h0 j hj
  rwa [rdS_get l j hj] at this

theorem toHoistS_ev (l : List (List Int)) (hn : l.length ≤ 1048576) (hls : ∀ x ∈ l, x.length ≤ 1048576) : Ev (fun k => laws_toHoistS.f k l) l := by
  unfold laws_toHoistS.f
  refine pos (by omega) (pos (by omega) ?_)
  rw [Int.toNat_natCast]
  refine iter (F := fun k (s : List (List Int) × Int) => laws_toHoistS.l0 k l s.1 s.2) (fun i s => s.2 = (i : Int) ∧ s.1.length = l.length ∧ ∀ j, j < i → s.1[j]? = l[j]?) l l.length ?_ ?_ 0 (List.replicate l.length [], 0) (by omega) ⟨rfl, by simp, fun j hj => by omega⟩
  · rintro i ⟨s, x⟩ hi ⟨rfl, hl, hp⟩
    dsimp only at hl hp
    refine .inl ⟨(s.set i (rd_L1 l (i : Int)), ((i + 1 : Nat) : Int)), ⟨rfl, by simpa using hl, fun j hj => ?_⟩, fun hk => ?_⟩
    · dsimp only
      by_cases e : j = i
      · subst e; rw [List.getElem?_set_self (by omega), rdS_get l j hi, List.getElem?_eq_getElem hi]
      · rw [List.getElem?_set_ne (by omega)]; exact hp j (by omega)
    · refine Ev.step (fun k => by rw [laws_toHoistS.l0]) ?_
      dsimp only
      have hm : (rd_L1 l (i : Int)).length ≤ 1048576 := by rw [rdS_get l i hi]; exact hls _ (List.getElem_mem _)
      refine pos (by omega) (pos (by omega) (Ev.bind (toHoist_ev _ (by omega)) (pos (by omega) ?_)))
      rw [w64 (by omega) (by omega), Int.toNat_natCast]; exact hk
  · rintro ⟨s, x⟩ ⟨rfl, hl, hp⟩
    dsimp only at hl hp
    refine Ev.step (fun k => by rw [laws_toHoistS.l0]) ?_
    exact neg (by omega) (cons (toListS hl rfl hp))

theorem eqHoistS_ev (l l' : List (List Int)) (hn : l.length ≤ 1048576) (hls : ∀ x ∈ l, x.length ≤ 1048576) : Ev (fun k => laws_eqHoistS.f k l l') (decide (l = l')) := by
  unfold laws_eqHoistS.f
  by_cases h : (l.length : Int) = (l'.length : Int)
  · refine pos h ?_
    refine iter (F := fun k (s : Int) => laws_eqHoistS.l0 k l l' s) (fun i s => s = (i : Int) ∧ ∀ j, j < i → l[j]? = l'[j]?) _ l.length ?_ ?_ 0 0 (by omega) ⟨rfl, fun j hj => by omega⟩
    · rintro i s hi ⟨rfl, hp⟩
      have hm : (rd_L1 l (i : Int)).length ≤ 1048576 := by rw [rdS_get l i hi]; exact hls _ (List.getElem_mem _)
      have he := eqHoist_ev (rd_L1 l (i : Int)) (rd_L1 l' (i : Int)) (by omega)
      by_cases hc : rd_L1 l (i : Int) = rd_L1 l' (i : Int)
      · rw [decide_eq_true hc] at he
        refine .inl ⟨((i + 1 : Nat) : Int), ⟨rfl, fun j hj => ?_⟩, fun hk => ?_⟩
        · rcases Nat.lt_or_ge j i with h | h
          · exact hp j h
          · obtain rfl : j = i := by omega
            rw [rdS_get l j hi, rdS_get l' j (by omega)] at hc
            rw [List.getElem?_eq_getElem hi, List.getElem?_eq_getElem (by omega), hc]
        · refine Ev.step (fun k => by rw [laws_eqHoistS.l0]) ?_
          refine pos (by omega) (pos (by omega) (pos (by omega) (Ev.bind he (pos rfl ?_))))
          rw [w64 (by omega) (by omega)]; exact hk
      · rw [decide_eq_false hc] at he
        refine .inr ?_
        refine Ev.step (fun k => by rw [laws_eqHoistS.l0]) ?_
        refine pos (by omega) (pos (by omega) (pos (by omega) (Ev.bind he (neg (by decide) (cons ?_)))))
        symm; apply decide_eq_false
        intro e; exact hc (by rw [e])
    · rintro s ⟨rfl, hp⟩
      refine Ev.step (fun k => by rw [laws_eqHoistS.l0]) ?_
      refine neg (by omega) (cons ?_)
      exact (decide_eq_true (toListS rfl (by omega) hp)).symm
  · refine neg h (cons ?_)
    symm; apply decide_eq_false
    intro e; exact h (by rw [e])
theorem eqHoistS_refl (l : List (List Int)) (hn : l.length ≤ 1048576) (hls : ∀ x ∈ l, x.length ≤ 1048576) : Ev (fun k => laws_eqHoistS.f k l l) true := by
  have := eqHoistS_ev l l hn hls; simpa using this

theorem toHoist_calls (A0 : Option Addr) (c0 : Nat) (l : List Int) (w : World) (hr : Kd.C (Kd.int .i8) w A0 l.length l) (hc : l.length ≤ c0) (hn : l.length ≤ 1048576) :
    Calls Try.prog 26 #[.slice A0 l.length c0] w fun e w' => ∃ A c, e = .returned (.slice A l.length c) ∧ l.length ≤ c ∧ Kd.C (Kd.int .i8) w' A l.length l ∧ Below w.heap.size w w' := by
  obtain ⟨k, hk⟩ := (toHoist_ev l (by omega)).rounds
  refine (laws_toHoist.calls k A0 c0 l l w hr hc hk).mono ?_
  rintro e w' ⟨v, rfl, hR, hb⟩
  obtain ⟨A, c, rfl, h1, h2⟩ := Kd.R_reads hR
  exact ⟨A, c, rfl, h1, h2, hb⟩
theorem eqHoist_calls (A0 A1 : Option Addr) (c0 c1 : Nat) (l : List Int) (w : World) (hr : Kd.C (Kd.int .i8) w A0 l.length l) (hc : l.length ≤ c0) (hr1 : Kd.C (Kd.int .i8) w A1 l.length l) (hc1 : l.length ≤ c1) (hn : l.length ≤ 1048576) :
    Calls Try.prog 29 #[.slice A0 l.length c0, .slice A1 l.length c1] w fun e w' => e = .returned (.bool true) ∧ Below w.heap.size w w' := by
  obtain ⟨k, hk⟩ := (eqHoist_refl l (by omega)).rounds
  exact (laws_eqHoist.calls k A0 c0 l A1 c1 l true w hr hc hr1 hc1 hk).mono fun e w' ⟨h1, h2⟩ => ⟨h1, h2.below⟩
theorem toHoistS_calls (A0 : Option Addr) (c0 : Nat) (l : List (List Int)) (w : World) (hr : Kd.C (Kd.slice 90 (Kd.int .i8)) w A0 l.length l) (hc : l.length ≤ c0) (hn : l.length ≤ 1048576) (hls : ∀ x ∈ l, x.length ≤ 1048576) :
    Calls Try.prog 41 #[.slice A0 l.length c0] w fun e w' => ∃ A c, e = .returned (.slice A l.length c) ∧ l.length ≤ c ∧ Kd.C (Kd.slice 90 (Kd.int .i8)) w' A l.length l ∧ Below w.heap.size w w' := by
  obtain ⟨k, hk⟩ := (toHoistS_ev l hn hls).rounds
  refine (laws_toHoistS.calls k A0 c0 l l w hr hc hk).mono ?_
  rintro e w' ⟨v, rfl, hR, hb⟩
  obtain ⟨A, c, rfl, h1, h2⟩ := Kd.S_reads hR
  exact ⟨A, c, rfl, h1, h2, hb⟩
theorem eqHoistS_calls (A0 A1 : Option Addr) (c0 c1 : Nat) (l : List (List Int)) (w : World) (hr : Kd.C (Kd.slice 90 (Kd.int .i8)) w A0 l.length l) (hc : l.length ≤ c0) (hr1 : Kd.C (Kd.slice 90 (Kd.int .i8)) w A1 l.length l) (hc1 : l.length ≤ c1) (hn : l.length ≤ 1048576) (hls : ∀ x ∈ l, x.length ≤ 1048576) :
    Calls Try.prog 43 #[.slice A0 l.length c0, .slice A1 l.length c1] w fun e w' => e = .returned (.bool true) ∧ Below w.heap.size w w' := by
  obtain ⟨k, hk⟩ := (eqHoistS_refl l hn hls).rounds
  exact (laws_eqHoistS.calls k A0 c0 l A1 c1 l true w hr hc hr1 hc1 hk).mono fun e w' ⟨h1, h2⟩ => ⟨h1, h2.below⟩
/-- One number more: what is read so far, and where the group begins. -/
def stepH (st : List Int × Nat) (x : Int) : Option (List Int × Nat) :=
  if x = -10 then (if st.2 = st.1.length then none else some (st.1 ++ [x], st.1.length + 1))
  else if 0 ≤ x ∧ x ≤ 39 then some (st.1 ++ [x], st.2)
  else if -4 ≤ x ∧ x ≤ -1 then (if (st.2 : Int) + -x - 1 < st.1.length then some (st.1 ++ [rd st.1 ((st.2 : Int) + -x - 1)], st.2) else none)
  else none
def runH (h : List Int) : Nat → Option (List Int × Nat)
  | 0 => some ([], 0)
  | i + 1 => (runH h i).bind fun st => stepH st (rd h (i : Int))
/-- What a list means, if it is a hoist. -/
def readH (h : List Int) : Option (List Int) :=
  if 1 ≤ h.length ∧ h.length ≤ 8 then (match runH h h.length with | some (o, s) => if s < o.length then some o else none | none => none) else none
def okH (h : List Int) : Bool := (readH h).isSome
theorem runH_none {h : List Int} {i : Nat} (hi : runH h i = none) : ∀ n, i ≤ n → runH h n = none
  | 0, hn => by obtain rfl : i = 0 := by omega
                exact hi
  | n + 1, hn => by
    rcases Nat.lt_or_ge i (n + 1) with h1 | h1
    · rw [runH, runH_none hi n (by omega)]; rfl
    · obtain rfl : i = n + 1 := by omega
      exact hi
/-- What holds of what is read. -/
structure GoodH (h : List Int) (i : Nat) (o : List Int) (s : Nat) : Prop where
  len : o.length = i
  le : s ≤ i
  kind : ∀ j : Nat, s ≤ j → j < i → 0 ≤ rd o (j : Int) ∧ rd o (j : Int) ≤ 39
  old : ∀ j : Nat, j < i → rd h (j : Int) = -10 ∨ (0 ≤ rd h (j : Int) ∧ rd h (j : Int) ≤ 39) ∨ (-4 ≤ rd h (j : Int) ∧ rd h (j : Int) ≤ -1)
theorem rd_app_left (l m : List Int) (j : Nat) (hj : j < l.length) : rd (l ++ m) (j : Int) = rd l (j : Int) := by
  rw [rd_get l j hj, rd_get _ j (by simp; omega), List.getElem_append_left hj]
theorem rd_app_end (l : List Int) (x : Int) : rd (l ++ [x]) (l.length : Int) = x := by
  rw [rd_get _ l.length (by simp)]
  simp
theorem runH_good {h : List Int} : ∀ (i : Nat) (o : List Int) (s : Nat), runH h i = some (o, s) → GoodH h i o s
  | 0, o, s, e => by
    simp only [runH, Option.some.injEq, Prod.mk.injEq] at e
    obtain ⟨rfl, rfl⟩ := e
    exact ⟨rfl, Nat.le_refl _, fun j _ hj => absurd hj (by omega), fun j hj => absurd hj (by omega)⟩
  | i + 1, o, s, e => by
    rw [runH] at e
    cases hr : runH h i with
    | none => rw [hr] at e; cases e
    | some st =>
      obtain ⟨o1, s1⟩ := st
      rw [hr, Option.bind_some] at e
      have g := runH_good i o1 s1 hr
      unfold stepH at e
      dsimp only at e
      have app : ∀ y : Int, GoodH h i o1 s1 → 0 ≤ y ∧ y ≤ 39 → (rd h (i : Int) = -10 ∨ (0 ≤ rd h (i : Int) ∧ rd h (i : Int) ≤ 39) ∨ (-4 ≤ rd h (i : Int) ∧ rd h (i : Int) ≤ -1)) → GoodH h (i + 1) (o1 ++ [y]) s1 := fun y g hy ho =>
        ⟨by simp [g.len], by have := g.le; omega, fun j h1 h2 => by
          rcases Nat.lt_or_ge j i with hj | hj
          · rw [rd_app_left _ _ j (by rw [g.len]; exact hj)]; exact g.kind j h1 hj
          · obtain rfl : j = o1.length := by rw [g.len]; omega
            rw [rd_app_end]; exact hy, fun j hj => by
          rcases Nat.lt_or_ge j i with h3 | h3
          · exact g.old j h3
          · obtain rfl : j = i := by omega
            exact ho⟩
      split at e
      · rename_i hx
        split at e
        · cases e
        · simp only [Option.some.injEq, Prod.mk.injEq] at e
          obtain ⟨rfl, rfl⟩ := e
          exact ⟨by simp [g.len], by rw [g.len]; exact Nat.le_refl _, fun j h1 h2 => by rw [g.len] at h1; omega, fun j hj => by
            rcases Nat.lt_or_ge j i with h3 | h3
            · exact g.old j h3
            · obtain rfl : j = i := by omega
              exact Or.inl hx⟩
      · split at e
        · rename_i hx
          simp only [Option.some.injEq, Prod.mk.injEq] at e
          obtain ⟨rfl, rfl⟩ := e
          exact app _ g hx (Or.inr (Or.inl hx))
        · split at e
          · rename_i hx
            split at e
            · rename_i hat
              simp only [Option.some.injEq, Prod.mk.injEq] at e
              obtain ⟨rfl, rfl⟩ := e
              have hk := g.kind ((s1 : Int) + -rd h (i : Int) - 1).toNat (by omega) (by have := g.len; omega)
              rw [Int.toNat_of_nonneg (by omega)] at hk
              exact app _ g hk (Or.inr (Or.inr hx))
            · cases e
          · cases e
theorem okH_len {h : List Int} (hk : okH h = true) : 1 ≤ h.length ∧ h.length ≤ 8 := by
  unfold okH readH at hk
  split at hk
  · assumption
  · cases hk
/-- The numbers of a hoist. -/
theorem okH_num {h : List Int} (hk : okH h = true) : ∀ x ∈ h, x = -10 ∨ (0 ≤ x ∧ x ≤ 39) ∨ (-4 ≤ x ∧ x ≤ -1) := by
  intro x hx
  obtain ⟨j, hj, rfl⟩ := List.getElem_of_mem hx
  unfold okH readH at hk
  split at hk
  · cases hr : runH h h.length with
    | none => rw [hr] at hk; cases hk
    | some st =>
      obtain ⟨o, s⟩ := st
      have := (runH_good _ _ _ hr).old j hj
      rwa [rd_get h j hj] at this
  · cases hk
theorem in_ev' (a b c : Int) : spec_l00In.f a b c = some (decide (b ≤ a ∧ a ≤ c)) := by
  unfold spec_l00In.f
  by_cases h : b ≤ a
  · rw [if_pos h]; simp [h]
  · rw [if_neg h, decide_eq_false (fun e => h e.1)]
theorem within_ev' (a b c : Int) : impl_within.f a b c = some (decide (b ≤ a ∧ a ≤ c)) := by
  unfold impl_within.f
  by_cases h : b ≤ a
  · rw [if_pos h]; simp [h]
  · rw [if_neg h, decide_eq_false (fun e => h e.1)]
theorem isKind_ev' (a : Int) (h0 : -128 ≤ a) (h1 : a ≤ 127) : impl_isKind.f a = some (decide (0 ≤ a ∧ a ≤ 39)) := by
  unfold impl_isKind.f
  rw [within_ev', w64 (by omega) (by omega)]; rfl
theorem i8w {x : Int} (h0 : -128 ≤ x) (h1 : x ≤ 127) : IntKind.i8.wrap x = x := by
  unfold IntKind.wrap
  simp only [IntKind.signed, IntKind.bits]
  simp
  omega
theorem readH_none {h : List Int} {i : Nat} (hi : i ≤ h.length) (hr : runH h i = none) : readH h = none := by
  unfold readH
  rw [runH_none hr h.length hi]
  split <;> rfl

theorem l02Read_ev (h : List Int) (hn : h.length ≤ 100000000) (hb : ∀ x ∈ h, -128 ≤ x ∧ x ≤ 127) : Ev (fun k => spec_l02Read.f k h) (match readH h with | some o => (o, true) | none => ([], false)) := by
  unfold spec_l02Read.f
  refine bindc (in_ev' _ _ _) ?_
  by_cases hl : 1 ≤ h.length ∧ h.length ≤ 8
  · refine pos (by simpa using (show 1 ≤ (h.length : Int) ∧ (h.length : Int) ≤ 8 by omega)) ?_
    refine iter (F := fun k (s : List Int × Int × Int) => spec_l02Read.l0 k h (h.length : Int) s.1 s.2.1 s.2.2) (fun i s => ∃ st : Nat, s = (s.1, (st : Int), (i : Int)) ∧ runH h i = some (s.1, st) ∧ (i = h.length → st < i)) _ h.length ?_ ?_ 0 ([], 0, 0) (by omega) ⟨0, rfl, rfl, fun e => by omega⟩
    · rintro i ⟨o, a, b⟩ hi ⟨st, e, hr, hlast⟩
      injection e with _ e
      injection e with e1 e2
      subst e1 e2
      dsimp only at hr
      have g := runH_good _ _ _ hr
      have hgl := g.len
      have hgs := g.le
      have hx := hb _ (by rw [rd_get h i hi]; exact List.getElem_mem hi : rd h (i : Int) ∈ h)
      have hnext : runH h (i + 1) = stepH (o, st) (rd h (i : Int)) := by rw [runH, hr]; rfl
      dsimp only at hnext ⊢
      generalize hX : rd h (i : Int) = x at *
      have fail : stepH (o, st) x = none → readH h = none := fun e => readH_none (i := i + 1) (by omega) (hnext.trans e)
      by_cases h10 : x = -10
      · by_cases hst : (i : Int) = (st : Int)
        · refine .inr (Ev.step (f := fun _ => some ([], false)) (fun k => ?_) (cons ?_))
          · simp only [spec_l02Read.l0, hX]
            rw [if_pos (by omega), if_pos (by omega), if_pos (by omega), if_pos h10, if_pos hst]
          · rw [fail (by unfold stepH; rw [if_pos h10, if_pos (by dsimp only; omega)])]
        · by_cases hla : i + 1 = h.length
          · refine .inr (Ev.step (f := fun _ => some ([], false)) (fun k => ?_) (cons ?_))
            · simp only [spec_l02Read.l0, hX]
              rw [if_pos (by omega), if_pos (by omega), if_pos (by omega), if_pos h10, if_neg hst, w64 (by omega) (by omega), if_pos (by omega)]
            · have : readH h = none := by
                unfold readH
                rw [if_pos hl, ← hla, hnext]
                unfold stepH
                rw [if_pos h10, if_neg (by dsimp only; omega)]
                simp
              rw [this]
          · refine .inl ⟨(o ++ [x], ((o.length + 1 : Nat) : Int), ((i + 1 : Nat) : Int)), ⟨o.length + 1, rfl, by rw [hnext]; unfold stepH; rw [if_pos h10, if_neg (by dsimp only; omega)], fun e => by omega⟩, Ev.step fun k => ?_⟩
            simp only [spec_l02Read.l0, hX]
            rw [if_pos (by omega), if_pos (by omega), if_pos (by omega), if_pos h10, if_neg hst, w64 (by omega) (by omega), if_neg (by omega), if_pos (by omega), w64 (by omega) (by omega)]
            rw [show ((o.length + 1 : Nat) : Int) = (i : Int) + 1 by omega, show ((i + 1 : Nat) : Int) = (i : Int) + 1 by omega]
      · by_cases hk : 0 ≤ x ∧ x ≤ 39
        · refine .inl ⟨(o ++ [x], (st : Int), ((i + 1 : Nat) : Int)), ⟨st, rfl, by rw [hnext]; unfold stepH; rw [if_neg h10, if_pos hk], fun e => by omega⟩, fun hgo => ?_⟩
          refine Ev.step (f := fun k => spec_l02Read.j1 k h (h.length : Int) o (st : Int) (i : Int) x true) (fun k => ?_) ?_
          · simp only [spec_l02Read.l0, hX]
            rw [if_pos (by omega), if_pos (by omega), if_pos (by omega), if_neg h10, if_pos (by omega), decide_eq_true (by omega)]
          · refine Ev.step (fun k => ?_) hgo
            simp only [spec_l02Read.j1]
            rw [if_pos trivial, if_pos (by omega), w64 (by omega) (by omega), show ((i + 1 : Nat) : Int) = (i : Int) + 1 by omega]
        · by_cases hs : -4 ≤ x ∧ x ≤ -1
          · have hw : wrap64 (wrap64 ((st : Int) + wrap64 (IntKind.i8.wrap (-x))) - 1) = (st : Int) + -x - 1 := by
              rw [i8w (by omega) (by omega), w64 (x := -x) (by omega) (by omega), w64 (x := (st : Int) + -x) (by omega) (by omega), w64 (by omega) (by omega)]
            by_cases hat : (st : Int) + -x - 1 < o.length
            · refine .inl ⟨(o ++ [rd o ((st : Int) + -x - 1)], (st : Int), ((i + 1 : Nat) : Int)), ⟨st, rfl, by rw [hnext]; unfold stepH; rw [if_neg h10, if_neg hk, if_pos hs, if_pos hat], fun e => by omega⟩, fun hgo => ?_⟩
              refine Ev.step (f := fun k => spec_l02Read.j1 k h (h.length : Int) o (st : Int) (i : Int) x false) (fun k => ?_) ?_
              · simp only [spec_l02Read.l0, hX]
                rw [if_pos (by omega), if_pos (by omega), if_pos (by omega), if_neg h10, if_neg (by omega)]
              · refine Ev.step (f := fun k => spec_l02Read.j2 k h (h.length : Int) o (st : Int) (i : Int) x true) (fun k => ?_) ?_
                · simp only [spec_l02Read.j1]
                  rw [if_neg (by simp), if_pos (by omega), decide_eq_true (by omega)]
                · refine Ev.step (fun k => ?_) hgo
                  simp only [spec_l02Read.j2, hw]
                  rw [if_pos trivial, if_neg (by omega), if_pos (by omega), if_pos hat, if_pos (by omega), w64 (by omega) (by omega), show ((i + 1 : Nat) : Int) = (i : Int) + 1 by omega]
            · refine .inr ?_
              rw [fail (by unfold stepH; rw [if_neg h10, if_neg hk, if_pos hs, if_neg hat])]
              refine Ev.step (f := fun k => spec_l02Read.j1 k h (h.length : Int) o (st : Int) (i : Int) x false) (fun k => ?_) ?_
              · simp only [spec_l02Read.l0, hX]
                rw [if_pos (by omega), if_pos (by omega), if_pos (by omega), if_neg h10, if_neg (by omega)]
              · refine Ev.step (f := fun k => spec_l02Read.j2 k h (h.length : Int) o (st : Int) (i : Int) x true) (fun k => ?_) ?_
                · simp only [spec_l02Read.j1]
                  rw [if_neg (by simp), if_pos (by omega), decide_eq_true (by omega)]
                · refine Ev.step (f := fun _ => some ([], false)) (fun k => ?_) (Ev.now _)
                  simp only [spec_l02Read.j2, hw]
                  rw [if_pos trivial, if_pos (by omega)]
          · refine .inr ?_
            rw [fail (by unfold stepH; rw [if_neg h10, if_neg hk, if_neg hs])]
            refine Ev.step (f := fun k => spec_l02Read.j1 k h (h.length : Int) o (st : Int) (i : Int) x false) (fun k => ?_) ?_
            · simp only [spec_l02Read.l0, hX]
              rw [if_pos (by omega), if_pos (by omega), if_pos (by omega), if_neg h10]
              by_cases h0 : 0 ≤ x
              · rw [if_pos h0, decide_eq_false (by omega)]
              · rw [if_neg (by omega)]
            · refine Ev.step (f := fun k => spec_l02Read.j2 k h (h.length : Int) o (st : Int) (i : Int) x false) (fun k => ?_) ?_
              · simp only [spec_l02Read.j1]
                rw [if_neg (by simp)]
                by_cases h0 : x < 0
                · rw [if_pos h0, decide_eq_false (by omega)]
                · rw [if_neg h0]
              · refine Ev.step (f := fun _ => some ([], false)) (fun k => ?_) (Ev.now _)
                simp only [spec_l02Read.j2]
                rw [if_neg (by simp)]
    · rintro ⟨o, a, b⟩ ⟨st, e, hr, hlast⟩
      injection e with _ e
      injection e with e1 e2
      subst e1 e2
      dsimp only at hr
      have g := runH_good _ _ _ hr
      have hgl := g.len
      have hst := hlast rfl
      refine Ev.step (f := fun _ => some (o, true)) (fun k => ?_) (cons ?_)
      · simp only [spec_l02Read.l0]
        rw [if_neg (by omega)]
      · have : readH h = some o := by
          unfold readH
          rw [if_pos hl, hr]
          dsimp only
          rw [if_pos (by omega)]
        rw [this]
  · refine neg (by simpa using (show ¬ (1 ≤ (h.length : Int) ∧ (h.length : Int) ≤ 8) by omega)) (cons ?_)
    unfold readH
    rw [if_neg hl]
theorem okH_none {h : List Int} {i : Nat} (hi : i ≤ h.length) (hr : runH h i = none) : okH h = false := by
  unfold okH; rw [readH_none hi hr]; rfl
/-- What the program's reading answers. -/
def implRead (h : List Int) : List Int × Bool := match runH h h.length with | some (o, _) => (o, okH h) | none => ([], false)
theorem implRead_snd (h : List Int) : (implRead h).2 = okH h := by
  unfold implRead
  cases hr : runH h h.length with
  | none => exact (okH_none (Nat.le_refl _) hr).symm
  | some st => rfl
theorem implRead_fst {h : List Int} (hk : okH h = true) : readH h = some (implRead h).1 := by
  unfold okH readH at hk
  unfold implRead readH
  split at hk
  · rename_i hl
    rw [if_pos hl]
    cases hr : runH h h.length with
    | none => rw [hr] at hk; cases hk
    | some st =>
      obtain ⟨o, s⟩ := st
      rw [hr] at hk
      dsimp only at hk ⊢
      split at hk
      · rename_i h2; rw [if_pos h2]
      · cases hk
  · cases hk
theorem meaning_ev (h : List Int) (hn : h.length ≤ 100000000) (hb : ∀ x ∈ h, -128 ≤ x ∧ x ≤ 127) : Ev (fun k => impl_Hoist_meaning.f k h) (implRead h) := by
  unfold impl_Hoist_meaning.f
  refine iter (F := fun k (s : List Int × Int × Int) => impl_Hoist_meaning.l0 k h s.1 s.2.1 h (h.length : Int) s.2.2) (fun i s => ∃ st : Nat, s = (s.1, (st : Int), (i : Int)) ∧ runH h i = some (s.1, st)) _ h.length ?_ ?_ 0 ([], 0, 0) (by omega) ⟨0, rfl, rfl⟩
  · rintro i ⟨o, a, b⟩ hi ⟨st, e, hr⟩
    injection e with _ e
    injection e with e1 e2
    subst e1 e2
    dsimp only at hr
    have g := runH_good _ _ _ hr
    have hgl := g.len
    have hgs := g.le
    have hx := hb _ (by rw [rd_get h i hi]; exact List.getElem_mem hi : rd h (i : Int) ∈ h)
    have hnext : runH h (i + 1) = stepH (o, st) (rd h (i : Int)) := by rw [runH, hr]; rfl
    dsimp only at hnext ⊢
    generalize hX : rd h (i : Int) = x at *
    have fail : stepH (o, st) x = none → implRead h = ([], false) := fun e => by
      unfold implRead
      rw [runH_none (hnext.trans e) h.length (by omega)]
    by_cases h10 : x = -10
    · by_cases hst : (st : Int) = (o.length : Int)
      · refine .inr (Ev.step (f := fun _ => some ([], false)) (fun k => ?_) (cons ?_))
        · simp only [impl_Hoist_meaning.l0, hX]
          rw [if_pos (by omega), if_pos (by omega), if_pos (by omega), if_pos h10, if_pos hst]
        · rw [fail (by unfold stepH; rw [if_pos h10, if_pos (by dsimp only; omega)])]
      · refine .inl ⟨(o ++ [x], ((o.length + 1 : Nat) : Int), ((i + 1 : Nat) : Int)), ⟨o.length + 1, rfl, by rw [hnext]; unfold stepH; rw [if_pos h10, if_neg (by dsimp only; omega)]⟩, Ev.step fun k => ?_⟩
        simp only [impl_Hoist_meaning.l0, hX]
        rw [if_pos (by omega), if_pos (by omega), if_pos (by omega), if_pos h10, if_neg hst, if_pos (by omega), w64 (by omega) (by omega)]
        simp only [Option.bind_some]
        rw [show ((i + 1 : Nat) : Int) = (i : Int) + 1 by omega, show ((o ++ [x]).length : Int) = ((o.length + 1 : Nat) : Int) by simp]
    · by_cases hs : -4 ≤ x ∧ x ≤ -1
      · have hk : ¬ (0 ≤ x ∧ x ≤ 39) := by omega
        have hw : wrap64 (wrap64 ((st : Int) - wrap64 x) - 1) = (st : Int) + -x - 1 := by
          rw [w64 (x := x) (by omega) (by omega), w64 (x := (st : Int) - x) (by omega) (by omega), w64 (by omega) (by omega)]; omega
        have hl0 : ∀ k, impl_Hoist_meaning.l0 (k + 1) h o (st : Int) h (h.length : Int) (i : Int) = impl_Hoist_meaning.j1 k h o (st : Int) x ((st : Int) + -x - 1) h (h.length : Int) (i : Int) (decide ((st : Int) + -x - 1 < o.length)) := fun k => by
          simp only [impl_Hoist_meaning.l0, hX, hw]
          rw [if_pos (by omega), if_pos (by omega), if_pos (by omega), if_neg h10, w64 (x := x) (by omega) (by omega), within_ev', decide_eq_true hs]
          rfl
        by_cases hat : (st : Int) + -x - 1 < o.length
        · have hkind := g.kind ((st : Int) + -x - 1).toNat (by omega) (by omega)
          rw [Int.toNat_of_nonneg (by omega)] at hkind
          refine .inl ⟨(o ++ [rd o ((st : Int) + -x - 1)], (st : Int), ((i + 1 : Nat) : Int)), ⟨st, rfl, by rw [hnext]; unfold stepH; rw [if_neg h10, if_neg hk, if_pos hs, if_pos hat]⟩, fun hgo => ?_⟩
          refine Ev.step hl0 (Ev.step (fun k => ?_) hgo)
          simp only [impl_Hoist_meaning.j1]
          rw [if_pos (by simpa using hat), if_pos (by omega), if_pos hat, isKind_ev' _ (by omega) (by omega), decide_eq_true hkind]
          simp only [Option.bind_some]
          rw [if_pos trivial, if_pos (by omega), w64 (by omega) (by omega), show ((i + 1 : Nat) : Int) = (i : Int) + 1 by omega]
        · refine .inr ?_
          rw [fail (by unfold stepH; rw [if_neg h10, if_neg hk, if_pos hs, if_neg hat])]
          refine Ev.step hl0 (Ev.step (f := fun _ => some ([], false)) (fun k => ?_) (Ev.now _))
          simp only [impl_Hoist_meaning.j1]
          rw [if_neg (by simpa using hat), isKind_ev' _ (by omega) (by omega), decide_eq_false hk]
          rfl
      · have hl0 : ∀ k, impl_Hoist_meaning.l0 (k + 1) h o (st : Int) h (h.length : Int) (i : Int) = impl_Hoist_meaning.j1 k h o (st : Int) x (wrap64 (wrap64 ((st : Int) - wrap64 x) - 1)) h (h.length : Int) (i : Int) false := fun k => by
          simp only [impl_Hoist_meaning.l0, hX]
          rw [if_pos (by omega), if_pos (by omega), if_pos (by omega), if_neg h10, within_ev', decide_eq_false (by rw [w64 (by omega) (by omega)]; exact hs)]
          rfl
        by_cases hk : 0 ≤ x ∧ x ≤ 39
        · refine .inl ⟨(o ++ [x], (st : Int), ((i + 1 : Nat) : Int)), ⟨st, rfl, by rw [hnext]; unfold stepH; rw [if_neg h10, if_pos hk]⟩, fun hgo => ?_⟩
          refine Ev.step hl0 (Ev.step (fun k => ?_) hgo)
          simp only [impl_Hoist_meaning.j1]
          rw [if_neg (by simp), isKind_ev' _ (by omega) (by omega), decide_eq_true hk]
          simp only [Option.bind_some]
          rw [if_pos trivial, if_pos (by omega), w64 (by omega) (by omega), show ((i + 1 : Nat) : Int) = (i : Int) + 1 by omega]
        · refine .inr ?_
          rw [fail (by unfold stepH; rw [if_neg h10, if_neg hk, if_neg hs])]
          refine Ev.step hl0 (Ev.step (f := fun _ => some ([], false)) (fun k => ?_) (Ev.now _))
          simp only [impl_Hoist_meaning.j1]
          rw [if_neg (by simp), isKind_ev' _ (by omega) (by omega), decide_eq_false hk]
          rfl
  · rintro ⟨o, a, b⟩ ⟨st, e, hr⟩
    injection e with _ e
    injection e with e1 e2
    subst e1 e2
    dsimp only at hr
    have g := runH_good _ _ _ hr
    have hgl := g.len
    refine Ev.step (f := fun _ => some (implRead h)) (fun k => ?_) (Ev.now _)
    simp only [impl_Hoist_meaning.l0]
    rw [if_neg (by omega)]
    unfold impl_size_int8.f
    simp only [Option.bind_some, within_ev']
    unfold implRead okH readH
    rw [hr]
    dsimp only
    by_cases hl : 1 ≤ h.length ∧ h.length ≤ 8
    · rw [if_pos (by simpa using (show 1 ≤ (h.length : Int) ∧ (h.length : Int) ≤ 8 by omega)), if_pos hl]
      by_cases h2 : st < o.length
      · rw [if_pos h2, decide_eq_true (by omega)]; rfl
      · rw [if_neg h2, decide_eq_false (by omega)]; rfl
    · rw [if_neg (by simpa using (show ¬ (1 ≤ (h.length : Int) ∧ (h.length : Int) ≤ 8) by omega)), if_neg hl]; rfl
theorem wfi8 {x : Int} (h : WfI .i8 x) : -128 ≤ x ∧ x ≤ 127 := by
  unfold WfI at h
  simp only [Lit.wf, IntKind.min, IntKind.max, IntKind.signed, IntKind.bits, Bool.and_eq_true, decide_eq_true_eq, if_true] at h
  omega
end Go.Proofs.Ytmpkgdgbjhegnaa.Arr
