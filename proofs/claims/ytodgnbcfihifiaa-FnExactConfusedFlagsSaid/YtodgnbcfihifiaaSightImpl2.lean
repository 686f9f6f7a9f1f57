/- The program's and the reference's SightDistance. Condition: no list too long. -/
import Derived.Test.YtodgnbcfihifiaaSightImpl
import Derived.BigQuiet
import Derived.Test.YtodgnbcfihifiaaPFx1
namespace Go.Proofs.Ytodgnbcfihifiaa.Arr
open Go.RowKit Go.Proofs.YtodgnbcfihifiaaW.PrintWords Go.Proofs.YtodgnbcfihifiaaW.PrintLast Go.Proofs.YtodgnbcfihifiaaW.PrintMore Go.Proofs.Ytodgnbcfihifiaa.U Go.Proofs.Ytodgnbcfihifiaa.F
set_option linter.unusedVariables false
set_option linter.unusedSimpArgs false

theorem aggSight : AggTy Try.prog 56 6 := ⟨by kernel_rfl, by kernel_rfl⟩
set_option maxHeartbeats 1000000 in
set_option maxRecDepth 100000 in
theorem indexFunc_s (A0 : Option Addr) (c0 : Nat) (l : List (List Int)) (w : World) (hr0 : Kd.C (kA .u8 6) w A0 l.length l) (hn : l.length ≤ 1048576) :
    Calls Try.prog 65 #[.slice A0 l.length c0, .func (.func 48) #[] #[]] w fun e w' => e = .returned (.int .i64 (ixn (fun j => !okS (ra l j)) l.length)) ∧ Below w.heap.size w w' := by
  have hg := seen1_enters
  have HR0 := Aside0.mk hr0
  clear hr0
  go_enter Try.func65, Try.ntmps65
  go_wp2_with fail
  go_loopw [8, 5] (fun v8 v5 wr => ∃ i : Nat, i ≤ l.length ∧ v8 = .int .i64 i ∧ Aside0 (Below w.heap.size w wr) ∧ Aside0 (∀ j : Nat, j < i → (!okS (ra l j)) = false)) (fun v8 _ _ => l.length - (intOf v8).toNat)
  case atStart => exact ⟨0, Nat.zero_le _, rfl, ⟨Below.refl _ _⟩, ⟨fun j hj => absurd hj (by omega)⟩⟩
  case round =>
    obtain ⟨i, hi, rfl, HB, HP⟩ := hrel
    by_cases hlt : i < l.length
    · obtain ⟨ad, rfl, hx6, hcell⟩ := at_A (Kd.C_below HR0.out HB.out) i hlt
      have HC := Aside0.mk (cells_of (p := ad.add (i * 6)) (k := .u8) (x := ra l i) (by rw [hx6]; exact hcell))
      have HM := Aside0.mk (seen1_calls (ra l i) wr hx6)
      have HX6 := Aside0.mk (show ((ra l i).map (Value.int .u8)).length = 6 by rw [List.length_map]; exact hx6)
      have hv : ((ra l i).map (Value.int .u8)).toArray = vals .u8 (ra l i) := rfl
      have HV := Aside0.mk hv
      clear hcell hx6 hv
      cases hp : (!okS (ra l i)) with
      | true =>
        have HX := Aside0.mk (ixn_found (fun j => !okS (ra l j)) l.length i hlt HP.out hp)
        rw [hp] at HM
        clear hp
        go_wp2_with (first
          | ((with_reducible refine gt_load 56 ?_); refine Kd.event_run rfl (y_loadA (by rfl) (p := ad.add (i * 6)) (by rfl) HC.out aggSight HX6.out) ?_)
          | (refine HM.out.mono ?_; rintro e w1 ⟨rfl, hb1⟩; have HB1 := Aside0.mk hb1; clear hb1))
        go_ret
        exact ⟨by rw [HX.out]; rfl, below_then HB.out HB1.out⟩
      | false =>
        have HPX := Aside0.mk hp
        rw [hp] at HM
        clear hp
        go_wp2_with (first
          | ((with_reducible refine gt_load 56 ?_); refine Kd.event_run rfl (y_loadA (by rfl) (p := ad.add (i * 6)) (by rfl) HC.out aggSight HX6.out) ?_)
          | (refine HM.out.mono ?_; rintro e w1 ⟨rfl, hb1⟩; have HB1 := Aside0.mk hb1; clear hb1))
        go_roundw
        case rel => exact ⟨i + 1, by omega, by go_num, ⟨below_then HB.out HB1.out⟩, ⟨fun j hj => by
          rcases Nat.lt_or_ge j i with h | h
          · exact HP.out j h
          · obtain rfl : j = i := by omega
            exact HPX.out⟩⟩
        case measure => simp [intOf]; omega
    · obtain rfl : i = l.length := by omega
      have HX := Aside0.mk (ixn_none (fun j => !okS (ra l j)) l.length HP.out)
      go_wp2_with fail
      go_ret
      exact ⟨by rw [HX.out]; rfl, HB.out⟩
set_option maxHeartbeats 1000000 in
set_option maxRecDepth 100000 in
theorem containsFunc_s (A0 : Option Addr) (c0 : Nat) (l : List (List Int)) (w : World) (hr0 : Kd.C (kA .u8 6) w A0 l.length l) (hn : l.length ≤ 1048576) :
    Calls Try.prog 47 #[.slice A0 l.length c0, .func (.func 48) #[] #[]] w fun e w' => e = .returned (.bool (!seenB l)) ∧ Below w.heap.size w w' := by
  have HM := Aside0.mk (indexFunc_s A0 c0 l w hr0 hn)
  have HA := Aside0.mk (ixn_any (fun j => !okS (ra l j)) l.length)
  have HO := Aside0.mk (show seenB l = decide (∀ j : Nat, j < l.length → (!okS (ra l j)) = false) by
    unfold seenB
    congr 1
    apply propext
    exact ⟨fun h j hj => by rw [h j hj]; rfl, fun h j hj => by have := h j hj; simpa using this⟩)
  clear hr0
  rw [HO.out]
  generalize ixn (fun j => !okS (ra l j)) l.length = n at *
  generalize decide (∀ j : Nat, j < l.length → (!okS (ra l j)) = false) = b at *
  go_enter Try.func47, Try.ntmps47
  go_wp2_with (go_at_call 65; refine HM.out.mono ?_; rintro e w1 ⟨rfl, hb1⟩; have HB1 := Aside0.mk hb1; clear hb1)
  go_ret
  exact ⟨by rw [← HA.out]; rfl, HB1.out⟩
set_option maxHeartbeats 1000000 in
set_option maxRecDepth 100000 in
theorem areSights_calls (A0 : Option Addr) (c0 : Nat) (l : List (List Int)) (w : World) (hr0 : Kd.C (kA .u8 6) w A0 l.length l) (hn : l.length ≤ 1048576) :
    Calls Try.prog 28 #[.slice A0 l.length c0] w fun e w' => e = .returned (.bool (seenB l)) ∧ Below w.heap.size w w' := by
  have HM := Aside0.mk (containsFunc_s A0 c0 l w hr0 hn)
  clear hr0
  generalize seenB l = b at *
  go_enter Try.func28, Try.ntmps28
  go_wp2_with (go_at_call 47; refine HM.out.mono ?_; rintro e w1 ⟨rfl, hb1⟩; have HB1 := Aside0.mk hb1; clear hb1)
  go_ret
  exact ⟨by simp, HB1.out⟩
theorem unlike_ev (x y : List Int) (h : x.length = y.length) (hn : x.length ≤ 1000000) : Ev (fun k => impl_unlike.f k x y) (difN x y x.length) := by
  unfold impl_unlike.f
  refine iter (F := fun k (s : Int × Int) => impl_unlike.l0 k y s.1 x (x.length : Int) s.2) (fun i s => s = (difN x y i, (i : Int))) _ x.length ?_ ?_ 0 (0, 0) (by omega) rfl
  · rintro i s hi rfl
    have hb := difN_b x y i
    refine .inl ⟨(difN x y (i + 1), ((i + 1 : Nat) : Int)), rfl, fun hgo => ?_⟩
    have hgo2 : Ev (fun k => impl_unlike.l0 k y (difN x y (i + 1)) x (x.length : Int) (wrap64 ((i : Int) + 1))) (difN x y x.length) := by rw [w64 (by omega) (by omega)]; exact hgo
    refine Ev.step (fun k => by rw [impl_unlike.l0]) ?_
    refine pos (by omega) (pos (by omega) (pos (by omega) (pos (by omega) ?_)))
    by_cases he : rd x (i : Int) = rd y (i : Int)
    · refine pos he.symm ?_
      rw [difN, if_pos he, Int.add_zero] at hgo2
      exact hgo2
    · refine neg (fun e => he e.symm) ?_
      rw [w64 (x := difN x y i + 1) (by omega) (by omega)]
      rw [difN, if_neg he] at hgo2
      exact hgo2
  · rintro s rfl
    refine Ev.step (fun k => by rw [impl_unlike.l0]) ?_
    exact neg (by omega) (cons rfl)
set_option maxHeartbeats 4000000 in
set_option maxRecDepth 100000 in
theorem sightsApart_calls (A : Option Addr) (c : Nat) (l : List (List Int)) (A2 : Option Addr) (c2 : Nat) (l2 : List (List Int)) (w : World) (hr : Kd.C (kA .u8 6) w A l.length l) (hr2 : Kd.C (kA .u8 6) w A2 l2.length l2) (hl : l.length = l2.length) (hn : l.length ≤ 1048576) :
    Calls Try.prog 29 #[.slice A l.length c, .slice A2 l2.length c2] w fun e w' => e = .returned (.int .i64 (farW l l2 l.length)) ∧ Below w.heap.size w w' := by
  have HR := Aside0.mk hr
  have HR2 := Aside0.mk hr2
  have HL := Aside0.mk hl
  clear hr hr2 hl
  go_enter Try.func29, Try.ntmps29
  go_wp2_with fail
  go_loopw [9, 5, 6] (fun v9 v5 v6 wr => ∃ i : Nat, i ≤ l.length ∧ v9 = .int .i64 i ∧ v5 = .int .i64 (farW l l2 i) ∧ Aside0 (Below w.heap.size w wr)) (fun v9 _ _ _ => l.length - (intOf v9).toNat)
  case atStart => exact ⟨0, by omega, rfl, rfl, ⟨Below.refl _ _⟩⟩
  case round =>
    obtain ⟨i, hi, rfl, rfl, HB⟩ := hrel
    by_cases hlt : i < l.length
    · obtain ⟨ad, rfl, hx, hcell⟩ := at_A HR.out i hlt
      obtain ⟨ad2, rfl, hy, hcell2⟩ := at_A HR2.out i (by have := HL.out; omega)
      have hlt2 : i < l2.length := by have := HL.out; omega
      have hlt2i : (i : Int) < (l2.length : Int) := by omega
      have hfb := farW_b l l2 i
      have hdb := difN_b (ra l i) (ra l2 i) 6
      have HFS := Aside0.mk (show farW l l2 (i + 1) = farW l l2 i + difN (ra l i) (ra l2 i) 6 from rfl)
      obtain ⟨k1, hk1⟩ := (unlike_ev (ra l i) (ra l2 i) (by omega) (by omega)).rounds
      rw [hx] at hk1
      have HUN : Aside0 (∀ W, Below w.heap.size w W → Calls Try.prog 51 #[.slice (some (ad.add (i * 6))) 6 6, .slice (some (ad2.add (i * 6))) 6 6] W fun e w' => e = .returned (.int .i64 (difN (ra l i) (ra l2 i) 6)) ∧ Below W.heap.size W w') := ⟨fun W hW => by
        have := impl_unlike.calls k1 (some (ad.add (i * 6))) 6 (ra l i) (some (ad2.add (i * 6))) 6 (ra l2 i) _ W (C_of_cells (by omega) (by rw [hx]; exact fun j hj => pw_cell_below hW (hcell j hj))) (by omega) (C_of_cells (by omega) (by rw [hy]; exact fun j hj => pw_cell_below hW (hcell2 j hj))) (by omega) hk1
        rw [hx, hy] at this
        refine this.mono ?_
        rintro e w' ⟨rfl, h⟩
        exact ⟨rfl, h.below⟩⟩
      clear hcell hcell2 hx hy hk1
      generalize farW l l2 i = f at *
      generalize difN (ra l i) (ra l2 i) 6 = dd at *
      have hw : wrap64 (f + dd) = f + dd := w64 (by omega) (by omega)
      go_wp2_with fail
      refine start_ (n := 12) (S := fun w' => Below w.heap.size w w') (ds := []) #[false, false, false, false, false, false, false, false, false, false, false, false] (by kernel_rfl) rfl rfl (below_drew1 HB.out) (fun hHeld => ?_)
      refine pure_ (i := 0) (N := some 12) (v := ?_) (a' := ?_) #[true, false, false, false, false, false, false, false, false, false, false, false] rfl rfl (by kernel_rfl) (fun _ _ _ h => h) (Or.inl ⟨by rfl, ?_⟩) ?_ ?_
      rotate_left
      · intro w'
        go_simp
        with_reducible rfl
      rotate_left
      · simp only [Act.put, List.setIfInBounds_toArray, List.set_cons_zero, List.set_cons_succ, i64_w, i32_w]
        rfl
      refine pure_ (i := 1) (N := some 13) (v := ?_) (a' := ?_) #[true, true, false, false, false, false, false, false, false, false, false, false] rfl rfl (by kernel_rfl) (fun _ _ _ h => h) (Or.inl ⟨by rfl, ?_⟩) ?_ ?_
      rotate_left
      · intro w'
        go_simp
        with_reducible rfl
      rotate_left
      · simp only [Act.put, List.setIfInBounds_toArray, List.set_cons_zero, List.set_cons_succ, i64_w, i32_w]
        rfl
      refine pure_ (i := 2) (N := some 14) (v := ?_) (a' := ?_) #[true, true, true, false, false, false, false, false, false, false, false, false] rfl rfl (by kernel_rfl) (fun _ _ _ h => h) (Or.inl ⟨by rfl, ?_⟩) ?_ ?_
      rotate_left
      · intro w'
        go_simp
        with_reducible rfl
      rotate_left
      · simp only [Act.put, List.setIfInBounds_toArray, List.set_cons_zero, List.set_cons_succ, i64_w, i32_w]
        rfl
      refine pure_ (i := 3) (N := some 15) (v := ?_) (a' := ?_) #[true, true, true, true, false, false, false, false, false, false, false, false] rfl rfl (by kernel_rfl) (fun _ _ _ h => h) (Or.inl ⟨by rfl, ?_⟩) ?_ ?_
      rotate_left
      · intro w'
        go_simp
        with_reducible rfl
      rotate_left
      · simp only [Act.put, List.setIfInBounds_toArray, List.set_cons_zero, List.set_cons_succ, i64_w, i32_w]
        rfl
      refine pure_ (i := 4) (N := some 16) (v := ?_) (a' := ?_) #[true, true, true, true, true, false, false, false, false, false, false, false] rfl rfl (by kernel_rfl) (fun _ _ _ h => h) (Or.inl ⟨by rfl, ?_⟩) ?_ ?_
      rotate_left
      · intro w'
        go_simp
        with_reducible rfl
      rotate_left
      · simp only [Act.put, List.setIfInBounds_toArray, List.set_cons_zero, List.set_cons_succ, i64_w, i32_w]
        rfl
      refine pure_ (i := 5) (N := some 17) (v := ?_) (a' := ?_) #[true, true, true, true, true, true, false, false, false, false, false, false] rfl rfl (by kernel_rfl) (fun _ _ _ h => h) (Or.inl ⟨by rfl, ?_⟩) ?_ ?_
      rotate_left
      · intro w'
        go_simp
        with_reducible rfl
      rotate_left
      · simp only [Act.put, List.setIfInBounds_toArray, List.set_cons_zero, List.set_cons_succ, i64_w, i32_w]
        rfl
      refine pure_ (i := 6) (N := some 18) (v := ?_) (a' := ?_) #[true, true, true, true, true, true, true, false, false, false, false, false] rfl rfl (by kernel_rfl) (fun _ _ _ h => h) (Or.inl ⟨by rfl, ?_⟩) ?_ ?_
      rotate_left
      · intro w'
        go_simp
        with_reducible rfl
      rotate_left
      · simp only [Act.put, List.setIfInBounds_toArray, List.set_cons_zero, List.set_cons_succ, i64_w, i32_w]
        rfl
      refine pure_ (i := 7) (N := some 19) (v := ?_) (a' := ?_) #[true, true, true, true, true, true, true, true, false, false, false, false] rfl rfl (by kernel_rfl) (fun _ _ _ h => h) (Or.inl ⟨by rfl, ?_⟩) ?_ ?_
      rotate_left
      · intro w'
        go_simp
        with_reducible rfl
      rotate_left
      · simp only [Act.put, List.setIfInBounds_toArray, List.set_cons_zero, List.set_cons_succ, i64_w, i32_w]
        rfl
      refine pure_ (i := 8) (N := some 20) (v := ?_) (a' := ?_) #[true, true, true, true, true, true, true, true, true, false, false, false] rfl rfl (by kernel_rfl) (fun _ _ _ h => h) (Or.inl ⟨by rfl, ?_⟩) ?_ ?_
      rotate_left
      · intro w'
        go_simp
        with_reducible rfl
      rotate_left
      · simp only [Act.put, List.setIfInBounds_toArray, List.set_cons_zero, List.set_cons_succ, i64_w, i32_w]
        rfl
      refine one_ (i := 9) (N := some 21) #[true, true, true, true, true, true, true, true, true, true, false, false] rfl rfl (by kernel_rfl) (by decide) (fun K hK => ?_)
      refine goes_ Try.func51 (by kernel_rfl) rfl #[.slice (some (ad.add (i * 6))) 6 6, .slice (some (ad2.add (i * 6))) 6 6] (by rfl) rfl rfl (by simp only [List.map_toArray, List.map_cons, List.map_nil]; rfl) ?_
      refine (HUN.out _ hHeld).mono ?_
      rintro e w5 ⟨rfl, h5⟩
      refine ⟨_, rfl, ?_⟩
      refine hK.out _ _ (hHeld.trans (h5.mono hHeld.size)) (fun hHeld => ?_)
      clear hK K
      refine norm_ (a' := ?_) ?_ ?_
      rotate_left
      · show Act.put _ (some 21) _ = _
        simp only [Act.put, List.setIfInBounds_toArray, List.set_cons_zero, List.set_cons_succ, i64_w, i32_w]
        rfl
      refine pure_ (i := 10) (N := some 22) (v := ?_) (a' := ?_) #[true, true, true, true, true, true, true, true, true, true, true, false] rfl rfl (by kernel_rfl) (fun _ _ _ h => h) (Or.inl ⟨by rfl, ?_⟩) ?_ ?_
      rotate_left
      · intro w'
        go_simp
        with_reducible rfl
      rotate_left
      · simp only [Act.put, List.setIfInBounds_toArray, List.set_cons_zero, List.set_cons_succ, i64_w, i32_w]
        rfl
      refine pure_ (i := 11) (N := some 5) (v := ?_) (a' := ?_) #[true, true, true, true, true, true, true, true, true, true, true, true] rfl rfl (by kernel_rfl) (fun _ _ _ h => h) (Or.inl ⟨by rfl, ?_⟩) ?_ ?_
      rotate_left
      · intro w'
        go_simp
        with_reducible rfl
      rotate_left
      · simp only [Act.put, List.setIfInBounds_toArray, List.set_cons_zero, List.set_cons_succ, i64_w, i32_w]
        rfl
      refine done_ (by kernel_rfl) ?_
      skip
      have HB2 := Aside0.mk hHeld
      clear hHeld
      go_wp2_with fail
      go_roundw
      case rel => exact ⟨i + 1, by omega, by go_num, by rw [HFS.out, ← hw], HB2⟩
      case measure => simp [intOf]; omega
    · obtain rfl : i = l.length := by omega
      go_wp2_with fail
      go_ret
      exact ⟨rfl, HB.out⟩
/-- The distance of two lists of sights, with a code. -/
def distW (a b : List (List Int)) : Int × Int := if seenB a = true then (if seenB b = true then (if a.length = b.length then (farW a b a.length, 0) else (0, 2)) else (0, 1)) else (0, 1)
set_option maxHeartbeats 4000000 in
set_option maxRecDepth 100000 in
theorem specSightDistance_calls (A : Option Addr) (c : Nat) (l : List (List Int)) (A2 : Option Addr) (c2 : Nat) (l2 : List (List Int)) (w : World) (hr : Kd.C (kA .u8 6) w A l.length l) (hr2 : Kd.C (kA .u8 6) w A2 l2.length l2) (hn : l.length ≤ 1048576) (hn2 : l2.length ≤ 1048576) :
    Calls Try.prog 7 #[.slice A l.length c, .slice A2 l2.length c2] w fun e w' => e = .returned (.tuple #[.int .i64 (distW l l2).1, .int .i64 (distW l l2).2]) ∧ Below w.heap.size w w' := by
  have HA := Aside0.mk (fun W (hW : Below w.heap.size w W) => l05Seen_calls A c l W (Kd.C_below hr hW) hn)
  have HB := Aside0.mk (fun W (hW : Below w.heap.size w W) => l05Seen_calls A2 c2 l2 W (Kd.C_below hr2 hW) hn2)
  have HF := Aside0.mk (fun W (hW : Below w.heap.size w W) (hl : l.length = l2.length) => l05Far_calls A c l A2 c2 l2 W (Kd.C_below hr hW) (Kd.C_below hr2 hW) hl hn)
  unfold distW
  clear hr hr2
  cases hs : seenB l with
  | false =>
    rw [hs] at HA
    clear hs
    go_enter Try.func7, Try.ntmps7
    go_wp2_with (first
      | (go_at_call 25; (with_reducible refine (HA.out _ (Below.refl _ _)).mono ?_); rintro e w1 ⟨rfl, h1⟩; have HB1 := Aside0.mk h1; clear h1))
    go_ret2
    exact ⟨rfl, HB1.out⟩
  | true =>
    rw [hs] at HA
    clear hs
    cases hs : seenB l2 with
    | false =>
      rw [hs] at HB
      clear hs
      go_enter Try.func7, Try.ntmps7
      go_wp2_with (first
        | (go_at_call 25; (with_reducible refine (HB.out _ HB1.out).mono ?_); rintro e w2 ⟨rfl, h2⟩; have HB2 := Aside0.mk (below_then HB1.out h2); clear h2)
        | (go_at_call 25; (with_reducible refine (HA.out _ (Below.refl _ _)).mono ?_); rintro e w1 ⟨rfl, h1⟩; have HB1 := Aside0.mk h1; clear h1))
      go_ret2
      exact ⟨rfl, HB2.out⟩
    | true =>
      rw [hs] at HB
      clear hs
      by_cases hl : l.length = l2.length
      · have HG := Aside0.mk (fun W hW => HF.out W hW hl)
        have HI := Aside0.mk hl
        have hll : (l.length : Int) = (l2.length : Int) := by omega
        have h1 : ((l.length : Int) != (l2.length : Int)) = false := by rw [bne_eq_false_iff_eq]; exact hll
        simp only [if_true, if_pos hl]
        clear hl hll HF
        generalize farW l l2 l.length = f at *
        generalize l.length = n1 at *
        generalize l2.length = n2 at *
        go_enter Try.func7, Try.ntmps7
        go_wp2_with (first
          | (go_at_call 25; (with_reducible refine (HB.out _ HB1.out).mono ?_); rintro e w2 ⟨rfl, h2⟩; have HB2 := Aside0.mk (below_then HB1.out h2); clear h2)
          | (go_at_call 25; (with_reducible refine (HA.out _ (Below.refl _ _)).mono ?_); rintro e w1 ⟨rfl, h1⟩; have HB1 := Aside0.mk h1; clear h1)
          | (go_at_call 26; (with_reducible refine (HG.out _ HB2.out).mono ?_); rintro e w3 ⟨rfl, h3⟩; have HB3 := Aside0.mk (below_then HB2.out h3); clear h3))
        go_ret2
        exact ⟨rfl, HB3.out⟩
      · have h1 : ((l.length : Int) != (l2.length : Int)) = true := by rw [bne_iff_ne]; omega
        simp only [if_true, if_neg hl]
        clear HF
        go_enter Try.func7, Try.ntmps7
        go_wp2_with (first
          | (go_at_call 25; (with_reducible refine (HB.out _ HB1.out).mono ?_); rintro e w2 ⟨rfl, h2⟩; have HB2 := Aside0.mk (below_then HB1.out h2); clear h2)
          | (go_at_call 25; (with_reducible refine (HA.out _ (Below.refl _ _)).mono ?_); rintro e w1 ⟨rfl, h1⟩; have HB1 := Aside0.mk h1; clear h1))
        go_ret2
        exact ⟨rfl, HB2.out⟩
set_option maxHeartbeats 4000000 in
set_option maxRecDepth 100000 in
theorem implSightDistance_calls (A : Option Addr) (c : Nat) (l : List (List Int)) (A2 : Option Addr) (c2 : Nat) (l2 : List (List Int)) (w : World) (hr : Kd.C (kA .u8 6) w A l.length l) (hr2 : Kd.C (kA .u8 6) w A2 l2.length l2) (hn : l.length ≤ 1048576) (hn2 : l2.length ≤ 1048576) :
    Calls Try.prog 9 #[.slice A l.length c, .slice A2 l2.length c2] w fun e w' => e = .returned (.tuple #[.int .i64 (distW l l2).1, .int .i64 (distW l l2).2]) ∧ Below w.heap.size w w' := by
  have HA := Aside0.mk (fun W (hW : Below w.heap.size w W) => areSights_calls A c l W (Kd.C_below hr hW) hn)
  have HB := Aside0.mk (fun W (hW : Below w.heap.size w W) => areSights_calls A2 c2 l2 W (Kd.C_below hr2 hW) hn2)
  have HF := Aside0.mk (fun W (hW : Below w.heap.size w W) (hl : l.length = l2.length) => sightsApart_calls A c l A2 c2 l2 W (Kd.C_below hr hW) (Kd.C_below hr2 hW) hl hn)
  unfold distW
  clear hr hr2
  cases hs : seenB l with
  | false =>
    rw [hs] at HA
    clear hs
    go_enter Try.func9, Try.ntmps9
    go_wp2_with (first
      | (go_at_call 28; (with_reducible refine (HA.out _ (Below.refl _ _)).mono ?_); rintro e w1 ⟨rfl, h1⟩; have HB1 := Aside0.mk h1; clear h1))
    go_ret2
    exact ⟨rfl, HB1.out⟩
  | true =>
    rw [hs] at HA
    clear hs
    cases hs : seenB l2 with
    | false =>
      rw [hs] at HB
      clear hs
      go_enter Try.func9, Try.ntmps9
      go_wp2_with (first
        | (go_at_call 28; (with_reducible refine (HB.out _ HB1.out).mono ?_); rintro e w2 ⟨rfl, h2⟩; have HB2 := Aside0.mk (below_then HB1.out h2); clear h2)
        | (go_at_call 28; (with_reducible refine (HA.out _ (Below.refl _ _)).mono ?_); rintro e w1 ⟨rfl, h1⟩; have HB1 := Aside0.mk h1; clear h1))
      go_ret2
      exact ⟨rfl, HB2.out⟩
    | true =>
      rw [hs] at HB
      clear hs
      by_cases hl : l.length = l2.length
      · have HG := Aside0.mk (fun W hW => HF.out W hW hl)
        have HI := Aside0.mk hl
        have hll : (l.length : Int) = (l2.length : Int) := by omega
        have h1 : ((l.length : Int) != (l2.length : Int)) = false := by rw [bne_eq_false_iff_eq]; exact hll
        simp only [if_true, if_pos hl]
        clear hl hll HF
        generalize farW l l2 l.length = f at *
        generalize l.length = n1 at *
        generalize l2.length = n2 at *
        go_enter Try.func9, Try.ntmps9
        go_wp2_with (first
          | (go_at_call 28; (with_reducible refine (HB.out _ HB1.out).mono ?_); rintro e w2 ⟨rfl, h2⟩; have HB2 := Aside0.mk (below_then HB1.out h2); clear h2)
          | (go_at_call 28; (with_reducible refine (HA.out _ (Below.refl _ _)).mono ?_); rintro e w1 ⟨rfl, h1⟩; have HB1 := Aside0.mk h1; clear h1)
          | (go_at_call 29; (with_reducible refine (HG.out _ HB2.out).mono ?_); rintro e w3 ⟨rfl, h3⟩; have HB3 := Aside0.mk (below_then HB2.out h3); clear h3))
        go_ret2
        exact ⟨rfl, HB3.out⟩
      · have h1 : ((l.length : Int) != (l2.length : Int)) = true := by rw [bne_iff_ne]; omega
        simp only [if_true, if_neg hl]
        clear HF
        go_enter Try.func9, Try.ntmps9
        go_wp2_with (first
          | (go_at_call 28; (with_reducible refine (HB.out _ HB1.out).mono ?_); rintro e w2 ⟨rfl, h2⟩; have HB2 := Aside0.mk (below_then HB1.out h2); clear h2)
          | (go_at_call 28; (with_reducible refine (HA.out _ (Below.refl _ _)).mono ?_); rintro e w1 ⟨rfl, h1⟩; have HB1 := Aside0.mk h1; clear h1))
        go_ret2
        exact ⟨rfl, HB2.out⟩
end Go.Proofs.Ytodgnbcfihifiaa.Arr
