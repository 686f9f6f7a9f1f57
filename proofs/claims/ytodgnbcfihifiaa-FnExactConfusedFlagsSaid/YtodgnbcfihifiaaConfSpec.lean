/- The reference's ConfusedFlags. Conditions: bytes; no list too long. -/
import Derived.Test.YtodgnbcfihifiaaConfA
import Derived.BigQuiet
import Derived.Test.YtodgnbcfihifiaaPFx1
namespace Go.Proofs.Ytodgnbcfihifiaa.Arr
open Go.RowKit Go.Proofs.YtodgnbcfihifiaaW.PrintWords Go.Proofs.YtodgnbcfihifiaaW.PrintLast Go.Proofs.YtodgnbcfihifiaaW.PrintMore Go.Proofs.Ytodgnbcfihifiaa.U Go.Proofs.Ytodgnbcfihifiaa.F
set_option linter.unusedVariables false
set_option linter.unusedSimpArgs false

theorem litI (W : World) (base : Nat) (hb : base ≤ W.heap.size) : Kd.R (Kd.int .i64) 2 (W.alloc (.cells #[] 2)) base (fun _ => True) (.slice (some ⟨W.heap.size, 0, none⟩) 0 0) [] := by
  refine ⟨fun k hk => trivial, [], ?_, Reps.none _ _⟩
  have h2 := World.ownsRow_lit (base := base) (e := 2) (size := 1) W #[] 0 hb (by simp [maxLen]) (by simp)
  have h3 : (W.alloc (.cells #[] 2)).ownsRow base 2 1 (.slice (some ⟨W.heap.size, 0, none⟩) 0 0) 0 [] := by simpa using h2
  exact h3
theorem infoI64F : (Try.prog.info? 2).map (fun i => (i.zero, i.size, i.bytes)) = some (some (.int .i64 0), 1, 8) := by kernel_rfl
theorem inF_calls (a lo hi : Int) (w : World) : Calls Try.prog 39 #[.int .i64 a, .int .i64 lo, .int .i64 hi] w fun e w' => e = .returned (.bool (decide (lo ≤ a ∧ a ≤ hi))) ∧ Below w.heap.size w w' := by
  have h : spec_l00In.f a lo hi = some (decide (lo ≤ a ∧ a ≤ hi)) := by
    unfold spec_l00In.f
    by_cases h1 : a ≥ lo
    · rw [if_pos h1]
      congr 1
      by_cases h2 : a ≤ hi
      · rw [decide_eq_true h2, decide_eq_true (⟨h1, h2⟩ : lo ≤ a ∧ a ≤ hi)]
      · rw [decide_eq_false h2, decide_eq_false (fun h => h2 h.2)]
    · rw [if_neg h1, decide_eq_false (fun h => h1 h.1)]
  refine (spec_l00In.calls a lo hi _ w h).mono ?_
  rintro e w' ⟨rfl, h⟩
  exact ⟨rfl, h.below⟩
/-- Flags of bytes. -/
abbrev FlagsP (l : List (List Int)) : Prop := ∀ x ∈ l, x.length = 24 ∧ Bytes x
theorem col_of {l : List (List Int)} (hf : flagsB l = true) (hp : FlagsP l) (i : Nat) (hi : i < l.length) : Col (ra l i) := by
  have h1 := of_decide_eq_true hf i hi
  have h2 := of_decide_eq_true h1
  have hm := hp _ (by rw [ra_get l i hi]; exact List.getElem_mem hi : ra l i ∈ l)
  exact fun k hk => ⟨(hm.2.at k (by omega)).1, h2 k hk⟩
set_option maxHeartbeats 4000000 in
set_option maxRecDepth 100000 in
theorem l01Set_calls (A : Option Addr) (c : Nat) (l : List (List Int)) (w : World) (hr : Kd.C (kA .u8 24) w A l.length l) (hn : l.length ≤ 1048576) :
    Calls Try.prog 38 #[.slice A l.length c] w fun e w' => e = .returned (.int .i64 (setC l)) ∧ Below w.heap.size w w' := by
  have HR := Aside0.mk hr
  clear hr
  go_enter Try.func38, Try.ntmps38
  go_wp2_with fail
  go_loopw [3] (fun v3 wr => ∃ i : Nat, i ≤ l.length ∧ v3 = .int .i64 i ∧ Aside0 (Below w.heap.size w wr) ∧ Aside0 (∀ j : Nat, j < i → okF (ra l j) = true)) (fun v3 _ => l.length - (intOf v3).toNat)
  case atStart => exact ⟨0, by omega, rfl, ⟨Below.refl _ _⟩, ⟨fun j hj => absurd hj (by omega)⟩⟩
  case round =>
    obtain ⟨i, hi, rfl, HB, HP⟩ := hrel
    by_cases hlt : i < l.length
    · obtain ⟨ad, rfl, hx24, hcell⟩ := at_A (Kd.C_below HR.out HB.out) i hlt
      have HOK := Aside0.mk (l01Ok_calls (ad.add (i * 24)) (ra l i) wr hcell)
      clear hcell hx24
      cases ho : okF (ra l i) with
      | false =>
        have HFX := Aside0.mk (show flagsB l = false from decide_eq_false (fun h => by have := h i hlt; rw [ho] at this; cases this))
        rw [ho] at HOK
        clear ho
        go_wp2_with (go_at_call 54; refine HOK.out.mono ?_; rintro e w3 ⟨rfl, hb3⟩; have HB3 := Aside0.mk (below_then HB.out hb3); clear hb3)
        go_ret
        exact ⟨by rw [show setC l = 1 by unfold setC; rw [HFX.out]; rfl]; rfl, HB3.out⟩
      | true =>
        have HO := Aside0.mk ho
        rw [ho] at HOK
        clear ho
        go_wp2_with (go_at_call 54; refine HOK.out.mono ?_; rintro e w3 ⟨rfl, hb3⟩; have HB3 := Aside0.mk (below_then HB.out hb3); clear hb3)
        go_roundw
        case rel => exact ⟨i + 1, by omega, by go_num, HB3, ⟨fun j hj => by
          rcases Nat.lt_or_ge j i with h | h
          · exact HP.out j h
          · obtain rfl : j = i := by omega
            exact HO.out⟩⟩
        case measure => simp [intOf]; omega
    · obtain rfl : i = l.length := by omega
      have HFX := Aside0.mk (show flagsB l = true from decide_eq_true HP.out)
      clear HP
      by_cases h40 : (l.length : Int) ≤ 40
      · have hh : ¬ (40 : Int) < (l.length : Int) := by omega
        have H4 := Aside0.mk h40
        go_wp2_with fail
        go_ret
        exact ⟨by rw [show setC l = 0 by unfold setC; rw [HFX.out, if_pos rfl, if_pos H4.out]]; rfl, HB.out⟩
      · have hh : (40 : Int) < (l.length : Int) := by omega
        have H4 := Aside0.mk h40
        go_wp2_with fail
        go_ret
        exact ⟨by rw [show setC l = 3 by unfold setC; rw [HFX.out, if_pos rfl, if_neg (by have := H4.out; omega)]]; rfl, HB.out⟩
/-- Is a flag taken for another one? -/
def confB (l : List (List Int)) (i most : Int) (k : Nat) : Bool := decide ((k : Int) ≠ i) && decide (farF (ra l i.toNat) (ra l k) ≤ most)
def confL (l : List (List Int)) (i most : Int) : Nat → List Int
  | 0 => []
  | k + 1 => confL l i most k ++ (if confB l i most k = true then [(k : Int)] else [])
theorem confL_len (l : List (List Int)) (i most : Int) : ∀ n, (confL l i most n).length ≤ n
  | 0 => by simp [confL]
  | n + 1 => by
    rw [confL, List.length_append]
    have := confL_len l i most n
    split <;> simp <;> omega
/-- The flags that one flag is taken for, with a code. -/
def confW (l : List (List Int)) (i most : Int) : List Int × Int :=
  if setC l = 0 then (if (0 ≤ i ∧ i ≤ (l.length : Int) - 1) ∧ 0 ≤ most ∧ most ≤ 6 then (confL l i most l.length, 0) else ([], 2)) else ([], setC l)
theorem setC_zero {l : List (List Int)} (h : setC l = 0) : flagsB l = true ∧ (l.length : Int) ≤ 40 := by
  unfold setC at h
  split at h
  · rename_i hf
    split at h
    · exact ⟨hf, by assumption⟩
    · omega
  · omega
set_option maxHeartbeats 8000000 in
set_option maxRecDepth 100000 in
theorem specConfused_calls (A : Option Addr) (c : Nat) (l : List (List Int)) (i most : Int) (w : World) (hr : Kd.C (kA .u8 24) w A l.length l) (hn : l.length ≤ 1048576) (hp : FlagsP l) :
    Calls Try.prog 17 #[.slice A l.length c, .int .i64 i, .int .i64 most] w fun e w' => ∃ v, e = .returned (.tuple #[v, .int .i64 (confW l i most).2]) ∧ Kd.R (Kd.int .i64) 2 w' w.heap.size (fun _ => True) v (confW l i most).1 ∧ Below w.heap.size w w' := by
  have HS := Aside0.mk (l01Set_calls A c l w hr hn)
  have HLI := Aside0.mk (fun W (hW : Below w.heap.size w W) => litI W w.heap.size hW.size)
  have HR := Aside0.mk hr
  have HI1 := Aside0.mk (fun W => inF_calls i 0 ((l.length : Int) - 1) W)
  have HI2 := Aside0.mk (fun W => inF_calls most 0 6 W)
  unfold confW
  clear hr
  by_cases hs : setC l = 0
  · rw [if_pos hs]
    rw [hs] at HS
    obtain ⟨hfl, h40⟩ := setC_zero hs
    clear hs
    by_cases hi : 0 ≤ i ∧ i ≤ (l.length : Int) - 1
    · rw [decide_eq_true hi] at HI1
      by_cases hm : 0 ≤ most ∧ most ≤ 6
      · rw [decide_eq_true hm] at HI2
        rw [if_pos ⟨hi, hm⟩]
        obtain ⟨i, rfl⟩ := Int.eq_ofNat_of_zero_le hi.1
        have hil : i < l.length := by omega
        have HCO := Aside0.mk (fun k hk => col_of hfl hp k hk)
        have hm6 := hm.2
        have hm0 := hm.1
        clear hi hm hfl hp
        go_enter Try.func17, Try.ntmps17
        go_wp2_with (first
          | (go_at_call 38; refine HS.out.mono ?_; rintro e w1 ⟨rfl, h⟩; have HB1 := Aside0.mk h; clear h)
          | (go_at_call 39; (with_reducible refine (HI1.out _).mono ?_); rintro e w2 ⟨rfl, h⟩; have HB2 := Aside0.mk (below_then HB1.out h); clear h)
          | (go_at_call 39; (with_reducible refine (HI2.out _).mono ?_); rintro e w3 ⟨rfl, h⟩; have HB3 := Aside0.mk (below_then HB2.out h); clear h))
        go_loopw [10, 9] (fun v10 v9 wr => ∃ k : Nat, k ≤ l.length ∧ v10 = .int .i64 k ∧ Aside0 (Below w.heap.size w wr) ∧ Aside0 (Kd.R (Kd.int .i64) 2 wr w.heap.size (fun _ => True) v9 (confL l (i : Int) most k))) (fun v10 _ _ => l.length - (intOf v10).toNat)
        case atStart => exact ⟨0, by omega, rfl, ⟨below_alloc HB3.out _⟩, ⟨HLI.out _ HB3.out⟩⟩
        case round =>
          clear HB1 HB2 HB3
          obtain ⟨k, hk, rfl, HB, HO⟩ := hrel
          by_cases hlt : k < l.length
          · have HL := Aside0.mk (confL_len l (i : Int) most k)
            have HCS := Aside0.mk (show confL l (i : Int) most (k + 1) = confL l (i : Int) most k ++ (if confB l (i : Int) most k = true then [(k : Int)] else []) from rfl)
            obtain ⟨ad, rfl, _, hci⟩ := at_A HR.out i hil
            obtain ⟨ad', had, _, hck⟩ := at_A HR.out k hlt
            obtain rfl := Option.some.inj had
            have HFA := Aside0.mk (fun W (hW : Below w.heap.size w W) => l01Far_calls (ad.add (i * 24)) (ad.add (k * 24)) (ra l i) (ra l k) W (HCO.out i hil) (HCO.out k hlt) (fun j hj => pw_cell_below hW (hci j hj)) (fun j hj => pw_cell_below hW (hck j hj)))
            clear hci hck had
            by_cases hki : k = i
            · have hne : ((k : Int) != (i : Int)) = false := by rw [bne_eq_false_iff_eq]; omega
              have HCB := Aside0.mk (show confB l (i : Int) most k = false by unfold confB; rw [decide_eq_false (fun h => h (by omega))]; rfl)
              rw [HCB.out] at HCS
              simp only [Bool.false_eq_true, if_false, List.append_nil] at HCS
              clear hki HFA HCB
              go_wp2_with fail
              refine start_ (n := 14) (S := fun w' => Below wr.heap.size wr w') (ds := []) #[false, false, false, false, false, false, false, false, false, false, false, false, false, false] (by kernel_rfl) rfl rfl (below_drew1 (Below.refl _ _)) (fun hHeld => ?_)
              refine pure_ (i := 0) (N := some 36) (v := ?_) (a' := ?_) #[true, false, false, false, false, false, false, false, false, false, false, false, false, false] rfl rfl (by kernel_rfl) (fun _ _ _ h => h) (Or.inl ⟨by rfl, ?_⟩) ?_ ?_
              rotate_left
              · intro w'
                go_simp
                with_reducible rfl
              rotate_left
              · simp only [Act.put, List.setIfInBounds_toArray, List.set_cons_zero, List.set_cons_succ, i64_w, i32_w]
                rfl
              refine pure_ (i := 1) (N := some 37) (v := ?_) (a' := ?_) #[true, true, false, false, false, false, false, false, false, false, false, false, false, false] rfl rfl (by kernel_rfl) (fun _ _ _ h => h) (Or.inl ⟨by rfl, ?_⟩) ?_ ?_
              rotate_left
              · intro w'
                go_simp
                with_reducible rfl
              rotate_left
              · simp only [Act.put, List.setIfInBounds_toArray, List.set_cons_zero, List.set_cons_succ, i64_w, i32_w]
                rfl
              refine pure_ (i := 2) (N := some 38) (v := ?_) (a' := ?_) #[true, true, true, false, false, false, false, false, false, false, false, false, false, false] rfl rfl (by kernel_rfl) (fun _ _ _ h => h) (Or.inl ⟨by rfl, ?_⟩) ?_ ?_
              rotate_left
              · intro w'
                go_simp
                with_reducible rfl
              rotate_left
              · simp only [Act.put, List.setIfInBounds_toArray, List.set_cons_zero, List.set_cons_succ, i64_w, i32_w]
                rfl
              refine pure_ (i := 3) (N := some 39) (v := ?_) (a' := ?_) #[true, true, true, true, false, false, false, false, false, false, false, false, false, false] rfl rfl (by kernel_rfl) (fun _ _ _ h => h) (Or.inl ⟨by rfl, ?_⟩) ?_ ?_
              rotate_left
              · intro w'
                go_simp
                with_reducible rfl
              rotate_left
              · simp only [Act.put, List.setIfInBounds_toArray, List.set_cons_zero, List.set_cons_succ, i64_w, i32_w]
                rfl
              refine pure_ (i := 4) (N := some 40) (v := undef) (a' := ?_) #[true, true, true, true, true, false, false, false, false, false, false, false, false, false] rfl rfl (by kernel_rfl) (fun _ _ _ h => h) (Or.inr ⟨by rfl, rfl⟩) ?_ ?_
              rotate_left
              · simp only [Act.put, List.setIfInBounds_toArray, List.set_cons_zero, List.set_cons_succ, i64_w, i32_w]
                rfl
              refine pure_ (i := 5) (N := some 41) (v := undef) (a' := ?_) #[true, true, true, true, true, true, false, false, false, false, false, false, false, false] rfl rfl (by kernel_rfl) (fun _ _ _ h => h) (Or.inr ⟨by rfl, rfl⟩) ?_ ?_
              rotate_left
              · simp only [Act.put, List.setIfInBounds_toArray, List.set_cons_zero, List.set_cons_succ, i64_w, i32_w]
                rfl
              refine pure_ (i := 6) (N := some 42) (v := undef) (a' := ?_) #[true, true, true, true, true, true, true, false, false, false, false, false, false, false] rfl rfl (by kernel_rfl) (fun _ _ _ h => h) (Or.inr ⟨by rfl, rfl⟩) ?_ ?_
              rotate_left
              · simp only [Act.put, List.setIfInBounds_toArray, List.set_cons_zero, List.set_cons_succ, i64_w, i32_w]
                rfl
              refine pure_ (i := 7) (N := some 43) (v := undef) (a' := ?_) #[true, true, true, true, true, true, true, true, false, false, false, false, false, false] rfl rfl (by kernel_rfl) (fun _ _ _ h => h) (Or.inr ⟨by rfl, rfl⟩) ?_ ?_
              rotate_left
              · simp only [Act.put, List.setIfInBounds_toArray, List.set_cons_zero, List.set_cons_succ, i64_w, i32_w]
                rfl
              refine pure_ (i := 8) (N := some 44) (v := undef) (a' := ?_) #[true, true, true, true, true, true, true, true, true, false, false, false, false, false] rfl rfl (by kernel_rfl) (fun _ _ _ h => h) (Or.inr ⟨by rfl, rfl⟩) ?_ ?_
              rotate_left
              · simp only [Act.put, List.setIfInBounds_toArray, List.set_cons_zero, List.set_cons_succ, i64_w, i32_w]
                rfl
              refine pure_ (i := 9) (N := some 45) (v := undef) (a' := ?_) #[true, true, true, true, true, true, true, true, true, true, false, false, false, false] rfl rfl (by kernel_rfl) (fun _ _ _ h => h) (Or.inr ⟨by rfl, rfl⟩) ?_ ?_
              rotate_left
              · simp only [Act.put, List.setIfInBounds_toArray, List.set_cons_zero, List.set_cons_succ, i64_w, i32_w]
                rfl
              refine pure_ (i := 10) (N := some 46) (v := undef) (a' := ?_) #[true, true, true, true, true, true, true, true, true, true, true, false, false, false] rfl rfl (by kernel_rfl) (fun _ _ _ h => h) (Or.inr ⟨by rfl, rfl⟩) ?_ ?_
              rotate_left
              · simp only [Act.put, List.setIfInBounds_toArray, List.set_cons_zero, List.set_cons_succ, i64_w, i32_w]
                rfl
              refine pure_ (i := 11) (N := some 47) (v := undef) (a' := ?_) #[true, true, true, true, true, true, true, true, true, true, true, true, false, false] rfl rfl (by kernel_rfl) (fun _ _ _ h => h) (Or.inr ⟨by rfl, rfl⟩) ?_ ?_
              rotate_left
              · simp only [Act.put, List.setIfInBounds_toArray, List.set_cons_zero, List.set_cons_succ, i64_w, i32_w]
                rfl
              refine pure_ (i := 12) (N := some 48) (v := undef) (a' := ?_) #[true, true, true, true, true, true, true, true, true, true, true, true, true, false] rfl rfl (by kernel_rfl) (fun _ _ _ h => h) (Or.inr ⟨by rfl, rfl⟩) ?_ ?_
              rotate_left
              · simp only [Act.put, List.setIfInBounds_toArray, List.set_cons_zero, List.set_cons_succ, i64_w, i32_w]
                rfl
              refine pure_ (i := 13) (N := some 49) (v := ?_) (a' := ?_) #[true, true, true, true, true, true, true, true, true, true, true, true, true, true] rfl rfl (by kernel_rfl) (fun _ _ _ h => h) (Or.inl ⟨by rfl, ?_⟩) ?_ ?_
              rotate_left
              · intro w'
                go_simp
                with_reducible rfl
              rotate_left
              · simp only [Act.put, List.setIfInBounds_toArray, List.set_cons_zero, List.set_cons_succ, i64_w, i32_w]
                rfl
              refine done_ (by kernel_rfl) ?_
              skip
              have HB6 := Aside0.mk hHeld
              clear hHeld
              go_wp2_with fail
              go_roundw
              case rel => exact ⟨k + 1, by omega, by go_num, ⟨below_then HB.out HB6.out⟩, ⟨by rw [HCS.out]; exact Kd.R_below HO.out HB6.out⟩⟩
              case measure => simp [intOf]; omega
            · have hne : ((k : Int) != (i : Int)) = true := by rw [bne_iff_ne]; omega
              have HCB := Aside0.mk (show confB l (i : Int) most k = decide (farF (ra l i) (ra l k) ≤ most) by unfold confB; rw [decide_eq_true (show (k : Int) ≠ (i : Int) by omega), Int.toNat_natCast]; rfl)
              have hfb := farF_b (ra l i) (ra l k)
              generalize farF (ra l i) (ra l k) = f at *
              by_cases hfm : f ≤ most
              · have hfd : decide (f ≤ most) = true := decide_eq_true hfm
                rw [hfd] at HCB
                rw [HCB.out] at HCS
                simp only [if_true] at HCS
                clear HCB
                go_wp2_with fail
                refine start_ (n := 14) (S := fun w' => Below wr.heap.size wr w') (ds := []) #[false, false, false, false, false, false, false, false, false, false, false, false, false, false] (by kernel_rfl) rfl rfl (below_drew1 (Below.refl _ _)) (fun hHeld => ?_)
                refine pure_ (i := 0) (N := some 36) (v := ?_) (a' := ?_) #[true, false, false, false, false, false, false, false, false, false, false, false, false, false] rfl rfl (by kernel_rfl) (fun _ _ _ h => h) (Or.inl ⟨by rfl, ?_⟩) ?_ ?_
                rotate_left
                · intro w'
                  go_simp
                  with_reducible rfl
                rotate_left
                · simp only [Act.put, List.setIfInBounds_toArray, List.set_cons_zero, List.set_cons_succ, i64_w, i32_w]
                  rfl
                refine pure_ (i := 1) (N := some 37) (v := ?_) (a' := ?_) #[true, true, false, false, false, false, false, false, false, false, false, false, false, false] rfl rfl (by kernel_rfl) (fun _ _ _ h => h) (Or.inl ⟨by rfl, ?_⟩) ?_ ?_
                rotate_left
                · intro w'
                  go_simp
                  with_reducible rfl
                rotate_left
                · simp only [Act.put, List.setIfInBounds_toArray, List.set_cons_zero, List.set_cons_succ, i64_w, i32_w]
                  rfl
                refine pure_ (i := 2) (N := some 38) (v := ?_) (a' := ?_) #[true, true, true, false, false, false, false, false, false, false, false, false, false, false] rfl rfl (by kernel_rfl) (fun _ _ _ h => h) (Or.inl ⟨by rfl, ?_⟩) ?_ ?_
                rotate_left
                · intro w'
                  go_simp
                  with_reducible rfl
                rotate_left
                · simp only [Act.put, List.setIfInBounds_toArray, List.set_cons_zero, List.set_cons_succ, i64_w, i32_w]
                  rfl
                refine pure_ (i := 3) (N := some 39) (v := ?_) (a' := ?_) #[true, true, true, true, false, false, false, false, false, false, false, false, false, false] rfl rfl (by kernel_rfl) (fun _ _ _ h => h) (Or.inl ⟨by rfl, ?_⟩) ?_ ?_
                rotate_left
                · intro w'
                  go_simp
                  with_reducible rfl
                rotate_left
                · simp only [Act.put, List.setIfInBounds_toArray, List.set_cons_zero, List.set_cons_succ, i64_w, i32_w]
                  rfl
                refine pure_ (i := 4) (N := some 40) (v := ?_) (a' := ?_) #[true, true, true, true, true, false, false, false, false, false, false, false, false, false] rfl rfl (by kernel_rfl) (fun _ _ _ h => h) (Or.inl ⟨by rfl, ?_⟩) ?_ ?_
                rotate_left
                · intro w'
                  go_simp
                  with_reducible rfl
                rotate_left
                · simp only [Act.put, List.setIfInBounds_toArray, List.set_cons_zero, List.set_cons_succ, i64_w, i32_w]
                  rfl
                refine pure_ (i := 5) (N := some 41) (v := ?_) (a' := ?_) #[true, true, true, true, true, true, false, false, false, false, false, false, false, false] rfl rfl (by kernel_rfl) (fun _ _ _ h => h) (Or.inl ⟨by rfl, ?_⟩) ?_ ?_
                rotate_left
                · intro w'
                  go_simp
                  with_reducible rfl
                rotate_left
                · simp only [Act.put, List.setIfInBounds_toArray, List.set_cons_zero, List.set_cons_succ, i64_w, i32_w]
                  rfl
                refine pure_ (i := 6) (N := some 42) (v := ?_) (a' := ?_) #[true, true, true, true, true, true, true, false, false, false, false, false, false, false] rfl rfl (by kernel_rfl) (fun _ _ _ h => h) (Or.inl ⟨by rfl, ?_⟩) ?_ ?_
                rotate_left
                · intro w'
                  go_simp
                  with_reducible rfl
                rotate_left
                · simp only [Act.put, List.setIfInBounds_toArray, List.set_cons_zero, List.set_cons_succ, i64_w, i32_w]
                  rfl
                refine pure_ (i := 7) (N := some 43) (v := ?_) (a' := ?_) #[true, true, true, true, true, true, true, true, false, false, false, false, false, false] rfl rfl (by kernel_rfl) (fun _ _ _ h => h) (Or.inl ⟨by rfl, ?_⟩) ?_ ?_
                rotate_left
                · intro w'
                  go_simp
                  with_reducible rfl
                rotate_left
                · simp only [Act.put, List.setIfInBounds_toArray, List.set_cons_zero, List.set_cons_succ, i64_w, i32_w]
                  rfl
                refine pure_ (i := 8) (N := some 44) (v := ?_) (a' := ?_) #[true, true, true, true, true, true, true, true, true, false, false, false, false, false] rfl rfl (by kernel_rfl) (fun _ _ _ h => h) (Or.inl ⟨by rfl, ?_⟩) ?_ ?_
                rotate_left
                · intro w'
                  go_simp
                  with_reducible rfl
                rotate_left
                · simp only [Act.put, List.setIfInBounds_toArray, List.set_cons_zero, List.set_cons_succ, i64_w, i32_w]
                  rfl
                refine pure_ (i := 9) (N := some 45) (v := ?_) (a' := ?_) #[true, true, true, true, true, true, true, true, true, true, false, false, false, false] rfl rfl (by kernel_rfl) (fun _ _ _ h => h) (Or.inl ⟨by rfl, ?_⟩) ?_ ?_
                rotate_left
                · intro w'
                  go_simp
                  with_reducible rfl
                rotate_left
                · simp only [Act.put, List.setIfInBounds_toArray, List.set_cons_zero, List.set_cons_succ, i64_w, i32_w]
                  rfl
                refine pure_ (i := 11) (N := some 47) (v := ?_) (a' := ?_) #[true, true, true, true, true, true, true, true, true, true, false, true, false, false] rfl rfl (by kernel_rfl) (fun _ _ _ h => h) (Or.inl ⟨by rfl, ?_⟩) ?_ ?_
                rotate_left
                · intro w'
                  go_simp
                  with_reducible rfl
                rotate_left
                · simp only [Act.put, List.setIfInBounds_toArray, List.set_cons_zero, List.set_cons_succ, i64_w, i32_w]
                  rfl
                refine one_ (i := 10) (N := some 46) #[true, true, true, true, true, true, true, true, true, true, true, true, false, false] rfl rfl (by kernel_rfl) (by decide) (fun K hK => ?_)
                refine goes_ Try.func40 (by kernel_rfl) rfl #[.pointer (some (ad.add (i * 24))), .pointer (some (ad.add (k * 24)))] (by rfl) rfl rfl (by simp only [List.map_toArray, List.map_cons, List.map_nil]; rfl) ?_
                refine (HFA.out _ (below_then HB.out hHeld)).mono ?_
                rintro e w5 ⟨rfl, h⟩
                refine ⟨_, rfl, ?_⟩
                refine hK.out _ _ (hHeld.trans (h.mono hHeld.size)) (fun hHeld => ?_)
                clear hK K
                refine norm_ (a' := ?_) ?_ ?_
                rotate_left
                · show Act.put _ (some 46) _ = _
                  simp only [Act.put, List.setIfInBounds_toArray, List.set_cons_zero, List.set_cons_succ, i64_w, i32_w]
                  rfl
                refine pure_ (i := 12) (N := some 48) (v := ?_) (a' := ?_) #[true, true, true, true, true, true, true, true, true, true, true, true, true, false] rfl rfl (by kernel_rfl) (fun _ _ _ h => h) (Or.inl ⟨by rfl, ?_⟩) ?_ ?_
                rotate_left
                · intro w'
                  go_simp
                  with_reducible rfl
                rotate_left
                · simp only [Act.put, List.setIfInBounds_toArray, List.set_cons_zero, List.set_cons_succ, i64_w, i32_w]
                  rfl
                refine pure_ (i := 13) (N := some 49) (v := ?_) (a' := ?_) #[true, true, true, true, true, true, true, true, true, true, true, true, true, true] rfl rfl (by kernel_rfl) (fun _ _ _ h => h) (Or.inl ⟨by rfl, ?_⟩) ?_ ?_
                rotate_left
                · intro w'
                  go_simp
                  with_reducible rfl
                rotate_left
                · simp only [Act.put, List.setIfInBounds_toArray, List.set_cons_zero, List.set_cons_succ, i64_w, i32_w]
                  rfl
                refine done_ (by kernel_rfl) ?_
                skip
                have HB6 := Aside0.mk hHeld
                have HB7 := Aside0.mk (below_then HB.out hHeld)
                clear hHeld
                go_wp2_with (first
                  | ((with_reducible refine gate_builtin (b := .append) (xs := #[.tmp 50, .tmp 52]) rfl ?_); at_builtin; refine Kd.R_append (Kd.int .i64) (w0 := w) w.heap.size rfl (.tmp 50) (.tmp 52) 44 2 (.int .i64 0) 8 rfl Try.underlying44 infoI64F rfl (by decide) (by omega) u9 (confL l (i : Int) most k) (k : Int) [.int .i64 (k : Int)] (fun _ => True) (fun _ => False) rfl rfl rfl (fun _ hk => hk.elim) (fun _ _ => trivial) (Kd.R_below HO.out HB6.out) HB7.out HB7.out.size (by have := HL.out; omega) ?_; intro v7 w7 ho7 hb7 hg7 hat7; have HO7 := Aside0.mk ho7; have HB8 := Aside0.mk hb7; clear ho7 hb7 hg7 hat7))
                go_roundw
                case rel => exact ⟨k + 1, by omega, by go_num, HB8, ⟨by rw [HCS.out]; exact HO7.out⟩⟩
                case measure => simp [intOf]; omega
              · have hfd : decide (f ≤ most) = false := decide_eq_false hfm
                rw [hfd] at HCB
                rw [HCB.out] at HCS
                simp only [Bool.false_eq_true, if_false, List.append_nil] at HCS
                clear HCB
                go_wp2_with fail
                refine start_ (n := 14) (S := fun w' => Below wr.heap.size wr w') (ds := []) #[false, false, false, false, false, false, false, false, false, false, false, false, false, false] (by kernel_rfl) rfl rfl (below_drew1 (Below.refl _ _)) (fun hHeld => ?_)
                refine pure_ (i := 0) (N := some 36) (v := ?_) (a' := ?_) #[true, false, false, false, false, false, false, false, false, false, false, false, false, false] rfl rfl (by kernel_rfl) (fun _ _ _ h => h) (Or.inl ⟨by rfl, ?_⟩) ?_ ?_
                rotate_left
                · intro w'
                  go_simp
                  with_reducible rfl
                rotate_left
                · simp only [Act.put, List.setIfInBounds_toArray, List.set_cons_zero, List.set_cons_succ, i64_w, i32_w]
                  rfl
                refine pure_ (i := 1) (N := some 37) (v := ?_) (a' := ?_) #[true, true, false, false, false, false, false, false, false, false, false, false, false, false] rfl rfl (by kernel_rfl) (fun _ _ _ h => h) (Or.inl ⟨by rfl, ?_⟩) ?_ ?_
                rotate_left
                · intro w'
                  go_simp
                  with_reducible rfl
                rotate_left
                · simp only [Act.put, List.setIfInBounds_toArray, List.set_cons_zero, List.set_cons_succ, i64_w, i32_w]
                  rfl
                refine pure_ (i := 2) (N := some 38) (v := ?_) (a' := ?_) #[true, true, true, false, false, false, false, false, false, false, false, false, false, false] rfl rfl (by kernel_rfl) (fun _ _ _ h => h) (Or.inl ⟨by rfl, ?_⟩) ?_ ?_
                rotate_left
                · intro w'
                  go_simp
                  with_reducible rfl
                rotate_left
                · simp only [Act.put, List.setIfInBounds_toArray, List.set_cons_zero, List.set_cons_succ, i64_w, i32_w]
                  rfl
                refine pure_ (i := 3) (N := some 39) (v := ?_) (a' := ?_) #[true, true, true, true, false, false, false, false, false, false, false, false, false, false] rfl rfl (by kernel_rfl) (fun _ _ _ h => h) (Or.inl ⟨by rfl, ?_⟩) ?_ ?_
                rotate_left
                · intro w'
                  go_simp
                  with_reducible rfl
                rotate_left
                · simp only [Act.put, List.setIfInBounds_toArray, List.set_cons_zero, List.set_cons_succ, i64_w, i32_w]
                  rfl
                refine pure_ (i := 4) (N := some 40) (v := ?_) (a' := ?_) #[true, true, true, true, true, false, false, false, false, false, false, false, false, false] rfl rfl (by kernel_rfl) (fun _ _ _ h => h) (Or.inl ⟨by rfl, ?_⟩) ?_ ?_
                rotate_left
                · intro w'
                  go_simp
                  with_reducible rfl
                rotate_left
                · simp only [Act.put, List.setIfInBounds_toArray, List.set_cons_zero, List.set_cons_succ, i64_w, i32_w]
                  rfl
                refine pure_ (i := 5) (N := some 41) (v := ?_) (a' := ?_) #[true, true, true, true, true, true, false, false, false, false, false, false, false, false] rfl rfl (by kernel_rfl) (fun _ _ _ h => h) (Or.inl ⟨by rfl, ?_⟩) ?_ ?_
                rotate_left
                · intro w'
                  go_simp
                  with_reducible rfl
                rotate_left
                · simp only [Act.put, List.setIfInBounds_toArray, List.set_cons_zero, List.set_cons_succ, i64_w, i32_w]
                  rfl
                refine pure_ (i := 6) (N := some 42) (v := ?_) (a' := ?_) #[true, true, true, true, true, true, true, false, false, false, false, false, false, false] rfl rfl (by kernel_rfl) (fun _ _ _ h => h) (Or.inl ⟨by rfl, ?_⟩) ?_ ?_
                rotate_left
                · intro w'
                  go_simp
                  with_reducible rfl
                rotate_left
                · simp only [Act.put, List.setIfInBounds_toArray, List.set_cons_zero, List.set_cons_succ, i64_w, i32_w]
                  rfl
                refine pure_ (i := 7) (N := some 43) (v := ?_) (a' := ?_) #[true, true, true, true, true, true, true, true, false, false, false, false, false, false] rfl rfl (by kernel_rfl) (fun _ _ _ h => h) (Or.inl ⟨by rfl, ?_⟩) ?_ ?_
                rotate_left
                · intro w'
                  go_simp
                  with_reducible rfl
                rotate_left
                · simp only [Act.put, List.setIfInBounds_toArray, List.set_cons_zero, List.set_cons_succ, i64_w, i32_w]
                  rfl
                refine pure_ (i := 8) (N := some 44) (v := ?_) (a' := ?_) #[true, true, true, true, true, true, true, true, true, false, false, false, false, false] rfl rfl (by kernel_rfl) (fun _ _ _ h => h) (Or.inl ⟨by rfl, ?_⟩) ?_ ?_
                rotate_left
                · intro w'
                  go_simp
                  with_reducible rfl
                rotate_left
                · simp only [Act.put, List.setIfInBounds_toArray, List.set_cons_zero, List.set_cons_succ, i64_w, i32_w]
                  rfl
                refine pure_ (i := 9) (N := some 45) (v := ?_) (a' := ?_) #[true, true, true, true, true, true, true, true, true, true, false, false, false, false] rfl rfl (by kernel_rfl) (fun _ _ _ h => h) (Or.inl ⟨by rfl, ?_⟩) ?_ ?_
                rotate_left
                · intro w'
                  go_simp
                  with_reducible rfl
                rotate_left
                · simp only [Act.put, List.setIfInBounds_toArray, List.set_cons_zero, List.set_cons_succ, i64_w, i32_w]
                  rfl
                refine pure_ (i := 11) (N := some 47) (v := ?_) (a' := ?_) #[true, true, true, true, true, true, true, true, true, true, false, true, false, false] rfl rfl (by kernel_rfl) (fun _ _ _ h => h) (Or.inl ⟨by rfl, ?_⟩) ?_ ?_
                rotate_left
                · intro w'
                  go_simp
                  with_reducible rfl
                rotate_left
                · simp only [Act.put, List.setIfInBounds_toArray, List.set_cons_zero, List.set_cons_succ, i64_w, i32_w]
                  rfl
                refine one_ (i := 10) (N := some 46) #[true, true, true, true, true, true, true, true, true, true, true, true, false, false] rfl rfl (by kernel_rfl) (by decide) (fun K hK => ?_)
                refine goes_ Try.func40 (by kernel_rfl) rfl #[.pointer (some (ad.add (i * 24))), .pointer (some (ad.add (k * 24)))] (by rfl) rfl rfl (by simp only [List.map_toArray, List.map_cons, List.map_nil]; rfl) ?_
                refine (HFA.out _ (below_then HB.out hHeld)).mono ?_
                rintro e w5 ⟨rfl, h⟩
                refine ⟨_, rfl, ?_⟩
                refine hK.out _ _ (hHeld.trans (h.mono hHeld.size)) (fun hHeld => ?_)
                clear hK K
                refine norm_ (a' := ?_) ?_ ?_
                rotate_left
                · show Act.put _ (some 46) _ = _
                  simp only [Act.put, List.setIfInBounds_toArray, List.set_cons_zero, List.set_cons_succ, i64_w, i32_w]
                  rfl
                refine pure_ (i := 12) (N := some 48) (v := ?_) (a' := ?_) #[true, true, true, true, true, true, true, true, true, true, true, true, true, false] rfl rfl (by kernel_rfl) (fun _ _ _ h => h) (Or.inl ⟨by rfl, ?_⟩) ?_ ?_
                rotate_left
                · intro w'
                  go_simp
                  with_reducible rfl
                rotate_left
                · simp only [Act.put, List.setIfInBounds_toArray, List.set_cons_zero, List.set_cons_succ, i64_w, i32_w]
                  rfl
                refine pure_ (i := 13) (N := some 49) (v := ?_) (a' := ?_) #[true, true, true, true, true, true, true, true, true, true, true, true, true, true] rfl rfl (by kernel_rfl) (fun _ _ _ h => h) (Or.inl ⟨by rfl, ?_⟩) ?_ ?_
                rotate_left
                · intro w'
                  go_simp
                  with_reducible rfl
                rotate_left
                · simp only [Act.put, List.setIfInBounds_toArray, List.set_cons_zero, List.set_cons_succ, i64_w, i32_w]
                  rfl
                refine done_ (by kernel_rfl) ?_
                skip
                have HB6 := Aside0.mk hHeld
                clear hHeld
                go_wp2_with fail
                go_roundw
                case rel => exact ⟨k + 1, by omega, by go_num, ⟨below_then HB.out HB6.out⟩, ⟨by rw [HCS.out]; exact Kd.R_below HO.out HB6.out⟩⟩
                case measure => simp [intOf]; omega
          · obtain rfl : k = l.length := by omega
            go_wp2_with fail
            go_ret2
            exact ⟨_, rfl, HO.out, HB.out⟩
      · rw [decide_eq_false hm] at HI2
        rw [if_neg (fun h => hm h.2)]
        clear hi hm hfl hp h40
        go_enter Try.func17, Try.ntmps17
        go_wp2_with (first
          | (go_at_call 38; refine HS.out.mono ?_; rintro e w1 ⟨rfl, h⟩; have HB1 := Aside0.mk h; clear h)
          | (go_at_call 39; (with_reducible refine (HI1.out _).mono ?_); rintro e w2 ⟨rfl, h⟩; have HB2 := Aside0.mk (below_then HB1.out h); clear h)
          | (go_at_call 39; (with_reducible refine (HI2.out _).mono ?_); rintro e w3 ⟨rfl, h⟩; have HB3 := Aside0.mk (below_then HB2.out h); clear h))
        go_ret2
        exact ⟨_, rfl, HLI.out _ HB3.out, below_alloc HB3.out _⟩
    · rw [decide_eq_false hi] at HI1
      rw [if_neg (fun h => hi h.1)]
      clear hi hfl hp h40
      go_enter Try.func17, Try.ntmps17
      go_wp2_with (first
        | (go_at_call 38; refine HS.out.mono ?_; rintro e w1 ⟨rfl, h⟩; have HB1 := Aside0.mk h; clear h)
        | (go_at_call 39; (with_reducible refine (HI1.out _).mono ?_); rintro e w2 ⟨rfl, h⟩; have HB2 := Aside0.mk (below_then HB1.out h); clear h))
      go_ret2
      exact ⟨_, rfl, HLI.out _ HB2.out, below_alloc HB2.out _⟩
  · rw [if_neg hs]
    have hsb : (setC l != 0) = true := by rw [bne_iff_ne]; exact hs
    clear hs hp
    generalize setC l = q at *
    go_enter Try.func17, Try.ntmps17
    go_wp2_with (first
      | (go_at_call 38; refine HS.out.mono ?_; rintro e w1 ⟨rfl, h⟩; have HB1 := Aside0.mk h; clear h))
    go_ret2
    exact ⟨_, rfl, HLI.out _ HB1.out, below_alloc HB1.out _⟩
end Go.Proofs.Ytodgnbcfihifiaa.Arr
