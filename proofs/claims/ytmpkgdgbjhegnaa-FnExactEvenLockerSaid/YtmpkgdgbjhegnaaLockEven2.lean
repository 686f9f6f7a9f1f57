/- Lockers that are even, as both parts make them; lockers that are compared. No condition. -/
import Derived.Test.YtmpkgdgbjhegnaaLockEven
namespace Go.Proofs.Ytmpkgdgbjhegnaa.Arr
open Go.RowKit Go.Proofs.YtmpkgdgbjhegnaaW.PrintWords Go.Proofs.YtmpkgdgbjhegnaaW.PrintLast Go.Proofs.YtmpkgdgbjhegnaaW.PrintMore Go.Proofs.Ytmpkgdgbjhegnaa.U Go.Proofs.Ytmpkgdgbjhegnaa.B
set_option linter.unusedVariables false
set_option linter.unusedSimpArgs false

set_option maxHeartbeats 4000000 in
set_option maxRecDepth 100000 in
theorem eqLocker_calls (L L' : List Int) (w : World) (hl : L.length = 44) (hl' : L'.length = 44) : Calls Try.prog 17 #[.agg (vals .i16 L), .agg (vals .i16 L')] w fun e w' => e = .returned (.bool (decide (L = L'))) ∧ Below w.heap.size w w' := by
  have hm := Mem.start w
  have HL := Aside0.mk (halves L hl)
  have HL' := Aside0.mk (halves L' hl')
  go_enter Try.func17, Try.ntmps17
  go_wp2_with (first
    | arr
    | (go_at_call 52; refine (decided (eqInt16A40_calls _ _ _ (by arr_len) (by arr_len))).mono ?_; rintro e wa ⟨b1, HB1, rfl, hb⟩; replace hm := hm.after hb; clear hb; cases b1)
    | (go_at_call 53; refine (decided (eqInt16A4_calls _ _ _ (by arr_len) (by arr_len))).mono ?_; rintro e wa ⟨b2, HB2, rfl, hb⟩; replace hm := hm.after hb; clear hb; cases b2))
  all_goals
    go_ret
    refine ⟨?_, hm.done rfl⟩
  · rw [decide_eq_false (p := L = L')]
    · rfl
    · intro e; subst e; simpa using HB1.out
  · rw [decide_eq_false (p := L = L')]
    · rfl
    · intro e; subst e; simpa using HB2.out
  · rw [decide_eq_true (p := L = L')]
    · rfl
    · have h1 : List.take 40 (List.drop 0 L) = List.take 40 (List.drop 0 L') := by simpa using HB1.out
      have h2 : List.take 4 (List.drop 40 L) = List.take 4 (List.drop 40 L') := by simpa using HB2.out
      exact HL.out.trans ((by rw [h1, h2] : _ = _).trans HL'.out.symm)

set_option maxHeartbeats 4000000 in
set_option maxRecDepth 100000 in
theorem specEven_bad (sets kinds subs : Int) (w : World) (hbad : ¬ ((0 ≤ sets ∧ sets ≤ 20) ∧ (0 ≤ kinds ∧ kinds ≤ 40) ∧ (0 ≤ subs ∧ subs ≤ 4))) : Calls Try.prog 15 #[.int .i64 sets, .int .i64 kinds, .int .i64 subs] w fun e w' =>
    e = .returned (.tuple #[.agg (vals .i16 (zs 44)), .int .i64 2]) ∧ Below w.heap.size w w' := by
  have hm := Mem.start w
  have HBAD := Aside0.mk hbad
  clear hbad
  go_enter Try.func15, Try.ntmps15
  by_cases hs : 0 ≤ sets ∧ sets ≤ 20
  · by_cases hk : 0 ≤ kinds ∧ kinds ≤ 40
    · have hb : ¬ (0 ≤ subs ∧ subs ≤ 4) := fun h => HBAD.out ⟨hs, hk, h⟩
      go_wp2_with (first
        | arr
        | (go_at_call 48; refine (in_calls _ _ _ _).mono ?_; rintro e wa ⟨rfl, hb⟩; replace hm := hm.after hb; clear hb))
      all_goals
        arr_ret 1 agg26
        exact ⟨rfl, hm.done rfl⟩
    · go_wp2_with (first
        | arr
        | (go_at_call 48; refine (in_calls _ _ _ _).mono ?_; rintro e wa ⟨rfl, hb⟩; replace hm := hm.after hb; clear hb))
      all_goals
        arr_ret 1 agg26
        exact ⟨rfl, hm.done rfl⟩
  · go_wp2_with (first
      | arr
      | (go_at_call 48; refine (in_calls _ _ _ _).mono ?_; rintro e wa ⟨rfl, hb⟩; replace hm := hm.after hb; clear hb))
    all_goals
      arr_ret 1 agg26
      exact ⟨rfl, hm.done rfl⟩
set_option maxHeartbeats 4000000 in
set_option maxRecDepth 100000 in
theorem specEven_ok (sets kinds subs : Int) (w : World) (hs : 0 ≤ sets ∧ sets ≤ 20) (hk : 0 ≤ kinds ∧ kinds ≤ 40) (hb : 0 ≤ subs ∧ subs ≤ 4) : Calls Try.prog 15 #[.int .i64 sets, .int .i64 kinds, .int .i64 subs] w fun e w' =>
    e = .returned (.tuple #[.agg (vals .i16 (fillTo (fillTo (zs 44) 0 kinds.toNat sets) 40 subs.toNat sets)), .int .i64 0]) ∧ Below w.heap.size w w' := by
  have hm := Mem.start w
  have HW := Aside0.mk (w16_small (x := sets) (by omega) (by omega))
  unfold w16 at HW
  go_enter Try.func15, Try.ntmps15
  go_wp2_with (first
    | arr
    | (go_at_call 48; refine (in_calls _ _ _ _).mono ?_; rintro e wa ⟨rfl, hb⟩; replace hm := hm.after hb; clear hb))
  go_loopw [9] (fun v9 wr => ∃ i : Nat, (i : Int) ≤ kinds ∧ v9 = .int .i64 i ∧ Mem w wr [⟨g8, vals .i16 (fillTo (zs 44) 0 i sets), 26, true⟩, ⟨g6, vals .i16 (zs 44), 26, true⟩]) (fun v9 _ => kinds.toNat - (intOf v9).toNat)
  case atStart => exact ⟨0, by omega, rfl, by rw [fillTo_zero]; exact hm⟩
  case round =>
    obtain ⟨i, hi, rfl, hm⟩ := hrel
    have hl2 := fillTo_length (zs 44) 0 i sets (by rw [zs_length]; omega)
    rw [zs_length] at hl2
    by_cases hlt : (i : Int) < kinds
    · go_wp2_with arr
      go_roundw
      case rel =>
        refine ⟨i + 1, by omega, by go_num, ?_⟩
        rw [← fillTo_succ (zs 44) 0 i sets (by rw [zs_length]; omega)]
        simpa using hm
      case measure => simp [intOf]; omega
    · have HI := Aside0.mk (show kinds.toNat = i by omega)
      generalize hF : fillTo (zs 44) 0 i sets = F at *
      have HF := Aside0.mk hF
      clear hF
      go_wp2_with arr
      go_loopw [10] (fun v10 wr => ∃ i : Nat, (i : Int) ≤ subs ∧ v10 = .int .i64 i ∧ Mem w wr [⟨g8, vals .i16 (fillTo F 40 i sets), 26, true⟩, ⟨g6, vals .i16 (zs 44), 26, true⟩]) (fun v10 _ => subs.toNat - (intOf v10).toNat)
      case atStart => exact ⟨0, by omega, rfl, by rw [fillTo_zero]; exact hm⟩
      case round =>
        obtain ⟨i2, hi2, rfl, hm⟩ := hrel
        have hl3 := fillTo_length F 40 i2 sets (by omega)
        by_cases hlt : (i2 : Int) < subs
        · go_wp2_with arr
          go_roundw
          case rel =>
            refine ⟨i2 + 1, by omega, by go_num, ?_⟩
            rw [← fillTo_succ F 40 i2 sets (by omega)]
            simpa using hm
          case measure => simp [intOf]; omega
        · have HI2 := Aside0.mk (show subs.toNat = i2 by omega)
          go_wp2_with arr
          arr_ret 1 agg26
          exact ⟨by rw [HI.out, HI2.out, HF.out]; rfl, hm.done rfl⟩

set_option maxHeartbeats 4000000 in
set_option maxRecDepth 100000 in
theorem implEven_bad (sets kinds subs : Int) (w : World) (hbad : ¬ ((0 ≤ sets ∧ sets ≤ 20) ∧ (0 ≤ kinds ∧ kinds ≤ 40) ∧ (0 ≤ subs ∧ subs ≤ 4))) : Calls Try.prog 16 #[.int .i64 sets, .int .i64 kinds, .int .i64 subs] w fun e w' =>
    e = .returned (.tuple #[.agg (vals .i16 (zs 44)), .int .i64 2]) ∧ Below w.heap.size w w' := by
  have hm := Mem.start w
  have HBAD := Aside0.mk hbad
  clear hbad
  go_enter Try.func16, Try.ntmps16
  by_cases hs : 0 ≤ sets ∧ sets ≤ 20
  · by_cases hk : 0 ≤ kinds ∧ kinds ≤ 40
    · have hb : ¬ (0 ≤ subs ∧ subs ≤ 4) := fun h => HBAD.out ⟨hs, hk, h⟩
      go_wp2_with (first
        | arr
        | (go_at_call 49; refine (within_calls _ _ _ _).mono ?_; rintro e wa ⟨rfl, hb⟩; replace hm := hm.after hb; clear hb))
      all_goals
        arr_ret 0 agg26
        exact ⟨rfl, hm.done rfl⟩
    · go_wp2_with (first
        | arr
        | (go_at_call 49; refine (within_calls _ _ _ _).mono ?_; rintro e wa ⟨rfl, hb⟩; replace hm := hm.after hb; clear hb))
      all_goals
        arr_ret 0 agg26
        exact ⟨rfl, hm.done rfl⟩
  · go_wp2_with (first
      | arr
      | (go_at_call 49; refine (within_calls _ _ _ _).mono ?_; rintro e wa ⟨rfl, hb⟩; replace hm := hm.after hb; clear hb))
    all_goals
      arr_ret 0 agg26
      exact ⟨rfl, hm.done rfl⟩

set_option maxHeartbeats 4000000 in
set_option maxRecDepth 100000 in
theorem implEven_ok (sets kinds subs : Int) (w : World) (hs : 0 ≤ sets ∧ sets ≤ 20) (hk : 0 ≤ kinds ∧ kinds ≤ 40) (hb : 0 ≤ subs ∧ subs ≤ 4) : Calls Try.prog 16 #[.int .i64 sets, .int .i64 kinds, .int .i64 subs] w fun e w' =>
    e = .returned (.tuple #[.agg (vals .i16 ((fillTo (fillTo (fillTo (zs 44) 0 40 sets) 40 subs.toNat sets) kinds.toNat (40 - kinds.toNat) 0).map w16)), .int .i64 0]) ∧ Below w.heap.size w w' := by
  have hm := Mem.start w
  have h40 : (fillTo (zs 44) 0 40 sets).length = 44 := (fillTo_length (zs 44) 0 40 sets (by rw [zs_length]; omega)).trans zs_length
  have HEV := Aside0.mk ((fillTo_length (fillTo (zs 44) 0 40 sets) 40 subs.toNat sets (by omega)).trans h40)
  clear h40
  have HC := Aside0.mk (fun w => even_calls sets subs w hb.2 hb.1)
  generalize hF : fillTo (fillTo (zs 44) 0 40 sets) 40 subs.toNat sets = F at *
  clear hF
  have hl := HEV.out
  go_enter Try.func16, Try.ntmps16
  go_wp2_with (first
    | arr
    | (go_at_call 49; refine (within_calls _ _ _ _).mono ?_; rintro e wa ⟨rfl, hb⟩; replace hm := hm.after hb; clear hb)
    | (go_at_call 50; refine (HC.out _).mono ?_; rintro e wa ⟨rfl, hb⟩; replace hm := hm.after hb; clear hb))
  go_loopw [9] (fun v9 wr => ∃ i : Nat, kinds.toNat + i ≤ 40 ∧ v9 = .int .i64 (kinds.toNat + i : Nat) ∧ Mem w wr [⟨g8, vals .i64 (fillTo F kinds.toNat i 0), 68, true⟩, ⟨g6, vals .i16 (zs 44), 26, true⟩]) (fun v9 _ => 40 - (intOf v9).toNat)
  case atStart => exact ⟨0, by omega, by simp; omega, by rw [fillTo_zero]; exact hm⟩
  case round =>
    obtain ⟨i, hi, rfl, hm⟩ := hrel
    have hl2 := fillTo_length F kinds.toNat i 0 (by omega)
    by_cases hlt : kinds.toNat + i < 40
    · go_wp2_with arr
      go_roundw
      case rel =>
        refine ⟨i + 1, by omega, by go_num, ?_⟩
        rw [← fillTo_succ F kinds.toNat i 0 (by omega)]
        simpa only [Nat.zero_add, Int.toNat_natCast] using hm
      case measure => simp [intOf]; omega
    · have HI := Aside0.mk (show 40 - kinds.toNat = i by omega)
      have hl3 := hl2.trans hl
      go_wp2_with (first
        | arr
        | (go_at_call 51; refine (locker_calls _ _ hl3).mono ?_; rintro e wa ⟨rfl, hb⟩; replace hm := hm.after hb; clear hb))
      arr_ret 1 agg26
      exact ⟨by rw [HI.out]; rfl, hm.done rfl⟩
/-- Both make the same locker. -/
theorem even_same (sets kinds subs : Int) (hs : 0 ≤ sets ∧ sets ≤ 20) (hk : 0 ≤ kinds ∧ kinds ≤ 40) (hb : 0 ≤ subs ∧ subs ≤ 4) :
    (fillTo (fillTo (fillTo (zs 44) 0 40 sets) 40 subs.toNat sets) kinds.toNat (40 - kinds.toNat) 0).map w16 = fillTo (fillTo (zs 44) 0 kinds.toNat sets) 40 subs.toNat sets := by
  have h1 := w16_small (x := sets) (by omega) (by omega)
  have h2 := w16_small (x := 0) (by omega) (by omega)
  have h3 : kinds.toNat ≤ 40 := by omega
  have h4 : subs.toNat ≤ 4 := by omega
  generalize kinds.toNat = k at *
  generalize subs.toNat = m at *
  have e1 : (fillTo (zs 44) 0 40 sets).length = 44 := (fillTo_length _ _ _ _ (by rw [zs_length]; omega)).trans zs_length
  have e2 : (fillTo (fillTo (zs 44) 0 40 sets) 40 m sets).length = 44 := (fillTo_length _ _ _ _ (by omega)).trans e1
  have e3 : (fillTo (zs 44) 0 k sets).length = 44 := (fillTo_length _ _ _ _ (by rw [zs_length]; omega)).trans zs_length
  apply List.ext_getElem?
  intro j
  rw [List.getElem?_map, fillTo_get _ _ _ _ (by omega), fillTo_get _ _ _ _ (by omega), fillTo_get _ _ _ _ (by rw [zs_length]; omega), fillTo_get _ _ _ _ (by omega), fillTo_get _ _ _ _ (by rw [zs_length]; omega)]
  have hz : (zs 44)[j]? = if j < 44 then some 0 else none := by
    show (List.replicate 44 (0 : Int))[j]? = _
    rw [List.getElem?_replicate]
  rw [hz]
  repeat' split
  all_goals first | omega | rfl | (rw [Option.map_some, h1]; done) | (rw [Option.map_some, h2]; done) | (rw [Option.map_some, h1]; congr 1; omega) | (exfalso; omega)

theorem law_FnExactEvenLocker (sets : Int) (_ : (Lit.int .i64 sets).wf = true) (kinds : Int) (_ : (Lit.int .i64 kinds).wf = true) (subs : Int) (_ : (Lit.int .i64 subs).wf = true) (w : World) : Calls Try.prog 3 #[.int .i64 sets, .int .i64 kinds, .int .i64 subs] w fun e w' => e = .returned (.bool true) ∧ Below w.heap.size w w' := by
  obtain ⟨S, c, G, HS, HG, hl, hl', hSG⟩ : ∃ (S : List Int) (c : Int) (G : List Int),
      (∀ w, Calls Try.prog 15 #[.int .i64 sets, .int .i64 kinds, .int .i64 subs] w fun e w' => e = .returned (.tuple #[.agg (vals .i16 S), .int .i64 c]) ∧ Below w.heap.size w w') ∧
      (∀ w, Calls Try.prog 16 #[.int .i64 sets, .int .i64 kinds, .int .i64 subs] w fun e w' => e = .returned (.tuple #[.agg (vals .i16 G), .int .i64 c]) ∧ Below w.heap.size w w') ∧ S.length = 44 ∧ G.length = 44 ∧ G = S := by
    by_cases h : (0 ≤ sets ∧ sets ≤ 20) ∧ (0 ≤ kinds ∧ kinds ≤ 40) ∧ (0 ≤ subs ∧ subs ≤ 4)
    · have hlen : (fillTo (fillTo (zs 44) 0 kinds.toNat sets) 40 subs.toNat sets).length = 44 := by
        have h1 : (fillTo (zs 44) 0 kinds.toNat sets).length = 44 := (fillTo_length _ _ _ _ (by rw [zs_length]; omega)).trans zs_length
        exact (fillTo_length _ _ _ _ (by omega)).trans h1
      have e := even_same sets kinds subs h.1 h.2.1 h.2.2
      exact ⟨_, 0, _, fun w => specEven_ok sets kinds subs w h.1 h.2.1 h.2.2, fun w => implEven_ok sets kinds subs w h.1 h.2.1 h.2.2, hlen, by rw [e]; exact hlen, e⟩
    · exact ⟨_, 2, _, fun w => specEven_bad sets kinds subs w h, fun w => implEven_bad sets kinds subs w h, zs_length, zs_length, rfl⟩
  have HS' := Aside0.mk HS
  have HG' := Aside0.mk HG
  have HE := Aside0.mk hSG
  clear HS HG hSG
  have hm := Mem.start w
  go_enter Try.func3, Try.ntmps3
  go_wp2_with (first
    | arr
    | (go_at_call 15; refine (HS'.out _).mono ?_; rintro e wa ⟨rfl, hb⟩; replace hm := hm.after hb; clear hb)
    | (go_at_call 16; refine (HG'.out _).mono ?_; rintro e wa ⟨rfl, hb⟩; replace hm := hm.after hb; clear hb)
    | (go_at_call 17; refine (eqLocker_calls _ _ _ hl' hl).mono ?_; rintro e wa ⟨rfl, hb⟩; replace hm := hm.after hb; clear hb; rw [decide_eq_true (p := G = S) HE.out]))
  go_ret
  exact ⟨rfl, hm.done rfl⟩
-- law FnExactEvenLocker
end Go.Proofs.Ytmpkgdgbjhegnaa.Arr
