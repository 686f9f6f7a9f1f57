/- Lockers that are even: the walks of both, and that both are the same. No condition. -/
import Derived.Test.YtmpkgdgbjhegnaaLockLib
namespace Go.Proofs.Ytmpkgdgbjhegnaa.Arr
open Go.RowKit Go.Proofs.YtmpkgdgbjhegnaaW.PrintWords Go.Proofs.YtmpkgdgbjhegnaaW.PrintLast Go.Proofs.YtmpkgdgbjhegnaaW.PrintMore Go.Proofs.Ytmpkgdgbjhegnaa.U Go.Proofs.Ytmpkgdgbjhegnaa.B
set_option linter.unusedVariables false
set_option linter.unusedSimpArgs false

set_option maxHeartbeats 4000000 in
set_option maxRecDepth 100000 in
theorem even_calls (sets subs : Int) (w : World) (h : subs ≤ 4) (h0 : 0 ≤ subs) : Calls Try.prog 50 #[.int .i64 sets, .int .i64 subs] w fun e w' =>
    e = .returned (.agg (vals .i64 (fillTo (fillTo (zs 44) 0 40 sets) 40 subs.toNat sets))) ∧ Below w.heap.size w w' := by
  have hm := Mem.start w
  go_enter Try.func50, Try.ntmps50
  go_wp2_with arr
  go_loopw [9, 6] (fun v9 v6 wr => ∃ i : Nat, i ≤ 40 ∧ v9 = .int .i64 i ∧ Mem w wr [⟨g5, vals .i64 (fillTo (zs 44) 0 i sets), 68, true⟩, ⟨g4, vals .i64 (zs 44), 68, true⟩]) (fun v9 _ _ => 40 - (intOf v9).toNat)
  case atStart => exact ⟨0, by omega, rfl, by rw [fillTo_zero]; exact hm⟩
  case round =>
    obtain ⟨i, hi, rfl, hm⟩ := hrel
    by_cases hlt : i < 40
    · have hl := fillTo_length (zs 44) 0 i sets (by rw [zs_length]; omega)
      rw [zs_length] at hl
      go_wp2_with arr
      go_roundw
      case rel =>
        refine ⟨i + 1, by omega, by go_num, ?_⟩
        rw [← fillTo_succ _ _ _ _ (by rw [zs_length]; omega)]
        simpa using hm
      case measure => simp [intOf]; omega
    · have HI := Aside0.mk (show i = 40 by omega)
      have hl := fillTo_length (zs 44) 0 i sets (by rw [zs_length]; omega)
      rw [zs_length] at hl
      generalize hF : fillTo (zs 44) 0 i sets = F at *
      have HF := Aside0.mk hF
      clear hF
      go_wp2_with arr
      go_loopw [18, 7] (fun v18 v7 wr => ∃ i : Nat, (i : Int) ≤ subs ∧ v18 = .int .i64 i ∧ Mem w wr [⟨g5, vals .i64 (fillTo F 40 i sets), 68, true⟩, ⟨g4, vals .i64 (zs 44), 68, true⟩]) (fun v18 _ _ => subs.toNat - (intOf v18).toNat)
      case atStart => exact ⟨0, by omega, rfl, by rw [fillTo_zero]; exact hm⟩
      case round =>
        obtain ⟨i, hi, rfl, hm⟩ := hrel
        have hl2 := fillTo_length F 40 i sets (by omega)
        by_cases hlt : (i : Int) < subs
        · go_wp2_with arr
          go_roundw
          case rel =>
            refine ⟨i + 1, by omega, by go_num, ?_⟩
            rw [← fillTo_succ _ _ _ _ (by omega)]
            simpa using hm
          case measure => simp [intOf]; omega
        · have HI2 := Aside0.mk (show subs.toNat = i by omega)
          go_wp2_with arr
          arr_ret 1 agg68
          exact ⟨by rw [HI2.out, ← HF.out, HI.out], hm.done rfl⟩
def w16 (x : Int) : Int := IntKind.i16.wrap x
theorem w16_small {x : Int} (h0 : 0 ≤ x) (h1 : x ≤ 20000) : w16 x = x := by
  unfold w16 IntKind.wrap
  simp only [IntKind.signed, IntKind.bits]
  simp
  omega

set_option maxHeartbeats 4000000 in
set_option maxRecDepth 100000 in
theorem locker_calls (L : List Int) (w : World) (hl : L.length = 44) : Calls Try.prog 51 #[.agg (vals .i64 L)] w fun e w' =>
    e = .returned (.agg (vals .i16 (L.map w16))) ∧ Below w.heap.size w w' := by
  have hm := Mem.start w
  go_enter Try.func51, Try.ntmps51
  go_wp2_with arr
  go_loopw [11, 4, 5] (fun v11 v4 v5 wr => ∃ i : Nat, i ≤ 40 ∧ v11 = .int .i64 i ∧ Mem w wr [⟨g3, vals .i16 (mixTo (zs 44) (L.map w16) 0 i), 26, true⟩, ⟨g2, vals .i16 (zs 44), 26, true⟩, ⟨g1, vals .i64 L, 68, true⟩]) (fun v11 _ _ _ => 40 - (intOf v11).toNat)
  case atStart => exact ⟨0, by omega, rfl, by rw [mixTo_zero]; exact hm⟩
  case round =>
    obtain ⟨i, hi, rfl, hm⟩ := hrel
    have hl2 := mixTo_length (zs 44) (L.map w16) 0 i (by rw [zs_length]; omega) (by rw [List.length_map]; omega)
    rw [zs_length] at hl2
    by_cases hlt : i < 40
    · go_wp2_with arr
      go_roundw
      case rel =>
        refine ⟨i + 1, by omega, by go_num, ?_⟩
        rw [← mixTo_succ (zs 44) _ 0 i (by rw [zs_length]; omega) (by rw [List.length_map]; omega), rd_map _ _ _ (by omega), ← rd_take L i 40 (by omega) (by omega)]
        simpa [w16] using hm
      case measure => simp [intOf]; omega
    · have HI := Aside0.mk (show i = 40 by omega)
      generalize hF : mixTo (zs 44) (L.map w16) 0 i = F at *
      have HF := Aside0.mk hF
      clear hF
      go_wp2_with arr
      go_loopw [23, 6, 7] (fun v23 v6 v7 wr => ∃ i : Nat, i ≤ 4 ∧ v23 = .int .i64 i ∧ Mem w wr [⟨g3, vals .i16 (mixTo F ((L.drop 40).map w16) 40 i), 26, true⟩, ⟨g2, vals .i16 (zs 44), 26, true⟩, ⟨g1, vals .i64 L, 68, true⟩]) (fun v23 _ _ _ => 4 - (intOf v23).toNat)
      case atStart => exact ⟨0, by omega, rfl, by rw [mixTo_zero]; exact hm⟩
      case round =>
        obtain ⟨i2, hi2, rfl, hm⟩ := hrel
        have hl3 := mixTo_length F ((L.drop 40).map w16) 40 i2 (by omega) (by simp; omega)
        by_cases hlt : i2 < 4
        · go_wp2_with arr
          go_roundw
          case rel =>
            refine ⟨i2 + 1, by omega, by go_num, ?_⟩
            rw [← mixTo_succ F _ 40 i2 (by omega) (by simp; omega), rd_map _ _ _ (by simp; omega), ← rd_take (L.drop 40) i2 4 (by omega) (by simp; omega)]
            simpa [w16] using hm
          case measure => simp [intOf]; omega
        · have HI2 := Aside0.mk (show i2 = 4 by omega)
          go_wp2_with arr
          arr_ret 1 agg26
          refine ⟨?_, hm.done rfl⟩
          rw [← HF.out, HI.out, HI2.out]
          congr 3
          unfold mixTo
          apply List.ext_getElem?
          intro j
          simp only [zs, List.getElem?_append, List.length_append, List.length_take, List.getElem?_take, List.getElem?_drop, List.length_drop, List.length_map, List.length_replicate, List.getElem?_map, List.getElem?_replicate, hl]
          repeat' split
          all_goals first | rfl | omega | (congr 2; omega) | (rw [List.getElem?_eq_none (by omega)]; rfl) | (rw [List.getElem?_eq_none (l := L) (by omega)]; simp; omega)
end Go.Proofs.Ytmpkgdgbjhegnaa.Arr
