/- The reference's ValidCode. Conditions: no list too long. -/
import Derived.Test.YtodgnbcfihifiaaFlagImpl
import Derived.Test.YtodgnbcfihifiaaWordVLib
import Derived.BigQuiet
import Derived.Test.YtodgnbcfihifiaaPWx1
namespace Go.Proofs.Ytodgnbcfihifiaa.Arr
open Go.RowKit Go.Proofs.YtodgnbcfihifiaaW.PrintWords Go.Proofs.YtodgnbcfihifiaaW.PrintLast Go.Proofs.YtodgnbcfihifiaaW.PrintMore Go.Proofs.Ytodgnbcfihifiaa.U Go.Proofs.Ytodgnbcfihifiaa.W
set_option linter.unusedVariables false
set_option linter.unusedSimpArgs false

theorem oneU8 : OneTy Try.prog 5 := ⟨by kernel_rfl, by kernel_rfl⟩
theorem oneWord : OneTy Try.prog 86 := ⟨by kernel_rfl, by kernel_rfl⟩
theorem oneFS : OneTy Try.prog 36 := ⟨by kernel_rfl, by kernel_rfl⟩
theorem oneWS : OneTy Try.prog 37 := ⟨by kernel_rfl, by kernel_rfl⟩
/-- Words of bytes. -/
abbrev kW : Kd (List (List Int)) := Kd.slice 86 (Kd.slice 5 (Kd.int .u8))
abbrev kWd : Kd (List Int) := Kd.slice 5 (Kd.int .u8)
/-- Are all letters of a word less than a number? -/
def lettersX (x : List Int) (n : Int) : Bool := decide (∀ k : Nat, k < x.length → rd x (k : Int) < n)
def lettersB (ws : List (List Int)) (n : Int) : Bool := decide (∀ i : Nat, i < ws.length → lettersX (rd_L1 ws (i : Int)) n = true)
/-- Is a code valid? -/
def okCode (fs ws : List (List Int)) : Bool := decide (1 ≤ (fs.length : Int) ∧ (fs.length : Int) ≤ 40) && (decide ((ws.length : Int) ≤ 60) && (areW ws 37 && (flagsB fs && lettersB ws fs.length)))
theorem inC (a lo hi : Int) (w : World) : Calls Try.prog 39 #[.int .i64 a, .int .i64 lo, .int .i64 hi] w fun e w' => e = .returned (.bool (decide (lo ≤ a ∧ a ≤ hi))) ∧ Below w.heap.size w w' := by
  refine (spec_l00In.calls a lo hi _ w (in_ev a lo hi)).mono ?_
  rintro e w' ⟨rfl, h⟩
  exact ⟨rfl, h.below⟩
set_option maxHeartbeats 8000000 in
set_option maxRecDepth 100000 in
theorem l05Ok_calls (A1 : Option Addr) (c1 : Nat) (fs : List (List Int)) (A2 : Option Addr) (c2 : Nat) (ws : List (List Int)) (g : Nat) (w : World) (hb : w.heap[g]? = some (.cells #[.slice A1 fs.length c1, .slice A2 ws.length c2] 39 (0, 0)))
    (hr1 : Kd.C (kA .u8 24) w A1 fs.length fs) (hr2 : Kd.C kWd w A2 ws.length ws) (hc2 : ws.length ≤ c2) (hn1 : fs.length ≤ 1048576) (hn2 : ws.length ≤ 1048576) (hls : ∀ x ∈ ws, x.length ≤ 1048576) (hby : ∀ x ∈ ws, Bytes x) :
    Calls Try.prog 32 #[.pointer (some ⟨g, 0, none⟩)] w fun e w' => e = .returned (.bool (okCode fs ws)) ∧ Below w.heap.size w w' := by
  have HBK := Aside0.mk hb
  have HR1 := Aside0.mk hr1
  have HR2 := Aside0.mk hr2
  have h0 := (blk_cell hb 0).trans rfl
  have h1 := (blk_cell hb 1).trans rfl
  have HG := Aside0.mk (lt_of_some hb)
  have HIN := Aside0.mk (fun W => inC (fs.length : Int) 1 40 W)
  obtain ⟨kw, hkw⟩ := (l05Words_ev ws hn2 hls hby).rounds
  have HWD := Aside0.mk (fun W (hW : Below w.heap.size w W) => spec_l05Words.calls kw A2 c2 ws _ W (Kd.C_below hr2 hW) hc2 hkw)
  have HBY := Aside0.mk hby
  have HLS := Aside0.mk hls
  unfold okCode
  clear hb hr1 hr2 hkw hby hls
  by_cases hc1 : 1 ≤ (fs.length : Int) ∧ (fs.length : Int) ≤ 40
  · rw [decide_eq_true hc1] at HIN ⊢
    rw [Bool.true_and]
    by_cases h60 : (ws.length : Int) ≤ 60
    · have h60g : ¬ (60 : Int) < (ws.length : Int) := by omega
      rw [decide_eq_true h60, Bool.true_and]
      cases hw : areW ws 37 with
      | false =>
        rw [hw] at HWD
        clear hw
        go_enter Try.func32, Try.ntmps32
        go_wp2_with (first
          | (go_at_call 39; refine (HIN.out _).mono ?_; rintro e w1 ⟨rfl, hb1⟩; have HB1 := Aside0.mk hb1; have h11 := (blk_cell ((hb1.block g HG.out).trans HBK.out) 1).trans rfl; clear hb1)
          | (go_at_call 53; refine (HWD.out _ HB1.out).mono ?_; rintro e w2 ⟨rfl, hb2⟩; have HB2 := Aside0.mk (below_then HB1.out hb2.below); clear hb2))
        go_ret
        exact ⟨rfl, HB2.out⟩
      | true =>
        rw [hw] at HWD
        rw [Bool.true_and]
        clear hw
        go_enter Try.func32, Try.ntmps32
        go_wp2_with (first
          | (go_at_call 39; refine (HIN.out _).mono ?_; rintro e w1 ⟨rfl, hb1⟩; have HB1 := Aside0.mk hb1; have h11 := (blk_cell ((hb1.block g HG.out).trans HBK.out) 1).trans rfl; clear hb1)
          | (go_at_call 53; refine (HWD.out _ HB1.out).mono ?_; rintro e w2 ⟨rfl, hb2⟩; have HB2 := Aside0.mk (below_then HB1.out hb2.below); clear hb2))
        go_loopw [3] (fun v3 wr => ∃ i : Nat, i ≤ fs.length ∧ v3 = .int .i64 i ∧ Aside0 (Below w.heap.size w wr) ∧ Aside0 (∀ j : Nat, j < i → okF (ra fs j) = true)) (fun v3 _ => fs.length - (intOf v3).toNat)
        case atStart => exact ⟨0, by omega, rfl, HB2, ⟨fun j hj => absurd hj (by omega)⟩⟩
        case round =>
          clear HB1 HB2 h11
          obtain ⟨i, hi, rfl, HB, HP⟩ := hrel
          have hf0 := (blk_cell ((HB.out.block g HG.out).trans HBK.out) 0).trans rfl
          have hf1 := (blk_cell ((HB.out.block g HG.out).trans HBK.out) 1).trans rfl
          by_cases hlt : i < fs.length
          · obtain ⟨ad, rfl, hx24, hcell⟩ := at_A (Kd.C_below HR1.out HB.out) i hlt
            have HOK := Aside0.mk (l01Ok_calls (ad.add (i * 24)) (ra fs i) wr hcell)
            clear hcell hx24
            cases ho : okF (ra fs i) with
            | false =>
              have HFX := Aside0.mk (show flagsB fs = false from decide_eq_false (fun h => by have := h i hlt; rw [ho] at this; cases this))
              rw [ho] at HOK
              clear ho
              go_wp2_with (go_at_call 54; refine HOK.out.mono ?_; rintro e w3 ⟨rfl, hb3⟩; have HB3 := Aside0.mk (below_then HB.out hb3); clear hb3)
              go_ret
              exact ⟨by rw [HFX.out]; rfl, HB3.out⟩
            | true =>
              have HO := Aside0.mk ho
              rw [ho] at HOK
              clear ho
              go_wp2_with (go_at_call 54; refine HOK.out.mono ?_; rintro e w3 ⟨rfl, hb3⟩; have HB3 := Aside0.mk (below_then HB.out hb3); clear hb3)
              go_roundw
              case rel => exact ⟨i + 1, by omega, by go_num, HB3, ⟨fun j hj => by
                rcases Nat.lt_or_ge j i with h | h
                · exact HP.out j h
                · obtain rfl : j = i := by omega
                  exact HO.out⟩⟩
              case measure => simp [intOf]; omega
          · obtain rfl : i = fs.length := by omega
            have HFX := Aside0.mk (show flagsB fs = true from decide_eq_true HP.out)
            clear HP
            go_wp2_with fail
            go_loopw [4, 5] (fun v4 v5 wr2 => ∃ i : Nat, i ≤ ws.length ∧ v4 = .int .i64 i ∧ Aside0 (Below w.heap.size w wr2) ∧ Aside0 (∀ j : Nat, j < i → lettersX (rd_L1 ws (j : Int)) fs.length = true)) (fun v4 _ _ => ws.length - (intOf v4).toNat)
            case atStart => exact ⟨0, by omega, rfl, HB, ⟨fun j hj => absurd hj (by omega)⟩⟩
            case round =>
              clear HB hf0 hf1
              obtain ⟨i, hi, rfl, HB, HP⟩ := hrel
              have hf0 := (blk_cell ((HB.out.block g HG.out).trans HBK.out) 0).trans rfl
              have hf1 := (blk_cell ((HB.out.block g HG.out).trans HBK.out) 1).trans rfl
              by_cases hlt : i < ws.length
              · obtain ⟨ad, Aw, cw, rfl, hcell, hlw, hCw⟩ := at_L1 HR2.out (i : Int) (by omega) (by omega)
                rw [Int.toNat_natCast] at hcell
                have HCE := Aside0.mk hcell
                have HCW := Aside0.mk hCw
                have HLX := Aside0.mk (show lettersX (rd_L1 ws (i : Int)) fs.length = decide (∀ k : Nat, k < (rd_L1 ws (i : Int)).length → rd (rd_L1 ws (i : Int)) (k : Int) < fs.length) from rfl)
                have HMB := Aside0.mk (show rd_L1 ws (i : Int) ∈ ws by rw [rdS_get ws i hlt]; exact List.getElem_mem hlt)
                have hxl := HLS.out _ HMB.out
                have HBX := Aside0.mk (HBY.out _ HMB.out)
                clear hcell hCw HMB
                generalize hxx : rd_L1 ws (i : Int) = x at *
                have HXX := Aside0.mk hxx
                clear hxx
                go_wp2_with fail
                go_loopw [5] (fun v5 wr3 => ∃ k : Nat, k ≤ x.length ∧ v5 = .int .i64 k ∧ Aside0 (Below w.heap.size w wr3) ∧ Aside0 (∀ j : Nat, j < k → rd x (j : Int) < fs.length)) (fun v5 _ => x.length - (intOf v5).toNat)
                case atStart => exact ⟨0, by omega, rfl, HB, ⟨fun j hj => absurd hj (by omega)⟩⟩
                case round =>
                  clear HB hf0 hf1
                  obtain ⟨k, hk, rfl, HB, HQ⟩ := hrel
                  have hf0 := (blk_cell ((HB.out.block g HG.out).trans HBK.out) 0).trans rfl
                  have hf1 := (blk_cell ((HB.out.block g HG.out).trans HBK.out) 1).trans rfl
                  have hce := pw_cell_below HB.out HCE.out
                  by_cases hkl : k < x.length
                  · obtain ⟨adw, rfl, hlc⟩ := Kd.at_int (Kd.C_below HCW.out HB.out) (k : Int) (by omega) (by omega)
                    rw [Int.toNat_natCast] at hlc
                    have hbx := HBX.out.at k hkl
                    by_cases hge : rd x (k : Int) < (fs.length : Int)
                    · have hge2 : ¬ ((fs.length : Int) ≤ rd x (k : Int)) := by omega
                      have HQ2 := Aside0.mk hge
                      generalize hz : rd x (k : Int) = z at *
                      have HZ := Aside0.mk hz
                      clear hz
                      have hwz : wrap64 z = z := w64 (by omega) (by omega)
                      have hde : decide ((fs.length : Int) ≤ z) = false := decide_eq_false hge2
                      go_wp2_with fail
                      go_quiet (fail)
                      go_wp2_with fail
                      go_roundw
                      case rel => exact ⟨k + 1, by omega, by go_num, ⟨pw_below_drewN HB.out _⟩, ⟨fun j hj => by
                        rcases Nat.lt_or_ge j k with h | h
                        · exact HQ.out j h
                        · obtain rfl : j = k := by omega
                          rw [HZ.out]; exact HQ2.out⟩⟩
                      case measure => simp [intOf]; omega
                    · have hge2 : (fs.length : Int) ≤ rd x (k : Int) := by omega
                      have HLB := Aside0.mk (show lettersB ws fs.length = false from decide_eq_false (fun h => by
                        have h2 := h i hlt
                        rw [HXX.out, HLX.out] at h2
                        exact hge (of_decide_eq_true h2 k hkl)))
                      generalize rd x (k : Int) = z at *
                      have hwz : wrap64 z = z := w64 (by omega) (by omega)
                      have hde : decide ((fs.length : Int) ≤ z) = true := decide_eq_true hge2
                      go_wp2_with fail
                      go_quiet (fail)
                      go_wp2_with fail
                      go_ret
                      exact ⟨by rw [HFX.out, HLB.out]; rfl, pw_below_drewN HB.out _⟩
                  · obtain rfl : k = x.length := by omega
                    have HLT := Aside0.mk (HLX.out.trans (decide_eq_true HQ.out))
                    clear HQ
                    go_wp2_with fail
                    go_roundw
                    case rel => exact ⟨i + 1, by omega, by go_num, HB, ⟨fun j hj => by
                      rcases Nat.lt_or_ge j i with h | h
                      · exact HP.out j h
                      · obtain rfl : j = i := by omega
                        rw [HXX.out]; exact HLT.out⟩⟩
                    case measure => simp [intOf]; omega
              · obtain rfl : i = ws.length := by omega
                have HLB := Aside0.mk (show lettersB ws fs.length = true from decide_eq_true HP.out)
                clear HP
                go_wp2_with fail
                go_ret
                exact ⟨by rw [HFX.out, HLB.out]; rfl, HB.out⟩
    · have h60g : (60 : Int) < (ws.length : Int) := by omega
      rw [decide_eq_false h60, Bool.false_and]
      go_enter Try.func32, Try.ntmps32
      go_wp2_with (go_at_call 39; refine (HIN.out _).mono ?_; rintro e w1 ⟨rfl, hb1⟩; have HB1 := Aside0.mk hb1; have h11 := (blk_cell ((hb1.block g HG.out).trans HBK.out) 1).trans rfl; clear hb1)
      go_ret
      exact ⟨rfl, HB1.out⟩
  · rw [decide_eq_false hc1] at HIN ⊢
    rw [Bool.false_and]
    clear hc1
    go_enter Try.func32, Try.ntmps32
    go_wp2_with (go_at_call 39; refine (HIN.out _).mono ?_; rintro e w1 ⟨rfl, hb1⟩; have HB1 := Aside0.mk hb1; clear hb1)
    go_ret
    exact ⟨rfl, HB1.out⟩
set_option maxHeartbeats 4000000 in
set_option maxRecDepth 100000 in
theorem specValidCode_calls (A1 : Option Addr) (c1 : Nat) (fs : List (List Int)) (A2 : Option Addr) (c2 : Nat) (ws : List (List Int)) (w : World)
    (hr1 : Kd.C (kA .u8 24) w A1 fs.length fs) (hr2 : Kd.C kWd w A2 ws.length ws) (hc2 : ws.length ≤ c2) (hn1 : fs.length ≤ 1048576) (hn2 : ws.length ≤ 1048576) (hls : ∀ x ∈ ws, x.length ≤ 1048576) (hby : ∀ x ∈ ws, Bytes x) :
    Calls Try.prog 12 #[.agg #[.slice A1 fs.length c1, .slice A2 ws.length c2]] w fun e w' => e = .returned (.bool (okCode fs ws)) ∧ Below w.heap.size w w' := by
  have hm := Mem.start w
  have HOK := Aside0.mk (fun g W (hW : Below w.heap.size w W) hb => l05Ok_calls A1 c1 fs A2 c2 ws g W hb (Kd.C_below hr1 hW) (Kd.C_below hr2 hW) hc2 hn1 hn2 hls hby)
  clear hr1 hr2 hls hby
  go_enter Try.func12, Try.ntmps12
  go_wp2_with (first
    | ((with_reducible refine gt_box 1 39 ?_); refine st_box rfl 1 rfl 39 _ rfl hm rfl (cs := #[.slice A1 fs.length c1, .slice A2 ws.length c2]) rfl ?_; clear hm; intro g w1 hm; have HG := Aside0.mk (hm.mem (n := 0) rfl); have HB := Aside0.mk (hm.done rfl); clear hm)
    | (go_at_call 32; refine (HOK.out g _ HB.out HG.out).mono ?_; rintro e w2 ⟨rfl, hb2⟩; have HB2 := Aside0.mk (below_then HB.out hb2); clear hb2))
  go_ret
  exact ⟨rfl, HB2.out⟩
end Go.Proofs.Ytodgnbcfihifiaa.Arr
