/- The law of the sets of a hoist. No condition. -/
import Derived.Test.YtmpkgdgbjhegnaaHoistSets
import Derived.Test.YtmpkgdgbjhegnaaHoistInLaw
namespace Go.Proofs.Ytmpkgdgbjhegnaa.Arr
open Go.RowKit Go.Proofs.YtmpkgdgbjhegnaaW.PrintWords Go.Proofs.YtmpkgdgbjhegnaaW.PrintLast Go.Proofs.YtmpkgdgbjhegnaaW.PrintMore Go.Proofs.Ytmpkgdgbjhegnaa.U Go.Proofs.Ytmpkgdgbjhegnaa.B
set_option linter.unusedVariables false
set_option linter.unusedSimpArgs false

set_option maxHeartbeats 8000000 in
set_option maxRecDepth 100000 in
theorem law_FnExactSetsFor (w : World) (A0 : Option Addr) (c0 : Nat) (l : List Int) (hr : Kd.C (Kd.int .i8) w A0 l.length l) (hc : l.length ≤ c0) (wf : WfL (WfI .i8) l) :
    Calls Try.prog 10 #[.slice A0 l.length c0] w fun e w' => e = .returned (.bool true) ∧ Below w.heap.size w w' := by
  have hm := Mem.start w
  have HR := Aside0.mk hr
  have HWF := Aside0.mk wf
  clear hr wf
  by_cases hbig : (1048576 : Int) < (l.length : Int)
  · go_enter Try.func10, Try.ntmps10
    go_wp2_with fail
    go_ret
    exact ⟨rfl, hm.done rfl⟩
  · have hn : l.length ≤ 1048576 := by omega
    have hs : Small8 l := ⟨by omega, fun x hx => wfi8 (HWF.out.2 x hx)⟩
    obtain ⟨z, b, H⟩ : ∃ z b : Int, Aside0 (setsRes l = .tuple #[.int .i64 z, .int .i64 b]) := by
      unfold setsRes
      by_cases hk : okH l = true
      · exact ⟨_, _, ⟨if_pos hk⟩⟩
      · exact ⟨_, _, ⟨if_neg hk⟩⟩
    have hS := fun A c W hr hc => specSets_calls A c l W hr hc hs
    have hG := fun A c W hr hc => implSets_calls A c l W hr hc hs
    rw [H.out] at hS hG
    have HS := Aside0.mk hS
    have HG := Aside0.mk hG
    clear hS hG H hs HWF
    go_enter Try.func10, Try.ntmps10
    go_wp2_with (first
      | fail
      | (go_at_call 26; have ht : Mem _ _ [] := hm; clear ht; refine (toHoist_keeps A0 c0 l _ (Kd.C_below HR.out (hm.done rfl)) hc hn).mono ?_; rintro e wa ⟨A1, c1, R1, rfl, hc1, hR1, ho1, hC1, hb⟩; replace hm := hm.grow hb; rw [hR1] at hm; have HO1 := Aside0.mk ho1; have HC1 := Aside0.mk hC1; have ht1 : Mem _ _ R1 := hm; clear hR1 ho1 hC1 hb hm; have hm := ht1; clear ht1)
      | (go_at_call 35; refine (HS.out A1 c1 _ (HC1.out _ (hm.held (by simp))) hc1).mono ?_; rintro e wa ⟨rfl, hb⟩; replace hm := hm.after hb; clear hb)
      | (go_at_call 26; have ht : Mem _ _ R1 := hm; clear ht; refine (toHoist_keeps A0 c0 l _ (Kd.C_below HR.out (hm.done (by simp [HO1.out]))) hc hn).mono ?_; rintro e wa ⟨A2, c2, R2, rfl, hc2, hR2, ho2, hC2, hb⟩; replace hm := hm.grow hb; rw [hR2] at hm; have ht2 : Mem _ _ (R1 ++ R2) := hm; clear hm; have hm := ht2; clear ht2; have HO2 := Aside0.mk ho2; have HC2 := Aside0.mk hC2; clear hR2 ho2 hC2 hb)
      | (go_at_call 36; refine (HG.out A2 c2 _ (HC2.out _ (hm.held (by simp +contextual))) hc2).mono ?_; rintro e wa ⟨rfl, hb⟩; replace hm := hm.after hb; clear hb)
      | (go_at_call 26; have ht : Mem _ _ (R1 ++ R2) := hm; clear ht; refine (toHoist_keeps A0 c0 l _ (Kd.C_below HR.out (hm.done (by simp [HO1.out, HO2.out]))) hc hn).mono ?_; rintro e wa ⟨A3, c3, R3, rfl, hc3, hR3, ho3, hC3, hb⟩; replace hm := hm.grow hb; rw [hR3] at hm; have HO3 := Aside0.mk ho3; have HC3 := Aside0.mk hC3; clear hR3 ho3 hC3 hb)
      | (go_at_call 29; refine (eqHoist_calls A2 A3 c2 c3 l _ (HC2.out _ (hm.held (by simp +contextual))) hc2 (HC3.out _ (hm.held (by simp +contextual))) hc3 hn).mono ?_; rintro e wa ⟨rfl, hb⟩; replace hm := hm.after hb; clear hb))
    go_ret
    exact ⟨rfl, hm.done (by simp [HO1.out, HO2.out, HO3.out])⟩
-- law FnExactSetsFor
end Go.Proofs.Ytmpkgdgbjhegnaa.Arr
