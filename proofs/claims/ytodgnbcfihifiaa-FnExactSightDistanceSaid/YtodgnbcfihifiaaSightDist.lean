/- For all lists of sights the program's SightDistance returns what the reference's returns, and changes nothing. No condition. -/
import Derived.Test.YtodgnbcfihifiaaSightLaw
import Derived.BigQuiet
-- law FnExactSightDistance
namespace Go.Proofs.Ytodgnbcfihifiaa.Arr
open Go.RowKit Go.Proofs.YtodgnbcfihifiaaW.PrintWords Go.Proofs.YtodgnbcfihifiaaW.PrintLast Go.Proofs.YtodgnbcfihifiaaW.PrintMore Go.Proofs.Ytodgnbcfihifiaa.U
set_option linter.unusedVariables false
set_option linter.unusedSimpArgs false

set_option maxHeartbeats 8000000 in
set_option maxRecDepth 100000 in
theorem law_FnExactSightDistance (w : World) (A : Option Addr) (c : Nat) (l : List (List Int)) (hr : Kd.C (kA .u8 6) w A l.length l) (hc : l.length ≤ c) (wf : WfL (fun x : List Int => x.length = 6 ∧ ∀ z ∈ x, WfI .u8 z) l) (A2 : Option Addr) (c2 : Nat) (l2 : List (List Int)) (hr2 : Kd.C (kA .u8 6) w A2 l2.length l2) (hc2 : l2.length ≤ c2) (wf2 : WfL (fun x : List Int => x.length = 6 ∧ ∀ z ∈ x, WfI .u8 z) l2) :
    Calls Try.prog 3 #[.slice A l.length c, .slice A2 l2.length c2] w fun e w' => e = .returned (.bool true) ∧ Below w.heap.size w w' := by
  have hm1 := Kd.C_max hr
  have hm2 := Kd.C_max hr2
  have HZ1 := Aside0.mk (fun W => szSightS_calls A c l.length 1048576 W (by omega) (by omega))
  by_cases c1 : (l.length : Int) ≤ 1048576
  · have hn : l.length ≤ 1048576 := by omega
    rw [if_neg (by omega)] at HZ1
    have HZ2 := Aside0.mk (fun W => szSightS_calls A2 c2 l2.length (1048576 - l.length) W (by omega) (by omega))
    by_cases c2' : (l2.length : Int) ≤ 1048576 - l.length
    · have hn2 : l2.length ≤ 1048576 := by omega
      rw [if_neg (by omega)] at HZ2
      have HTA := Aside0.mk (fun W (hW : Below w.heap.size w W) => toSightS_calls A c l W (Kd.C_below hr hW) (fun x hx => (wf.2 x hx).1) hn)
      have HTB := Aside0.mk (fun W (hW : Below w.heap.size w W) => toSightS_calls A2 c2 l2 W (Kd.C_below hr2 hW) (fun x hx => (wf2.2 x hx).1) hn2)
      have HSP := Aside0.mk (fun W B1 B2 (h1 : Kd.C (kA .u8 6) W B1 l.length l) (h2 : Kd.C (kA .u8 6) W B2 l2.length l2) => specSightDistance_calls B1 l.length l B2 l2.length l2 W h1 h2 hn hn2)
      have HIM := Aside0.mk (fun W B1 B2 (h1 : Kd.C (kA .u8 6) W B1 l.length l) (h2 : Kd.C (kA .u8 6) W B2 l2.length l2) => implSightDistance_calls B1 l.length l B2 l2.length l2 W h1 h2 hn hn2)
      have HEA := Aside0.mk (fun W B1 B2 (h1 : Kd.C (kA .u8 6) W B1 l.length l) (h2 : Kd.C (kA .u8 6) W B2 l.length l) => eqSightS_calls B1 l.length l B2 l.length W h1 h2 hn)
      have HEB := Aside0.mk (fun W B1 B2 (h1 : Kd.C (kA .u8 6) W B1 l2.length l2) (h2 : Kd.C (kA .u8 6) W B2 l2.length l2) => eqSightS_calls B1 l2.length l2 B2 l2.length W h1 h2 hn2)
      have hz1 : ¬ ((1048576 : Int) - l.length < 0) := by omega
      have hz2 : ¬ ((1048576 : Int) - l.length - l2.length < 0) := by omega
      clear hr hr2 wf wf2 hm1 hm2 c1 c2'
      generalize distW l l2 = R at *
      generalize (1048576 : Int) - l.length - l2.length = z2 at *
      generalize (1048576 : Int) - l.length = z1 at *
      generalize l.length = n1 at *
      generalize l2.length = n2 at *
      go_enter Try.func3, Try.ntmps3
      go_wp2_with (first
        | (go_at_call 10; (with_reducible refine (HEB.out _ _ _ HC33.out HC55.out).mono ?_); rintro e w56 ⟨rfl, h⟩; have HB56 := Aside0.mk (below_then HB55.out h); clear h)
        | (go_at_call 8; (with_reducible refine (HTB.out _ HB51.out).mono ?_); rintro e w55 ⟨A55, rfl, hc, h⟩; have HB55 := Aside0.mk (below_then HB51.out h); have HC55 := Aside0.mk hc; replace HC33 := Aside0.mk (Kd.C_below HC33.out h); clear h hc)
        | (go_at_call 10; (with_reducible refine (HEA.out _ _ _ HC31.out HC50.out).mono ?_); rintro e w51 ⟨rfl, h⟩; have HB51 := Aside0.mk (below_then HB50.out h); replace HC33 := Aside0.mk (Kd.C_below HC33.out h); clear h)
        | (go_at_call 8; (with_reducible refine (HTA.out _ HB37.out).mono ?_); rintro e w50 ⟨A50, rfl, hc, h⟩; have HB50 := Aside0.mk (below_then HB37.out h); have HC50 := Aside0.mk hc; replace HC31 := Aside0.mk (Kd.C_below HC31.out h); replace HC33 := Aside0.mk (Kd.C_below HC33.out h); clear h hc)
        | (go_at_call 9; (with_reducible refine (HIM.out _ _ _ HC31.out HC33.out).mono ?_); rintro e w37 ⟨rfl, h⟩; have HB37 := Aside0.mk (below_then HB33.out h); replace HC31 := Aside0.mk (Kd.C_below HC31.out h); replace HC33 := Aside0.mk (Kd.C_below HC33.out h); clear h)
        | (go_at_call 8; (with_reducible refine (HTB.out _ HB31.out).mono ?_); rintro e w33 ⟨A33, rfl, hc, h⟩; have HB33 := Aside0.mk (below_then HB31.out h); have HC33 := Aside0.mk hc; replace HC31 := Aside0.mk (Kd.C_below HC31.out h); clear h hc)
        | (go_at_call 8; (with_reducible refine (HTA.out _ HB27.out).mono ?_); rintro e w31 ⟨A31, rfl, hc, h⟩; have HB31 := Aside0.mk (below_then HB27.out h); have HC31 := Aside0.mk hc; clear h hc)
        | (go_at_call 7; (with_reducible refine (HSP.out _ _ _ HC24.out HC26.out).mono ?_); rintro e w27 ⟨rfl, h⟩; have HB27 := Aside0.mk (below_then HB26.out h); clear h)
        | (go_at_call 8; (with_reducible refine (HTB.out _ HB24.out).mono ?_); rintro e w26 ⟨A26, rfl, hc, h⟩; have HB26 := Aside0.mk (below_then HB24.out h); have HC26 := Aside0.mk hc; replace HC24 := Aside0.mk (Kd.C_below HC24.out h); clear h hc)
        | (go_at_call 8; (with_reducible refine (HTA.out _ HB19.out).mono ?_); rintro e w24 ⟨A24, rfl, hc, h⟩; have HB24 := Aside0.mk (below_then HB19.out h); have HC24 := Aside0.mk hc; clear h hc)
        | (go_at_call 6; (with_reducible refine (HZ2.out _).mono ?_); rintro e w19 ⟨rfl, h⟩; have HB19 := Aside0.mk (below_then HB14.out h); clear h)
        | (go_at_call 6; (with_reducible refine (HZ1.out _).mono ?_); rintro e w14 ⟨rfl, h⟩; have HB14 := Aside0.mk h; clear h))
      go_ret
      exact ⟨rfl, HB56.out⟩
    · rw [if_pos (by omega)] at HZ2
      have hz1 : ¬ ((1048576 : Int) - l.length < 0) := by omega
      clear hr hr2 wf wf2 hm1 hm2 c1 c2'
      generalize (1048576 : Int) - l.length = z1 at *
      go_enter Try.func3, Try.ntmps3
      go_wp2_with (first
        | (go_at_call 6; (with_reducible refine (HZ2.out _).mono ?_); rintro e w19 ⟨rfl, h⟩; have HB19 := Aside0.mk (below_then HB14.out h); clear h)
        | (go_at_call 6; (with_reducible refine (HZ1.out _).mono ?_); rintro e w14 ⟨rfl, h⟩; have HB14 := Aside0.mk h; clear h))
      go_ret
      exact ⟨rfl, HB19.out⟩
  · rw [if_pos (by omega)] at HZ1
    clear hr hr2 wf wf2 hm1 hm2 c1
    go_enter Try.func3, Try.ntmps3
    go_wp2_with (first
      | (go_at_call 6; (with_reducible refine (HZ1.out _).mono ?_); rintro e w14 ⟨rfl, h⟩; have HB14 := Aside0.mk h; clear h))
    go_ret
    exact ⟨rfl, HB14.out⟩
end Go.Proofs.Ytodgnbcfihifiaa.Arr
