/- Lean functions and walks of this seat's Go functions, written by a program of the session (wip/tools/pp.py over the kit's print.py) out of the translation, with contracts proved by hand. No condition of its own. -/
import Derived.Test.YtpidpljngppmiaaPLx0
import Derived.Test.YtpidpljngppmiaaPLx1
import Derived.Test.YtpidpljngppmiaaPLx3
import Derived.Test.YtpidpljngppmiaaPLx4
namespace Go.Proofs.Ytpidpljngppmiaa.L
open Go.RowKit Go.Proofs.YtpidpljngppmiaaW.PrintWords Go.Proofs.YtpidpljngppmiaaW.PrintLast Go.Proofs.YtpidpljngppmiaaW.PrintMore
attribute [local go_sem] max2_int min2_int max_two min_two max_three min_three max_four min_four   -- for this text's walks alone
set_option linter.unusedVariables false
set_option linter.unusedSimpArgs false

/-! ### spec_DecodeWord: function 42 -/
mutual
def spec_DecodeWord.j0 : Nat → List (List Int) → List Int → Int → Bool → Option (Int × Int)
  | 0, _, _, _, _ => none
  | k + 1, x0, x1, x2, x31 => if x31 = true then (some (0, 1)) else (if (x0.length : Int) > 60 then (some (0, 3)) else ((spec_l00In.f x2 0 8).bind fun t185 => (if t185 = true then (spec_DecodeWord.l0 k x0 x1 x2 (-1) 0) else (some (0, 2)))))
def spec_DecodeWord.l0 : Nat → List (List Int) → List Int → Int → Int → Int → Option (Int × Int)
  | 0, _, _, _, _, _ => none
  | k + 1, x0, x1, x2, x8, x9 => if x9 < (x0.length : Int) then (if 0 ≤ x9 then ((spec_l05Apart.f k (rd_L1 x0 x9) x1).bind fun t187 => (if t187 > x2 then (spec_DecodeWord.l0 k x0 x1 x2 x8 (wrap64 (x9 + 1))) else (if x8 ≥ 0 then (some (0, 8)) else (spec_DecodeWord.l0 k x0 x1 x2 x9 (wrap64 (x9 + 1)))))) else (none)) else (if x8 < 0 then (some (0, 6)) else (some (x8, 0)))
end
def spec_DecodeWord.f (k : Nat) (l0 : List (List Int)) (l1 : List Int) (a2 : Int) : Option (Int × Int) := (spec_l05Words.f k l0).bind fun t182 => (if t182 = true then ((spec_l05Word.f k l1).bind fun t183 => (if t183 = true then (if (l0.length : Int) > 0 then (if 0 < (l0.length : Int) then (spec_DecodeWord.j0 k l0 l1 a2 (((rd_L1 l0 0).length : Int) != (l1.length : Int))) else (none)) else (spec_DecodeWord.j0 k l0 l1 a2 false)) else (spec_DecodeWord.j0 k l0 l1 a2 true))) else (spec_DecodeWord.j0 k l0 l1 a2 true))
theorem spec_DecodeWord.mono_l : ∀ k, (∀ y0 y1 y2 y3, LeO (spec_DecodeWord.j0 k y0 y1 y2 y3) (spec_DecodeWord.j0 (k + 1) y0 y1 y2 y3)) ∧ (∀ y0 y1 y2 y3 y4, LeO (spec_DecodeWord.l0 k y0 y1 y2 y3 y4) (spec_DecodeWord.l0 (k + 1) y0 y1 y2 y3 y4))
  | 0 => ⟨fun _ _ _ _ r h => by simp [spec_DecodeWord.j0] at h, fun _ _ _ _ _ r h => by simp [spec_DecodeWord.l0] at h⟩
  | k + 1 => by
    obtain ⟨ih0, ih1⟩ := spec_DecodeWord.mono_l k
    refine ⟨?_, ?_⟩
    · intro y0 y1 y2 y3
      unfold spec_DecodeWord.j0
      repeat' first
      | (with_reducible exact ih0 _ _ _ _)
      | (with_reducible exact ih1 _ _ _ _ _)
      | (with_reducible exact spec_l05Apart.mono _ _ _)
      | (with_reducible exact spec_l05Word.mono _ _)
      | (with_reducible exact spec_l05Words.mono _ _)
      | (with_reducible exact LeO.refl _)
      | (with_reducible exact LeO.none _)
      | (with_reducible refine LeO.ite ?_ ?_)
      | (with_reducible refine LeO.bind ?_ (fun _ => ?_))
      | exact ih0 _ _ _ _
      | exact ih1 _ _ _ _ _
      | exact spec_l05Apart.mono _ _ _
      | exact spec_l05Word.mono _ _
      | exact spec_l05Words.mono _ _
      | exact LeO.none _
      | refine LeO.ite ?_ ?_
      | refine LeO.bind ?_ (fun _ => ?_)
    · intro y0 y1 y2 y3 y4
      unfold spec_DecodeWord.l0
      repeat' first
      | (with_reducible exact ih0 _ _ _ _)
      | (with_reducible exact ih1 _ _ _ _ _)
      | (with_reducible exact spec_l05Apart.mono _ _ _)
      | (with_reducible exact spec_l05Word.mono _ _)
      | (with_reducible exact spec_l05Words.mono _ _)
      | (with_reducible exact LeO.refl _)
      | (with_reducible exact LeO.none _)
      | (with_reducible refine LeO.ite ?_ ?_)
      | (with_reducible refine LeO.bind ?_ (fun _ => ?_))
      | exact ih0 _ _ _ _
      | exact ih1 _ _ _ _ _
      | exact spec_l05Apart.mono _ _ _
      | exact spec_l05Word.mono _ _
      | exact spec_l05Words.mono _ _
      | exact LeO.none _
      | refine LeO.ite ?_ ?_
      | refine LeO.bind ?_ (fun _ => ?_)
theorem spec_DecodeWord.mono : ∀ a0 a1 a2 k, LeO (spec_DecodeWord.f k a0 a1 a2) (spec_DecodeWord.f (k + 1) a0 a1 a2) := by
  intro a0 a1 a2 k
  obtain ⟨ih0, ih1⟩ := spec_DecodeWord.mono_l k
  unfold spec_DecodeWord.f
  repeat' first
      | (with_reducible exact ih0 _ _ _ _)
      | (with_reducible exact ih1 _ _ _ _ _)
      | (with_reducible exact spec_l05Apart.mono _ _ _)
      | (with_reducible exact spec_l05Word.mono _ _)
      | (with_reducible exact spec_l05Words.mono _ _)
      | (with_reducible exact LeO.refl _)
      | (with_reducible exact LeO.none _)
      | (with_reducible refine LeO.ite ?_ ?_)
      | (with_reducible refine LeO.bind ?_ (fun _ => ?_))
      | exact ih0 _ _ _ _
      | exact ih1 _ _ _ _ _
      | exact spec_l05Apart.mono _ _ _
      | exact spec_l05Word.mono _ _
      | exact spec_l05Words.mono _ _
      | exact LeO.none _
      | refine LeO.ite ?_ ?_
      | refine LeO.bind ?_ (fun _ => ?_)
set_option maxHeartbeats 8000000 in
set_option maxRecDepth 100000 in
theorem spec_DecodeWord.calls (k : Nat) (A0 : Option Addr) (c0 : Nat) (l0 : List (List Int)) (A1 : Option Addr) (c1 : Nat) (l1 : List Int) (a2 : Int) (r1 : Int) (r2 : Int) (w : World) (hr0 : Kd.C (Kd.slice 5 (Kd.int .u8)) w A0 l0.length l0) (hc0 : l0.length ≤ c0) (hr1 : Kd.C (Kd.int .u8) w A1 l1.length l1) (hc1 : l1.length ≤ c1) (h : spec_DecodeWord.f k l0 l1 a2 = some (r1, r2)) :
    Calls Try.prog 42 #[.slice A0 l0.length c0, .slice A1 l1.length c1, .int .i64 a2] w fun e w' => e = .returned (.tuple #[.int .i64 r1, .int .i64 r2]) ∧ Drawn0 w w' := by
  have HR0 := Aside0.mk hr0
  have HC0 := Aside0.mk hc0
  clear hr0 hc0
  have HR1 := Aside0.mk hr1
  have HC1 := Aside0.mk hc1
  clear hr1 hc1
  have H : ((spec_l05Words.f k l0).bind fun t182 => (if t182 = true then ((spec_l05Word.f k l1).bind fun t183 => (if t183 = true then (if (l0.length : Int) > 0 then (if 0 < (l0.length : Int) then (spec_DecodeWord.j0 k l0 l1 a2 (((rd_L1 l0 0).length : Int) != (l1.length : Int))) else (none)) else (spec_DecodeWord.j0 k l0 l1 a2 false)) else (spec_DecodeWord.j0 k l0 l1 a2 true))) else (spec_DecodeWord.j0 k l0 l1 a2 true))) = some (r1, r2) := h
  clear h
  have HC4 := Aside0.mk H
  clear H
  go_enter Try.func42, Try.ntmps42
  go_upto_region 1 with (fail)
  go_cut [31] (fun v31 wc => ∃ (kq : Nat) (x31_3 : Bool), v31 = .bool x31_3 ∧ Aside0 (spec_DecodeWord.j0 kq l0 l1 a2 x31_3 = some (r1, r2)) ∧ Aside0 (kq ≤ k) ∧ Drawn0 w wc)
  case first =>
    have H := HC4.out
    clear HC4
    replace H := Option.bind_eq_some_iff.mp H
    obtain ⟨t182, A50, H⟩ := H
    replace H : (if t182 = true then ((spec_l05Word.f k l1).bind fun t183 => (if t183 = true then (if (l0.length : Int) > 0 then (if 0 < (l0.length : Int) then (spec_DecodeWord.j0 k l0 l1 a2 (((rd_L1 l0 0).length : Int) != (l1.length : Int))) else (none)) else (spec_DecodeWord.j0 k l0 l1 a2 false)) else (spec_DecodeWord.j0 k l0 l1 a2 true))) else (spec_DecodeWord.j0 k l0 l1 a2 true)) = some (r1, r2) := H
    have A5 := Aside0.mk A50
    clear A50
    by_cases c6 : t182 = true
    · subst c6
      have H1 : ((spec_l05Word.f k l1).bind fun t183 => (if t183 = true then (if (l0.length : Int) > 0 then (if 0 < (l0.length : Int) then (spec_DecodeWord.j0 k l0 l1 a2 (((rd_L1 l0 0).length : Int) != (l1.length : Int))) else (none)) else (spec_DecodeWord.j0 k l0 l1 a2 false)) else (spec_DecodeWord.j0 k l0 l1 a2 true))) = some (r1, r2) := by rw [if_pos rfl] at H; exact H
      clear H
      have H := H1
      clear H1
      replace H := Option.bind_eq_some_iff.mp H
      obtain ⟨t183, A70, H⟩ := H
      replace H : (if t183 = true then (if (l0.length : Int) > 0 then (if 0 < (l0.length : Int) then (spec_DecodeWord.j0 k l0 l1 a2 (((rd_L1 l0 0).length : Int) != (l1.length : Int))) else (none)) else (spec_DecodeWord.j0 k l0 l1 a2 false)) else (spec_DecodeWord.j0 k l0 l1 a2 true)) = some (r1, r2) := H
      have A7 := Aside0.mk A70
      clear A70
      by_cases c8 : t183 = true
      · subst c8
        have H1 : (if (l0.length : Int) > 0 then (if 0 < (l0.length : Int) then (spec_DecodeWord.j0 k l0 l1 a2 (((rd_L1 l0 0).length : Int) != (l1.length : Int))) else (none)) else (spec_DecodeWord.j0 k l0 l1 a2 false)) = some (r1, r2) := by rw [if_pos rfl] at H; exact H
        clear H
        have H := H1
        clear H1
        by_cases c9 : (l0.length : Int) > 0
        · rw [if_pos c9] at H
          have c9b0 : decide (0 < (l0.length : Int)) = true := decide_eq_true c9
          have c9b1 : decide (0 < l0.length) = true := decide_eq_true (by omega)
          clear c9
          (first | rw [c9b0] | (simp only [i64_w, i32_w]; rw [c9b0]) | skip)
          by_cases c10 : 0 < (l0.length : Int)
          · rw [if_pos c10] at H
            have c10b0 : decide (0 < (l0.length : Int)) = true := decide_eq_true c10
            have c10b1 : decide (0 < l0.length) = true := decide_eq_true (by omega)
            clear c10
            have H' := Aside0.mk H
            clear H
            go_wp2_with (first | ((with_reducible refine gate_callee (f := 78) rfl ?_); refine goesL_ (some 11) rfl rfl Try.func78 (by kernel_rfl) rfl #[.slice A0 l0.length c0] rfl (by (try simp only [List.map_toArray, List.map_cons, List.map_nil]); first | done | rfl | (simp only [List.length_drop, List.length_take]; rfl)) ?_; (with_reducible refine (spec_l05Words.calls k _ _ l0 true _ ?side1 ?side2 A5.out).mono ?_); (case side1 => repeat (first | exact HR0.out | (with_reducible refine Kd.C_alloc ?_ _) | (with_reducible refine Kd.C_drewN ?_ _) | (with_reducible refine Kd.C_drew ?_))); (case side2 => exact HC0.out); rintro e w' ⟨rfl, ⟨nd, rfl⟩⟩; refine ⟨_, rfl, ?_⟩) | (go_at_call 53; (with_reducible refine (spec_l05Word.calls k _ _ l1 true _ ?side1 ?side2 A7.out).mono ?_); (case side1 => repeat (first | exact HR1.out | (with_reducible refine Kd.C_alloc ?_ _) | (with_reducible refine Kd.C_drewN ?_ _) | (with_reducible refine Kd.C_drew ?_))); (case side2 => exact HC1.out); rintro e w' ⟨rfl, ⟨nd, rfl⟩⟩; have p184 : 0 ≤ (0 : Int) := (by omega); have q184 : 0 < (l0.length : Int) := of_decide_eq_true (by first | (with_reducible assumption) | assumption); obtain ⟨ad184, A184_0, c184_0, e184, hx184_0, hl184_0, hi184_0⟩ := at_L1 HR0.out 0 p184 q184; cases e184; have qi184 : (0 < l0.length) = True := eq_true (by omega); (try rw [show ((0 : Int)).toNat = 0 from rfl] at hx184_0); (try rw [Addr.add_zero'] at hx184_0); have HR184_0 := Aside0.mk hi184_0; have HC184_0 := Aside0.mk hl184_0; clear hi184_0 hl184_0; replace p184 := eq_true p184; replace q184 := eq_true q184))
            go_meet
            case rel => exact ⟨_, ((((rd_L1 l0 0).length : Int) != (l1.length : Int))), (by first | rfl | (simp; done) | (simp [*]; done)), H', ⟨by first | omega | exact Nat.le_refl _⟩, by repeat (first | exact Drawn0.refl _ | apply Drawn0.step)⟩
          · rw [if_neg c10] at H
            exact absurd H (by simp)
        · rw [if_neg c9] at H
          have c9b0 : decide (0 < (l0.length : Int)) = false := decide_eq_false c9
          have c9b1 : decide (0 < l0.length) = false := decide_eq_false (by omega)
          clear c9
          (first | rw [c9b0] | (simp only [i64_w, i32_w]; rw [c9b0]) | skip)
          have H' := Aside0.mk H
          clear H
          go_wp2_with (first | ((with_reducible refine gate_callee (f := 78) rfl ?_); refine goesL_ (some 11) rfl rfl Try.func78 (by kernel_rfl) rfl #[.slice A0 l0.length c0] rfl (by (try simp only [List.map_toArray, List.map_cons, List.map_nil]); first | done | rfl | (simp only [List.length_drop, List.length_take]; rfl)) ?_; (with_reducible refine (spec_l05Words.calls k _ _ l0 true _ ?side1 ?side2 A5.out).mono ?_); (case side1 => repeat (first | exact HR0.out | (with_reducible refine Kd.C_alloc ?_ _) | (with_reducible refine Kd.C_drewN ?_ _) | (with_reducible refine Kd.C_drew ?_))); (case side2 => exact HC0.out); rintro e w' ⟨rfl, ⟨nd, rfl⟩⟩; refine ⟨_, rfl, ?_⟩) | (go_at_call 53; (with_reducible refine (spec_l05Word.calls k _ _ l1 true _ ?side1 ?side2 A7.out).mono ?_); (case side1 => repeat (first | exact HR1.out | (with_reducible refine Kd.C_alloc ?_ _) | (with_reducible refine Kd.C_drewN ?_ _) | (with_reducible refine Kd.C_drew ?_))); (case side2 => exact HC1.out); rintro e w' ⟨rfl, ⟨nd, rfl⟩⟩))
          go_meet
          case rel => exact ⟨_, (false), (by first | rfl | (simp; done) | (simp [*]; done)), H', ⟨by first | omega | exact Nat.le_refl _⟩, by repeat (first | exact Drawn0.refl _ | apply Drawn0.step)⟩
      · replace c8 := Bool.eq_false_iff.mpr c8
        subst c8
        have H1 : (spec_DecodeWord.j0 k l0 l1 a2 true) = some (r1, r2) := by rw [if_neg (show ¬ (false = true) by decide)] at H; exact H
        clear H
        have H := H1
        clear H1
        have H' := Aside0.mk H
        clear H
        go_wp2_with (first | ((with_reducible refine gate_callee (f := 78) rfl ?_); refine goesL_ (some 11) rfl rfl Try.func78 (by kernel_rfl) rfl #[.slice A0 l0.length c0] rfl (by (try simp only [List.map_toArray, List.map_cons, List.map_nil]); first | done | rfl | (simp only [List.length_drop, List.length_take]; rfl)) ?_; (with_reducible refine (spec_l05Words.calls k _ _ l0 true _ ?side1 ?side2 A5.out).mono ?_); (case side1 => repeat (first | exact HR0.out | (with_reducible refine Kd.C_alloc ?_ _) | (with_reducible refine Kd.C_drewN ?_ _) | (with_reducible refine Kd.C_drew ?_))); (case side2 => exact HC0.out); rintro e w' ⟨rfl, ⟨nd, rfl⟩⟩; refine ⟨_, rfl, ?_⟩) | (go_at_call 53; (with_reducible refine (spec_l05Word.calls k _ _ l1 false _ ?side1 ?side2 A7.out).mono ?_); (case side1 => repeat (first | exact HR1.out | (with_reducible refine Kd.C_alloc ?_ _) | (with_reducible refine Kd.C_drewN ?_ _) | (with_reducible refine Kd.C_drew ?_))); (case side2 => exact HC1.out); rintro e w' ⟨rfl, ⟨nd, rfl⟩⟩))
        go_meet
        case rel => exact ⟨_, (true), (by first | rfl | (simp; done) | (simp [*]; done)), H', ⟨by first | omega | exact Nat.le_refl _⟩, by repeat (first | exact Drawn0.refl _ | apply Drawn0.step)⟩
    · replace c6 := Bool.eq_false_iff.mpr c6
      subst c6
      have H1 : (spec_DecodeWord.j0 k l0 l1 a2 true) = some (r1, r2) := by rw [if_neg (show ¬ (false = true) by decide)] at H; exact H
      clear H
      have H := H1
      clear H1
      have H' := Aside0.mk H
      clear H
      go_wp2_with (first | ((with_reducible refine gate_callee (f := 78) rfl ?_); refine goesL_ (some 11) rfl rfl Try.func78 (by kernel_rfl) rfl #[.slice A0 l0.length c0] rfl (by (try simp only [List.map_toArray, List.map_cons, List.map_nil]); first | done | rfl | (simp only [List.length_drop, List.length_take]; rfl)) ?_; (with_reducible refine (spec_l05Words.calls k _ _ l0 false _ ?side1 ?side2 A5.out).mono ?_); (case side1 => repeat (first | exact HR0.out | (with_reducible refine Kd.C_alloc ?_ _) | (with_reducible refine Kd.C_drewN ?_ _) | (with_reducible refine Kd.C_drew ?_))); (case side2 => exact HC0.out); rintro e w' ⟨rfl, ⟨nd, rfl⟩⟩; refine ⟨_, rfl, ?_⟩))
      go_meet
      case rel => exact ⟨_, (true), (by first | rfl | (simp; done) | (simp [*]; done)), H', ⟨by first | omega | exact Nat.le_refl _⟩, by repeat (first | exact Drawn0.refl _ | apply Drawn0.step)⟩
  case rest =>
    clear HC4
    try clear c1
    try clear p1
    try clear q1
    try clear hx1
    try clear qi1
    try clear p2
    try clear c4
    try clear c6
    try clear c7
    try clear c8
    try clear c9
    try clear c9b0
    try clear c9b1
    try clear c10
    try clear c10b0
    try clear c10b1
    try clear hx184_0
    try clear p184
    try clear q184
    obtain ⟨kq, x31_3, rfl, HA, HJ3, ⟨mc3, rfl⟩⟩ := hcut
    cases kq with
    | zero => exact absurd HA.out (by simp [spec_DecodeWord.j0])
    | succ kj3 =>
      have H := HA.out
      clear HA
      simp only [spec_DecodeWord.j0] at H
      by_cases c11 : x31_3 = true
      · subst c11
        have H1 : (some (0, 1)) = some (r1, r2) := by rw [if_pos rfl] at H; exact H
        clear H
        have H := H1
        clear H1
        simp only [Option.some.injEq, Prod.mk.injEq] at H
        obtain ⟨rfl, rfl⟩ := H
        go_wp2
        go_ret2
        exact ⟨by first | rfl | (simp; done) | (simp [*]; done), by repeat (first | exact Drawn0.refl _ | apply Drawn0.step)⟩
      · replace c11 := Bool.eq_false_iff.mpr c11
        subst c11
        have H1 : (if (l0.length : Int) > 60 then (some (0, 3)) else ((spec_l00In.f a2 0 8).bind fun t185 => (if t185 = true then (spec_DecodeWord.l0 kj3 l0 l1 a2 (-1) 0) else (some (0, 2))))) = some (r1, r2) := by rw [if_neg (show ¬ (false = true) by decide)] at H; exact H
        clear H
        have H := H1
        clear H1
        by_cases c12 : (l0.length : Int) > 60
        · rw [if_pos c12] at H
          have c12b0 : decide (60 < (l0.length : Int)) = true := decide_eq_true c12
          have c12b1 : decide (60 < l0.length) = true := decide_eq_true (by omega)
          clear c12
          simp only [Option.some.injEq, Prod.mk.injEq] at H
          obtain ⟨rfl, rfl⟩ := H
          go_wp2
          go_ret2
          exact ⟨by first | rfl | (simp; done) | (simp [*]; done), by repeat (first | exact Drawn0.refl _ | apply Drawn0.step)⟩
        · rw [if_neg c12] at H
          have c12b0 : decide (60 < (l0.length : Int)) = false := decide_eq_false c12
          have c12b1 : decide (60 < l0.length) = false := decide_eq_false (by omega)
          clear c12
          replace H := Option.bind_eq_some_iff.mp H
          obtain ⟨t185, A130, H⟩ := H
          replace H : (if t185 = true then (spec_DecodeWord.l0 kj3 l0 l1 a2 (-1) 0) else (some (0, 2))) = some (r1, r2) := H
          have A13 := Aside0.mk A130
          clear A130
          by_cases c14 : t185 = true
          · subst c14
            have H1 : (spec_DecodeWord.l0 kj3 l0 l1 a2 (-1) 0) = some (r1, r2) := by rw [if_pos rfl] at H; exact H
            clear H
            have H := H1
            clear H1
            have H' := Aside0.mk H
            clear H
            go_wp2_with (first | ((with_reducible refine gate_callee (f := 49) rfl ?_); refine goesL_ (some 36) rfl rfl Try.func49 (by kernel_rfl) rfl #[.int .i64 a2, .int .i64 0, .int .i64 8] rfl (by (try simp only [List.map_toArray, List.map_cons, List.map_nil]); first | done | rfl | (simp only [List.length_drop, List.length_take]; rfl)) ?_; (with_reducible refine (spec_l00In.calls a2 0 8 true _ A13.out).mono ?_); rintro e w' ⟨rfl, ⟨nd, rfl⟩⟩; refine ⟨_, rfl, ?_⟩))
            go_loopg [8, 9] kj3 (fun kq v8 v9 w' => ∃ (x8_2 : Int) (x9_2 : Int), v8 = .int .i64 x8_2 ∧ v9 = .int .i64 x9_2 ∧ Aside0 (spec_DecodeWord.l0 kq l0 l1 a2 x8_2 x9_2 = some (r1, r2)) ∧ Aside0 (kq ≤ kj3) ∧ Drawn0 w w')
            case atStart => exact ⟨((-1)), (0), (by first | rfl | (simp; done) | (simp [*]; done)), (by first | rfl | (simp; done) | (simp [*]; done)), H', ⟨Nat.le_refl _⟩, by repeat (first | exact Drawn0.refl _ | apply Drawn0.step)⟩
            case round =>
              clear H'
              try clear c1
              try clear p1
              try clear q1
              try clear hx1
              try clear qi1
              try clear p2
              try clear c3
              try clear c4
              try clear c6
              try clear c7
              try clear c8
              try clear c9
              try clear c9b0
              try clear c9b1
              try clear c10
              try clear c10b0
              try clear c10b1
              try clear c11
              try clear c12
              try clear c12b0
              try clear c12b1
              try clear c14
              try clear hx184_0
              try clear p1
              try clear p184
              try clear p2
              try clear q1
              try clear q184
              obtain ⟨x8_2, x9_2, rfl, rfl, HA, HK2, ⟨m2, rfl⟩⟩ := hrel
              cases gk with
              | zero => exact absurd HA.out (by simp [spec_DecodeWord.l0])
              | succ k2 =>
                have H := HA.out
                clear HA
                simp only [spec_DecodeWord.l0] at H
                by_cases c15 : x9_2 < (l0.length : Int)
                · rw [if_pos c15] at H
                  have c15b0 : decide (x9_2 < (l0.length : Int)) = true := decide_eq_true c15
                  clear c15
                  by_cases c16 : 0 ≤ x9_2
                  · rw [if_pos c16] at H
                    have c16b0 : decide (0 ≤ x9_2) = true := decide_eq_true c16
                    clear c16
                    replace H := Option.bind_eq_some_iff.mp H
                    obtain ⟨t187, A170, H⟩ := H
                    replace H : (if t187 > a2 then (spec_DecodeWord.l0 k2 l0 l1 a2 x8_2 (wrap64 (x9_2 + 1))) else (if x8_2 ≥ 0 then (some (0, 8)) else (spec_DecodeWord.l0 k2 l0 l1 a2 x9_2 (wrap64 (x9_2 + 1))))) = some (r1, r2) := H
                    have A17 := Aside0.mk A170
                    clear A170
                    by_cases c18 : t187 > a2
                    · rw [if_pos c18] at H
                      have c18b0 : decide (a2 < t187) = true := decide_eq_true c18
                      clear c18
                      have H' := Aside0.mk H
                      clear H
                      have p186 : 0 ≤ (x9_2 : Int) := of_decide_eq_true (by first | (with_reducible assumption) | assumption)
                      have q186 : x9_2 < (l0.length : Int) := of_decide_eq_true (by first | (with_reducible assumption) | assumption)
                      obtain ⟨ad186, A186_0, c186_0, e186, hx186_0, hl186_0, hi186_0⟩ := at_L1 HR0.out x9_2 p186 q186
                      cases e186
                      have HR186_0 := Aside0.mk hi186_0
                      have HC186_0 := Aside0.mk hl186_0
                      clear hi186_0 hl186_0
                      replace p186 := eq_true p186
                      replace q186 := eq_true q186
                      go_wp2_with (first | ((with_reducible refine gate_callee (f := 54) rfl ?_); refine goesL_ (some 49) rfl rfl Try.func54 (by kernel_rfl) rfl #[.slice A186_0 (rd_L1 l0 x9_2).length c186_0, .slice A1 l1.length c1] rfl (by (try simp only [List.map_toArray, List.map_cons, List.map_nil]); first | done | rfl | (simp only [List.length_drop, List.length_take]; rfl)) ?_; (with_reducible refine (spec_l05Apart.calls k2 _ _ (rd_L1 l0 x9_2) _ _ l1 t187 _ ?side1 ?side2 ?side3 ?side4 A17.out).mono ?_); (case side1 => repeat (first | exact HR186_0.out | (with_reducible refine Kd.C_alloc ?_ _) | (with_reducible refine Kd.C_drewN ?_ _) | (with_reducible refine Kd.C_drew ?_))); (case side2 => exact HC186_0.out); (case side3 => repeat (first | exact HR1.out | (with_reducible refine Kd.C_alloc ?_ _) | (with_reducible refine Kd.C_drewN ?_ _) | (with_reducible refine Kd.C_drew ?_))); (case side4 => exact HC1.out); rintro e w' ⟨rfl, ⟨nd, rfl⟩⟩; refine ⟨_, rfl, ?_⟩))
                      go_roundg k2
                      case measure => have := HJ3.out; have := HK2.out; omega
                      case rel => exact ⟨(x8_2), (wrap64 (x9_2 + 1)), (by first | rfl | (simp; done) | (simp [*]; done)), (by first | rfl | (simp; done) | (simp [*]; done)), H', ⟨by have := HJ3.out; have := HK2.out; omega⟩, by repeat (first | exact Drawn0.refl _ | apply Drawn0.step)⟩
                    · rw [if_neg c18] at H
                      have c18b0 : decide (a2 < t187) = false := decide_eq_false c18
                      clear c18
                      by_cases c19 : x8_2 ≥ 0
                      · rw [if_pos c19] at H
                        have c19b0 : decide (0 ≤ x8_2) = true := decide_eq_true c19
                        clear c19
                        simp only [Option.some.injEq, Prod.mk.injEq] at H
                        obtain ⟨rfl, rfl⟩ := H
                        have p186 : 0 ≤ (x9_2 : Int) := of_decide_eq_true (by first | (with_reducible assumption) | assumption)
                        have q186 : x9_2 < (l0.length : Int) := of_decide_eq_true (by first | (with_reducible assumption) | assumption)
                        obtain ⟨ad186, A186_0, c186_0, e186, hx186_0, hl186_0, hi186_0⟩ := at_L1 HR0.out x9_2 p186 q186
                        cases e186
                        have HR186_0 := Aside0.mk hi186_0
                        have HC186_0 := Aside0.mk hl186_0
                        clear hi186_0 hl186_0
                        replace p186 := eq_true p186
                        replace q186 := eq_true q186
                        go_wp2_with (first | ((with_reducible refine gate_callee (f := 54) rfl ?_); refine goesL_ (some 49) rfl rfl Try.func54 (by kernel_rfl) rfl #[.slice A186_0 (rd_L1 l0 x9_2).length c186_0, .slice A1 l1.length c1] rfl (by (try simp only [List.map_toArray, List.map_cons, List.map_nil]); first | done | rfl | (simp only [List.length_drop, List.length_take]; rfl)) ?_; (with_reducible refine (spec_l05Apart.calls k2 _ _ (rd_L1 l0 x9_2) _ _ l1 t187 _ ?side1 ?side2 ?side3 ?side4 A17.out).mono ?_); (case side1 => repeat (first | exact HR186_0.out | (with_reducible refine Kd.C_alloc ?_ _) | (with_reducible refine Kd.C_drewN ?_ _) | (with_reducible refine Kd.C_drew ?_))); (case side2 => exact HC186_0.out); (case side3 => repeat (first | exact HR1.out | (with_reducible refine Kd.C_alloc ?_ _) | (with_reducible refine Kd.C_drewN ?_ _) | (with_reducible refine Kd.C_drew ?_))); (case side4 => exact HC1.out); rintro e w' ⟨rfl, ⟨nd, rfl⟩⟩; refine ⟨_, rfl, ?_⟩))
                        go_ret2
                        exact ⟨by first | rfl | (simp; done) | (simp [*]; done), by repeat (first | exact Drawn0.refl _ | apply Drawn0.step)⟩
                      · rw [if_neg c19] at H
                        have c19b0 : decide (0 ≤ x8_2) = false := decide_eq_false c19
                        clear c19
                        have H' := Aside0.mk H
                        clear H
                        have p186 : 0 ≤ (x9_2 : Int) := of_decide_eq_true (by first | (with_reducible assumption) | assumption)
                        have q186 : x9_2 < (l0.length : Int) := of_decide_eq_true (by first | (with_reducible assumption) | assumption)
                        obtain ⟨ad186, A186_0, c186_0, e186, hx186_0, hl186_0, hi186_0⟩ := at_L1 HR0.out x9_2 p186 q186
                        cases e186
                        have HR186_0 := Aside0.mk hi186_0
                        have HC186_0 := Aside0.mk hl186_0
                        clear hi186_0 hl186_0
                        replace p186 := eq_true p186
                        replace q186 := eq_true q186
                        go_wp2_with (first | ((with_reducible refine gate_callee (f := 54) rfl ?_); refine goesL_ (some 49) rfl rfl Try.func54 (by kernel_rfl) rfl #[.slice A186_0 (rd_L1 l0 x9_2).length c186_0, .slice A1 l1.length c1] rfl (by (try simp only [List.map_toArray, List.map_cons, List.map_nil]); first | done | rfl | (simp only [List.length_drop, List.length_take]; rfl)) ?_; (with_reducible refine (spec_l05Apart.calls k2 _ _ (rd_L1 l0 x9_2) _ _ l1 t187 _ ?side1 ?side2 ?side3 ?side4 A17.out).mono ?_); (case side1 => repeat (first | exact HR186_0.out | (with_reducible refine Kd.C_alloc ?_ _) | (with_reducible refine Kd.C_drewN ?_ _) | (with_reducible refine Kd.C_drew ?_))); (case side2 => exact HC186_0.out); (case side3 => repeat (first | exact HR1.out | (with_reducible refine Kd.C_alloc ?_ _) | (with_reducible refine Kd.C_drewN ?_ _) | (with_reducible refine Kd.C_drew ?_))); (case side4 => exact HC1.out); rintro e w' ⟨rfl, ⟨nd, rfl⟩⟩; refine ⟨_, rfl, ?_⟩))
                        go_roundg k2
                        case measure => have := HJ3.out; have := HK2.out; omega
                        case rel => exact ⟨(x9_2), (wrap64 (x9_2 + 1)), (by first | rfl | (simp; done) | (simp [*]; done)), (by first | rfl | (simp; done) | (simp [*]; done)), H', ⟨by have := HJ3.out; have := HK2.out; omega⟩, by repeat (first | exact Drawn0.refl _ | apply Drawn0.step)⟩
                  · rw [if_neg c16] at H
                    exact absurd H (by simp)
                · rw [if_neg c15] at H
                  have c15b0 : decide (x9_2 < (l0.length : Int)) = false := decide_eq_false c15
                  clear c15
                  by_cases c20 : x8_2 < 0
                  · rw [if_pos c20] at H
                    have c20b0 : decide (x8_2 < 0) = true := decide_eq_true c20
                    clear c20
                    simp only [Option.some.injEq, Prod.mk.injEq] at H
                    obtain ⟨rfl, rfl⟩ := H
                    go_wp2
                    go_ret2
                    exact ⟨by first | rfl | (simp; done) | (simp [*]; done), by repeat (first | exact Drawn0.refl _ | apply Drawn0.step)⟩
                  · rw [if_neg c20] at H
                    have c20b0 : decide (x8_2 < 0) = false := decide_eq_false c20
                    clear c20
                    simp only [Option.some.injEq, Prod.mk.injEq] at H
                    obtain ⟨rfl, rfl⟩ := H
                    go_wp2
                    go_ret2
                    exact ⟨by first | rfl | (simp; done) | (simp [*]; done), by repeat (first | exact Drawn0.refl _ | apply Drawn0.step)⟩
          · replace c14 := Bool.eq_false_iff.mpr c14
            subst c14
            have H1 : (some (0, 2)) = some (r1, r2) := by rw [if_neg (show ¬ (false = true) by decide)] at H; exact H
            clear H
            have H := H1
            clear H1
            simp only [Option.some.injEq, Prod.mk.injEq] at H
            obtain ⟨rfl, rfl⟩ := H
            go_wp2_with (first | ((with_reducible refine gate_callee (f := 49) rfl ?_); refine goesL_ (some 36) rfl rfl Try.func49 (by kernel_rfl) rfl #[.int .i64 a2, .int .i64 0, .int .i64 8] rfl (by (try simp only [List.map_toArray, List.map_cons, List.map_nil]); first | done | rfl | (simp only [List.length_drop, List.length_take]; rfl)) ?_; (with_reducible refine (spec_l00In.calls a2 0 8 false _ A13.out).mono ?_); rintro e w' ⟨rfl, ⟨nd, rfl⟩⟩; refine ⟨_, rfl, ?_⟩))
            go_ret2
            exact ⟨by first | rfl | (simp; done) | (simp [*]; done), by repeat (first | exact Drawn0.refl _ | apply Drawn0.step)⟩

/-! ### impl_firstOf: function 79 -/
def impl_firstOf.l0 : Nat → List Int → Int → Int → Option (Int)
  | 0, _, _, _ => none
  | k + 1, x5, x6, x7 => if x7 < x6 then (if 0 ≤ x7 then (if x7 < (x5.length : Int) then (if (rd x5 x7) = 0 then (impl_firstOf.l0 k x5 x6 (wrap64 (x7 + 1))) else (some (rd x5 x7))) else (none)) else (none)) else (some 0)
def impl_firstOf.f (k : Nat) (l0 : List Int) : Option (Int) := impl_firstOf.l0 k l0 (l0.length : Int) 0
theorem impl_firstOf.mono_l : ∀ k, (∀ y0 y1 y2, LeO (impl_firstOf.l0 k y0 y1 y2) (impl_firstOf.l0 (k + 1) y0 y1 y2))
  | 0 => fun _ _ _ r h => by simp [impl_firstOf.l0] at h
  | k + 1 => by
    have ih0 := impl_firstOf.mono_l k
    · intro y0 y1 y2
      unfold impl_firstOf.l0
      repeat' first
      | (with_reducible exact ih0 _ _ _)
      | (with_reducible exact LeO.refl _)
      | (with_reducible exact LeO.none _)
      | (with_reducible refine LeO.ite ?_ ?_)
      | (with_reducible refine LeO.bind ?_ (fun _ => ?_))
      | exact ih0 _ _ _
      | exact LeO.none _
      | refine LeO.ite ?_ ?_
      | refine LeO.bind ?_ (fun _ => ?_)
theorem impl_firstOf.mono : ∀ a0 k, LeO (impl_firstOf.f k a0) (impl_firstOf.f (k + 1) a0) := by
  intro a0 k
  have ih0 := impl_firstOf.mono_l k
  unfold impl_firstOf.f
  repeat' first
      | (with_reducible exact ih0 _ _ _)
      | (with_reducible exact LeO.refl _)
      | (with_reducible exact LeO.none _)
      | (with_reducible refine LeO.ite ?_ ?_)
      | (with_reducible refine LeO.bind ?_ (fun _ => ?_))
      | exact ih0 _ _ _
      | exact LeO.none _
      | refine LeO.ite ?_ ?_
      | refine LeO.bind ?_ (fun _ => ?_)
set_option maxHeartbeats 8000000 in
set_option maxRecDepth 100000 in
theorem impl_firstOf.calls (k : Nat) (A0 : Option Addr) (c0 : Nat) (l0 : List Int) (r : Int) (w : World) (hr0 : Kd.C (Kd.int .i64) w A0 l0.length l0) (hc0 : l0.length ≤ c0) (h : impl_firstOf.f k l0 = some r) :
    Calls Try.prog 79 #[.slice A0 l0.length c0] w fun e w' => e = .returned (.int .i64 r) ∧ Drawn0 w w' := by
  have HR0 := Aside0.mk hr0
  have HC0 := Aside0.mk hc0
  clear hr0 hc0
  have H : (impl_firstOf.l0 k l0 (l0.length : Int) 0) = some r := h
  clear h
  have H' := Aside0.mk H
  clear H
  go_enter Try.func79, Try.ntmps79
  go_wp2
  go_loopg [7] k (fun kq v7 w' => ∃ (x7_1 : Int), v7 = .int .i64 x7_1 ∧ Aside0 (impl_firstOf.l0 kq l0 (l0.length : Int) x7_1 = some r) ∧ Aside0 (kq ≤ k) ∧ Drawn0 w w')
  case atStart => exact ⟨(0), (by first | rfl | (simp; done) | (simp [*]; done)), H', ⟨Nat.le_refl _⟩, by repeat (first | exact Drawn0.refl _ | apply Drawn0.step)⟩
  case round =>
    clear H'
    obtain ⟨x7_1, rfl, HA, HK1, ⟨m1, rfl⟩⟩ := hrel
    cases gk with
    | zero => exact absurd HA.out (by simp [impl_firstOf.l0])
    | succ k1 =>
      have H := HA.out
      clear HA
      simp only [impl_firstOf.l0] at H
      by_cases c2 : x7_1 < (l0.length : Int)
      · rw [if_pos c2] at H
        have c2b0 : decide (x7_1 < (l0.length : Int)) = true := decide_eq_true c2
        clear c2
        by_cases c3 : 0 ≤ x7_1
        · rw [if_pos c3] at H
          have c3b0 : decide (0 ≤ x7_1) = true := decide_eq_true c3
          clear c3
          by_cases c4 : x7_1 < (l0.length : Int)
          · rw [if_pos c4] at H
            have c4b0 : decide (x7_1 < (l0.length : Int)) = true := decide_eq_true c4
            clear c4
            by_cases c5 : (rd l0 x7_1) = 0
            · rw [if_pos c5] at H
              have c5b0 : ((rd l0 x7_1) == 0) = true := beq_iff_eq.mpr c5
              have c5b1 : ((rd l0 x7_1) != 0) = false := bne_eq_false_iff_eq.mpr c5
              clear c5
              have H' := Aside0.mk H
              clear H
              have p188 : 0 ≤ (x7_1 : Int) := of_decide_eq_true (by first | (with_reducible assumption) | assumption)
              have q188 : x7_1 < (l0.length : Int) := of_decide_eq_true (by first | (with_reducible assumption) | assumption)
              obtain ⟨ad188, e188, hx188_0⟩ := Kd.at_int HR0.out x7_1 p188 q188
              cases e188
              replace p188 := eq_true p188
              replace q188 := eq_true q188
              go_wp2
              go_roundg k1
              case measure => have := HK1.out; omega
              case rel => exact ⟨(wrap64 (x7_1 + 1)), (by first | rfl | (simp; done) | (simp [*]; done)), H', ⟨by have := HK1.out; omega⟩, by repeat (first | exact Drawn0.refl _ | apply Drawn0.step)⟩
            · rw [if_neg c5] at H
              have c5b0 : ((rd l0 x7_1) == 0) = false := beq_eq_false_iff_ne.mpr c5
              have c5b1 : ((rd l0 x7_1) != 0) = true := bne_iff_ne.mpr c5
              obtain rfl := Option.some.inj H
              have p188 : 0 ≤ (x7_1 : Int) := of_decide_eq_true (by first | (with_reducible assumption) | assumption)
              have q188 : x7_1 < (l0.length : Int) := of_decide_eq_true (by first | (with_reducible assumption) | assumption)
              obtain ⟨ad188, e188, hx188_0⟩ := Kd.at_int HR0.out x7_1 p188 q188
              cases e188
              replace p188 := eq_true p188
              replace q188 := eq_true q188
              go_wp2
              go_ret
              exact ⟨by first | rfl | (simp; done) | (simp [*]; done), by repeat (first | exact Drawn0.refl _ | apply Drawn0.step)⟩
          · rw [if_neg c4] at H
            exact absurd H (by simp)
        · rw [if_neg c3] at H
          exact absurd H (by simp)
      · rw [if_neg c2] at H
        have c2b0 : decide (x7_1 < (l0.length : Int)) = false := decide_eq_false c2
        clear c2
        obtain rfl := Option.some.inj H
        go_wp2
        go_ret
        exact ⟨by first | rfl | (simp; done) | (simp [*]; done), by repeat (first | exact Drawn0.refl _ | apply Drawn0.step)⟩

/-! ### impl_DecodeWord: function 43 -/
-- given loop.example/g01299/impl.DecodeWord
-- rounds no
-- making yes
theorem box_int (w : World) (l : List Int) (t : TypeId) (hl : l.length ≤ 1000) : Kd.C (Kd.int .i64) (w.alloc (.cells (l.map fun x => Value.int .i64 x).toArray t)) (some ⟨w.heap.size, 0, none⟩) l.length l := by
  refine ⟨rfl, by omega, fun hn => ⟨_, rfl, fun j s hs => ⟨[.int .i64 s], rfl, rfl, fun i u hu => ?_⟩⟩⟩
  rcases i with _ | i
  · cases hu
    have e : (⟨w.heap.size, 0, none⟩ : Addr).add (j * 1 + 0) = ⟨w.heap.size, j, none⟩ := by
      unfold Addr.add
      split
      · rename_i h; have : j = 0 := by omega
        subst this; rfl
      · simp
    show World.cell? _ ((⟨w.heap.size, 0, none⟩ : Addr).add (j * 1 + 0)) = _
    rw [e, box_cell, List.getElem?_toArray, List.getElem?_map, hs]
    rfl
  · simp at hu
theorem firstOf2_calls (W : World) (a b : Int) (t : TypeId) : Calls Try.prog 79 #[.slice (some ⟨W.heap.size, 0, none⟩) 2 2] (W.alloc (.cells #[.int .i64 a, .int .i64 b] t)) fun e w' => e = .returned (.int .i64 (if a = 0 then b else a)) ∧ Below W.heap.size W w' := by
  refine (impl_firstOf.calls 4 _ 2 [a, b] (if a = 0 then b else a) _ (box_int W [a, b] t (by simp)) (by simp) ?_).mono ?_
  · unfold impl_firstOf.f
    by_cases ha : a = 0
    · by_cases hb : b = 0
      · simp [impl_firstOf.l0, rd, ha, hb, wrap64]
      · simp [impl_firstOf.l0, rd, ha, hb, wrap64]
    · simp [impl_firstOf.l0, rd, ha, wrap64]
  · rintro e w' ⟨rfl, hd⟩
    exact ⟨rfl, below_then (below_alloc (Below.refl _ _) _) (by simp) hd.below⟩
/-- How many words of the first ones are near, and the last one of these. -/
def decN (l : List (List Int)) (x : List Int) (wrong : Int) : Nat → Int × Int
  | 0 => (0, 0)
  | i + 1 => if apD (rd_L1 l (i : Int)) x (rd_L1 l (i : Int)).length ≤ wrong then ((i : Int), (decN l x wrong i).2 + 1) else decN l x wrong i
theorem decN_b (l : List (List Int)) (x : List Int) (wrong : Int) : ∀ i : Nat, 0 ≤ (decN l x wrong i).2 ∧ (decN l x wrong i).2 ≤ i
  | 0 => ⟨Int.le_refl _, Int.le_refl _⟩
  | i + 1 => by
    have := decN_b l x wrong i
    rw [decN]
    split
    · simp only; omega
    · omega
def decR (p : Int × Int) : Int × Int := if p.2 = 0 then (0, 6) else if p.2 = 1 then (p.1, 0) else (0, 8)
def decodeW (l : List (List Int)) (x : List Int) (wrong : Int) : Int × Int := if codeW l [x] = 0 then (if 0 ≤ wrong ∧ wrong ≤ 8 then decR (decN l x wrong l.length) else (0, 2)) else (0, codeW l [x])
def impl_DecodeWord.f (l0 : List (List Int)) (l1 : List Int) (a2 : Int) : Option (Int × Int) := if l0.length ≤ 100000000 then some (decodeW l0 l1 a2) else none
theorem one_shp {w : World} {A : Option Addr} {c : Nat} {x : List Int} (W : World) (t : TypeId) (hW : Below w.heap.size w W) (hr : Kd.C (Kd.int .u8) w A x.length x) (hc : x.length ≤ c) : Kd.C (Kd.slice 5 (Kd.int .u8)) (W.alloc (.cells #[.slice A x.length c] t)) (some ⟨W.heap.size, 0, none⟩) 1 [x] :=
  of_shp (box_shp W [(A, x.length, c)] t (by simp)) rfl fun j y hj => by
    rcases j with _ | j
    · cases hj
      exact ⟨A, c, rfl, hc, Kd.C_below (Kd.C_below hr hW) (below_alloc (Below.refl _ _) _)⟩
    · simp at hj
set_option maxHeartbeats 4000000 in
set_option maxRecDepth 100000 in
theorem impl_DecodeWord.calls (A0 : Option Addr) (c0 : Nat) (l0 : List (List Int)) (A1 : Option Addr) (c1 : Nat) (l1 : List Int) (a2 : Int) (r1 : Int) (r2 : Int) (w : World) (hr0 : Kd.C (Kd.slice 5 (Kd.int .u8)) w A0 l0.length l0) (hc0 : l0.length ≤ c0) (hr1 : Kd.C (Kd.int .u8) w A1 l1.length l1) (hc1 : l1.length ≤ c1) (h : impl_DecodeWord.f l0 l1 a2 = some (r1, r2)) :
    Calls Try.prog 43 #[.slice A0 l0.length c0, .slice A1 l1.length c1, .int .i64 a2] w fun e w' => e = .returned (.tuple #[.int .i64 r1, .int .i64 r2]) ∧ Below w.heap.size w w' := by
  unfold impl_DecodeWord.f at h
  split at h
  · rename_i hlen
    have h := Option.some.inj h
    have HCODE := Aside0.mk (fun (t : TypeId) => wordsCode_calls A0 c0 l0 (some ⟨w.heap.size, 0, none⟩) 1 [l1] _ (Kd.C_below hr0 (below_alloc (Below.refl _ _) (.cells #[.slice A1 l1.length c1] t))) hc0 (one_shp w t (Below.refl _ _) hr1 hc1) (by simp) (by simp; omega))
    have HFO := Aside0.mk firstOf2_calls
    by_cases hin : 0 ≤ a2 ∧ a2 ≤ 8
    · have HWI : Aside0 (impl_within.f a2 0 8 = some true) := ⟨by unfold impl_within.f; rw [if_pos hin.1]; simp [hin.2]⟩
      by_cases hk : codeW l0 [l1] = 0
      · have hk2 := codeW_zero hk
        have hev := areW_even hk2.1
        have hlen1 : ∀ x ∈ l0, x.length ≤ 8 ∧ x.length = l1.length := fun x hx => by
          have e1 := hev x (List.mem_append_left _ hx)
          have e2 := hev l1 (by simp)
          exact ⟨e1.1, by rw [e1.2, e2.2]⟩
        unfold decodeW at h
        rw [if_pos hk, if_pos hin] at h
        rw [hk] at HCODE
        have HR0 := Aside0.mk hr0
        have HR1 := Aside0.mk hr1
        have HL1 := Aside0.mk hlen1
        have h60 := hk2.2
        have HRES := Aside0.mk h
        clear h hk hk2 hev hlen1 hr0 hr1 hlen
        go_enter Try.func43, Try.ntmps43
        go_wp2_with (first
          | (go_at_call 75; refine (HCODE.out _).mono ?_; rintro e w1 ⟨rfl, hb1⟩; have HB1 := Aside0.mk (below_then (below_alloc (Below.refl w.heap.size w) _) (by simp) hb1); clear hb1)
          | (go_at_call 58; refine (impl_within.calls _ _ _ _ _ HWI.out).mono ?_; rintro e w2 ⟨rfl, hd2⟩; have HB2 := Aside0.mk (below_then HB1.out HB1.out.size hd2.below); clear hd2)
          | (go_at_call 80; refine (impl_unless.calls _ _ _ _ rfl).mono ?_; rintro e w3 ⟨rfl, hd3⟩; have HB3 := Aside0.mk (below_then HB2.out HB2.out.size hd3.below); clear hd3)
          | (go_at_call 79; refine (HFO.out _ _ _ _).mono ?_; rintro e w4 ⟨rfl, hb4⟩; have HB4 := Aside0.mk (below_then HB3.out HB3.out.size hb4); clear hb4))
        go_loopw [27, 9, 10, 11, 12] (fun v27 v9 v10 _ _ wr => ∃ i : Nat, i ≤ l0.length ∧ v27 = .int .i64 i ∧ Aside0 (v9 = .int .i64 (decN l0 l1 a2 i).1 ∧ v10 = .int .i64 (decN l0 l1 a2 i).2) ∧ Aside0 (Below w.heap.size w wr)) (fun v27 _ _ _ _ _ => l0.length - (intOf v27).toNat)
        case atStart => exact ⟨0, Nat.zero_le _, rfl, ⟨rfl, rfl⟩, HB4⟩
        case round =>
          obtain ⟨i, hi, rfl, ⟨hv9, hv10⟩, HB⟩ := hrel
          have HDB := decN_b l0 l1 a2 i
          by_cases hlt : i < l0.length
          · obtain ⟨ad, A2, m2, rfl, hcell, hle, hC⟩ := at_L1 (Kd.C_below HR0.out HB.out) (i : Int) (by omega) (by omega)
            rw [Int.toNat_natCast] at hcell
            have g1 := HL1.out _ (by rw [rdW_get l0 i hlt]; exact List.getElem_mem hlt : rd_L1 l0 (i : Int) ∈ l0)
            have HM := Aside0.mk (unlike_calls A2 m2 _ A1 c1 _ wr hC hle (Kd.C_below HR1.out HB.out) hc1 g1.2 (by omega))
            have HS := Aside0.mk (show decN l0 l1 a2 (i + 1) = if apD (rd_L1 l0 (i : Int)) l1 (rd_L1 l0 (i : Int)).length ≤ a2 then ((i : Int), (decN l0 l1 a2 i).2 + 1) else decN l0 l1 a2 i from rfl)
            generalize decN l0 l1 a2 i = p at *
            obtain ⟨p1, p2⟩ := p
            dsimp only at hv9 hv10 HDB HS
            subst hv9
            subst hv10
            generalize apD (rd_L1 l0 (i : Int)) l1 (rd_L1 l0 (i : Int)).length = z at *
            generalize (rd_L1 l0 (i : Int)).length = n1 at *
            clear hC g1
            have hw : wrap64 (p2 + 1) = p2 + 1 := by unfold wrap64; omega
            by_cases hz : z ≤ a2
            · have hz1 := decide_eq_true hz
              have HZ := Aside0.mk hz
              go_wp2_with (go_at_call 56; with_reducible refine HM.out.mono ?_; rintro e w1 ⟨rfl, hd1⟩; have HB1 := Aside0.mk (below_then HB.out HB.out.size hd1.below); clear hd1)
              go_roundw
              case rel => exact ⟨i + 1, by omega, by go_num, ⟨by rw [HS.out, if_pos HZ.out], by rw [HS.out, if_pos HZ.out]⟩, HB1⟩
              case measure => simp [intOf]; omega
            · have hz1 := decide_eq_false hz
              have HZ := Aside0.mk hz1
              go_wp2_with (go_at_call 56; with_reducible refine HM.out.mono ?_; rintro e w1 ⟨rfl, hd1⟩; have HB1 := Aside0.mk (below_then HB.out HB.out.size hd1.below); clear hd1)
              go_roundw
              case rel => exact ⟨i + 1, by omega, by go_num, ⟨by rw [HS.out, if_neg (of_decide_eq_false HZ.out)], by rw [HS.out, if_neg (of_decide_eq_false HZ.out)]⟩, HB1⟩
              case measure => simp [intOf]; omega
          · have HI := Aside0.mk (show i = l0.length by omega)
            have hres := HRES.out
            rw [← HI.out] at hres
            generalize decN l0 l1 a2 i = p at *
            obtain ⟨p1, p2⟩ := p
            dsimp only at hv9 hv10 HDB
            subst hv9
            subst hv10
            unfold decR at hres
            dsimp only at hres
            by_cases h0 : p2 = 0
            · subst h0
              rw [if_pos rfl] at hres
              cases hres
              clear HRES
              go_wp2_with fail
              go_ret2
              exact ⟨rfl, HB.out⟩
            · by_cases h1 : p2 = 1
              · subst h1
                rw [if_neg h0, if_pos rfl] at hres
                cases hres
                clear HRES
                go_wp2_with fail
                go_ret2
                exact ⟨rfl, HB.out⟩
              · rw [if_neg h0, if_neg h1] at hres
                cases hres
                clear HRES
                have e0 : (p2 == 0) = false := by rw [beq_eq_false_iff_ne]; exact h0
                have e1 : (p2 == 1) = false := by rw [beq_eq_false_iff_ne]; exact h1
                go_wp2_with fail
                go_ret2
                exact ⟨rfl, HB.out⟩
      · unfold decodeW at h
        rw [if_neg hk] at h
        cases h
        have hk1 : (codeW l0 [l1] != 0) = true := by rw [bne_iff_ne]; exact hk
        have HK := Aside0.mk (show (if codeW l0 [l1] = 0 then (0 : Int) else codeW l0 [l1]) = codeW l0 [l1] from if_neg hk)
        clear hr0 hr1 hk
        generalize codeW l0 [l1] = q at *
        go_enter Try.func43, Try.ntmps43
        go_wp2_with (first
          | (go_at_call 75; refine (HCODE.out _).mono ?_; rintro e w1 ⟨rfl, hb1⟩; have HB1 := Aside0.mk (below_then (below_alloc (Below.refl w.heap.size w) _) (by simp) hb1); clear hb1)
          | (go_at_call 58; refine (impl_within.calls _ _ _ _ _ HWI.out).mono ?_; rintro e w2 ⟨rfl, hd2⟩; have HB2 := Aside0.mk (below_then HB1.out HB1.out.size hd2.below); clear hd2)
          | (go_at_call 80; refine (impl_unless.calls _ _ _ _ rfl).mono ?_; rintro e w3 ⟨rfl, hd3⟩; have HB3 := Aside0.mk (below_then HB2.out HB2.out.size hd3.below); clear hd3)
          | (go_at_call 79; refine (HFO.out _ _ _ _).mono ?_; rw [HK.out]; rintro e w4 ⟨rfl, hb4⟩; have HB4 := Aside0.mk (below_then HB3.out HB3.out.size hb4); clear hb4))
        go_ret2
        exact ⟨rfl, HB4.out⟩
    · have HWI : Aside0 (impl_within.f a2 0 8 = some false) := ⟨by
        unfold impl_within.f
        split
        · rw [decide_eq_false (by omega)]
        · rfl⟩
      have hres : (0, if codeW l0 [l1] = 0 then (2 : Int) else codeW l0 [l1]) = (r1, r2) := by
        rw [← h]
        unfold decodeW
        by_cases hk : codeW l0 [l1] = 0
        · rw [if_pos hk, if_pos hk, if_neg hin]
        · rw [if_neg hk, if_neg hk]
      cases hres
      clear h hr0 hr1 hin
      have hne : ((if codeW l0 [l1] = 0 then (2 : Int) else codeW l0 [l1]) != 0) = true := by
        rw [bne_iff_ne]
        split <;> omega
      obtain ⟨q2, hq2⟩ : ∃ q2, (if codeW l0 [l1] = 0 then (2 : Int) else codeW l0 [l1]) = q2 := ⟨_, rfl⟩
      rw [hq2] at hne ⊢
      have HK := Aside0.mk hq2
      clear hq2
      generalize codeW l0 [l1] = q at *
      go_enter Try.func43, Try.ntmps43
      go_wp2_with (first
        | (go_at_call 75; refine (HCODE.out _).mono ?_; rintro e w1 ⟨rfl, hb1⟩; have HB1 := Aside0.mk (below_then (below_alloc (Below.refl w.heap.size w) _) (by simp) hb1); clear hb1)
        | (go_at_call 58; refine (impl_within.calls _ _ _ _ _ HWI.out).mono ?_; rintro e w2 ⟨rfl, hd2⟩; have HB2 := Aside0.mk (below_then HB1.out HB1.out.size hd2.below); clear hd2)
        | (go_at_call 80; refine (impl_unless.calls _ _ _ _ rfl).mono ?_; rintro e w3 ⟨rfl, hd3⟩; have HB3 := Aside0.mk (below_then HB2.out HB2.out.size hd3.below); clear hd3)
        | (go_at_call 79; refine (HFO.out _ _ _ _).mono ?_; rw [HK.out]; rintro e w4 ⟨rfl, hb4⟩; have HB4 := Aside0.mk (below_then HB3.out HB3.out.size hb4); clear hb4))
      go_ret2
      exact ⟨rfl, HB4.out⟩
  · cases h

end Go.Proofs.Ytpidpljngppmiaa.L
