/- The texts that the statement FnExactMovedPhrases needs, part 3: contracts of the program's functions and plain laws, without what it does not reach. No condition beyond what each theorem says. -/
import Derived.Below
import Derived.Deep.Draws
import Derived.Deep.AppendLies
import Derived.Maps.AppendAt
import Derived.OwnWalk
import Derived.Laws.BytesArg
import Derived.Laws.MakeOwn
import Derived.Laws.OwnMore
import Derived.Deep.OwnRows
import Derived.Tactics
import Derived.Lib.ConvBytes
import Derived.Laws.Slices
import Derived.WalkKit
import Derived.KernelRfl
import Derived.RowKit3
import Derived.Deep.LoopGhost
import Derived.Deep.QuietTactic
import Derived.BigQuiet
import Derived.WideLaws
import Derived.Deep.DeepCutAuto
import Derived.Deep.CutBlock
import Derived.Deep.RegionHeld3
import Derived.Laws.Rows
import Derived.Lib.AppendStr
import Derived.ArgAppend
import Derived.Laws.IdiomCopy
import Derived.RowKit
import Derived.Laws.Tables
import Derived.BigFrame
import Derived.Laws.CopyRow
import Derived.Laws.ResultCell
import Derived.OrdersHeld
import Derived.Laws.BitsLemmas
import Derived.Laws.StructEq
import Derived.Test.YtckpfodpfplaeaaProg
import Derived.WalkSpells
import Derived.StillTailTactics
import Derived.Laws.CopyOwn
import Derived.Shelf.SlicesE.Delete
import Derived.ProofKit
import Derived.OpenShut
import Derived.Deep.Slices
import Derived.Lib.SmallJoins
import Derived.Test.YtckpfodpfplaeaaRows
import Derived.ShutString
import Derived.ChangeOld
import Derived.SizedLaws
import Derived.Test.YtckpfodpfplaeaaZFnExactMovedPhrases2
namespace Go.Proofs.Ytckpfodpfplaeaa.D
open Go.RowKit Go.Proofs.YtckpfodpfplaeaaW.PrintWords Go.Proofs.YtckpfodpfplaeaaW.PrintLast Go.Proofs.YtckpfodpfplaeaaW.PrintMore
attribute [local go_sem] max2_int min2_int max_two min_two max_three min_three max_four min_four
set_option linter.unusedVariables false
set_option linter.unusedSimpArgs false
def IsS27 (w0 W : World) (g : Nat) (f0 : Int) (f1 : Int) (f2 : Int) (f3 : List ByteArray) : Prop := ∃ A3 c3, W.heap[g]? = some (.cells #[.int .i8 f0, .int .i8 f1, .int .i8 f2, .slice A3 f3.length c3] 27 (0, 0)) ∧ w0.heap.size ≤ g ∧ Kd.C Kd.string w0 A3 f3.length f3
def spec_l02Same.l0 : Nat → List Int → List Int → Int → Option (Bool)
 | 0, _, _, _ => none
 | k + 1, x0, x1, x5 => if x5 < (x0.length : Int) then (if 0 ≤ x5 then (if x5 < (x1.length : Int) then (if (rd x0 x5) = (rd x1 x5) then (spec_l02Same.l0 k x0 x1 (wrap64 (x5 + 1))) else (some false)) else (none)) else (none)) else (some true)
def spec_l02Same.f (k : Nat) (l0 : List Int) (l1 : List Int) : Option (Bool) := if (l0.length : Int) = (l1.length : Int) then (spec_l02Same.l0 k l0 l1 0) else (some false)
set_option maxHeartbeats 8000000 in
set_option maxRecDepth 100000 in
theorem spec_l02Same.calls (k : Nat) (A0 : Option Addr) (c0 : Nat) (l0 : List Int) (A1 : Option Addr) (c1 : Nat) (l1 : List Int) (r : Bool) (w : World) (hr0 : Kd.C (Kd.int .i8) w A0 l0.length l0) (hc0 : l0.length ≤ c0) (hr1 : Kd.C (Kd.int .i8) w A1 l1.length l1) (hc1 : l1.length ≤ c1) (h : spec_l02Same.f k l0 l1 = some r) :
  Calls Try.prog 115 #[.slice A0 l0.length c0, .slice A1 l1.length c1] w fun e w' => e = .returned (.bool r) ∧ Drawn0 w w' := by
 have HR0 := Aside0.mk hr0
 have HC0 := Aside0.mk hc0
 clear hr0 hc0
 have HR1 := Aside0.mk hr1
 have HC1 := Aside0.mk hc1
 clear hr1 hc1
 have H : (if (l0.length : Int) = (l1.length : Int) then (spec_l02Same.l0 k l0 l1 0) else (some false)) = some r := h
 clear h
 by_cases c3 : (l0.length : Int) = (l1.length : Int)
 ·rw [if_pos c3] at H
  have c3b0 : ((l0.length : Int) == (l1.length : Int)) = true := beq_iff_eq.mpr c3
  have c3b1 : ((l0.length : Int) != (l1.length : Int)) = false := bne_eq_false_iff_eq.mpr c3
  have c3b2 : (l0.length == l1.length) = true := by first | simpa using c3 | (simp at c3 ⊢; omega)
  clear c3
  have H' := Aside0.mk H
  clear H
  go_enter Try.func115, Try.ntmps115
  go_wp2
  repeat (go_quiet (fail); try go_wp2)
  go_loopg [5] k (fun kq v5 w' => ∃ (x5_1 : Int), v5 = .int .i64 x5_1 ∧ Aside0 (spec_l02Same.l0 kq l0 l1 x5_1 = some r) ∧ Aside0 (kq ≤ k) ∧ Drawn0 w w')
  case atStart => exact ⟨(0), (by first | rfl | (simp; done) | (simp [*]; done)), H', ⟨Nat.le_refl _⟩, by repeat (first | exact Drawn0.refl _ | apply Drawn0.step)⟩
  case round =>
   clear H'
   try clear c1
   try clear p2
   try clear c3
   try clear c3b0
   try clear c3b1
   try clear c3b2
   obtain ⟨x5_1, rfl, HA, HK1, ⟨m1, rfl⟩⟩ := hrel
   cases gk with
   | zero => exact absurd HA.out (by simp [spec_l02Same.l0])
   | succ k1 =>
    have H := HA.out
    clear HA
    simp only [spec_l02Same.l0] at H
    by_cases c4 : x5_1 < (l0.length : Int)
    ·rw [if_pos c4] at H
     have c4b0 : decide (x5_1 < (l0.length : Int)) = true := decide_eq_true c4
     clear c4
     by_cases c5 : 0 ≤ x5_1
     ·rw [if_pos c5] at H
      have c5b0 : decide (0 ≤ x5_1) = true := decide_eq_true c5
      clear c5
      by_cases c6 : x5_1 < (l1.length : Int)
      ·rw [if_pos c6] at H
       have c6b0 : decide (x5_1 < (l1.length : Int)) = true := decide_eq_true c6
       clear c6
       by_cases c7 : (rd l0 x5_1) = (rd l1 x5_1)
       ·rw [if_pos c7] at H
        have c7b0 : ((rd l0 x5_1) == (rd l1 x5_1)) = true := beq_iff_eq.mpr c7
        have c7b1 : ((rd l0 x5_1) != (rd l1 x5_1)) = false := bne_eq_false_iff_eq.mpr c7
        clear c7
        have H' := Aside0.mk H
        clear H
        have p171 : 0 ≤ (x5_1 : Int) := of_decide_eq_true (by first | (with_reducible assumption) | assumption)
        have q171 : x5_1 < (l0.length : Int) := of_decide_eq_true (by first | (with_reducible assumption) | assumption)
        obtain ⟨ad171, e171, hx171_0⟩ := Kd.at_int HR0.out x5_1 p171 q171
        cases e171
        replace p171 := eq_true p171
        replace q171 := eq_true q171
        have p172 : 0 ≤ (x5_1 : Int) := of_decide_eq_true (by first | (with_reducible assumption) | assumption)
        have q172 : x5_1 < (l1.length : Int) := of_decide_eq_true (by first | (with_reducible assumption) | assumption)
        obtain ⟨ad172, e172, hx172_0⟩ := Kd.at_int HR1.out x5_1 p172 q172
        cases e172
        replace p172 := eq_true p172
        replace q172 := eq_true q172
        go_wp2
        repeat (go_quiet (fail); try go_wp2)
        go_roundg k1
        case measure => have := HK1.out; omega
        case rel => exact ⟨(wrap64 (x5_1 + 1)), (by first | rfl | (simp; done) | (simp [*]; done)), H', ⟨by have := HK1.out; omega⟩, by repeat (first | exact Drawn0.refl _ | apply Drawn0.step)⟩
       ·rw [if_neg c7] at H
        have c7b0 : ((rd l0 x5_1) == (rd l1 x5_1)) = false := beq_eq_false_iff_ne.mpr c7
        have c7b1 : ((rd l0 x5_1) != (rd l1 x5_1)) = true := bne_iff_ne.mpr c7
        obtain rfl := Option.some.inj H
        have p171 : 0 ≤ (x5_1 : Int) := of_decide_eq_true (by first | (with_reducible assumption) | assumption)
        have q171 : x5_1 < (l0.length : Int) := of_decide_eq_true (by first | (with_reducible assumption) | assumption)
        obtain ⟨ad171, e171, hx171_0⟩ := Kd.at_int HR0.out x5_1 p171 q171
        cases e171
        replace p171 := eq_true p171
        replace q171 := eq_true q171
        have p172 : 0 ≤ (x5_1 : Int) := of_decide_eq_true (by first | (with_reducible assumption) | assumption)
        have q172 : x5_1 < (l1.length : Int) := of_decide_eq_true (by first | (with_reducible assumption) | assumption)
        obtain ⟨ad172, e172, hx172_0⟩ := Kd.at_int HR1.out x5_1 p172 q172
        cases e172
        replace p172 := eq_true p172
        replace q172 := eq_true q172
        go_wp2
        repeat (go_quiet (fail); try go_wp2)
        go_ret
        exact ⟨by first | rfl | (simp; done) | (simp [*]; done), by repeat (first | exact Drawn0.refl _ | apply Drawn0.step)⟩
      ·rw [if_neg c6] at H
       exact absurd H (by simp)
     ·rw [if_neg c5] at H
      exact absurd H (by simp)
    ·rw [if_neg c4] at H
     have c4b0 : decide (x5_1 < (l0.length : Int)) = false := decide_eq_false c4
     clear c4
     obtain rfl := Option.some.inj H
     go_wp2
     repeat (go_quiet (fail); try go_wp2)
     go_ret
     exact ⟨by first | rfl | (simp; done) | (simp [*]; done), by repeat (first | exact Drawn0.refl _ | apply Drawn0.step)⟩
 ·rw [if_neg c3] at H
  have c3b0 : ((l0.length : Int) == (l1.length : Int)) = false := beq_eq_false_iff_ne.mpr c3
  have c3b1 : ((l0.length : Int) != (l1.length : Int)) = true := bne_iff_ne.mpr c3
  have c3b2 : (l0.length == l1.length) = false := by first | simpa using c3 | (simp at c3 ⊢; omega)
  obtain rfl := Option.some.inj H
  go_enter Try.func115, Try.ntmps115
  go_wp2
  repeat (go_quiet (fail); try go_wp2)
  go_ret
  exact ⟨by first | rfl | (simp; done) | (simp [*]; done), by repeat (first | exact Drawn0.refl _ | apply Drawn0.step)⟩
def spec_SameHoist.f (k : Nat) (l0 : List Int) (l1 : List Int) : Option (Bool) := (spec_l02Same.f k l0 l1).bind fun t173 => (some t173)
set_option maxHeartbeats 8000000 in
set_option maxRecDepth 100000 in
theorem spec_SameHoist.calls (k : Nat) (A0 : Option Addr) (c0 : Nat) (l0 : List Int) (A1 : Option Addr) (c1 : Nat) (l1 : List Int) (r : Bool) (w : World) (hr0 : Kd.C (Kd.int .i8) w A0 l0.length l0) (hc0 : l0.length ≤ c0) (hr1 : Kd.C (Kd.int .i8) w A1 l1.length l1) (hc1 : l1.length ≤ c1) (h : spec_SameHoist.f k l0 l1 = some r) :
  Calls Try.prog 94 #[.slice A0 l0.length c0, .slice A1 l1.length c1] w fun e w' => e = .returned (.bool r) ∧ Drawn0 w w' := by
 have HR0 := Aside0.mk hr0
 have HC0 := Aside0.mk hc0
 clear hr0 hc0
 have HR1 := Aside0.mk hr1
 have HC1 := Aside0.mk hc1
 clear hr1 hc1
 have H : ((spec_l02Same.f k l0 l1).bind fun t173 => (some t173)) = some r := h
 clear h
 replace H := Option.bind_eq_some_iff.mp H
 obtain ⟨t173, A30, H⟩ := H
 replace H : (some t173) = some r := H
 have A3 := Aside0.mk A30
 clear A30
 obtain rfl := Option.some.inj H
 go_enter Try.func94, Try.ntmps94
 go_wp2_with (first | ((with_reducible refine gate_callee (f := 115) rfl ?_); refine goesL_ (some 7) rfl rfl Try.func115 (by kernel_rfl) rfl #[.slice A0 l0.length c0, .slice A1 l1.length c1] rfl (by (try simp only [List.map_toArray, List.map_cons, List.map_nil]); first | done | rfl | (simp only [List.length_drop, List.length_take]; rfl)) ?_; (with_reducible refine (spec_l02Same.calls k _ _ l0 _ _ l1 t173 _ ?side1 ?side2 ?side3 ?side4 A3.out).mono ?_); (case side1 => repeat (first | exact HR0.out | (with_reducible refine Kd.C_alloc ?_ _) | (with_reducible refine Kd.C_drewN ?_ _) | (with_reducible refine Kd.C_drew ?_))); (case side2 => exact HC0.out); (case side3 => repeat (first | exact HR1.out | (with_reducible refine Kd.C_alloc ?_ _) | (with_reducible refine Kd.C_drewN ?_ _) | (with_reducible refine Kd.C_drew ?_))); (case side4 => exact HC1.out); rintro e w' ⟨rfl, ⟨nd, rfl⟩⟩; refine ⟨_, rfl, ?_⟩))
 go_ret
 exact ⟨by first | rfl | (simp; done) | (simp [*]; done), by repeat (first | exact Drawn0.refl _ | apply Drawn0.step)⟩
def spec_l03Same.f (k : Nat) (l0 : List Int) (l1 : List Int) : Option (Bool) := (spec_SameHoist.f k l0 l1).bind fun t174 => (some t174)
set_option maxHeartbeats 8000000 in
set_option maxRecDepth 100000 in
theorem spec_l03Same.calls (k : Nat) (A0 : Option Addr) (c0 : Nat) (l0 : List Int) (A1 : Option Addr) (c1 : Nat) (l1 : List Int) (r : Bool) (w : World) (hr0 : Kd.C (Kd.int .i8) w A0 l0.length l0) (hc0 : l0.length ≤ c0) (hr1 : Kd.C (Kd.int .i8) w A1 l1.length l1) (hc1 : l1.length ≤ c1) (h : spec_l03Same.f k l0 l1 = some r) :
  Calls Try.prog 67 #[.slice A0 l0.length c0, .slice A1 l1.length c1] w fun e w' => e = .returned (.bool r) ∧ Drawn0 w w' := by
 have HR0 := Aside0.mk hr0
 have HC0 := Aside0.mk hc0
 clear hr0 hc0
 have HR1 := Aside0.mk hr1
 have HC1 := Aside0.mk hc1
 clear hr1 hc1
 have H : ((spec_SameHoist.f k l0 l1).bind fun t174 => (some t174)) = some r := h
 clear h
 replace H := Option.bind_eq_some_iff.mp H
 obtain ⟨t174, A30, H⟩ := H
 replace H : (some t174) = some r := H
 have A3 := Aside0.mk A30
 clear A30
 obtain rfl := Option.some.inj H
 go_enter Try.func67, Try.ntmps67
 go_wp2_with (first | ((with_reducible refine gate_callee (f := 94) rfl ?_); refine goesL_ (some 7) rfl rfl Try.func94 (by kernel_rfl) rfl #[.slice A0 l0.length c0, .slice A1 l1.length c1] rfl (by (try simp only [List.map_toArray, List.map_cons, List.map_nil]); first | done | rfl | (simp only [List.length_drop, List.length_take]; rfl)) ?_; (with_reducible refine (spec_SameHoist.calls k _ _ l0 _ _ l1 t174 _ ?side1 ?side2 ?side3 ?side4 A3.out).mono ?_); (case side1 => repeat (first | exact HR0.out | (with_reducible refine Kd.C_alloc ?_ _) | (with_reducible refine Kd.C_drewN ?_ _) | (with_reducible refine Kd.C_drew ?_))); (case side2 => exact HC0.out); (case side3 => repeat (first | exact HR1.out | (with_reducible refine Kd.C_alloc ?_ _) | (with_reducible refine Kd.C_drewN ?_ _) | (with_reducible refine Kd.C_drew ?_))); (case side4 => exact HC1.out); rintro e w' ⟨rfl, ⟨nd, rfl⟩⟩; refine ⟨_, rfl, ?_⟩))
 go_ret
 exact ⟨by first | rfl | (simp; done) | (simp [*]; done), by repeat (first | exact Drawn0.refl _ | apply Drawn0.step)⟩
end Go.Proofs.Ytckpfodpfplaeaa.D
namespace Go.Proofs.Ytckpfodpfplaeaa.Arr
open Go.RowKit Go.Proofs.YtckpfodpfplaeaaW.PrintWords Go.Proofs.YtckpfodpfplaeaaW.PrintLast Go.Proofs.YtckpfodpfplaeaaW.PrintMore Go.Proofs.Ytckpfodpfplaeaa.U Go.Proofs.Ytckpfodpfplaeaa.D
set_option linter.unusedVariables false
set_option linter.unusedSimpArgs false
def phrB (s : ByteArray) : Bool := decide (∀ i : Nat, i < s.size → 32 ≤ bt s (i : Int) ∧ bt s (i : Int) ≤ 126) && decide (1 ≤ (s.size : Int) ∧ (s.size : Int) ≤ 40)
theorem l03Phrase_ev (s : ByteArray) (hs : s.size ≤ 140737488351232) : Ev (fun k => spec_l03Phrase.f k s) (phrB s) := by
 unfold spec_l03Phrase.f
 refine iter (F := fun k (x : Int) => spec_l03Phrase.l0 k s x) (fun i x => x = (i : Int) ∧ ∀ j : Nat, j < i → 32 ≤ bt s (j : Int) ∧ bt s (j : Int) ≤ 126) _ s.size ?_ ?_ 0 0 (by omega) ⟨rfl, fun j hj => absurd hj (by omega)⟩
 ·rintro i x hi ⟨rfl, hP⟩
  by_cases h1 : 32 ≤ bt s (i : Int) ∧ bt s (i : Int) ≤ 126
  ·refine .inl ⟨((i + 1 : Nat) : Int), ⟨rfl, fun j hj => ?_⟩, fun hgo => ?_⟩
   ·rcases Nat.lt_or_ge j i with h | h
    ·exact hP j h
    ·obtain rfl : j = i := by omega
     exact h1
   ·have hgo2 : Ev (fun k => spec_l03Phrase.l0 k s (wrap64 ((i : Int) + 1))) (phrB s) := by rw [w64 (by omega) (by omega)]; exact hgo
    refine Ev.step (fun k => by rw [spec_l03Phrase.l0]) ?_
    exact pos (by omega) (pos (by omega) (neg (by omega) (neg (by omega) hgo2)))
  ·refine .inr ?_
   have hf : phrB s = false := by
    unfold phrB
    rw [decide_eq_false (fun h => h1 (h i hi))]; rfl
   rw [hf]
   refine Ev.step (fun k => by rw [spec_l03Phrase.l0]) ?_
   refine pos (by omega) (pos (by omega) ?_)
   by_cases h2 : bt s (i : Int) < 32
   ·exact pos h2 (cons rfl)
   ·exact neg h2 (pos (by omega) (cons rfl))
 ·rintro x ⟨rfl, hP⟩
  refine Ev.step (fun k => by rw [spec_l03Phrase.l0]) ?_
  refine neg (by omega) (bindc (in_ev' _ _ _) (cons ?_))
  unfold phrB
  rw [decide_eq_true hP]; rfl
def fnd (ph : List ByteArray) (a : ByteArray) : Int := ixa (fun x => decide (x.toList = a.toList)) ph
theorem rdOf_get (ph : List ByteArray) (i : Nat) (hi : i < ph.length) : rdOf ByteArray.empty ph (i : Int) = ph[i] := by
 unfold rdOf; simp [List.getElem?_eq_getElem hi]
def sizedB (K L S : Int) : Bool := decide ((1 ≤ K ∧ K ≤ 10) ∧ (1 ≤ L ∧ L ≤ 3) ∧ (0 ≤ S ∧ S ≤ 4))
def phOk (ph : List ByteArray) (i : Nat) : Bool := phrB (rdOf ByteArray.empty ph (i : Int)) && decide (fnd ph (rdOf ByteArray.empty ph (i : Int)) = (i : Int))
def okBook (K L S : Int) (ph : List ByteArray) : Bool := sizedB K L S && decide (ph.length ≤ 100) && decide (∀ i : Nat, i < ph.length → phOk ph i = true) && decide (ph.length ≤ (outL K.toNat S.toNat L.toNat).length)
structure BkSt (w0 w : World) (g : Nat) (K L S : Int) (ph : List ByteArray) (w1 : World) : Prop where
 is : IsS27 w0 w1 g K L S ph
 bel : Below w0.heap.size w0 w1
 keep : KeepBut w w1 g none
theorem oneStrS : OneTy Try.prog 23 := ⟨by kernel_rfl, by kernel_rfl⟩
end Go.Proofs.Ytckpfodpfplaeaa.Arr
namespace Go.Proofs.Ytckpfodpfplaeaa.D
open Go.RowKit Go.Proofs.YtckpfodpfplaeaaW.PrintWords Go.Proofs.YtckpfodpfplaeaaW.PrintLast Go.Proofs.YtckpfodpfplaeaaW.PrintMore
attribute [local go_sem] max2_int min2_int max_two min_two max_three min_three max_four min_four
set_option linter.unusedVariables false
set_option linter.unusedSimpArgs false
def impl_isPhrase.l0 : Nat → ByteArray → Int → Int → Option (Bool)
 | 0, _, _, _ => none
 | k + 1, x0, x5, x6 => if x6 < x5 then (if 0 ≤ x6 then (if x6 < (x0.size : Int) then (if (bt x0 x6) < 32 then (some false) else (if (bt x0 x6) > 126 then (some false) else (impl_isPhrase.l0 k x0 x5 (wrap64 (x6 + 1))))) else (none)) else (none)) else ((impl_within.f (x0.size : Int) 1 40).bind fun t193 => (some t193))
def impl_isPhrase.f (k : Nat) (a0 : ByteArray) : Option (Bool) := impl_isPhrase.l0 k a0 (a0.size : Int) 0
set_option maxHeartbeats 8000000 in
set_option maxRecDepth 100000 in
theorem impl_isPhrase.calls (k : Nat) (a0 : ByteArray) (r : Bool) (w : World) (h : impl_isPhrase.f k a0 = some r) :
  Calls Try.prog 54 #[.string a0] w fun e w' => e = .returned (.bool r) ∧ Drawn0 w w' := by
 have H : (impl_isPhrase.l0 k a0 (a0.size : Int) 0) = some r := h
 clear h
 have H' := Aside0.mk H
 clear H
 go_enter Try.func54, Try.ntmps54
 go_wp2
 go_loopg [6] k (fun kq v6 w' => ∃ (x6_1 : Int), v6 = .int .i64 x6_1 ∧ Aside0 (impl_isPhrase.l0 kq a0 (a0.size : Int) x6_1 = some r) ∧ Aside0 (kq ≤ k) ∧ Drawn0 w w')
 case atStart => exact ⟨(0), (by first | rfl | (simp; done) | (simp [*]; done)), H', ⟨Nat.le_refl _⟩, by repeat (first | exact Drawn0.refl _ | apply Drawn0.step)⟩
 case round =>
  clear H'
  obtain ⟨x6_1, rfl, HA, HK1, ⟨m1, rfl⟩⟩ := hrel
  cases gk with
  | zero => exact absurd HA.out (by simp [impl_isPhrase.l0])
  | succ k1 =>
   have H := HA.out
   clear HA
   simp only [impl_isPhrase.l0] at H
   by_cases c2 : x6_1 < (a0.size : Int)
   ·rw [if_pos c2] at H
    have c2b0 : decide (x6_1 < (a0.size : Int)) = true := decide_eq_true c2
    clear c2
    by_cases c3 : 0 ≤ x6_1
    ·rw [if_pos c3] at H
     have c3b0 : decide (0 ≤ x6_1) = true := decide_eq_true c3
     clear c3
     by_cases c4 : x6_1 < (a0.size : Int)
     ·rw [if_pos c4] at H
      have c4b0 : decide (x6_1 < (a0.size : Int)) = true := decide_eq_true c4
      clear c4
      by_cases c6 : (bt a0 x6_1) < 32
      ·rw [if_pos c6] at H
       have c6b0 : decide ((bt a0 x6_1) < 32) = true := decide_eq_true c6
       clear c6
       obtain rfl := Option.some.inj H
       have p5 : 0 ≤ (x6_1 : Int) := of_decide_eq_true (by first | (with_reducible assumption) | assumption)
       have q5 : x6_1 < (a0.size : Int) := of_decide_eq_true (by first | (with_reducible assumption) | assumption)
       have hx5 := bt_at a0 x6_1
       replace p5 := eq_true p5
       replace q5 := eq_true q5
       go_wp2
       go_ret
       exact ⟨by first | rfl | (simp; done) | (simp [*]; done), by repeat (first | exact Drawn0.refl _ | apply Drawn0.step)⟩
      ·rw [if_neg c6] at H
       have c6b0 : decide ((bt a0 x6_1) < 32) = false := decide_eq_false c6
       clear c6
       by_cases c8 : (bt a0 x6_1) > 126
       ·rw [if_pos c8] at H
        have c8b0 : decide (126 < (bt a0 x6_1)) = true := decide_eq_true c8
        clear c8
        obtain rfl := Option.some.inj H
        have p5 : 0 ≤ (x6_1 : Int) := of_decide_eq_true (by first | (with_reducible assumption) | assumption)
        have q5 : x6_1 < (a0.size : Int) := of_decide_eq_true (by first | (with_reducible assumption) | assumption)
        have hx5 := bt_at a0 x6_1
        replace p5 := eq_true p5
        replace q5 := eq_true q5
        have p7 : 0 ≤ (x6_1 : Int) := of_decide_eq_true (by first | (with_reducible assumption) | assumption)
        have q7 : x6_1 < (a0.size : Int) := of_decide_eq_true (by first | (with_reducible assumption) | assumption)
        have hx7 := bt_at a0 x6_1
        replace p7 := eq_true p7
        replace q7 := eq_true q7
        go_wp2
        go_ret
        exact ⟨by first | rfl | (simp; done) | (simp [*]; done), by repeat (first | exact Drawn0.refl _ | apply Drawn0.step)⟩
       ·rw [if_neg c8] at H
        have c8b0 : decide (126 < (bt a0 x6_1)) = false := decide_eq_false c8
        clear c8
        have H' := Aside0.mk H
        clear H
        have p5 : 0 ≤ (x6_1 : Int) := of_decide_eq_true (by first | (with_reducible assumption) | assumption)
        have q5 : x6_1 < (a0.size : Int) := of_decide_eq_true (by first | (with_reducible assumption) | assumption)
        have hx5 := bt_at a0 x6_1
        replace p5 := eq_true p5
        replace q5 := eq_true q5
        have p7 : 0 ≤ (x6_1 : Int) := of_decide_eq_true (by first | (with_reducible assumption) | assumption)
        have q7 : x6_1 < (a0.size : Int) := of_decide_eq_true (by first | (with_reducible assumption) | assumption)
        have hx7 := bt_at a0 x6_1
        replace p7 := eq_true p7
        replace q7 := eq_true q7
        go_wp2
        go_roundg k1
        case measure => have := HK1.out; omega
        case rel => exact ⟨(wrap64 (x6_1 + 1)), (by first | rfl | (simp; done) | (simp [*]; done)), H', ⟨by have := HK1.out; omega⟩, by repeat (first | exact Drawn0.refl _ | apply Drawn0.step)⟩
     ·rw [if_neg c4] at H
      exact absurd H (by simp)
    ·rw [if_neg c3] at H
     exact absurd H (by simp)
   ·rw [if_neg c2] at H
    have c2b0 : decide (x6_1 < (a0.size : Int)) = false := decide_eq_false c2
    clear c2
    replace H := Option.bind_eq_some_iff.mp H
    obtain ⟨t193, A90, H⟩ := H
    replace H : (some t193) = some r := H
    have A9 := Aside0.mk A90
    clear A90
    obtain rfl := Option.some.inj H
    go_wp2_with (first | ((with_reducible refine gate_callee (f := 80) rfl ?_); refine goesL_ (some 22) rfl rfl Try.func80 (by kernel_rfl) rfl #[.int .i64 (a0.size : Int), .int .i64 1, .int .i64 40] rfl (by (try simp only [List.map_toArray, List.map_cons, List.map_nil]); first | done | rfl | (simp only [List.length_drop, List.length_take]; rfl)) ?_; (with_reducible refine (impl_within.calls (a0.size : Int) 1 40 t193 _ A9.out).mono ?_); rintro e w' ⟨rfl, ⟨nd, rfl⟩⟩; refine ⟨_, rfl, ?_⟩))
    go_ret
    exact ⟨by first | rfl | (simp; done) | (simp [*]; done), by repeat (first | exact Drawn0.refl _ | apply Drawn0.step)⟩
def slices_Index_string_string.l0 : Nat → List ByteArray → ByteArray → Int → Int → Option (Int)
 | 0, _, _, _, _ => none
 | k + 1, x0, x1, x7, x8 => if x8 < x7 then (if 0 ≤ x8 then (if x8 < (x0.length : Int) then (if x1.toList = (rdOf ByteArray.empty x0 x8).toList then (some x8) else (slices_Index_string_string.l0 k x0 x1 x7 (wrap64 (x8 + 1)))) else (none)) else (none)) else (some (-1))
def slices_Index_string_string.f (k : Nat) (l0 : List ByteArray) (a1 : ByteArray) : Option (Int) := slices_Index_string_string.l0 k l0 a1 (l0.length : Int) 0
set_option maxHeartbeats 8000000 in
set_option maxRecDepth 100000 in
theorem slices_Index_string_string.calls (k : Nat) (A0 : Option Addr) (c0 : Nat) (l0 : List ByteArray) (a1 : ByteArray) (r : Int) (w : World) (hr0 : Kd.C Kd.string w A0 l0.length l0) (hc0 : l0.length ≤ c0) (h : slices_Index_string_string.f k l0 a1 = some r) :
  Calls Try.prog 68 #[.slice A0 l0.length c0, .string a1] w fun e w' => e = .returned (.int .i64 r) ∧ Drawn0 w w' := by
 have HR0 := Aside0.mk hr0
 have HC0 := Aside0.mk hc0
 clear hr0 hc0
 have H : (slices_Index_string_string.l0 k l0 a1 (l0.length : Int) 0) = some r := h
 clear h
 have H' := Aside0.mk H
 clear H
 go_enter Try.func68, Try.ntmps68
 go_wp2
 go_loopg [8] k (fun kq v8 w' => ∃ (x8_1 : Int), v8 = .int .i64 x8_1 ∧ Aside0 (slices_Index_string_string.l0 kq l0 a1 (l0.length : Int) x8_1 = some r) ∧ Aside0 (kq ≤ k) ∧ Drawn0 w w')
 case atStart => exact ⟨(0), (by first | rfl | (simp; done) | (simp [*]; done)), H', ⟨Nat.le_refl _⟩, by repeat (first | exact Drawn0.refl _ | apply Drawn0.step)⟩
 case round =>
  clear H'
  try clear p2
  obtain ⟨x8_1, rfl, HA, HK1, ⟨m1, rfl⟩⟩ := hrel
  cases gk with
  | zero => exact absurd HA.out (by simp [slices_Index_string_string.l0])
  | succ k1 =>
   have H := HA.out
   clear HA
   simp only [slices_Index_string_string.l0] at H
   by_cases c3 : x8_1 < (l0.length : Int)
   ·rw [if_pos c3] at H
    have c3b0 : decide (x8_1 < (l0.length : Int)) = true := decide_eq_true c3
    clear c3
    by_cases c4 : 0 ≤ x8_1
    ·rw [if_pos c4] at H
     have c4b0 : decide (0 ≤ x8_1) = true := decide_eq_true c4
     clear c4
     by_cases c5 : x8_1 < (l0.length : Int)
     ·rw [if_pos c5] at H
      have c5b0 : decide (x8_1 < (l0.length : Int)) = true := decide_eq_true c5
      clear c5
      by_cases c6 : a1.toList = (rdOf ByteArray.empty l0 x8_1).toList
      ·rw [if_pos c6] at H
       have c6b0 : (a1.toList == (rdOf ByteArray.empty l0 x8_1).toList) = true := beq_iff_eq.mpr c6
       have c6b1 : (a1.toList != (rdOf ByteArray.empty l0 x8_1).toList) = false := bne_eq_false_iff_eq.mpr c6
       clear c6
       obtain rfl := Option.some.inj H
       have p194 : 0 ≤ (x8_1 : Int) := of_decide_eq_true (by first | (with_reducible assumption) | assumption)
       have q194 : x8_1 < (l0.length : Int) := of_decide_eq_true (by first | (with_reducible assumption) | assumption)
       obtain ⟨ad194, e194, hx194_0⟩ := Kd.at_string HR0.out x8_1 p194 q194
       cases e194
       replace p194 := eq_true p194
       replace q194 := eq_true q194
       go_wp2
       go_ret
       exact ⟨by first | rfl | (simp; done) | (simp [*]; done), by repeat (first | exact Drawn0.refl _ | apply Drawn0.step)⟩
      ·rw [if_neg c6] at H
       have c6b0 : (a1.toList == (rdOf ByteArray.empty l0 x8_1).toList) = false := beq_eq_false_iff_ne.mpr c6
       have c6b1 : (a1.toList != (rdOf ByteArray.empty l0 x8_1).toList) = true := bne_iff_ne.mpr c6
       have H' := Aside0.mk H
       clear H
       have p194 : 0 ≤ (x8_1 : Int) := of_decide_eq_true (by first | (with_reducible assumption) | assumption)
       have q194 : x8_1 < (l0.length : Int) := of_decide_eq_true (by first | (with_reducible assumption) | assumption)
       obtain ⟨ad194, e194, hx194_0⟩ := Kd.at_string HR0.out x8_1 p194 q194
       cases e194
       replace p194 := eq_true p194
       replace q194 := eq_true q194
       go_wp2
       go_roundg k1
       case measure => have := HK1.out; omega
       case rel => exact ⟨(wrap64 (x8_1 + 1)), (by first | rfl | (simp; done) | (simp [*]; done)), H', ⟨by have := HK1.out; omega⟩, by repeat (first | exact Drawn0.refl _ | apply Drawn0.step)⟩
     ·rw [if_neg c5] at H
      exact absurd H (by simp)
    ·rw [if_neg c4] at H
     exact absurd H (by simp)
   ·rw [if_neg c3] at H
    have c3b0 : decide (x8_1 < (l0.length : Int)) = false := decide_eq_false c3
    clear c3
    obtain rfl := Option.some.inj H
    go_wp2
    go_ret
    exact ⟨by first | rfl | (simp; done) | (simp [*]; done), by repeat (first | exact Drawn0.refl _ | apply Drawn0.step)⟩
def slices_Contains_string_string.f (k : Nat) (l0 : List ByteArray) (a1 : ByteArray) : Option (Bool) := (slices_Index_string_string.f k l0 a1).bind fun t195 => (some (decide (t195 ≥ 0)))
set_option maxHeartbeats 8000000 in
set_option maxRecDepth 100000 in
theorem slices_Contains_string_string.calls (k : Nat) (A0 : Option Addr) (c0 : Nat) (l0 : List ByteArray) (a1 : ByteArray) (r : Bool) (w : World) (hr0 : Kd.C Kd.string w A0 l0.length l0) (hc0 : l0.length ≤ c0) (h : slices_Contains_string_string.f k l0 a1 = some r) :
  Calls Try.prog 55 #[.slice A0 l0.length c0, .string a1] w fun e w' => e = .returned (.bool r) ∧ Drawn0 w w' := by
 have HR0 := Aside0.mk hr0
 have HC0 := Aside0.mk hc0
 clear hr0 hc0
 have H : ((slices_Index_string_string.f k l0 a1).bind fun t195 => (some (decide (t195 ≥ 0)))) = some r := h
 clear h
 replace H := Option.bind_eq_some_iff.mp H
 obtain ⟨t195, A30, H⟩ := H
 replace H : (some (decide (t195 ≥ 0))) = some r := H
 have A3 := Aside0.mk A30
 clear A30
 obtain rfl := Option.some.inj H
 go_enter Try.func55, Try.ntmps55
 go_wp2_with (first | ((with_reducible refine gate_callee (f := 68) rfl ?_); refine goesL_ (some 7) rfl rfl Try.func68 (by kernel_rfl) rfl #[.slice A0 l0.length c0, .string a1] rfl (by (try simp only [List.map_toArray, List.map_cons, List.map_nil]); first | done | rfl | (simp only [List.length_drop, List.length_take]; rfl)) ?_; (with_reducible refine (slices_Index_string_string.calls k _ _ l0 a1 t195 _ ?side1 ?side2 A3.out).mono ?_); (case side1 => repeat (first | exact HR0.out | (with_reducible refine Kd.C_alloc ?_ _) | (with_reducible refine Kd.C_drewN ?_ _) | (with_reducible refine Kd.C_drew ?_))); (case side2 => exact HC0.out); rintro e w' ⟨rfl, ⟨nd, rfl⟩⟩; refine ⟨_, rfl, ?_⟩))
 go_ret
 exact ⟨by first | rfl | (simp; done) | (simp [*]; done), by repeat (first | exact Drawn0.refl _ | apply Drawn0.step)⟩
def impl_Book_isFrame.f (a0_0 : Int) (a0_1 : Int) (a0_2 : Int) (l0_3 : List ByteArray) : Option (Bool) := (impl_within.f (wrap64 (a0_0)) 1 10).bind fun t197 => (if t197 = true then ((impl_within.f (wrap64 (a0_1)) 1 3).bind fun t198 => (if t198 = true then ((impl_within.f (wrap64 (a0_2)) 0 4).bind fun t199 => (some t199)) else (some false))) else (some false))
set_option maxHeartbeats 8000000 in
set_option maxRecDepth 100000 in
theorem impl_Book_isFrame.calls (a0_0 : Int) (a0_1 : Int) (a0_2 : Int) (A0_3 : Option Addr) (c0_3 : Nat) (l0_3 : List ByteArray) (r : Bool) (w : World) (hr0_3 : Kd.C Kd.string w A0_3 l0_3.length l0_3) (hc0_3 : l0_3.length ≤ c0_3) (h : impl_Book_isFrame.f a0_0 a0_1 a0_2 l0_3 = some r) :
  Calls Try.prog 89 #[.agg #[.int .i8 a0_0, .int .i8 a0_1, .int .i8 a0_2, .slice A0_3 l0_3.length c0_3]] w fun e w' => e = .returned (.bool r) ∧ Below w.heap.size w w' := by
 have hu27 := Try.underlying27
 have HR0_3 := Aside0.mk hr0_3
 have HC0_3 := Aside0.mk hc0_3
 clear hr0_3 hc0_3
 have HB := Aside0.mk (Below.refl w.heap.size w)
 have H : ((impl_within.f (wrap64 (a0_0)) 1 10).bind fun t197 => (if t197 = true then ((impl_within.f (wrap64 (a0_1)) 1 3).bind fun t198 => (if t198 = true then ((impl_within.f (wrap64 (a0_2)) 0 4).bind fun t199 => (some t199)) else (some false))) else (some false))) = some r := h
 clear h
 replace H := Option.bind_eq_some_iff.mp H
 obtain ⟨t197, A20, H⟩ := H
 replace H : (if t197 = true then ((impl_within.f (wrap64 (a0_1)) 1 3).bind fun t198 => (if t198 = true then ((impl_within.f (wrap64 (a0_2)) 0 4).bind fun t199 => (some t199)) else (some false))) else (some false)) = some r := H
 have A2 := Aside0.mk A20
 clear A20
 by_cases c3 : t197 = true
 ·subst c3
  have H1 : ((impl_within.f (wrap64 (a0_1)) 1 3).bind fun t198 => (if t198 = true then ((impl_within.f (wrap64 (a0_2)) 0 4).bind fun t199 => (some t199)) else (some false))) = some r := by rw [if_pos rfl] at H; exact H
  clear H
  have H := H1
  clear H1
  replace H := Option.bind_eq_some_iff.mp H
  obtain ⟨t198, A40, H⟩ := H
  replace H : (if t198 = true then ((impl_within.f (wrap64 (a0_2)) 0 4).bind fun t199 => (some t199)) else (some false)) = some r := H
  have A4 := Aside0.mk A40
  clear A40
  by_cases c5 : t198 = true
  ·subst c5
   have H1 : ((impl_within.f (wrap64 (a0_2)) 0 4).bind fun t199 => (some t199)) = some r := by rw [if_pos rfl] at H; exact H
   clear H
   have H := H1
   clear H1
   replace H := Option.bind_eq_some_iff.mp H
   obtain ⟨t199, A60, H⟩ := H
   replace H : (some t199) = some r := H
   have A6 := Aside0.mk A60
   clear A60
   obtain rfl := Option.some.inj H
   go_enter Try.func89, Try.ntmps89
   go_wp2_with (first | ((with_reducible refine gate_dst (N := 1) rfl ?_); refine box_event ?hg (N := 1) ?hd (cs := #[.int .i8 a0_0, .int .i8 a0_1, .int .i8 a0_2, .slice A0_3 l0_3.length c0_3]) (t := 27) ?hr ?_; (case hd => rfl); (case hg => rfl); (case hr => first | (go_simp; done) | (go_simp; rfl)); intro gb196 hg w7 hbox hb; have n0_ := Aside0.mk (below_step (by repeat (first | (with_reducible first | exact HB.out | apply below_alloc | apply pw_below_drewN | apply below_drew1) | exact HB.out)) hb); have n1_ := Aside0.mk (hbox); have n2_ := Aside0.mk ((by rw [hg]; exact (below_size (by repeat (first | (with_reducible first | exact HB.out | apply below_alloc | apply pw_below_drewN | apply below_drew1) | exact HB.out))) : w.heap.size ≤ gb196)); have n3_ := Aside0.mk ((by rw [hg]; exact (below_size (by repeat (first | (with_reducible first | exact HB.out | apply below_alloc | apply pw_below_drewN | apply below_drew1) | exact HB.out))) : w.heap.size ≤ gb196)); clear HB; have HB := n0_; have BK196 := n1_; have GW196 := n2_; have GE196 := n3_; clear n0_ n1_ n2_ n3_; clear hb hbox hg; have hcz8_0 : w7.cell? ⟨gb196, 0, none⟩ = some (.int .i8 a0_0) := (blk_cell BK196.out 0).trans rfl; have hcz8_1 : w7.cell? ⟨gb196, 1, none⟩ = some (.int .i8 a0_1) := (blk_cell BK196.out 1).trans rfl; have hcz8_2 : w7.cell? ⟨gb196, 2, none⟩ = some (.int .i8 a0_2) := (blk_cell BK196.out 2).trans rfl; have hcz8_3 : w7.cell? ⟨gb196, 3, none⟩ = some (.slice A0_3 l0_3.length c0_3) := (blk_cell BK196.out 3).trans rfl; have hfz8_0 := blk_frozen BK196.out 0; have hfz8_1 := blk_frozen BK196.out 1; have hfz8_2 := blk_frozen BK196.out 2; have hfz8_3 := blk_frozen BK196.out 3) | ((with_reducible refine gate_callee (f := 80) rfl ?_); refine goesL_ (some 6) rfl rfl Try.func80 (by kernel_rfl) rfl #[.int .i64 (wrap64 (a0_0)), .int .i64 1, .int .i64 10] rfl (by (try simp only [List.map_toArray, List.map_cons, List.map_nil]); first | done | rfl | (simp only [List.length_drop, List.length_take]; rfl)) ?_; (with_reducible refine (impl_within.calls (wrap64 (a0_0)) 1 10 true _ A2.out).mono ?_); rintro e w' ⟨rfl, ⟨nd, rfl⟩⟩; refine ⟨_, rfl, ?_⟩) | (go_at_call 80; (with_reducible refine (impl_within.calls (wrap64 (a0_1)) 1 3 true _ A4.out).mono ?_); rintro e w' ⟨rfl, ⟨nd, rfl⟩⟩) | (go_at_call 80; (with_reducible refine (impl_within.calls (wrap64 (a0_2)) 0 4 t199 _ A6.out).mono ?_); rintro e w' ⟨rfl, ⟨nd, rfl⟩⟩))
   go_ret
   exact ⟨by first | rfl | (simp [errW_none, errW_some] <;> rfl) | (simp [*, errW_none, errW_some] <;> rfl), by repeat (first | (with_reducible first | exact HB.out | apply below_alloc | apply pw_below_drewN | apply below_drew1 | refine below_set ?_ GE196.out) | exact HB.out)⟩
  ·replace c5 := Bool.eq_false_iff.mpr c5
   subst c5
   have H1 : (some false) = some r := by rw [if_neg (show ¬ (false = true) by decide)] at H; exact H
   clear H
   have H := H1
   clear H1
   obtain rfl := Option.some.inj H
   go_enter Try.func89, Try.ntmps89
   go_wp2_with (first | ((with_reducible refine gate_dst (N := 1) rfl ?_); refine box_event ?hg (N := 1) ?hd (cs := #[.int .i8 a0_0, .int .i8 a0_1, .int .i8 a0_2, .slice A0_3 l0_3.length c0_3]) (t := 27) ?hr ?_; (case hd => rfl); (case hg => rfl); (case hr => first | (go_simp; done) | (go_simp; rfl)); intro gb196 hg w9 hbox hb; have n0_ := Aside0.mk (below_step (by repeat (first | (with_reducible first | exact HB.out | apply below_alloc | apply pw_below_drewN | apply below_drew1) | exact HB.out)) hb); have n1_ := Aside0.mk (hbox); have n2_ := Aside0.mk ((by rw [hg]; exact (below_size (by repeat (first | (with_reducible first | exact HB.out | apply below_alloc | apply pw_below_drewN | apply below_drew1) | exact HB.out))) : w.heap.size ≤ gb196)); have n3_ := Aside0.mk ((by rw [hg]; exact (below_size (by repeat (first | (with_reducible first | exact HB.out | apply below_alloc | apply pw_below_drewN | apply below_drew1) | exact HB.out))) : w.heap.size ≤ gb196)); clear HB; have HB := n0_; have BK196 := n1_; have GW196 := n2_; have GE196 := n3_; clear n0_ n1_ n2_ n3_; clear hb hbox hg; have hcz10_0 : w9.cell? ⟨gb196, 0, none⟩ = some (.int .i8 a0_0) := (blk_cell BK196.out 0).trans rfl; have hcz10_1 : w9.cell? ⟨gb196, 1, none⟩ = some (.int .i8 a0_1) := (blk_cell BK196.out 1).trans rfl; have hcz10_2 : w9.cell? ⟨gb196, 2, none⟩ = some (.int .i8 a0_2) := (blk_cell BK196.out 2).trans rfl; have hcz10_3 : w9.cell? ⟨gb196, 3, none⟩ = some (.slice A0_3 l0_3.length c0_3) := (blk_cell BK196.out 3).trans rfl; have hfz10_0 := blk_frozen BK196.out 0; have hfz10_1 := blk_frozen BK196.out 1; have hfz10_2 := blk_frozen BK196.out 2; have hfz10_3 := blk_frozen BK196.out 3) | ((with_reducible refine gate_callee (f := 80) rfl ?_); refine goesL_ (some 6) rfl rfl Try.func80 (by kernel_rfl) rfl #[.int .i64 (wrap64 (a0_0)), .int .i64 1, .int .i64 10] rfl (by (try simp only [List.map_toArray, List.map_cons, List.map_nil]); first | done | rfl | (simp only [List.length_drop, List.length_take]; rfl)) ?_; (with_reducible refine (impl_within.calls (wrap64 (a0_0)) 1 10 true _ A2.out).mono ?_); rintro e w' ⟨rfl, ⟨nd, rfl⟩⟩; refine ⟨_, rfl, ?_⟩) | (go_at_call 80; (with_reducible refine (impl_within.calls (wrap64 (a0_1)) 1 3 false _ A4.out).mono ?_); rintro e w' ⟨rfl, ⟨nd, rfl⟩⟩))
   go_ret
   exact ⟨by first | rfl | (simp [errW_none, errW_some] <;> rfl) | (simp [*, errW_none, errW_some] <;> rfl), by repeat (first | (with_reducible first | exact HB.out | apply below_alloc | apply pw_below_drewN | apply below_drew1 | refine below_set ?_ GE196.out) | exact HB.out)⟩
 ·replace c3 := Bool.eq_false_iff.mpr c3
  subst c3
  have H1 : (some false) = some r := by rw [if_neg (show ¬ (false = true) by decide)] at H; exact H
  clear H
  have H := H1
  clear H1
  obtain rfl := Option.some.inj H
  go_enter Try.func89, Try.ntmps89
  go_wp2_with (first | ((with_reducible refine gate_dst (N := 1) rfl ?_); refine box_event ?hg (N := 1) ?hd (cs := #[.int .i8 a0_0, .int .i8 a0_1, .int .i8 a0_2, .slice A0_3 l0_3.length c0_3]) (t := 27) ?hr ?_; (case hd => rfl); (case hg => rfl); (case hr => first | (go_simp; done) | (go_simp; rfl)); intro gb196 hg w11 hbox hb; have n0_ := Aside0.mk (below_step (by repeat (first | (with_reducible first | exact HB.out | apply below_alloc | apply pw_below_drewN | apply below_drew1) | exact HB.out)) hb); have n1_ := Aside0.mk (hbox); have n2_ := Aside0.mk ((by rw [hg]; exact (below_size (by repeat (first | (with_reducible first | exact HB.out | apply below_alloc | apply pw_below_drewN | apply below_drew1) | exact HB.out))) : w.heap.size ≤ gb196)); have n3_ := Aside0.mk ((by rw [hg]; exact (below_size (by repeat (first | (with_reducible first | exact HB.out | apply below_alloc | apply pw_below_drewN | apply below_drew1) | exact HB.out))) : w.heap.size ≤ gb196)); clear HB; have HB := n0_; have BK196 := n1_; have GW196 := n2_; have GE196 := n3_; clear n0_ n1_ n2_ n3_; clear hb hbox hg; have hcz12_0 : w11.cell? ⟨gb196, 0, none⟩ = some (.int .i8 a0_0) := (blk_cell BK196.out 0).trans rfl; have hcz12_1 : w11.cell? ⟨gb196, 1, none⟩ = some (.int .i8 a0_1) := (blk_cell BK196.out 1).trans rfl; have hcz12_2 : w11.cell? ⟨gb196, 2, none⟩ = some (.int .i8 a0_2) := (blk_cell BK196.out 2).trans rfl; have hcz12_3 : w11.cell? ⟨gb196, 3, none⟩ = some (.slice A0_3 l0_3.length c0_3) := (blk_cell BK196.out 3).trans rfl; have hfz12_0 := blk_frozen BK196.out 0; have hfz12_1 := blk_frozen BK196.out 1; have hfz12_2 := blk_frozen BK196.out 2; have hfz12_3 := blk_frozen BK196.out 3) | ((with_reducible refine gate_callee (f := 80) rfl ?_); refine goesL_ (some 6) rfl rfl Try.func80 (by kernel_rfl) rfl #[.int .i64 (wrap64 (a0_0)), .int .i64 1, .int .i64 10] rfl (by (try simp only [List.map_toArray, List.map_cons, List.map_nil]); first | done | rfl | (simp only [List.length_drop, List.length_take]; rfl)) ?_; (with_reducible refine (impl_within.calls (wrap64 (a0_0)) 1 10 false _ A2.out).mono ?_); rintro e w' ⟨rfl, ⟨nd, rfl⟩⟩; refine ⟨_, rfl, ?_⟩))
  go_ret
  exact ⟨by first | rfl | (simp [errW_none, errW_some] <;> rfl) | (simp [*, errW_none, errW_some] <;> rfl), by repeat (first | (with_reducible first | exact HB.out | apply below_alloc | apply pw_below_drewN | apply below_drew1 | refine below_set ?_ GE196.out) | exact HB.out)⟩
end Go.Proofs.Ytckpfodpfplaeaa.D
namespace Go.Proofs.Ytckpfodpfplaeaa.Arr
open Go.RowKit Go.Proofs.YtckpfodpfplaeaaW.PrintWords Go.Proofs.YtckpfodpfplaeaaW.PrintLast Go.Proofs.YtckpfodpfplaeaaW.PrintMore Go.Proofs.Ytckpfodpfplaeaa.U Go.Proofs.Ytckpfodpfplaeaa.D
set_option linter.unusedVariables false
set_option linter.unusedSimpArgs false
theorem rdM_get (xs : List (List Int)) (i : Nat) (h : i < xs.length) : rd_L2 xs (i : Int) = xs[i] := by
 simp [rd_L2, List.getElem?_eq_getElem h]
theorem l02Same_ev (l l' : List Int) (hn : l.length ≤ 140737488351232) : Ev (fun k => spec_l02Same.f k l l') (decide (l = l')) := by
 unfold spec_l02Same.f
 by_cases hl : (l.length : Int) = (l'.length : Int)
 ·refine pos hl ?_
  refine iter (F := fun k (x : Int) => spec_l02Same.l0 k l l' x) (fun i x => x = (i : Int) ∧ ∀ j : Nat, j < i → rd l (j : Int) = rd l' (j : Int)) _ l.length ?_ ?_ 0 0 (by omega) ⟨rfl, fun j hj => absurd hj (by omega)⟩
  ·rintro i x hi ⟨rfl, hP⟩
   by_cases he : rd l (i : Int) = rd l' (i : Int)
   ·refine .inl ⟨((i + 1 : Nat) : Int), ⟨rfl, fun j hj => ?_⟩, fun hgo => ?_⟩
    ·rcases Nat.lt_or_ge j i with h | h
     ·exact hP j h
     ·obtain rfl : j = i := by omega
      exact he
    ·have hgo2 : Ev (fun k => spec_l02Same.l0 k l l' (wrap64 ((i : Int) + 1))) (decide (l = l')) := by rw [w64 (by omega) (by omega)]; exact hgo
     refine Ev.step (fun k => by rw [spec_l02Same.l0]) ?_
     exact pos (by omega) (pos (by omega) (pos (by omega) (pos he hgo2)))
   ·refine .inr ?_
    rw [decide_eq_false (fun e => he (by rw [e]))]
    refine Ev.step (fun k => by rw [spec_l02Same.l0]) ?_
    exact pos (by omega) (pos (by omega) (pos (by omega) (neg he (cons rfl))))
  ·rintro x ⟨rfl, hP⟩
   rw [decide_eq_true (list_eq rfl (by omega) (fun j hj => hP j hj))]
   refine Ev.step (fun k => by rw [spec_l02Same.l0]) ?_
   exact neg (by omega) (cons rfl)
 ·exact neg hl (cons (by rw [decide_eq_false (fun e => hl (by rw [e]))]))
theorem l03Same_ev (l l' : List Int) (hn : l.length ≤ 140737488351232) : Ev (fun k => spec_l03Same.f k l l') (decide (l = l')) := by
 unfold spec_l03Same.f spec_SameHoist.f
 exact Ev.bind (Ev.bind (l02Same_ev l l' hn) (cons rfl)) (cons rfl)
theorem outL_small (K S L : Nat) (hK : K ≤ 10) : ∀ i, i ≤ L → L ≤ 3 → ∀ x ∈ outL K S i, x.length ≤ 3 ∧ 1 ≤ x.length ∧ ∀ y ∈ x, 0 ≤ y ∧ y ≤ 39
 | 0, _, _, x, h => by simp [outL] at h
 | i + 1, hi, h3, x, h => by
  rw [outL, List.mem_append] at h
  rcases h with h | h
  ·exact outL_small K S L hK i (by omega) h3 x h
  ·have := lastL_mem K (i + 1) x (List.mem_filter.1 h).1
   exact ⟨by omega, by omega, fun y hy => by have := this.2 y hy; omega⟩
theorem okBook_in {K L S : Int} {ph : List ByteArray} (h : okBook K L S ph = true) : ((1 ≤ K ∧ K ≤ 10) ∧ (1 ≤ L ∧ L ≤ 3) ∧ (0 ≤ S ∧ S ≤ 4)) ∧ ph.length ≤ 100 ∧ ph.length ≤ (outL K.toNat S.toNat L.toNat).length := by
 unfold okBook at h
 rw [Bool.and_eq_true, Bool.and_eq_true, Bool.and_eq_true] at h
 exact ⟨of_decide_eq_true h.1.1.1, of_decide_eq_true h.1.1.2, of_decide_eq_true h.2⟩
structure BookP (K L S : Int) (ph : List ByteArray) : Prop where
 k : -128 ≤ K ∧ K ≤ 127
 l : -128 ≤ L ∧ L ≤ 127
 s : -128 ≤ S ∧ S ≤ 127
 n : ph.length ≤ 100000000
 p : ∀ s ∈ ph, s.size ≤ 140737488351232
end Go.Proofs.Ytckpfodpfplaeaa.Arr
namespace Go.Proofs.Ytckpfodpfplaeaa.Arr
open Go.RowKit Go.Proofs.YtckpfodpfplaeaaW.PrintWords Go.Proofs.YtckpfodpfplaeaaW.PrintLast Go.Proofs.YtckpfodpfplaeaaW.PrintMore Go.Proofs.Ytckpfodpfplaeaa.U Go.Proofs.Ytckpfodpfplaeaa.D
set_option linter.unusedVariables false
set_option linter.unusedSimpArgs false
theorem at_kM {w : World} {A : Option Addr} {n : Nat} {xs : List (List Int)} (h : Kd.C kM w A n xs) (i : Nat) (hi : i < xs.length) : ∃ ad A1 c1, A = some ad ∧ w.cell? (ad.add i) = some (.slice A1 (xs[i]).length c1) ∧ (xs[i]).length ≤ c1 ∧ Kd.C (Kd.int .i8) w A1 (xs[i]).length xs[i] := by
 obtain ⟨h1, _, h3⟩ := h
 obtain ⟨ad, e, hc⟩ := h3 (by omega)
 obtain ⟨cs, _, ⟨A1, c1, rfl, hle, hC⟩, hcell⟩ := hc i _ (List.getElem?_eq_getElem hi)
 refine ⟨ad, A1, c1, e, ?_, hle, hC⟩
 have := hcell 0 _ rfl
 simpa [kM, Kd.slice] using this
set_option maxHeartbeats 4000000 in
set_option maxRecDepth 100000 in
theorem equalM_calls (A0 : Option Addr) (c0 : Nat) (l0 : List Int) (A1 : Option Addr) (c1 : Nat) (l1 : List Int) (w : World) (hr0 : Kd.C (Kd.int .i8) w A0 l0.length l0) (hc0 : l0.length ≤ c0) (hr1 : Kd.C (Kd.int .i8) w A1 l1.length l1) (hc1 : l1.length ≤ c1) :
  Calls Try.prog 69 #[.slice A0 l0.length c0, .slice A1 l1.length c1] w fun e w' => e = .returned (.bool (decide (l0 = l1))) ∧ Below w.heap.size w w' := by
 have hm0 := Kd.C_max hr0
 have hm1 := Kd.C_max hr1
 have HR0 := Aside0.mk hr0
 have HR1 := Aside0.mk hr1
 clear hr0 hr1
 by_cases hl : l0.length = l1.length
 ·have HL := Aside0.mk hl
  have hne : ((l0.length : Int) != (l1.length : Int)) = false := by rw [bne_eq_false_iff_eq]; omega
  clear hl
  go_enter Try.func69, Try.ntmps69
  go_wp2_with fail
  go_loopw [13, 5] (fun v13 _ wr => ∃ i : Nat, i ≤ l0.length ∧ v13 = .int .i64 i ∧ Aside0 (∀ j : Nat, j < i → rd l0 (j : Int) = rd l1 (j : Int)) ∧ Aside0 (Below w.heap.size w wr)) (fun v13 _ _ => l0.length - (intOf v13).toNat)
  case atStart => exact ⟨0, by omega, rfl, ⟨fun j hj => absurd hj (by omega)⟩, ⟨Below.refl _ _⟩⟩
  case round =>
   obtain ⟨i, hi, rfl, HJ, HB⟩ := hrel
   by_cases hlt : i < l0.length
   ·have hlt1 : i < l1.length := by have := HL.out; omega
    have hlt2 : (i : Int) < (l1.length : Int) := by omega
    obtain ⟨ad0, rfl, hcell0⟩ := Kd.at_int (Kd.C_below HR0.out HB.out) (i : Int) (by omega) (by omega)
    obtain ⟨ad1, rfl, hcell1⟩ := Kd.at_int (Kd.C_below HR1.out HB.out) (i : Int) (by omega) (by omega)
    rw [Int.toNat_natCast] at hcell0 hcell1
    generalize hx : rd l0 (i : Int) = x at *
    generalize hy : rd l1 (i : Int) = y at *
    have HX := Aside0.mk hx
    have HY := Aside0.mk hy
    clear hx hy
    by_cases hxy : x = y
    ·subst hxy
     go_wp2_with fail
     go_quiet (fail)
     go_wp2_with fail
     go_roundw
     case rel => exact ⟨i + 1, by omega, by go_num, ⟨fun j hj => by
      rcases Nat.lt_or_ge j i with h | h
      ·exact HJ.out j h
      ·obtain rfl : j = i := by omega
       rw [HX.out, HY.out]⟩, ⟨pw_below_drewN HB.out _⟩⟩
     case measure => simp [intOf]; omega
    ·have hd := Aside0.mk (show (x != y) = true by simpa using hxy)
     go_wp2_with fail
     go_quiet (fail)
     rw [hd.out]
     go_wp2_with fail
     go_ret
     exact ⟨by rw [decide_eq_false (fun e => hxy (by rw [← HX.out, ← HY.out, e]))]; rfl, pw_below_drewN HB.out _⟩
   ·have HI := Aside0.mk (show i = l0.length by omega)
    go_wp2_with fail
    go_ret
    exact ⟨by rw [decide_eq_true (list_eq rfl HL.out.symm (fun j hj => HJ.out j (by rw [HI.out]; exact hj)))]; rfl, HB.out⟩
 ·have hne : ((l0.length : Int) != (l1.length : Int)) = true := by rw [bne_iff_ne]; omega
  have HN := Aside0.mk (show decide (l0 = l1) = false from decide_eq_false (fun e => hl (by rw [e])))
  clear hl
  go_enter Try.func69, Try.ntmps69
  go_wp2_with fail
  go_ret
  exact ⟨by rw [HN.out]; rfl, Below.refl _ _⟩
end Go.Proofs.Ytckpfodpfplaeaa.Arr
namespace Go.Proofs.Ytckpfodpfplaeaa.Arr
open Go.RowKit Go.Proofs.YtckpfodpfplaeaaW.PrintWords Go.Proofs.YtckpfodpfplaeaaW.PrintLast Go.Proofs.YtckpfodpfplaeaaW.PrintMore Go.Proofs.Ytckpfodpfplaeaa.U Go.Proofs.Ytckpfodpfplaeaa.D
set_option linter.unusedVariables false
set_option linter.unusedSimpArgs false
theorem isPhrase_ev (s : ByteArray) (hs : s.size ≤ 140737488351232) : Ev (fun k => impl_isPhrase.f k s) (phrB s) := by
 unfold impl_isPhrase.f
 refine iter (F := fun k (x : Int) => impl_isPhrase.l0 k s (s.size : Int) x) (fun i x => x = (i : Int) ∧ ∀ j : Nat, j < i → 32 ≤ bt s (j : Int) ∧ bt s (j : Int) ≤ 126) _ s.size ?_ ?_ 0 0 (by omega) ⟨rfl, fun j hj => absurd hj (by omega)⟩
 ·rintro i x hi ⟨rfl, hP⟩
  by_cases h1 : 32 ≤ bt s (i : Int) ∧ bt s (i : Int) ≤ 126
  ·refine .inl ⟨((i + 1 : Nat) : Int), ⟨rfl, fun j hj => ?_⟩, fun hgo => ?_⟩
   ·rcases Nat.lt_or_ge j i with h | h
    ·exact hP j h
    ·obtain rfl : j = i := by omega
     exact h1
   ·have hgo2 : Ev (fun k => impl_isPhrase.l0 k s (s.size : Int) (wrap64 ((i : Int) + 1))) (phrB s) := by rw [w64 (by omega) (by omega)]; exact hgo
    refine Ev.step (fun k => by rw [impl_isPhrase.l0]) ?_
    exact pos (by omega) (pos (by omega) (pos (by omega) (neg (by omega) (neg (by omega) hgo2))))
  ·refine .inr ?_
   have hf : phrB s = false := by
    unfold phrB
    rw [decide_eq_false (fun h => h1 (h i hi))]; rfl
   rw [hf]
   refine Ev.step (fun k => by rw [impl_isPhrase.l0]) ?_
   refine pos (by omega) (pos (by omega) (pos (by omega) ?_))
   by_cases h2 : bt s (i : Int) < 32
   ·exact pos h2 (cons rfl)
   ·exact neg h2 (pos (by omega) (cons rfl))
 ·rintro x ⟨rfl, hP⟩
  refine Ev.step (fun k => by rw [impl_isPhrase.l0]) ?_
  refine neg (by omega) (bindc (within_ev' _ _ _) (cons ?_))
  unfold phrB
  rw [decide_eq_true hP]; rfl
theorem index_ev (ph : List ByteArray) (a : ByteArray) (hn : ph.length ≤ 140737488351232) : Ev (fun k => slices_Index_string_string.f k ph a) (fnd ph a) := by
 unfold slices_Index_string_string.f
 refine iter (F := fun k (x : Int) => slices_Index_string_string.l0 k ph a (ph.length : Int) x) (fun i x => x = (i : Int) ∧ ∀ j : Nat, j < i → ∀ y, ph[j]? = some y → decide (y.toList = a.toList) = false) _ ph.length ?_ ?_ 0 0 (by omega) ⟨rfl, fun j hj => absurd hj (by omega)⟩
 ·rintro i x hi ⟨rfl, hP⟩
  have hg := rdOf_get ph i hi
  by_cases h1 : ph[i].toList = a.toList
  ·refine .inr ?_
   rw [show fnd ph a = (i : Int) from ixa_found _ ph i ph[i] (List.getElem?_eq_getElem hi) hP (decide_eq_true h1)]
   refine Ev.step (fun k => by rw [slices_Index_string_string.l0]) ?_
   exact pos (by omega) (pos (by omega) (pos (by omega) (pos (by rw [hg]; exact h1.symm) (cons rfl))))
  ·refine .inl ⟨((i + 1 : Nat) : Int), ⟨rfl, fun j hj y hy => ?_⟩, fun hgo => ?_⟩
   ·rcases Nat.lt_or_ge j i with h | h
    ·exact hP j h y hy
    ·obtain rfl : j = i := by omega
     rw [List.getElem?_eq_getElem hi] at hy
     rw [← Option.some.inj hy]; exact decide_eq_false h1
   ·have hgo2 : Ev (fun k => slices_Index_string_string.l0 k ph a (ph.length : Int) (wrap64 ((i : Int) + 1))) (fnd ph a) := by rw [w64 (by omega) (by omega)]; exact hgo
    refine Ev.step (fun k => by rw [slices_Index_string_string.l0]) ?_
    exact pos (by omega) (pos (by omega) (pos (by omega) (neg (by rw [hg]; exact fun e => h1 e.symm) hgo2)))
 ·rintro x ⟨rfl, hP⟩
  refine Ev.step (fun k => by rw [slices_Index_string_string.l0]) ?_
  exact neg (by omega) (cons (by rw [show fnd ph a = -1 from ixa_none _ ph hP]))
def hasP (ph : List ByteArray) (a : ByteArray) : Bool := decide (0 ≤ fnd ph a)
theorem contains_ev (ph : List ByteArray) (a : ByteArray) (hn : ph.length ≤ 140737488351232) : Ev (fun k => slices_Contains_string_string.f k ph a) (hasP ph a) := by
 unfold slices_Contains_string_string.f
 exact Ev.bind (index_ev ph a hn) (cons rfl)
theorem ixa_at {α : Type} (p : α → Bool) (l : List α) (i : Nat) (h : ixa p l = (i : Int)) : ∀ j, j < i → ∀ y, l[j]? = some y → p y = false := by
 unfold ixa at h
 cases hf : l.findIdx? p with
 | none => rw [hf] at h; simp at h
 | some k =>
  rw [hf] at h
  simp only [Int.natCast_inj] at h
  subst h
  rw [List.findIdx?_eq_some_iff_getElem] at hf
  obtain ⟨hk, _, hall⟩ := hf
  intro j hj y hy
  have := hall j hj
  rw [List.getElem?_eq_getElem (by omega)] at hy
  rw [← Option.some.inj hy]
  simpa using this
theorem hasP_take (ph : List ByteArray) (i : Nat) (hi : i < ph.length) : hasP (ph.take i) ph[i] = !decide (fnd ph ph[i] = (i : Int)) := by
 unfold hasP fnd
 rw [ixa_any]
 by_cases h : ixa (fun x : ByteArray => decide (x.toList = ph[i].toList)) ph = (i : Int)
 ·rw [decide_eq_true h]
  have hall := ixa_at _ ph i h
  rw [show (!true) = false from rfl, List.any_eq_false]
  intro y hy
  obtain ⟨j, hj, rfl⟩ := List.getElem_of_mem hy
  rw [List.length_take] at hj
  have := hall j (by omega) ph[j] (List.getElem?_eq_getElem (by omega))
  rw [List.getElem_take]
  simpa using this
 ·rw [decide_eq_false h]
  cases ha : (ph.take i).any fun x => decide (x.toList = ph[i].toList) with
  | true => rfl
  | false =>
   exfalso
   rw [List.any_eq_false] at ha
   refine h (ixa_found _ ph i ph[i] (List.getElem?_eq_getElem hi) (fun j hj y hy => ?_) (decide_eq_true rfl))
   have hy2 : y ∈ ph.take i := List.mem_of_getElem? (i := j) (by rw [List.getElem?_take, if_pos hj]; exact hy)
   have := ha y hy2
   simpa using this
theorem phOk_take (ph : List ByteArray) (i : Nat) (hi : i < ph.length) : phOk ph i = (phrB (rdOf ByteArray.empty ph (i : Int)) && !hasP (ph.take i) (rdOf ByteArray.empty ph (i : Int))) := by
 unfold phOk
 rw [rdOf_get ph i hi, hasP_take ph i hi, Bool.not_not]
theorem isFrame_f (K L S : Int) (ph : List ByteArray) (hK : -128 ≤ K ∧ K ≤ 127) (hL : -128 ≤ L ∧ L ≤ 127) (hS : -128 ≤ S ∧ S ≤ 127) : impl_Book_isFrame.f K L S ph = some (sizedB K L S) := by
 unfold impl_Book_isFrame.f sizedB
 rw [w64 (by omega) (by omega), w64 (by omega) (by omega), w64 (by omega) (by omega), within_ev', within_ev', within_ev']
 by_cases h1 : 1 ≤ K ∧ K ≤ 10 <;> by_cases h2 : 1 ≤ L ∧ L ≤ 3 <;> simp [h1, h2]
theorem C_takeS {w : World} {A : Option Addr} {n : Nat} {xs : List ByteArray} (h : Kd.C Kd.string w A n xs) (m : Nat) (hm : m ≤ n) : Kd.C Kd.string w A m (xs.take m) := by
 obtain ⟨h1, h2, h3⟩ := h
 refine ⟨by rw [List.length_take]; omega, by omega, fun h0 => ?_⟩
 obtain ⟨ad, e, hc⟩ := h3 (by omega)
 refine ⟨ad, e, fun j p hj => hc j p ?_⟩
 have hjm := (List.getElem?_eq_some_iff.1 hj).1
 rw [List.length_take] at hjm
 rwa [List.getElem?_take, if_pos (by omega)] at hj
section
variable {P : Program} {o : Oper} {a : Act}
theorem y_row {ty : TypeId} {x : Operand} (ho : o.op = .load ty x) {g m : Nat} (hx : a.eval x = .pointer (some ⟨g, 0, none⟩)) {cs : Array Value} {t : TypeId} {w' : World} (hc : w'.heap[g]? = some (.cells cs t (0, 0))) (hi2 : AggTy P ty m) (hl : cs.size = m) : (execOp a.eval o).run P w' = .ok (.value (.agg cs)) w' := by
 obtain ⟨hd, hi0⟩ := hi2
 have hi : (P.info? ty).map (·.size) = some cs.size := by rw [hl]; exact hi0
 cases hu : P.underlying ty with
 | none => simp [hu] at hd
 | some d =>
  have h := run_loadVar_row (P := P) w' g t ty cs (0, 0) d hc hu (by cases d <;> simp_all) hi
  unfold execOp
  simp only [ho, hx, Instr.loadAt, Instr.sureAddr, Sem.run_bind, Sem.run_pure, Result.andThen_ok, h]
end
theorem aggBook : AggTy Try.prog 27 4 := ⟨by kernel_rfl, by kernel_rfl⟩
def BkIn (w : World) (K L S : Int) (A3 : Option Addr) (n3 c3 : Nat) (w' : World) : Prop := Below w.heap.size w w' ∧ w'.heap[w.heap.size]? = some (.cells #[.int .i8 K, .int .i8 L, .int .i8 S, .slice A3 n3 c3] 27 (0, 0))
theorem BkIn.below {w w1 w2 : World} {K L S : Int} {A3 : Option Addr} {n3 c3 : Nat} (h : BkIn w K L S A3 n3 c3 w1) (hb : Below w1.heap.size w1 w2) : BkIn w K L S A3 n3 c3 w2 := ⟨h.1.trans (hb.mono h.1.size), (hb.block _ (lt_of_some h.2)).trans h.2⟩
theorem BkIn.drew {w w1 : World} {K L S : Int} {A3 : Option Addr} {n3 c3 : Nat} (h : BkIn w K L S A3 n3 c3 w1) : BkIn w K L S A3 n3 c3 w1.drew := ⟨below_drew1 h.1, h.2⟩
theorem bkIn_new (w : World) (K L S : Int) (A3 : Option Addr) (n3 c3 : Nat) : BkIn w K L S A3 n3 c3 (w.alloc (.cells #[.int .i8 K, .int .i8 L, .int .i8 S, .slice A3 n3 c3] 27)) := ⟨below_alloc (Below.refl _ _) _, heap_alloc_new w _⟩
set_option maxHeartbeats 8000000 in
set_option maxRecDepth 100000 in
theorem validBook_calls (bK bL bS : Int) (A3 : Option Addr) (c3 : Nat) (ph : List ByteArray) (w : World) (hp : BookP bK bL bS ph) (hr3 : Kd.C Kd.string w A3 ph.length ph) (hc3 : ph.length ≤ c3) :
  Calls Try.prog 53 #[.agg #[.int .i8 bK, .int .i8 bL, .int .i8 bS, .slice A3 ph.length c3]] w fun e w' => e = .returned (.bool (okBook bK bL bS ph)) ∧ Below w.heap.size w w' := by
 have HF := Aside0.mk (fun W (hW : Below w.heap.size w W) => impl_Book_isFrame.calls bK bL bS A3 c3 ph _ W (Kd.C_below hr3 hW) hc3 (isFrame_f bK bL bS ph hp.k hp.l hp.s))
 have HR3 := Aside0.mk hr3
 have hmx := Kd.C_max hr3
 have hn := hp.n
 have HB0 := Aside0.mk (bkIn_new w bK bL bS A3 ph.length c3)
 cases hz : sizedB bK bL bS with
 | false =>
  have HX := Aside0.mk (show okBook bK bL bS ph = false by unfold okBook; rw [hz]; rfl)
  rw [hz] at HF
  clear hz hr3 hp
  go_enter Try.func53, Try.ntmps53
  go_wp2_with fail
  refine start_ (n := 18) (S := fun w' => BkIn w bK bL bS A3 ph.length c3 w') (ds := []) #[false, false, false, false, false, false, false, false, false, false, false, false, false, false, false, false, false, false] (by kernel_rfl) rfl rfl (HB0.out.drew) (fun hHeld => ?_)
  refine take_ (i := 0) (N := some 5) (v := .agg #[.int .i8 bK, .int .i8 bL, .int .i8 bS, .slice A3 ph.length c3]) (a' := ?_) #[true, false, false, false, false, false, false, false, false, false, false, false, false, false, false, false, false, false] rfl rfl (by kernel_rfl) (fun _ _ _ h => h) (Or.inl ⟨by rfl, ?_⟩) hHeld ?_ ?_
  ·intro w' s0
   exact y_row (by rfl) (by rfl) s0.2 aggBook rfl
  rotate_left
  ·simp only [Act.put, List.setIfInBounds_toArray, List.set_cons_zero, List.set_cons_succ, i64_w, i32_w]
   rfl
  refine one_ (i := 1) (N := some 6) #[true, true, false, false, false, false, false, false, false, false, false, false, false, false, false, false, false, false] rfl rfl (by kernel_rfl) (by decide) (fun K hK => ?_)
  refine goes_ Try.func89 (by kernel_rfl) rfl #[.agg #[.int .i8 bK, .int .i8 bL, .int .i8 bS, .slice A3 ph.length c3]] (by rfl) rfl rfl (by simp only [List.map_toArray, List.map_cons, List.map_nil]; rfl) ?_
  refine (HF.out _ hHeld.1).mono ?_
  rintro e w1 ⟨rfl, hb1⟩
  refine ⟨_, rfl, ?_⟩
  refine hK.out _ _ (hHeld.below hb1) (fun hHeld => ?_)
  clear hK K
  refine norm_ (a' := ?_) ?_ ?_
  rotate_left
  ·show Act.put _ (some 6) _ = _
   simp only [Act.put, List.setIfInBounds_toArray, List.set_cons_zero, List.set_cons_succ, i64_w, i32_w]
   rfl
  refine pure_ (i := 2) (N := some 7) (v := ?_) (a' := ?_) #[true, true, true, false, false, false, false, false, false, false, false, false, false, false, false, false, false, false] rfl rfl (by kernel_rfl) (fun _ _ _ h => h) (Or.inl ⟨by rfl, ?_⟩) ?_ ?_
  rotate_left
  ·intro w'
   go_simp
   with_reducible rfl
  rotate_left
  ·simp only [Act.put, List.setIfInBounds_toArray, List.set_cons_zero, List.set_cons_succ, i64_w, i32_w]
   rfl
  refine pure_ (i := 3) (N := some 8) (v := ?_) (a' := ?_) #[true, true, true, true, false, false, false, false, false, false, false, false, false, false, false, false, false, false] rfl rfl (by kernel_rfl) (fun _ _ _ h => h) (Or.inl ⟨by rfl, ?_⟩) ?_ ?_
  rotate_left
  ·intro w'
   go_simp
   with_reducible rfl
  rotate_left
  ·simp only [Act.put, List.setIfInBounds_toArray, List.set_cons_zero, List.set_cons_succ, i64_w, i32_w]
   rfl
  refine pure_ (i := 4) (N := some 9) (v := undef) (a' := ?_) #[true, true, true, true, true, false, false, false, false, false, false, false, false, false, false, false, false, false] rfl rfl (by kernel_rfl) (fun _ _ _ h => h) (Or.inr ⟨by rfl, rfl⟩) ?_ ?_
  rotate_left
  ·simp only [Act.put, List.setIfInBounds_toArray, List.set_cons_zero, List.set_cons_succ, i64_w, i32_w]
   rfl
  refine pure_ (i := 5) (N := some 10) (v := undef) (a' := ?_) #[true, true, true, true, true, true, false, false, false, false, false, false, false, false, false, false, false, false] rfl rfl (by kernel_rfl) (fun _ _ _ h => h) (Or.inr ⟨by rfl, rfl⟩) ?_ ?_
  rotate_left
  ·simp only [Act.put, List.setIfInBounds_toArray, List.set_cons_zero, List.set_cons_succ, i64_w, i32_w]
   rfl
  refine pure_ (i := 6) (N := some 11) (v := undef) (a' := ?_) #[true, true, true, true, true, true, true, false, false, false, false, false, false, false, false, false, false, false] rfl rfl (by kernel_rfl) (fun _ _ _ h => h) (Or.inr ⟨by rfl, rfl⟩) ?_ ?_
  rotate_left
  ·simp only [Act.put, List.setIfInBounds_toArray, List.set_cons_zero, List.set_cons_succ, i64_w, i32_w]
   rfl
  refine pure_ (i := 7) (N := some 12) (v := undef) (a' := ?_) #[true, true, true, true, true, true, true, true, false, false, false, false, false, false, false, false, false, false] rfl rfl (by kernel_rfl) (fun _ _ _ h => h) (Or.inr ⟨by rfl, rfl⟩) ?_ ?_
  rotate_left
  ·simp only [Act.put, List.setIfInBounds_toArray, List.set_cons_zero, List.set_cons_succ, i64_w, i32_w]
   rfl
  refine pure_ (i := 8) (N := some 13) (v := ?_) (a' := ?_) #[true, true, true, true, true, true, true, true, true, false, false, false, false, false, false, false, false, false] rfl rfl (by kernel_rfl) (fun _ _ _ h => h) (Or.inl ⟨by rfl, ?_⟩) ?_ ?_
  rotate_left
  ·intro w'
   go_simp
   with_reducible rfl
  rotate_left
  ·simp only [Act.put, List.setIfInBounds_toArray, List.set_cons_zero, List.set_cons_succ, i64_w, i32_w]
   rfl
  refine pure_ (i := 9) (N := some 14) (v := ?_) (a' := ?_) #[true, true, true, true, true, true, true, true, true, true, false, false, false, false, false, false, false, false] rfl rfl (by kernel_rfl) (fun _ _ _ h => h) (Or.inl ⟨by rfl, ?_⟩) ?_ ?_
  rotate_left
  ·intro w'
   go_simp
   with_reducible rfl
  rotate_left
  ·simp only [Act.put, List.setIfInBounds_toArray, List.set_cons_zero, List.set_cons_succ, i64_w, i32_w]
   rfl
  refine pure_ (i := 10) (N := some 15) (v := undef) (a' := ?_) #[true, true, true, true, true, true, true, true, true, true, true, false, false, false, false, false, false, false] rfl rfl (by kernel_rfl) (fun _ _ _ h => h) (Or.inr ⟨by rfl, rfl⟩) ?_ ?_
  rotate_left
  ·simp only [Act.put, List.setIfInBounds_toArray, List.set_cons_zero, List.set_cons_succ, i64_w, i32_w]
   rfl
  refine pure_ (i := 11) (N := some 16) (v := undef) (a' := ?_) #[true, true, true, true, true, true, true, true, true, true, true, true, false, false, false, false, false, false] rfl rfl (by kernel_rfl) (fun _ _ _ h => h) (Or.inr ⟨by rfl, rfl⟩) ?_ ?_
  rotate_left
  ·simp only [Act.put, List.setIfInBounds_toArray, List.set_cons_zero, List.set_cons_succ, i64_w, i32_w]
   rfl
  refine pure_ (i := 12) (N := some 17) (v := undef) (a' := ?_) #[true, true, true, true, true, true, true, true, true, true, true, true, true, false, false, false, false, false] rfl rfl (by kernel_rfl) (fun _ _ _ h => h) (Or.inr ⟨by rfl, rfl⟩) ?_ ?_
  rotate_left
  ·simp only [Act.put, List.setIfInBounds_toArray, List.set_cons_zero, List.set_cons_succ, i64_w, i32_w]
   rfl
  refine pure_ (i := 13) (N := some 18) (v := undef) (a' := ?_) #[true, true, true, true, true, true, true, true, true, true, true, true, true, true, false, false, false, false] rfl rfl (by kernel_rfl) (fun _ _ _ h => h) (Or.inr ⟨by rfl, rfl⟩) ?_ ?_
  rotate_left
  ·simp only [Act.put, List.setIfInBounds_toArray, List.set_cons_zero, List.set_cons_succ, i64_w, i32_w]
   rfl
  refine pure_ (i := 14) (N := some 19) (v := undef) (a' := ?_) #[true, true, true, true, true, true, true, true, true, true, true, true, true, true, true, false, false, false] rfl rfl (by kernel_rfl) (fun _ _ _ h => h) (Or.inr ⟨by rfl, rfl⟩) ?_ ?_
  rotate_left
  ·simp only [Act.put, List.setIfInBounds_toArray, List.set_cons_zero, List.set_cons_succ, i64_w, i32_w]
   rfl
  refine pure_ (i := 15) (N := some 20) (v := undef) (a' := ?_) #[true, true, true, true, true, true, true, true, true, true, true, true, true, true, true, true, false, false] rfl rfl (by kernel_rfl) (fun _ _ _ h => h) (Or.inr ⟨by rfl, rfl⟩) ?_ ?_
  rotate_left
  ·simp only [Act.put, List.setIfInBounds_toArray, List.set_cons_zero, List.set_cons_succ, i64_w, i32_w]
   rfl
  refine pure_ (i := 16) (N := some 21) (v := undef) (a' := ?_) #[true, true, true, true, true, true, true, true, true, true, true, true, true, true, true, true, true, false] rfl rfl (by kernel_rfl) (fun _ _ _ h => h) (Or.inr ⟨by rfl, rfl⟩) ?_ ?_
  rotate_left
  ·simp only [Act.put, List.setIfInBounds_toArray, List.set_cons_zero, List.set_cons_succ, i64_w, i32_w]
   rfl
  refine pure_ (i := 17) (N := some 22) (v := ?_) (a' := ?_) #[true, true, true, true, true, true, true, true, true, true, true, true, true, true, true, true, true, true] rfl rfl (by kernel_rfl) (fun _ _ _ h => h) (Or.inl ⟨by rfl, ?_⟩) ?_ ?_
  rotate_left
  ·intro w'
   go_simp
   with_reducible rfl
  rotate_left
  ·simp only [Act.put, List.setIfInBounds_toArray, List.set_cons_zero, List.set_cons_succ, i64_w, i32_w]
   rfl
  refine done_ (by kernel_rfl) ?_
  skip
  go_wp2_with fail
  go_ret
  exact ⟨by rw [HX.out]; rfl, hHeld.1⟩
 | true =>
  have HZ := Aside0.mk hz
  have hzz := of_decide_eq_true hz
  rw [hz] at HF
  by_cases h100 : ph.length ≤ 100
  ·have hle : ¬ (100 : Int) < (ph.length : Int) := by omega
   have hle2 := decide_eq_false hle
   have HME : Aside0 (∀ W, Calls Try.prog 56 #[.agg #[.int .i8 bK, .int .i8 bL, .int .i8 bS, .slice A3 ph.length c3]] W fun e w' => ∃ A c, e = .returned (.slice A (outL bK.toNat bS.toNat bL.toNat).length c) ∧ Below W.heap.size W w') := ⟨fun W => by
    obtain ⟨bK, rfl⟩ := Int.eq_ofNat_of_zero_le (show 0 ≤ bK by omega)
    obtain ⟨bL, rfl⟩ := Int.eq_ofNat_of_zero_le (show 0 ≤ bL by omega)
    obtain ⟨bS, rfl⟩ := Int.eq_ofNat_of_zero_le (show 0 ≤ bS by omega)
    refine (implMeanings_calls bK bL bS A3 ph.length c3 W (by omega) (by omega) (by omega) (by omega)).mono ?_
    rintro e w' ⟨v, rfl, hs, hb⟩
    obtain ⟨A, c, rfl, _, _⟩ := Kd.S_reads hs
    exact ⟨A, c, rfl, hb⟩⟩
   have HOB := Aside0.mk (show okBook bK bL bS ph = (decide (∀ i : Nat, i < ph.length → phOk ph i = true) && decide (ph.length ≤ (outL bK.toNat bS.toNat bL.toNat).length)) by
    unfold okBook; rw [hz, decide_eq_true h100]; simp)
   have hle3 := outL_le bK.toNat bS.toNat (by omega) bL.toNat (by omega)
   have hout : (outL bK.toNat bS.toNat bL.toNat).length ≤ 3000 := by omega
   have HPS := Aside0.mk hp.p
   clear hz hr3 hzz hp hle3
   generalize outL bK.toNat bS.toNat bL.toNat = O at *
   by_cases hlo : ph.length ≤ O.length
   ·have hlo1 : ¬ ((O.length : Int) < (ph.length : Int)) := by omega
    have hlo2 := decide_eq_false hlo1
    have hlo3 := decide_eq_false (show ¬ O.length < ph.length by omega)
    have HOB2 := Aside0.mk (show okBook bK bL bS ph = decide (∀ i : Nat, i < ph.length → phOk ph i = true) by rw [HOB.out, decide_eq_true hlo]; simp)
    go_enter Try.func53, Try.ntmps53
    go_wp2_with fail
    refine start_ (n := 18) (S := fun w' => BkIn w bK bL bS A3 ph.length c3 w') (ds := []) #[false, false, false, false, false, false, false, false, false, false, false, false, false, false, false, false, false, false] (by kernel_rfl) rfl rfl (HB0.out.drew) (fun hHeld => ?_)
    refine take_ (i := 0) (N := some 5) (v := .agg #[.int .i8 bK, .int .i8 bL, .int .i8 bS, .slice A3 ph.length c3]) (a' := ?_) #[true, false, false, false, false, false, false, false, false, false, false, false, false, false, false, false, false, false] rfl rfl (by kernel_rfl) (fun _ _ _ h => h) (Or.inl ⟨by rfl, ?_⟩) hHeld ?_ ?_
    ·intro w' s0
     exact y_row (by rfl) (by rfl) s0.2 aggBook rfl
    rotate_left
    ·simp only [Act.put, List.setIfInBounds_toArray, List.set_cons_zero, List.set_cons_succ, i64_w, i32_w]
     rfl
    refine one_ (i := 1) (N := some 6) #[true, true, false, false, false, false, false, false, false, false, false, false, false, false, false, false, false, false] rfl rfl (by kernel_rfl) (by decide) (fun K hK => ?_)
    refine goes_ Try.func89 (by kernel_rfl) rfl #[.agg #[.int .i8 bK, .int .i8 bL, .int .i8 bS, .slice A3 ph.length c3]] (by rfl) rfl rfl (by simp only [List.map_toArray, List.map_cons, List.map_nil]; rfl) ?_
    refine (HF.out _ hHeld.1).mono ?_
    rintro e w1 ⟨rfl, hb1⟩
    refine ⟨_, rfl, ?_⟩
    refine hK.out _ _ (hHeld.below hb1) (fun hHeld => ?_)
    clear hK K
    refine norm_ (a' := ?_) ?_ ?_
    rotate_left
    ·show Act.put _ (some 6) _ = _
     simp only [Act.put, List.setIfInBounds_toArray, List.set_cons_zero, List.set_cons_succ, i64_w, i32_w]
     rfl
    refine pure_ (i := 2) (N := some 7) (v := ?_) (a' := ?_) #[true, true, true, false, false, false, false, false, false, false, false, false, false, false, false, false, false, false] rfl rfl (by kernel_rfl) (fun _ _ _ h => h) (Or.inl ⟨by rfl, ?_⟩) ?_ ?_
    rotate_left
    ·intro w'
     go_simp
     with_reducible rfl
    rotate_left
    ·simp only [Act.put, List.setIfInBounds_toArray, List.set_cons_zero, List.set_cons_succ, i64_w, i32_w]
     rfl
    refine pure_ (i := 3) (N := some 8) (v := ?_) (a' := ?_) #[true, true, true, true, false, false, false, false, false, false, false, false, false, false, false, false, false, false] rfl rfl (by kernel_rfl) (fun _ _ _ h => h) (Or.inl ⟨by rfl, ?_⟩) ?_ ?_
    rotate_left
    ·intro w'
     go_simp
     with_reducible rfl
    rotate_left
    ·simp only [Act.put, List.setIfInBounds_toArray, List.set_cons_zero, List.set_cons_succ, i64_w, i32_w]
     rfl
    refine pure_ (i := 4) (N := some 9) (v := ?_) (a' := ?_) #[true, true, true, true, true, false, false, false, false, false, false, false, false, false, false, false, false, false] rfl rfl (by kernel_rfl) (fun _ _ _ h => h) (Or.inl ⟨by rfl, ?_⟩) ?_ ?_
    rotate_left
    ·intro w'
     go_simp
     with_reducible rfl
    rotate_left
    ·simp only [Act.put, List.setIfInBounds_toArray, List.set_cons_zero, List.set_cons_succ, i64_w, i32_w]
     rfl
    refine take_ (i := 5) (N := some 10) (v := .slice A3 ph.length c3) (a' := ?_) #[true, true, true, true, true, true, false, false, false, false, false, false, false, false, false, false, false, false] rfl rfl (by kernel_rfl) (fun _ _ _ h => h) (Or.inl ⟨by rfl, ?_⟩) hHeld ?_ ?_
    ·intro w' s0
     exact y_cell (by rfl) (by rfl) oneStrS ((cell_of_row _ w.heap.size 3 _ _ (0, 0) s0.2).trans rfl)
    rotate_left
    ·simp only [Act.put, List.setIfInBounds_toArray, List.set_cons_zero, List.set_cons_succ, i64_w, i32_w]
     rfl
    refine pure_ (i := 6) (N := some 11) (v := ?_) (a' := ?_) #[true, true, true, true, true, true, true, false, false, false, false, false, false, false, false, false, false, false] rfl rfl (by kernel_rfl) (fun _ _ _ h => h) (Or.inl ⟨by rfl, ?_⟩) ?_ ?_
    rotate_left
    ·intro w'
     go_simp
     with_reducible rfl
    rotate_left
    ·simp only [Act.put, List.setIfInBounds_toArray, List.set_cons_zero, List.set_cons_succ, i64_w, i32_w]
     rfl
    refine pure_ (i := 7) (N := some 12) (v := ?_) (a' := ?_) #[true, true, true, true, true, true, true, true, false, false, false, false, false, false, false, false, false, false] rfl rfl (by kernel_rfl) (fun _ _ _ h => h) (Or.inl ⟨by rfl, ?_⟩) ?_ ?_
    rotate_left
    ·intro w'
     go_simp
     with_reducible rfl
    rotate_left
    ·simp only [Act.put, List.setIfInBounds_toArray, List.set_cons_zero, List.set_cons_succ, i64_w, i32_w]
     rfl
    refine pure_ (i := 8) (N := some 13) (v := ?_) (a' := ?_) #[true, true, true, true, true, true, true, true, true, false, false, false, false, false, false, false, false, false] rfl rfl (by kernel_rfl) (fun _ _ _ h => h) (Or.inl ⟨by rfl, ?_⟩) ?_ ?_
    rotate_left
    ·intro w'
     go_simp
     with_reducible rfl
    rotate_left
    ·simp only [Act.put, List.setIfInBounds_toArray, List.set_cons_zero, List.set_cons_succ, i64_w, i32_w]
     rfl
    refine pure_ (i := 9) (N := some 14) (v := ?_) (a' := ?_) #[true, true, true, true, true, true, true, true, true, true, false, false, false, false, false, false, false, false] rfl rfl (by kernel_rfl) (fun _ _ _ h => h) (Or.inl ⟨by rfl, ?_⟩) ?_ ?_
    rotate_left
    ·intro w'
     go_simp
     with_reducible rfl
    rotate_left
    ·simp only [Act.put, List.setIfInBounds_toArray, List.set_cons_zero, List.set_cons_succ, i64_w, i32_w]
     rfl
    refine pure_ (i := 10) (N := some 15) (v := ?_) (a' := ?_) #[true, true, true, true, true, true, true, true, true, true, true, false, false, false, false, false, false, false] rfl rfl (by kernel_rfl) (fun _ _ _ h => h) (Or.inl ⟨by rfl, ?_⟩) ?_ ?_
    rotate_left
    ·intro w'
     go_simp
     with_reducible rfl
    rotate_left
    ·simp only [Act.put, List.setIfInBounds_toArray, List.set_cons_zero, List.set_cons_succ, i64_w, i32_w]
     rfl
    refine take_ (i := 11) (N := some 16) (v := .slice A3 ph.length c3) (a' := ?_) #[true, true, true, true, true, true, true, true, true, true, true, true, false, false, false, false, false, false] rfl rfl (by kernel_rfl) (fun _ _ _ h => h) (Or.inl ⟨by rfl, ?_⟩) hHeld ?_ ?_
    ·intro w' s0
     exact y_cell (by rfl) (by rfl) oneStrS ((cell_of_row _ w.heap.size 3 _ _ (0, 0) s0.2).trans rfl)
    rotate_left
    ·simp only [Act.put, List.setIfInBounds_toArray, List.set_cons_zero, List.set_cons_succ, i64_w, i32_w]
     rfl
    refine pure_ (i := 12) (N := some 17) (v := ?_) (a' := ?_) #[true, true, true, true, true, true, true, true, true, true, true, true, true, false, false, false, false, false] rfl rfl (by kernel_rfl) (fun _ _ _ h => h) (Or.inl ⟨by rfl, ?_⟩) ?_ ?_
    rotate_left
    ·intro w'
     go_simp
     with_reducible rfl
    rotate_left
    ·simp only [Act.put, List.setIfInBounds_toArray, List.set_cons_zero, List.set_cons_succ, i64_w, i32_w]
     rfl
    refine take_ (i := 13) (N := some 18) (v := .agg #[.int .i8 bK, .int .i8 bL, .int .i8 bS, .slice A3 ph.length c3]) (a' := ?_) #[true, true, true, true, true, true, true, true, true, true, true, true, true, true, false, false, false, false] rfl rfl (by kernel_rfl) (fun _ _ _ h => h) (Or.inl ⟨by rfl, ?_⟩) hHeld ?_ ?_
    ·intro w' s0
     exact y_row (by rfl) (by rfl) s0.2 aggBook rfl
    rotate_left
    ·simp only [Act.put, List.setIfInBounds_toArray, List.set_cons_zero, List.set_cons_succ, i64_w, i32_w]
     rfl
    refine one_ (i := 14) (N := some 19) #[true, true, true, true, true, true, true, true, true, true, true, true, true, true, true, false, false, false] rfl rfl (by kernel_rfl) (by decide) (fun K hK => ?_)
    refine goes_ Try.func56 (by kernel_rfl) rfl #[.agg #[.int .i8 bK, .int .i8 bL, .int .i8 bS, .slice A3 ph.length c3]] (by rfl) rfl rfl (by simp only [List.map_toArray, List.map_cons, List.map_nil]; rfl) ?_
    refine (HME.out _).mono ?_
    rintro e w2 ⟨A7, c7, rfl, hb2⟩
    refine ⟨_, rfl, ?_⟩
    refine hK.out _ _ (hHeld.below hb2) (fun hHeld => ?_)
    clear hK K
    refine norm_ (a' := ?_) ?_ ?_
    rotate_left
    ·show Act.put _ (some 19) _ = _
     simp only [Act.put, List.setIfInBounds_toArray, List.set_cons_zero, List.set_cons_succ, i64_w, i32_w]
     rfl
    refine pure_ (i := 15) (N := some 20) (v := ?_) (a' := ?_) #[true, true, true, true, true, true, true, true, true, true, true, true, true, true, true, true, false, false] rfl rfl (by kernel_rfl) (fun _ _ _ h => h) (Or.inl ⟨by rfl, ?_⟩) ?_ ?_
    rotate_left
    ·intro w'
     go_simp
     with_reducible rfl
    rotate_left
    ·simp only [Act.put, List.setIfInBounds_toArray, List.set_cons_zero, List.set_cons_succ, i64_w, i32_w]
     rfl
    refine pure_ (i := 16) (N := some 21) (v := ?_) (a' := ?_) #[true, true, true, true, true, true, true, true, true, true, true, true, true, true, true, true, true, false] rfl rfl (by kernel_rfl) (fun _ _ _ h => h) (Or.inl ⟨by rfl, ?_⟩) ?_ ?_
    rotate_left
    ·intro w'
     go_simp
     with_reducible rfl
    rotate_left
    ·simp only [Act.put, List.setIfInBounds_toArray, List.set_cons_zero, List.set_cons_succ, i64_w, i32_w]
     rfl
    refine pure_ (i := 17) (N := some 22) (v := ?_) (a' := ?_) #[true, true, true, true, true, true, true, true, true, true, true, true, true, true, true, true, true, true] rfl rfl (by kernel_rfl) (fun _ _ _ h => h) (Or.inl ⟨by rfl, ?_⟩) ?_ ?_
    rotate_left
    ·intro w'
     go_simp
     with_reducible rfl
    rotate_left
    ·simp only [Act.put, List.setIfInBounds_toArray, List.set_cons_zero, List.set_cons_succ, i64_w, i32_w]
     rfl
    refine done_ (by kernel_rfl) ?_
    skip
    have HB2 := Aside0.mk hHeld.1
    have HG2 := Aside0.mk hHeld.2
    have hc23 := cell_of_row _ w.heap.size 3 _ _ (0, 0) hHeld.2
    clear hHeld
    go_wp2_with fail
    go_loopw [26, 3, 4] (fun v26 _ _ wr => ∃ i : Nat, i ≤ ph.length ∧ v26 = .int .i64 i ∧ Aside0 (Below w.heap.size w wr) ∧ Aside0 (wr.heap[w.heap.size]? = some (.cells #[.int .i8 bK, .int .i8 bL, .int .i8 bS, .slice A3 ph.length c3] 27 (0, 0))) ∧ Aside0 (∀ j : Nat, j < i → phOk ph j = true)) (fun v26 _ _ _ => ph.length - (intOf v26).toNat)
    case atStart => exact ⟨0, by omega, rfl, HB2, HG2, ⟨fun j hj => absurd hj (by omega)⟩⟩
    case round =>
     clear HB2 HG2 hc23
     obtain ⟨i, hi, rfl, HB, HG, HP⟩ := hrel
     by_cases hlt : i < ph.length
     ·have hcg := cell_of_row wr w.heap.size 3 _ _ (0, 0) HG.out
      obtain ⟨ad, rfl, hcs⟩ := Kd.at_string (Kd.C_below HR3.out HB.out) (i : Int) (by omega) (by omega)
      rw [Int.toNat_natCast] at hcs
      have HM : Aside0 (rdOf ByteArray.empty ph (i : Int) ∈ ph) := ⟨by rw [rdOf_get ph i hlt]; exact List.getElem_mem hlt⟩
      have HPD := Aside0.mk (phOk_take ph i hlt)
      generalize rdOf ByteArray.empty ph (i : Int) = s at *
      obtain ⟨k1, hk1⟩ := (isPhrase_ev s (HPS.out s HM.out)).rounds
      have HPH := Aside0.mk hk1
      obtain ⟨k2, hk2⟩ := (contains_ev (ph.take i) s (by rw [List.length_take]; omega)).rounds
      have HCN := Aside0.mk hk2
      have htl : (ph.take i).length = i := by rw [List.length_take]; omega
      have HCC : Aside0 (∀ W, Below w.heap.size w W → Calls Try.prog 55 #[.slice (some ad) i c3, .string s] W fun e w' => e = .returned (.bool (hasP (ph.take i) s)) ∧ Drawn0 W w') := ⟨fun W hW => by
       have := slices_Contains_string_string.calls k2 (some ad) c3 (ph.take i) s (hasP (ph.take i) s) W (by rw [htl]; exact C_takeS (Kd.C_below HR3.out hW) i (by omega)) (by omega) HCN.out
       rw [htl] at this
       exact this⟩
      clear hk1 hk2 htl HCN
      cases hph : phrB s with
      | false =>
       have HFX := Aside0.mk (show okBook bK bL bS ph = false by
        rw [HOB2.out, decide_eq_false (p := ∀ i : Nat, i < ph.length → phOk ph i = true) (fun h => by have := h i hlt; rw [HPD.out, hph] at this; simp at this)])
       rw [hph] at HPH
       clear hph
       go_wp2_with (go_at_call 54; refine (impl_isPhrase.calls k1 s false _ HPH.out).mono ?_; rintro e w5 ⟨rfl, ⟨n5, rfl⟩⟩)
       go_ret
       exact ⟨by rw [HFX.out]; rfl, pw_below_drewN HB.out _⟩
      | true =>
       rw [hph] at HPH
       have HPT := Aside0.mk hph
       clear hph
       have hic : i ≤ c3 := by omega
       have hic2 : (i : Int) ≤ (c3 : Int) := by omega
       cases hh : hasP (ph.take i) s with
       | true =>
        have HFX := Aside0.mk (show okBook bK bL bS ph = false by
         rw [HOB2.out, decide_eq_false (p := ∀ i : Nat, i < ph.length → phOk ph i = true) (fun h => by have := h i hlt; rw [HPD.out, hh] at this; simp at this)])
        rw [hh] at HCC
        clear hh
        go_wp2_with (first
         | (go_at_call 54; refine (impl_isPhrase.calls k1 s true _ HPH.out).mono ?_; rintro e w5 ⟨rfl, ⟨n5, rfl⟩⟩)
         | (go_at_call 55; refine (HCC.out _ (pw_below_drewN HB.out _)).mono ?_; rintro e w6 ⟨rfl, ⟨n6, rfl⟩⟩))
        go_ret
        exact ⟨by rw [HFX.out]; rfl, pw_below_drewN HB.out _⟩
       | false =>
        have HOKI := Aside0.mk (show phOk ph i = true by rw [HPD.out, HPT.out, hh]; rfl)
        rw [hh] at HCC
        clear hh
        go_wp2_with (first
         | (go_at_call 54; refine (impl_isPhrase.calls k1 s true _ HPH.out).mono ?_; rintro e w5 ⟨rfl, ⟨n5, rfl⟩⟩)
         | (go_at_call 55; refine (HCC.out _ (pw_below_drewN HB.out _)).mono ?_; rintro e w6 ⟨rfl, ⟨n6, rfl⟩⟩))
        go_roundw
        case rel => exact ⟨i + 1, by omega, by go_num, ⟨pw_below_drewN HB.out _⟩, HG, ⟨fun j hj => by
         rcases Nat.lt_or_ge j i with h | h
         ·exact HP.out j h
         ·obtain rfl : j = i := by omega
          exact HOKI.out⟩⟩
        case measure => simp [intOf]; omega
     ·have HI := Aside0.mk (show i = ph.length by omega)
      go_wp2_with fail
      go_ret
      exact ⟨by rw [HOB2.out, decide_eq_true (p := ∀ i : Nat, i < ph.length → phOk ph i = true) (fun j hj => HP.out j (by rw [HI.out]; exact hj))]; rfl, HB.out⟩
   ·have hlo1 : (O.length : Int) < (ph.length : Int) := by omega
    have hlo2 := decide_eq_true hlo1
    have hlo3 := decide_eq_true (show O.length < ph.length by omega)
    have HFX := Aside0.mk (show okBook bK bL bS ph = false by rw [HOB.out, decide_eq_false hlo]; simp)
    clear hlo
    go_enter Try.func53, Try.ntmps53
    go_wp2_with fail
    refine start_ (n := 18) (S := fun w' => BkIn w bK bL bS A3 ph.length c3 w') (ds := []) #[false, false, false, false, false, false, false, false, false, false, false, false, false, false, false, false, false, false] (by kernel_rfl) rfl rfl (HB0.out.drew) (fun hHeld => ?_)
    refine take_ (i := 0) (N := some 5) (v := .agg #[.int .i8 bK, .int .i8 bL, .int .i8 bS, .slice A3 ph.length c3]) (a' := ?_) #[true, false, false, false, false, false, false, false, false, false, false, false, false, false, false, false, false, false] rfl rfl (by kernel_rfl) (fun _ _ _ h => h) (Or.inl ⟨by rfl, ?_⟩) hHeld ?_ ?_
    ·intro w' s0
     exact y_row (by rfl) (by rfl) s0.2 aggBook rfl
    rotate_left
    ·simp only [Act.put, List.setIfInBounds_toArray, List.set_cons_zero, List.set_cons_succ, i64_w, i32_w]
     rfl
    refine one_ (i := 1) (N := some 6) #[true, true, false, false, false, false, false, false, false, false, false, false, false, false, false, false, false, false] rfl rfl (by kernel_rfl) (by decide) (fun K hK => ?_)
    refine goes_ Try.func89 (by kernel_rfl) rfl #[.agg #[.int .i8 bK, .int .i8 bL, .int .i8 bS, .slice A3 ph.length c3]] (by rfl) rfl rfl (by simp only [List.map_toArray, List.map_cons, List.map_nil]; rfl) ?_
    refine (HF.out _ hHeld.1).mono ?_
    rintro e w1 ⟨rfl, hb1⟩
    refine ⟨_, rfl, ?_⟩
    refine hK.out _ _ (hHeld.below hb1) (fun hHeld => ?_)
    clear hK K
    refine norm_ (a' := ?_) ?_ ?_
    rotate_left
    ·show Act.put _ (some 6) _ = _
     simp only [Act.put, List.setIfInBounds_toArray, List.set_cons_zero, List.set_cons_succ, i64_w, i32_w]
     rfl
    refine pure_ (i := 2) (N := some 7) (v := ?_) (a' := ?_) #[true, true, true, false, false, false, false, false, false, false, false, false, false, false, false, false, false, false] rfl rfl (by kernel_rfl) (fun _ _ _ h => h) (Or.inl ⟨by rfl, ?_⟩) ?_ ?_
    rotate_left
    ·intro w'
     go_simp
     with_reducible rfl
    rotate_left
    ·simp only [Act.put, List.setIfInBounds_toArray, List.set_cons_zero, List.set_cons_succ, i64_w, i32_w]
     rfl
    refine pure_ (i := 3) (N := some 8) (v := ?_) (a' := ?_) #[true, true, true, true, false, false, false, false, false, false, false, false, false, false, false, false, false, false] rfl rfl (by kernel_rfl) (fun _ _ _ h => h) (Or.inl ⟨by rfl, ?_⟩) ?_ ?_
    rotate_left
    ·intro w'
     go_simp
     with_reducible rfl
    rotate_left
    ·simp only [Act.put, List.setIfInBounds_toArray, List.set_cons_zero, List.set_cons_succ, i64_w, i32_w]
     rfl
    refine pure_ (i := 4) (N := some 9) (v := ?_) (a' := ?_) #[true, true, true, true, true, false, false, false, false, false, false, false, false, false, false, false, false, false] rfl rfl (by kernel_rfl) (fun _ _ _ h => h) (Or.inl ⟨by rfl, ?_⟩) ?_ ?_
    rotate_left
    ·intro w'
     go_simp
     with_reducible rfl
    rotate_left
    ·simp only [Act.put, List.setIfInBounds_toArray, List.set_cons_zero, List.set_cons_succ, i64_w, i32_w]
     rfl
    refine take_ (i := 5) (N := some 10) (v := .slice A3 ph.length c3) (a' := ?_) #[true, true, true, true, true, true, false, false, false, false, false, false, false, false, false, false, false, false] rfl rfl (by kernel_rfl) (fun _ _ _ h => h) (Or.inl ⟨by rfl, ?_⟩) hHeld ?_ ?_
    ·intro w' s0
     exact y_cell (by rfl) (by rfl) oneStrS ((cell_of_row _ w.heap.size 3 _ _ (0, 0) s0.2).trans rfl)
    rotate_left
    ·simp only [Act.put, List.setIfInBounds_toArray, List.set_cons_zero, List.set_cons_succ, i64_w, i32_w]
     rfl
    refine pure_ (i := 6) (N := some 11) (v := ?_) (a' := ?_) #[true, true, true, true, true, true, true, false, false, false, false, false, false, false, false, false, false, false] rfl rfl (by kernel_rfl) (fun _ _ _ h => h) (Or.inl ⟨by rfl, ?_⟩) ?_ ?_
    rotate_left
    ·intro w'
     go_simp
     with_reducible rfl
    rotate_left
    ·simp only [Act.put, List.setIfInBounds_toArray, List.set_cons_zero, List.set_cons_succ, i64_w, i32_w]
     rfl
    refine pure_ (i := 7) (N := some 12) (v := ?_) (a' := ?_) #[true, true, true, true, true, true, true, true, false, false, false, false, false, false, false, false, false, false] rfl rfl (by kernel_rfl) (fun _ _ _ h => h) (Or.inl ⟨by rfl, ?_⟩) ?_ ?_
    rotate_left
    ·intro w'
     go_simp
     with_reducible rfl
    rotate_left
    ·simp only [Act.put, List.setIfInBounds_toArray, List.set_cons_zero, List.set_cons_succ, i64_w, i32_w]
     rfl
    refine pure_ (i := 8) (N := some 13) (v := ?_) (a' := ?_) #[true, true, true, true, true, true, true, true, true, false, false, false, false, false, false, false, false, false] rfl rfl (by kernel_rfl) (fun _ _ _ h => h) (Or.inl ⟨by rfl, ?_⟩) ?_ ?_
    rotate_left
    ·intro w'
     go_simp
     with_reducible rfl
    rotate_left
    ·simp only [Act.put, List.setIfInBounds_toArray, List.set_cons_zero, List.set_cons_succ, i64_w, i32_w]
     rfl
    refine pure_ (i := 9) (N := some 14) (v := ?_) (a' := ?_) #[true, true, true, true, true, true, true, true, true, true, false, false, false, false, false, false, false, false] rfl rfl (by kernel_rfl) (fun _ _ _ h => h) (Or.inl ⟨by rfl, ?_⟩) ?_ ?_
    rotate_left
    ·intro w'
     go_simp
     with_reducible rfl
    rotate_left
    ·simp only [Act.put, List.setIfInBounds_toArray, List.set_cons_zero, List.set_cons_succ, i64_w, i32_w]
     rfl
    refine pure_ (i := 10) (N := some 15) (v := ?_) (a' := ?_) #[true, true, true, true, true, true, true, true, true, true, true, false, false, false, false, false, false, false] rfl rfl (by kernel_rfl) (fun _ _ _ h => h) (Or.inl ⟨by rfl, ?_⟩) ?_ ?_
    rotate_left
    ·intro w'
     go_simp
     with_reducible rfl
    rotate_left
    ·simp only [Act.put, List.setIfInBounds_toArray, List.set_cons_zero, List.set_cons_succ, i64_w, i32_w]
     rfl
    refine take_ (i := 11) (N := some 16) (v := .slice A3 ph.length c3) (a' := ?_) #[true, true, true, true, true, true, true, true, true, true, true, true, false, false, false, false, false, false] rfl rfl (by kernel_rfl) (fun _ _ _ h => h) (Or.inl ⟨by rfl, ?_⟩) hHeld ?_ ?_
    ·intro w' s0
     exact y_cell (by rfl) (by rfl) oneStrS ((cell_of_row _ w.heap.size 3 _ _ (0, 0) s0.2).trans rfl)
    rotate_left
    ·simp only [Act.put, List.setIfInBounds_toArray, List.set_cons_zero, List.set_cons_succ, i64_w, i32_w]
     rfl
    refine pure_ (i := 12) (N := some 17) (v := ?_) (a' := ?_) #[true, true, true, true, true, true, true, true, true, true, true, true, true, false, false, false, false, false] rfl rfl (by kernel_rfl) (fun _ _ _ h => h) (Or.inl ⟨by rfl, ?_⟩) ?_ ?_
    rotate_left
    ·intro w'
     go_simp
     with_reducible rfl
    rotate_left
    ·simp only [Act.put, List.setIfInBounds_toArray, List.set_cons_zero, List.set_cons_succ, i64_w, i32_w]
     rfl
    refine take_ (i := 13) (N := some 18) (v := .agg #[.int .i8 bK, .int .i8 bL, .int .i8 bS, .slice A3 ph.length c3]) (a' := ?_) #[true, true, true, true, true, true, true, true, true, true, true, true, true, true, false, false, false, false] rfl rfl (by kernel_rfl) (fun _ _ _ h => h) (Or.inl ⟨by rfl, ?_⟩) hHeld ?_ ?_
    ·intro w' s0
     exact y_row (by rfl) (by rfl) s0.2 aggBook rfl
    rotate_left
    ·simp only [Act.put, List.setIfInBounds_toArray, List.set_cons_zero, List.set_cons_succ, i64_w, i32_w]
     rfl
    refine one_ (i := 14) (N := some 19) #[true, true, true, true, true, true, true, true, true, true, true, true, true, true, true, false, false, false] rfl rfl (by kernel_rfl) (by decide) (fun K hK => ?_)
    refine goes_ Try.func56 (by kernel_rfl) rfl #[.agg #[.int .i8 bK, .int .i8 bL, .int .i8 bS, .slice A3 ph.length c3]] (by rfl) rfl rfl (by simp only [List.map_toArray, List.map_cons, List.map_nil]; rfl) ?_
    refine (HME.out _).mono ?_
    rintro e w2 ⟨A7, c7, rfl, hb2⟩
    refine ⟨_, rfl, ?_⟩
    refine hK.out _ _ (hHeld.below hb2) (fun hHeld => ?_)
    clear hK K
    refine norm_ (a' := ?_) ?_ ?_
    rotate_left
    ·show Act.put _ (some 19) _ = _
     simp only [Act.put, List.setIfInBounds_toArray, List.set_cons_zero, List.set_cons_succ, i64_w, i32_w]
     rfl
    refine pure_ (i := 15) (N := some 20) (v := ?_) (a' := ?_) #[true, true, true, true, true, true, true, true, true, true, true, true, true, true, true, true, false, false] rfl rfl (by kernel_rfl) (fun _ _ _ h => h) (Or.inl ⟨by rfl, ?_⟩) ?_ ?_
    rotate_left
    ·intro w'
     go_simp
     with_reducible rfl
    rotate_left
    ·simp only [Act.put, List.setIfInBounds_toArray, List.set_cons_zero, List.set_cons_succ, i64_w, i32_w]
     rfl
    refine pure_ (i := 16) (N := some 21) (v := ?_) (a' := ?_) #[true, true, true, true, true, true, true, true, true, true, true, true, true, true, true, true, true, false] rfl rfl (by kernel_rfl) (fun _ _ _ h => h) (Or.inl ⟨by rfl, ?_⟩) ?_ ?_
    rotate_left
    ·intro w'
     go_simp
     with_reducible rfl
    rotate_left
    ·simp only [Act.put, List.setIfInBounds_toArray, List.set_cons_zero, List.set_cons_succ, i64_w, i32_w]
     rfl
    refine pure_ (i := 17) (N := some 22) (v := ?_) (a' := ?_) #[true, true, true, true, true, true, true, true, true, true, true, true, true, true, true, true, true, true] rfl rfl (by kernel_rfl) (fun _ _ _ h => h) (Or.inl ⟨by rfl, ?_⟩) ?_ ?_
    rotate_left
    ·intro w'
     go_simp
     with_reducible rfl
    rotate_left
    ·simp only [Act.put, List.setIfInBounds_toArray, List.set_cons_zero, List.set_cons_succ, i64_w, i32_w]
     rfl
    refine done_ (by kernel_rfl) ?_
    skip
    have HB2 := Aside0.mk hHeld.1
    have HG2 := Aside0.mk hHeld.2
    have hc23 := cell_of_row _ w.heap.size 3 _ _ (0, 0) hHeld.2
    clear hHeld
    go_wp2_with fail
    go_ret
    exact ⟨by rw [HFX.out]; rfl, HB2.out⟩
  ·have hgt : (100 : Int) < (ph.length : Int) := by omega
   have hgt2 := decide_eq_true hgt
   have HFX := Aside0.mk (show okBook bK bL bS ph = false by unfold okBook; rw [decide_eq_false h100]; simp)
   clear hz hr3 hp h100 hzz
   go_enter Try.func53, Try.ntmps53
   go_wp2_with fail
   refine start_ (n := 18) (S := fun w' => BkIn w bK bL bS A3 ph.length c3 w') (ds := []) #[false, false, false, false, false, false, false, false, false, false, false, false, false, false, false, false, false, false] (by kernel_rfl) rfl rfl (HB0.out.drew) (fun hHeld => ?_)
   refine take_ (i := 0) (N := some 5) (v := .agg #[.int .i8 bK, .int .i8 bL, .int .i8 bS, .slice A3 ph.length c3]) (a' := ?_) #[true, false, false, false, false, false, false, false, false, false, false, false, false, false, false, false, false, false] rfl rfl (by kernel_rfl) (fun _ _ _ h => h) (Or.inl ⟨by rfl, ?_⟩) hHeld ?_ ?_
   ·intro w' s0
    exact y_row (by rfl) (by rfl) s0.2 aggBook rfl
   rotate_left
   ·simp only [Act.put, List.setIfInBounds_toArray, List.set_cons_zero, List.set_cons_succ, i64_w, i32_w]
    rfl
   refine one_ (i := 1) (N := some 6) #[true, true, false, false, false, false, false, false, false, false, false, false, false, false, false, false, false, false] rfl rfl (by kernel_rfl) (by decide) (fun K hK => ?_)
   refine goes_ Try.func89 (by kernel_rfl) rfl #[.agg #[.int .i8 bK, .int .i8 bL, .int .i8 bS, .slice A3 ph.length c3]] (by rfl) rfl rfl (by simp only [List.map_toArray, List.map_cons, List.map_nil]; rfl) ?_
   refine (HF.out _ hHeld.1).mono ?_
   rintro e w1 ⟨rfl, hb1⟩
   refine ⟨_, rfl, ?_⟩
   refine hK.out _ _ (hHeld.below hb1) (fun hHeld => ?_)
   clear hK K
   refine norm_ (a' := ?_) ?_ ?_
   rotate_left
   ·show Act.put _ (some 6) _ = _
    simp only [Act.put, List.setIfInBounds_toArray, List.set_cons_zero, List.set_cons_succ, i64_w, i32_w]
    rfl
   refine pure_ (i := 2) (N := some 7) (v := ?_) (a' := ?_) #[true, true, true, false, false, false, false, false, false, false, false, false, false, false, false, false, false, false] rfl rfl (by kernel_rfl) (fun _ _ _ h => h) (Or.inl ⟨by rfl, ?_⟩) ?_ ?_
   rotate_left
   ·intro w'
    go_simp
    with_reducible rfl
   rotate_left
   ·simp only [Act.put, List.setIfInBounds_toArray, List.set_cons_zero, List.set_cons_succ, i64_w, i32_w]
    rfl
   refine pure_ (i := 3) (N := some 8) (v := ?_) (a' := ?_) #[true, true, true, true, false, false, false, false, false, false, false, false, false, false, false, false, false, false] rfl rfl (by kernel_rfl) (fun _ _ _ h => h) (Or.inl ⟨by rfl, ?_⟩) ?_ ?_
   rotate_left
   ·intro w'
    go_simp
    with_reducible rfl
   rotate_left
   ·simp only [Act.put, List.setIfInBounds_toArray, List.set_cons_zero, List.set_cons_succ, i64_w, i32_w]
    rfl
   refine pure_ (i := 4) (N := some 9) (v := ?_) (a' := ?_) #[true, true, true, true, true, false, false, false, false, false, false, false, false, false, false, false, false, false] rfl rfl (by kernel_rfl) (fun _ _ _ h => h) (Or.inl ⟨by rfl, ?_⟩) ?_ ?_
   rotate_left
   ·intro w'
    go_simp
    with_reducible rfl
   rotate_left
   ·simp only [Act.put, List.setIfInBounds_toArray, List.set_cons_zero, List.set_cons_succ, i64_w, i32_w]
    rfl
   refine take_ (i := 5) (N := some 10) (v := .slice A3 ph.length c3) (a' := ?_) #[true, true, true, true, true, true, false, false, false, false, false, false, false, false, false, false, false, false] rfl rfl (by kernel_rfl) (fun _ _ _ h => h) (Or.inl ⟨by rfl, ?_⟩) hHeld ?_ ?_
   ·intro w' s0
    exact y_cell (by rfl) (by rfl) oneStrS ((cell_of_row _ w.heap.size 3 _ _ (0, 0) s0.2).trans rfl)
   rotate_left
   ·simp only [Act.put, List.setIfInBounds_toArray, List.set_cons_zero, List.set_cons_succ, i64_w, i32_w]
    rfl
   refine pure_ (i := 6) (N := some 11) (v := ?_) (a' := ?_) #[true, true, true, true, true, true, true, false, false, false, false, false, false, false, false, false, false, false] rfl rfl (by kernel_rfl) (fun _ _ _ h => h) (Or.inl ⟨by rfl, ?_⟩) ?_ ?_
   rotate_left
   ·intro w'
    go_simp
    with_reducible rfl
   rotate_left
   ·simp only [Act.put, List.setIfInBounds_toArray, List.set_cons_zero, List.set_cons_succ, i64_w, i32_w]
    rfl
   refine pure_ (i := 7) (N := some 12) (v := ?_) (a' := ?_) #[true, true, true, true, true, true, true, true, false, false, false, false, false, false, false, false, false, false] rfl rfl (by kernel_rfl) (fun _ _ _ h => h) (Or.inl ⟨by rfl, ?_⟩) ?_ ?_
   rotate_left
   ·intro w'
    go_simp
    with_reducible rfl
   rotate_left
   ·simp only [Act.put, List.setIfInBounds_toArray, List.set_cons_zero, List.set_cons_succ, i64_w, i32_w]
    rfl
   refine pure_ (i := 8) (N := some 13) (v := ?_) (a' := ?_) #[true, true, true, true, true, true, true, true, true, false, false, false, false, false, false, false, false, false] rfl rfl (by kernel_rfl) (fun _ _ _ h => h) (Or.inl ⟨by rfl, ?_⟩) ?_ ?_
   rotate_left
   ·intro w'
    go_simp
    with_reducible rfl
   rotate_left
   ·simp only [Act.put, List.setIfInBounds_toArray, List.set_cons_zero, List.set_cons_succ, i64_w, i32_w]
    rfl
   refine pure_ (i := 9) (N := some 14) (v := ?_) (a' := ?_) #[true, true, true, true, true, true, true, true, true, true, false, false, false, false, false, false, false, false] rfl rfl (by kernel_rfl) (fun _ _ _ h => h) (Or.inl ⟨by rfl, ?_⟩) ?_ ?_
   rotate_left
   ·intro w'
    go_simp
    with_reducible rfl
   rotate_left
   ·simp only [Act.put, List.setIfInBounds_toArray, List.set_cons_zero, List.set_cons_succ, i64_w, i32_w]
    rfl
   refine pure_ (i := 10) (N := some 15) (v := undef) (a' := ?_) #[true, true, true, true, true, true, true, true, true, true, true, false, false, false, false, false, false, false] rfl rfl (by kernel_rfl) (fun _ _ _ h => h) (Or.inr ⟨by rfl, rfl⟩) ?_ ?_
   rotate_left
   ·simp only [Act.put, List.setIfInBounds_toArray, List.set_cons_zero, List.set_cons_succ, i64_w, i32_w]
    rfl
   refine pure_ (i := 11) (N := some 16) (v := undef) (a' := ?_) #[true, true, true, true, true, true, true, true, true, true, true, true, false, false, false, false, false, false] rfl rfl (by kernel_rfl) (fun _ _ _ h => h) (Or.inr ⟨by rfl, rfl⟩) ?_ ?_
   rotate_left
   ·simp only [Act.put, List.setIfInBounds_toArray, List.set_cons_zero, List.set_cons_succ, i64_w, i32_w]
    rfl
   refine pure_ (i := 12) (N := some 17) (v := undef) (a' := ?_) #[true, true, true, true, true, true, true, true, true, true, true, true, true, false, false, false, false, false] rfl rfl (by kernel_rfl) (fun _ _ _ h => h) (Or.inr ⟨by rfl, rfl⟩) ?_ ?_
   rotate_left
   ·simp only [Act.put, List.setIfInBounds_toArray, List.set_cons_zero, List.set_cons_succ, i64_w, i32_w]
    rfl
   refine pure_ (i := 13) (N := some 18) (v := undef) (a' := ?_) #[true, true, true, true, true, true, true, true, true, true, true, true, true, true, false, false, false, false] rfl rfl (by kernel_rfl) (fun _ _ _ h => h) (Or.inr ⟨by rfl, rfl⟩) ?_ ?_
   rotate_left
   ·simp only [Act.put, List.setIfInBounds_toArray, List.set_cons_zero, List.set_cons_succ, i64_w, i32_w]
    rfl
   refine pure_ (i := 14) (N := some 19) (v := undef) (a' := ?_) #[true, true, true, true, true, true, true, true, true, true, true, true, true, true, true, false, false, false] rfl rfl (by kernel_rfl) (fun _ _ _ h => h) (Or.inr ⟨by rfl, rfl⟩) ?_ ?_
   rotate_left
   ·simp only [Act.put, List.setIfInBounds_toArray, List.set_cons_zero, List.set_cons_succ, i64_w, i32_w]
    rfl
   refine pure_ (i := 15) (N := some 20) (v := undef) (a' := ?_) #[true, true, true, true, true, true, true, true, true, true, true, true, true, true, true, true, false, false] rfl rfl (by kernel_rfl) (fun _ _ _ h => h) (Or.inr ⟨by rfl, rfl⟩) ?_ ?_
   rotate_left
   ·simp only [Act.put, List.setIfInBounds_toArray, List.set_cons_zero, List.set_cons_succ, i64_w, i32_w]
    rfl
   refine pure_ (i := 16) (N := some 21) (v := undef) (a' := ?_) #[true, true, true, true, true, true, true, true, true, true, true, true, true, true, true, true, true, false] rfl rfl (by kernel_rfl) (fun _ _ _ h => h) (Or.inr ⟨by rfl, rfl⟩) ?_ ?_
   rotate_left
   ·simp only [Act.put, List.setIfInBounds_toArray, List.set_cons_zero, List.set_cons_succ, i64_w, i32_w]
    rfl
   refine pure_ (i := 17) (N := some 22) (v := ?_) (a' := ?_) #[true, true, true, true, true, true, true, true, true, true, true, true, true, true, true, true, true, true] rfl rfl (by kernel_rfl) (fun _ _ _ h => h) (Or.inl ⟨by rfl, ?_⟩) ?_ ?_
   rotate_left
   ·intro w'
    go_simp
    with_reducible rfl
   rotate_left
   ·simp only [Act.put, List.setIfInBounds_toArray, List.set_cons_zero, List.set_cons_succ, i64_w, i32_w]
    rfl
   refine done_ (by kernel_rfl) ?_
   skip
   go_wp2_with fail
   go_ret
   exact ⟨by rw [HFX.out]; rfl, hHeld.1⟩
end Go.Proofs.Ytckpfodpfplaeaa.Arr
namespace Go.Proofs.Ytckpfodpfplaeaa.Arr
open Go.RowKit Go.Proofs.Ytckpfodpfplaeaa.U
set_option linter.unusedVariables false
set_option linter.unusedSimpArgs false
def smallPh (ph : List ByteArray) : Bool := decide (ph.length ≤ 100000000) && ph.all fun s => decide (s.size ≤ 140737488351232)
def in8 (a : Int) : Bool := decide (-128 ≤ a ∧ a ≤ 127)
theorem bookP_of {K L S : Int} {ph : List ByteArray} (h : (smallPh ph && (in8 K && (in8 L && in8 S))) = true) : BookP K L S ph := by
 simp only [Bool.and_eq_true] at h
 obtain ⟨h1, h2, h3, h4⟩ := h
 unfold in8 at h2 h3 h4
 unfold smallPh at h1
 rw [Bool.and_eq_true, decide_eq_true_eq, List.all_eq_true] at h1
 rw [decide_eq_true_eq] at h2 h3 h4
 exact ⟨h2, h3, h4, h1.1, fun s hm => by have := h1.2 s hm; rwa [decide_eq_true_eq] at this⟩
end Go.Proofs.Ytckpfodpfplaeaa.Arr
namespace Go.Proofs.Ytckpfodpfplaeaa.Arr
open Go.RowKit Go.Proofs.YtckpfodpfplaeaaW.PrintWords Go.Proofs.YtckpfodpfplaeaaW.PrintLast Go.Proofs.YtckpfodpfplaeaaW.PrintMore Go.Proofs.Ytckpfodpfplaeaa.U Go.Proofs.Ytckpfodpfplaeaa.D
set_option linter.unusedVariables false
set_option linter.unusedSimpArgs false
theorem lit64 (W : World) (base : Nat) (hb : base ≤ W.heap.size) : Kd.R (Kd.int .i64) 2 (W.alloc (.cells #[] 2)) base (fun _ => True) (.slice (some ⟨W.heap.size, 0, none⟩) 0 0) [] := by
 refine ⟨fun k hk => trivial, [], ?_, Reps.none _ _⟩
 have h2 := World.ownsRow_lit (base := base) (e := 2) (size := 1) W #[] 0 hb (by simp [maxLen]) (by simp)
 have h3 : (W.alloc (.cells #[] 2)).ownsRow base 2 1 (.slice (some ⟨W.heap.size, 0, none⟩) 0 0) 0 [] := by simpa using h2
 exact h3
end Go.Proofs.Ytckpfodpfplaeaa.Arr
namespace Go.Proofs.Ytckpfodpfplaeaa.Arr
open Go.RowKit Go.Proofs.YtckpfodpfplaeaaW.PrintWords Go.Proofs.YtckpfodpfplaeaaW.PrintLast Go.Proofs.YtckpfodpfplaeaaW.PrintMore Go.Proofs.Ytckpfodpfplaeaa.U Go.Proofs.Ytckpfodpfplaeaa.D
set_option linter.unusedVariables false
set_option linter.unusedSimpArgs false
theorem infoI64 : (Try.prog.info? 2).map (fun i => (i.zero, i.size, i.bytes)) = some (some (.int .i64 0), 1, 8) := by kernel_rfl
end Go.Proofs.Ytckpfodpfplaeaa.Arr
namespace Go.Proofs.Ytckpfodpfplaeaa.Arr
open Go.RowKit Go.Proofs.YtckpfodpfplaeaaW.PrintWords Go.Proofs.YtckpfodpfplaeaaW.PrintLast Go.Proofs.YtckpfodpfplaeaaW.PrintMore Go.Proofs.Ytckpfodpfplaeaa.U Go.Proofs.Ytckpfodpfplaeaa.D
set_option linter.unusedVariables false
set_option linter.unusedSimpArgs false
theorem oneM : OneTy Try.prog 47 := ⟨by kernel_rfl, by kernel_rfl⟩
theorem outL_small8 {K L S : Int} {ph : List ByteArray} (hk : okBook K L S ph = true) : ∀ x ∈ outL K.toNat S.toNat L.toNat, Small8 x := fun x hx => by
 have hin := okBook_in hk
 have h := outL_small K.toNat S.toNat L.toNat (by omega) L.toNat (Nat.le_refl _) (by omega) x hx
 exact ⟨by omega, fun y hy => by have := h.2.2 y hy; omega⟩
end Go.Proofs.Ytckpfodpfplaeaa.Arr
namespace Go.Proofs.Ytckpfodpfplaeaa.Arr
open Go.RowKit Go.Proofs.YtckpfodpfplaeaaW.PrintWords Go.Proofs.YtckpfodpfplaeaaW.PrintLast Go.Proofs.YtckpfodpfplaeaaW.PrintMore Go.Proofs.Ytckpfodpfplaeaa.U Go.Proofs.Ytckpfodpfplaeaa.D
set_option linter.unusedVariables false
set_option linter.unusedSimpArgs false
abbrev bkC (K L S : Int) (A : Option Addr) (n c : Nat) : Array Value := #[.int .i8 K, .int .i8 L, .int .i8 S, .slice A n c]
structure Two (w : World) (g g4 : Nat) (K L S : Int) (A : Option Addr) (n c : Nat) (W : World) : Prop where
 bel : Below w.heap.size w W
 one : W.heap[g]? = some (.cells (bkC K L S A n c) 27 (0, 0))
 two : W.heap[g4]? = some (.cells (bkC 0 0 0 none 0 0) 27 (0, 0))
end Go.Proofs.Ytckpfodpfplaeaa.Arr
namespace Go.Proofs.Ytckpfodpfplaeaa.Arr
open Go.RowKit Go.Proofs.YtckpfodpfplaeaaW.PrintWords Go.Proofs.YtckpfodpfplaeaaW.PrintLast Go.Proofs.YtckpfodpfplaeaaW.PrintMore Go.Proofs.Ytckpfodpfplaeaa.U Go.Proofs.Ytckpfodpfplaeaa.D
set_option linter.unusedVariables false
set_option linter.unusedSimpArgs false
abbrev bkIs (w : World) (g : Nat) (K L S : Int) (A3 : Option Addr) (n3 c3 : Nat) : Prop := w.heap[g]? = some (.cells #[.int .i8 K, .int .i8 L, .int .i8 S, .slice A3 n3 c3] 27 (0, 0))
theorem bkIs.below {w w1 : World} {g : Nat} {K L S : Int} {A3 : Option Addr} {n3 c3 : Nat} (h : bkIs w g K L S A3 n3 c3) (hb : Below w.heap.size w w1) : bkIs w1 g K L S A3 n3 c3 := (hb.block g (lt_of_some h)).trans h
set_option maxHeartbeats 4000000 in
set_option maxRecDepth 100000 in
theorem sizedF_calls (K L S : Int) (A3 : Option Addr) (n3 c3 : Nat) (g : Nat) (w : World) (hb : bkIs w g K L S A3 n3 c3) (hK : -128 ≤ K ∧ K ≤ 127) (hL : -128 ≤ L ∧ L ≤ 127) (hS : -128 ≤ S ∧ S ≤ 127) :
  Calls Try.prog 88 #[.pointer (some ⟨g, 0, none⟩)] w fun e w' => e = .returned (.bool (sizedB K L S)) ∧ Below w.heap.size w w' := by
 have HI1 := Aside0.mk (in_ev' K 1 10)
 have HI2 := Aside0.mk (in_ev' L 1 3)
 have HI3 := Aside0.mk (in_ev' S 0 4)
 rw [← w64 (x := K) (by omega) (by omega)] at HI1
 rw [← w64 (x := L) (by omega) (by omega)] at HI2
 rw [← w64 (x := S) (by omega) (by omega)] at HI3
 have hc0 := (blk_cell hb 0).trans rfl
 have hc1 := (blk_cell hb 1).trans rfl
 have hc2 := (blk_cell hb 2).trans rfl
 rw [show sizedB K L S = (decide (1 ≤ wrap64 K ∧ wrap64 K ≤ 10) && (decide (1 ≤ wrap64 L ∧ wrap64 L ≤ 3) && decide (0 ≤ wrap64 S ∧ wrap64 S ≤ 4))) by
  rw [w64 (by omega) (by omega), w64 (by omega) (by omega), w64 (by omega) (by omega)]; unfold sizedB; simp only [Bool.decide_and]]
 generalize decide (1 ≤ wrap64 K ∧ wrap64 K ≤ 10) = b1 at *
 generalize decide (1 ≤ wrap64 L ∧ wrap64 L ≤ 3) = b2 at *
 generalize decide (0 ≤ wrap64 S ∧ wrap64 S ≤ 4) = b3 at *
 clear hb hK hL hS
 cases b1 with
 | false =>
  go_enter Try.func88, Try.ntmps88
  go_wp2_with (first
   | (go_at_call 78; (with_reducible refine (spec_l00In.calls (wrap64 K) 1 10 false _ HI1.out).mono ?_); rintro e w' ⟨rfl, ⟨nd, rfl⟩⟩))
  go_ret
  exact ⟨rfl, by repeat (first | exact Below.refl _ _ | apply pw_below_drewN)⟩
 | true =>
  cases b2 with
  | false =>
   go_enter Try.func88, Try.ntmps88
   go_wp2_with (first
    | (go_at_call 78; (with_reducible refine (spec_l00In.calls (wrap64 K) 1 10 true _ HI1.out).mono ?_); rintro e w' ⟨rfl, ⟨nd, rfl⟩⟩)
    | (go_at_call 78; (with_reducible refine (spec_l00In.calls (wrap64 L) 1 3 false _ HI2.out).mono ?_); rintro e w' ⟨rfl, ⟨nd, rfl⟩⟩))
   go_ret
   exact ⟨rfl, by repeat (first | exact Below.refl _ _ | apply pw_below_drewN)⟩
  | true =>
   go_enter Try.func88, Try.ntmps88
   go_wp2_with (first
    | (go_at_call 78; (with_reducible refine (spec_l00In.calls (wrap64 K) 1 10 true _ HI1.out).mono ?_); rintro e w' ⟨rfl, ⟨nd, rfl⟩⟩)
    | (go_at_call 78; (with_reducible refine (spec_l00In.calls (wrap64 L) 1 3 true _ HI2.out).mono ?_); rintro e w' ⟨rfl, ⟨nd, rfl⟩⟩)
    | (go_at_call 78; (with_reducible refine (spec_l00In.calls (wrap64 S) 0 4 b3 _ HI3.out).mono ?_); rintro e w' ⟨rfl, ⟨nd, rfl⟩⟩))
   go_ret
   exact ⟨rfl, by repeat (first | exact Below.refl _ _ | apply pw_below_drewN)⟩
set_option maxHeartbeats 4000000 in
set_option maxRecDepth 100000 in
theorem findF_calls (K L S : Int) (A3 : Option Addr) (c3 : Nat) (ph : List ByteArray) (s : ByteArray) (g : Nat) (w : World) (hb : bkIs w g K L S A3 ph.length c3) (hr : Kd.C Kd.string w A3 ph.length ph) (hn : ph.length ≤ 100000000) :
  Calls Try.prog 49 #[.pointer (some ⟨g, 0, none⟩), .string s] w fun e w' => e = .returned (.int .i64 (fnd ph s)) ∧ Below w.heap.size w w' := by
 have HBK := Aside0.mk hb
 have HR := Aside0.mk hr
 clear hb hr
 go_enter Try.func49, Try.ntmps49
 go_wp2_with fail
 go_loopw [5] (fun v5 wr => ∃ i : Nat, i ≤ ph.length ∧ v5 = .int .i64 i ∧ Aside0 (Below w.heap.size w wr) ∧ Aside0 (∀ j : Nat, j < i → ∀ y, ph[j]? = some y → decide (y.toList = s.toList) = false)) (fun v5 _ => ph.length - (intOf v5).toNat)
 case atStart => exact ⟨0, by omega, rfl, ⟨Below.refl _ _⟩, ⟨fun j hj => absurd hj (by omega)⟩⟩
 case round =>
  obtain ⟨i, hi, rfl, HB, HP⟩ := hrel
  have hc3 := (blk_cell (HBK.out.below HB.out) 3).trans rfl
  by_cases hlt : i < ph.length
  ·obtain ⟨ad, rfl, hcs⟩ := Kd.at_string (Kd.C_below HR.out HB.out) (i : Int) (by omega) (by omega)
   rw [Int.toNat_natCast] at hcs
   by_cases h1 : (rdOf ByteArray.empty ph (i : Int)).toList = s.toList
   ·have HF := Aside0.mk (ixa_found (fun x => decide (x.toList = s.toList)) ph i ph[i] (List.getElem?_eq_getElem hlt) HP.out (decide_eq_true (by rw [← rdOf_get ph i hlt]; exact h1)))
    have h2 : ((rdOf ByteArray.empty ph (i : Int)).toList == s.toList) = true := beq_iff_eq.mpr h1
    clear h1
    go_wp2_with fail
    go_ret
    exact ⟨by rw [show fnd ph s = (i : Int) from HF.out]; rfl, HB.out⟩
   ·have HQ := Aside0.mk (show ∀ y, ph[i]? = some y → decide (y.toList = s.toList) = false from fun y hy => by
     rw [List.getElem?_eq_getElem hlt] at hy
     rw [← Option.some.inj hy, ← rdOf_get ph i hlt]; exact decide_eq_false h1)
    have h2 : ((rdOf ByteArray.empty ph (i : Int)).toList == s.toList) = false := beq_eq_false_iff_ne.mpr h1
    clear h1
    go_wp2_with fail
    go_roundw
    case rel => exact ⟨i + 1, by omega, by go_num, HB, ⟨fun j hj => by
     rcases Nat.lt_or_ge j i with h | h
     ·exact HP.out j h
     ·obtain rfl : j = i := by omega
      exact HQ.out⟩⟩
    case measure => simp [intOf]; omega
  ·obtain rfl : i = ph.length := by omega
   have HF := Aside0.mk (ixa_none (fun x => decide (x.toList = s.toList)) ph HP.out)
   clear HP
   go_wp2_with fail
   go_ret
   exact ⟨by rw [show fnd ph s = -1 from HF.out]; rfl, HB.out⟩
set_option maxHeartbeats 8000000 in
set_option maxRecDepth 100000 in
theorem okF_calls (K L S : Int) (A3 : Option Addr) (c3 : Nat) (ph : List ByteArray) (g : Nat) (w : World) (hb : bkIs w g K L S A3 ph.length c3) (hr : Kd.C Kd.string w A3 ph.length ph) (hp : BookP K L S ph) :
  Calls Try.prog 47 #[.pointer (some ⟨g, 0, none⟩)] w fun e w' => e = .returned (.bool (okBook K L S ph)) ∧ Below w.heap.size w w' := by
 have hn := hp.n
 have hs := hp.p
 have hK := hp.k
 have hL := hp.l
 have hS := hp.s
 have HS := Aside0.mk (sizedF_calls K L S A3 ph.length c3 g w hb hK hL hS)
 have HBK := Aside0.mk hb
 have HR := Aside0.mk hr
 have hc3 := (blk_cell hb 3).trans rfl
 clear hb hr hp
 cases hz : sizedB K L S with
 | false =>
  have HF := Aside0.mk (show okBook K L S ph = false by unfold okBook; rw [hz]; rfl)
  rw [hz] at HS
  clear hz
  go_enter Try.func47, Try.ntmps47
  go_wp2_with (go_at_call 88; refine HS.out.mono ?_; rintro e w1 ⟨rfl, h1⟩; have HB1 := Aside0.mk h1; clear h1)
  go_ret
  exact ⟨by rw [HF.out]; rfl, HB1.out⟩
 | true =>
  have HZ := Aside0.mk hz
  have hzz := of_decide_eq_true hz
  rw [hz] at HS
  clear hz
  by_cases h100 : ph.length ≤ 100
  ·have hle : (ph.length : Int) ≤ 100 := by omega
   have hgt : ¬ (100 : Int) < (ph.length : Int) := by omega
   have hgt2 := decide_eq_false hgt
   have HH := Aside0.mk hs
   obtain ⟨K, rfl⟩ := Int.eq_ofNat_of_zero_le (show 0 ≤ K by omega)
   obtain ⟨L, rfl⟩ := Int.eq_ofNat_of_zero_le (show 0 ≤ L by omega)
   obtain ⟨S, rfl⟩ := Int.eq_ofNat_of_zero_le (show 0 ≤ S by omega)
   have HK4 : Aside0 ((1 ≤ K ∧ K ≤ 10) ∧ L ≤ 3 ∧ S ≤ 4) := ⟨by omega⟩
   clear hs hK hL hS hzz
   go_enter Try.func47, Try.ntmps47
   go_wp2_with (go_at_call 88; refine HS.out.mono ?_; rintro e w1 ⟨rfl, h1⟩; have HB1 := Aside0.mk h1; have hc4 := (blk_cell (HBK.out.below h1) 3).trans rfl; clear h1)
   go_loopw [3] (fun v3 wr => ∃ i : Nat, i ≤ ph.length ∧ v3 = .int .i64 i ∧ Aside0 (Below w.heap.size w wr) ∧ Aside0 (∀ j : Nat, j < i → phOk ph j = true)) (fun v3 _ => ph.length - (intOf v3).toNat)
   case atStart => exact ⟨0, by omega, rfl, HB1, ⟨fun j hj => absurd hj (by omega)⟩⟩
   case round =>
    clear HB1 hc4 hc3
    obtain ⟨i, hi, rfl, HB, HP⟩ := hrel
    have hc5 := (blk_cell (HBK.out.below HB.out) 3).trans rfl
    by_cases hlt : i < ph.length
    ·obtain ⟨ad, rfl, hcs⟩ := Kd.at_string (Kd.C_below HR.out HB.out) (i : Int) (by omega) (by omega)
     rw [Int.toNat_natCast] at hcs
     have HM : Aside0 (rdOf ByteArray.empty ph (i : Int) ∈ ph) := ⟨by rw [rdOf_get ph i hlt]; exact List.getElem_mem hlt⟩
     have HPD := Aside0.mk (show phOk ph i = (phrB (rdOf ByteArray.empty ph (i : Int)) && decide (fnd ph (rdOf ByteArray.empty ph (i : Int)) = (i : Int))) from rfl)
     generalize rdOf ByteArray.empty ph (i : Int) = s at *
     obtain ⟨k1, hk1⟩ := (l03Phrase_ev s (HH.out s HM.out)).rounds
     have HPH := Aside0.mk hk1
     have HFI := Aside0.mk (fun W (hW : Below w.heap.size w W) => findF_calls (K : Int) (L : Int) (S : Int) (some ad) c3 ph s g W (HBK.out.below hW) (Kd.C_below HR.out hW) (by omega))
     clear hk1
     cases hp : phrB s with
     | false =>
      have HF := Aside0.mk (show okBook K L S ph = false by
       unfold okBook
       rw [decide_eq_false (p := ∀ i : Nat, i < ph.length → phOk ph i = true) (fun h => by have := h i hlt; rw [HPD.out, hp] at this; simp at this)]
       simp)
      rw [hp] at HPH
      clear hp HFI
      go_wp2_with (go_at_call 48; refine (spec_l03Phrase.calls k1 s false _ HPH.out).mono ?_; rintro e w2 ⟨rfl, ⟨n2, rfl⟩⟩)
      go_ret
      exact ⟨by rw [HF.out]; rfl, pw_below_drewN HB.out _⟩
     | true =>
      rw [hp] at HPH
      have HPT := Aside0.mk hp
      clear hp
      by_cases hf : fnd ph s = (i : Int)
      ·have HOK := Aside0.mk (show phOk ph i = true by rw [HPD.out, HPT.out, decide_eq_true hf]; rfl)
       rw [hf] at HFI
       clear hf
       go_wp2_with (first
        | (go_at_call 48; refine (spec_l03Phrase.calls k1 s true _ HPH.out).mono ?_; rintro e w2 ⟨rfl, ⟨n2, rfl⟩⟩)
        | (go_at_call 49; refine (HFI.out _ (pw_below_drewN HB.out n2)).mono ?_; rintro e w3 ⟨rfl, h3⟩; have HB3 := Aside0.mk ((pw_below_drewN HB.out n2).trans (h3.mono (pw_below_drewN HB.out n2).size)); clear h3))
       go_roundw
       case rel => exact ⟨i + 1, by omega, by go_num, HB3, ⟨fun j hj => by
        rcases Nat.lt_or_ge j i with h | h
        ·exact HP.out j h
        ·obtain rfl : j = i := by omega
         exact HOK.out⟩⟩
       case measure => simp [intOf]; omega
      ·have HF := Aside0.mk (show okBook K L S ph = false by
        unfold okBook
        rw [decide_eq_false (p := ∀ i : Nat, i < ph.length → phOk ph i = true) (fun h => by have := h i hlt; rw [HPD.out, decide_eq_false hf] at this; simp at this)]
        simp)
       have hf1 : (fnd ph s != (i : Int)) = true := by rw [bne_iff_ne]; exact hf
       clear hf
       generalize fnd ph s = f at *
       go_wp2_with (first
        | (go_at_call 48; refine (spec_l03Phrase.calls k1 s true _ HPH.out).mono ?_; rintro e w2 ⟨rfl, ⟨n2, rfl⟩⟩)
        | (go_at_call 49; refine (HFI.out _ (pw_below_drewN HB.out n2)).mono ?_; rintro e w3 ⟨rfl, h3⟩; have HB3 := Aside0.mk ((pw_below_drewN HB.out n2).trans (h3.mono (pw_below_drewN HB.out n2).size)); clear h3))
       go_ret
       exact ⟨by rw [HF.out]; rfl, HB3.out⟩
    ·have HI := Aside0.mk (show i = ph.length by omega)
     have HALL := Aside0.mk (show okBook K L S ph = decide (ph.length ≤ (outL K S L).length) by
      unfold okBook
      rw [HZ.out, decide_eq_true h100, decide_eq_true (p := ∀ i : Nat, i < ph.length → phOk ph i = true) (fun j hj => HP.out j (by rw [HI.out]; exact hj)), Int.toNat_natCast, Int.toNat_natCast, Int.toNat_natCast]
      simp)
     have HME := Aside0.mk (fun W (hW : Below w.heap.size w W) => specMeanings_calls K L S A3 ph.length c3 g W (HBK.out.below hW) HK4.out.1.1 HK4.out.1.2 HK4.out.2.1 HK4.out.2.2)
     go_wp2_with fail
     refine start_ (n := 10) (S := fun w' => Below w.heap.size w w') (ds := []) #[false, false, false, false, false, false, false, false, false, false] (by kernel_rfl) rfl rfl (below_drew1 HB.out) (fun hHeld => ?_)
     refine pure_ (i := 0) (N := some 46) (v := ?_) (a' := ?_) #[true, false, false, false, false, false, false, false, false, false] rfl rfl (by kernel_rfl) (fun _ _ _ h => h) (Or.inl ⟨by rfl, ?_⟩) ?_ ?_
     rotate_left
     ·intro w'
      go_simp
      with_reducible rfl
     rotate_left
     ·simp only [Act.put, List.setIfInBounds_toArray, List.set_cons_zero, List.set_cons_succ, i64_w, i32_w]
      rfl
     refine pure_ (i := 1) (N := some 47) (v := ?_) (a' := ?_) #[true, true, false, false, false, false, false, false, false, false] rfl rfl (by kernel_rfl) (fun _ _ _ h => h) (Or.inl ⟨by rfl, ?_⟩) ?_ ?_
     rotate_left
     ·intro w'
      go_simp
      with_reducible rfl
     rotate_left
     ·simp only [Act.put, List.setIfInBounds_toArray, List.set_cons_zero, List.set_cons_succ, i64_w, i32_w]
      rfl
     refine pure_ (i := 2) (N := some 48) (v := ?_) (a' := ?_) #[true, true, true, false, false, false, false, false, false, false] rfl rfl (by kernel_rfl) (fun _ _ _ h => h) (Or.inl ⟨by rfl, ?_⟩) ?_ ?_
     rotate_left
     ·intro w'
      go_simp
      with_reducible rfl
     rotate_left
     ·simp only [Act.put, List.setIfInBounds_toArray, List.set_cons_zero, List.set_cons_succ, i64_w, i32_w]
      rfl
     refine pure_ (i := 5) (N := some 51) (v := ?_) (a' := ?_) #[true, true, true, false, false, true, false, false, false, false] rfl rfl (by kernel_rfl) (fun _ _ _ h => h) (Or.inl ⟨by rfl, ?_⟩) ?_ ?_
     rotate_left
     ·intro w'
      go_simp
      with_reducible rfl
     rotate_left
     ·simp only [Act.put, List.setIfInBounds_toArray, List.set_cons_zero, List.set_cons_succ, i64_w, i32_w]
      rfl
     refine take_ (i := 3) (N := some 49) (v := .slice A3 ph.length c3) (a' := ?_) #[true, true, true, true, false, true, false, false, false, false] rfl rfl (by kernel_rfl) (fun _ _ _ h => h) (Or.inl ⟨by rfl, ?_⟩) hHeld ?_ ?_
     ·intro w' s0
      exact y_cell (by rfl) (by rfl) oneStrS ((blk_cell (HBK.out.below s0) 3).trans rfl)
     rotate_left
     ·simp only [Act.put, List.setIfInBounds_toArray, List.set_cons_zero, List.set_cons_succ, i64_w, i32_w]
      rfl
     refine pure_ (i := 4) (N := some 50) (v := ?_) (a' := ?_) #[true, true, true, true, true, true, false, false, false, false] rfl rfl (by kernel_rfl) (fun _ _ _ h => h) (Or.inl ⟨by rfl, ?_⟩) ?_ ?_
     rotate_left
     ·intro w'
      go_simp
      with_reducible rfl
     rotate_left
     ·simp only [Act.put, List.setIfInBounds_toArray, List.set_cons_zero, List.set_cons_succ, i64_w, i32_w]
      rfl
     refine one_ (i := 6) (N := some 52) #[true, true, true, true, true, true, true, false, false, false] rfl rfl (by kernel_rfl) (by decide) (fun K hK => ?_)
     refine goes_ Try.func50 (by kernel_rfl) rfl #[.pointer (some ⟨g, 0, none⟩)] (by rfl) rfl rfl (by simp only [List.map_toArray, List.map_cons, List.map_nil]; rfl) ?_
     refine (HME.out _ hHeld).mono ?_
     rintro e w4 ⟨v, rfl, hsv, hb4⟩
     obtain ⟨A7, c7, rfl, _, _⟩ := Kd.S_reads hsv
     clear hsv
     refine ⟨_, rfl, ?_⟩
     refine hK.out _ _ (hHeld.trans (hb4.mono hHeld.size)) (fun hHeld => ?_)
     clear hK K
     refine norm_ (a' := ?_) ?_ ?_
     rotate_left
     ·show Act.put _ (some 52) _ = _
      simp only [Act.put, List.setIfInBounds_toArray, List.set_cons_zero, List.set_cons_succ, i64_w, i32_w]
      rfl
     refine pure_ (i := 7) (N := some 53) (v := ?_) (a' := ?_) #[true, true, true, true, true, true, true, true, false, false] rfl rfl (by kernel_rfl) (fun _ _ _ h => h) (Or.inl ⟨by rfl, ?_⟩) ?_ ?_
     rotate_left
     ·intro w'
      go_simp
      with_reducible rfl
     rotate_left
     ·simp only [Act.put, List.setIfInBounds_toArray, List.set_cons_zero, List.set_cons_succ, i64_w, i32_w]
      rfl
     refine pure_ (i := 8) (N := some 54) (v := ?_) (a' := ?_) #[true, true, true, true, true, true, true, true, true, false] rfl rfl (by kernel_rfl) (fun _ _ _ h => h) (Or.inl ⟨by rfl, ?_⟩) ?_ ?_
     rotate_left
     ·intro w'
      go_simp
      with_reducible rfl
     rotate_left
     ·simp only [Act.put, List.setIfInBounds_toArray, List.set_cons_zero, List.set_cons_succ, i64_w, i32_w]
      rfl
     refine pure_ (i := 9) (N := some 2) (v := ?_) (a' := ?_) #[true, true, true, true, true, true, true, true, true, true] rfl rfl (by kernel_rfl) (fun _ _ _ h => h) (Or.inl ⟨by rfl, ?_⟩) ?_ ?_
     rotate_left
     ·intro w'
      go_simp
      with_reducible rfl
     rotate_left
     ·simp only [Act.put, List.setIfInBounds_toArray, List.set_cons_zero, List.set_cons_succ, i64_w, i32_w]
      rfl
     refine done_ (by kernel_rfl) ?_
     skip
     go_wp2_with fail
     go_ret
     exact ⟨by rw [HALL.out]; rfl, hHeld⟩
  ·have HF := Aside0.mk (show okBook K L S ph = false by unfold okBook; rw [decide_eq_false h100]; simp)
   have hgt : (100 : Int) < (ph.length : Int) := by omega
   have hgt2 := decide_eq_true hgt
   clear h100
   go_enter Try.func47, Try.ntmps47
   go_wp2_with (go_at_call 88; refine HS.out.mono ?_; rintro e w1 ⟨rfl, h1⟩; have HB1 := Aside0.mk h1; have hc4 := (blk_cell (HBK.out.below h1) 3).trans rfl; clear h1)
   go_ret
   exact ⟨by rw [HF.out]; rfl, HB1.out⟩
end Go.Proofs.Ytckpfodpfplaeaa.Arr
namespace Go.Proofs.Ytckpfodpfplaeaa.Arr
open Go.RowKit Go.Proofs.YtckpfodpfplaeaaW.PrintWords Go.Proofs.YtckpfodpfplaeaaW.PrintLast Go.Proofs.YtckpfodpfplaeaaW.PrintMore Go.Proofs.Ytckpfodpfplaeaa.U Go.Proofs.Ytckpfodpfplaeaa.D
set_option linter.unusedVariables false
set_option linter.unusedSimpArgs false
structure Pair (w : World) (g g2 : Nat) (ca cb : Array Value) (W : World) : Prop where
 bel : Below w.heap.size w W
 one : W.heap[g]? = some (.cells ca 27 (0, 0))
 two : W.heap[g2]? = some (.cells cb 27 (0, 0))
theorem Pair.below {w : World} {g g2 : Nat} {ca cb : Array Value} {W W' : World} (h : Pair w g g2 ca cb W) (hb : Below W.heap.size W W') : Pair w g g2 ca cb W' :=
 ⟨h.bel.trans (hb.mono h.bel.size), (hb.block _ (lt_of_some h.one)).trans h.one, (hb.block _ (lt_of_some h.two)).trans h.two⟩
theorem Pair.drew {w : World} {g g2 : Nat} {ca cb : Array Value} {W : World} (h : Pair w g g2 ca cb W) : Pair w g g2 ca cb W.drew := ⟨below_drew1 h.bel, h.one, h.two⟩
theorem Pair.grown {w : World} {g g2 : Nat} {ca cb : Array Value} {W W' : World} (h : Pair w g g2 ca cb W) {row : Option Nat} (hg : W.grownBy W' row) (h1 : some g ≠ row) (h2 : some g2 ≠ row) (hb : Below w.heap.size w W') : Pair w g g2 ca cb W' :=
 ⟨hb, (hg.block _ (lt_of_some h.one) h1).trans h.one, (hg.block _ (lt_of_some h.two) h2).trans h.two⟩
theorem Pair.fresh {w : World} {g g2 : Nat} {ca cb : Array Value} {W : World} (h : Pair w g g2 ca cb W) {k : Nat} (hk : W.heap.size ≤ k) : k ≠ g ∧ k ≠ g2 := by
 have h1 := lt_of_some h.one
 have h2 := lt_of_some h.two
 omega
theorem start5 {w w4 : World} {g g2 : Nat} {ca cb : Array Value} (hm : Mem w w4 [⟨g2, cb, 27, true⟩, ⟨g, ca, 27, true⟩]) : Pair w g g2 ca cb w4 :=
 ⟨hm.done rfl, hm.mem (n := 1) rfl, hm.mem (n := 0) rfl⟩
theorem lit64P (W : World) (base : Nat) (ok : Nat → Prop) (hb : base ≤ W.heap.size) (hok : ok W.heap.size) : Kd.R (Kd.int .i64) 2 (W.alloc (.cells #[] 2)) base ok (.slice (some ⟨W.heap.size, 0, none⟩) 0 0) [] :=
 ⟨fun k hk => by rw [← show W.heap.size = k from Option.some.inj hk]; exact hok, (lit64 W base hb).2⟩
theorem fnd_lt {ph : List ByteArray} {s : ByteArray} (h : 0 ≤ fnd ph s) : fnd ph s < (ph.length : Int) := by
 unfold fnd ixa at *
 split at h
 ·rename_i i hi
  have := (List.findIdx?_eq_some_iff_getElem.1 hi).1
  omega
 ·omega
def movB (pa pb : List ByteArray) (Oa Ob : List (List Int)) (j : Nat) : Bool := decide (0 ≤ fnd pb (rdOf ByteArray.empty pa (j : Int))) && !decide (rd_L2 Oa (j : Int) = rd_L2 Ob (fnd pb (rdOf ByteArray.empty pa (j : Int))))
def movW (pa pb : List ByteArray) (Oa Ob : List (List Int)) : Nat → List Int
 | 0 => []
 | n + 1 => movW pa pb Oa Ob n ++ (if movB pa pb Oa Ob n = true then [(n : Int)] else [])
theorem movW_len (pa pb : List ByteArray) (Oa Ob : List (List Int)) : ∀ n, (movW pa pb Oa Ob n).length ≤ n
 | 0 => by simp [movW]
 | n + 1 => by
  rw [movW, List.length_append]
  have := movW_len pa pb Oa Ob n
  split <;> simp <;> omega
def movesW (aK aL aS : Int) (pa : List ByteArray) (bK bL bS : Int) (pb : List ByteArray) : List Int × Int :=
 if okBook aK aL aS pa = true then (if okBook bK bL bS pb = true then (movW pa pb (outL aK.toNat aS.toNat aL.toNat) (outL bK.toNat bS.toNat bL.toNat) pa.length, 0) else ([], 1)) else ([], 1)
set_option maxHeartbeats 8000000 in
set_option maxRecDepth 100000 in
theorem specMovedPhrases_calls (aK aL aS : Int) (A3 : Option Addr) (c3 : Nat) (pa : List ByteArray) (bK bL bS : Int) (A4 : Option Addr) (c4 : Nat) (pb : List ByteArray) (w : World) (hpa : BookP aK aL aS pa) (hpb : BookP bK bL bS pb) (hra : Kd.C Kd.string w A3 pa.length pa) (hrb : Kd.C Kd.string w A4 pb.length pb) :
  Calls Try.prog 23 #[.agg #[.int .i8 aK, .int .i8 aL, .int .i8 aS, .slice A3 pa.length c3], .agg #[.int .i8 bK, .int .i8 bL, .int .i8 bS, .slice A4 pb.length c4]] w fun e w' => ∃ v0_ : Value, e = .returned (.tuple #[v0_, .int .i64 (movesW aK aL aS pa bK bL bS pb).2]) ∧ Kd.R (Kd.int .i64) 2 w' w.heap.size (fun _ => True) v0_ (movesW aK aL aS pa bK bL bS pb).1 ∧ Below w.heap.size w w' := by
 have hm := Mem.start w
 have hu := Try.underlying27
 have HOA : Aside0 (∀ g W, bkIs W g aK aL aS A3 pa.length c3 → Below w.heap.size w W → _) := ⟨fun g W h hW => okF_calls aK aL aS A3 c3 pa g W h (Kd.C_below hra hW) hpa⟩
 have HOB : Aside0 (∀ g W, bkIs W g bK bL bS A4 pb.length c4 → Below w.heap.size w W → _) := ⟨fun g W h hW => okF_calls bK bL bS A4 c4 pb g W h (Kd.C_below hrb hW) hpb⟩
 have HLI := Aside0.mk (fun W (hW : Below w.heap.size w W) => lit64 W w.heap.size hW.size)
 have HRA := Aside0.mk hra
 have HRB := Aside0.mk hrb
 unfold movesW
 cases hka : okBook aK aL aS pa with
 | false =>
  rw [hka] at HOA
  clear hka hpa hpb hra hrb
  go_enter Try.func23, Try.ntmps23
  go_wp2_with (first
   | ((with_reducible refine gt_box 2 27 ?_); refine st_box rfl 2 rfl 27 _ rfl hm rfl (cs := #[.int .i8 aK, .int .i8 aL, .int .i8 aS, .slice A3 pa.length c3]) rfl ?_; clear hm; intro g w1 hm)
   | ((with_reducible refine gt_box 3 27 ?_); refine st_box rfl 3 rfl 27 _ rfl hm rfl (cs := #[.int .i8 bK, .int .i8 bL, .int .i8 bS, .slice A4 pb.length c4]) rfl ?_; clear hm; intro g2 w2 hm; have HP := Aside0.mk (start5 hm); clear hm)
   | (go_at_call 47; (with_reducible refine (HOA.out g _ HP.out.one HP.out.bel).mono ?_); rintro e w5 ⟨rfl, h1⟩; have HP5 := Aside0.mk (HP.out.below h1); clear h1))
  go_ret2
  exact ⟨_, rfl, HLI.out _ HP5.out.bel, below_alloc HP5.out.bel _⟩
 | true =>
  rw [hka] at HOA
  cases hkb : okBook bK bL bS pb with
  | false =>
   rw [hkb] at HOB
   clear hka hkb hpa hpb hra hrb
   go_enter Try.func23, Try.ntmps23
   go_wp2_with (first
    | ((with_reducible refine gt_box 2 27 ?_); refine st_box rfl 2 rfl 27 _ rfl hm rfl (cs := #[.int .i8 aK, .int .i8 aL, .int .i8 aS, .slice A3 pa.length c3]) rfl ?_; clear hm; intro g w1 hm)
    | ((with_reducible refine gt_box 3 27 ?_); refine st_box rfl 3 rfl 27 _ rfl hm rfl (cs := #[.int .i8 bK, .int .i8 bL, .int .i8 bS, .slice A4 pb.length c4]) rfl ?_; clear hm; intro g2 w2 hm; have HP := Aside0.mk (start5 hm); clear hm)
    | (go_at_call 47; (with_reducible refine (HOB.out g2 _ HP5.out.two HP5.out.bel).mono ?_); rintro e w6 ⟨rfl, h1⟩; have HP6 := Aside0.mk (HP5.out.below h1); clear h1)
    | (go_at_call 47; (with_reducible refine (HOA.out g _ HP.out.one HP.out.bel).mono ?_); rintro e w5 ⟨rfl, h1⟩; have HP5 := Aside0.mk (HP.out.below h1); clear h1))
   go_ret2
   exact ⟨_, rfl, HLI.out _ HP6.out.bel, below_alloc HP6.out.bel _⟩
  | true =>
   rw [hkb] at HOB
   have hia := okBook_in hka
   have hib := okBook_in hkb
   have hola := outL_le aK.toNat aS.toNat (by omega) aL.toNat (by omega)
   have hsma := outL_small8 hka
   obtain ⟨aK, rfl⟩ := Int.eq_ofNat_of_zero_le (show 0 ≤ aK by omega)
   obtain ⟨aL, rfl⟩ := Int.eq_ofNat_of_zero_le (show 0 ≤ aL by omega)
   obtain ⟨aS, rfl⟩ := Int.eq_ofNat_of_zero_le (show 0 ≤ aS by omega)
   obtain ⟨bK, rfl⟩ := Int.eq_ofNat_of_zero_le (show 0 ≤ bK by omega)
   obtain ⟨bL, rfl⟩ := Int.eq_ofNat_of_zero_le (show 0 ≤ bL by omega)
   obtain ⟨bS, rfl⟩ := Int.eq_ofNat_of_zero_le (show 0 ≤ bS by omega)
   simp only [Int.toNat_natCast] at hia hib hola hsma ⊢
   have HMA := Aside0.mk (fun g W (h : bkIs W g aK aL aS A3 pa.length c3) => specMeanings_calls aK aL aS A3 pa.length c3 g W h (by omega) (by omega) (by omega) (by omega))
   have HMB := Aside0.mk (fun g W (h : bkIs W g bK bL bS A4 pb.length c4) => specMeanings_calls bK bL bS A4 pb.length c4 g W h (by omega) (by omega) (by omega) (by omega))
   have HSM := Aside0.mk (fun x (hx : x ∈ outL aK aS aL) => (hsma x hx).1)
   have hna : pa.length ≤ 100 := hia.2.1
   have hla := hia.2.2
   have hlb := hib.2.2
   have HFI : Aside0 (∀ s g W, bkIs W g bK bL bS A4 pb.length c4 → Below w.heap.size w W → _) := ⟨fun s g W h hW => findF_calls bK bL bS A4 c4 pb s g W h (Kd.C_below hrb hW) (by have := hib.2.1; omega)⟩
   clear hka hkb hpa hpb hra hrb hia hib hola hsma
   simp only [if_true]
   generalize outL aK aS aL = Oa at *
   generalize outL bK bS bL = Ob at *
   go_enter Try.func23, Try.ntmps23
   go_wp2_with (first
    | ((with_reducible refine gt_box 2 27 ?_); refine st_box rfl 2 rfl 27 _ rfl hm rfl (cs := #[.int .i8 (aK : Int), .int .i8 (aL : Int), .int .i8 (aS : Int), .slice A3 pa.length c3]) rfl ?_; clear hm; intro g w1 hm)
    | ((with_reducible refine gt_box 3 27 ?_); refine st_box rfl 3 rfl 27 _ rfl hm rfl (cs := #[.int .i8 (bK : Int), .int .i8 (bL : Int), .int .i8 (bS : Int), .slice A4 pb.length c4]) rfl ?_; clear hm; intro g2 w2 hm; have HP := Aside0.mk (start5 hm); clear hm)
    | (go_at_call 47; (with_reducible refine (HOB.out g2 _ HP5.out.two HP5.out.bel).mono ?_); rintro e w6 ⟨rfl, h1⟩; have HP6 := Aside0.mk (HP5.out.below h1); clear h1)
    | (go_at_call 47; (with_reducible refine (HOA.out g _ HP.out.one HP.out.bel).mono ?_); rintro e w5 ⟨rfl, h1⟩; have HP5 := Aside0.mk (HP.out.below h1); clear h1)
    | (go_at_call 50; (with_reducible refine (HMB.out g2 _ HP7.out.two).mono ?_); rintro e w8 ⟨v8, rfl, hs, h1⟩; obtain ⟨A8, c8, rfl, _, _⟩ := Kd.S_reads hs; have HP8 := Aside0.mk (HP7.out.below h1); have HSA8 := Aside0.mk (Kd.S_bound (Kd.S_below HSA.out h1)); have HSB := Aside0.mk (Kd.S_bound (Kd.S_lower hs HP7.out.bel.size)); have HZ8 := Aside0.mk HP8.out.bel.size; have HLP := Aside0.mk (lit64P _ w.heap.size (fun k => k ≠ g ∧ k ≠ g2) HP8.out.bel.size (HP8.out.fresh (Nat.le_refl _))); clear h1 hs)
    | (go_at_call 50; (with_reducible refine (HMA.out g _ HP6.out.one).mono ?_); rintro e w7 ⟨v7, rfl, hs, h1⟩; obtain ⟨A7, c7, rfl, _, _⟩ := Kd.S_reads hs; have HP7 := Aside0.mk (HP6.out.below h1); have HSA := Aside0.mk (Kd.S_lower hs HP6.out.bel.size); clear h1 hs))
   go_loopw [8, 9] (fun v8 v9 wr => ∃ i : Nat, i ≤ pa.length ∧ v9 = .int .i64 i ∧ Aside0 (Pair w g g2 #[.int .i8 (aK : Int), .int .i8 (aL : Int), .int .i8 (aS : Int), .slice A3 pa.length c3] #[.int .i8 (bK : Int), .int .i8 (bL : Int), .int .i8 (bS : Int), .slice A4 pb.length c4] wr) ∧ Aside0 (Kd.R (Kd.int .i64) 2 wr w.heap.size (fun k => k ≠ g ∧ k ≠ g2) v8 (movW pa pb Oa Ob i)) ∧ Aside0 (Kd.S kM 47 wr w.heap.size (fun k => True ∧ some k ≠ v8.ownBlock) (.slice A7 Oa.length c7) Oa) ∧ Aside0 (Kd.S kM 47 wr w.heap.size (fun k => True ∧ some k ≠ v8.ownBlock) (.slice A8 Ob.length c8) Ob)) (fun _ v9 _ => pa.length - (intOf v9).toNat)
   case atStart => exact ⟨0, by omega, rfl, ⟨HP8.out.below (below_alloc (Below.refl _ _) _)⟩, HLP, ⟨Kd.S_mono (Kd.S_below HSA8.out (below_alloc (Below.refl _ _) _)) (fun k hk => ⟨trivial, by have := hk.2.2.1; simp [Value.ownBlock]; omega⟩)⟩, ⟨Kd.S_mono (Kd.S_below HSB.out (below_alloc (Below.refl _ _) _)) (fun k hk => ⟨trivial, by have := hk.2.2.1; simp [Value.ownBlock]; omega⟩)⟩⟩
   case round =>
    clear HP HP5 HP6 HP7 HP8 HSA HSA8 HSB HZ8 HLP
    obtain ⟨i, hi, rfl, HP, HRO, HSA, HSB⟩ := hrel
    have hc3 := (blk_cell HP.out.one 3).trans rfl
    by_cases hlt : i < pa.length
    ·have hio : i < Oa.length := by omega
     have hioI : (i : Int) < (Oa.length : Int) := by omega
     have HW := Aside0.mk (show movW pa pb Oa Ob (i + 1) = movW pa pb Oa Ob i ++ (if movB pa pb Oa Ob i = true then [(i : Int)] else []) from rfl)
     have HL := Aside0.mk (movW_len pa pb Oa Ob i)
     obtain ⟨ad, rfl, hcs⟩ := Kd.at_string (Kd.C_below HRA.out HP.out.bel) (i : Int) (by omega) (by omega)
     rw [Int.toNat_natCast] at hcs
     have HMV := Aside0.mk (show movB pa pb Oa Ob i = (decide (0 ≤ fnd pb (rdOf ByteArray.empty pa (i : Int))) && !decide (rd_L2 Oa (i : Int) = rd_L2 Ob (fnd pb (rdOf ByteArray.empty pa (i : Int))))) from rfl)
     generalize rdOf ByteArray.empty pa (i : Int) = s at *
     have HF := Aside0.mk (HFI.out s)
     clear HFI
     have hfl := fnd_lt (ph := pb) (s := s)
     generalize fnd pb s = f at *
     by_cases hf : 0 ≤ f
     ·have hfl := hfl hf
      obtain ⟨k, rfl⟩ := Int.eq_ofNat_of_zero_le hf
      have hko : k < Ob.length := by omega
      have hkoI : (k : Int) < (Ob.length : Int) := by omega
      have hf1 : decide ((k : Int) ≥ 0) = true := decide_eq_true hf
      obtain ⟨adA, A1, c1, rfl, hcA, hl1, hC1⟩ := at_kM (Kd.S_reads' HSA.out).2.2 i hio
      obtain ⟨adB, A2, c2, rfl, hcB, hl2, hC2⟩ := at_kM (Kd.S_reads' HSB.out).2.2 k hko
      have HCA := Aside0.mk (fun W (hW : Below wr.heap.size wr W) => pw_cell_below hW hcA)
      have HCB := Aside0.mk (fun W (hW : Below wr.heap.size wr W) => pw_cell_below hW hcB)
      obtain ⟨kk, hkk⟩ := (l03Same_ev Oa[i] Ob[k] (by have := HSM.out _ (List.getElem_mem hio); omega)).rounds
      have HSS := Aside0.mk (fun W (hW : Below wr.heap.size wr W) => spec_l03Same.calls kk A1 c1 Oa[i] A2 c2 Ob[k] _ W (Kd.C_below hC1 hW) hl1 (Kd.C_below hC2 hW) hl2 hkk)
      rw [rdM_get Oa i hio, rdM_get Ob k hko, decide_eq_true hf, Bool.true_and] at HMV
      clear hcA hcB hC1 hC2 hkk
      generalize Oa[i] = x at *
      generalize Ob[k] = y at *
      generalize decide (x = y) = b at *
      have HMV2 := Aside0.mk HMV.out
      rw [HMV2.out] at HW
      clear HMV HMV2
      cases b with
      | true =>
       simp only [Bool.not_true, Bool.false_eq_true, if_false, List.append_nil] at HW
       go_wp2_with (first
        | (go_at_call 49; refine (HF.out g2 _ HP.out.two HP.out.bel).mono ?_; rintro e w5 ⟨rfl, h5⟩; have HB5 := Aside0.mk h5; clear h5))
       refine start_ (n := 14) (S := fun w' => Below wr.heap.size wr w') (ds := []) #[false, false, false, false, false, false, false, false, false, false, false, false, false, false] (by kernel_rfl) rfl rfl (below_drew1 HB5.out) (fun hHeld => ?_)
       refine pure_ (i := 0) (N := some 34) (v := ?_) (a' := ?_) #[true, false, false, false, false, false, false, false, false, false, false, false, false, false] rfl rfl (by kernel_rfl) (fun _ _ _ h => h) (Or.inl ⟨by rfl, ?_⟩) ?_ ?_
       rotate_left
       ·intro w'
        go_simp
        with_reducible rfl
       rotate_left
       ·simp only [Act.put, List.setIfInBounds_toArray, List.set_cons_zero, List.set_cons_succ, i64_w, i32_w]
        rfl
       refine pure_ (i := 1) (N := some 35) (v := ?_) (a' := ?_) #[true, true, false, false, false, false, false, false, false, false, false, false, false, false] rfl rfl (by kernel_rfl) (fun _ _ _ h => h) (Or.inl ⟨by rfl, ?_⟩) ?_ ?_
       rotate_left
       ·intro w'
        go_simp
        with_reducible rfl
       rotate_left
       ·simp only [Act.put, List.setIfInBounds_toArray, List.set_cons_zero, List.set_cons_succ, i64_w, i32_w]
        rfl
       refine pure_ (i := 2) (N := some 36) (v := ?_) (a' := ?_) #[true, true, true, false, false, false, false, false, false, false, false, false, false, false] rfl rfl (by kernel_rfl) (fun _ _ _ h => h) (Or.inl ⟨by rfl, ?_⟩) ?_ ?_
       rotate_left
       ·intro w'
        go_simp
        with_reducible rfl
       rotate_left
       ·simp only [Act.put, List.setIfInBounds_toArray, List.set_cons_zero, List.set_cons_succ, i64_w, i32_w]
        rfl
       refine pure_ (i := 3) (N := some 37) (v := ?_) (a' := ?_) #[true, true, true, true, false, false, false, false, false, false, false, false, false, false] rfl rfl (by kernel_rfl) (fun _ _ _ h => h) (Or.inl ⟨by rfl, ?_⟩) ?_ ?_
       rotate_left
       ·intro w'
        go_simp
        with_reducible rfl
       rotate_left
       ·simp only [Act.put, List.setIfInBounds_toArray, List.set_cons_zero, List.set_cons_succ, i64_w, i32_w]
        rfl
       refine pure_ (i := 4) (N := some 38) (v := ?_) (a' := ?_) #[true, true, true, true, true, false, false, false, false, false, false, false, false, false] rfl rfl (by kernel_rfl) (fun _ _ _ h => h) (Or.inl ⟨by rfl, ?_⟩) ?_ ?_
       rotate_left
       ·intro w'
        go_simp
        with_reducible rfl
       rotate_left
       ·simp only [Act.put, List.setIfInBounds_toArray, List.set_cons_zero, List.set_cons_succ, i64_w, i32_w]
        rfl
       refine pure_ (i := 5) (N := some 39) (v := ?_) (a' := ?_) #[true, true, true, true, true, true, false, false, false, false, false, false, false, false] rfl rfl (by kernel_rfl) (fun _ _ _ h => h) (Or.inl ⟨by rfl, ?_⟩) ?_ ?_
       rotate_left
       ·intro w'
        go_simp
        with_reducible rfl
       rotate_left
       ·simp only [Act.put, List.setIfInBounds_toArray, List.set_cons_zero, List.set_cons_succ, i64_w, i32_w]
        rfl
       refine pure_ (i := 7) (N := some 41) (v := ?_) (a' := ?_) #[true, true, true, true, true, true, false, true, false, false, false, false, false, false] rfl rfl (by kernel_rfl) (fun _ _ _ h => h) (Or.inl ⟨by rfl, ?_⟩) ?_ ?_
       rotate_left
       ·intro w'
        go_simp
        with_reducible rfl
       rotate_left
       ·simp only [Act.put, List.setIfInBounds_toArray, List.set_cons_zero, List.set_cons_succ, i64_w, i32_w]
        rfl
       refine pure_ (i := 8) (N := some 42) (v := ?_) (a' := ?_) #[true, true, true, true, true, true, false, true, true, false, false, false, false, false] rfl rfl (by kernel_rfl) (fun _ _ _ h => h) (Or.inl ⟨by rfl, ?_⟩) ?_ ?_
       rotate_left
       ·intro w'
        go_simp
        with_reducible rfl
       rotate_left
       ·simp only [Act.put, List.setIfInBounds_toArray, List.set_cons_zero, List.set_cons_succ, i64_w, i32_w]
        rfl
       refine pure_ (i := 9) (N := some 43) (v := ?_) (a' := ?_) #[true, true, true, true, true, true, false, true, true, true, false, false, false, false] rfl rfl (by kernel_rfl) (fun _ _ _ h => h) (Or.inl ⟨by rfl, ?_⟩) ?_ ?_
       rotate_left
       ·intro w'
        go_simp
        with_reducible rfl
       rotate_left
       ·simp only [Act.put, List.setIfInBounds_toArray, List.set_cons_zero, List.set_cons_succ, i64_w, i32_w]
        rfl
       refine take_ (i := 6) (N := some 40) (v := .slice A1 x.length c1) (a' := ?_) #[true, true, true, true, true, true, true, true, true, true, false, false, false, false] rfl rfl (by kernel_rfl) (fun _ _ _ h => h) (Or.inl ⟨by rfl, ?_⟩) hHeld ?_ ?_
       ·intro w' s0
        exact y_cell (by rfl) (by rfl) oneM (HCA.out _ s0)
       rotate_left
       ·simp only [Act.put, List.setIfInBounds_toArray, List.set_cons_zero, List.set_cons_succ, i64_w, i32_w]
        rfl
       refine take_ (i := 10) (N := some 44) (v := .slice A2 y.length c2) (a' := ?_) #[true, true, true, true, true, true, true, true, true, true, true, false, false, false] rfl rfl (by kernel_rfl) (fun _ _ _ h => h) (Or.inl ⟨by rfl, ?_⟩) hHeld ?_ ?_
       ·intro w' s0
        exact y_cell (by rfl) (by rfl) oneM (HCB.out _ s0)
       rotate_left
       ·simp only [Act.put, List.setIfInBounds_toArray, List.set_cons_zero, List.set_cons_succ, i64_w, i32_w]
        rfl
       refine one_ (i := 11) (N := some 45) #[true, true, true, true, true, true, true, true, true, true, true, true, false, false] rfl rfl (by kernel_rfl) (by decide) (fun K hK => ?_)
       refine goes_ Try.func67 (by kernel_rfl) rfl #[.slice A1 x.length c1, .slice A2 y.length c2] (by rfl) rfl rfl (by simp only [List.map_toArray, List.map_cons, List.map_nil]; rfl) ?_
       refine (HSS.out _ hHeld).mono ?_
       rintro e w6 ⟨rfl, h6⟩
       refine ⟨_, rfl, ?_⟩
       refine hK.out _ _ (hHeld.trans (h6.below.mono hHeld.size)) (fun hHeld => ?_)
       clear hK K
       refine norm_ (a' := ?_) ?_ ?_
       rotate_left
       ·show Act.put _ (some 45) _ = _
        simp only [Act.put, List.setIfInBounds_toArray, List.set_cons_zero, List.set_cons_succ, i64_w, i32_w]
        rfl
       refine pure_ (i := 12) (N := some 46) (v := ?_) (a' := ?_) #[true, true, true, true, true, true, true, true, true, true, true, true, true, false] rfl rfl (by kernel_rfl) (fun _ _ _ h => h) (Or.inl ⟨by rfl, ?_⟩) ?_ ?_
       rotate_left
       ·intro w'
        go_simp
        with_reducible rfl
       rotate_left
       ·simp only [Act.put, List.setIfInBounds_toArray, List.set_cons_zero, List.set_cons_succ, i64_w, i32_w]
        rfl
       refine pure_ (i := 13) (N := some 47) (v := ?_) (a' := ?_) #[true, true, true, true, true, true, true, true, true, true, true, true, true, true] rfl rfl (by kernel_rfl) (fun _ _ _ h => h) (Or.inl ⟨by rfl, ?_⟩) ?_ ?_
       rotate_left
       ·intro w'
        go_simp
        with_reducible rfl
       rotate_left
       ·simp only [Act.put, List.setIfInBounds_toArray, List.set_cons_zero, List.set_cons_succ, i64_w, i32_w]
        rfl
       refine done_ (by kernel_rfl) ?_
       skip
       have HB6 := Aside0.mk hHeld
       clear hHeld
       go_wp2_with fail
       go_roundw
       case rel => exact ⟨i + 1, by omega, by go_num, ⟨HP.out.below HB6.out⟩, ⟨by rw [HW.out]; exact Kd.R_below HRO.out HB6.out⟩, ⟨Kd.S_below HSA.out HB6.out⟩, ⟨Kd.S_below HSB.out HB6.out⟩⟩
       case measure => simp [intOf]; omega
      | false =>
       simp only [Bool.not_false, if_true] at HW
       go_wp2_with (first
        | (go_at_call 49; refine (HF.out g2 _ HP.out.two HP.out.bel).mono ?_; rintro e w5 ⟨rfl, h5⟩; have HB5 := Aside0.mk h5; clear h5))
       refine start_ (n := 14) (S := fun w' => Below wr.heap.size wr w') (ds := []) #[false, false, false, false, false, false, false, false, false, false, false, false, false, false] (by kernel_rfl) rfl rfl (below_drew1 HB5.out) (fun hHeld => ?_)
       refine pure_ (i := 0) (N := some 34) (v := ?_) (a' := ?_) #[true, false, false, false, false, false, false, false, false, false, false, false, false, false] rfl rfl (by kernel_rfl) (fun _ _ _ h => h) (Or.inl ⟨by rfl, ?_⟩) ?_ ?_
       rotate_left
       ·intro w'
        go_simp
        with_reducible rfl
       rotate_left
       ·simp only [Act.put, List.setIfInBounds_toArray, List.set_cons_zero, List.set_cons_succ, i64_w, i32_w]
        rfl
       refine pure_ (i := 1) (N := some 35) (v := ?_) (a' := ?_) #[true, true, false, false, false, false, false, false, false, false, false, false, false, false] rfl rfl (by kernel_rfl) (fun _ _ _ h => h) (Or.inl ⟨by rfl, ?_⟩) ?_ ?_
       rotate_left
       ·intro w'
        go_simp
        with_reducible rfl
       rotate_left
       ·simp only [Act.put, List.setIfInBounds_toArray, List.set_cons_zero, List.set_cons_succ, i64_w, i32_w]
        rfl
       refine pure_ (i := 2) (N := some 36) (v := ?_) (a' := ?_) #[true, true, true, false, false, false, false, false, false, false, false, false, false, false] rfl rfl (by kernel_rfl) (fun _ _ _ h => h) (Or.inl ⟨by rfl, ?_⟩) ?_ ?_
       rotate_left
       ·intro w'
        go_simp
        with_reducible rfl
       rotate_left
       ·simp only [Act.put, List.setIfInBounds_toArray, List.set_cons_zero, List.set_cons_succ, i64_w, i32_w]
        rfl
       refine pure_ (i := 3) (N := some 37) (v := ?_) (a' := ?_) #[true, true, true, true, false, false, false, false, false, false, false, false, false, false] rfl rfl (by kernel_rfl) (fun _ _ _ h => h) (Or.inl ⟨by rfl, ?_⟩) ?_ ?_
       rotate_left
       ·intro w'
        go_simp
        with_reducible rfl
       rotate_left
       ·simp only [Act.put, List.setIfInBounds_toArray, List.set_cons_zero, List.set_cons_succ, i64_w, i32_w]
        rfl
       refine pure_ (i := 4) (N := some 38) (v := ?_) (a' := ?_) #[true, true, true, true, true, false, false, false, false, false, false, false, false, false] rfl rfl (by kernel_rfl) (fun _ _ _ h => h) (Or.inl ⟨by rfl, ?_⟩) ?_ ?_
       rotate_left
       ·intro w'
        go_simp
        with_reducible rfl
       rotate_left
       ·simp only [Act.put, List.setIfInBounds_toArray, List.set_cons_zero, List.set_cons_succ, i64_w, i32_w]
        rfl
       refine pure_ (i := 5) (N := some 39) (v := ?_) (a' := ?_) #[true, true, true, true, true, true, false, false, false, false, false, false, false, false] rfl rfl (by kernel_rfl) (fun _ _ _ h => h) (Or.inl ⟨by rfl, ?_⟩) ?_ ?_
       rotate_left
       ·intro w'
        go_simp
        with_reducible rfl
       rotate_left
       ·simp only [Act.put, List.setIfInBounds_toArray, List.set_cons_zero, List.set_cons_succ, i64_w, i32_w]
        rfl
       refine pure_ (i := 7) (N := some 41) (v := ?_) (a' := ?_) #[true, true, true, true, true, true, false, true, false, false, false, false, false, false] rfl rfl (by kernel_rfl) (fun _ _ _ h => h) (Or.inl ⟨by rfl, ?_⟩) ?_ ?_
       rotate_left
       ·intro w'
        go_simp
        with_reducible rfl
       rotate_left
       ·simp only [Act.put, List.setIfInBounds_toArray, List.set_cons_zero, List.set_cons_succ, i64_w, i32_w]
        rfl
       refine pure_ (i := 8) (N := some 42) (v := ?_) (a' := ?_) #[true, true, true, true, true, true, false, true, true, false, false, false, false, false] rfl rfl (by kernel_rfl) (fun _ _ _ h => h) (Or.inl ⟨by rfl, ?_⟩) ?_ ?_
       rotate_left
       ·intro w'
        go_simp
        with_reducible rfl
       rotate_left
       ·simp only [Act.put, List.setIfInBounds_toArray, List.set_cons_zero, List.set_cons_succ, i64_w, i32_w]
        rfl
       refine pure_ (i := 9) (N := some 43) (v := ?_) (a' := ?_) #[true, true, true, true, true, true, false, true, true, true, false, false, false, false] rfl rfl (by kernel_rfl) (fun _ _ _ h => h) (Or.inl ⟨by rfl, ?_⟩) ?_ ?_
       rotate_left
       ·intro w'
        go_simp
        with_reducible rfl
       rotate_left
       ·simp only [Act.put, List.setIfInBounds_toArray, List.set_cons_zero, List.set_cons_succ, i64_w, i32_w]
        rfl
       refine take_ (i := 6) (N := some 40) (v := .slice A1 x.length c1) (a' := ?_) #[true, true, true, true, true, true, true, true, true, true, false, false, false, false] rfl rfl (by kernel_rfl) (fun _ _ _ h => h) (Or.inl ⟨by rfl, ?_⟩) hHeld ?_ ?_
       ·intro w' s0
        exact y_cell (by rfl) (by rfl) oneM (HCA.out _ s0)
       rotate_left
       ·simp only [Act.put, List.setIfInBounds_toArray, List.set_cons_zero, List.set_cons_succ, i64_w, i32_w]
        rfl
       refine take_ (i := 10) (N := some 44) (v := .slice A2 y.length c2) (a' := ?_) #[true, true, true, true, true, true, true, true, true, true, true, false, false, false] rfl rfl (by kernel_rfl) (fun _ _ _ h => h) (Or.inl ⟨by rfl, ?_⟩) hHeld ?_ ?_
       ·intro w' s0
        exact y_cell (by rfl) (by rfl) oneM (HCB.out _ s0)
       rotate_left
       ·simp only [Act.put, List.setIfInBounds_toArray, List.set_cons_zero, List.set_cons_succ, i64_w, i32_w]
        rfl
       refine one_ (i := 11) (N := some 45) #[true, true, true, true, true, true, true, true, true, true, true, true, false, false] rfl rfl (by kernel_rfl) (by decide) (fun K hK => ?_)
       refine goes_ Try.func67 (by kernel_rfl) rfl #[.slice A1 x.length c1, .slice A2 y.length c2] (by rfl) rfl rfl (by simp only [List.map_toArray, List.map_cons, List.map_nil]; rfl) ?_
       refine (HSS.out _ hHeld).mono ?_
       rintro e w6 ⟨rfl, h6⟩
       refine ⟨_, rfl, ?_⟩
       refine hK.out _ _ (hHeld.trans (h6.below.mono hHeld.size)) (fun hHeld => ?_)
       clear hK K
       refine norm_ (a' := ?_) ?_ ?_
       rotate_left
       ·show Act.put _ (some 45) _ = _
        simp only [Act.put, List.setIfInBounds_toArray, List.set_cons_zero, List.set_cons_succ, i64_w, i32_w]
        rfl
       refine pure_ (i := 12) (N := some 46) (v := ?_) (a' := ?_) #[true, true, true, true, true, true, true, true, true, true, true, true, true, false] rfl rfl (by kernel_rfl) (fun _ _ _ h => h) (Or.inl ⟨by rfl, ?_⟩) ?_ ?_
       rotate_left
       ·intro w'
        go_simp
        with_reducible rfl
       rotate_left
       ·simp only [Act.put, List.setIfInBounds_toArray, List.set_cons_zero, List.set_cons_succ, i64_w, i32_w]
        rfl
       refine pure_ (i := 13) (N := some 47) (v := ?_) (a' := ?_) #[true, true, true, true, true, true, true, true, true, true, true, true, true, true] rfl rfl (by kernel_rfl) (fun _ _ _ h => h) (Or.inl ⟨by rfl, ?_⟩) ?_ ?_
       rotate_left
       ·intro w'
        go_simp
        with_reducible rfl
       rotate_left
       ·simp only [Act.put, List.setIfInBounds_toArray, List.set_cons_zero, List.set_cons_succ, i64_w, i32_w]
        rfl
       refine done_ (by kernel_rfl) ?_
       skip
       have HB6 := Aside0.mk hHeld
       have HP6 := Aside0.mk (HP.out.below hHeld)
       clear hHeld
       go_wp2_with (first
        | ((with_reducible refine gate_builtin (b := .append) (xs := #[.tmp 48, .tmp 50]) rfl ?_); at_builtin; refine Kd.R_append (Kd.int .i64) (w0 := w) w.heap.size rfl (.tmp 48) (.tmp 50) 38 2 (.int .i64 0) 8 rfl Try.underlying38 infoI64 rfl (by decide) (by omega) u8 (movW pa pb Oa Ob i) (i : Int) [.int .i64 (i : Int)] (fun k => k ≠ g ∧ k ≠ g2) (fun _ => False) rfl rfl rfl (fun _ hk => hk.elim) (fun k hk => HP6.out.fresh hk) (Kd.R_below HRO.out HB6.out) HP6.out.bel HP6.out.bel.size (by have := HL.out; omega) ?_; intro v7 w7 ho7 hb7 hg7 hat7; have HO7 := Aside0.mk ho7; have HP7 := Aside0.mk (HP6.out.grown hg7 (Kd.R_away HRO.out (fun k hk => hk.1)) (Kd.R_away HRO.out (fun k hk => hk.2)) hb7); have HSA7 := Aside0.mk (Kd.S_after (Kd.S_below HSA.out HB6.out) hg7 hat7); have HSB7 := Aside0.mk (Kd.S_after (Kd.S_below HSB.out HB6.out) hg7 hat7); clear ho7 hb7 hg7 hat7))
       go_roundw
       case rel => exact ⟨i + 1, by omega, by go_num, HP7, ⟨by rw [HW.out]; exact HO7.out⟩, HSA7, HSB7⟩
       case measure => simp [intOf]; omega
     ·have hf1 : decide (f ≥ 0) = false := decide_eq_false hf
      have hf2 : ¬ (0 ≤ f) := hf
      have HMV2 := Aside0.mk (show movB pa pb Oa Ob i = false by rw [HMV.out, decide_eq_false hf]; rfl)
      rw [HMV2.out] at HW
      simp only [Bool.false_eq_true, if_false, List.append_nil] at HW
      clear HMV HMV2 hfl
      go_wp2_with (first
       | (go_at_call 49; refine (HF.out g2 _ HP.out.two HP.out.bel).mono ?_; rintro e w5 ⟨rfl, h5⟩; have HB5 := Aside0.mk h5; clear h5))
      refine start_ (n := 14) (S := fun w' => Below wr.heap.size wr w') (ds := []) #[false, false, false, false, false, false, false, false, false, false, false, false, false, false] (by kernel_rfl) rfl rfl (below_drew1 HB5.out) (fun hHeld => ?_)
      refine pure_ (i := 0) (N := some 34) (v := ?_) (a' := ?_) #[true, false, false, false, false, false, false, false, false, false, false, false, false, false] rfl rfl (by kernel_rfl) (fun _ _ _ h => h) (Or.inl ⟨by rfl, ?_⟩) ?_ ?_
      rotate_left
      ·intro w'
       go_simp
       with_reducible rfl
      rotate_left
      ·simp only [Act.put, List.setIfInBounds_toArray, List.set_cons_zero, List.set_cons_succ, i64_w, i32_w]
       rfl
      refine pure_ (i := 1) (N := some 35) (v := ?_) (a' := ?_) #[true, true, false, false, false, false, false, false, false, false, false, false, false, false] rfl rfl (by kernel_rfl) (fun _ _ _ h => h) (Or.inl ⟨by rfl, ?_⟩) ?_ ?_
      rotate_left
      ·intro w'
       go_simp
       with_reducible rfl
      rotate_left
      ·simp only [Act.put, List.setIfInBounds_toArray, List.set_cons_zero, List.set_cons_succ, i64_w, i32_w]
       rfl
      refine pure_ (i := 2) (N := some 36) (v := ?_) (a' := ?_) #[true, true, true, false, false, false, false, false, false, false, false, false, false, false] rfl rfl (by kernel_rfl) (fun _ _ _ h => h) (Or.inl ⟨by rfl, ?_⟩) ?_ ?_
      rotate_left
      ·intro w'
       go_simp
       with_reducible rfl
      rotate_left
      ·simp only [Act.put, List.setIfInBounds_toArray, List.set_cons_zero, List.set_cons_succ, i64_w, i32_w]
       rfl
      refine pure_ (i := 3) (N := some 37) (v := undef) (a' := ?_) #[true, true, true, true, false, false, false, false, false, false, false, false, false, false] rfl rfl (by kernel_rfl) (fun _ _ _ h => h) (Or.inr ⟨by rfl, rfl⟩) ?_ ?_
      rotate_left
      ·simp only [Act.put, List.setIfInBounds_toArray, List.set_cons_zero, List.set_cons_succ, i64_w, i32_w]
       rfl
      refine pure_ (i := 4) (N := some 38) (v := undef) (a' := ?_) #[true, true, true, true, true, false, false, false, false, false, false, false, false, false] rfl rfl (by kernel_rfl) (fun _ _ _ h => h) (Or.inr ⟨by rfl, rfl⟩) ?_ ?_
      rotate_left
      ·simp only [Act.put, List.setIfInBounds_toArray, List.set_cons_zero, List.set_cons_succ, i64_w, i32_w]
       rfl
      refine pure_ (i := 5) (N := some 39) (v := undef) (a' := ?_) #[true, true, true, true, true, true, false, false, false, false, false, false, false, false] rfl rfl (by kernel_rfl) (fun _ _ _ h => h) (Or.inr ⟨by rfl, rfl⟩) ?_ ?_
      rotate_left
      ·simp only [Act.put, List.setIfInBounds_toArray, List.set_cons_zero, List.set_cons_succ, i64_w, i32_w]
       rfl
      refine pure_ (i := 6) (N := some 40) (v := undef) (a' := ?_) #[true, true, true, true, true, true, true, false, false, false, false, false, false, false] rfl rfl (by kernel_rfl) (fun _ _ _ h => h) (Or.inr ⟨by rfl, rfl⟩) ?_ ?_
      rotate_left
      ·simp only [Act.put, List.setIfInBounds_toArray, List.set_cons_zero, List.set_cons_succ, i64_w, i32_w]
       rfl
      refine pure_ (i := 7) (N := some 41) (v := undef) (a' := ?_) #[true, true, true, true, true, true, true, true, false, false, false, false, false, false] rfl rfl (by kernel_rfl) (fun _ _ _ h => h) (Or.inr ⟨by rfl, rfl⟩) ?_ ?_
      rotate_left
      ·simp only [Act.put, List.setIfInBounds_toArray, List.set_cons_zero, List.set_cons_succ, i64_w, i32_w]
       rfl
      refine pure_ (i := 8) (N := some 42) (v := undef) (a' := ?_) #[true, true, true, true, true, true, true, true, true, false, false, false, false, false] rfl rfl (by kernel_rfl) (fun _ _ _ h => h) (Or.inr ⟨by rfl, rfl⟩) ?_ ?_
      rotate_left
      ·simp only [Act.put, List.setIfInBounds_toArray, List.set_cons_zero, List.set_cons_succ, i64_w, i32_w]
       rfl
      refine pure_ (i := 9) (N := some 43) (v := undef) (a' := ?_) #[true, true, true, true, true, true, true, true, true, true, false, false, false, false] rfl rfl (by kernel_rfl) (fun _ _ _ h => h) (Or.inr ⟨by rfl, rfl⟩) ?_ ?_
      rotate_left
      ·simp only [Act.put, List.setIfInBounds_toArray, List.set_cons_zero, List.set_cons_succ, i64_w, i32_w]
       rfl
      refine pure_ (i := 10) (N := some 44) (v := undef) (a' := ?_) #[true, true, true, true, true, true, true, true, true, true, true, false, false, false] rfl rfl (by kernel_rfl) (fun _ _ _ h => h) (Or.inr ⟨by rfl, rfl⟩) ?_ ?_
      rotate_left
      ·simp only [Act.put, List.setIfInBounds_toArray, List.set_cons_zero, List.set_cons_succ, i64_w, i32_w]
       rfl
      refine pure_ (i := 11) (N := some 45) (v := undef) (a' := ?_) #[true, true, true, true, true, true, true, true, true, true, true, true, false, false] rfl rfl (by kernel_rfl) (fun _ _ _ h => h) (Or.inr ⟨by rfl, rfl⟩) ?_ ?_
      rotate_left
      ·simp only [Act.put, List.setIfInBounds_toArray, List.set_cons_zero, List.set_cons_succ, i64_w, i32_w]
       rfl
      refine pure_ (i := 12) (N := some 46) (v := undef) (a' := ?_) #[true, true, true, true, true, true, true, true, true, true, true, true, true, false] rfl rfl (by kernel_rfl) (fun _ _ _ h => h) (Or.inr ⟨by rfl, rfl⟩) ?_ ?_
      rotate_left
      ·simp only [Act.put, List.setIfInBounds_toArray, List.set_cons_zero, List.set_cons_succ, i64_w, i32_w]
       rfl
      refine pure_ (i := 13) (N := some 47) (v := ?_) (a' := ?_) #[true, true, true, true, true, true, true, true, true, true, true, true, true, true] rfl rfl (by kernel_rfl) (fun _ _ _ h => h) (Or.inl ⟨by rfl, ?_⟩) ?_ ?_
      rotate_left
      ·intro w'
       go_simp
       with_reducible rfl
      rotate_left
      ·simp only [Act.put, List.setIfInBounds_toArray, List.set_cons_zero, List.set_cons_succ, i64_w, i32_w]
       rfl
      refine done_ (by kernel_rfl) ?_
      skip
      have HB6 := Aside0.mk hHeld
      clear hHeld
      go_wp2_with fail
      go_roundw
      case rel => exact ⟨i + 1, by omega, by go_num, ⟨HP.out.below HB6.out⟩, ⟨by rw [HW.out]; exact Kd.R_below HRO.out HB6.out⟩, ⟨Kd.S_below HSA.out HB6.out⟩, ⟨Kd.S_below HSB.out HB6.out⟩⟩
      case measure => simp [intOf]; omega
    ·obtain rfl : i = pa.length := by omega
     go_wp2_with fail
     go_ret2
     exact ⟨_, rfl, Kd.R_mono HRO.out (fun _ _ => trivial), HP.out.bel⟩
end Go.Proofs.Ytckpfodpfplaeaa.Arr
namespace Go.Proofs.Ytckpfodpfplaeaa.Arr
open Go.RowKit Go.Proofs.YtckpfodpfplaeaaW.PrintWords Go.Proofs.YtckpfodpfplaeaaW.PrintLast Go.Proofs.YtckpfodpfplaeaaW.PrintMore Go.Proofs.Ytckpfodpfplaeaa.U Go.Proofs.Ytckpfodpfplaeaa.D
set_option linter.unusedVariables false
set_option linter.unusedSimpArgs false
section
variable {P : Program} {ops : Array Oper} {rest : List Oper} {o : Oper} {a : Act} {Q : Exit → Act → World → Prop}
theorem event_on {W w1 : World} {v : Value} (hw : Region.wanted o (yielded ops a.tmps) = true) (hrun : (execOp a.eval o).run P W = .ok (.value v) w1) (h : wpList P ops Q rest (a.put o.dst v) w1) : wpList P ops Q (o :: rest) a W :=
 BigFrame.wpList_want hw fun K hK => by
  unfold Oper.wp
  rw [hrun]
  exact hK _ _ h
end
theorem S_apartR {α : Type} {d : Kd α} {e base b : Nat} {w : World} {ok ok' : Nat → Prop} {u v : Value} {xs : List α} {ys : List Int} (h : Kd.S d e w base ok u xs) (hR : Kd.R (Kd.int .i64) 2 w b ok' v ys) (ht : ∀ q, q ∈ e :: d.E → q ≠ 2) : Kd.S d e w base (fun k => ok k ∧ some k ≠ v.ownBlock) u xs := by
 rcases (Kd.own_of_R hR).2 with ⟨rfl, _⟩ | ⟨g, cap, cur, rfl, _, hb, _⟩
 ·exact Kd.S_apart_nil h
 ·exact Kd.S_mono (Kd.S_types h hb ht) (fun k hk => ⟨hk.1, by simp [Value.ownBlock]; exact hk.2⟩)
theorem typesM : ∀ q, q ∈ 47 :: kM.E → q ≠ 2 := by
 intro q hq
 simp [kM, Kd.slice, Kd.int, Kd.scalar] at hq
 omega
set_option maxHeartbeats 8000000 in
set_option maxRecDepth 100000 in
theorem implMovedPhrases_calls (aK aL aS : Int) (A3 : Option Addr) (c3 : Nat) (pa : List ByteArray) (bK bL bS : Int) (A4 : Option Addr) (c4 : Nat) (pb : List ByteArray) (w : World) (hpa : BookP aK aL aS pa) (hpb : BookP bK bL bS pb) (hra : Kd.C Kd.string w A3 pa.length pa) (hca : pa.length ≤ c3) (hrb : Kd.C Kd.string w A4 pb.length pb) (hcb : pb.length ≤ c4) :
  Calls Try.prog 24 #[.agg #[.int .i8 aK, .int .i8 aL, .int .i8 aS, .slice A3 pa.length c3], .agg #[.int .i8 bK, .int .i8 bL, .int .i8 bS, .slice A4 pb.length c4]] w fun e w' => ∃ v0_ : Value, e = .returned (.tuple #[v0_, .int .i64 (movesW aK aL aS pa bK bL bS pb).2]) ∧ Kd.R (Kd.int .i64) 2 w' w.heap.size (fun _ => True) v0_ (movesW aK aL aS pa bK bL bS pb).1 ∧ Below w.heap.size w w' := by
 have hm := Mem.start w
 have hu := Try.underlying27
 have HOA := Aside0.mk (fun W (hW : Below w.heap.size w W) => validBook_calls aK aL aS A3 c3 pa W hpa (Kd.C_below hra hW) hca)
 have HOB := Aside0.mk (fun W (hW : Below w.heap.size w W) => validBook_calls bK bL bS A4 c4 pb W hpb (Kd.C_below hrb hW) hcb)
 have HRA := Aside0.mk hra
 have HRB := Aside0.mk hrb
 unfold movesW
 cases hka : okBook aK aL aS pa with
 | false =>
  rw [hka] at HOA
  clear hka hpa hpb hra hrb
  go_enter Try.func24, Try.ntmps24
  go_wp2_with (first
   | ((with_reducible refine gt_box 2 27 ?_); refine st_box rfl 2 rfl 27 _ rfl hm rfl (cs := #[.int .i8 aK, .int .i8 aL, .int .i8 aS, .slice A3 pa.length c3]) rfl ?_; clear hm; intro g w1 hm)
   | ((with_reducible refine gt_box 3 27 ?_); refine st_box rfl 3 rfl 27 _ rfl hm rfl (cs := #[.int .i8 bK, .int .i8 bL, .int .i8 bS, .slice A4 pb.length c4]) rfl ?_; clear hm; intro g2 w2 hm; have HP := Aside0.mk (start5 hm); clear hm)
   | ((with_reducible refine gt_load 27 ?_); refine event_on (by rfl) (y_row (by rfl) (by rfl) HP5.out.two aggBook rfl) ?_)
   | ((with_reducible refine gt_load 27 ?_); refine Kd.event_run rfl (y_row (by rfl) (by rfl) HP.out.one aggBook rfl) ?_)
   | (go_at_call 53; (with_reducible refine (HOB.out _ HP5.out.bel).mono ?_); rintro e w6 ⟨rfl, h1⟩; have HP6 := Aside0.mk (HP5.out.below h1); clear h1)
   | (go_at_call 53; (with_reducible refine (HOA.out _ HP.out.bel).mono ?_); rintro e w5 ⟨rfl, h1⟩; have HP5 := Aside0.mk (HP.out.below h1); clear h1))
  go_ret2
  exact ⟨_, rfl, Kd.R_nil _ _ _ _ _, HP5.out.bel⟩
 | true =>
  rw [hka] at HOA
  cases hkb : okBook bK bL bS pb with
  | false =>
   rw [hkb] at HOB
   clear hka hkb hpa hpb hra hrb
   go_enter Try.func24, Try.ntmps24
   go_wp2_with (first
    | ((with_reducible refine gt_box 2 27 ?_); refine st_box rfl 2 rfl 27 _ rfl hm rfl (cs := #[.int .i8 aK, .int .i8 aL, .int .i8 aS, .slice A3 pa.length c3]) rfl ?_; clear hm; intro g w1 hm)
    | ((with_reducible refine gt_box 3 27 ?_); refine st_box rfl 3 rfl 27 _ rfl hm rfl (cs := #[.int .i8 bK, .int .i8 bL, .int .i8 bS, .slice A4 pb.length c4]) rfl ?_; clear hm; intro g2 w2 hm; have HP := Aside0.mk (start5 hm); clear hm)
    | ((with_reducible refine gt_load 27 ?_); refine event_on (by rfl) (y_row (by rfl) (by rfl) HP5.out.two aggBook rfl) ?_)
    | ((with_reducible refine gt_load 27 ?_); refine Kd.event_run rfl (y_row (by rfl) (by rfl) HP.out.one aggBook rfl) ?_)
    | (go_at_call 53; (with_reducible refine (HOB.out _ HP5.out.bel).mono ?_); rintro e w6 ⟨rfl, h1⟩; have HP6 := Aside0.mk (HP5.out.below h1); clear h1)
    | (go_at_call 53; (with_reducible refine (HOA.out _ HP.out.bel).mono ?_); rintro e w5 ⟨rfl, h1⟩; have HP5 := Aside0.mk (HP.out.below h1); clear h1))
   go_ret2
   exact ⟨_, rfl, Kd.R_nil _ _ _ _ _, HP6.out.bel⟩
  | true =>
   rw [hkb] at HOB
   have hia := okBook_in hka
   have hib := okBook_in hkb
   have hola := outL_le aK.toNat aS.toNat (by omega) aL.toNat (by omega)
   have hsma := outL_small8 hka
   obtain ⟨aK, rfl⟩ := Int.eq_ofNat_of_zero_le (show 0 ≤ aK by omega)
   obtain ⟨aL, rfl⟩ := Int.eq_ofNat_of_zero_le (show 0 ≤ aL by omega)
   obtain ⟨aS, rfl⟩ := Int.eq_ofNat_of_zero_le (show 0 ≤ aS by omega)
   obtain ⟨bK, rfl⟩ := Int.eq_ofNat_of_zero_le (show 0 ≤ bK by omega)
   obtain ⟨bL, rfl⟩ := Int.eq_ofNat_of_zero_le (show 0 ≤ bL by omega)
   obtain ⟨bS, rfl⟩ := Int.eq_ofNat_of_zero_le (show 0 ≤ bS by omega)
   simp only [Int.toNat_natCast] at hia hib hola hsma ⊢
   have HMA := Aside0.mk (fun W => implMeanings_calls aK aL aS A3 pa.length c3 W (by omega) (by omega) (by omega) (by omega))
   have HMB := Aside0.mk (fun W => implMeanings_calls bK bL bS A4 pb.length c4 W (by omega) (by omega) (by omega) (by omega))
   have HSM := Aside0.mk (fun x (hx : x ∈ outL aK aS aL) => (hsma x hx).1)
   have hna : pa.length ≤ 100 := hia.2.1
   have hla := hia.2.2
   have hlb := hib.2.2
   have HFI : Aside0 (∀ s W, Below w.heap.size w W → Calls Try.prog 68 #[.slice A4 pb.length c4, .string s] W fun e w' => e = .returned (.int .i64 (fnd pb s)) ∧ Below W.heap.size W w') := ⟨fun s W hW => by
    obtain ⟨k, hk⟩ := (index_ev pb s (by have := hib.2.1; omega)).rounds
    refine (slices_Index_string_string.calls k A4 c4 pb s _ W (Kd.C_below hrb hW) hcb hk).mono ?_
    rintro e w' ⟨rfl, h⟩
    exact ⟨rfl, h.below⟩⟩
   clear hka hkb hpa hpb hra hrb hia hib hola hsma
   simp only [if_true]
   generalize outL aK aS aL = Oa at *
   generalize outL bK bS bL = Ob at *
   go_enter Try.func24, Try.ntmps24
   go_wp2_with (first
    | ((with_reducible refine gt_box 2 27 ?_); refine st_box rfl 2 rfl 27 _ rfl hm rfl (cs := #[.int .i8 (aK : Int), .int .i8 (aL : Int), .int .i8 (aS : Int), .slice A3 pa.length c3]) rfl ?_; clear hm; intro g w1 hm)
    | ((with_reducible refine gt_box 3 27 ?_); refine st_box rfl 3 rfl 27 _ rfl hm rfl (cs := #[.int .i8 (bK : Int), .int .i8 (bL : Int), .int .i8 (bS : Int), .slice A4 pb.length c4]) rfl ?_; clear hm; intro g2 w2 hm; have HP := Aside0.mk (start5 hm); clear hm)
    | ((with_reducible refine gt_load 27 ?_); refine event_on (by rfl) (y_row (by rfl) (by rfl) HP5.out.two aggBook rfl) ?_)
    | ((with_reducible refine gt_load 27 ?_); refine Kd.event_run rfl (y_row (by rfl) (by rfl) HP.out.one aggBook rfl) ?_)
    | (go_at_call 53; (with_reducible refine (HOB.out _ HP5.out.bel).mono ?_); rintro e w6 ⟨rfl, h1⟩; have HP6 := Aside0.mk (HP5.out.below h1); clear h1)
    | (go_at_call 53; (with_reducible refine (HOA.out _ HP.out.bel).mono ?_); rintro e w5 ⟨rfl, h1⟩; have HP5 := Aside0.mk (HP.out.below h1); clear h1))
   refine start_ (n := 8) (S := fun w' => Pair w g g2 #[.int .i8 (aK : Int), .int .i8 (aL : Int), .int .i8 (aS : Int), .slice A3 pa.length c3] #[.int .i8 (bK : Int), .int .i8 (bL : Int), .int .i8 (bS : Int), .slice A4 pb.length c4] w') (ds := []) #[false, false, false, false, false, false, false, false] (by kernel_rfl) rfl rfl (HP6.out.drew) (fun hHeld => ?_)
   refine take_ (i := 0) (N := some 20) (v := .agg #[.int .i8 (aK : Int), .int .i8 (aL : Int), .int .i8 (aS : Int), .slice A3 pa.length c3]) (a' := ?_) #[true, false, false, false, false, false, false, false] rfl rfl (by kernel_rfl) (fun _ _ _ h => h) (Or.inl ⟨by rfl, ?_⟩) hHeld ?_ ?_
   ·intro w' s0
    exact y_row (by rfl) (by rfl) s0.one aggBook rfl
   rotate_left
   ·simp only [Act.put, List.setIfInBounds_toArray, List.set_cons_zero, List.set_cons_succ, i64_w, i32_w]
    rfl
   refine take_ (i := 2) (N := some 22) (v := .agg #[.int .i8 (bK : Int), .int .i8 (bL : Int), .int .i8 (bS : Int), .slice A4 pb.length c4]) (a' := ?_) #[true, false, true, false, false, false, false, false] rfl rfl (by kernel_rfl) (fun _ _ _ h => h) (Or.inl ⟨by rfl, ?_⟩) hHeld ?_ ?_
   ·intro w' s0
    exact y_row (by rfl) (by rfl) s0.two aggBook rfl
   rotate_left
   ·simp only [Act.put, List.setIfInBounds_toArray, List.set_cons_zero, List.set_cons_succ, i64_w, i32_w]
    rfl
   refine join_ (σ := Option Addr × Nat × Option Addr × Nat × Value) 1 #[true, true, true, true, true, true, true, false] (fun s => [(21, .slice s.1 Oa.length s.2.1), (23, .slice s.2.2.1 Ob.length s.2.2.2.1), (24, s.2.2.2.2), (6, .slice s.1 Oa.length s.2.1), (7, .slice s.2.2.1 Ob.length s.2.2.2.1)]) (fun s w' => Pair w g g2 #[.int .i8 (aK : Int), .int .i8 (aL : Int), .int .i8 (aS : Int), .slice A3 pa.length c3] #[.int .i8 (bK : Int), .int .i8 (bL : Int), .int .i8 (bS : Int), .slice A4 pb.length c4] w' ∧ Kd.S kM 47 w' w.heap.size (fun k => True ∧ some k ≠ s.2.2.2.2.ownBlock) (.slice s.1 Oa.length s.2.1) Oa ∧ Kd.S kM 47 w' w.heap.size (fun k => True ∧ some k ≠ s.2.2.2.2.ownBlock) (.slice s.2.2.1 Ob.length s.2.2.2.1) Ob ∧ Kd.R (Kd.int .i64) 2 w' w.heap.size (fun k => k ≠ g ∧ k ≠ g2) s.2.2.2.2 []) ?_ ?_
   rotate_left
   ·intro hJ
    refine two_ (i := 1) (j := 4) (Ni := some 21) (Nj := some 24) #[true, true, true, false, false, false, false, false] #[true, false, true, false, true, false, false, false] rfl rfl rfl rfl (by kernel_rfl) (by decide) (by decide) (fun K hK => ?_) (fun K hK => ?_)
    ·skip
     refine goes_ Try.func56 (by kernel_rfl) rfl #[.agg #[.int .i8 (aK : Int), .int .i8 (aL : Int), .int .i8 (aS : Int), .slice A3 pa.length c3]] (by rfl) rfl rfl (by simp only [List.map_toArray, List.map_cons, List.map_nil]; rfl) ?_
     refine (HMA.out _).mono ?_
     rintro e w7 ⟨v7, rfl, hs, h7⟩
     obtain ⟨A7, c7, rfl, _, _⟩ := Kd.S_reads hs
     have HSA := Aside0.mk (Kd.S_lower hs hHeld.bel.size)
     (try replace HSB := Aside0.mk (Kd.S_below HSB.out h7))
     (try replace HO24 := Aside0.mk (Kd.R_below HO24.out h7))
     clear hs
     refine ⟨_, rfl, ?_⟩
     refine hK.out _ _ (hHeld.below h7) (fun hHeld => ?_)
     clear hK K
     refine norm_ (a' := ?_) ?_ ?_
     rotate_left
     ·show Act.put _ (some 21) _ = _
      simp only [Act.put, List.setIfInBounds_toArray, List.set_cons_zero, List.set_cons_succ, i64_w, i32_w]
      rfl
     refine two_ (i := 3) (j := 4) (Ni := some 23) (Nj := some 24) #[true, true, true, true, false, false, false, false] #[true, true, true, false, true, false, false, false] rfl rfl rfl rfl (by kernel_rfl) (by decide) (by decide) (fun K hK => ?_) (fun K hK => ?_)
     ·skip
      refine goes_ Try.func56 (by kernel_rfl) rfl #[.agg #[.int .i8 (bK : Int), .int .i8 (bL : Int), .int .i8 (bS : Int), .slice A4 pb.length c4]] (by rfl) rfl rfl (by simp only [List.map_toArray, List.map_cons, List.map_nil]; rfl) ?_
      refine (HMB.out _).mono ?_
      rintro e w8 ⟨v8, rfl, hs, h8⟩
      obtain ⟨A8, c8, rfl, _, _⟩ := Kd.S_reads hs
      have HSB := Aside0.mk (Kd.S_lower hs hHeld.bel.size)
      (try replace HSA := Aside0.mk (Kd.S_below HSA.out h8))
      (try replace HO24 := Aside0.mk (Kd.R_below HO24.out h8))
      clear hs
      refine ⟨_, rfl, ?_⟩
      refine hK.out _ _ (hHeld.below h8) (fun hHeld => ?_)
      clear hK K
      refine norm_ (a' := ?_) ?_ ?_
      rotate_left
      ·show Act.put _ (some 23) _ = _
       simp only [Act.put, List.setIfInBounds_toArray, List.set_cons_zero, List.set_cons_succ, i64_w, i32_w]
       rfl
      refine pure_ (i := 5) (N := some 6) (v := ?_) (a' := ?_) #[true, true, true, true, false, true, false, false] rfl rfl (by kernel_rfl) (fun _ _ _ h => h) (Or.inl ⟨by rfl, ?_⟩) ?_ ?_
      rotate_left
      ·intro w'
       go_simp
       with_reducible rfl
      rotate_left
      ·simp only [Act.put, List.setIfInBounds_toArray, List.set_cons_zero, List.set_cons_succ, i64_w, i32_w]
       rfl
      refine pure_ (i := 6) (N := some 7) (v := ?_) (a' := ?_) #[true, true, true, true, false, true, true, false] rfl rfl (by kernel_rfl) (fun _ _ _ h => h) (Or.inl ⟨by rfl, ?_⟩) ?_ ?_
      rotate_left
      ·intro w'
       go_simp
       with_reducible rfl
      rotate_left
      ·simp only [Act.put, List.setIfInBounds_toArray, List.set_cons_zero, List.set_cons_succ, i64_w, i32_w]
       rfl
      refine one_ (i := 4) (N := some 24) #[true, true, true, true, true, true, true, false] rfl rfl (by kernel_rfl) (by decide) (fun K hK => ?_)
      refine Kd.R_lit_step (Kd.int .i64) (w0 := w) w.heap.size 2 (by rfl) (N := 24) rfl (xs := []) (inner := []) (ok := fun k => k ≠ g ∧ k ≠ g2) (okp := fun k => k ≠ g ∧ k ≠ g2) (by first | (go_simp; done) | (go_simp; rfl)) (Reps.none _ _) (fun _ h => h) (show _ ≠ g ∧ _ ≠ g2 from hHeld.fresh (Nat.le_refl _)) hHeld.bel hHeld.bel.size (by simp) ?_
      intro v24 w24 ho24 hb24 hg24 _
      have HO24 := Aside0.mk ho24
      (try replace HSA := Aside0.mk (Kd.S_grown HSA.out hg24 (fun _ _ => by simp)))
      (try replace HSB := Aside0.mk (Kd.S_grown HSB.out hg24 (fun _ _ => by simp)))
      clear ho24
      refine hK.out _ _ (hHeld.grown hg24 (by simp) (by simp) hb24) (fun hHeld => ?_)
      clear hK K
      refine norm_ (a' := ?_) ?_ ?_
      rotate_left
      ·show Act.put _ (some 24) _ = _
       simp only [Act.put, List.setIfInBounds_toArray, List.set_cons_zero, List.set_cons_succ, i64_w, i32_w]
       rfl
      exact norm_ (by first | (simp only [putAll, Act.put, List.setIfInBounds_toArray, List.set_cons_zero, List.set_cons_succ]; done) | (simp only [putAll, Act.put, List.setIfInBounds_toArray, List.set_cons_zero, List.set_cons_succ]; rfl)) (hJ (A7, c7, A8, c8, v24) _ ⟨hHeld, S_apartR HSA.out HO24.out typesM, S_apartR HSB.out HO24.out typesM, HO24.out⟩)
     ·skip
      refine Kd.R_lit_step (Kd.int .i64) (w0 := w) w.heap.size 2 (by rfl) (N := 24) rfl (xs := []) (inner := []) (ok := fun k => k ≠ g ∧ k ≠ g2) (okp := fun k => k ≠ g ∧ k ≠ g2) (by first | (go_simp; done) | (go_simp; rfl)) (Reps.none _ _) (fun _ h => h) (show _ ≠ g ∧ _ ≠ g2 from hHeld.fresh (Nat.le_refl _)) hHeld.bel hHeld.bel.size (by simp) ?_
      intro v24 w24 ho24 hb24 hg24 _
      have HO24 := Aside0.mk ho24
      (try replace HSA := Aside0.mk (Kd.S_grown HSA.out hg24 (fun _ _ => by simp)))
      (try replace HSB := Aside0.mk (Kd.S_grown HSB.out hg24 (fun _ _ => by simp)))
      clear ho24
      refine hK.out _ _ (hHeld.grown hg24 (by simp) (by simp) hb24) (fun hHeld => ?_)
      clear hK K
      refine norm_ (a' := ?_) ?_ ?_
      rotate_left
      ·show Act.put _ (some 24) _ = _
       simp only [Act.put, List.setIfInBounds_toArray, List.set_cons_zero, List.set_cons_succ, i64_w, i32_w]
       rfl
      refine one_ (i := 3) (N := some 23) #[true, true, true, true, true, false, false, false] rfl rfl (by kernel_rfl) (by decide) (fun K hK => ?_)
      refine goes_ Try.func56 (by kernel_rfl) rfl #[.agg #[.int .i8 (bK : Int), .int .i8 (bL : Int), .int .i8 (bS : Int), .slice A4 pb.length c4]] (by rfl) rfl rfl (by simp only [List.map_toArray, List.map_cons, List.map_nil]; rfl) ?_
      refine (HMB.out _).mono ?_
      rintro e w8 ⟨v8, rfl, hs, h8⟩
      obtain ⟨A8, c8, rfl, _, _⟩ := Kd.S_reads hs
      have HSB := Aside0.mk (Kd.S_lower hs hHeld.bel.size)
      (try replace HSA := Aside0.mk (Kd.S_below HSA.out h8))
      (try replace HO24 := Aside0.mk (Kd.R_below HO24.out h8))
      clear hs
      refine ⟨_, rfl, ?_⟩
      refine hK.out _ _ (hHeld.below h8) (fun hHeld => ?_)
      clear hK K
      refine norm_ (a' := ?_) ?_ ?_
      rotate_left
      ·show Act.put _ (some 23) _ = _
       simp only [Act.put, List.setIfInBounds_toArray, List.set_cons_zero, List.set_cons_succ, i64_w, i32_w]
       rfl
      refine pure_ (i := 5) (N := some 6) (v := ?_) (a' := ?_) #[true, true, true, true, true, true, false, false] rfl rfl (by kernel_rfl) (fun _ _ _ h => h) (Or.inl ⟨by rfl, ?_⟩) ?_ ?_
      rotate_left
      ·intro w'
       go_simp
       with_reducible rfl
      rotate_left
      ·simp only [Act.put, List.setIfInBounds_toArray, List.set_cons_zero, List.set_cons_succ, i64_w, i32_w]
       rfl
      refine pure_ (i := 6) (N := some 7) (v := ?_) (a' := ?_) #[true, true, true, true, true, true, true, false] rfl rfl (by kernel_rfl) (fun _ _ _ h => h) (Or.inl ⟨by rfl, ?_⟩) ?_ ?_
      rotate_left
      ·intro w'
       go_simp
       with_reducible rfl
      rotate_left
      ·simp only [Act.put, List.setIfInBounds_toArray, List.set_cons_zero, List.set_cons_succ, i64_w, i32_w]
       rfl
      exact norm_ (by first | (simp only [putAll, Act.put, List.setIfInBounds_toArray, List.set_cons_zero, List.set_cons_succ]; done) | (simp only [putAll, Act.put, List.setIfInBounds_toArray, List.set_cons_zero, List.set_cons_succ]; rfl)) (hJ (A7, c7, A8, c8, v24) _ ⟨hHeld, S_apartR HSA.out HO24.out typesM, S_apartR HSB.out HO24.out typesM, HO24.out⟩)
    ·skip
     refine Kd.R_lit_step (Kd.int .i64) (w0 := w) w.heap.size 2 (by rfl) (N := 24) rfl (xs := []) (inner := []) (ok := fun k => k ≠ g ∧ k ≠ g2) (okp := fun k => k ≠ g ∧ k ≠ g2) (by first | (go_simp; done) | (go_simp; rfl)) (Reps.none _ _) (fun _ h => h) (show _ ≠ g ∧ _ ≠ g2 from hHeld.fresh (Nat.le_refl _)) hHeld.bel hHeld.bel.size (by simp) ?_
     intro v24 w24 ho24 hb24 hg24 _
     have HO24 := Aside0.mk ho24
     (try replace HSA := Aside0.mk (Kd.S_grown HSA.out hg24 (fun _ _ => by simp)))
     (try replace HSB := Aside0.mk (Kd.S_grown HSB.out hg24 (fun _ _ => by simp)))
     clear ho24
     refine hK.out _ _ (hHeld.grown hg24 (by simp) (by simp) hb24) (fun hHeld => ?_)
     clear hK K
     refine norm_ (a' := ?_) ?_ ?_
     rotate_left
     ·show Act.put _ (some 24) _ = _
      simp only [Act.put, List.setIfInBounds_toArray, List.set_cons_zero, List.set_cons_succ, i64_w, i32_w]
      rfl
     refine one_ (i := 1) (N := some 21) #[true, true, true, false, true, false, false, false] rfl rfl (by kernel_rfl) (by decide) (fun K hK => ?_)
     refine goes_ Try.func56 (by kernel_rfl) rfl #[.agg #[.int .i8 (aK : Int), .int .i8 (aL : Int), .int .i8 (aS : Int), .slice A3 pa.length c3]] (by rfl) rfl rfl (by simp only [List.map_toArray, List.map_cons, List.map_nil]; rfl) ?_
     refine (HMA.out _).mono ?_
     rintro e w7 ⟨v7, rfl, hs, h7⟩
     obtain ⟨A7, c7, rfl, _, _⟩ := Kd.S_reads hs
     have HSA := Aside0.mk (Kd.S_lower hs hHeld.bel.size)
     (try replace HSB := Aside0.mk (Kd.S_below HSB.out h7))
     (try replace HO24 := Aside0.mk (Kd.R_below HO24.out h7))
     clear hs
     refine ⟨_, rfl, ?_⟩
     refine hK.out _ _ (hHeld.below h7) (fun hHeld => ?_)
     clear hK K
     refine norm_ (a' := ?_) ?_ ?_
     rotate_left
     ·show Act.put _ (some 21) _ = _
      simp only [Act.put, List.setIfInBounds_toArray, List.set_cons_zero, List.set_cons_succ, i64_w, i32_w]
      rfl
     refine one_ (i := 3) (N := some 23) #[true, true, true, true, true, false, false, false] rfl rfl (by kernel_rfl) (by decide) (fun K hK => ?_)
     refine goes_ Try.func56 (by kernel_rfl) rfl #[.agg #[.int .i8 (bK : Int), .int .i8 (bL : Int), .int .i8 (bS : Int), .slice A4 pb.length c4]] (by rfl) rfl rfl (by simp only [List.map_toArray, List.map_cons, List.map_nil]; rfl) ?_
     refine (HMB.out _).mono ?_
     rintro e w8 ⟨v8, rfl, hs, h8⟩
     obtain ⟨A8, c8, rfl, _, _⟩ := Kd.S_reads hs
     have HSB := Aside0.mk (Kd.S_lower hs hHeld.bel.size)
     (try replace HSA := Aside0.mk (Kd.S_below HSA.out h8))
     (try replace HO24 := Aside0.mk (Kd.R_below HO24.out h8))
     clear hs
     refine ⟨_, rfl, ?_⟩
     refine hK.out _ _ (hHeld.below h8) (fun hHeld => ?_)
     clear hK K
     refine norm_ (a' := ?_) ?_ ?_
     rotate_left
     ·show Act.put _ (some 23) _ = _
      simp only [Act.put, List.setIfInBounds_toArray, List.set_cons_zero, List.set_cons_succ, i64_w, i32_w]
      rfl
     refine pure_ (i := 5) (N := some 6) (v := ?_) (a' := ?_) #[true, true, true, true, true, true, false, false] rfl rfl (by kernel_rfl) (fun _ _ _ h => h) (Or.inl ⟨by rfl, ?_⟩) ?_ ?_
     rotate_left
     ·intro w'
      go_simp
      with_reducible rfl
     rotate_left
     ·simp only [Act.put, List.setIfInBounds_toArray, List.set_cons_zero, List.set_cons_succ, i64_w, i32_w]
      rfl
     refine pure_ (i := 6) (N := some 7) (v := ?_) (a' := ?_) #[true, true, true, true, true, true, true, false] rfl rfl (by kernel_rfl) (fun _ _ _ h => h) (Or.inl ⟨by rfl, ?_⟩) ?_ ?_
     rotate_left
     ·intro w'
      go_simp
      with_reducible rfl
     rotate_left
     ·simp only [Act.put, List.setIfInBounds_toArray, List.set_cons_zero, List.set_cons_succ, i64_w, i32_w]
      rfl
     exact norm_ (by first | (simp only [putAll, Act.put, List.setIfInBounds_toArray, List.set_cons_zero, List.set_cons_succ]; done) | (simp only [putAll, Act.put, List.setIfInBounds_toArray, List.set_cons_zero, List.set_cons_succ]; rfl)) (hJ (A7, c7, A8, c8, v24) _ ⟨hHeld, S_apartR HSA.out HO24.out typesM, S_apartR HSB.out HO24.out typesM, HO24.out⟩)
   rintro ⟨A7, c7, A8, c8, v24⟩ wj ⟨hHeld, hj1, hj2, hj3⟩
   have HSA := Aside0.mk hj1
   have HSB := Aside0.mk hj2
   have HO24 := Aside0.mk hj3
   clear hj1 hj2 hj3
   dsimp only at HSA HSB HO24
   refine norm_ (a' := ?_) ?_ ?_
   rotate_left
   ·simp only [putAll, Act.put, List.setIfInBounds_toArray, List.set_cons_zero, List.set_cons_succ]
    rfl
   refine pure_ (i := 7) (N := some 8) (v := ?_) (a' := ?_) #[true, true, true, true, true, true, true, true] rfl rfl (by kernel_rfl) (fun _ _ _ h => h) (Or.inl ⟨by rfl, ?_⟩) ?_ ?_
   rotate_left
   ·intro w'
    go_simp
    with_reducible rfl
   rotate_left
   ·simp only [Act.put, List.setIfInBounds_toArray, List.set_cons_zero, List.set_cons_succ, i64_w, i32_w]
    rfl
   refine done_ (by kernel_rfl) ?_
   skip
   have HPJ := Aside0.mk hHeld
   have hcj := (blk_cell HPJ.out.one 3).trans rfl
   clear hHeld
   go_wp2_with fail
   go_loopw [28, 8, 9, 10, 11] (fun v28 v8 _ _ _ wr => ∃ i : Nat, i ≤ pa.length ∧ v28 = .int .i64 i ∧ Aside0 (Pair w g g2 #[.int .i8 (aK : Int), .int .i8 (aL : Int), .int .i8 (aS : Int), .slice A3 pa.length c3] #[.int .i8 (bK : Int), .int .i8 (bL : Int), .int .i8 (bS : Int), .slice A4 pb.length c4] wr) ∧ Aside0 (Kd.R (Kd.int .i64) 2 wr w.heap.size (fun k => k ≠ g ∧ k ≠ g2) v8 (movW pa pb Oa Ob i)) ∧ Aside0 (Kd.S kM 47 wr w.heap.size (fun k => True ∧ some k ≠ v8.ownBlock) (.slice A7 Oa.length c7) Oa) ∧ Aside0 (Kd.S kM 47 wr w.heap.size (fun k => True ∧ some k ≠ v8.ownBlock) (.slice A8 Ob.length c8) Ob)) (fun v28 _ _ _ _ _ => pa.length - (intOf v28).toNat)
   case atStart => exact ⟨0, by omega, rfl, HPJ, HO24, HSA, HSB⟩
   case round =>
    clear HP HP5 HP6 HPJ HO24 HSA HSB hcj
    obtain ⟨i, hi, rfl, HP, HRO, HSA, HSB⟩ := hrel
    have hc4 := (blk_cell HP.out.two 3).trans rfl
    by_cases hlt : i < pa.length
    ·have hio : i < Oa.length := by omega
     have hioI : (i : Int) < (Oa.length : Int) := by omega
     have HW := Aside0.mk (show movW pa pb Oa Ob (i + 1) = movW pa pb Oa Ob i ++ (if movB pa pb Oa Ob i = true then [(i : Int)] else []) from rfl)
     have HL := Aside0.mk (movW_len pa pb Oa Ob i)
     obtain ⟨ad, rfl, hcs⟩ := Kd.at_string (Kd.C_below HRA.out HP.out.bel) (i : Int) (by omega) (by omega)
     rw [Int.toNat_natCast] at hcs
     have HMV := Aside0.mk (show movB pa pb Oa Ob i = (decide (0 ≤ fnd pb (rdOf ByteArray.empty pa (i : Int))) && !decide (rd_L2 Oa (i : Int) = rd_L2 Ob (fnd pb (rdOf ByteArray.empty pa (i : Int))))) from rfl)
     generalize rdOf ByteArray.empty pa (i : Int) = s at *
     have HF := Aside0.mk (HFI.out s)
     clear HFI
     have hfl := fnd_lt (ph := pb) (s := s)
     generalize fnd pb s = f at *
     by_cases hf : 0 ≤ f
     ·have hfl := hfl hf
      obtain ⟨k, rfl⟩ := Int.eq_ofNat_of_zero_le hf
      have hko : k < Ob.length := by omega
      have hkoI : (k : Int) < (Ob.length : Int) := by omega
      have hf1 : decide ((k : Int) ≥ 0) = true := decide_eq_true hf
      obtain ⟨adA, A1, c1, rfl, hcA, hl1, hC1⟩ := at_kM (Kd.S_reads' HSA.out).2.2 i hio
      obtain ⟨adB, A2, c2, rfl, hcB, hl2, hC2⟩ := at_kM (Kd.S_reads' HSB.out).2.2 k hko
      have HCA := Aside0.mk (fun W (hW : Below wr.heap.size wr W) => pw_cell_below hW hcA)
      have HCB := Aside0.mk (fun W (hW : Below wr.heap.size wr W) => pw_cell_below hW hcB)
      have HSS := Aside0.mk (fun W (hW : Below wr.heap.size wr W) => equalM_calls A1 c1 Oa[i] A2 c2 Ob[k] W (Kd.C_below hC1 hW) hl1 (Kd.C_below hC2 hW) hl2)
      rw [rdM_get Oa i hio, rdM_get Ob k hko, decide_eq_true hf, Bool.true_and] at HMV
      clear hcA hcB hC1 hC2
      generalize Oa[i] = x at *
      generalize Ob[k] = y at *
      generalize decide (x = y) = b at *
      have HMV2 := Aside0.mk HMV.out
      rw [HMV2.out] at HW
      clear HMV HMV2
      cases b with
      | true =>
       simp only [Bool.not_true, Bool.false_eq_true, if_false, List.append_nil] at HW
       go_wp2_with (first
        | (go_at_call 68; refine (HF.out _ HP.out.bel).mono ?_; rintro e w5 ⟨rfl, h5⟩; have HB5 := Aside0.mk h5; clear h5))
       refine start_ (n := 14) (S := fun w' => Below wr.heap.size wr w') (ds := []) #[false, false, false, false, false, false, false, false, false, false, false, false, false, false] (by kernel_rfl) rfl rfl (below_drew1 HB5.out) (fun hHeld => ?_)
       refine pure_ (i := 0) (N := some 37) (v := ?_) (a' := ?_) #[true, false, false, false, false, false, false, false, false, false, false, false, false, false] rfl rfl (by kernel_rfl) (fun _ _ _ h => h) (Or.inl ⟨by rfl, ?_⟩) ?_ ?_
       rotate_left
       ·intro w'
        go_simp
        with_reducible rfl
       rotate_left
       ·simp only [Act.put, List.setIfInBounds_toArray, List.set_cons_zero, List.set_cons_succ, i64_w, i32_w]
        rfl
       refine pure_ (i := 1) (N := some 38) (v := ?_) (a' := ?_) #[true, true, false, false, false, false, false, false, false, false, false, false, false, false] rfl rfl (by kernel_rfl) (fun _ _ _ h => h) (Or.inl ⟨by rfl, ?_⟩) ?_ ?_
       rotate_left
       ·intro w'
        go_simp
        with_reducible rfl
       rotate_left
       ·simp only [Act.put, List.setIfInBounds_toArray, List.set_cons_zero, List.set_cons_succ, i64_w, i32_w]
        rfl
       refine pure_ (i := 2) (N := some 39) (v := ?_) (a' := ?_) #[true, true, true, false, false, false, false, false, false, false, false, false, false, false] rfl rfl (by kernel_rfl) (fun _ _ _ h => h) (Or.inl ⟨by rfl, ?_⟩) ?_ ?_
       rotate_left
       ·intro w'
        go_simp
        with_reducible rfl
       rotate_left
       ·simp only [Act.put, List.setIfInBounds_toArray, List.set_cons_zero, List.set_cons_succ, i64_w, i32_w]
        rfl
       refine pure_ (i := 3) (N := some 40) (v := ?_) (a' := ?_) #[true, true, true, true, false, false, false, false, false, false, false, false, false, false] rfl rfl (by kernel_rfl) (fun _ _ _ h => h) (Or.inl ⟨by rfl, ?_⟩) ?_ ?_
       rotate_left
       ·intro w'
        go_simp
        with_reducible rfl
       rotate_left
       ·simp only [Act.put, List.setIfInBounds_toArray, List.set_cons_zero, List.set_cons_succ, i64_w, i32_w]
        rfl
       refine pure_ (i := 4) (N := some 41) (v := ?_) (a' := ?_) #[true, true, true, true, true, false, false, false, false, false, false, false, false, false] rfl rfl (by kernel_rfl) (fun _ _ _ h => h) (Or.inl ⟨by rfl, ?_⟩) ?_ ?_
       rotate_left
       ·intro w'
        go_simp
        with_reducible rfl
       rotate_left
       ·simp only [Act.put, List.setIfInBounds_toArray, List.set_cons_zero, List.set_cons_succ, i64_w, i32_w]
        rfl
       refine pure_ (i := 5) (N := some 42) (v := ?_) (a' := ?_) #[true, true, true, true, true, true, false, false, false, false, false, false, false, false] rfl rfl (by kernel_rfl) (fun _ _ _ h => h) (Or.inl ⟨by rfl, ?_⟩) ?_ ?_
       rotate_left
       ·intro w'
        go_simp
        with_reducible rfl
       rotate_left
       ·simp only [Act.put, List.setIfInBounds_toArray, List.set_cons_zero, List.set_cons_succ, i64_w, i32_w]
        rfl
       refine pure_ (i := 7) (N := some 44) (v := ?_) (a' := ?_) #[true, true, true, true, true, true, false, true, false, false, false, false, false, false] rfl rfl (by kernel_rfl) (fun _ _ _ h => h) (Or.inl ⟨by rfl, ?_⟩) ?_ ?_
       rotate_left
       ·intro w'
        go_simp
        with_reducible rfl
       rotate_left
       ·simp only [Act.put, List.setIfInBounds_toArray, List.set_cons_zero, List.set_cons_succ, i64_w, i32_w]
        rfl
       refine pure_ (i := 8) (N := some 45) (v := ?_) (a' := ?_) #[true, true, true, true, true, true, false, true, true, false, false, false, false, false] rfl rfl (by kernel_rfl) (fun _ _ _ h => h) (Or.inl ⟨by rfl, ?_⟩) ?_ ?_
       rotate_left
       ·intro w'
        go_simp
        with_reducible rfl
       rotate_left
       ·simp only [Act.put, List.setIfInBounds_toArray, List.set_cons_zero, List.set_cons_succ, i64_w, i32_w]
        rfl
       refine pure_ (i := 9) (N := some 46) (v := ?_) (a' := ?_) #[true, true, true, true, true, true, false, true, true, true, false, false, false, false] rfl rfl (by kernel_rfl) (fun _ _ _ h => h) (Or.inl ⟨by rfl, ?_⟩) ?_ ?_
       rotate_left
       ·intro w'
        go_simp
        with_reducible rfl
       rotate_left
       ·simp only [Act.put, List.setIfInBounds_toArray, List.set_cons_zero, List.set_cons_succ, i64_w, i32_w]
        rfl
       refine take_ (i := 6) (N := some 43) (v := .slice A1 x.length c1) (a' := ?_) #[true, true, true, true, true, true, true, true, true, true, false, false, false, false] rfl rfl (by kernel_rfl) (fun _ _ _ h => h) (Or.inl ⟨by rfl, ?_⟩) hHeld ?_ ?_
       ·intro w' s0
        exact y_cell (by rfl) (by rfl) oneM (HCA.out _ s0)
       rotate_left
       ·simp only [Act.put, List.setIfInBounds_toArray, List.set_cons_zero, List.set_cons_succ, i64_w, i32_w]
        rfl
       refine take_ (i := 10) (N := some 47) (v := .slice A2 y.length c2) (a' := ?_) #[true, true, true, true, true, true, true, true, true, true, true, false, false, false] rfl rfl (by kernel_rfl) (fun _ _ _ h => h) (Or.inl ⟨by rfl, ?_⟩) hHeld ?_ ?_
       ·intro w' s0
        exact y_cell (by rfl) (by rfl) oneM (HCB.out _ s0)
       rotate_left
       ·simp only [Act.put, List.setIfInBounds_toArray, List.set_cons_zero, List.set_cons_succ, i64_w, i32_w]
        rfl
       refine one_ (i := 11) (N := some 48) #[true, true, true, true, true, true, true, true, true, true, true, true, false, false] rfl rfl (by kernel_rfl) (by decide) (fun K hK => ?_)
       refine goes_ Try.func69 (by kernel_rfl) rfl #[.slice A1 x.length c1, .slice A2 y.length c2] (by rfl) rfl rfl (by simp only [List.map_toArray, List.map_cons, List.map_nil]; rfl) ?_
       refine (HSS.out _ hHeld).mono ?_
       rintro e w6 ⟨rfl, h6⟩
       refine ⟨_, rfl, ?_⟩
       refine hK.out _ _ (hHeld.trans (h6.mono hHeld.size)) (fun hHeld => ?_)
       clear hK K
       refine norm_ (a' := ?_) ?_ ?_
       rotate_left
       ·show Act.put _ (some 48) _ = _
        simp only [Act.put, List.setIfInBounds_toArray, List.set_cons_zero, List.set_cons_succ, i64_w, i32_w]
        rfl
       refine pure_ (i := 12) (N := some 49) (v := ?_) (a' := ?_) #[true, true, true, true, true, true, true, true, true, true, true, true, true, false] rfl rfl (by kernel_rfl) (fun _ _ _ h => h) (Or.inl ⟨by rfl, ?_⟩) ?_ ?_
       rotate_left
       ·intro w'
        go_simp
        with_reducible rfl
       rotate_left
       ·simp only [Act.put, List.setIfInBounds_toArray, List.set_cons_zero, List.set_cons_succ, i64_w, i32_w]
        rfl
       refine pure_ (i := 13) (N := some 50) (v := ?_) (a' := ?_) #[true, true, true, true, true, true, true, true, true, true, true, true, true, true] rfl rfl (by kernel_rfl) (fun _ _ _ h => h) (Or.inl ⟨by rfl, ?_⟩) ?_ ?_
       rotate_left
       ·intro w'
        go_simp
        with_reducible rfl
       rotate_left
       ·simp only [Act.put, List.setIfInBounds_toArray, List.set_cons_zero, List.set_cons_succ, i64_w, i32_w]
        rfl
       refine done_ (by kernel_rfl) ?_
       skip
       have HB6 := Aside0.mk hHeld
       clear hHeld
       go_wp2_with fail
       go_roundw
       case rel => exact ⟨i + 1, by omega, by go_num, ⟨HP.out.below HB6.out⟩, ⟨by rw [HW.out]; exact Kd.R_below HRO.out HB6.out⟩, ⟨Kd.S_below HSA.out HB6.out⟩, ⟨Kd.S_below HSB.out HB6.out⟩⟩
       case measure => simp [intOf]; omega
      | false =>
       simp only [Bool.not_false, if_true] at HW
       go_wp2_with (first
        | (go_at_call 68; refine (HF.out _ HP.out.bel).mono ?_; rintro e w5 ⟨rfl, h5⟩; have HB5 := Aside0.mk h5; clear h5))
       refine start_ (n := 14) (S := fun w' => Below wr.heap.size wr w') (ds := []) #[false, false, false, false, false, false, false, false, false, false, false, false, false, false] (by kernel_rfl) rfl rfl (below_drew1 HB5.out) (fun hHeld => ?_)
       refine pure_ (i := 0) (N := some 37) (v := ?_) (a' := ?_) #[true, false, false, false, false, false, false, false, false, false, false, false, false, false] rfl rfl (by kernel_rfl) (fun _ _ _ h => h) (Or.inl ⟨by rfl, ?_⟩) ?_ ?_
       rotate_left
       ·intro w'
        go_simp
        with_reducible rfl
       rotate_left
       ·simp only [Act.put, List.setIfInBounds_toArray, List.set_cons_zero, List.set_cons_succ, i64_w, i32_w]
        rfl
       refine pure_ (i := 1) (N := some 38) (v := ?_) (a' := ?_) #[true, true, false, false, false, false, false, false, false, false, false, false, false, false] rfl rfl (by kernel_rfl) (fun _ _ _ h => h) (Or.inl ⟨by rfl, ?_⟩) ?_ ?_
       rotate_left
       ·intro w'
        go_simp
        with_reducible rfl
       rotate_left
       ·simp only [Act.put, List.setIfInBounds_toArray, List.set_cons_zero, List.set_cons_succ, i64_w, i32_w]
        rfl
       refine pure_ (i := 2) (N := some 39) (v := ?_) (a' := ?_) #[true, true, true, false, false, false, false, false, false, false, false, false, false, false] rfl rfl (by kernel_rfl) (fun _ _ _ h => h) (Or.inl ⟨by rfl, ?_⟩) ?_ ?_
       rotate_left
       ·intro w'
        go_simp
        with_reducible rfl
       rotate_left
       ·simp only [Act.put, List.setIfInBounds_toArray, List.set_cons_zero, List.set_cons_succ, i64_w, i32_w]
        rfl
       refine pure_ (i := 3) (N := some 40) (v := ?_) (a' := ?_) #[true, true, true, true, false, false, false, false, false, false, false, false, false, false] rfl rfl (by kernel_rfl) (fun _ _ _ h => h) (Or.inl ⟨by rfl, ?_⟩) ?_ ?_
       rotate_left
       ·intro w'
        go_simp
        with_reducible rfl
       rotate_left
       ·simp only [Act.put, List.setIfInBounds_toArray, List.set_cons_zero, List.set_cons_succ, i64_w, i32_w]
        rfl
       refine pure_ (i := 4) (N := some 41) (v := ?_) (a' := ?_) #[true, true, true, true, true, false, false, false, false, false, false, false, false, false] rfl rfl (by kernel_rfl) (fun _ _ _ h => h) (Or.inl ⟨by rfl, ?_⟩) ?_ ?_
       rotate_left
       ·intro w'
        go_simp
        with_reducible rfl
       rotate_left
       ·simp only [Act.put, List.setIfInBounds_toArray, List.set_cons_zero, List.set_cons_succ, i64_w, i32_w]
        rfl
       refine pure_ (i := 5) (N := some 42) (v := ?_) (a' := ?_) #[true, true, true, true, true, true, false, false, false, false, false, false, false, false] rfl rfl (by kernel_rfl) (fun _ _ _ h => h) (Or.inl ⟨by rfl, ?_⟩) ?_ ?_
       rotate_left
       ·intro w'
        go_simp
        with_reducible rfl
       rotate_left
       ·simp only [Act.put, List.setIfInBounds_toArray, List.set_cons_zero, List.set_cons_succ, i64_w, i32_w]
        rfl
       refine pure_ (i := 7) (N := some 44) (v := ?_) (a' := ?_) #[true, true, true, true, true, true, false, true, false, false, false, false, false, false] rfl rfl (by kernel_rfl) (fun _ _ _ h => h) (Or.inl ⟨by rfl, ?_⟩) ?_ ?_
       rotate_left
       ·intro w'
        go_simp
        with_reducible rfl
       rotate_left
       ·simp only [Act.put, List.setIfInBounds_toArray, List.set_cons_zero, List.set_cons_succ, i64_w, i32_w]
        rfl
       refine pure_ (i := 8) (N := some 45) (v := ?_) (a' := ?_) #[true, true, true, true, true, true, false, true, true, false, false, false, false, false] rfl rfl (by kernel_rfl) (fun _ _ _ h => h) (Or.inl ⟨by rfl, ?_⟩) ?_ ?_
       rotate_left
       ·intro w'
        go_simp
        with_reducible rfl
       rotate_left
       ·simp only [Act.put, List.setIfInBounds_toArray, List.set_cons_zero, List.set_cons_succ, i64_w, i32_w]
        rfl
       refine pure_ (i := 9) (N := some 46) (v := ?_) (a' := ?_) #[true, true, true, true, true, true, false, true, true, true, false, false, false, false] rfl rfl (by kernel_rfl) (fun _ _ _ h => h) (Or.inl ⟨by rfl, ?_⟩) ?_ ?_
       rotate_left
       ·intro w'
        go_simp
        with_reducible rfl
       rotate_left
       ·simp only [Act.put, List.setIfInBounds_toArray, List.set_cons_zero, List.set_cons_succ, i64_w, i32_w]
        rfl
       refine take_ (i := 6) (N := some 43) (v := .slice A1 x.length c1) (a' := ?_) #[true, true, true, true, true, true, true, true, true, true, false, false, false, false] rfl rfl (by kernel_rfl) (fun _ _ _ h => h) (Or.inl ⟨by rfl, ?_⟩) hHeld ?_ ?_
       ·intro w' s0
        exact y_cell (by rfl) (by rfl) oneM (HCA.out _ s0)
       rotate_left
       ·simp only [Act.put, List.setIfInBounds_toArray, List.set_cons_zero, List.set_cons_succ, i64_w, i32_w]
        rfl
       refine take_ (i := 10) (N := some 47) (v := .slice A2 y.length c2) (a' := ?_) #[true, true, true, true, true, true, true, true, true, true, true, false, false, false] rfl rfl (by kernel_rfl) (fun _ _ _ h => h) (Or.inl ⟨by rfl, ?_⟩) hHeld ?_ ?_
       ·intro w' s0
        exact y_cell (by rfl) (by rfl) oneM (HCB.out _ s0)
       rotate_left
       ·simp only [Act.put, List.setIfInBounds_toArray, List.set_cons_zero, List.set_cons_succ, i64_w, i32_w]
        rfl
       refine one_ (i := 11) (N := some 48) #[true, true, true, true, true, true, true, true, true, true, true, true, false, false] rfl rfl (by kernel_rfl) (by decide) (fun K hK => ?_)
       refine goes_ Try.func69 (by kernel_rfl) rfl #[.slice A1 x.length c1, .slice A2 y.length c2] (by rfl) rfl rfl (by simp only [List.map_toArray, List.map_cons, List.map_nil]; rfl) ?_
       refine (HSS.out _ hHeld).mono ?_
       rintro e w6 ⟨rfl, h6⟩
       refine ⟨_, rfl, ?_⟩
       refine hK.out _ _ (hHeld.trans (h6.mono hHeld.size)) (fun hHeld => ?_)
       clear hK K
       refine norm_ (a' := ?_) ?_ ?_
       rotate_left
       ·show Act.put _ (some 48) _ = _
        simp only [Act.put, List.setIfInBounds_toArray, List.set_cons_zero, List.set_cons_succ, i64_w, i32_w]
        rfl
       refine pure_ (i := 12) (N := some 49) (v := ?_) (a' := ?_) #[true, true, true, true, true, true, true, true, true, true, true, true, true, false] rfl rfl (by kernel_rfl) (fun _ _ _ h => h) (Or.inl ⟨by rfl, ?_⟩) ?_ ?_
       rotate_left
       ·intro w'
        go_simp
        with_reducible rfl
       rotate_left
       ·simp only [Act.put, List.setIfInBounds_toArray, List.set_cons_zero, List.set_cons_succ, i64_w, i32_w]
        rfl
       refine pure_ (i := 13) (N := some 50) (v := ?_) (a' := ?_) #[true, true, true, true, true, true, true, true, true, true, true, true, true, true] rfl rfl (by kernel_rfl) (fun _ _ _ h => h) (Or.inl ⟨by rfl, ?_⟩) ?_ ?_
       rotate_left
       ·intro w'
        go_simp
        with_reducible rfl
       rotate_left
       ·simp only [Act.put, List.setIfInBounds_toArray, List.set_cons_zero, List.set_cons_succ, i64_w, i32_w]
        rfl
       refine done_ (by kernel_rfl) ?_
       skip
       have HB6 := Aside0.mk hHeld
       have HP6 := Aside0.mk (HP.out.below hHeld)
       clear hHeld
       go_wp2_with (first
        | ((with_reducible refine gate_builtin (b := .append) (xs := #[.tmp 51, .tmp 53]) rfl ?_); at_builtin; refine Kd.R_append (Kd.int .i64) (w0 := w) w.heap.size rfl (.tmp 51) (.tmp 53) 38 2 (.int .i64 0) 8 rfl Try.underlying38 infoI64 rfl (by decide) (by omega) u8 (movW pa pb Oa Ob i) (i : Int) [.int .i64 (i : Int)] (fun k => k ≠ g ∧ k ≠ g2) (fun _ => False) rfl rfl rfl (fun _ hk => hk.elim) (fun k hk => HP6.out.fresh hk) (Kd.R_below HRO.out HB6.out) HP6.out.bel HP6.out.bel.size (by have := HL.out; omega) ?_; intro v7 w7 ho7 hb7 hg7 hat7; have HO7 := Aside0.mk ho7; have HP7 := Aside0.mk (HP6.out.grown hg7 (Kd.R_away HRO.out (fun k hk => hk.1)) (Kd.R_away HRO.out (fun k hk => hk.2)) hb7); have HSA7 := Aside0.mk (Kd.S_after (Kd.S_below HSA.out HB6.out) hg7 hat7); have HSB7 := Aside0.mk (Kd.S_after (Kd.S_below HSB.out HB6.out) hg7 hat7); clear ho7 hb7 hg7 hat7))
       go_roundw
       case rel => exact ⟨i + 1, by omega, by go_num, HP7, ⟨by rw [HW.out]; exact HO7.out⟩, HSA7, HSB7⟩
       case measure => simp [intOf]; omega
     ·have hf1 : decide (f ≥ 0) = false := decide_eq_false hf
      have hf2 : ¬ (0 ≤ f) := hf
      have HMV2 := Aside0.mk (show movB pa pb Oa Ob i = false by rw [HMV.out, decide_eq_false hf]; rfl)
      rw [HMV2.out] at HW
      simp only [Bool.false_eq_true, if_false, List.append_nil] at HW
      clear HMV HMV2 hfl
      go_wp2_with (first
       | (go_at_call 68; refine (HF.out _ HP.out.bel).mono ?_; rintro e w5 ⟨rfl, h5⟩; have HB5 := Aside0.mk h5; clear h5))
      refine start_ (n := 14) (S := fun w' => Below wr.heap.size wr w') (ds := []) #[false, false, false, false, false, false, false, false, false, false, false, false, false, false] (by kernel_rfl) rfl rfl (below_drew1 HB5.out) (fun hHeld => ?_)
      refine pure_ (i := 0) (N := some 37) (v := ?_) (a' := ?_) #[true, false, false, false, false, false, false, false, false, false, false, false, false, false] rfl rfl (by kernel_rfl) (fun _ _ _ h => h) (Or.inl ⟨by rfl, ?_⟩) ?_ ?_
      rotate_left
      ·intro w'
       go_simp
       with_reducible rfl
      rotate_left
      ·simp only [Act.put, List.setIfInBounds_toArray, List.set_cons_zero, List.set_cons_succ, i64_w, i32_w]
       rfl
      refine pure_ (i := 1) (N := some 38) (v := ?_) (a' := ?_) #[true, true, false, false, false, false, false, false, false, false, false, false, false, false] rfl rfl (by kernel_rfl) (fun _ _ _ h => h) (Or.inl ⟨by rfl, ?_⟩) ?_ ?_
      rotate_left
      ·intro w'
       go_simp
       with_reducible rfl
      rotate_left
      ·simp only [Act.put, List.setIfInBounds_toArray, List.set_cons_zero, List.set_cons_succ, i64_w, i32_w]
       rfl
      refine pure_ (i := 2) (N := some 39) (v := ?_) (a' := ?_) #[true, true, true, false, false, false, false, false, false, false, false, false, false, false] rfl rfl (by kernel_rfl) (fun _ _ _ h => h) (Or.inl ⟨by rfl, ?_⟩) ?_ ?_
      rotate_left
      ·intro w'
       go_simp
       with_reducible rfl
      rotate_left
      ·simp only [Act.put, List.setIfInBounds_toArray, List.set_cons_zero, List.set_cons_succ, i64_w, i32_w]
       rfl
      refine pure_ (i := 3) (N := some 40) (v := undef) (a' := ?_) #[true, true, true, true, false, false, false, false, false, false, false, false, false, false] rfl rfl (by kernel_rfl) (fun _ _ _ h => h) (Or.inr ⟨by rfl, rfl⟩) ?_ ?_
      rotate_left
      ·simp only [Act.put, List.setIfInBounds_toArray, List.set_cons_zero, List.set_cons_succ, i64_w, i32_w]
       rfl
      refine pure_ (i := 4) (N := some 41) (v := undef) (a' := ?_) #[true, true, true, true, true, false, false, false, false, false, false, false, false, false] rfl rfl (by kernel_rfl) (fun _ _ _ h => h) (Or.inr ⟨by rfl, rfl⟩) ?_ ?_
      rotate_left
      ·simp only [Act.put, List.setIfInBounds_toArray, List.set_cons_zero, List.set_cons_succ, i64_w, i32_w]
       rfl
      refine pure_ (i := 5) (N := some 42) (v := undef) (a' := ?_) #[true, true, true, true, true, true, false, false, false, false, false, false, false, false] rfl rfl (by kernel_rfl) (fun _ _ _ h => h) (Or.inr ⟨by rfl, rfl⟩) ?_ ?_
      rotate_left
      ·simp only [Act.put, List.setIfInBounds_toArray, List.set_cons_zero, List.set_cons_succ, i64_w, i32_w]
       rfl
      refine pure_ (i := 6) (N := some 43) (v := undef) (a' := ?_) #[true, true, true, true, true, true, true, false, false, false, false, false, false, false] rfl rfl (by kernel_rfl) (fun _ _ _ h => h) (Or.inr ⟨by rfl, rfl⟩) ?_ ?_
      rotate_left
      ·simp only [Act.put, List.setIfInBounds_toArray, List.set_cons_zero, List.set_cons_succ, i64_w, i32_w]
       rfl
      refine pure_ (i := 7) (N := some 44) (v := undef) (a' := ?_) #[true, true, true, true, true, true, true, true, false, false, false, false, false, false] rfl rfl (by kernel_rfl) (fun _ _ _ h => h) (Or.inr ⟨by rfl, rfl⟩) ?_ ?_
      rotate_left
      ·simp only [Act.put, List.setIfInBounds_toArray, List.set_cons_zero, List.set_cons_succ, i64_w, i32_w]
       rfl
      refine pure_ (i := 8) (N := some 45) (v := undef) (a' := ?_) #[true, true, true, true, true, true, true, true, true, false, false, false, false, false] rfl rfl (by kernel_rfl) (fun _ _ _ h => h) (Or.inr ⟨by rfl, rfl⟩) ?_ ?_
      rotate_left
      ·simp only [Act.put, List.setIfInBounds_toArray, List.set_cons_zero, List.set_cons_succ, i64_w, i32_w]
       rfl
      refine pure_ (i := 9) (N := some 46) (v := undef) (a' := ?_) #[true, true, true, true, true, true, true, true, true, true, false, false, false, false] rfl rfl (by kernel_rfl) (fun _ _ _ h => h) (Or.inr ⟨by rfl, rfl⟩) ?_ ?_
      rotate_left
      ·simp only [Act.put, List.setIfInBounds_toArray, List.set_cons_zero, List.set_cons_succ, i64_w, i32_w]
       rfl
      refine pure_ (i := 10) (N := some 47) (v := undef) (a' := ?_) #[true, true, true, true, true, true, true, true, true, true, true, false, false, false] rfl rfl (by kernel_rfl) (fun _ _ _ h => h) (Or.inr ⟨by rfl, rfl⟩) ?_ ?_
      rotate_left
      ·simp only [Act.put, List.setIfInBounds_toArray, List.set_cons_zero, List.set_cons_succ, i64_w, i32_w]
       rfl
      refine pure_ (i := 11) (N := some 48) (v := undef) (a' := ?_) #[true, true, true, true, true, true, true, true, true, true, true, true, false, false] rfl rfl (by kernel_rfl) (fun _ _ _ h => h) (Or.inr ⟨by rfl, rfl⟩) ?_ ?_
      rotate_left
      ·simp only [Act.put, List.setIfInBounds_toArray, List.set_cons_zero, List.set_cons_succ, i64_w, i32_w]
       rfl
      refine pure_ (i := 12) (N := some 49) (v := undef) (a' := ?_) #[true, true, true, true, true, true, true, true, true, true, true, true, true, false] rfl rfl (by kernel_rfl) (fun _ _ _ h => h) (Or.inr ⟨by rfl, rfl⟩) ?_ ?_
      rotate_left
      ·simp only [Act.put, List.setIfInBounds_toArray, List.set_cons_zero, List.set_cons_succ, i64_w, i32_w]
       rfl
      refine pure_ (i := 13) (N := some 50) (v := ?_) (a' := ?_) #[true, true, true, true, true, true, true, true, true, true, true, true, true, true] rfl rfl (by kernel_rfl) (fun _ _ _ h => h) (Or.inl ⟨by rfl, ?_⟩) ?_ ?_
      rotate_left
      ·intro w'
       go_simp
       with_reducible rfl
      rotate_left
      ·simp only [Act.put, List.setIfInBounds_toArray, List.set_cons_zero, List.set_cons_succ, i64_w, i32_w]
       rfl
      refine done_ (by kernel_rfl) ?_
      skip
      have HB6 := Aside0.mk hHeld
      clear hHeld
      go_wp2_with fail
      go_roundw
      case rel => exact ⟨i + 1, by omega, by go_num, ⟨HP.out.below HB6.out⟩, ⟨by rw [HW.out]; exact Kd.R_below HRO.out HB6.out⟩, ⟨Kd.S_below HSA.out HB6.out⟩, ⟨Kd.S_below HSB.out HB6.out⟩⟩
      case measure => simp [intOf]; omega
    ·obtain rfl : i = pa.length := by omega
     go_wp2_with fail
     go_ret2
     exact ⟨_, rfl, Kd.R_mono HRO.out (fun _ _ => trivial), HP.out.bel⟩
end Go.Proofs.Ytckpfodpfplaeaa.Arr
namespace Go.Proofs.Ytckpfodpfplaeaa.E
open Go.RowKit Go.Proofs.YtckpfodpfplaeaaW.PrintWords Go.Proofs.YtckpfodpfplaeaaW.PrintLast Go.Proofs.YtckpfodpfplaeaaW.PrintMore
attribute [local go_sem] max2_int min2_int max_two min_two max_three min_three max_four min_four
set_option linter.unusedVariables false
set_option linter.unusedSimpArgs false
def errW : Option Int → Value
 | none => .nilIface
 | some c => .iface 0 (.int .i64 c)
theorem errW_none : errW none = .nilIface := rfl
theorem errW_some (c : Int) : errW (some c) = .iface 0 (.int .i64 c) := rfl
theorem info9 : (Try.prog.info? 9).map (fun i => (i.zero, i.size, i.bytes)) = some (some (.string ⟨#[]⟩), 1, 16) := by kernel_rfl
end Go.Proofs.Ytckpfodpfplaeaa.E
