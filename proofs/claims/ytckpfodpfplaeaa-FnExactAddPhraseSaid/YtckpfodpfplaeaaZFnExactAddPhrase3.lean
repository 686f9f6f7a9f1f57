/- The texts that the statement FnExactAddPhrase needs, part 3: contracts of the program's functions and plain laws, without what it does not reach. No condition beyond what each theorem says. -/
import Derived.Below
import Derived.Deep.Draws
import Derived.Deep.AppendLies
import Derived.Maps.AppendAt
import Derived.OwnWalk
import Derived.Laws.BytesArg
import Derived.Laws.MakeOwn
import Derived.Laws.OwnMore
import Derived.Deep.OwnRows
import Derived.Tactics
import Derived.Lib.ConvBytes
import Derived.Laws.Slices
import Derived.WalkKit
import Derived.KernelRfl
import Derived.RowKit3
import Derived.Deep.LoopGhost
import Derived.Deep.QuietTactic
import Derived.BigQuiet
import Derived.WideLaws
import Derived.Deep.DeepCutAuto
import Derived.Deep.CutBlock
import Derived.Deep.RegionHeld3
import Derived.Laws.Rows
import Derived.Lib.AppendStr
import Derived.ArgAppend
import Derived.Laws.IdiomCopy
import Derived.RowKit
import Derived.Laws.Tables
import Derived.BigFrame
import Derived.Laws.CopyRow
import Derived.Laws.ResultCell
import Derived.OrdersHeld
import Derived.Laws.BitsLemmas
import Derived.Laws.StructEq
import Derived.Test.YtckpfodpfplaeaaProg
import Derived.WalkSpells
import Derived.StillTailTactics
import Derived.Laws.CopyOwn
import Derived.ProofKit
import Derived.OpenShut
import Derived.Deep.Slices
import Derived.Lib.SmallJoins
import Derived.Test.YtckpfodpfplaeaaRows
import Derived.ShutString
import Derived.ChangeOld
import Derived.SizedLaws
import Derived.Test.YtckpfodpfplaeaaZFnExactAddPhrase2
namespace Go.Proofs.Ytckpfodpfplaeaa.D
open Go.RowKit Go.Proofs.YtckpfodpfplaeaaW.PrintWords Go.Proofs.YtckpfodpfplaeaaW.PrintLast Go.Proofs.YtckpfodpfplaeaaW.PrintMore
attribute [local go_sem] max2_int min2_int max_two min_two max_three min_three max_four min_four
set_option linter.unusedVariables false
set_option linter.unusedSimpArgs false
def IsS27 (w0 W : World) (g : Nat) (f0 : Int) (f1 : Int) (f2 : Int) (f3 : List ByteArray) : Prop := ∃ A3 c3, W.heap[g]? = some (.cells #[.int .i8 f0, .int .i8 f1, .int .i8 f2, .slice A3 f3.length c3] 27 (0, 0)) ∧ w0.heap.size ≤ g ∧ Kd.C Kd.string w0 A3 f3.length f3
theorem IsS27.grown {w0 W : World} {g : Nat} {f0 : Int} {f1 : Int} {f2 : Int} {f3 : List ByteArray} {W1 : World} {row : Option Nat} (h : IsS27 w0 W g f0 f1 f2 f3) (hw : W.grownBy W1 row) (hne : some g ≠ row) : IsS27 w0 W1 g f0 f1 f2 f3 := by
 obtain ⟨A3, c3, hb, hg, hr3⟩ := h
 exact ⟨A3, c3, blk_grown hb hw hne, hg, hr3⟩
theorem IsS27.below {w0 W : World} {g : Nat} {f0 : Int} {f1 : Int} {f2 : Int} {f3 : List ByteArray} {W1 : World} (h : IsS27 w0 W g f0 f1 f2 f3) (hw : Below W.heap.size W W1) : IsS27 w0 W1 g f0 f1 f2 f3 := h.grown (grown_of_below hw none) (by simp)
theorem IsS27.drewN {w0 W : World} {g : Nat} {f0 : Int} {f1 : Int} {f2 : Int} {f3 : List ByteArray} (h : IsS27 w0 W g f0 f1 f2 f3) (m : Nat) : IsS27 w0 (W.drewN m) g f0 f1 f2 f3 := h
theorem IsS27.drew {w0 W : World} {g : Nat} {f0 : Int} {f1 : Int} {f2 : Int} {f3 : List ByteArray} (h : IsS27 w0 W g f0 f1 f2 f3) : IsS27 w0 W.drew g f0 f1 f2 f3 := h
theorem cellS27_0 {W : World} {g : Nat} {A3 : Option Addr} {c3 : Nat} {f0 : Int} {f1 : Int} {f2 : Int} {f3 : List ByteArray} (h : W.heap[g]? = some (.cells #[.int .i8 f0, .int .i8 f1, .int .i8 f2, .slice A3 f3.length c3] 27 (0, 0))) : W.cell? ⟨g, 0, none⟩ = some (.int .i8 f0) := (blk_cell h 0).trans rfl
theorem cellS27_1 {W : World} {g : Nat} {A3 : Option Addr} {c3 : Nat} {f0 : Int} {f1 : Int} {f2 : Int} {f3 : List ByteArray} (h : W.heap[g]? = some (.cells #[.int .i8 f0, .int .i8 f1, .int .i8 f2, .slice A3 f3.length c3] 27 (0, 0))) : W.cell? ⟨g, 1, none⟩ = some (.int .i8 f1) := (blk_cell h 1).trans rfl
theorem cellS27_2 {W : World} {g : Nat} {A3 : Option Addr} {c3 : Nat} {f0 : Int} {f1 : Int} {f2 : Int} {f3 : List ByteArray} (h : W.heap[g]? = some (.cells #[.int .i8 f0, .int .i8 f1, .int .i8 f2, .slice A3 f3.length c3] 27 (0, 0))) : W.cell? ⟨g, 2, none⟩ = some (.int .i8 f2) := (blk_cell h 2).trans rfl
theorem cellS27_3 {W : World} {g : Nat} {A3 : Option Addr} {c3 : Nat} {f0 : Int} {f1 : Int} {f2 : Int} {f3 : List ByteArray} (h : W.heap[g]? = some (.cells #[.int .i8 f0, .int .i8 f1, .int .i8 f2, .slice A3 f3.length c3] 27 (0, 0))) : W.cell? ⟨g, 3, none⟩ = some (.slice A3 f3.length c3) := (blk_cell h 3).trans rfl
def spec_l03Find.l0 : Nat → ByteArray → Int → Int → Int → Int → List ByteArray → Option (Int × Int × Int × Int)
 | 0, _, _, _, _, _, _ => none
 | k + 1, x1, x5, x1000, x1001, x1002, x1003 => if x5 < (x1003.length : Int) then (if 0 ≤ x5 then (if (rdOf ByteArray.empty x1003 x5).toList = x1.toList then (some (x5, x1000, x1001, x1002)) else (spec_l03Find.l0 k x1 (wrap64 (x5 + 1)) x1000 x1001 x1002 x1003)) else (none)) else (some ((-1), x1000, x1001, x1002))
def spec_l03Find.f (k : Nat) (s0_0 : Int) (s0_1 : Int) (s0_2 : Int) (s0_3 : List ByteArray) (a1 : ByteArray) : Option (Int × Int × Int × Int) := spec_l03Find.l0 k a1 0 s0_0 s0_1 s0_2 s0_3
set_option maxHeartbeats 8000000 in
set_option maxRecDepth 100000 in
theorem spec_l03Find.calls (k : Nat) (g : Nat) (s0_0 : Int) (s0_1 : Int) (s0_2 : Int) (s0_3 : List ByteArray) (a1 : ByteArray) (r1 : Int) (r2 : Int) (r3 : Int) (r4 : Int) (w0 w : World) (hI : IsS27 w0 w g s0_0 s0_1 s0_2 s0_3) (hB : Below w0.heap.size w0 w) (h : spec_l03Find.f k s0_0 s0_1 s0_2 s0_3 a1 = some (r1, r2, r3, r4)) :
  Calls Try.prog 49 #[.pointer (some ⟨g, 0, none⟩), .string a1] w fun e w' => e = .returned (.int .i64 r1) ∧ IsS27 w0 w' g r2 r3 r4 s0_3 ∧ Below w0.heap.size w0 w' ∧ KeepBut w w' g none := by
 have HI0 := Aside0.mk hI
 have HK := Aside0.mk (KeepBut.refl w g none)
 have HL := Aside0.mk hB.size
 clear hI
 have HW0 := Aside0.mk hB.size
 have HB := Aside0.mk hB
 clear hB
 have H : (spec_l03Find.l0 k a1 0 s0_0 s0_1 s0_2 s0_3) = some (r1, r2, r3, r4) := h
 clear h
 have H' := Aside0.mk H
 clear H
 go_enter Try.func49, Try.ntmps49
 go_wp2
 go_loopg [5] k (fun kq v5 w' => ∃ (x5_1 : Int), v5 = .int .i64 x5_1 ∧ Aside0 (spec_l03Find.l0 kq a1 x5_1 s0_0 s0_1 s0_2 s0_3 = some (r1, r2, r3, r4)) ∧ Aside0 (kq ≤ k) ∧ Aside0 (IsS27 w0 w' g s0_0 s0_1 s0_2 s0_3) ∧ Aside0 (KeepBut w w' g none) ∧ Aside0 (Below w0.heap.size w0 w'))
 case atStart => exact ⟨(0), (by first | rfl | (simp; done) | (simp [*]; done)), H', ⟨Nat.le_refl _⟩, ⟨by repeat (first | (with_reducible first | exact HI0.out | apply IsS27.alloc | apply IsS27.drewN | apply IsS27.drew | apply IsS27.set_0 | apply IsS27.set_1 | apply IsS27.set_2) | exact HI0.out)⟩, ⟨by repeat (first | (with_reducible first | exact HK.out | apply KeepBut.set_ | apply keep_drewN | apply keep_drew | apply keep_alloc) | exact HK.out)⟩, ⟨by repeat (first | (with_reducible first | exact HB.out | apply below_alloc | apply pw_below_drewN | apply below_drew1 | refine below_set ?_ (IsS27.ge HI0.out)) | exact HB.out)⟩⟩
 case round =>
  clear H'
  try clear p2
  obtain ⟨x5_1, rfl, HA, HK1, HI0, HK, HB⟩ := hrel
  cases gk with
  | zero => exact absurd HA.out (by simp [spec_l03Find.l0])
  | succ k1 =>
   have H := HA.out
   clear HA
   simp only [spec_l03Find.l0] at H
   by_cases c3 : x5_1 < (s0_3.length : Int)
   ·rw [if_pos c3] at H
    have c3b0 : decide (x5_1 < (s0_3.length : Int)) = true := decide_eq_true c3
    clear c3
    by_cases c4 : 0 ≤ x5_1
    ·rw [if_pos c4] at H
     have c4b0 : decide (0 ≤ x5_1) = true := decide_eq_true c4
     clear c4
     by_cases c5 : (rdOf ByteArray.empty s0_3 x5_1).toList = a1.toList
     ·rw [if_pos c5] at H
      have c5b0 : ((rdOf ByteArray.empty s0_3 x5_1).toList == a1.toList) = true := beq_iff_eq.mpr c5
      have c5b1 : ((rdOf ByteArray.empty s0_3 x5_1).toList != a1.toList) = false := bne_eq_false_iff_eq.mpr c5
      clear c5
      simp only [Option.some.injEq, Prod.mk.injEq] at H
      obtain ⟨rfl, rfl, rfl, rfl⟩ := H
      obtain ⟨ASz6_3, cSz6_3, HGz6, hgz6, HSz6_3⟩ := HI0.out
      have hcz6_0 := cellS27_0 HGz6
      have hcz6_1 := cellS27_1 HGz6
      have hcz6_2 := cellS27_2 HGz6
      have hcz6_3 := cellS27_3 HGz6
      have hfz6_0 := blk_frozen HGz6 0
      have hfz6_1 := blk_frozen HGz6 1
      have hfz6_2 := blk_frozen HGz6 2
      clear HGz6 hgz6
      have p166 : 0 ≤ (x5_1 : Int) := of_decide_eq_true (by first | (with_reducible assumption) | assumption)
      have q166 : x5_1 < (s0_3.length : Int) := of_decide_eq_true (by first | (with_reducible assumption) | assumption)
      obtain ⟨ad166, e166, hx166_0⟩ := Kd.at_string HSz6_3 x5_1 p166 q166
      cases e166
      replace hx166_0 := pw_cell_below HB.out hx166_0
      replace p166 := eq_true p166
      replace q166 := eq_true q166
      go_wp2
      go_ret
      exact ⟨by first | rfl | (simp [errW_none, errW_some] <;> rfl) | (simp [*, errW_none, errW_some] <;> rfl), by repeat (first | (with_reducible first | exact HI0.out | apply IsS27.alloc | apply IsS27.drewN | apply IsS27.drew | apply IsS27.set_0 | apply IsS27.set_1 | apply IsS27.set_2) | exact HI0.out), by repeat (first | (with_reducible first | exact HB.out | apply below_alloc | apply pw_below_drewN | apply below_drew1 | refine below_set ?_ (IsS27.ge HI0.out)) | exact HB.out), by repeat (first | (with_reducible first | exact HK.out | apply KeepBut.set_ | apply keep_drewN | apply keep_drew | apply keep_alloc) | exact HK.out)⟩
     ·rw [if_neg c5] at H
      have c5b0 : ((rdOf ByteArray.empty s0_3 x5_1).toList == a1.toList) = false := beq_eq_false_iff_ne.mpr c5
      have c5b1 : ((rdOf ByteArray.empty s0_3 x5_1).toList != a1.toList) = true := bne_iff_ne.mpr c5
      have H' := Aside0.mk H
      clear H
      obtain ⟨ASz7_3, cSz7_3, HGz7, hgz7, HSz7_3⟩ := HI0.out
      have hcz7_0 := cellS27_0 HGz7
      have hcz7_1 := cellS27_1 HGz7
      have hcz7_2 := cellS27_2 HGz7
      have hcz7_3 := cellS27_3 HGz7
      have hfz7_0 := blk_frozen HGz7 0
      have hfz7_1 := blk_frozen HGz7 1
      have hfz7_2 := blk_frozen HGz7 2
      clear HGz7 hgz7
      have p166 : 0 ≤ (x5_1 : Int) := of_decide_eq_true (by first | (with_reducible assumption) | assumption)
      have q166 : x5_1 < (s0_3.length : Int) := of_decide_eq_true (by first | (with_reducible assumption) | assumption)
      obtain ⟨ad166, e166, hx166_0⟩ := Kd.at_string HSz7_3 x5_1 p166 q166
      cases e166
      replace hx166_0 := pw_cell_below HB.out hx166_0
      replace p166 := eq_true p166
      replace q166 := eq_true q166
      go_wp2
      go_roundg k1
      case measure => have := HK1.out; omega
      case rel => exact ⟨(wrap64 (x5_1 + 1)), (by first | rfl | (simp; done) | (simp [*]; done)), H', ⟨by have := HK1.out; omega⟩, ⟨by repeat (first | (with_reducible first | exact HI0.out | apply IsS27.alloc | apply IsS27.drewN | apply IsS27.drew | apply IsS27.set_0 | apply IsS27.set_1 | apply IsS27.set_2) | exact HI0.out)⟩, ⟨by repeat (first | (with_reducible first | exact HK.out | apply KeepBut.set_ | apply keep_drewN | apply keep_drew | apply keep_alloc) | exact HK.out)⟩, ⟨by repeat (first | (with_reducible first | exact HB.out | apply below_alloc | apply pw_below_drewN | apply below_drew1 | refine below_set ?_ (IsS27.ge HI0.out)) | exact HB.out)⟩⟩
    ·rw [if_neg c4] at H
     exact absurd H (by simp)
   ·rw [if_neg c3] at H
    have c3b0 : decide (x5_1 < (s0_3.length : Int)) = false := decide_eq_false c3
    clear c3
    simp only [Option.some.injEq, Prod.mk.injEq] at H
    obtain ⟨rfl, rfl, rfl, rfl⟩ := H
    obtain ⟨ASz8_3, cSz8_3, HGz8, hgz8, HSz8_3⟩ := HI0.out
    have hcz8_0 := cellS27_0 HGz8
    have hcz8_1 := cellS27_1 HGz8
    have hcz8_2 := cellS27_2 HGz8
    have hcz8_3 := cellS27_3 HGz8
    have hfz8_0 := blk_frozen HGz8 0
    have hfz8_1 := blk_frozen HGz8 1
    have hfz8_2 := blk_frozen HGz8 2
    clear HGz8 hgz8
    go_wp2
    go_ret
    exact ⟨by first | rfl | (simp [errW_none, errW_some] <;> rfl) | (simp [*, errW_none, errW_some] <;> rfl), by repeat (first | (with_reducible first | exact HI0.out | apply IsS27.alloc | apply IsS27.drewN | apply IsS27.drew | apply IsS27.set_0 | apply IsS27.set_1 | apply IsS27.set_2) | exact HI0.out), by repeat (first | (with_reducible first | exact HB.out | apply below_alloc | apply pw_below_drewN | apply below_drew1 | refine below_set ?_ (IsS27.ge HI0.out)) | exact HB.out), by repeat (first | (with_reducible first | exact HK.out | apply KeepBut.set_ | apply keep_drewN | apply keep_drew | apply keep_alloc) | exact HK.out)⟩
def spec_l03Sized.f (s0_0 : Int) (s0_1 : Int) (s0_2 : Int) (s0_3 : List ByteArray) : Option (Bool × Int × Int × Int) := (spec_l00In.f (wrap64 (s0_0)) 1 10).bind fun t167 => (if t167 = true then ((spec_l00In.f (wrap64 (s0_1)) 1 3).bind fun t168 => (if t168 = true then ((spec_l00In.f (wrap64 (s0_2)) 0 4).bind fun t169 => (some (t169, s0_0, s0_1, s0_2))) else (some (false, s0_0, s0_1, s0_2)))) else (some (false, s0_0, s0_1, s0_2)))
set_option maxHeartbeats 8000000 in
set_option maxRecDepth 100000 in
theorem spec_l03Sized.calls (g : Nat) (s0_0 : Int) (s0_1 : Int) (s0_2 : Int) (s0_3 : List ByteArray) (r1 : Bool) (r2 : Int) (r3 : Int) (r4 : Int) (w0 w : World) (hI : IsS27 w0 w g s0_0 s0_1 s0_2 s0_3) (hB : Below w0.heap.size w0 w) (h : spec_l03Sized.f s0_0 s0_1 s0_2 s0_3 = some (r1, r2, r3, r4)) :
  Calls Try.prog 88 #[.pointer (some ⟨g, 0, none⟩)] w fun e w' => e = .returned (.bool r1) ∧ IsS27 w0 w' g r2 r3 r4 s0_3 ∧ Below w0.heap.size w0 w' ∧ KeepBut w w' g none := by
 have HI0 := Aside0.mk hI
 have HK := Aside0.mk (KeepBut.refl w g none)
 have HL := Aside0.mk hB.size
 clear hI
 have HW0 := Aside0.mk hB.size
 have HB := Aside0.mk hB
 clear hB
 have H : ((spec_l00In.f (wrap64 (s0_0)) 1 10).bind fun t167 => (if t167 = true then ((spec_l00In.f (wrap64 (s0_1)) 1 3).bind fun t168 => (if t168 = true then ((spec_l00In.f (wrap64 (s0_2)) 0 4).bind fun t169 => (some (t169, s0_0, s0_1, s0_2))) else (some (false, s0_0, s0_1, s0_2)))) else (some (false, s0_0, s0_1, s0_2)))) = some (r1, r2, r3, r4) := h
 clear h
 replace H := Option.bind_eq_some_iff.mp H
 obtain ⟨t167, A20, H⟩ := H
 replace H : (if t167 = true then ((spec_l00In.f (wrap64 (s0_1)) 1 3).bind fun t168 => (if t168 = true then ((spec_l00In.f (wrap64 (s0_2)) 0 4).bind fun t169 => (some (t169, s0_0, s0_1, s0_2))) else (some (false, s0_0, s0_1, s0_2)))) else (some (false, s0_0, s0_1, s0_2))) = some (r1, r2, r3, r4) := H
 have A2 := Aside0.mk A20
 clear A20
 by_cases c3 : t167 = true
 ·subst c3
  have H1 : ((spec_l00In.f (wrap64 (s0_1)) 1 3).bind fun t168 => (if t168 = true then ((spec_l00In.f (wrap64 (s0_2)) 0 4).bind fun t169 => (some (t169, s0_0, s0_1, s0_2))) else (some (false, s0_0, s0_1, s0_2)))) = some (r1, r2, r3, r4) := by rw [if_pos rfl] at H; exact H
  clear H
  have H := H1
  clear H1
  replace H := Option.bind_eq_some_iff.mp H
  obtain ⟨t168, A40, H⟩ := H
  replace H : (if t168 = true then ((spec_l00In.f (wrap64 (s0_2)) 0 4).bind fun t169 => (some (t169, s0_0, s0_1, s0_2))) else (some (false, s0_0, s0_1, s0_2))) = some (r1, r2, r3, r4) := H
  have A4 := Aside0.mk A40
  clear A40
  by_cases c5 : t168 = true
  ·subst c5
   have H1 : ((spec_l00In.f (wrap64 (s0_2)) 0 4).bind fun t169 => (some (t169, s0_0, s0_1, s0_2))) = some (r1, r2, r3, r4) := by rw [if_pos rfl] at H; exact H
   clear H
   have H := H1
   clear H1
   replace H := Option.bind_eq_some_iff.mp H
   obtain ⟨t169, A60, H⟩ := H
   replace H : (some (t169, s0_0, s0_1, s0_2)) = some (r1, r2, r3, r4) := H
   have A6 := Aside0.mk A60
   clear A60
   simp only [Option.some.injEq, Prod.mk.injEq] at H
   obtain ⟨rfl, rfl, rfl, rfl⟩ := H
   obtain ⟨ASz7_3, cSz7_3, HGz7, hgz7, HSz7_3⟩ := HI0.out
   have hcz7_0 := cellS27_0 HGz7
   have hcz7_1 := cellS27_1 HGz7
   have hcz7_2 := cellS27_2 HGz7
   have hcz7_3 := cellS27_3 HGz7
   have hfz7_0 := blk_frozen HGz7 0
   have hfz7_1 := blk_frozen HGz7 1
   have hfz7_2 := blk_frozen HGz7 2
   clear HGz7 hgz7
   go_enter Try.func88, Try.ntmps88
   go_wp2_with (first | ((with_reducible refine gate_callee (f := 78) rfl ?_); refine goesL_ (some 8) rfl rfl Try.func78 (by kernel_rfl) rfl #[.int .i64 (wrap64 (s0_0)), .int .i64 1, .int .i64 10] rfl (by (try simp only [List.map_toArray, List.map_cons, List.map_nil]); first | done | rfl | (simp only [List.length_drop, List.length_take]; rfl)) ?_; (with_reducible refine (spec_l00In.calls (wrap64 (s0_0)) 1 10 true _ A2.out).mono ?_); rintro e w' ⟨rfl, ⟨nd, rfl⟩⟩; refine ⟨_, rfl, ?_⟩) | (go_at_call 78; (with_reducible refine (spec_l00In.calls (wrap64 (s0_1)) 1 3 true _ A4.out).mono ?_); rintro e w' ⟨rfl, ⟨nd, rfl⟩⟩) | (go_at_call 78; (with_reducible refine (spec_l00In.calls (wrap64 (s0_2)) 0 4 t169 _ A6.out).mono ?_); rintro e w' ⟨rfl, ⟨nd, rfl⟩⟩))
   go_ret
   exact ⟨by first | rfl | (simp [errW_none, errW_some] <;> rfl) | (simp [*, errW_none, errW_some] <;> rfl), by repeat (first | (with_reducible first | exact HI0.out | apply IsS27.alloc | apply IsS27.drewN | apply IsS27.drew | apply IsS27.set_0 | apply IsS27.set_1 | apply IsS27.set_2) | exact HI0.out), by repeat (first | (with_reducible first | exact HB.out | apply below_alloc | apply pw_below_drewN | apply below_drew1 | refine below_set ?_ (IsS27.ge HI0.out)) | exact HB.out), by repeat (first | (with_reducible first | exact HK.out | apply KeepBut.set_ | apply keep_drewN | apply keep_drew | apply keep_alloc) | exact HK.out)⟩
  ·replace c5 := Bool.eq_false_iff.mpr c5
   subst c5
   have H1 : (some (false, s0_0, s0_1, s0_2)) = some (r1, r2, r3, r4) := by rw [if_neg (show ¬ (false = true) by decide)] at H; exact H
   clear H
   have H := H1
   clear H1
   simp only [Option.some.injEq, Prod.mk.injEq] at H
   obtain ⟨rfl, rfl, rfl, rfl⟩ := H
   obtain ⟨ASz8_3, cSz8_3, HGz8, hgz8, HSz8_3⟩ := HI0.out
   have hcz8_0 := cellS27_0 HGz8
   have hcz8_1 := cellS27_1 HGz8
   have hcz8_2 := cellS27_2 HGz8
   have hcz8_3 := cellS27_3 HGz8
   have hfz8_0 := blk_frozen HGz8 0
   have hfz8_1 := blk_frozen HGz8 1
   have hfz8_2 := blk_frozen HGz8 2
   clear HGz8 hgz8
   go_enter Try.func88, Try.ntmps88
   go_wp2_with (first | ((with_reducible refine gate_callee (f := 78) rfl ?_); refine goesL_ (some 8) rfl rfl Try.func78 (by kernel_rfl) rfl #[.int .i64 (wrap64 (s0_0)), .int .i64 1, .int .i64 10] rfl (by (try simp only [List.map_toArray, List.map_cons, List.map_nil]); first | done | rfl | (simp only [List.length_drop, List.length_take]; rfl)) ?_; (with_reducible refine (spec_l00In.calls (wrap64 (s0_0)) 1 10 true _ A2.out).mono ?_); rintro e w' ⟨rfl, ⟨nd, rfl⟩⟩; refine ⟨_, rfl, ?_⟩) | (go_at_call 78; (with_reducible refine (spec_l00In.calls (wrap64 (s0_1)) 1 3 false _ A4.out).mono ?_); rintro e w' ⟨rfl, ⟨nd, rfl⟩⟩))
   go_ret
   exact ⟨by first | rfl | (simp [errW_none, errW_some] <;> rfl) | (simp [*, errW_none, errW_some] <;> rfl), by repeat (first | (with_reducible first | exact HI0.out | apply IsS27.alloc | apply IsS27.drewN | apply IsS27.drew | apply IsS27.set_0 | apply IsS27.set_1 | apply IsS27.set_2) | exact HI0.out), by repeat (first | (with_reducible first | exact HB.out | apply below_alloc | apply pw_below_drewN | apply below_drew1 | refine below_set ?_ (IsS27.ge HI0.out)) | exact HB.out), by repeat (first | (with_reducible first | exact HK.out | apply KeepBut.set_ | apply keep_drewN | apply keep_drew | apply keep_alloc) | exact HK.out)⟩
 ·replace c3 := Bool.eq_false_iff.mpr c3
  subst c3
  have H1 : (some (false, s0_0, s0_1, s0_2)) = some (r1, r2, r3, r4) := by rw [if_neg (show ¬ (false = true) by decide)] at H; exact H
  clear H
  have H := H1
  clear H1
  simp only [Option.some.injEq, Prod.mk.injEq] at H
  obtain ⟨rfl, rfl, rfl, rfl⟩ := H
  obtain ⟨ASz9_3, cSz9_3, HGz9, hgz9, HSz9_3⟩ := HI0.out
  have hcz9_0 := cellS27_0 HGz9
  have hcz9_1 := cellS27_1 HGz9
  have hcz9_2 := cellS27_2 HGz9
  have hcz9_3 := cellS27_3 HGz9
  have hfz9_0 := blk_frozen HGz9 0
  have hfz9_1 := blk_frozen HGz9 1
  have hfz9_2 := blk_frozen HGz9 2
  clear HGz9 hgz9
  go_enter Try.func88, Try.ntmps88
  go_wp2_with (first | ((with_reducible refine gate_callee (f := 78) rfl ?_); refine goesL_ (some 8) rfl rfl Try.func78 (by kernel_rfl) rfl #[.int .i64 (wrap64 (s0_0)), .int .i64 1, .int .i64 10] rfl (by (try simp only [List.map_toArray, List.map_cons, List.map_nil]); first | done | rfl | (simp only [List.length_drop, List.length_take]; rfl)) ?_; (with_reducible refine (spec_l00In.calls (wrap64 (s0_0)) 1 10 false _ A2.out).mono ?_); rintro e w' ⟨rfl, ⟨nd, rfl⟩⟩; refine ⟨_, rfl, ?_⟩))
  go_ret
  exact ⟨by first | rfl | (simp [errW_none, errW_some] <;> rfl) | (simp [*, errW_none, errW_some] <;> rfl), by repeat (first | (with_reducible first | exact HI0.out | apply IsS27.alloc | apply IsS27.drewN | apply IsS27.drew | apply IsS27.set_0 | apply IsS27.set_1 | apply IsS27.set_2) | exact HI0.out), by repeat (first | (with_reducible first | exact HB.out | apply below_alloc | apply pw_below_drewN | apply below_drew1 | refine below_set ?_ (IsS27.ge HI0.out)) | exact HB.out), by repeat (first | (with_reducible first | exact HK.out | apply KeepBut.set_ | apply keep_drewN | apply keep_drew | apply keep_alloc) | exact HK.out)⟩
end Go.Proofs.Ytckpfodpfplaeaa.D
namespace Go.Proofs.Ytckpfodpfplaeaa.Arr
open Go.RowKit Go.Proofs.YtckpfodpfplaeaaW.PrintWords Go.Proofs.YtckpfodpfplaeaaW.PrintLast Go.Proofs.YtckpfodpfplaeaaW.PrintMore Go.Proofs.Ytckpfodpfplaeaa.U Go.Proofs.Ytckpfodpfplaeaa.D
set_option linter.unusedVariables false
set_option linter.unusedSimpArgs false
def phrB (s : ByteArray) : Bool := decide (∀ i : Nat, i < s.size → 32 ≤ bt s (i : Int) ∧ bt s (i : Int) ≤ 126) && decide (1 ≤ (s.size : Int) ∧ (s.size : Int) ≤ 40)
theorem l03Phrase_ev (s : ByteArray) (hs : s.size ≤ 140737488351232) : Ev (fun k => spec_l03Phrase.f k s) (phrB s) := by
 unfold spec_l03Phrase.f
 refine iter (F := fun k (x : Int) => spec_l03Phrase.l0 k s x) (fun i x => x = (i : Int) ∧ ∀ j : Nat, j < i → 32 ≤ bt s (j : Int) ∧ bt s (j : Int) ≤ 126) _ s.size ?_ ?_ 0 0 (by omega) ⟨rfl, fun j hj => absurd hj (by omega)⟩
 ·rintro i x hi ⟨rfl, hP⟩
  by_cases h1 : 32 ≤ bt s (i : Int) ∧ bt s (i : Int) ≤ 126
  ·refine .inl ⟨((i + 1 : Nat) : Int), ⟨rfl, fun j hj => ?_⟩, fun hgo => ?_⟩
   ·rcases Nat.lt_or_ge j i with h | h
    ·exact hP j h
    ·obtain rfl : j = i := by omega
     exact h1
   ·have hgo2 : Ev (fun k => spec_l03Phrase.l0 k s (wrap64 ((i : Int) + 1))) (phrB s) := by rw [w64 (by omega) (by omega)]; exact hgo
    refine Ev.step (fun k => by rw [spec_l03Phrase.l0]) ?_
    exact pos (by omega) (pos (by omega) (neg (by omega) (neg (by omega) hgo2)))
  ·refine .inr ?_
   have hf : phrB s = false := by
    unfold phrB
    rw [decide_eq_false (fun h => h1 (h i hi))]; rfl
   rw [hf]
   refine Ev.step (fun k => by rw [spec_l03Phrase.l0]) ?_
   refine pos (by omega) (pos (by omega) ?_)
   by_cases h2 : bt s (i : Int) < 32
   ·exact pos h2 (cons rfl)
   ·exact neg h2 (pos (by omega) (cons rfl))
 ·rintro x ⟨rfl, hP⟩
  refine Ev.step (fun k => by rw [spec_l03Phrase.l0]) ?_
  refine neg (by omega) (bindc (in_ev' _ _ _) (cons ?_))
  unfold phrB
  rw [decide_eq_true hP]; rfl
def fnd (ph : List ByteArray) (a : ByteArray) : Int := ixa (fun x => decide (x.toList = a.toList)) ph
theorem rdOf_get (ph : List ByteArray) (i : Nat) (hi : i < ph.length) : rdOf ByteArray.empty ph (i : Int) = ph[i] := by
 unfold rdOf; simp [List.getElem?_eq_getElem hi]
theorem l03Find_ev (K L S : Int) (ph : List ByteArray) (a : ByteArray) (hn : ph.length ≤ 140737488351232) : Ev (fun k => spec_l03Find.f k K L S ph a) (fnd ph a, K, L, S) := by
 unfold spec_l03Find.f
 refine iter (F := fun k (x : Int) => spec_l03Find.l0 k a x K L S ph) (fun i x => x = (i : Int) ∧ ∀ j : Nat, j < i → ∀ y, ph[j]? = some y → decide (y.toList = a.toList) = false) _ ph.length ?_ ?_ 0 0 (by omega) ⟨rfl, fun j hj => absurd hj (by omega)⟩
 ·rintro i x hi ⟨rfl, hP⟩
  have hg := rdOf_get ph i hi
  by_cases h1 : ph[i].toList = a.toList
  ·refine .inr ?_
   rw [show fnd ph a = (i : Int) from ixa_found _ ph i ph[i] (List.getElem?_eq_getElem hi) hP (decide_eq_true h1)]
   refine Ev.step (fun k => by rw [spec_l03Find.l0]) ?_
   exact pos (by omega) (pos (by omega) (pos (by rw [hg]; exact h1) (cons rfl)))
  ·refine .inl ⟨((i + 1 : Nat) : Int), ⟨rfl, fun j hj y hy => ?_⟩, fun hgo => ?_⟩
   ·rcases Nat.lt_or_ge j i with h | h
    ·exact hP j h y hy
    ·obtain rfl : j = i := by omega
     rw [List.getElem?_eq_getElem hi] at hy
     rw [← Option.some.inj hy]; exact decide_eq_false h1
   ·have hgo2 : Ev (fun k => spec_l03Find.l0 k a (wrap64 ((i : Int) + 1)) K L S ph) (fnd ph a, K, L, S) := by rw [w64 (by omega) (by omega)]; exact hgo
    refine Ev.step (fun k => by rw [spec_l03Find.l0]) ?_
    exact pos (by omega) (pos (by omega) (neg (by rw [hg]; exact h1) hgo2))
 ·rintro x ⟨rfl, hP⟩
  refine Ev.step (fun k => by rw [spec_l03Find.l0]) ?_
  exact neg (by omega) (cons (by rw [show fnd ph a = -1 from ixa_none _ ph hP]))
def sizedB (K L S : Int) : Bool := decide ((1 ≤ K ∧ K ≤ 10) ∧ (1 ≤ L ∧ L ≤ 3) ∧ (0 ≤ S ∧ S ≤ 4))
theorem l03Sized_f (K L S : Int) (ph : List ByteArray) (hK : -128 ≤ K ∧ K ≤ 127) (hL : -128 ≤ L ∧ L ≤ 127) (hS : -128 ≤ S ∧ S ≤ 127) : spec_l03Sized.f K L S ph = some (sizedB K L S, K, L, S) := by
 unfold spec_l03Sized.f sizedB
 rw [w64 (by omega) (by omega), w64 (by omega) (by omega), w64 (by omega) (by omega), in_ev', in_ev', in_ev']
 by_cases h1 : 1 ≤ K ∧ K ≤ 10 <;> by_cases h2 : 1 ≤ L ∧ L ≤ 3 <;> simp [h1, h2]
def phOk (ph : List ByteArray) (i : Nat) : Bool := phrB (rdOf ByteArray.empty ph (i : Int)) && decide (fnd ph (rdOf ByteArray.empty ph (i : Int)) = (i : Int))
def okBook (K L S : Int) (ph : List ByteArray) : Bool := sizedB K L S && decide (ph.length ≤ 100) && decide (∀ i : Nat, i < ph.length → phOk ph i = true) && decide (ph.length ≤ (outL K.toNat S.toNat L.toNat).length)
structure BkSt (w0 w : World) (g : Nat) (K L S : Int) (ph : List ByteArray) (w1 : World) : Prop where
 is : IsS27 w0 w1 g K L S ph
 bel : Below w0.heap.size w0 w1
 keep : KeepBut w w1 g none
theorem BkSt.drewN {w0 w w1 : World} {g : Nat} {K L S : Int} {ph : List ByteArray} (h : BkSt w0 w g K L S ph w1) (n : Nat) : BkSt w0 w g K L S ph (w1.drewN n) := ⟨IsS27.drewN h.is n, pw_below_drewN h.bel n, keep_drewN h.keep n⟩
theorem BkSt.drew {w0 w w1 : World} {g : Nat} {K L S : Int} {ph : List ByteArray} (h : BkSt w0 w g K L S ph w1) : BkSt w0 w g K L S ph w1.drew := ⟨IsS27.drew h.is, below_drew1 h.bel, keep_drew h.keep⟩
theorem BkSt.call {w0 w w1 w2 : World} {g : Nat} {K L S : Int} {ph : List ByteArray} (h : BkSt w0 w g K L S ph w1) (h1 : IsS27 w0 w2 g K L S ph) (h2 : Below w0.heap.size w0 w2) (h3 : KeepBut w1 w2 g none) : BkSt w0 w g K L S ph w2 := ⟨h1, h2, h.keep.trans h3 (Or.inl rfl)⟩
theorem BkSt.below {w0 w w1 w2 : World} {g : Nat} {K L S : Int} {ph : List ByteArray} (h : BkSt w0 w g K L S ph w1) (hb : Below w1.heap.size w1 w2) : BkSt w0 w g K L S ph w2 := ⟨IsS27.below h.is hb, h.bel.trans (hb.mono h.bel.size), h.keep.trans (KeepBut.of_below hb g none) (Or.inl rfl)⟩
theorem oneStrS : OneTy Try.prog 23 := ⟨by kernel_rfl, by kernel_rfl⟩
set_option maxHeartbeats 8000000 in
set_option maxRecDepth 100000 in
theorem l03Ok_calls (K L S : Int) (ph : List ByteArray) (g : Nat) (w0 w : World) (hI : IsS27 w0 w g K L S ph) (hB : Below w0.heap.size w0 w) (hK : -128 ≤ K ∧ K ≤ 127) (hL : -128 ≤ L ∧ L ≤ 127) (hS : -128 ≤ S ∧ S ≤ 127) (hn : ph.length ≤ 100000000) (hs : ∀ s ∈ ph, s.size ≤ 140737488351232) :
  Calls Try.prog 47 #[.pointer (some ⟨g, 0, none⟩)] w fun e w' => e = .returned (.bool (okBook K L S ph)) ∧ BkSt w0 w g K L S ph w' := by
 have HS := Aside0.mk (fun W h1 h2 => spec_l03Sized.calls g K L S ph _ _ _ _ w0 W h1 h2 (l03Sized_f K L S ph hK hL hS))
 have HB0 : Aside0 (BkSt w0 w g K L S ph w) := ⟨⟨hI, hB, KeepBut.refl w g none⟩⟩
 obtain ⟨A3, c3, hb, _, _⟩ := hI
 have hc3 := (blk_cell hb 3).trans rfl
 clear hb hB
 cases hz : sizedB K L S with
 | false =>
  have HF := Aside0.mk (show okBook K L S ph = false by unfold okBook; rw [hz]; rfl)
  rw [hz] at HS
  clear hz
  go_enter Try.func47, Try.ntmps47
  go_wp2_with (go_at_call 88; refine (HS.out _ HB0.out.is HB0.out.bel).mono ?_; rintro e w1 ⟨rfl, h1, h2, h3⟩; have HB1 := Aside0.mk (HB0.out.call h1 h2 h3); clear h1 h2 h3)
  go_ret
  exact ⟨by rw [HF.out]; rfl, HB1.out⟩
 | true =>
  have HZ := Aside0.mk hz
  have hzz := of_decide_eq_true hz
  rw [hz] at HS
  clear hz
  by_cases h100 : ph.length ≤ 100
  ·have hle : (ph.length : Int) ≤ 100 := by omega
   have hgt : ¬ (100 : Int) < (ph.length : Int) := by omega
   have hgt2 := decide_eq_false hgt
   have HH := Aside0.mk hs
   obtain ⟨K, rfl⟩ := Int.eq_ofNat_of_zero_le (show 0 ≤ K by omega)
   obtain ⟨L, rfl⟩ := Int.eq_ofNat_of_zero_le (show 0 ≤ L by omega)
   obtain ⟨S, rfl⟩ := Int.eq_ofNat_of_zero_le (show 0 ≤ S by omega)
   have HK4 : Aside0 ((1 ≤ K ∧ K ≤ 10) ∧ L ≤ 3 ∧ S ≤ 4) := ⟨by omega⟩
   clear hs hK hL hS hzz
   go_enter Try.func47, Try.ntmps47
   go_wp2_with (go_at_call 88; refine (HS.out _ HB0.out.is HB0.out.bel).mono ?_; rintro e w1 ⟨rfl, h1, h2, h3⟩; have HB1 := Aside0.mk (HB0.out.call h1 h2 h3); obtain ⟨A4, c4, hb4, _, _⟩ := h1; have hc4 := (blk_cell hb4 3).trans rfl; clear h2 h3 hb4)
   go_loopw [3] (fun v3 wr => ∃ i : Nat, i ≤ ph.length ∧ v3 = .int .i64 i ∧ Aside0 (BkSt w0 w g K L S ph wr) ∧ Aside0 (∀ j : Nat, j < i → phOk ph j = true)) (fun v3 _ => ph.length - (intOf v3).toNat)
   case atStart => exact ⟨0, by omega, rfl, HB1, ⟨fun j hj => absurd hj (by omega)⟩⟩
   case round =>
    clear HB1 hc4 hc3
    obtain ⟨i, hi, rfl, HB, HP⟩ := hrel
    obtain ⟨A5, c5, hb5, hg5, hr5⟩ := HB.out.is
    have hc5 := (blk_cell hb5 3).trans rfl
    by_cases hlt : i < ph.length
    ·obtain ⟨ad, rfl, hcs⟩ := Kd.at_string (Kd.C_below hr5 HB.out.bel) (i : Int) (by omega) (by omega)
     rw [Int.toNat_natCast] at hcs
     have HM : Aside0 (rdOf ByteArray.empty ph (i : Int) ∈ ph) := ⟨by rw [rdOf_get ph i hlt]; exact List.getElem_mem hlt⟩
     have HPD := Aside0.mk (show phOk ph i = (phrB (rdOf ByteArray.empty ph (i : Int)) && decide (fnd ph (rdOf ByteArray.empty ph (i : Int)) = (i : Int))) from rfl)
     clear hb5 hg5 hr5
     generalize rdOf ByteArray.empty ph (i : Int) = s at *
     obtain ⟨k1, hk1⟩ := (l03Phrase_ev s (HH.out s HM.out)).rounds
     have HPH := Aside0.mk hk1
     obtain ⟨k2, hk2⟩ := (l03Find_ev (K : Int) (L : Int) (S : Int) ph s (by omega)).rounds
     have HFI := Aside0.mk hk2
     clear hk1 hk2
     cases hp : phrB s with
     | false =>
      have HF := Aside0.mk (show okBook K L S ph = false by
       unfold okBook
       rw [decide_eq_false (p := ∀ i : Nat, i < ph.length → phOk ph i = true) (fun h => by have := h i hlt; rw [HPD.out, hp] at this; simp at this)]
       simp)
      rw [hp] at HPH
      clear hp HFI
      go_wp2_with (go_at_call 48; refine (spec_l03Phrase.calls k1 s false _ HPH.out).mono ?_; rintro e w2 ⟨rfl, ⟨n2, rfl⟩⟩)
      go_ret
      exact ⟨by rw [HF.out]; rfl, HB.out.drewN _⟩
     | true =>
      rw [hp] at HPH
      have HPT := Aside0.mk hp
      clear hp
      by_cases hf : fnd ph s = (i : Int)
      ·have HOK := Aside0.mk (show phOk ph i = true by rw [HPD.out, HPT.out, decide_eq_true hf]; rfl)
       rw [hf] at HFI
       clear hf
       go_wp2_with (first
        | (go_at_call 48; refine (spec_l03Phrase.calls k1 s true _ HPH.out).mono ?_; rintro e w2 ⟨rfl, ⟨n2, rfl⟩⟩)
        | (go_at_call 49; refine (spec_l03Find.calls k2 g K L S ph s _ _ _ _ w0 _ (HB.out.drewN n2).is (HB.out.drewN n2).bel HFI.out).mono ?_; rintro e w3 ⟨rfl, h1, h2, h3⟩; have HB3 := Aside0.mk ((HB.out.drewN n2).call h1 h2 h3); clear h1 h2 h3))
       go_roundw
       case rel => exact ⟨i + 1, by omega, by go_num, HB3, ⟨fun j hj => by
        rcases Nat.lt_or_ge j i with h | h
        ·exact HP.out j h
        ·obtain rfl : j = i := by omega
         exact HOK.out⟩⟩
       case measure => simp [intOf]; omega
      ·have HF := Aside0.mk (show okBook K L S ph = false by
        unfold okBook
        rw [decide_eq_false (p := ∀ i : Nat, i < ph.length → phOk ph i = true) (fun h => by have := h i hlt; rw [HPD.out, decide_eq_false hf] at this; simp at this)]
        simp)
       have hf1 : (fnd ph s != (i : Int)) = true := by rw [bne_iff_ne]; exact hf
       clear hf
       generalize fnd ph s = f at *
       go_wp2_with (first
        | (go_at_call 48; refine (spec_l03Phrase.calls k1 s true _ HPH.out).mono ?_; rintro e w2 ⟨rfl, ⟨n2, rfl⟩⟩)
        | (go_at_call 49; refine (spec_l03Find.calls k2 g K L S ph s _ _ _ _ w0 _ (HB.out.drewN n2).is (HB.out.drewN n2).bel HFI.out).mono ?_; rintro e w3 ⟨rfl, h1, h2, h3⟩; have HB3 := Aside0.mk ((HB.out.drewN n2).call h1 h2 h3); clear h1 h2 h3))
       go_ret
       exact ⟨by rw [HF.out]; rfl, HB3.out⟩
    ·have HI := Aside0.mk (show i = ph.length by omega)
     have HALL := Aside0.mk (show okBook K L S ph = decide (ph.length ≤ (outL K S L).length) by
      unfold okBook
      rw [HZ.out, decide_eq_true h100, decide_eq_true (p := ∀ i : Nat, i < ph.length → phOk ph i = true) (fun j hj => HP.out j (by rw [HI.out]; exact hj)), Int.toNat_natCast, Int.toNat_natCast, Int.toNat_natCast]
      simp)
     have HBL := Aside0.mk hb5
     have HME := Aside0.mk (fun W (hW : BkSt w0 w g K L S ph W) => by
      obtain ⟨A6, c6, hb6, _, _⟩ := hW.is
      exact specMeanings_calls K L S A6 ph.length c6 g W hb6 HK4.out.1.1 HK4.out.1.2 HK4.out.2.1 HK4.out.2.2)
     clear hb5 hg5 hr5
     go_wp2_with fail
     refine start_ (n := 10) (S := fun w' => BkSt w0 w g K L S ph w' ∧ w'.heap[g]? = some (.cells #[.int .i8 (K : Int), .int .i8 (L : Int), .int .i8 (S : Int), .slice A5 ph.length c5] 27 (0, 0))) (ds := []) #[false, false, false, false, false, false, false, false, false, false] (by kernel_rfl) rfl rfl (⟨HB.out.drew, HBL.out⟩) (fun hHeld => ?_)
     refine pure_ (i := 0) (N := some 46) (v := ?_) (a' := ?_) #[true, false, false, false, false, false, false, false, false, false] rfl rfl (by kernel_rfl) (fun _ _ _ h => h) (Or.inl ⟨by rfl, ?_⟩) ?_ ?_
     rotate_left
     ·intro w'
      go_simp
      with_reducible rfl
     rotate_left
     ·simp only [Act.put, List.setIfInBounds_toArray, List.set_cons_zero, List.set_cons_succ, i64_w, i32_w]
      rfl
     refine pure_ (i := 1) (N := some 47) (v := ?_) (a' := ?_) #[true, true, false, false, false, false, false, false, false, false] rfl rfl (by kernel_rfl) (fun _ _ _ h => h) (Or.inl ⟨by rfl, ?_⟩) ?_ ?_
     rotate_left
     ·intro w'
      go_simp
      with_reducible rfl
     rotate_left
     ·simp only [Act.put, List.setIfInBounds_toArray, List.set_cons_zero, List.set_cons_succ, i64_w, i32_w]
      rfl
     refine pure_ (i := 2) (N := some 48) (v := ?_) (a' := ?_) #[true, true, true, false, false, false, false, false, false, false] rfl rfl (by kernel_rfl) (fun _ _ _ h => h) (Or.inl ⟨by rfl, ?_⟩) ?_ ?_
     rotate_left
     ·intro w'
      go_simp
      with_reducible rfl
     rotate_left
     ·simp only [Act.put, List.setIfInBounds_toArray, List.set_cons_zero, List.set_cons_succ, i64_w, i32_w]
      rfl
     refine pure_ (i := 5) (N := some 51) (v := ?_) (a' := ?_) #[true, true, true, false, false, true, false, false, false, false] rfl rfl (by kernel_rfl) (fun _ _ _ h => h) (Or.inl ⟨by rfl, ?_⟩) ?_ ?_
     rotate_left
     ·intro w'
      go_simp
      with_reducible rfl
     rotate_left
     ·simp only [Act.put, List.setIfInBounds_toArray, List.set_cons_zero, List.set_cons_succ, i64_w, i32_w]
      rfl
     refine take_ (i := 3) (N := some 49) (v := .slice A5 ph.length c5) (a' := ?_) #[true, true, true, true, false, true, false, false, false, false] rfl rfl (by kernel_rfl) (fun _ _ _ h => h) (Or.inl ⟨by rfl, ?_⟩) hHeld ?_ ?_
     ·intro w' s0
      exact y_cell (by rfl) (by rfl) oneStrS ((blk_cell s0.2 3).trans rfl)
     rotate_left
     ·simp only [Act.put, List.setIfInBounds_toArray, List.set_cons_zero, List.set_cons_succ, i64_w, i32_w]
      rfl
     refine pure_ (i := 4) (N := some 50) (v := ?_) (a' := ?_) #[true, true, true, true, true, true, false, false, false, false] rfl rfl (by kernel_rfl) (fun _ _ _ h => h) (Or.inl ⟨by rfl, ?_⟩) ?_ ?_
     rotate_left
     ·intro w'
      go_simp
      with_reducible rfl
     rotate_left
     ·simp only [Act.put, List.setIfInBounds_toArray, List.set_cons_zero, List.set_cons_succ, i64_w, i32_w]
      rfl
     refine one_ (i := 6) (N := some 52) #[true, true, true, true, true, true, true, false, false, false] rfl rfl (by kernel_rfl) (by decide) (fun K hK => ?_)
     refine goes_ Try.func50 (by kernel_rfl) rfl #[.pointer (some ⟨g, 0, none⟩)] (by rfl) rfl rfl (by simp only [List.map_toArray, List.map_cons, List.map_nil]; rfl) ?_
     refine (HME.out _ hHeld.1).mono ?_
     rintro e w4 ⟨v, rfl, hsv, hb4⟩
     obtain ⟨A7, c7, rfl, _, _⟩ := Kd.S_reads hsv
     clear hsv
     refine ⟨_, rfl, ?_⟩
     refine hK.out _ _ (⟨hHeld.1.below hb4, (hb4.block g (lt_of_some hHeld.2)).trans hHeld.2⟩) (fun hHeld => ?_)
     clear hK K
     refine norm_ (a' := ?_) ?_ ?_
     rotate_left
     ·show Act.put _ (some 52) _ = _
      simp only [Act.put, List.setIfInBounds_toArray, List.set_cons_zero, List.set_cons_succ, i64_w, i32_w]
      rfl
     refine pure_ (i := 7) (N := some 53) (v := ?_) (a' := ?_) #[true, true, true, true, true, true, true, true, false, false] rfl rfl (by kernel_rfl) (fun _ _ _ h => h) (Or.inl ⟨by rfl, ?_⟩) ?_ ?_
     rotate_left
     ·intro w'
      go_simp
      with_reducible rfl
     rotate_left
     ·simp only [Act.put, List.setIfInBounds_toArray, List.set_cons_zero, List.set_cons_succ, i64_w, i32_w]
      rfl
     refine pure_ (i := 8) (N := some 54) (v := ?_) (a' := ?_) #[true, true, true, true, true, true, true, true, true, false] rfl rfl (by kernel_rfl) (fun _ _ _ h => h) (Or.inl ⟨by rfl, ?_⟩) ?_ ?_
     rotate_left
     ·intro w'
      go_simp
      with_reducible rfl
     rotate_left
     ·simp only [Act.put, List.setIfInBounds_toArray, List.set_cons_zero, List.set_cons_succ, i64_w, i32_w]
      rfl
     refine pure_ (i := 9) (N := some 2) (v := ?_) (a' := ?_) #[true, true, true, true, true, true, true, true, true, true] rfl rfl (by kernel_rfl) (fun _ _ _ h => h) (Or.inl ⟨by rfl, ?_⟩) ?_ ?_
     rotate_left
     ·intro w'
      go_simp
      with_reducible rfl
     rotate_left
     ·simp only [Act.put, List.setIfInBounds_toArray, List.set_cons_zero, List.set_cons_succ, i64_w, i32_w]
      rfl
     refine done_ (by kernel_rfl) ?_
     skip
     go_wp2_with fail
     go_ret
     exact ⟨by rw [HALL.out]; rfl, hHeld.1⟩
  ·have HF := Aside0.mk (show okBook K L S ph = false by unfold okBook; rw [decide_eq_false h100]; simp)
   have hgt : (100 : Int) < (ph.length : Int) := by omega
   have hgt2 := decide_eq_true hgt
   clear h100
   go_enter Try.func47, Try.ntmps47
   go_wp2_with (go_at_call 88; refine (HS.out _ HB0.out.is HB0.out.bel).mono ?_; rintro e w1 ⟨rfl, h1, h2, h3⟩; have HB1 := Aside0.mk (HB0.out.call h1 h2 h3); obtain ⟨A4, c4, hb4, _, _⟩ := h1; have hc4 := (blk_cell hb4 3).trans rfl; clear h2 h3 hb4)
   go_ret
   exact ⟨by rw [HF.out]; rfl, HB1.out⟩
end Go.Proofs.Ytckpfodpfplaeaa.Arr
namespace Go.Proofs.Ytckpfodpfplaeaa.D
open Go.RowKit Go.Proofs.YtckpfodpfplaeaaW.PrintWords Go.Proofs.YtckpfodpfplaeaaW.PrintLast Go.Proofs.YtckpfodpfplaeaaW.PrintMore
attribute [local go_sem] max2_int min2_int max_two min_two max_three min_three max_four min_four
set_option linter.unusedVariables false
set_option linter.unusedSimpArgs false
def impl_isPhrase.l0 : Nat → ByteArray → Int → Int → Option (Bool)
 | 0, _, _, _ => none
 | k + 1, x0, x5, x6 => if x6 < x5 then (if 0 ≤ x6 then (if x6 < (x0.size : Int) then (if (bt x0 x6) < 32 then (some false) else (if (bt x0 x6) > 126 then (some false) else (impl_isPhrase.l0 k x0 x5 (wrap64 (x6 + 1))))) else (none)) else (none)) else ((impl_within.f (x0.size : Int) 1 40).bind fun t193 => (some t193))
def impl_isPhrase.f (k : Nat) (a0 : ByteArray) : Option (Bool) := impl_isPhrase.l0 k a0 (a0.size : Int) 0
set_option maxHeartbeats 8000000 in
set_option maxRecDepth 100000 in
theorem impl_isPhrase.calls (k : Nat) (a0 : ByteArray) (r : Bool) (w : World) (h : impl_isPhrase.f k a0 = some r) :
  Calls Try.prog 54 #[.string a0] w fun e w' => e = .returned (.bool r) ∧ Drawn0 w w' := by
 have H : (impl_isPhrase.l0 k a0 (a0.size : Int) 0) = some r := h
 clear h
 have H' := Aside0.mk H
 clear H
 go_enter Try.func54, Try.ntmps54
 go_wp2
 go_loopg [6] k (fun kq v6 w' => ∃ (x6_1 : Int), v6 = .int .i64 x6_1 ∧ Aside0 (impl_isPhrase.l0 kq a0 (a0.size : Int) x6_1 = some r) ∧ Aside0 (kq ≤ k) ∧ Drawn0 w w')
 case atStart => exact ⟨(0), (by first | rfl | (simp; done) | (simp [*]; done)), H', ⟨Nat.le_refl _⟩, by repeat (first | exact Drawn0.refl _ | apply Drawn0.step)⟩
 case round =>
  clear H'
  obtain ⟨x6_1, rfl, HA, HK1, ⟨m1, rfl⟩⟩ := hrel
  cases gk with
  | zero => exact absurd HA.out (by simp [impl_isPhrase.l0])
  | succ k1 =>
   have H := HA.out
   clear HA
   simp only [impl_isPhrase.l0] at H
   by_cases c2 : x6_1 < (a0.size : Int)
   ·rw [if_pos c2] at H
    have c2b0 : decide (x6_1 < (a0.size : Int)) = true := decide_eq_true c2
    clear c2
    by_cases c3 : 0 ≤ x6_1
    ·rw [if_pos c3] at H
     have c3b0 : decide (0 ≤ x6_1) = true := decide_eq_true c3
     clear c3
     by_cases c4 : x6_1 < (a0.size : Int)
     ·rw [if_pos c4] at H
      have c4b0 : decide (x6_1 < (a0.size : Int)) = true := decide_eq_true c4
      clear c4
      by_cases c6 : (bt a0 x6_1) < 32
      ·rw [if_pos c6] at H
       have c6b0 : decide ((bt a0 x6_1) < 32) = true := decide_eq_true c6
       clear c6
       obtain rfl := Option.some.inj H
       have p5 : 0 ≤ (x6_1 : Int) := of_decide_eq_true (by first | (with_reducible assumption) | assumption)
       have q5 : x6_1 < (a0.size : Int) := of_decide_eq_true (by first | (with_reducible assumption) | assumption)
       have hx5 := bt_at a0 x6_1
       replace p5 := eq_true p5
       replace q5 := eq_true q5
       go_wp2
       go_ret
       exact ⟨by first | rfl | (simp; done) | (simp [*]; done), by repeat (first | exact Drawn0.refl _ | apply Drawn0.step)⟩
      ·rw [if_neg c6] at H
       have c6b0 : decide ((bt a0 x6_1) < 32) = false := decide_eq_false c6
       clear c6
       by_cases c8 : (bt a0 x6_1) > 126
       ·rw [if_pos c8] at H
        have c8b0 : decide (126 < (bt a0 x6_1)) = true := decide_eq_true c8
        clear c8
        obtain rfl := Option.some.inj H
        have p5 : 0 ≤ (x6_1 : Int) := of_decide_eq_true (by first | (with_reducible assumption) | assumption)
        have q5 : x6_1 < (a0.size : Int) := of_decide_eq_true (by first | (with_reducible assumption) | assumption)
        have hx5 := bt_at a0 x6_1
        replace p5 := eq_true p5
        replace q5 := eq_true q5
        have p7 : 0 ≤ (x6_1 : Int) := of_decide_eq_true (by first | (with_reducible assumption) | assumption)
        have q7 : x6_1 < (a0.size : Int) := of_decide_eq_true (by first | (with_reducible assumption) | assumption)
        have hx7 := bt_at a0 x6_1
        replace p7 := eq_true p7
        replace q7 := eq_true q7
        go_wp2
        go_ret
        exact ⟨by first | rfl | (simp; done) | (simp [*]; done), by repeat (first | exact Drawn0.refl _ | apply Drawn0.step)⟩
       ·rw [if_neg c8] at H
        have c8b0 : decide (126 < (bt a0 x6_1)) = false := decide_eq_false c8
        clear c8
        have H' := Aside0.mk H
        clear H
        have p5 : 0 ≤ (x6_1 : Int) := of_decide_eq_true (by first | (with_reducible assumption) | assumption)
        have q5 : x6_1 < (a0.size : Int) := of_decide_eq_true (by first | (with_reducible assumption) | assumption)
        have hx5 := bt_at a0 x6_1
        replace p5 := eq_true p5
        replace q5 := eq_true q5
        have p7 : 0 ≤ (x6_1 : Int) := of_decide_eq_true (by first | (with_reducible assumption) | assumption)
        have q7 : x6_1 < (a0.size : Int) := of_decide_eq_true (by first | (with_reducible assumption) | assumption)
        have hx7 := bt_at a0 x6_1
        replace p7 := eq_true p7
        replace q7 := eq_true q7
        go_wp2
        go_roundg k1
        case measure => have := HK1.out; omega
        case rel => exact ⟨(wrap64 (x6_1 + 1)), (by first | rfl | (simp; done) | (simp [*]; done)), H', ⟨by have := HK1.out; omega⟩, by repeat (first | exact Drawn0.refl _ | apply Drawn0.step)⟩
     ·rw [if_neg c4] at H
      exact absurd H (by simp)
    ·rw [if_neg c3] at H
     exact absurd H (by simp)
   ·rw [if_neg c2] at H
    have c2b0 : decide (x6_1 < (a0.size : Int)) = false := decide_eq_false c2
    clear c2
    replace H := Option.bind_eq_some_iff.mp H
    obtain ⟨t193, A90, H⟩ := H
    replace H : (some t193) = some r := H
    have A9 := Aside0.mk A90
    clear A90
    obtain rfl := Option.some.inj H
    go_wp2_with (first | ((with_reducible refine gate_callee (f := 80) rfl ?_); refine goesL_ (some 22) rfl rfl Try.func80 (by kernel_rfl) rfl #[.int .i64 (a0.size : Int), .int .i64 1, .int .i64 40] rfl (by (try simp only [List.map_toArray, List.map_cons, List.map_nil]); first | done | rfl | (simp only [List.length_drop, List.length_take]; rfl)) ?_; (with_reducible refine (impl_within.calls (a0.size : Int) 1 40 t193 _ A9.out).mono ?_); rintro e w' ⟨rfl, ⟨nd, rfl⟩⟩; refine ⟨_, rfl, ?_⟩))
    go_ret
    exact ⟨by first | rfl | (simp; done) | (simp [*]; done), by repeat (first | exact Drawn0.refl _ | apply Drawn0.step)⟩
def slices_Index_string_string.l0 : Nat → List ByteArray → ByteArray → Int → Int → Option (Int)
 | 0, _, _, _, _ => none
 | k + 1, x0, x1, x7, x8 => if x8 < x7 then (if 0 ≤ x8 then (if x8 < (x0.length : Int) then (if x1.toList = (rdOf ByteArray.empty x0 x8).toList then (some x8) else (slices_Index_string_string.l0 k x0 x1 x7 (wrap64 (x8 + 1)))) else (none)) else (none)) else (some (-1))
def slices_Index_string_string.f (k : Nat) (l0 : List ByteArray) (a1 : ByteArray) : Option (Int) := slices_Index_string_string.l0 k l0 a1 (l0.length : Int) 0
set_option maxHeartbeats 8000000 in
set_option maxRecDepth 100000 in
theorem slices_Index_string_string.calls (k : Nat) (A0 : Option Addr) (c0 : Nat) (l0 : List ByteArray) (a1 : ByteArray) (r : Int) (w : World) (hr0 : Kd.C Kd.string w A0 l0.length l0) (hc0 : l0.length ≤ c0) (h : slices_Index_string_string.f k l0 a1 = some r) :
  Calls Try.prog 68 #[.slice A0 l0.length c0, .string a1] w fun e w' => e = .returned (.int .i64 r) ∧ Drawn0 w w' := by
 have HR0 := Aside0.mk hr0
 have HC0 := Aside0.mk hc0
 clear hr0 hc0
 have H : (slices_Index_string_string.l0 k l0 a1 (l0.length : Int) 0) = some r := h
 clear h
 have H' := Aside0.mk H
 clear H
 go_enter Try.func68, Try.ntmps68
 go_wp2
 go_loopg [8] k (fun kq v8 w' => ∃ (x8_1 : Int), v8 = .int .i64 x8_1 ∧ Aside0 (slices_Index_string_string.l0 kq l0 a1 (l0.length : Int) x8_1 = some r) ∧ Aside0 (kq ≤ k) ∧ Drawn0 w w')
 case atStart => exact ⟨(0), (by first | rfl | (simp; done) | (simp [*]; done)), H', ⟨Nat.le_refl _⟩, by repeat (first | exact Drawn0.refl _ | apply Drawn0.step)⟩
 case round =>
  clear H'
  try clear p2
  obtain ⟨x8_1, rfl, HA, HK1, ⟨m1, rfl⟩⟩ := hrel
  cases gk with
  | zero => exact absurd HA.out (by simp [slices_Index_string_string.l0])
  | succ k1 =>
   have H := HA.out
   clear HA
   simp only [slices_Index_string_string.l0] at H
   by_cases c3 : x8_1 < (l0.length : Int)
   ·rw [if_pos c3] at H
    have c3b0 : decide (x8_1 < (l0.length : Int)) = true := decide_eq_true c3
    clear c3
    by_cases c4 : 0 ≤ x8_1
    ·rw [if_pos c4] at H
     have c4b0 : decide (0 ≤ x8_1) = true := decide_eq_true c4
     clear c4
     by_cases c5 : x8_1 < (l0.length : Int)
     ·rw [if_pos c5] at H
      have c5b0 : decide (x8_1 < (l0.length : Int)) = true := decide_eq_true c5
      clear c5
      by_cases c6 : a1.toList = (rdOf ByteArray.empty l0 x8_1).toList
      ·rw [if_pos c6] at H
       have c6b0 : (a1.toList == (rdOf ByteArray.empty l0 x8_1).toList) = true := beq_iff_eq.mpr c6
       have c6b1 : (a1.toList != (rdOf ByteArray.empty l0 x8_1).toList) = false := bne_eq_false_iff_eq.mpr c6
       clear c6
       obtain rfl := Option.some.inj H
       have p194 : 0 ≤ (x8_1 : Int) := of_decide_eq_true (by first | (with_reducible assumption) | assumption)
       have q194 : x8_1 < (l0.length : Int) := of_decide_eq_true (by first | (with_reducible assumption) | assumption)
       obtain ⟨ad194, e194, hx194_0⟩ := Kd.at_string HR0.out x8_1 p194 q194
       cases e194
       replace p194 := eq_true p194
       replace q194 := eq_true q194
       go_wp2
       go_ret
       exact ⟨by first | rfl | (simp; done) | (simp [*]; done), by repeat (first | exact Drawn0.refl _ | apply Drawn0.step)⟩
      ·rw [if_neg c6] at H
       have c6b0 : (a1.toList == (rdOf ByteArray.empty l0 x8_1).toList) = false := beq_eq_false_iff_ne.mpr c6
       have c6b1 : (a1.toList != (rdOf ByteArray.empty l0 x8_1).toList) = true := bne_iff_ne.mpr c6
       have H' := Aside0.mk H
       clear H
       have p194 : 0 ≤ (x8_1 : Int) := of_decide_eq_true (by first | (with_reducible assumption) | assumption)
       have q194 : x8_1 < (l0.length : Int) := of_decide_eq_true (by first | (with_reducible assumption) | assumption)
       obtain ⟨ad194, e194, hx194_0⟩ := Kd.at_string HR0.out x8_1 p194 q194
       cases e194
       replace p194 := eq_true p194
       replace q194 := eq_true q194
       go_wp2
       go_roundg k1
       case measure => have := HK1.out; omega
       case rel => exact ⟨(wrap64 (x8_1 + 1)), (by first | rfl | (simp; done) | (simp [*]; done)), H', ⟨by have := HK1.out; omega⟩, by repeat (first | exact Drawn0.refl _ | apply Drawn0.step)⟩
     ·rw [if_neg c5] at H
      exact absurd H (by simp)
    ·rw [if_neg c4] at H
     exact absurd H (by simp)
   ·rw [if_neg c3] at H
    have c3b0 : decide (x8_1 < (l0.length : Int)) = false := decide_eq_false c3
    clear c3
    obtain rfl := Option.some.inj H
    go_wp2
    go_ret
    exact ⟨by first | rfl | (simp; done) | (simp [*]; done), by repeat (first | exact Drawn0.refl _ | apply Drawn0.step)⟩
def slices_Contains_string_string.f (k : Nat) (l0 : List ByteArray) (a1 : ByteArray) : Option (Bool) := (slices_Index_string_string.f k l0 a1).bind fun t195 => (some (decide (t195 ≥ 0)))
set_option maxHeartbeats 8000000 in
set_option maxRecDepth 100000 in
theorem slices_Contains_string_string.calls (k : Nat) (A0 : Option Addr) (c0 : Nat) (l0 : List ByteArray) (a1 : ByteArray) (r : Bool) (w : World) (hr0 : Kd.C Kd.string w A0 l0.length l0) (hc0 : l0.length ≤ c0) (h : slices_Contains_string_string.f k l0 a1 = some r) :
  Calls Try.prog 55 #[.slice A0 l0.length c0, .string a1] w fun e w' => e = .returned (.bool r) ∧ Drawn0 w w' := by
 have HR0 := Aside0.mk hr0
 have HC0 := Aside0.mk hc0
 clear hr0 hc0
 have H : ((slices_Index_string_string.f k l0 a1).bind fun t195 => (some (decide (t195 ≥ 0)))) = some r := h
 clear h
 replace H := Option.bind_eq_some_iff.mp H
 obtain ⟨t195, A30, H⟩ := H
 replace H : (some (decide (t195 ≥ 0))) = some r := H
 have A3 := Aside0.mk A30
 clear A30
 obtain rfl := Option.some.inj H
 go_enter Try.func55, Try.ntmps55
 go_wp2_with (first | ((with_reducible refine gate_callee (f := 68) rfl ?_); refine goesL_ (some 7) rfl rfl Try.func68 (by kernel_rfl) rfl #[.slice A0 l0.length c0, .string a1] rfl (by (try simp only [List.map_toArray, List.map_cons, List.map_nil]); first | done | rfl | (simp only [List.length_drop, List.length_take]; rfl)) ?_; (with_reducible refine (slices_Index_string_string.calls k _ _ l0 a1 t195 _ ?side1 ?side2 A3.out).mono ?_); (case side1 => repeat (first | exact HR0.out | (with_reducible refine Kd.C_alloc ?_ _) | (with_reducible refine Kd.C_drewN ?_ _) | (with_reducible refine Kd.C_drew ?_))); (case side2 => exact HC0.out); rintro e w' ⟨rfl, ⟨nd, rfl⟩⟩; refine ⟨_, rfl, ?_⟩))
 go_ret
 exact ⟨by first | rfl | (simp; done) | (simp [*]; done), by repeat (first | exact Drawn0.refl _ | apply Drawn0.step)⟩
def impl_Book_isFrame.f (a0_0 : Int) (a0_1 : Int) (a0_2 : Int) (l0_3 : List ByteArray) : Option (Bool) := (impl_within.f (wrap64 (a0_0)) 1 10).bind fun t197 => (if t197 = true then ((impl_within.f (wrap64 (a0_1)) 1 3).bind fun t198 => (if t198 = true then ((impl_within.f (wrap64 (a0_2)) 0 4).bind fun t199 => (some t199)) else (some false))) else (some false))
set_option maxHeartbeats 8000000 in
set_option maxRecDepth 100000 in
theorem impl_Book_isFrame.calls (a0_0 : Int) (a0_1 : Int) (a0_2 : Int) (A0_3 : Option Addr) (c0_3 : Nat) (l0_3 : List ByteArray) (r : Bool) (w : World) (hr0_3 : Kd.C Kd.string w A0_3 l0_3.length l0_3) (hc0_3 : l0_3.length ≤ c0_3) (h : impl_Book_isFrame.f a0_0 a0_1 a0_2 l0_3 = some r) :
  Calls Try.prog 89 #[.agg #[.int .i8 a0_0, .int .i8 a0_1, .int .i8 a0_2, .slice A0_3 l0_3.length c0_3]] w fun e w' => e = .returned (.bool r) ∧ Below w.heap.size w w' := by
 have hu27 := Try.underlying27
 have HR0_3 := Aside0.mk hr0_3
 have HC0_3 := Aside0.mk hc0_3
 clear hr0_3 hc0_3
 have HB := Aside0.mk (Below.refl w.heap.size w)
 have H : ((impl_within.f (wrap64 (a0_0)) 1 10).bind fun t197 => (if t197 = true then ((impl_within.f (wrap64 (a0_1)) 1 3).bind fun t198 => (if t198 = true then ((impl_within.f (wrap64 (a0_2)) 0 4).bind fun t199 => (some t199)) else (some false))) else (some false))) = some r := h
 clear h
 replace H := Option.bind_eq_some_iff.mp H
 obtain ⟨t197, A20, H⟩ := H
 replace H : (if t197 = true then ((impl_within.f (wrap64 (a0_1)) 1 3).bind fun t198 => (if t198 = true then ((impl_within.f (wrap64 (a0_2)) 0 4).bind fun t199 => (some t199)) else (some false))) else (some false)) = some r := H
 have A2 := Aside0.mk A20
 clear A20
 by_cases c3 : t197 = true
 ·subst c3
  have H1 : ((impl_within.f (wrap64 (a0_1)) 1 3).bind fun t198 => (if t198 = true then ((impl_within.f (wrap64 (a0_2)) 0 4).bind fun t199 => (some t199)) else (some false))) = some r := by rw [if_pos rfl] at H; exact H
  clear H
  have H := H1
  clear H1
  replace H := Option.bind_eq_some_iff.mp H
  obtain ⟨t198, A40, H⟩ := H
  replace H : (if t198 = true then ((impl_within.f (wrap64 (a0_2)) 0 4).bind fun t199 => (some t199)) else (some false)) = some r := H
  have A4 := Aside0.mk A40
  clear A40
  by_cases c5 : t198 = true
  ·subst c5
   have H1 : ((impl_within.f (wrap64 (a0_2)) 0 4).bind fun t199 => (some t199)) = some r := by rw [if_pos rfl] at H; exact H
   clear H
   have H := H1
   clear H1
   replace H := Option.bind_eq_some_iff.mp H
   obtain ⟨t199, A60, H⟩ := H
   replace H : (some t199) = some r := H
   have A6 := Aside0.mk A60
   clear A60
   obtain rfl := Option.some.inj H
   go_enter Try.func89, Try.ntmps89
   go_wp2_with (first | ((with_reducible refine gate_dst (N := 1) rfl ?_); refine box_event ?hg (N := 1) ?hd (cs := #[.int .i8 a0_0, .int .i8 a0_1, .int .i8 a0_2, .slice A0_3 l0_3.length c0_3]) (t := 27) ?hr ?_; (case hd => rfl); (case hg => rfl); (case hr => first | (go_simp; done) | (go_simp; rfl)); intro gb196 hg w7 hbox hb; have n0_ := Aside0.mk (below_step (by repeat (first | (with_reducible first | exact HB.out | apply below_alloc | apply pw_below_drewN | apply below_drew1) | exact HB.out)) hb); have n1_ := Aside0.mk (hbox); have n2_ := Aside0.mk ((by rw [hg]; exact (below_size (by repeat (first | (with_reducible first | exact HB.out | apply below_alloc | apply pw_below_drewN | apply below_drew1) | exact HB.out))) : w.heap.size ≤ gb196)); have n3_ := Aside0.mk ((by rw [hg]; exact (below_size (by repeat (first | (with_reducible first | exact HB.out | apply below_alloc | apply pw_below_drewN | apply below_drew1) | exact HB.out))) : w.heap.size ≤ gb196)); clear HB; have HB := n0_; have BK196 := n1_; have GW196 := n2_; have GE196 := n3_; clear n0_ n1_ n2_ n3_; clear hb hbox hg; have hcz8_0 : w7.cell? ⟨gb196, 0, none⟩ = some (.int .i8 a0_0) := (blk_cell BK196.out 0).trans rfl; have hcz8_1 : w7.cell? ⟨gb196, 1, none⟩ = some (.int .i8 a0_1) := (blk_cell BK196.out 1).trans rfl; have hcz8_2 : w7.cell? ⟨gb196, 2, none⟩ = some (.int .i8 a0_2) := (blk_cell BK196.out 2).trans rfl; have hcz8_3 : w7.cell? ⟨gb196, 3, none⟩ = some (.slice A0_3 l0_3.length c0_3) := (blk_cell BK196.out 3).trans rfl; have hfz8_0 := blk_frozen BK196.out 0; have hfz8_1 := blk_frozen BK196.out 1; have hfz8_2 := blk_frozen BK196.out 2; have hfz8_3 := blk_frozen BK196.out 3) | ((with_reducible refine gate_callee (f := 80) rfl ?_); refine goesL_ (some 6) rfl rfl Try.func80 (by kernel_rfl) rfl #[.int .i64 (wrap64 (a0_0)), .int .i64 1, .int .i64 10] rfl (by (try simp only [List.map_toArray, List.map_cons, List.map_nil]); first | done | rfl | (simp only [List.length_drop, List.length_take]; rfl)) ?_; (with_reducible refine (impl_within.calls (wrap64 (a0_0)) 1 10 true _ A2.out).mono ?_); rintro e w' ⟨rfl, ⟨nd, rfl⟩⟩; refine ⟨_, rfl, ?_⟩) | (go_at_call 80; (with_reducible refine (impl_within.calls (wrap64 (a0_1)) 1 3 true _ A4.out).mono ?_); rintro e w' ⟨rfl, ⟨nd, rfl⟩⟩) | (go_at_call 80; (with_reducible refine (impl_within.calls (wrap64 (a0_2)) 0 4 t199 _ A6.out).mono ?_); rintro e w' ⟨rfl, ⟨nd, rfl⟩⟩))
   go_ret
   exact ⟨by first | rfl | (simp [errW_none, errW_some] <;> rfl) | (simp [*, errW_none, errW_some] <;> rfl), by repeat (first | (with_reducible first | exact HB.out | apply below_alloc | apply pw_below_drewN | apply below_drew1 | refine below_set ?_ GE196.out) | exact HB.out)⟩
  ·replace c5 := Bool.eq_false_iff.mpr c5
   subst c5
   have H1 : (some false) = some r := by rw [if_neg (show ¬ (false = true) by decide)] at H; exact H
   clear H
   have H := H1
   clear H1
   obtain rfl := Option.some.inj H
   go_enter Try.func89, Try.ntmps89
   go_wp2_with (first | ((with_reducible refine gate_dst (N := 1) rfl ?_); refine box_event ?hg (N := 1) ?hd (cs := #[.int .i8 a0_0, .int .i8 a0_1, .int .i8 a0_2, .slice A0_3 l0_3.length c0_3]) (t := 27) ?hr ?_; (case hd => rfl); (case hg => rfl); (case hr => first | (go_simp; done) | (go_simp; rfl)); intro gb196 hg w9 hbox hb; have n0_ := Aside0.mk (below_step (by repeat (first | (with_reducible first | exact HB.out | apply below_alloc | apply pw_below_drewN | apply below_drew1) | exact HB.out)) hb); have n1_ := Aside0.mk (hbox); have n2_ := Aside0.mk ((by rw [hg]; exact (below_size (by repeat (first | (with_reducible first | exact HB.out | apply below_alloc | apply pw_below_drewN | apply below_drew1) | exact HB.out))) : w.heap.size ≤ gb196)); have n3_ := Aside0.mk ((by rw [hg]; exact (below_size (by repeat (first | (with_reducible first | exact HB.out | apply below_alloc | apply pw_below_drewN | apply below_drew1) | exact HB.out))) : w.heap.size ≤ gb196)); clear HB; have HB := n0_; have BK196 := n1_; have GW196 := n2_; have GE196 := n3_; clear n0_ n1_ n2_ n3_; clear hb hbox hg; have hcz10_0 : w9.cell? ⟨gb196, 0, none⟩ = some (.int .i8 a0_0) := (blk_cell BK196.out 0).trans rfl; have hcz10_1 : w9.cell? ⟨gb196, 1, none⟩ = some (.int .i8 a0_1) := (blk_cell BK196.out 1).trans rfl; have hcz10_2 : w9.cell? ⟨gb196, 2, none⟩ = some (.int .i8 a0_2) := (blk_cell BK196.out 2).trans rfl; have hcz10_3 : w9.cell? ⟨gb196, 3, none⟩ = some (.slice A0_3 l0_3.length c0_3) := (blk_cell BK196.out 3).trans rfl; have hfz10_0 := blk_frozen BK196.out 0; have hfz10_1 := blk_frozen BK196.out 1; have hfz10_2 := blk_frozen BK196.out 2; have hfz10_3 := blk_frozen BK196.out 3) | ((with_reducible refine gate_callee (f := 80) rfl ?_); refine goesL_ (some 6) rfl rfl Try.func80 (by kernel_rfl) rfl #[.int .i64 (wrap64 (a0_0)), .int .i64 1, .int .i64 10] rfl (by (try simp only [List.map_toArray, List.map_cons, List.map_nil]); first | done | rfl | (simp only [List.length_drop, List.length_take]; rfl)) ?_; (with_reducible refine (impl_within.calls (wrap64 (a0_0)) 1 10 true _ A2.out).mono ?_); rintro e w' ⟨rfl, ⟨nd, rfl⟩⟩; refine ⟨_, rfl, ?_⟩) | (go_at_call 80; (with_reducible refine (impl_within.calls (wrap64 (a0_1)) 1 3 false _ A4.out).mono ?_); rintro e w' ⟨rfl, ⟨nd, rfl⟩⟩))
   go_ret
   exact ⟨by first | rfl | (simp [errW_none, errW_some] <;> rfl) | (simp [*, errW_none, errW_some] <;> rfl), by repeat (first | (with_reducible first | exact HB.out | apply below_alloc | apply pw_below_drewN | apply below_drew1 | refine below_set ?_ GE196.out) | exact HB.out)⟩
 ·replace c3 := Bool.eq_false_iff.mpr c3
  subst c3
  have H1 : (some false) = some r := by rw [if_neg (show ¬ (false = true) by decide)] at H; exact H
  clear H
  have H := H1
  clear H1
  obtain rfl := Option.some.inj H
  go_enter Try.func89, Try.ntmps89
  go_wp2_with (first | ((with_reducible refine gate_dst (N := 1) rfl ?_); refine box_event ?hg (N := 1) ?hd (cs := #[.int .i8 a0_0, .int .i8 a0_1, .int .i8 a0_2, .slice A0_3 l0_3.length c0_3]) (t := 27) ?hr ?_; (case hd => rfl); (case hg => rfl); (case hr => first | (go_simp; done) | (go_simp; rfl)); intro gb196 hg w11 hbox hb; have n0_ := Aside0.mk (below_step (by repeat (first | (with_reducible first | exact HB.out | apply below_alloc | apply pw_below_drewN | apply below_drew1) | exact HB.out)) hb); have n1_ := Aside0.mk (hbox); have n2_ := Aside0.mk ((by rw [hg]; exact (below_size (by repeat (first | (with_reducible first | exact HB.out | apply below_alloc | apply pw_below_drewN | apply below_drew1) | exact HB.out))) : w.heap.size ≤ gb196)); have n3_ := Aside0.mk ((by rw [hg]; exact (below_size (by repeat (first | (with_reducible first | exact HB.out | apply below_alloc | apply pw_below_drewN | apply below_drew1) | exact HB.out))) : w.heap.size ≤ gb196)); clear HB; have HB := n0_; have BK196 := n1_; have GW196 := n2_; have GE196 := n3_; clear n0_ n1_ n2_ n3_; clear hb hbox hg; have hcz12_0 : w11.cell? ⟨gb196, 0, none⟩ = some (.int .i8 a0_0) := (blk_cell BK196.out 0).trans rfl; have hcz12_1 : w11.cell? ⟨gb196, 1, none⟩ = some (.int .i8 a0_1) := (blk_cell BK196.out 1).trans rfl; have hcz12_2 : w11.cell? ⟨gb196, 2, none⟩ = some (.int .i8 a0_2) := (blk_cell BK196.out 2).trans rfl; have hcz12_3 : w11.cell? ⟨gb196, 3, none⟩ = some (.slice A0_3 l0_3.length c0_3) := (blk_cell BK196.out 3).trans rfl; have hfz12_0 := blk_frozen BK196.out 0; have hfz12_1 := blk_frozen BK196.out 1; have hfz12_2 := blk_frozen BK196.out 2; have hfz12_3 := blk_frozen BK196.out 3) | ((with_reducible refine gate_callee (f := 80) rfl ?_); refine goesL_ (some 6) rfl rfl Try.func80 (by kernel_rfl) rfl #[.int .i64 (wrap64 (a0_0)), .int .i64 1, .int .i64 10] rfl (by (try simp only [List.map_toArray, List.map_cons, List.map_nil]); first | done | rfl | (simp only [List.length_drop, List.length_take]; rfl)) ?_; (with_reducible refine (impl_within.calls (wrap64 (a0_0)) 1 10 false _ A2.out).mono ?_); rintro e w' ⟨rfl, ⟨nd, rfl⟩⟩; refine ⟨_, rfl, ?_⟩))
  go_ret
  exact ⟨by first | rfl | (simp [errW_none, errW_some] <;> rfl) | (simp [*, errW_none, errW_some] <;> rfl), by repeat (first | (with_reducible first | exact HB.out | apply below_alloc | apply pw_below_drewN | apply below_drew1 | refine below_set ?_ GE196.out) | exact HB.out)⟩
end Go.Proofs.Ytckpfodpfplaeaa.D
namespace Go.Proofs.Ytckpfodpfplaeaa.Arr
open Go.RowKit Go.Proofs.YtckpfodpfplaeaaW.PrintWords Go.Proofs.YtckpfodpfplaeaaW.PrintLast Go.Proofs.YtckpfodpfplaeaaW.PrintMore Go.Proofs.Ytckpfodpfplaeaa.U Go.Proofs.Ytckpfodpfplaeaa.D
set_option linter.unusedVariables false
set_option linter.unusedSimpArgs false
theorem okBook_in {K L S : Int} {ph : List ByteArray} (h : okBook K L S ph = true) : ((1 ≤ K ∧ K ≤ 10) ∧ (1 ≤ L ∧ L ≤ 3) ∧ (0 ≤ S ∧ S ≤ 4)) ∧ ph.length ≤ 100 ∧ ph.length ≤ (outL K.toNat S.toNat L.toNat).length := by
 unfold okBook at h
 rw [Bool.and_eq_true, Bool.and_eq_true, Bool.and_eq_true] at h
 exact ⟨of_decide_eq_true h.1.1.1, of_decide_eq_true h.1.1.2, of_decide_eq_true h.2⟩
structure BookP (K L S : Int) (ph : List ByteArray) : Prop where
 k : -128 ≤ K ∧ K ≤ 127
 l : -128 ≤ L ∧ L ≤ 127
 s : -128 ≤ S ∧ S ≤ 127
 n : ph.length ≤ 100000000
 p : ∀ s ∈ ph, s.size ≤ 140737488351232
theorem okSt_calls {K L S : Int} {ph : List ByteArray} (hp : BookP K L S ph) {w0 w W : World} {g : Nat} (h : BkSt w0 w g K L S ph W) : Calls Try.prog 47 #[.pointer (some ⟨g, 0, none⟩)] W fun e w' => e = .returned (.bool (okBook K L S ph)) ∧ BkSt w0 w g K L S ph w' ∧ Below w0.heap.size w0 w' :=
 (l03Ok_calls K L S ph g w0 W h.is h.bel hp.k hp.l hp.s hp.n hp.p).mono fun e w' ⟨h1, h2⟩ => ⟨h1, ⟨h2.is, h2.bel, h.keep.trans h2.keep (Or.inl rfl)⟩, h2.bel⟩
theorem meSt_calls {K L S : Int} {ph : List ByteArray} (hk : okBook K L S ph = true) {w0 w W : World} {g : Nat} (h : BkSt w0 w g K L S ph W) : Calls Try.prog 50 #[.pointer (some ⟨g, 0, none⟩)] W fun e w' => ∃ A c, e = .returned (.slice A (outL K.toNat S.toNat L.toNat).length c) ∧ (outL K.toNat S.toNat L.toNat).length ≤ c ∧ Kd.C kM w' A (outL K.toNat S.toNat L.toNat).length (outL K.toNat S.toNat L.toNat) ∧ Below W.heap.size W w' ∧ BkSt w0 w g K L S ph w' := by
 obtain ⟨hin, _, _⟩ := okBook_in hk
 obtain ⟨A6, c6, hb6, _, _⟩ := h.is
 obtain ⟨K, rfl⟩ := Int.eq_ofNat_of_zero_le (show 0 ≤ K by omega)
 obtain ⟨L, rfl⟩ := Int.eq_ofNat_of_zero_le (show 0 ≤ L by omega)
 obtain ⟨S, rfl⟩ := Int.eq_ofNat_of_zero_le (show 0 ≤ S by omega)
 refine (specMeanings_calls K L S A6 ph.length c6 g W hb6 (by omega) (by omega) (by omega) (by omega)).mono ?_
 rintro e w' ⟨v, rfl, hs, hb⟩
 obtain ⟨A, c, rfl, hc, hC⟩ := Kd.S_reads hs
 exact ⟨A, c, rfl, hc, hC, hb, h.below hb⟩
theorem BkSt.cell3 {w0 w w1 : World} {g : Nat} {K L S : Int} {ph : List ByteArray} (h : BkSt w0 w g K L S ph w1) : ∃ A c, w1.cell? ⟨g, 3, none⟩ = some (.slice A ph.length c) ∧ Kd.C Kd.string w1 A ph.length ph ∧ w1.cell? ⟨g, 2, none⟩ = some (.int .i8 S) := by
 obtain ⟨A, c, hb, _, hr⟩ := h.is
 exact ⟨A, c, (blk_cell hb 3).trans rfl, Kd.C_below hr h.bel, (blk_cell hb 2).trans rfl⟩
end Go.Proofs.Ytckpfodpfplaeaa.Arr
namespace Go.Proofs.Ytckpfodpfplaeaa.Arr
open Go.RowKit Go.Proofs.YtckpfodpfplaeaaW.PrintWords Go.Proofs.YtckpfodpfplaeaaW.PrintLast Go.Proofs.YtckpfodpfplaeaaW.PrintMore Go.Proofs.Ytckpfodpfplaeaa.U Go.Proofs.Ytckpfodpfplaeaa.D
set_option linter.unusedVariables false
set_option linter.unusedSimpArgs false
theorem isPhrase_ev (s : ByteArray) (hs : s.size ≤ 140737488351232) : Ev (fun k => impl_isPhrase.f k s) (phrB s) := by
 unfold impl_isPhrase.f
 refine iter (F := fun k (x : Int) => impl_isPhrase.l0 k s (s.size : Int) x) (fun i x => x = (i : Int) ∧ ∀ j : Nat, j < i → 32 ≤ bt s (j : Int) ∧ bt s (j : Int) ≤ 126) _ s.size ?_ ?_ 0 0 (by omega) ⟨rfl, fun j hj => absurd hj (by omega)⟩
 ·rintro i x hi ⟨rfl, hP⟩
  by_cases h1 : 32 ≤ bt s (i : Int) ∧ bt s (i : Int) ≤ 126
  ·refine .inl ⟨((i + 1 : Nat) : Int), ⟨rfl, fun j hj => ?_⟩, fun hgo => ?_⟩
   ·rcases Nat.lt_or_ge j i with h | h
    ·exact hP j h
    ·obtain rfl : j = i := by omega
     exact h1
   ·have hgo2 : Ev (fun k => impl_isPhrase.l0 k s (s.size : Int) (wrap64 ((i : Int) + 1))) (phrB s) := by rw [w64 (by omega) (by omega)]; exact hgo
    refine Ev.step (fun k => by rw [impl_isPhrase.l0]) ?_
    exact pos (by omega) (pos (by omega) (pos (by omega) (neg (by omega) (neg (by omega) hgo2))))
  ·refine .inr ?_
   have hf : phrB s = false := by
    unfold phrB
    rw [decide_eq_false (fun h => h1 (h i hi))]; rfl
   rw [hf]
   refine Ev.step (fun k => by rw [impl_isPhrase.l0]) ?_
   refine pos (by omega) (pos (by omega) (pos (by omega) ?_))
   by_cases h2 : bt s (i : Int) < 32
   ·exact pos h2 (cons rfl)
   ·exact neg h2 (pos (by omega) (cons rfl))
 ·rintro x ⟨rfl, hP⟩
  refine Ev.step (fun k => by rw [impl_isPhrase.l0]) ?_
  refine neg (by omega) (bindc (within_ev' _ _ _) (cons ?_))
  unfold phrB
  rw [decide_eq_true hP]; rfl
theorem index_ev (ph : List ByteArray) (a : ByteArray) (hn : ph.length ≤ 140737488351232) : Ev (fun k => slices_Index_string_string.f k ph a) (fnd ph a) := by
 unfold slices_Index_string_string.f
 refine iter (F := fun k (x : Int) => slices_Index_string_string.l0 k ph a (ph.length : Int) x) (fun i x => x = (i : Int) ∧ ∀ j : Nat, j < i → ∀ y, ph[j]? = some y → decide (y.toList = a.toList) = false) _ ph.length ?_ ?_ 0 0 (by omega) ⟨rfl, fun j hj => absurd hj (by omega)⟩
 ·rintro i x hi ⟨rfl, hP⟩
  have hg := rdOf_get ph i hi
  by_cases h1 : ph[i].toList = a.toList
  ·refine .inr ?_
   rw [show fnd ph a = (i : Int) from ixa_found _ ph i ph[i] (List.getElem?_eq_getElem hi) hP (decide_eq_true h1)]
   refine Ev.step (fun k => by rw [slices_Index_string_string.l0]) ?_
   exact pos (by omega) (pos (by omega) (pos (by omega) (pos (by rw [hg]; exact h1.symm) (cons rfl))))
  ·refine .inl ⟨((i + 1 : Nat) : Int), ⟨rfl, fun j hj y hy => ?_⟩, fun hgo => ?_⟩
   ·rcases Nat.lt_or_ge j i with h | h
    ·exact hP j h y hy
    ·obtain rfl : j = i := by omega
     rw [List.getElem?_eq_getElem hi] at hy
     rw [← Option.some.inj hy]; exact decide_eq_false h1
   ·have hgo2 : Ev (fun k => slices_Index_string_string.l0 k ph a (ph.length : Int) (wrap64 ((i : Int) + 1))) (fnd ph a) := by rw [w64 (by omega) (by omega)]; exact hgo
    refine Ev.step (fun k => by rw [slices_Index_string_string.l0]) ?_
    exact pos (by omega) (pos (by omega) (pos (by omega) (neg (by rw [hg]; exact fun e => h1 e.symm) hgo2)))
 ·rintro x ⟨rfl, hP⟩
  refine Ev.step (fun k => by rw [slices_Index_string_string.l0]) ?_
  exact neg (by omega) (cons (by rw [show fnd ph a = -1 from ixa_none _ ph hP]))
def hasP (ph : List ByteArray) (a : ByteArray) : Bool := decide (0 ≤ fnd ph a)
theorem contains_ev (ph : List ByteArray) (a : ByteArray) (hn : ph.length ≤ 140737488351232) : Ev (fun k => slices_Contains_string_string.f k ph a) (hasP ph a) := by
 unfold slices_Contains_string_string.f
 exact Ev.bind (index_ev ph a hn) (cons rfl)
theorem ixa_at {α : Type} (p : α → Bool) (l : List α) (i : Nat) (h : ixa p l = (i : Int)) : ∀ j, j < i → ∀ y, l[j]? = some y → p y = false := by
 unfold ixa at h
 cases hf : l.findIdx? p with
 | none => rw [hf] at h; simp at h
 | some k =>
  rw [hf] at h
  simp only [Int.natCast_inj] at h
  subst h
  rw [List.findIdx?_eq_some_iff_getElem] at hf
  obtain ⟨hk, _, hall⟩ := hf
  intro j hj y hy
  have := hall j hj
  rw [List.getElem?_eq_getElem (by omega)] at hy
  rw [← Option.some.inj hy]
  simpa using this
theorem hasP_take (ph : List ByteArray) (i : Nat) (hi : i < ph.length) : hasP (ph.take i) ph[i] = !decide (fnd ph ph[i] = (i : Int)) := by
 unfold hasP fnd
 rw [ixa_any]
 by_cases h : ixa (fun x : ByteArray => decide (x.toList = ph[i].toList)) ph = (i : Int)
 ·rw [decide_eq_true h]
  have hall := ixa_at _ ph i h
  rw [show (!true) = false from rfl, List.any_eq_false]
  intro y hy
  obtain ⟨j, hj, rfl⟩ := List.getElem_of_mem hy
  rw [List.length_take] at hj
  have := hall j (by omega) ph[j] (List.getElem?_eq_getElem (by omega))
  rw [List.getElem_take]
  simpa using this
 ·rw [decide_eq_false h]
  cases ha : (ph.take i).any fun x => decide (x.toList = ph[i].toList) with
  | true => rfl
  | false =>
   exfalso
   rw [List.any_eq_false] at ha
   refine h (ixa_found _ ph i ph[i] (List.getElem?_eq_getElem hi) (fun j hj y hy => ?_) (decide_eq_true rfl))
   have hy2 : y ∈ ph.take i := List.mem_of_getElem? (i := j) (by rw [List.getElem?_take, if_pos hj]; exact hy)
   have := ha y hy2
   simpa using this
theorem phOk_take (ph : List ByteArray) (i : Nat) (hi : i < ph.length) : phOk ph i = (phrB (rdOf ByteArray.empty ph (i : Int)) && !hasP (ph.take i) (rdOf ByteArray.empty ph (i : Int))) := by
 unfold phOk
 rw [rdOf_get ph i hi, hasP_take ph i hi, Bool.not_not]
theorem isFrame_f (K L S : Int) (ph : List ByteArray) (hK : -128 ≤ K ∧ K ≤ 127) (hL : -128 ≤ L ∧ L ≤ 127) (hS : -128 ≤ S ∧ S ≤ 127) : impl_Book_isFrame.f K L S ph = some (sizedB K L S) := by
 unfold impl_Book_isFrame.f sizedB
 rw [w64 (by omega) (by omega), w64 (by omega) (by omega), w64 (by omega) (by omega), within_ev', within_ev', within_ev']
 by_cases h1 : 1 ≤ K ∧ K ≤ 10 <;> by_cases h2 : 1 ≤ L ∧ L ≤ 3 <;> simp [h1, h2]
theorem C_takeS {w : World} {A : Option Addr} {n : Nat} {xs : List ByteArray} (h : Kd.C Kd.string w A n xs) (m : Nat) (hm : m ≤ n) : Kd.C Kd.string w A m (xs.take m) := by
 obtain ⟨h1, h2, h3⟩ := h
 refine ⟨by rw [List.length_take]; omega, by omega, fun h0 => ?_⟩
 obtain ⟨ad, e, hc⟩ := h3 (by omega)
 refine ⟨ad, e, fun j p hj => hc j p ?_⟩
 have hjm := (List.getElem?_eq_some_iff.1 hj).1
 rw [List.length_take] at hjm
 rwa [List.getElem?_take, if_pos (by omega)] at hj
section
variable {P : Program} {o : Oper} {a : Act}
theorem y_row {ty : TypeId} {x : Operand} (ho : o.op = .load ty x) {g m : Nat} (hx : a.eval x = .pointer (some ⟨g, 0, none⟩)) {cs : Array Value} {t : TypeId} {w' : World} (hc : w'.heap[g]? = some (.cells cs t (0, 0))) (hi2 : AggTy P ty m) (hl : cs.size = m) : (execOp a.eval o).run P w' = .ok (.value (.agg cs)) w' := by
 obtain ⟨hd, hi0⟩ := hi2
 have hi : (P.info? ty).map (·.size) = some cs.size := by rw [hl]; exact hi0
 cases hu : P.underlying ty with
 | none => simp [hu] at hd
 | some d =>
  have h := run_loadVar_row (P := P) w' g t ty cs (0, 0) d hc hu (by cases d <;> simp_all) hi
  unfold execOp
  simp only [ho, hx, Instr.loadAt, Instr.sureAddr, Sem.run_bind, Sem.run_pure, Result.andThen_ok, h]
end
theorem aggBook : AggTy Try.prog 27 4 := ⟨by kernel_rfl, by kernel_rfl⟩
def BkIn (w : World) (K L S : Int) (A3 : Option Addr) (n3 c3 : Nat) (w' : World) : Prop := Below w.heap.size w w' ∧ w'.heap[w.heap.size]? = some (.cells #[.int .i8 K, .int .i8 L, .int .i8 S, .slice A3 n3 c3] 27 (0, 0))
theorem BkIn.below {w w1 w2 : World} {K L S : Int} {A3 : Option Addr} {n3 c3 : Nat} (h : BkIn w K L S A3 n3 c3 w1) (hb : Below w1.heap.size w1 w2) : BkIn w K L S A3 n3 c3 w2 := ⟨h.1.trans (hb.mono h.1.size), (hb.block _ (lt_of_some h.2)).trans h.2⟩
theorem BkIn.drew {w w1 : World} {K L S : Int} {A3 : Option Addr} {n3 c3 : Nat} (h : BkIn w K L S A3 n3 c3 w1) : BkIn w K L S A3 n3 c3 w1.drew := ⟨below_drew1 h.1, h.2⟩
theorem bkIn_new (w : World) (K L S : Int) (A3 : Option Addr) (n3 c3 : Nat) : BkIn w K L S A3 n3 c3 (w.alloc (.cells #[.int .i8 K, .int .i8 L, .int .i8 S, .slice A3 n3 c3] 27)) := ⟨below_alloc (Below.refl _ _) _, heap_alloc_new w _⟩
set_option maxHeartbeats 8000000 in
set_option maxRecDepth 100000 in
theorem validBook_calls (bK bL bS : Int) (A3 : Option Addr) (c3 : Nat) (ph : List ByteArray) (w : World) (hp : BookP bK bL bS ph) (hr3 : Kd.C Kd.string w A3 ph.length ph) (hc3 : ph.length ≤ c3) :
  Calls Try.prog 53 #[.agg #[.int .i8 bK, .int .i8 bL, .int .i8 bS, .slice A3 ph.length c3]] w fun e w' => e = .returned (.bool (okBook bK bL bS ph)) ∧ Below w.heap.size w w' := by
 have HF := Aside0.mk (fun W (hW : Below w.heap.size w W) => impl_Book_isFrame.calls bK bL bS A3 c3 ph _ W (Kd.C_below hr3 hW) hc3 (isFrame_f bK bL bS ph hp.k hp.l hp.s))
 have HR3 := Aside0.mk hr3
 have hmx := Kd.C_max hr3
 have hn := hp.n
 have HB0 := Aside0.mk (bkIn_new w bK bL bS A3 ph.length c3)
 cases hz : sizedB bK bL bS with
 | false =>
  have HX := Aside0.mk (show okBook bK bL bS ph = false by unfold okBook; rw [hz]; rfl)
  rw [hz] at HF
  clear hz hr3 hp
  go_enter Try.func53, Try.ntmps53
  go_wp2_with fail
  refine start_ (n := 18) (S := fun w' => BkIn w bK bL bS A3 ph.length c3 w') (ds := []) #[false, false, false, false, false, false, false, false, false, false, false, false, false, false, false, false, false, false] (by kernel_rfl) rfl rfl (HB0.out.drew) (fun hHeld => ?_)
  refine take_ (i := 0) (N := some 5) (v := .agg #[.int .i8 bK, .int .i8 bL, .int .i8 bS, .slice A3 ph.length c3]) (a' := ?_) #[true, false, false, false, false, false, false, false, false, false, false, false, false, false, false, false, false, false] rfl rfl (by kernel_rfl) (fun _ _ _ h => h) (Or.inl ⟨by rfl, ?_⟩) hHeld ?_ ?_
  ·intro w' s0
   exact y_row (by rfl) (by rfl) s0.2 aggBook rfl
  rotate_left
  ·simp only [Act.put, List.setIfInBounds_toArray, List.set_cons_zero, List.set_cons_succ, i64_w, i32_w]
   rfl
  refine one_ (i := 1) (N := some 6) #[true, true, false, false, false, false, false, false, false, false, false, false, false, false, false, false, false, false] rfl rfl (by kernel_rfl) (by decide) (fun K hK => ?_)
  refine goes_ Try.func89 (by kernel_rfl) rfl #[.agg #[.int .i8 bK, .int .i8 bL, .int .i8 bS, .slice A3 ph.length c3]] (by rfl) rfl rfl (by simp only [List.map_toArray, List.map_cons, List.map_nil]; rfl) ?_
  refine (HF.out _ hHeld.1).mono ?_
  rintro e w1 ⟨rfl, hb1⟩
  refine ⟨_, rfl, ?_⟩
  refine hK.out _ _ (hHeld.below hb1) (fun hHeld => ?_)
  clear hK K
  refine norm_ (a' := ?_) ?_ ?_
  rotate_left
  ·show Act.put _ (some 6) _ = _
   simp only [Act.put, List.setIfInBounds_toArray, List.set_cons_zero, List.set_cons_succ, i64_w, i32_w]
   rfl
  refine pure_ (i := 2) (N := some 7) (v := ?_) (a' := ?_) #[true, true, true, false, false, false, false, false, false, false, false, false, false, false, false, false, false, false] rfl rfl (by kernel_rfl) (fun _ _ _ h => h) (Or.inl ⟨by rfl, ?_⟩) ?_ ?_
  rotate_left
  ·intro w'
   go_simp
   with_reducible rfl
  rotate_left
  ·simp only [Act.put, List.setIfInBounds_toArray, List.set_cons_zero, List.set_cons_succ, i64_w, i32_w]
   rfl
  refine pure_ (i := 3) (N := some 8) (v := ?_) (a' := ?_) #[true, true, true, true, false, false, false, false, false, false, false, false, false, false, false, false, false, false] rfl rfl (by kernel_rfl) (fun _ _ _ h => h) (Or.inl ⟨by rfl, ?_⟩) ?_ ?_
  rotate_left
  ·intro w'
   go_simp
   with_reducible rfl
  rotate_left
  ·simp only [Act.put, List.setIfInBounds_toArray, List.set_cons_zero, List.set_cons_succ, i64_w, i32_w]
   rfl
  refine pure_ (i := 4) (N := some 9) (v := undef) (a' := ?_) #[true, true, true, true, true, false, false, false, false, false, false, false, false, false, false, false, false, false] rfl rfl (by kernel_rfl) (fun _ _ _ h => h) (Or.inr ⟨by rfl, rfl⟩) ?_ ?_
  rotate_left
  ·simp only [Act.put, List.setIfInBounds_toArray, List.set_cons_zero, List.set_cons_succ, i64_w, i32_w]
   rfl
  refine pure_ (i := 5) (N := some 10) (v := undef) (a' := ?_) #[true, true, true, true, true, true, false, false, false, false, false, false, false, false, false, false, false, false] rfl rfl (by kernel_rfl) (fun _ _ _ h => h) (Or.inr ⟨by rfl, rfl⟩) ?_ ?_
  rotate_left
  ·simp only [Act.put, List.setIfInBounds_toArray, List.set_cons_zero, List.set_cons_succ, i64_w, i32_w]
   rfl
  refine pure_ (i := 6) (N := some 11) (v := undef) (a' := ?_) #[true, true, true, true, true, true, true, false, false, false, false, false, false, false, false, false, false, false] rfl rfl (by kernel_rfl) (fun _ _ _ h => h) (Or.inr ⟨by rfl, rfl⟩) ?_ ?_
  rotate_left
  ·simp only [Act.put, List.setIfInBounds_toArray, List.set_cons_zero, List.set_cons_succ, i64_w, i32_w]
   rfl
  refine pure_ (i := 7) (N := some 12) (v := undef) (a' := ?_) #[true, true, true, true, true, true, true, true, false, false, false, false, false, false, false, false, false, false] rfl rfl (by kernel_rfl) (fun _ _ _ h => h) (Or.inr ⟨by rfl, rfl⟩) ?_ ?_
  rotate_left
  ·simp only [Act.put, List.setIfInBounds_toArray, List.set_cons_zero, List.set_cons_succ, i64_w, i32_w]
   rfl
  refine pure_ (i := 8) (N := some 13) (v := ?_) (a' := ?_) #[true, true, true, true, true, true, true, true, true, false, false, false, false, false, false, false, false, false] rfl rfl (by kernel_rfl) (fun _ _ _ h => h) (Or.inl ⟨by rfl, ?_⟩) ?_ ?_
  rotate_left
  ·intro w'
   go_simp
   with_reducible rfl
  rotate_left
  ·simp only [Act.put, List.setIfInBounds_toArray, List.set_cons_zero, List.set_cons_succ, i64_w, i32_w]
   rfl
  refine pure_ (i := 9) (N := some 14) (v := ?_) (a' := ?_) #[true, true, true, true, true, true, true, true, true, true, false, false, false, false, false, false, false, false] rfl rfl (by kernel_rfl) (fun _ _ _ h => h) (Or.inl ⟨by rfl, ?_⟩) ?_ ?_
  rotate_left
  ·intro w'
   go_simp
   with_reducible rfl
  rotate_left
  ·simp only [Act.put, List.setIfInBounds_toArray, List.set_cons_zero, List.set_cons_succ, i64_w, i32_w]
   rfl
  refine pure_ (i := 10) (N := some 15) (v := undef) (a' := ?_) #[true, true, true, true, true, true, true, true, true, true, true, false, false, false, false, false, false, false] rfl rfl (by kernel_rfl) (fun _ _ _ h => h) (Or.inr ⟨by rfl, rfl⟩) ?_ ?_
  rotate_left
  ·simp only [Act.put, List.setIfInBounds_toArray, List.set_cons_zero, List.set_cons_succ, i64_w, i32_w]
   rfl
  refine pure_ (i := 11) (N := some 16) (v := undef) (a' := ?_) #[true, true, true, true, true, true, true, true, true, true, true, true, false, false, false, false, false, false] rfl rfl (by kernel_rfl) (fun _ _ _ h => h) (Or.inr ⟨by rfl, rfl⟩) ?_ ?_
  rotate_left
  ·simp only [Act.put, List.setIfInBounds_toArray, List.set_cons_zero, List.set_cons_succ, i64_w, i32_w]
   rfl
  refine pure_ (i := 12) (N := some 17) (v := undef) (a' := ?_) #[true, true, true, true, true, true, true, true, true, true, true, true, true, false, false, false, false, false] rfl rfl (by kernel_rfl) (fun _ _ _ h => h) (Or.inr ⟨by rfl, rfl⟩) ?_ ?_
  rotate_left
  ·simp only [Act.put, List.setIfInBounds_toArray, List.set_cons_zero, List.set_cons_succ, i64_w, i32_w]
   rfl
  refine pure_ (i := 13) (N := some 18) (v := undef) (a' := ?_) #[true, true, true, true, true, true, true, true, true, true, true, true, true, true, false, false, false, false] rfl rfl (by kernel_rfl) (fun _ _ _ h => h) (Or.inr ⟨by rfl, rfl⟩) ?_ ?_
  rotate_left
  ·simp only [Act.put, List.setIfInBounds_toArray, List.set_cons_zero, List.set_cons_succ, i64_w, i32_w]
   rfl
  refine pure_ (i := 14) (N := some 19) (v := undef) (a' := ?_) #[true, true, true, true, true, true, true, true, true, true, true, true, true, true, true, false, false, false] rfl rfl (by kernel_rfl) (fun _ _ _ h => h) (Or.inr ⟨by rfl, rfl⟩) ?_ ?_
  rotate_left
  ·simp only [Act.put, List.setIfInBounds_toArray, List.set_cons_zero, List.set_cons_succ, i64_w, i32_w]
   rfl
  refine pure_ (i := 15) (N := some 20) (v := undef) (a' := ?_) #[true, true, true, true, true, true, true, true, true, true, true, true, true, true, true, true, false, false] rfl rfl (by kernel_rfl) (fun _ _ _ h => h) (Or.inr ⟨by rfl, rfl⟩) ?_ ?_
  rotate_left
  ·simp only [Act.put, List.setIfInBounds_toArray, List.set_cons_zero, List.set_cons_succ, i64_w, i32_w]
   rfl
  refine pure_ (i := 16) (N := some 21) (v := undef) (a' := ?_) #[true, true, true, true, true, true, true, true, true, true, true, true, true, true, true, true, true, false] rfl rfl (by kernel_rfl) (fun _ _ _ h => h) (Or.inr ⟨by rfl, rfl⟩) ?_ ?_
  rotate_left
  ·simp only [Act.put, List.setIfInBounds_toArray, List.set_cons_zero, List.set_cons_succ, i64_w, i32_w]
   rfl
  refine pure_ (i := 17) (N := some 22) (v := ?_) (a' := ?_) #[true, true, true, true, true, true, true, true, true, true, true, true, true, true, true, true, true, true] rfl rfl (by kernel_rfl) (fun _ _ _ h => h) (Or.inl ⟨by rfl, ?_⟩) ?_ ?_
  rotate_left
  ·intro w'
   go_simp
   with_reducible rfl
  rotate_left
  ·simp only [Act.put, List.setIfInBounds_toArray, List.set_cons_zero, List.set_cons_succ, i64_w, i32_w]
   rfl
  refine done_ (by kernel_rfl) ?_
  skip
  go_wp2_with fail
  go_ret
  exact ⟨by rw [HX.out]; rfl, hHeld.1⟩
 | true =>
  have HZ := Aside0.mk hz
  have hzz := of_decide_eq_true hz
  rw [hz] at HF
  by_cases h100 : ph.length ≤ 100
  ·have hle : ¬ (100 : Int) < (ph.length : Int) := by omega
   have hle2 := decide_eq_false hle
   have HME : Aside0 (∀ W, Calls Try.prog 56 #[.agg #[.int .i8 bK, .int .i8 bL, .int .i8 bS, .slice A3 ph.length c3]] W fun e w' => ∃ A c, e = .returned (.slice A (outL bK.toNat bS.toNat bL.toNat).length c) ∧ Below W.heap.size W w') := ⟨fun W => by
    obtain ⟨bK, rfl⟩ := Int.eq_ofNat_of_zero_le (show 0 ≤ bK by omega)
    obtain ⟨bL, rfl⟩ := Int.eq_ofNat_of_zero_le (show 0 ≤ bL by omega)
    obtain ⟨bS, rfl⟩ := Int.eq_ofNat_of_zero_le (show 0 ≤ bS by omega)
    refine (implMeanings_calls bK bL bS A3 ph.length c3 W (by omega) (by omega) (by omega) (by omega)).mono ?_
    rintro e w' ⟨v, rfl, hs, hb⟩
    obtain ⟨A, c, rfl, _, _⟩ := Kd.S_reads hs
    exact ⟨A, c, rfl, hb⟩⟩
   have HOB := Aside0.mk (show okBook bK bL bS ph = (decide (∀ i : Nat, i < ph.length → phOk ph i = true) && decide (ph.length ≤ (outL bK.toNat bS.toNat bL.toNat).length)) by
    unfold okBook; rw [hz, decide_eq_true h100]; simp)
   have hle3 := outL_le bK.toNat bS.toNat (by omega) bL.toNat (by omega)
   have hout : (outL bK.toNat bS.toNat bL.toNat).length ≤ 3000 := by omega
   have HPS := Aside0.mk hp.p
   clear hz hr3 hzz hp hle3
   generalize outL bK.toNat bS.toNat bL.toNat = O at *
   by_cases hlo : ph.length ≤ O.length
   ·have hlo1 : ¬ ((O.length : Int) < (ph.length : Int)) := by omega
    have hlo2 := decide_eq_false hlo1
    have hlo3 := decide_eq_false (show ¬ O.length < ph.length by omega)
    have HOB2 := Aside0.mk (show okBook bK bL bS ph = decide (∀ i : Nat, i < ph.length → phOk ph i = true) by rw [HOB.out, decide_eq_true hlo]; simp)
    go_enter Try.func53, Try.ntmps53
    go_wp2_with fail
    refine start_ (n := 18) (S := fun w' => BkIn w bK bL bS A3 ph.length c3 w') (ds := []) #[false, false, false, false, false, false, false, false, false, false, false, false, false, false, false, false, false, false] (by kernel_rfl) rfl rfl (HB0.out.drew) (fun hHeld => ?_)
    refine take_ (i := 0) (N := some 5) (v := .agg #[.int .i8 bK, .int .i8 bL, .int .i8 bS, .slice A3 ph.length c3]) (a' := ?_) #[true, false, false, false, false, false, false, false, false, false, false, false, false, false, false, false, false, false] rfl rfl (by kernel_rfl) (fun _ _ _ h => h) (Or.inl ⟨by rfl, ?_⟩) hHeld ?_ ?_
    ·intro w' s0
     exact y_row (by rfl) (by rfl) s0.2 aggBook rfl
    rotate_left
    ·simp only [Act.put, List.setIfInBounds_toArray, List.set_cons_zero, List.set_cons_succ, i64_w, i32_w]
     rfl
    refine one_ (i := 1) (N := some 6) #[true, true, false, false, false, false, false, false, false, false, false, false, false, false, false, false, false, false] rfl rfl (by kernel_rfl) (by decide) (fun K hK => ?_)
    refine goes_ Try.func89 (by kernel_rfl) rfl #[.agg #[.int .i8 bK, .int .i8 bL, .int .i8 bS, .slice A3 ph.length c3]] (by rfl) rfl rfl (by simp only [List.map_toArray, List.map_cons, List.map_nil]; rfl) ?_
    refine (HF.out _ hHeld.1).mono ?_
    rintro e w1 ⟨rfl, hb1⟩
    refine ⟨_, rfl, ?_⟩
    refine hK.out _ _ (hHeld.below hb1) (fun hHeld => ?_)
    clear hK K
    refine norm_ (a' := ?_) ?_ ?_
    rotate_left
    ·show Act.put _ (some 6) _ = _
     simp only [Act.put, List.setIfInBounds_toArray, List.set_cons_zero, List.set_cons_succ, i64_w, i32_w]
     rfl
    refine pure_ (i := 2) (N := some 7) (v := ?_) (a' := ?_) #[true, true, true, false, false, false, false, false, false, false, false, false, false, false, false, false, false, false] rfl rfl (by kernel_rfl) (fun _ _ _ h => h) (Or.inl ⟨by rfl, ?_⟩) ?_ ?_
    rotate_left
    ·intro w'
     go_simp
     with_reducible rfl
    rotate_left
    ·simp only [Act.put, List.setIfInBounds_toArray, List.set_cons_zero, List.set_cons_succ, i64_w, i32_w]
     rfl
    refine pure_ (i := 3) (N := some 8) (v := ?_) (a' := ?_) #[true, true, true, true, false, false, false, false, false, false, false, false, false, false, false, false, false, false] rfl rfl (by kernel_rfl) (fun _ _ _ h => h) (Or.inl ⟨by rfl, ?_⟩) ?_ ?_
    rotate_left
    ·intro w'
     go_simp
     with_reducible rfl
    rotate_left
    ·simp only [Act.put, List.setIfInBounds_toArray, List.set_cons_zero, List.set_cons_succ, i64_w, i32_w]
     rfl
    refine pure_ (i := 4) (N := some 9) (v := ?_) (a' := ?_) #[true, true, true, true, true, false, false, false, false, false, false, false, false, false, false, false, false, false] rfl rfl (by kernel_rfl) (fun _ _ _ h => h) (Or.inl ⟨by rfl, ?_⟩) ?_ ?_
    rotate_left
    ·intro w'
     go_simp
     with_reducible rfl
    rotate_left
    ·simp only [Act.put, List.setIfInBounds_toArray, List.set_cons_zero, List.set_cons_succ, i64_w, i32_w]
     rfl
    refine take_ (i := 5) (N := some 10) (v := .slice A3 ph.length c3) (a' := ?_) #[true, true, true, true, true, true, false, false, false, false, false, false, false, false, false, false, false, false] rfl rfl (by kernel_rfl) (fun _ _ _ h => h) (Or.inl ⟨by rfl, ?_⟩) hHeld ?_ ?_
    ·intro w' s0
     exact y_cell (by rfl) (by rfl) oneStrS ((cell_of_row _ w.heap.size 3 _ _ (0, 0) s0.2).trans rfl)
    rotate_left
    ·simp only [Act.put, List.setIfInBounds_toArray, List.set_cons_zero, List.set_cons_succ, i64_w, i32_w]
     rfl
    refine pure_ (i := 6) (N := some 11) (v := ?_) (a' := ?_) #[true, true, true, true, true, true, true, false, false, false, false, false, false, false, false, false, false, false] rfl rfl (by kernel_rfl) (fun _ _ _ h => h) (Or.inl ⟨by rfl, ?_⟩) ?_ ?_
    rotate_left
    ·intro w'
     go_simp
     with_reducible rfl
    rotate_left
    ·simp only [Act.put, List.setIfInBounds_toArray, List.set_cons_zero, List.set_cons_succ, i64_w, i32_w]
     rfl
    refine pure_ (i := 7) (N := some 12) (v := ?_) (a' := ?_) #[true, true, true, true, true, true, true, true, false, false, false, false, false, false, false, false, false, false] rfl rfl (by kernel_rfl) (fun _ _ _ h => h) (Or.inl ⟨by rfl, ?_⟩) ?_ ?_
    rotate_left
    ·intro w'
     go_simp
     with_reducible rfl
    rotate_left
    ·simp only [Act.put, List.setIfInBounds_toArray, List.set_cons_zero, List.set_cons_succ, i64_w, i32_w]
     rfl
    refine pure_ (i := 8) (N := some 13) (v := ?_) (a' := ?_) #[true, true, true, true, true, true, true, true, true, false, false, false, false, false, false, false, false, false] rfl rfl (by kernel_rfl) (fun _ _ _ h => h) (Or.inl ⟨by rfl, ?_⟩) ?_ ?_
    rotate_left
    ·intro w'
     go_simp
     with_reducible rfl
    rotate_left
    ·simp only [Act.put, List.setIfInBounds_toArray, List.set_cons_zero, List.set_cons_succ, i64_w, i32_w]
     rfl
    refine pure_ (i := 9) (N := some 14) (v := ?_) (a' := ?_) #[true, true, true, true, true, true, true, true, true, true, false, false, false, false, false, false, false, false] rfl rfl (by kernel_rfl) (fun _ _ _ h => h) (Or.inl ⟨by rfl, ?_⟩) ?_ ?_
    rotate_left
    ·intro w'
     go_simp
     with_reducible rfl
    rotate_left
    ·simp only [Act.put, List.setIfInBounds_toArray, List.set_cons_zero, List.set_cons_succ, i64_w, i32_w]
     rfl
    refine pure_ (i := 10) (N := some 15) (v := ?_) (a' := ?_) #[true, true, true, true, true, true, true, true, true, true, true, false, false, false, false, false, false, false] rfl rfl (by kernel_rfl) (fun _ _ _ h => h) (Or.inl ⟨by rfl, ?_⟩) ?_ ?_
    rotate_left
    ·intro w'
     go_simp
     with_reducible rfl
    rotate_left
    ·simp only [Act.put, List.setIfInBounds_toArray, List.set_cons_zero, List.set_cons_succ, i64_w, i32_w]
     rfl
    refine take_ (i := 11) (N := some 16) (v := .slice A3 ph.length c3) (a' := ?_) #[true, true, true, true, true, true, true, true, true, true, true, true, false, false, false, false, false, false] rfl rfl (by kernel_rfl) (fun _ _ _ h => h) (Or.inl ⟨by rfl, ?_⟩) hHeld ?_ ?_
    ·intro w' s0
     exact y_cell (by rfl) (by rfl) oneStrS ((cell_of_row _ w.heap.size 3 _ _ (0, 0) s0.2).trans rfl)
    rotate_left
    ·simp only [Act.put, List.setIfInBounds_toArray, List.set_cons_zero, List.set_cons_succ, i64_w, i32_w]
     rfl
    refine pure_ (i := 12) (N := some 17) (v := ?_) (a' := ?_) #[true, true, true, true, true, true, true, true, true, true, true, true, true, false, false, false, false, false] rfl rfl (by kernel_rfl) (fun _ _ _ h => h) (Or.inl ⟨by rfl, ?_⟩) ?_ ?_
    rotate_left
    ·intro w'
     go_simp
     with_reducible rfl
    rotate_left
    ·simp only [Act.put, List.setIfInBounds_toArray, List.set_cons_zero, List.set_cons_succ, i64_w, i32_w]
     rfl
    refine take_ (i := 13) (N := some 18) (v := .agg #[.int .i8 bK, .int .i8 bL, .int .i8 bS, .slice A3 ph.length c3]) (a' := ?_) #[true, true, true, true, true, true, true, true, true, true, true, true, true, true, false, false, false, false] rfl rfl (by kernel_rfl) (fun _ _ _ h => h) (Or.inl ⟨by rfl, ?_⟩) hHeld ?_ ?_
    ·intro w' s0
     exact y_row (by rfl) (by rfl) s0.2 aggBook rfl
    rotate_left
    ·simp only [Act.put, List.setIfInBounds_toArray, List.set_cons_zero, List.set_cons_succ, i64_w, i32_w]
     rfl
    refine one_ (i := 14) (N := some 19) #[true, true, true, true, true, true, true, true, true, true, true, true, true, true, true, false, false, false] rfl rfl (by kernel_rfl) (by decide) (fun K hK => ?_)
    refine goes_ Try.func56 (by kernel_rfl) rfl #[.agg #[.int .i8 bK, .int .i8 bL, .int .i8 bS, .slice A3 ph.length c3]] (by rfl) rfl rfl (by simp only [List.map_toArray, List.map_cons, List.map_nil]; rfl) ?_
    refine (HME.out _).mono ?_
    rintro e w2 ⟨A7, c7, rfl, hb2⟩
    refine ⟨_, rfl, ?_⟩
    refine hK.out _ _ (hHeld.below hb2) (fun hHeld => ?_)
    clear hK K
    refine norm_ (a' := ?_) ?_ ?_
    rotate_left
    ·show Act.put _ (some 19) _ = _
     simp only [Act.put, List.setIfInBounds_toArray, List.set_cons_zero, List.set_cons_succ, i64_w, i32_w]
     rfl
    refine pure_ (i := 15) (N := some 20) (v := ?_) (a' := ?_) #[true, true, true, true, true, true, true, true, true, true, true, true, true, true, true, true, false, false] rfl rfl (by kernel_rfl) (fun _ _ _ h => h) (Or.inl ⟨by rfl, ?_⟩) ?_ ?_
    rotate_left
    ·intro w'
     go_simp
     with_reducible rfl
    rotate_left
    ·simp only [Act.put, List.setIfInBounds_toArray, List.set_cons_zero, List.set_cons_succ, i64_w, i32_w]
     rfl
    refine pure_ (i := 16) (N := some 21) (v := ?_) (a' := ?_) #[true, true, true, true, true, true, true, true, true, true, true, true, true, true, true, true, true, false] rfl rfl (by kernel_rfl) (fun _ _ _ h => h) (Or.inl ⟨by rfl, ?_⟩) ?_ ?_
    rotate_left
    ·intro w'
     go_simp
     with_reducible rfl
    rotate_left
    ·simp only [Act.put, List.setIfInBounds_toArray, List.set_cons_zero, List.set_cons_succ, i64_w, i32_w]
     rfl
    refine pure_ (i := 17) (N := some 22) (v := ?_) (a' := ?_) #[true, true, true, true, true, true, true, true, true, true, true, true, true, true, true, true, true, true] rfl rfl (by kernel_rfl) (fun _ _ _ h => h) (Or.inl ⟨by rfl, ?_⟩) ?_ ?_
    rotate_left
    ·intro w'
     go_simp
     with_reducible rfl
    rotate_left
    ·simp only [Act.put, List.setIfInBounds_toArray, List.set_cons_zero, List.set_cons_succ, i64_w, i32_w]
     rfl
    refine done_ (by kernel_rfl) ?_
    skip
    have HB2 := Aside0.mk hHeld.1
    have HG2 := Aside0.mk hHeld.2
    have hc23 := cell_of_row _ w.heap.size 3 _ _ (0, 0) hHeld.2
    clear hHeld
    go_wp2_with fail
    go_loopw [26, 3, 4] (fun v26 _ _ wr => ∃ i : Nat, i ≤ ph.length ∧ v26 = .int .i64 i ∧ Aside0 (Below w.heap.size w wr) ∧ Aside0 (wr.heap[w.heap.size]? = some (.cells #[.int .i8 bK, .int .i8 bL, .int .i8 bS, .slice A3 ph.length c3] 27 (0, 0))) ∧ Aside0 (∀ j : Nat, j < i → phOk ph j = true)) (fun v26 _ _ _ => ph.length - (intOf v26).toNat)
    case atStart => exact ⟨0, by omega, rfl, HB2, HG2, ⟨fun j hj => absurd hj (by omega)⟩⟩
    case round =>
     clear HB2 HG2 hc23
     obtain ⟨i, hi, rfl, HB, HG, HP⟩ := hrel
     by_cases hlt : i < ph.length
     ·have hcg := cell_of_row wr w.heap.size 3 _ _ (0, 0) HG.out
      obtain ⟨ad, rfl, hcs⟩ := Kd.at_string (Kd.C_below HR3.out HB.out) (i : Int) (by omega) (by omega)
      rw [Int.toNat_natCast] at hcs
      have HM : Aside0 (rdOf ByteArray.empty ph (i : Int) ∈ ph) := ⟨by rw [rdOf_get ph i hlt]; exact List.getElem_mem hlt⟩
      have HPD := Aside0.mk (phOk_take ph i hlt)
      generalize rdOf ByteArray.empty ph (i : Int) = s at *
      obtain ⟨k1, hk1⟩ := (isPhrase_ev s (HPS.out s HM.out)).rounds
      have HPH := Aside0.mk hk1
      obtain ⟨k2, hk2⟩ := (contains_ev (ph.take i) s (by rw [List.length_take]; omega)).rounds
      have HCN := Aside0.mk hk2
      have htl : (ph.take i).length = i := by rw [List.length_take]; omega
      have HCC : Aside0 (∀ W, Below w.heap.size w W → Calls Try.prog 55 #[.slice (some ad) i c3, .string s] W fun e w' => e = .returned (.bool (hasP (ph.take i) s)) ∧ Drawn0 W w') := ⟨fun W hW => by
       have := slices_Contains_string_string.calls k2 (some ad) c3 (ph.take i) s (hasP (ph.take i) s) W (by rw [htl]; exact C_takeS (Kd.C_below HR3.out hW) i (by omega)) (by omega) HCN.out
       rw [htl] at this
       exact this⟩
      clear hk1 hk2 htl HCN
      cases hph : phrB s with
      | false =>
       have HFX := Aside0.mk (show okBook bK bL bS ph = false by
        rw [HOB2.out, decide_eq_false (p := ∀ i : Nat, i < ph.length → phOk ph i = true) (fun h => by have := h i hlt; rw [HPD.out, hph] at this; simp at this)])
       rw [hph] at HPH
       clear hph
       go_wp2_with (go_at_call 54; refine (impl_isPhrase.calls k1 s false _ HPH.out).mono ?_; rintro e w5 ⟨rfl, ⟨n5, rfl⟩⟩)
       go_ret
       exact ⟨by rw [HFX.out]; rfl, pw_below_drewN HB.out _⟩
      | true =>
       rw [hph] at HPH
       have HPT := Aside0.mk hph
       clear hph
       have hic : i ≤ c3 := by omega
       have hic2 : (i : Int) ≤ (c3 : Int) := by omega
       cases hh : hasP (ph.take i) s with
       | true =>
        have HFX := Aside0.mk (show okBook bK bL bS ph = false by
         rw [HOB2.out, decide_eq_false (p := ∀ i : Nat, i < ph.length → phOk ph i = true) (fun h => by have := h i hlt; rw [HPD.out, hh] at this; simp at this)])
        rw [hh] at HCC
        clear hh
        go_wp2_with (first
         | (go_at_call 54; refine (impl_isPhrase.calls k1 s true _ HPH.out).mono ?_; rintro e w5 ⟨rfl, ⟨n5, rfl⟩⟩)
         | (go_at_call 55; refine (HCC.out _ (pw_below_drewN HB.out _)).mono ?_; rintro e w6 ⟨rfl, ⟨n6, rfl⟩⟩))
        go_ret
        exact ⟨by rw [HFX.out]; rfl, pw_below_drewN HB.out _⟩
       | false =>
        have HOKI := Aside0.mk (show phOk ph i = true by rw [HPD.out, HPT.out, hh]; rfl)
        rw [hh] at HCC
        clear hh
        go_wp2_with (first
         | (go_at_call 54; refine (impl_isPhrase.calls k1 s true _ HPH.out).mono ?_; rintro e w5 ⟨rfl, ⟨n5, rfl⟩⟩)
         | (go_at_call 55; refine (HCC.out _ (pw_below_drewN HB.out _)).mono ?_; rintro e w6 ⟨rfl, ⟨n6, rfl⟩⟩))
        go_roundw
        case rel => exact ⟨i + 1, by omega, by go_num, ⟨pw_below_drewN HB.out _⟩, HG, ⟨fun j hj => by
         rcases Nat.lt_or_ge j i with h | h
         ·exact HP.out j h
         ·obtain rfl : j = i := by omega
          exact HOKI.out⟩⟩
        case measure => simp [intOf]; omega
     ·have HI := Aside0.mk (show i = ph.length by omega)
      go_wp2_with fail
      go_ret
      exact ⟨by rw [HOB2.out, decide_eq_true (p := ∀ i : Nat, i < ph.length → phOk ph i = true) (fun j hj => HP.out j (by rw [HI.out]; exact hj))]; rfl, HB.out⟩
   ·have hlo1 : (O.length : Int) < (ph.length : Int) := by omega
    have hlo2 := decide_eq_true hlo1
    have hlo3 := decide_eq_true (show O.length < ph.length by omega)
    have HFX := Aside0.mk (show okBook bK bL bS ph = false by rw [HOB.out, decide_eq_false hlo]; simp)
    clear hlo
    go_enter Try.func53, Try.ntmps53
    go_wp2_with fail
    refine start_ (n := 18) (S := fun w' => BkIn w bK bL bS A3 ph.length c3 w') (ds := []) #[false, false, false, false, false, false, false, false, false, false, false, false, false, false, false, false, false, false] (by kernel_rfl) rfl rfl (HB0.out.drew) (fun hHeld => ?_)
    refine take_ (i := 0) (N := some 5) (v := .agg #[.int .i8 bK, .int .i8 bL, .int .i8 bS, .slice A3 ph.length c3]) (a' := ?_) #[true, false, false, false, false, false, false, false, false, false, false, false, false, false, false, false, false, false] rfl rfl (by kernel_rfl) (fun _ _ _ h => h) (Or.inl ⟨by rfl, ?_⟩) hHeld ?_ ?_
    ·intro w' s0
     exact y_row (by rfl) (by rfl) s0.2 aggBook rfl
    rotate_left
    ·simp only [Act.put, List.setIfInBounds_toArray, List.set_cons_zero, List.set_cons_succ, i64_w, i32_w]
     rfl
    refine one_ (i := 1) (N := some 6) #[true, true, false, false, false, false, false, false, false, false, false, false, false, false, false, false, false, false] rfl rfl (by kernel_rfl) (by decide) (fun K hK => ?_)
    refine goes_ Try.func89 (by kernel_rfl) rfl #[.agg #[.int .i8 bK, .int .i8 bL, .int .i8 bS, .slice A3 ph.length c3]] (by rfl) rfl rfl (by simp only [List.map_toArray, List.map_cons, List.map_nil]; rfl) ?_
    refine (HF.out _ hHeld.1).mono ?_
    rintro e w1 ⟨rfl, hb1⟩
    refine ⟨_, rfl, ?_⟩
    refine hK.out _ _ (hHeld.below hb1) (fun hHeld => ?_)
    clear hK K
    refine norm_ (a' := ?_) ?_ ?_
    rotate_left
    ·show Act.put _ (some 6) _ = _
     simp only [Act.put, List.setIfInBounds_toArray, List.set_cons_zero, List.set_cons_succ, i64_w, i32_w]
     rfl
    refine pure_ (i := 2) (N := some 7) (v := ?_) (a' := ?_) #[true, true, true, false, false, false, false, false, false, false, false, false, false, false, false, false, false, false] rfl rfl (by kernel_rfl) (fun _ _ _ h => h) (Or.inl ⟨by rfl, ?_⟩) ?_ ?_
    rotate_left
    ·intro w'
     go_simp
     with_reducible rfl
    rotate_left
    ·simp only [Act.put, List.setIfInBounds_toArray, List.set_cons_zero, List.set_cons_succ, i64_w, i32_w]
     rfl
    refine pure_ (i := 3) (N := some 8) (v := ?_) (a' := ?_) #[true, true, true, true, false, false, false, false, false, false, false, false, false, false, false, false, false, false] rfl rfl (by kernel_rfl) (fun _ _ _ h => h) (Or.inl ⟨by rfl, ?_⟩) ?_ ?_
    rotate_left
    ·intro w'
     go_simp
     with_reducible rfl
    rotate_left
    ·simp only [Act.put, List.setIfInBounds_toArray, List.set_cons_zero, List.set_cons_succ, i64_w, i32_w]
     rfl
    refine pure_ (i := 4) (N := some 9) (v := ?_) (a' := ?_) #[true, true, true, true, true, false, false, false, false, false, false, false, false, false, false, false, false, false] rfl rfl (by kernel_rfl) (fun _ _ _ h => h) (Or.inl ⟨by rfl, ?_⟩) ?_ ?_
    rotate_left
    ·intro w'
     go_simp
     with_reducible rfl
    rotate_left
    ·simp only [Act.put, List.setIfInBounds_toArray, List.set_cons_zero, List.set_cons_succ, i64_w, i32_w]
     rfl
    refine take_ (i := 5) (N := some 10) (v := .slice A3 ph.length c3) (a' := ?_) #[true, true, true, true, true, true, false, false, false, false, false, false, false, false, false, false, false, false] rfl rfl (by kernel_rfl) (fun _ _ _ h => h) (Or.inl ⟨by rfl, ?_⟩) hHeld ?_ ?_
    ·intro w' s0
     exact y_cell (by rfl) (by rfl) oneStrS ((cell_of_row _ w.heap.size 3 _ _ (0, 0) s0.2).trans rfl)
    rotate_left
    ·simp only [Act.put, List.setIfInBounds_toArray, List.set_cons_zero, List.set_cons_succ, i64_w, i32_w]
     rfl
    refine pure_ (i := 6) (N := some 11) (v := ?_) (a' := ?_) #[true, true, true, true, true, true, true, false, false, false, false, false, false, false, false, false, false, false] rfl rfl (by kernel_rfl) (fun _ _ _ h => h) (Or.inl ⟨by rfl, ?_⟩) ?_ ?_
    rotate_left
    ·intro w'
     go_simp
     with_reducible rfl
    rotate_left
    ·simp only [Act.put, List.setIfInBounds_toArray, List.set_cons_zero, List.set_cons_succ, i64_w, i32_w]
     rfl
    refine pure_ (i := 7) (N := some 12) (v := ?_) (a' := ?_) #[true, true, true, true, true, true, true, true, false, false, false, false, false, false, false, false, false, false] rfl rfl (by kernel_rfl) (fun _ _ _ h => h) (Or.inl ⟨by rfl, ?_⟩) ?_ ?_
    rotate_left
    ·intro w'
     go_simp
     with_reducible rfl
    rotate_left
    ·simp only [Act.put, List.setIfInBounds_toArray, List.set_cons_zero, List.set_cons_succ, i64_w, i32_w]
     rfl
    refine pure_ (i := 8) (N := some 13) (v := ?_) (a' := ?_) #[true, true, true, true, true, true, true, true, true, false, false, false, false, false, false, false, false, false] rfl rfl (by kernel_rfl) (fun _ _ _ h => h) (Or.inl ⟨by rfl, ?_⟩) ?_ ?_
    rotate_left
    ·intro w'
     go_simp
     with_reducible rfl
    rotate_left
    ·simp only [Act.put, List.setIfInBounds_toArray, List.set_cons_zero, List.set_cons_succ, i64_w, i32_w]
     rfl
    refine pure_ (i := 9) (N := some 14) (v := ?_) (a' := ?_) #[true, true, true, true, true, true, true, true, true, true, false, false, false, false, false, false, false, false] rfl rfl (by kernel_rfl) (fun _ _ _ h => h) (Or.inl ⟨by rfl, ?_⟩) ?_ ?_
    rotate_left
    ·intro w'
     go_simp
     with_reducible rfl
    rotate_left
    ·simp only [Act.put, List.setIfInBounds_toArray, List.set_cons_zero, List.set_cons_succ, i64_w, i32_w]
     rfl
    refine pure_ (i := 10) (N := some 15) (v := ?_) (a' := ?_) #[true, true, true, true, true, true, true, true, true, true, true, false, false, false, false, false, false, false] rfl rfl (by kernel_rfl) (fun _ _ _ h => h) (Or.inl ⟨by rfl, ?_⟩) ?_ ?_
    rotate_left
    ·intro w'
     go_simp
     with_reducible rfl
    rotate_left
    ·simp only [Act.put, List.setIfInBounds_toArray, List.set_cons_zero, List.set_cons_succ, i64_w, i32_w]
     rfl
    refine take_ (i := 11) (N := some 16) (v := .slice A3 ph.length c3) (a' := ?_) #[true, true, true, true, true, true, true, true, true, true, true, true, false, false, false, false, false, false] rfl rfl (by kernel_rfl) (fun _ _ _ h => h) (Or.inl ⟨by rfl, ?_⟩) hHeld ?_ ?_
    ·intro w' s0
     exact y_cell (by rfl) (by rfl) oneStrS ((cell_of_row _ w.heap.size 3 _ _ (0, 0) s0.2).trans rfl)
    rotate_left
    ·simp only [Act.put, List.setIfInBounds_toArray, List.set_cons_zero, List.set_cons_succ, i64_w, i32_w]
     rfl
    refine pure_ (i := 12) (N := some 17) (v := ?_) (a' := ?_) #[true, true, true, true, true, true, true, true, true, true, true, true, true, false, false, false, false, false] rfl rfl (by kernel_rfl) (fun _ _ _ h => h) (Or.inl ⟨by rfl, ?_⟩) ?_ ?_
    rotate_left
    ·intro w'
     go_simp
     with_reducible rfl
    rotate_left
    ·simp only [Act.put, List.setIfInBounds_toArray, List.set_cons_zero, List.set_cons_succ, i64_w, i32_w]
     rfl
    refine take_ (i := 13) (N := some 18) (v := .agg #[.int .i8 bK, .int .i8 bL, .int .i8 bS, .slice A3 ph.length c3]) (a' := ?_) #[true, true, true, true, true, true, true, true, true, true, true, true, true, true, false, false, false, false] rfl rfl (by kernel_rfl) (fun _ _ _ h => h) (Or.inl ⟨by rfl, ?_⟩) hHeld ?_ ?_
    ·intro w' s0
     exact y_row (by rfl) (by rfl) s0.2 aggBook rfl
    rotate_left
    ·simp only [Act.put, List.setIfInBounds_toArray, List.set_cons_zero, List.set_cons_succ, i64_w, i32_w]
     rfl
    refine one_ (i := 14) (N := some 19) #[true, true, true, true, true, true, true, true, true, true, true, true, true, true, true, false, false, false] rfl rfl (by kernel_rfl) (by decide) (fun K hK => ?_)
    refine goes_ Try.func56 (by kernel_rfl) rfl #[.agg #[.int .i8 bK, .int .i8 bL, .int .i8 bS, .slice A3 ph.length c3]] (by rfl) rfl rfl (by simp only [List.map_toArray, List.map_cons, List.map_nil]; rfl) ?_
    refine (HME.out _).mono ?_
    rintro e w2 ⟨A7, c7, rfl, hb2⟩
    refine ⟨_, rfl, ?_⟩
    refine hK.out _ _ (hHeld.below hb2) (fun hHeld => ?_)
    clear hK K
    refine norm_ (a' := ?_) ?_ ?_
    rotate_left
    ·show Act.put _ (some 19) _ = _
     simp only [Act.put, List.setIfInBounds_toArray, List.set_cons_zero, List.set_cons_succ, i64_w, i32_w]
     rfl
    refine pure_ (i := 15) (N := some 20) (v := ?_) (a' := ?_) #[true, true, true, true, true, true, true, true, true, true, true, true, true, true, true, true, false, false] rfl rfl (by kernel_rfl) (fun _ _ _ h => h) (Or.inl ⟨by rfl, ?_⟩) ?_ ?_
    rotate_left
    ·intro w'
     go_simp
     with_reducible rfl
    rotate_left
    ·simp only [Act.put, List.setIfInBounds_toArray, List.set_cons_zero, List.set_cons_succ, i64_w, i32_w]
     rfl
    refine pure_ (i := 16) (N := some 21) (v := ?_) (a' := ?_) #[true, true, true, true, true, true, true, true, true, true, true, true, true, true, true, true, true, false] rfl rfl (by kernel_rfl) (fun _ _ _ h => h) (Or.inl ⟨by rfl, ?_⟩) ?_ ?_
    rotate_left
    ·intro w'
     go_simp
     with_reducible rfl
    rotate_left
    ·simp only [Act.put, List.setIfInBounds_toArray, List.set_cons_zero, List.set_cons_succ, i64_w, i32_w]
     rfl
    refine pure_ (i := 17) (N := some 22) (v := ?_) (a' := ?_) #[true, true, true, true, true, true, true, true, true, true, true, true, true, true, true, true, true, true] rfl rfl (by kernel_rfl) (fun _ _ _ h => h) (Or.inl ⟨by rfl, ?_⟩) ?_ ?_
    rotate_left
    ·intro w'
     go_simp
     with_reducible rfl
    rotate_left
    ·simp only [Act.put, List.setIfInBounds_toArray, List.set_cons_zero, List.set_cons_succ, i64_w, i32_w]
     rfl
    refine done_ (by kernel_rfl) ?_
    skip
    have HB2 := Aside0.mk hHeld.1
    have HG2 := Aside0.mk hHeld.2
    have hc23 := cell_of_row _ w.heap.size 3 _ _ (0, 0) hHeld.2
    clear hHeld
    go_wp2_with fail
    go_ret
    exact ⟨by rw [HFX.out]; rfl, HB2.out⟩
  ·have hgt : (100 : Int) < (ph.length : Int) := by omega
   have hgt2 := decide_eq_true hgt
   have HFX := Aside0.mk (show okBook bK bL bS ph = false by unfold okBook; rw [decide_eq_false h100]; simp)
   clear hz hr3 hp h100 hzz
   go_enter Try.func53, Try.ntmps53
   go_wp2_with fail
   refine start_ (n := 18) (S := fun w' => BkIn w bK bL bS A3 ph.length c3 w') (ds := []) #[false, false, false, false, false, false, false, false, false, false, false, false, false, false, false, false, false, false] (by kernel_rfl) rfl rfl (HB0.out.drew) (fun hHeld => ?_)
   refine take_ (i := 0) (N := some 5) (v := .agg #[.int .i8 bK, .int .i8 bL, .int .i8 bS, .slice A3 ph.length c3]) (a' := ?_) #[true, false, false, false, false, false, false, false, false, false, false, false, false, false, false, false, false, false] rfl rfl (by kernel_rfl) (fun _ _ _ h => h) (Or.inl ⟨by rfl, ?_⟩) hHeld ?_ ?_
   ·intro w' s0
    exact y_row (by rfl) (by rfl) s0.2 aggBook rfl
   rotate_left
   ·simp only [Act.put, List.setIfInBounds_toArray, List.set_cons_zero, List.set_cons_succ, i64_w, i32_w]
    rfl
   refine one_ (i := 1) (N := some 6) #[true, true, false, false, false, false, false, false, false, false, false, false, false, false, false, false, false, false] rfl rfl (by kernel_rfl) (by decide) (fun K hK => ?_)
   refine goes_ Try.func89 (by kernel_rfl) rfl #[.agg #[.int .i8 bK, .int .i8 bL, .int .i8 bS, .slice A3 ph.length c3]] (by rfl) rfl rfl (by simp only [List.map_toArray, List.map_cons, List.map_nil]; rfl) ?_
   refine (HF.out _ hHeld.1).mono ?_
   rintro e w1 ⟨rfl, hb1⟩
   refine ⟨_, rfl, ?_⟩
   refine hK.out _ _ (hHeld.below hb1) (fun hHeld => ?_)
   clear hK K
   refine norm_ (a' := ?_) ?_ ?_
   rotate_left
   ·show Act.put _ (some 6) _ = _
    simp only [Act.put, List.setIfInBounds_toArray, List.set_cons_zero, List.set_cons_succ, i64_w, i32_w]
    rfl
   refine pure_ (i := 2) (N := some 7) (v := ?_) (a' := ?_) #[true, true, true, false, false, false, false, false, false, false, false, false, false, false, false, false, false, false] rfl rfl (by kernel_rfl) (fun _ _ _ h => h) (Or.inl ⟨by rfl, ?_⟩) ?_ ?_
   rotate_left
   ·intro w'
    go_simp
    with_reducible rfl
   rotate_left
   ·simp only [Act.put, List.setIfInBounds_toArray, List.set_cons_zero, List.set_cons_succ, i64_w, i32_w]
    rfl
   refine pure_ (i := 3) (N := some 8) (v := ?_) (a' := ?_) #[true, true, true, true, false, false, false, false, false, false, false, false, false, false, false, false, false, false] rfl rfl (by kernel_rfl) (fun _ _ _ h => h) (Or.inl ⟨by rfl, ?_⟩) ?_ ?_
   rotate_left
   ·intro w'
    go_simp
    with_reducible rfl
   rotate_left
   ·simp only [Act.put, List.setIfInBounds_toArray, List.set_cons_zero, List.set_cons_succ, i64_w, i32_w]
    rfl
   refine pure_ (i := 4) (N := some 9) (v := ?_) (a' := ?_) #[true, true, true, true, true, false, false, false, false, false, false, false, false, false, false, false, false, false] rfl rfl (by kernel_rfl) (fun _ _ _ h => h) (Or.inl ⟨by rfl, ?_⟩) ?_ ?_
   rotate_left
   ·intro w'
    go_simp
    with_reducible rfl
   rotate_left
   ·simp only [Act.put, List.setIfInBounds_toArray, List.set_cons_zero, List.set_cons_succ, i64_w, i32_w]
    rfl
   refine take_ (i := 5) (N := some 10) (v := .slice A3 ph.length c3) (a' := ?_) #[true, true, true, true, true, true, false, false, false, false, false, false, false, false, false, false, false, false] rfl rfl (by kernel_rfl) (fun _ _ _ h => h) (Or.inl ⟨by rfl, ?_⟩) hHeld ?_ ?_
   ·intro w' s0
    exact y_cell (by rfl) (by rfl) oneStrS ((cell_of_row _ w.heap.size 3 _ _ (0, 0) s0.2).trans rfl)
   rotate_left
   ·simp only [Act.put, List.setIfInBounds_toArray, List.set_cons_zero, List.set_cons_succ, i64_w, i32_w]
    rfl
   refine pure_ (i := 6) (N := some 11) (v := ?_) (a' := ?_) #[true, true, true, true, true, true, true, false, false, false, false, false, false, false, false, false, false, false] rfl rfl (by kernel_rfl) (fun _ _ _ h => h) (Or.inl ⟨by rfl, ?_⟩) ?_ ?_
   rotate_left
   ·intro w'
    go_simp
    with_reducible rfl
   rotate_left
   ·simp only [Act.put, List.setIfInBounds_toArray, List.set_cons_zero, List.set_cons_succ, i64_w, i32_w]
    rfl
   refine pure_ (i := 7) (N := some 12) (v := ?_) (a' := ?_) #[true, true, true, true, true, true, true, true, false, false, false, false, false, false, false, false, false, false] rfl rfl (by kernel_rfl) (fun _ _ _ h => h) (Or.inl ⟨by rfl, ?_⟩) ?_ ?_
   rotate_left
   ·intro w'
    go_simp
    with_reducible rfl
   rotate_left
   ·simp only [Act.put, List.setIfInBounds_toArray, List.set_cons_zero, List.set_cons_succ, i64_w, i32_w]
    rfl
   refine pure_ (i := 8) (N := some 13) (v := ?_) (a' := ?_) #[true, true, true, true, true, true, true, true, true, false, false, false, false, false, false, false, false, false] rfl rfl (by kernel_rfl) (fun _ _ _ h => h) (Or.inl ⟨by rfl, ?_⟩) ?_ ?_
   rotate_left
   ·intro w'
    go_simp
    with_reducible rfl
   rotate_left
   ·simp only [Act.put, List.setIfInBounds_toArray, List.set_cons_zero, List.set_cons_succ, i64_w, i32_w]
    rfl
   refine pure_ (i := 9) (N := some 14) (v := ?_) (a' := ?_) #[true, true, true, true, true, true, true, true, true, true, false, false, false, false, false, false, false, false] rfl rfl (by kernel_rfl) (fun _ _ _ h => h) (Or.inl ⟨by rfl, ?_⟩) ?_ ?_
   rotate_left
   ·intro w'
    go_simp
    with_reducible rfl
   rotate_left
   ·simp only [Act.put, List.setIfInBounds_toArray, List.set_cons_zero, List.set_cons_succ, i64_w, i32_w]
    rfl
   refine pure_ (i := 10) (N := some 15) (v := undef) (a' := ?_) #[true, true, true, true, true, true, true, true, true, true, true, false, false, false, false, false, false, false] rfl rfl (by kernel_rfl) (fun _ _ _ h => h) (Or.inr ⟨by rfl, rfl⟩) ?_ ?_
   rotate_left
   ·simp only [Act.put, List.setIfInBounds_toArray, List.set_cons_zero, List.set_cons_succ, i64_w, i32_w]
    rfl
   refine pure_ (i := 11) (N := some 16) (v := undef) (a' := ?_) #[true, true, true, true, true, true, true, true, true, true, true, true, false, false, false, false, false, false] rfl rfl (by kernel_rfl) (fun _ _ _ h => h) (Or.inr ⟨by rfl, rfl⟩) ?_ ?_
   rotate_left
   ·simp only [Act.put, List.setIfInBounds_toArray, List.set_cons_zero, List.set_cons_succ, i64_w, i32_w]
    rfl
   refine pure_ (i := 12) (N := some 17) (v := undef) (a' := ?_) #[true, true, true, true, true, true, true, true, true, true, true, true, true, false, false, false, false, false] rfl rfl (by kernel_rfl) (fun _ _ _ h => h) (Or.inr ⟨by rfl, rfl⟩) ?_ ?_
   rotate_left
   ·simp only [Act.put, List.setIfInBounds_toArray, List.set_cons_zero, List.set_cons_succ, i64_w, i32_w]
    rfl
   refine pure_ (i := 13) (N := some 18) (v := undef) (a' := ?_) #[true, true, true, true, true, true, true, true, true, true, true, true, true, true, false, false, false, false] rfl rfl (by kernel_rfl) (fun _ _ _ h => h) (Or.inr ⟨by rfl, rfl⟩) ?_ ?_
   rotate_left
   ·simp only [Act.put, List.setIfInBounds_toArray, List.set_cons_zero, List.set_cons_succ, i64_w, i32_w]
    rfl
   refine pure_ (i := 14) (N := some 19) (v := undef) (a' := ?_) #[true, true, true, true, true, true, true, true, true, true, true, true, true, true, true, false, false, false] rfl rfl (by kernel_rfl) (fun _ _ _ h => h) (Or.inr ⟨by rfl, rfl⟩) ?_ ?_
   rotate_left
   ·simp only [Act.put, List.setIfInBounds_toArray, List.set_cons_zero, List.set_cons_succ, i64_w, i32_w]
    rfl
   refine pure_ (i := 15) (N := some 20) (v := undef) (a' := ?_) #[true, true, true, true, true, true, true, true, true, true, true, true, true, true, true, true, false, false] rfl rfl (by kernel_rfl) (fun _ _ _ h => h) (Or.inr ⟨by rfl, rfl⟩) ?_ ?_
   rotate_left
   ·simp only [Act.put, List.setIfInBounds_toArray, List.set_cons_zero, List.set_cons_succ, i64_w, i32_w]
    rfl
   refine pure_ (i := 16) (N := some 21) (v := undef) (a' := ?_) #[true, true, true, true, true, true, true, true, true, true, true, true, true, true, true, true, true, false] rfl rfl (by kernel_rfl) (fun _ _ _ h => h) (Or.inr ⟨by rfl, rfl⟩) ?_ ?_
   rotate_left
   ·simp only [Act.put, List.setIfInBounds_toArray, List.set_cons_zero, List.set_cons_succ, i64_w, i32_w]
    rfl
   refine pure_ (i := 17) (N := some 22) (v := ?_) (a' := ?_) #[true, true, true, true, true, true, true, true, true, true, true, true, true, true, true, true, true, true] rfl rfl (by kernel_rfl) (fun _ _ _ h => h) (Or.inl ⟨by rfl, ?_⟩) ?_ ?_
   rotate_left
   ·intro w'
    go_simp
    with_reducible rfl
   rotate_left
   ·simp only [Act.put, List.setIfInBounds_toArray, List.set_cons_zero, List.set_cons_succ, i64_w, i32_w]
    rfl
   refine done_ (by kernel_rfl) ?_
   skip
   go_wp2_with fail
   go_ret
   exact ⟨by rw [HFX.out]; rfl, hHeld.1⟩
end Go.Proofs.Ytckpfodpfplaeaa.Arr
namespace Go.Proofs.Ytckpfodpfplaeaa.Arr
open Go.RowKit Go.Proofs.Ytckpfodpfplaeaa.U
set_option linter.unusedVariables false
set_option linter.unusedSimpArgs false
def smallPh (ph : List ByteArray) : Bool := decide (ph.length ≤ 100000000) && ph.all fun s => decide (s.size ≤ 140737488351232)
def in8 (a : Int) : Bool := decide (-128 ≤ a ∧ a ≤ 127)
theorem bookP_of {K L S : Int} {ph : List ByteArray} (h : (smallPh ph && (in8 K && (in8 L && in8 S))) = true) : BookP K L S ph := by
 simp only [Bool.and_eq_true] at h
 obtain ⟨h1, h2, h3, h4⟩ := h
 unfold in8 at h2 h3 h4
 unfold smallPh at h1
 rw [Bool.and_eq_true, decide_eq_true_eq, List.all_eq_true] at h1
 rw [decide_eq_true_eq] at h2 h3 h4
 exact ⟨h2, h3, h4, h1.1, fun s hm => by have := h1.2 s hm; rwa [decide_eq_true_eq] at this⟩
end Go.Proofs.Ytckpfodpfplaeaa.Arr
namespace Go.Proofs.Ytckpfodpfplaeaa.Arr
open Go.RowKit Go.Proofs.YtckpfodpfplaeaaW.PrintWords Go.Proofs.YtckpfodpfplaeaaW.PrintLast Go.Proofs.YtckpfodpfplaeaaW.PrintMore Go.Proofs.Ytckpfodpfplaeaa.U Go.Proofs.Ytckpfodpfplaeaa.D
set_option linter.unusedVariables false
set_option linter.unusedSimpArgs false
section
variable {P : Program} {o : Oper} {a : Act} {w : World}
theorem y_storeRow {ty : TypeId} {x y : Operand} (ho : o.op = .store ty x y) {g : Nat} {cs old : Array Value} {t : TypeId} (hx : a.eval x = .pointer (some ⟨g, 0, none⟩)) (hy : a.eval y = .agg cs) (hb : w.heap[g]? = some (.cells old t (0, 0)))
  (hi : (P.info? ty).map (·.size) = some cs.size) (hold : old.size = cs.size) (h1 : cs.all (·.oneCell') = true) : (execOp a.eval o).run P w = .ok .skip (w.setRow g cs) := by
 have h := run_storeVar_row (P := P) w g t ty old cs hb hi hold h1
 unfold execOp
 simp only [ho, hx, hy, Instr.storeAt, Instr.sureAddr, Sem.run_bind, Sem.run_pure, Result.andThen_ok, h]
theorem ret_row {fn : Func} {R : Ending → World → Prop} {p : Tmp} {ty : TypeId} {g m : Nat} {cs : Array Value} {t : TypeId} (hb : w.heap[g]? = some (.cells cs t (0, 0))) (h : fn.results = #[.cell p ty]) (hp : a.tmps.getD p undef = .pointer (some ⟨g, 0, none⟩))
  (hi2 : AggTy P ty m) (hl : cs.size = m) (hd : a.defers = []) (hR : R (.returned (.agg cs)) w) : bodyPost P fn R .ret a w := by
 obtain ⟨hd2, hi0⟩ := hi2
 have hi : (P.info? ty).map (·.size) = some cs.size := by rw [hl]; exact hi0
 cases hu : P.underlying ty with
 | none => simp [hu] at hd2
 | some d =>
  have hld := run_loadVar_row (P := P) w g t ty cs (0, 0) d hb hu (by cases d <;> simp_all) hi
  refine bodyPost_ret (v := .agg cs) ?_ hd hR
  have hp' : a.tmps[p]?.getD undef = .pointer (some ⟨g, 0, none⟩) := by simpa using hp
  simp [results, h, hp', asAddr, hld]
theorem ret_row_tmp {fn : Func} {R : Ending → World → Prop} {p u : Tmp} {ty : TypeId} {g m : Nat} {cs : Array Value} {t : TypeId} (hb : w.heap[g]? = some (.cells cs t (0, 0))) (h : fn.results = #[.cell p ty, .tmp u]) (hp : a.tmps.getD p undef = .pointer (some ⟨g, 0, none⟩))
  (hi2 : AggTy P ty m) (hl : cs.size = m) (hd : a.defers = []) (hR : R (.returned (.tuple #[.agg cs, a.tmps.getD u undef])) w) : bodyPost P fn R .ret a w := by
 obtain ⟨hd2, hi0⟩ := hi2
 have hi : (P.info? ty).map (·.size) = some cs.size := by rw [hl]; exact hi0
 cases hu : P.underlying ty with
 | none => simp [hu] at hd2
 | some d =>
  have hld := run_loadVar_row (P := P) w g t ty cs (0, 0) d hb hu (by cases d <;> simp_all) hi
  refine bodyPost_ret (v := .tuple #[.agg cs, a.tmps.getD u undef]) ?_ hd hR
  rw [results_cell_tmp h, hp]
  simp [asAddr, hld]
end
theorem zeroBook : ZeroTy Try.prog 27 #[.int .i8 0, .int .i8 0, .int .i8 0, .slice none 0 0] := ⟨.agg #[.int .i8 0, .int .i8 0, .int .i8 0, .slice none 0 0], by kernel_rfl, rfl⟩
theorem one4B {x y z : Int} {A : Option Addr} {n c : Nat} : (#[.int .i8 x, .int .i8 y, .int .i8 z, .slice A n c] : Array Value).all (·.oneCell') = true := by simp [Array.all_eq_true, Value.oneCell']
theorem infoStr : (Try.prog.info? 9).map (fun i => (i.zero, i.size, i.bytes)) = some (some (.string ByteArray.empty), 1, 16) := by kernel_rfl
theorem infoBook : (Try.prog.info? 27).map (·.size) = some 4 := by kernel_rfl
set_option maxHeartbeats 4000000 in
set_option maxRecDepth 100000 in
theorem l03With_calls (bK bL bS : Int) (A3 : Option Addr) (n3 c3 : Nat) (g : Nat) (Ap : Option Addr) (cp : Nat) (pp : List ByteArray) (w : World) (hbk : w.heap[g]? = some (.cells #[.int .i8 bK, .int .i8 bL, .int .i8 bS, .slice A3 n3 c3] 27 (0, 0))) (hr : Kd.C Kd.string w Ap pp.length pp) (hc : pp.length ≤ cp) (hn : pp.length ≤ 1000000) :
  Calls Try.prog 51 #[.pointer (some ⟨g, 0, none⟩), .slice Ap pp.length cp] w fun e w' => ∃ v, e = .returned (.agg #[.int .i8 bK, .int .i8 bL, .int .i8 bS, v]) ∧ Kd.R Kd.string 9 w' w.heap.size (fun _ => True) v pp ∧ Below w.heap.size w w' := by
 have hm := Mem.start w
 have hu := Try.underlying27
 have HBK := Aside0.mk hbk
 have HR := Aside0.mk hr
 clear hbk hr
 go_enter Try.func51, Try.ntmps51
 go_wp2_with ((with_reducible refine gt_alloc 4 27 ?_); refine st_alloc rfl 4 rfl 27 rfl hm zeroBook ?_; clear hm; intro g4 w4 hm)
 have HG4 := Aside0.mk (hm.mem (n := 0) rfl)
 have HB4 := Aside0.mk (hm.done rfl)
 have HGE := Aside0.mk (hm.own_ge 0 rfl)
 clear hm
 refine start_ (n := 17) (S := fun w' => Below w.heap.size w w' ∧ w'.heap[g4]? = some (.cells #[.int .i8 0, .int .i8 0, .int .i8 0, .slice none 0 0] 27 (0, 0))) (ds := [16]) #[false, false, false, false, false, false, false, false, false, false, false, false, false, false, false, false, false] (by kernel_rfl) rfl rfl (⟨below_drew1 HB4.out, HG4.out⟩) (fun hHeld => ?_)
 refine pure_ (i := 0) (N := some 5) (v := ?_) (a' := ?_) #[true, false, false, false, false, false, false, false, false, false, false, false, false, false, false, false, false] rfl rfl (by kernel_rfl) (fun _ _ _ h => h) (Or.inl ⟨by rfl, ?_⟩) ?_ ?_
 rotate_left
 ·intro w'
  go_simp
  with_reducible rfl
 rotate_left
 ·simp only [Act.put, List.setIfInBounds_toArray, List.set_cons_zero, List.set_cons_succ, i64_w, i32_w]
  rfl
 refine pure_ (i := 1) (N := some 6) (v := ?_) (a' := ?_) #[true, true, false, false, false, false, false, false, false, false, false, false, false, false, false, false, false] rfl rfl (by kernel_rfl) (fun _ _ _ h => h) (Or.inl ⟨by rfl, ?_⟩) ?_ ?_
 rotate_left
 ·intro w'
  go_simp
  with_reducible rfl
 rotate_left
 ·simp only [Act.put, List.setIfInBounds_toArray, List.set_cons_zero, List.set_cons_succ, i64_w, i32_w]
  rfl
 refine pure_ (i := 2) (N := some 7) (v := ?_) (a' := ?_) #[true, true, true, false, false, false, false, false, false, false, false, false, false, false, false, false, false] rfl rfl (by kernel_rfl) (fun _ _ _ h => h) (Or.inl ⟨by rfl, ?_⟩) ?_ ?_
 rotate_left
 ·intro w'
  go_simp
  with_reducible rfl
 rotate_left
 ·simp only [Act.put, List.setIfInBounds_toArray, List.set_cons_zero, List.set_cons_succ, i64_w, i32_w]
  rfl
 refine pure_ (i := 4) (N := some 9) (v := ?_) (a' := ?_) #[true, true, true, false, true, false, false, false, false, false, false, false, false, false, false, false, false] rfl rfl (by kernel_rfl) (fun _ _ _ h => h) (Or.inl ⟨by rfl, ?_⟩) ?_ ?_
 rotate_left
 ·intro w'
  go_simp
  with_reducible rfl
 rotate_left
 ·simp only [Act.put, List.setIfInBounds_toArray, List.set_cons_zero, List.set_cons_succ, i64_w, i32_w]
  rfl
 refine pure_ (i := 5) (N := some 10) (v := ?_) (a' := ?_) #[true, true, true, false, true, true, false, false, false, false, false, false, false, false, false, false, false] rfl rfl (by kernel_rfl) (fun _ _ _ h => h) (Or.inl ⟨by rfl, ?_⟩) ?_ ?_
 rotate_left
 ·intro w'
  go_simp
  with_reducible rfl
 rotate_left
 ·simp only [Act.put, List.setIfInBounds_toArray, List.set_cons_zero, List.set_cons_succ, i64_w, i32_w]
  rfl
 refine pure_ (i := 6) (N := some 11) (v := ?_) (a' := ?_) #[true, true, true, false, true, true, true, false, false, false, false, false, false, false, false, false, false] rfl rfl (by kernel_rfl) (fun _ _ _ h => h) (Or.inl ⟨by rfl, ?_⟩) ?_ ?_
 rotate_left
 ·intro w'
  go_simp
  with_reducible rfl
 rotate_left
 ·simp only [Act.put, List.setIfInBounds_toArray, List.set_cons_zero, List.set_cons_succ, i64_w, i32_w]
  rfl
 refine pure_ (i := 8) (N := some 13) (v := ?_) (a' := ?_) #[true, true, true, false, true, true, true, false, true, false, false, false, false, false, false, false, false] rfl rfl (by kernel_rfl) (fun _ _ _ h => h) (Or.inl ⟨by rfl, ?_⟩) ?_ ?_
 rotate_left
 ·intro w'
  go_simp
  with_reducible rfl
 rotate_left
 ·simp only [Act.put, List.setIfInBounds_toArray, List.set_cons_zero, List.set_cons_succ, i64_w, i32_w]
  rfl
 refine pure_ (i := 9) (N := some 14) (v := ?_) (a' := ?_) #[true, true, true, false, true, true, true, false, true, true, false, false, false, false, false, false, false] rfl rfl (by kernel_rfl) (fun _ _ _ h => h) (Or.inl ⟨by rfl, ?_⟩) ?_ ?_
 rotate_left
 ·intro w'
  go_simp
  with_reducible rfl
 rotate_left
 ·simp only [Act.put, List.setIfInBounds_toArray, List.set_cons_zero, List.set_cons_succ, i64_w, i32_w]
  rfl
 refine pure_ (i := 10) (N := some 15) (v := ?_) (a' := ?_) #[true, true, true, false, true, true, true, false, true, true, true, false, false, false, false, false, false] rfl rfl (by kernel_rfl) (fun _ _ _ h => h) (Or.inl ⟨by rfl, ?_⟩) ?_ ?_
 rotate_left
 ·intro w'
  go_simp
  with_reducible rfl
 rotate_left
 ·simp only [Act.put, List.setIfInBounds_toArray, List.set_cons_zero, List.set_cons_succ, i64_w, i32_w]
  rfl
 refine pure_ (i := 13) (N := some 18) (v := ?_) (a' := ?_) #[true, true, true, false, true, true, true, false, true, true, true, false, false, true, false, false, false] rfl rfl (by kernel_rfl) (fun _ _ _ h => h) (Or.inl ⟨by rfl, ?_⟩) ?_ ?_
 rotate_left
 ·intro w'
  go_simp
  with_reducible rfl
 rotate_left
 ·simp only [Act.put, List.setIfInBounds_toArray, List.set_cons_zero, List.set_cons_succ, i64_w, i32_w]
  rfl
 refine take_ (i := 3) (N := some 8) (v := .int .i8 bK) (a' := ?_) #[true, true, true, true, true, true, true, false, true, true, true, false, false, true, false, false, false] rfl rfl (by kernel_rfl) (fun _ _ _ h => h) (Or.inl ⟨by rfl, ?_⟩) hHeld ?_ ?_
 ·intro w' s0
  exact y_cell (by rfl) (by rfl) oneI8 ((blk_cell ((s0.1.block _ (lt_of_some HBK.out)).trans HBK.out) 0).trans rfl)
 rotate_left
 ·simp only [Act.put, List.setIfInBounds_toArray, List.set_cons_zero, List.set_cons_succ, i64_w, i32_w]
  rfl
 refine take_ (i := 7) (N := some 12) (v := .int .i8 bL) (a' := ?_) #[true, true, true, true, true, true, true, true, true, true, true, false, false, true, false, false, false] rfl rfl (by kernel_rfl) (fun _ _ _ h => h) (Or.inl ⟨by rfl, ?_⟩) hHeld ?_ ?_
 ·intro w' s0
  exact y_cell (by rfl) (by rfl) oneI8 ((blk_cell ((s0.1.block _ (lt_of_some HBK.out)).trans HBK.out) 1).trans rfl)
 rotate_left
 ·simp only [Act.put, List.setIfInBounds_toArray, List.set_cons_zero, List.set_cons_succ, i64_w, i32_w]
  rfl
 refine take_ (i := 11) (N := some 16) (v := .int .i8 bS) (a' := ?_) #[true, true, true, true, true, true, true, true, true, true, true, true, false, true, false, false, false] rfl rfl (by kernel_rfl) (fun _ _ _ h => h) (Or.inl ⟨by rfl, ?_⟩) hHeld ?_ ?_
 ·intro w' s0
  exact y_cell (by rfl) (by rfl) oneI8 ((blk_cell ((s0.1.block _ (lt_of_some HBK.out)).trans HBK.out) 2).trans rfl)
 rotate_left
 ·simp only [Act.put, List.setIfInBounds_toArray, List.set_cons_zero, List.set_cons_succ, i64_w, i32_w]
  rfl
 refine one_ (i := 12) (N := some 17) #[true, true, true, true, true, true, true, true, true, true, true, true, true, true, false, false, false] rfl rfl (by kernel_rfl) (by decide) (fun K hK => ?_)
 refine Kd.R_lit_step Kd.string (w0 := w) w.heap.size 9 (by rfl) (N := 17) rfl (xs := []) (inner := []) (ok := fun k => k ≠ g4) (okp := fun k => k ≠ g4) (by first | (go_simp; done) | (go_simp; rfl)) (Reps.none _ _) (fun _ h => h) (show _ ≠ g4 by have := lt_of_some hHeld.2; omega) hHeld.1 hHeld.1.size (by simp) ?_
 intro v5 w5 ho5 hb5 hg5 hat5
 have HO5 := Aside0.mk ho5
 clear ho5
 refine hK.out _ _ (⟨hb5, (hg5.block _ (lt_of_some hHeld.2) (by simp)).trans hHeld.2⟩) (fun hHeld => ?_)
 clear hK K
 refine norm_ (a' := ?_) ?_ ?_
 rotate_left
 ·show Act.put _ (some 17) _ = _
  simp only [Act.put, List.setIfInBounds_toArray, List.set_cons_zero, List.set_cons_succ, i64_w, i32_w]
  rfl
 refine one_ (i := 14) (N := some 19) #[true, true, true, true, true, true, true, true, true, true, true, true, true, true, true, false, false] rfl rfl (by kernel_rfl) (by decide) (fun K hK => ?_)
 refine Kd.R_append_rows_step Kd.string (w0 := w) w.heap.size (by rfl) (.tmp 17) (.tmp 18) 23 9 (.string ByteArray.empty) 16 rfl Try.underlying23 infoStr rfl (by decide) (by decide) v5 [] pp Ap pp.length cp (fun k => k ≠ g4) (fun _ => False) rfl rfl HO5.out (Kd.C_below HR.out hHeld.1) (fun _ _ h => h) (fun _ h => h.elim) (fun k hk => show k ≠ g4 by have := lt_of_some hHeld.2; omega) hHeld.1 hHeld.1.size (by simp; omega) ?_
 intro v6 w6 ho6 hb6 hg6 hat6
 rw [List.nil_append] at ho6
 obtain ⟨A6, c6, rfl⟩ := Kd.R_slice ho6
 have HO6 := Aside0.mk ho6
 have HB6 := Aside0.mk hb6
 have HG6 := Aside0.mk ((hg6.block _ (lt_of_some hHeld.2) (Kd.R_away HO5.out (fun k hk => hk))).trans hHeld.2)
 clear ho6
 refine hK.out _ _ (⟨hb6, HG6.out⟩) (fun hHeld => ?_)
 clear hK K
 refine norm_ (a' := ?_) ?_ ?_
 rotate_left
 ·show Act.put _ (some 19) _ = _
  simp only [Act.put, List.setIfInBounds_toArray, List.set_cons_zero, List.set_cons_succ, i64_w, i32_w]
  rfl
 refine pure_ (i := 15) (N := some 20) (v := ?_) (a' := ?_) #[true, true, true, true, true, true, true, true, true, true, true, true, true, true, true, true, false] rfl rfl (by kernel_rfl) (fun _ _ _ h => h) (Or.inl ⟨by rfl, ?_⟩) ?_ ?_
 rotate_left
 ·intro w'
  go_simp
  with_reducible rfl
 rotate_left
 ·simp only [Act.put, List.setIfInBounds_toArray, List.set_cons_zero, List.set_cons_succ, i64_w, i32_w]
  rfl
 refine last_ (i := 16) (N := none) #[true, true, true, true, true, true, true, true, true, true, true, true, true, true, true, true, true] rfl rfl (by kernel_rfl) (by decide) (fun K hK => ?_)
 refine skip_ (by rfl) rfl (y_storeRow (cs := #[.int .i8 bK, .int .i8 bL, .int .i8 bS, .slice A6 pp.length c6]) (by rfl) (by rfl) (by rfl) HG6.out infoBook rfl one4B) ?_
 refine hK.out _ _ ?_
 clear hK K
 refine done_ (by kernel_rfl) ?_
 skip
 try simp only [Exit.inBlock, Exit.then]
 go_wp2_with fail
 try simp only [Exit.inBlock, Exit.then]
 refine ret_row (cs := #[.int .i8 bK, .int .i8 bL, .int .i8 bS, .slice A6 pp.length c6]) (setRow_heap _ _ _ _ _ _ HG6.out) rfl rfl aggBook rfl rfl ?_
 exact ⟨.slice A6 pp.length c6, rfl, Kd.R_mono (Kd.R_step HO6.out (fun k hk _ => setRow_other _ g4 k _ hk)) (fun _ _ => trivial), Go.below_setRow HB6.out HGE.out _⟩
end Go.Proofs.Ytckpfodpfplaeaa.Arr
namespace Go.Proofs.Ytckpfodpfplaeaa.Arr
open Go.RowKit Go.Proofs.YtckpfodpfplaeaaW.PrintWords Go.Proofs.YtckpfodpfplaeaaW.PrintLast Go.Proofs.YtckpfodpfplaeaaW.PrintMore Go.Proofs.Ytckpfodpfplaeaa.U Go.Proofs.Ytckpfodpfplaeaa.D
set_option linter.unusedVariables false
set_option linter.unusedSimpArgs false
abbrev bkC (K L S : Int) (A : Option Addr) (n c : Nat) : Array Value := #[.int .i8 K, .int .i8 L, .int .i8 S, .slice A n c]
structure Two (w : World) (g g4 : Nat) (K L S : Int) (A : Option Addr) (n c : Nat) (W : World) : Prop where
 bel : Below w.heap.size w W
 one : W.heap[g]? = some (.cells (bkC K L S A n c) 27 (0, 0))
 two : W.heap[g4]? = some (.cells (bkC 0 0 0 none 0 0) 27 (0, 0))
theorem Two.below {w : World} {g g4 : Nat} {K L S : Int} {A : Option Addr} {n c : Nat} {W W' : World} (h : Two w g g4 K L S A n c W) (hb : Below W.heap.size W W') : Two w g g4 K L S A n c W' :=
 ⟨h.bel.trans (hb.mono h.bel.size), (hb.block _ (lt_of_some h.one)).trans h.one, (hb.block _ (lt_of_some h.two)).trans h.two⟩
theorem Two.drew {w : World} {g g4 : Nat} {K L S : Int} {A : Option Addr} {n c : Nat} {W : World} (h : Two w g g4 K L S A n c W) : Two w g g4 K L S A n c W.drew := ⟨below_drew1 h.bel, h.one, h.two⟩
theorem Two.drewN {w : World} {g g4 : Nat} {K L S : Int} {A : Option Addr} {n c : Nat} {W : World} (h : Two w g g4 K L S A n c W) (m : Nat) : Two w g g4 K L S A n c (W.drewN m) := ⟨pw_below_drewN h.bel m, h.one, h.two⟩
theorem Two.grown {w : World} {g g4 : Nat} {K L S : Int} {A : Option Addr} {n c : Nat} {W W' : World} (h : Two w g g4 K L S A n c W) {row : Option Nat} (hg : W.grownBy W' row) (h1 : some g ≠ row) (h2 : some g4 ≠ row) (hb : Below w.heap.size w W') : Two w g g4 K L S A n c W' :=
 ⟨hb, (hg.block _ (lt_of_some h.one) h1).trans h.one, (hg.block _ (lt_of_some h.two) h2).trans h.two⟩
theorem Two.fresh {w : World} {g g4 : Nat} {K L S : Int} {A : Option Addr} {n c : Nat} {W : World} (h : Two w g g4 K L S A n c W) {k : Nat} (hk : W.heap.size ≤ k) : k ≠ g ∧ k ≠ g4 := by
 have h1 := lt_of_some h.one
 have h2 := lt_of_some h.two
 omega
theorem Two.cell3 {w : World} {g g4 : Nat} {K L S : Int} {A : Option Addr} {n c : Nat} {W : World} (h : Two w g g4 K L S A n c W) : W.cell? ⟨g, 3, none⟩ = some (.slice A n c) := (blk_cell h.one 3).trans rfl
theorem BkSt.two {w w4 W : World} {g g4 : Nat} {K L S : Int} {ph : List ByteArray} (h : BkSt w w4 g K L S ph W) (hz : w4.heap[g4]? = some (.cells (bkC 0 0 0 none 0 0) 27 (0, 0))) (hne : g4 ≠ g) : ∃ A c, Two w g g4 K L S A ph.length c W ∧ Kd.C Kd.string w A ph.length ph ∧ ∀ W', Two w g g4 K L S A ph.length c W' → BkSt w W' g K L S ph W' := by
 obtain ⟨A, c, hb, hg, hr⟩ := h.is
 exact ⟨A, c, ⟨h.bel, hb, (h.keep.2 g4 (lt_of_some hz) hne (by simp)).trans hz⟩, hr, fun W' h' => ⟨⟨A, c, h'.one, hg, hr⟩, h'.bel, KeepBut.refl _ _ _⟩⟩
theorem builtBook : Try.prog.built 27 [] = some (bkC 0 0 0 none 0 0) := by kernel_rfl
def addW (K L S : Int) (ph : List ByteArray) (s : ByteArray) : (Int × Int × Int × List ByteArray) × Int :=
 if okBook K L S ph = true then
  if phrB s = true then
   if 0 ≤ fnd ph s then ((0, 0, 0, []), 4)
   else if 100 ≤ ph.length then ((0, 0, 0, []), 3) else if (outL K.toNat S.toNat L.toNat).length ≤ ph.length then ((0, 0, 0, []), 3) else ((K, L, S, ph ++ [s]), 0)
  else ((0, 0, 0, []), 2)
 else ((0, 0, 0, []), 1)
theorem start2 {bK bL bS : Int} {A3 : Option Addr} {c3 : Nat} {ph : List ByteArray} {w w4 : World} {g g4 : Nat} (hr3 : Kd.C Kd.string w A3 ph.length ph) (hm : Mem w w4 [⟨g4, bkC 0 0 0 none 0 0, 27, true⟩, ⟨g, bkC bK bL bS A3 ph.length c3, 27, true⟩]) :
  BkSt w w4 g bK bL bS ph w4 ∧ w4.heap[g4]? = some (.cells (bkC 0 0 0 none 0 0) 27 (0, 0)) ∧ g4 ≠ g ∧ w.heap.size ≤ g4 ∧ w.heap.size ≤ g :=
 ⟨⟨⟨A3, c3, hm.mem (n := 1) rfl, hm.own_ge 1 rfl, hr3⟩, hm.done rfl, KeepBut.refl _ _ _⟩, hm.mem (n := 0) rfl, hm.ne 0 1 (by decide) rfl rfl, hm.own_ge 0 rfl, hm.own_ge 1 rfl⟩
theorem BkSt.zb {w w4 W : World} {g g4 : Nat} {K L S : Int} {ph : List ByteArray} (h : BkSt w w4 g K L S ph W) (hz : w4.heap[g4]? = some (.cells (bkC 0 0 0 none 0 0) 27 (0, 0))) (hne : g4 ≠ g) : W.heap[g4]? = some (.cells (bkC 0 0 0 none 0 0) 27 (0, 0)) := (h.keep.2 g4 (lt_of_some hz) hne (by simp)).trans hz
set_option maxHeartbeats 8000000 in
set_option maxRecDepth 100000 in
theorem specAddPhrase_calls (bK bL bS : Int) (A3 : Option Addr) (c3 : Nat) (ph : List ByteArray) (s : ByteArray) (w : World) (hp : BookP bK bL bS ph) (hr3 : Kd.C Kd.string w A3 ph.length ph) (hs : s.size ≤ 140737488351232) :
  Calls Try.prog 13 #[.agg #[.int .i8 bK, .int .i8 bL, .int .i8 bS, .slice A3 ph.length c3], .string s] w fun e w' => ∃ x1 x2 x3 v, e = .returned (.tuple #[.agg #[.int .i8 x1, .int .i8 x2, .int .i8 x3, v], .int .i64 (addW bK bL bS ph s).2]) ∧ (x1, x2, x3) = ((addW bK bL bS ph s).1.1, (addW bK bL bS ph s).1.2.1, (addW bK bL bS ph s).1.2.2.1) ∧ Kd.R Kd.string 9 w' w.heap.size (fun _ => True) v (addW bK bL bS ph s).1.2.2.2 ∧ Below w.heap.size w w' := by
 have hm := Mem.start w
 have hu := Try.underlying27
 have HOK : Aside0 (∀ w0 w4 g W, BkSt w0 w4 g bK bL bS ph W → _) := ⟨fun w0 w4 g W hW => okSt_calls hp hW⟩
 obtain ⟨k1, hk1⟩ := (l03Phrase_ev s hs).rounds
 have HPH := Aside0.mk hk1
 obtain ⟨k2, hk2⟩ := (l03Find_ev bK bL bS ph s (by have := hp.n; omega)).rounds
 have HFI := Aside0.mk hk2
 clear hk1 hk2
 unfold addW
 cases hk : okBook bK bL bS ph with
 | false =>
  rw [hk] at HOK
  clear hk hp HPH HFI
  go_enter Try.func13, Try.ntmps13
  go_wp2_with (first
   | ((with_reducible refine gt_box 2 27 ?_); refine st_box rfl 2 rfl 27 _ rfl hm rfl (cs := bkC bK bL bS A3 ph.length c3) rfl ?_; clear hm; intro g w1 hm)
   | ((with_reducible refine gt_alloc 4 27 ?_); refine st_alloc rfl 4 rfl 27 rfl hm zeroBook ?_; clear hm; intro g4 w4 hm; have HH := Aside0.mk (start2 hr3 hm); clear hm)
   | (go_at_call 47; refine (HOK.out _ _ _ _ HH.out.1).mono ?_; rintro e w5 ⟨rfl, h1, h2⟩; have HB1 := Aside0.mk h1; clear h1 h2)
   | ((with_reducible refine gt_build 27 ?_); refine st_zero rfl 27 rfl builtBook ?_)
   | ((with_reducible refine gt_store 27 ?_); refine wpList_store_row rfl 27 _ _ rfl g4 (bkC 0 0 0 none 0 0) rfl rfl _ _ (HB1.out.zb HH.out.2.1 HH.out.2.2.1) infoBook rfl one4B ?_))
  try simp only [Exit.inBlock, Exit.then]
  refine ret_row_tmp (cs := bkC 0 0 0 none 0 0) (setRow_heap _ _ _ _ _ _ (HB1.out.zb HH.out.2.1 HH.out.2.2.1)) rfl rfl aggBook rfl rfl ?_
  exact ⟨0, 0, 0, .slice none 0 0, rfl, by simp, Kd.R_nil _ _ _ _ _, Go.below_setRow (HB1.out.bel) HH.out.2.2.2.1 _⟩
 | true =>
  rw [hk] at HOK
  have hin := okBook_in hk
  have hph : ph.length ≤ 100 := hin.2.1
  cases hq : phrB s with
  | false =>
   rw [hq] at HPH
   clear hk hp HFI hq hin
   go_enter Try.func13, Try.ntmps13
   go_wp2_with (first
    | ((with_reducible refine gt_box 2 27 ?_); refine st_box rfl 2 rfl 27 _ rfl hm rfl (cs := bkC bK bL bS A3 ph.length c3) rfl ?_; clear hm; intro g w1 hm)
    | ((with_reducible refine gt_alloc 4 27 ?_); refine st_alloc rfl 4 rfl 27 rfl hm zeroBook ?_; clear hm; intro g4 w4 hm; have HH := Aside0.mk (start2 hr3 hm); clear hm)
    | (go_at_call 47; refine (HOK.out _ _ _ _ HH.out.1).mono ?_; rintro e w5 ⟨rfl, h1, h2⟩; have HB1 := Aside0.mk h1; clear h1 h2)
    | (go_at_call 48; refine (spec_l03Phrase.calls k1 s false _ HPH.out).mono ?_; rintro e w6 ⟨rfl, ⟨n6, rfl⟩⟩; have HB2 := Aside0.mk (HB1.out.drewN n6))
    | ((with_reducible refine gt_build 27 ?_); refine st_zero rfl 27 rfl builtBook ?_)
    | ((with_reducible refine gt_store 27 ?_); refine wpList_store_row rfl 27 _ _ rfl g4 (bkC 0 0 0 none 0 0) rfl rfl _ _ (HB2.out.zb HH.out.2.1 HH.out.2.2.1) infoBook rfl one4B ?_))
   try simp only [Exit.inBlock, Exit.then]
   refine ret_row_tmp (cs := bkC 0 0 0 none 0 0) (setRow_heap _ _ _ _ _ _ (HB2.out.zb HH.out.2.1 HH.out.2.2.1)) rfl rfl aggBook rfl rfl ?_
   exact ⟨0, 0, 0, .slice none 0 0, rfl, by simp, Kd.R_nil _ _ _ _ _, Go.below_setRow (HB2.out.bel) HH.out.2.2.2.1 _⟩
  | true =>
   rw [hq] at HPH
   clear hq
   simp only [if_true]
   by_cases hf : 0 ≤ fnd ph s
   ·rw [if_pos hf]
    clear hk hp hin
    generalize fnd ph s = r at *
    go_enter Try.func13, Try.ntmps13
    go_wp2_with (first
     | ((with_reducible refine gt_box 2 27 ?_); refine st_box rfl 2 rfl 27 _ rfl hm rfl (cs := bkC bK bL bS A3 ph.length c3) rfl ?_; clear hm; intro g w1 hm)
     | ((with_reducible refine gt_alloc 4 27 ?_); refine st_alloc rfl 4 rfl 27 rfl hm zeroBook ?_; clear hm; intro g4 w4 hm; have HH := Aside0.mk (start2 hr3 hm); clear hm)
     | (go_at_call 47; refine (HOK.out _ _ _ _ HH.out.1).mono ?_; rintro e w5 ⟨rfl, h1, h2⟩; have HB1 := Aside0.mk h1; clear h1 h2)
     | (go_at_call 48; refine (spec_l03Phrase.calls k1 s true _ HPH.out).mono ?_; rintro e w6 ⟨rfl, ⟨n6, rfl⟩⟩; have HB2 := Aside0.mk (HB1.out.drewN n6))
     | (go_at_call 49; refine (spec_l03Find.calls k2 g bK bL bS ph s _ _ _ _ w _ HB2.out.is HB2.out.bel HFI.out).mono ?_; rintro e w7 ⟨rfl, h1, h2, h3⟩; obtain ⟨A8, c8, h4, h5, h6⟩ := (HB2.out.call h1 h2 h3).two HH.out.2.1 HH.out.2.2.1; have HT := Aside0.mk h4; have HR8 := Aside0.mk h5; have HBK := Aside0.mk h6; clear h1 h2 h3 h4 h5 h6)
     | ((with_reducible refine gt_build 27 ?_); refine st_zero rfl 27 rfl builtBook ?_)
     | ((with_reducible refine gt_store 27 ?_); refine wpList_store_row rfl 27 _ _ rfl g4 (bkC 0 0 0 none 0 0) rfl rfl _ _ HT.out.two infoBook rfl one4B ?_))
    try simp only [Exit.inBlock, Exit.then]
    refine ret_row_tmp (cs := bkC 0 0 0 none 0 0) (setRow_heap _ _ _ _ _ _ (HT.out.two)) rfl rfl aggBook rfl rfl ?_
    exact ⟨0, 0, 0, .slice none 0 0, rfl, by simp, Kd.R_nil _ _ _ _ _, Go.below_setRow (HT.out.bel) HH.out.2.2.2.1 _⟩
   ·rw [if_neg hf]
    have HME := Aside0.mk (fun (w0 W0 W : World) (g : Nat) (hW : BkSt w0 W0 g bK bL bS ph W) => meSt_calls hk hW)
    have hol := outL_le bK.toNat bS.toNat (by omega) bL.toNat (by omega)
    have hOL : (outL bK.toNat bS.toNat bL.toNat).length ≤ 3000 := by omega
    clear hk hp hin hol
    generalize fnd ph s = r at *
    generalize outL bK.toNat bS.toNat bL.toNat = O at *
    by_cases h100 : 100 ≤ ph.length
    ·rw [if_pos h100]
     have h100i : (100 : Int) ≤ (ph.length : Int) := by omega
     go_enter Try.func13, Try.ntmps13
     go_wp2_with (first
      | ((with_reducible refine gt_box 2 27 ?_); refine st_box rfl 2 rfl 27 _ rfl hm rfl (cs := bkC bK bL bS A3 ph.length c3) rfl ?_; clear hm; intro g w1 hm)
      | ((with_reducible refine gt_alloc 4 27 ?_); refine st_alloc rfl 4 rfl 27 rfl hm zeroBook ?_; clear hm; intro g4 w4 hm; have HH := Aside0.mk (start2 hr3 hm); clear hm)
      | (go_at_call 47; refine (HOK.out _ _ _ _ HH.out.1).mono ?_; rintro e w5 ⟨rfl, h1, h2⟩; have HB1 := Aside0.mk h1; clear h1 h2)
      | (go_at_call 48; refine (spec_l03Phrase.calls k1 s true _ HPH.out).mono ?_; rintro e w6 ⟨rfl, ⟨n6, rfl⟩⟩; have HB2 := Aside0.mk (HB1.out.drewN n6))
      | (go_at_call 49; refine (spec_l03Find.calls k2 g bK bL bS ph s _ _ _ _ w _ HB2.out.is HB2.out.bel HFI.out).mono ?_; rintro e w7 ⟨rfl, h1, h2, h3⟩; obtain ⟨A8, c8, h4, h5, h6⟩ := (HB2.out.call h1 h2 h3).two HH.out.2.1 HH.out.2.2.1; have HT := Aside0.mk h4; have HR8 := Aside0.mk h5; have HBK := Aside0.mk h6; clear h1 h2 h3 h4 h5 h6))
     refine start_ (n := 12) (S := fun w' => Two w g g4 bK bL bS A8 ph.length c8 w') (ds := []) #[false, false, false, false, false, false, false, false, false, false, false, false] (by kernel_rfl) rfl rfl (HT.out.drew) (fun hHeld => ?_)
     refine pure_ (i := 0) (N := some 17) (v := ?_) (a' := ?_) #[true, false, false, false, false, false, false, false, false, false, false, false] rfl rfl (by kernel_rfl) (fun _ _ _ h => h) (Or.inl ⟨by rfl, ?_⟩) ?_ ?_
     rotate_left
     ·intro w'
      go_simp
      with_reducible rfl
     rotate_left
     ·simp only [Act.put, List.setIfInBounds_toArray, List.set_cons_zero, List.set_cons_succ, i64_w, i32_w]
      rfl
     refine take_ (i := 1) (N := some 18) (v := .slice A8 ph.length c8) (a' := ?_) #[true, true, false, false, false, false, false, false, false, false, false, false] rfl rfl (by kernel_rfl) (fun _ _ _ h => h) (Or.inl ⟨by rfl, ?_⟩) hHeld ?_ ?_
     ·intro w' s0
      exact y_cell (by rfl) (by rfl) oneStrS s0.cell3
     rotate_left
     ·simp only [Act.put, List.setIfInBounds_toArray, List.set_cons_zero, List.set_cons_succ, i64_w, i32_w]
      rfl
     refine pure_ (i := 2) (N := some 19) (v := ?_) (a' := ?_) #[true, true, true, false, false, false, false, false, false, false, false, false] rfl rfl (by kernel_rfl) (fun _ _ _ h => h) (Or.inl ⟨by rfl, ?_⟩) ?_ ?_
     rotate_left
     ·intro w'
      go_simp
      with_reducible rfl
     rotate_left
     ·simp only [Act.put, List.setIfInBounds_toArray, List.set_cons_zero, List.set_cons_succ, i64_w, i32_w]
      rfl
     refine pure_ (i := 3) (N := some 20) (v := ?_) (a' := ?_) #[true, true, true, true, false, false, false, false, false, false, false, false] rfl rfl (by kernel_rfl) (fun _ _ _ h => h) (Or.inl ⟨by rfl, ?_⟩) ?_ ?_
     rotate_left
     ·intro w'
      go_simp
      with_reducible rfl
     rotate_left
     ·simp only [Act.put, List.setIfInBounds_toArray, List.set_cons_zero, List.set_cons_succ, i64_w, i32_w]
      rfl
     refine pure_ (i := 4) (N := some 21) (v := ?_) (a' := ?_) #[true, true, true, true, true, false, false, false, false, false, false, false] rfl rfl (by kernel_rfl) (fun _ _ _ h => h) (Or.inl ⟨by rfl, ?_⟩) ?_ ?_
     rotate_left
     ·intro w'
      go_simp
      with_reducible rfl
     rotate_left
     ·simp only [Act.put, List.setIfInBounds_toArray, List.set_cons_zero, List.set_cons_succ, i64_w, i32_w]
      rfl
     refine pure_ (i := 5) (N := some 22) (v := undef) (a' := ?_) #[true, true, true, true, true, true, false, false, false, false, false, false] rfl rfl (by kernel_rfl) (fun _ _ _ h => h) (Or.inr ⟨by rfl, rfl⟩) ?_ ?_
     rotate_left
     ·simp only [Act.put, List.setIfInBounds_toArray, List.set_cons_zero, List.set_cons_succ, i64_w, i32_w]
      rfl
     refine pure_ (i := 6) (N := some 23) (v := undef) (a' := ?_) #[true, true, true, true, true, true, true, false, false, false, false, false] rfl rfl (by kernel_rfl) (fun _ _ _ h => h) (Or.inr ⟨by rfl, rfl⟩) ?_ ?_
     rotate_left
     ·simp only [Act.put, List.setIfInBounds_toArray, List.set_cons_zero, List.set_cons_succ, i64_w, i32_w]
      rfl
     refine pure_ (i := 7) (N := some 24) (v := undef) (a' := ?_) #[true, true, true, true, true, true, true, true, false, false, false, false] rfl rfl (by kernel_rfl) (fun _ _ _ h => h) (Or.inr ⟨by rfl, rfl⟩) ?_ ?_
     rotate_left
     ·simp only [Act.put, List.setIfInBounds_toArray, List.set_cons_zero, List.set_cons_succ, i64_w, i32_w]
      rfl
     refine pure_ (i := 8) (N := some 25) (v := undef) (a' := ?_) #[true, true, true, true, true, true, true, true, true, false, false, false] rfl rfl (by kernel_rfl) (fun _ _ _ h => h) (Or.inr ⟨by rfl, rfl⟩) ?_ ?_
     rotate_left
     ·simp only [Act.put, List.setIfInBounds_toArray, List.set_cons_zero, List.set_cons_succ, i64_w, i32_w]
      rfl
     refine pure_ (i := 9) (N := some 26) (v := undef) (a' := ?_) #[true, true, true, true, true, true, true, true, true, true, false, false] rfl rfl (by kernel_rfl) (fun _ _ _ h => h) (Or.inr ⟨by rfl, rfl⟩) ?_ ?_
     rotate_left
     ·simp only [Act.put, List.setIfInBounds_toArray, List.set_cons_zero, List.set_cons_succ, i64_w, i32_w]
      rfl
     refine pure_ (i := 10) (N := some 27) (v := undef) (a' := ?_) #[true, true, true, true, true, true, true, true, true, true, true, false] rfl rfl (by kernel_rfl) (fun _ _ _ h => h) (Or.inr ⟨by rfl, rfl⟩) ?_ ?_
     rotate_left
     ·simp only [Act.put, List.setIfInBounds_toArray, List.set_cons_zero, List.set_cons_succ, i64_w, i32_w]
      rfl
     refine pure_ (i := 11) (N := some 28) (v := ?_) (a' := ?_) #[true, true, true, true, true, true, true, true, true, true, true, true] rfl rfl (by kernel_rfl) (fun _ _ _ h => h) (Or.inl ⟨by rfl, ?_⟩) ?_ ?_
     rotate_left
     ·intro w'
      go_simp
      with_reducible rfl
     rotate_left
     ·simp only [Act.put, List.setIfInBounds_toArray, List.set_cons_zero, List.set_cons_succ, i64_w, i32_w]
      rfl
     refine done_ (by kernel_rfl) ?_
     skip
     have HT2 := Aside0.mk hHeld
     go_wp2_with (first
      | ((with_reducible refine gt_build 27 ?_); refine st_zero rfl 27 rfl builtBook ?_)
      | ((with_reducible refine gt_store 27 ?_); refine wpList_store_row rfl 27 _ _ rfl g4 (bkC 0 0 0 none 0 0) rfl rfl _ _ HT2.out.two infoBook rfl one4B ?_))
     try simp only [Exit.inBlock, Exit.then]
     refine ret_row_tmp (cs := bkC 0 0 0 none 0 0) (setRow_heap _ _ _ _ _ _ (HT2.out.two)) rfl rfl aggBook rfl rfl ?_
     exact ⟨0, 0, 0, .slice none 0 0, rfl, by simp, Kd.R_nil _ _ _ _ _, Go.below_setRow (HT2.out.bel) HH.out.2.2.2.1 _⟩
    ·rw [if_neg h100]
     have h100i : ¬ (100 : Int) ≤ (ph.length : Int) := by omega
     have h100d := decide_eq_false h100i
     have h100e := decide_eq_false h100
     by_cases hle : O.length ≤ ph.length
     ·rw [if_pos hle]
      have hlei : (O.length : Int) ≤ (ph.length : Int) := by omega
      have hled := decide_eq_true hlei
      have hlee := decide_eq_true hle
      go_enter Try.func13, Try.ntmps13
      go_wp2_with (first
       | ((with_reducible refine gt_box 2 27 ?_); refine st_box rfl 2 rfl 27 _ rfl hm rfl (cs := bkC bK bL bS A3 ph.length c3) rfl ?_; clear hm; intro g w1 hm)
       | ((with_reducible refine gt_alloc 4 27 ?_); refine st_alloc rfl 4 rfl 27 rfl hm zeroBook ?_; clear hm; intro g4 w4 hm; have HH := Aside0.mk (start2 hr3 hm); clear hm)
       | (go_at_call 47; refine (HOK.out _ _ _ _ HH.out.1).mono ?_; rintro e w5 ⟨rfl, h1, h2⟩; have HB1 := Aside0.mk h1; clear h1 h2)
       | (go_at_call 48; refine (spec_l03Phrase.calls k1 s true _ HPH.out).mono ?_; rintro e w6 ⟨rfl, ⟨n6, rfl⟩⟩; have HB2 := Aside0.mk (HB1.out.drewN n6))
       | (go_at_call 49; refine (spec_l03Find.calls k2 g bK bL bS ph s _ _ _ _ w _ HB2.out.is HB2.out.bel HFI.out).mono ?_; rintro e w7 ⟨rfl, h1, h2, h3⟩; obtain ⟨A8, c8, h4, h5, h6⟩ := (HB2.out.call h1 h2 h3).two HH.out.2.1 HH.out.2.2.1; have HT := Aside0.mk h4; have HR8 := Aside0.mk h5; have HBK := Aside0.mk h6; clear h1 h2 h3 h4 h5 h6))
      refine start_ (n := 12) (S := fun w' => Two w g g4 bK bL bS A8 ph.length c8 w') (ds := []) #[false, false, false, false, false, false, false, false, false, false, false, false] (by kernel_rfl) rfl rfl (HT.out.drew) (fun hHeld => ?_)
      refine pure_ (i := 0) (N := some 17) (v := ?_) (a' := ?_) #[true, false, false, false, false, false, false, false, false, false, false, false] rfl rfl (by kernel_rfl) (fun _ _ _ h => h) (Or.inl ⟨by rfl, ?_⟩) ?_ ?_
      rotate_left
      ·intro w'
       go_simp
       with_reducible rfl
      rotate_left
      ·simp only [Act.put, List.setIfInBounds_toArray, List.set_cons_zero, List.set_cons_succ, i64_w, i32_w]
       rfl
      refine take_ (i := 1) (N := some 18) (v := .slice A8 ph.length c8) (a' := ?_) #[true, true, false, false, false, false, false, false, false, false, false, false] rfl rfl (by kernel_rfl) (fun _ _ _ h => h) (Or.inl ⟨by rfl, ?_⟩) hHeld ?_ ?_
      ·intro w' s0
       exact y_cell (by rfl) (by rfl) oneStrS s0.cell3
      rotate_left
      ·simp only [Act.put, List.setIfInBounds_toArray, List.set_cons_zero, List.set_cons_succ, i64_w, i32_w]
       rfl
      refine pure_ (i := 2) (N := some 19) (v := ?_) (a' := ?_) #[true, true, true, false, false, false, false, false, false, false, false, false] rfl rfl (by kernel_rfl) (fun _ _ _ h => h) (Or.inl ⟨by rfl, ?_⟩) ?_ ?_
      rotate_left
      ·intro w'
       go_simp
       with_reducible rfl
      rotate_left
      ·simp only [Act.put, List.setIfInBounds_toArray, List.set_cons_zero, List.set_cons_succ, i64_w, i32_w]
       rfl
      refine pure_ (i := 3) (N := some 20) (v := ?_) (a' := ?_) #[true, true, true, true, false, false, false, false, false, false, false, false] rfl rfl (by kernel_rfl) (fun _ _ _ h => h) (Or.inl ⟨by rfl, ?_⟩) ?_ ?_
      rotate_left
      ·intro w'
       go_simp
       with_reducible rfl
      rotate_left
      ·simp only [Act.put, List.setIfInBounds_toArray, List.set_cons_zero, List.set_cons_succ, i64_w, i32_w]
       rfl
      refine pure_ (i := 4) (N := some 21) (v := ?_) (a' := ?_) #[true, true, true, true, true, false, false, false, false, false, false, false] rfl rfl (by kernel_rfl) (fun _ _ _ h => h) (Or.inl ⟨by rfl, ?_⟩) ?_ ?_
      rotate_left
      ·intro w'
       go_simp
       with_reducible rfl
      rotate_left
      ·simp only [Act.put, List.setIfInBounds_toArray, List.set_cons_zero, List.set_cons_succ, i64_w, i32_w]
       rfl
      refine pure_ (i := 5) (N := some 22) (v := ?_) (a' := ?_) #[true, true, true, true, true, true, false, false, false, false, false, false] rfl rfl (by kernel_rfl) (fun _ _ _ h => h) (Or.inl ⟨by rfl, ?_⟩) ?_ ?_
      rotate_left
      ·intro w'
       go_simp
       with_reducible rfl
      rotate_left
      ·simp only [Act.put, List.setIfInBounds_toArray, List.set_cons_zero, List.set_cons_succ, i64_w, i32_w]
       rfl
      refine take_ (i := 6) (N := some 23) (v := .slice A8 ph.length c8) (a' := ?_) #[true, true, true, true, true, true, true, false, false, false, false, false] rfl rfl (by kernel_rfl) (fun _ _ _ h => h) (Or.inl ⟨by rfl, ?_⟩) hHeld ?_ ?_
      ·intro w' s0
       exact y_cell (by rfl) (by rfl) oneStrS s0.cell3
      rotate_left
      ·simp only [Act.put, List.setIfInBounds_toArray, List.set_cons_zero, List.set_cons_succ, i64_w, i32_w]
       rfl
      refine pure_ (i := 7) (N := some 24) (v := ?_) (a' := ?_) #[true, true, true, true, true, true, true, true, false, false, false, false] rfl rfl (by kernel_rfl) (fun _ _ _ h => h) (Or.inl ⟨by rfl, ?_⟩) ?_ ?_
      rotate_left
      ·intro w'
       go_simp
       with_reducible rfl
      rotate_left
      ·simp only [Act.put, List.setIfInBounds_toArray, List.set_cons_zero, List.set_cons_succ, i64_w, i32_w]
       rfl
      refine one_ (i := 8) (N := some 25) #[true, true, true, true, true, true, true, true, true, false, false, false] rfl rfl (by kernel_rfl) (by decide) (fun K hK => ?_)
      refine goes_ Try.func50 (by kernel_rfl) rfl #[.pointer (some ⟨g, 0, none⟩)] (by rfl) rfl rfl (by simp only [List.map_toArray, List.map_cons, List.map_nil]; rfl) ?_
      refine (HME.out _ _ _ _ (HBK.out _ hHeld)).mono ?_
      rintro e w8 ⟨A7, c7, rfl, hc7, _, hb8, _⟩
      refine ⟨_, rfl, ?_⟩
      refine hK.out _ _ (hHeld.below hb8) (fun hHeld => ?_)
      clear hK K
      refine norm_ (a' := ?_) ?_ ?_
      rotate_left
      ·show Act.put _ (some 25) _ = _
       simp only [Act.put, List.setIfInBounds_toArray, List.set_cons_zero, List.set_cons_succ, i64_w, i32_w]
       rfl
      refine pure_ (i := 9) (N := some 26) (v := ?_) (a' := ?_) #[true, true, true, true, true, true, true, true, true, true, false, false] rfl rfl (by kernel_rfl) (fun _ _ _ h => h) (Or.inl ⟨by rfl, ?_⟩) ?_ ?_
      rotate_left
      ·intro w'
       go_simp
       with_reducible rfl
      rotate_left
      ·simp only [Act.put, List.setIfInBounds_toArray, List.set_cons_zero, List.set_cons_succ, i64_w, i32_w]
       rfl
      refine pure_ (i := 10) (N := some 27) (v := ?_) (a' := ?_) #[true, true, true, true, true, true, true, true, true, true, true, false] rfl rfl (by kernel_rfl) (fun _ _ _ h => h) (Or.inl ⟨by rfl, ?_⟩) ?_ ?_
      rotate_left
      ·intro w'
       go_simp
       with_reducible rfl
      rotate_left
      ·simp only [Act.put, List.setIfInBounds_toArray, List.set_cons_zero, List.set_cons_succ, i64_w, i32_w]
       rfl
      refine pure_ (i := 11) (N := some 28) (v := ?_) (a' := ?_) #[true, true, true, true, true, true, true, true, true, true, true, true] rfl rfl (by kernel_rfl) (fun _ _ _ h => h) (Or.inl ⟨by rfl, ?_⟩) ?_ ?_
      rotate_left
      ·intro w'
       go_simp
       with_reducible rfl
      rotate_left
      ·simp only [Act.put, List.setIfInBounds_toArray, List.set_cons_zero, List.set_cons_succ, i64_w, i32_w]
       rfl
      refine done_ (by kernel_rfl) ?_
      skip
      have HT2 := Aside0.mk hHeld
      go_wp2_with (first
       | ((with_reducible refine gt_build 27 ?_); refine st_zero rfl 27 rfl builtBook ?_)
       | ((with_reducible refine gt_store 27 ?_); refine wpList_store_row rfl 27 _ _ rfl g4 (bkC 0 0 0 none 0 0) rfl rfl _ _ HT2.out.two infoBook rfl one4B ?_))
      try simp only [Exit.inBlock, Exit.then]
      refine ret_row_tmp (cs := bkC 0 0 0 none 0 0) (setRow_heap _ _ _ _ _ _ (HT2.out.two)) rfl rfl aggBook rfl rfl ?_
      exact ⟨0, 0, 0, .slice none 0 0, rfl, by simp, Kd.R_nil _ _ _ _ _, Go.below_setRow (HT2.out.bel) HH.out.2.2.2.1 _⟩
     ·rw [if_neg hle]
      have hlei : ¬ (O.length : Int) ≤ (ph.length : Int) := by omega
      have hled := decide_eq_false hlei
      have hlee := decide_eq_false hle
      have hpl : (ph ++ [s]).length ≤ 1000 := by simp; omega
      generalize hx : ph ++ [s] = pp at *
      have HX := Aside0.mk hx
      clear hx
      go_enter Try.func13, Try.ntmps13
      go_wp2_with (first
       | ((with_reducible refine gt_box 2 27 ?_); refine st_box rfl 2 rfl 27 _ rfl hm rfl (cs := bkC bK bL bS A3 ph.length c3) rfl ?_; clear hm; intro g w1 hm)
       | ((with_reducible refine gt_alloc 4 27 ?_); refine st_alloc rfl 4 rfl 27 rfl hm zeroBook ?_; clear hm; intro g4 w4 hm; have HH := Aside0.mk (start2 hr3 hm); clear hm)
       | (go_at_call 47; refine (HOK.out _ _ _ _ HH.out.1).mono ?_; rintro e w5 ⟨rfl, h1, h2⟩; have HB1 := Aside0.mk h1; clear h1 h2)
       | (go_at_call 48; refine (spec_l03Phrase.calls k1 s true _ HPH.out).mono ?_; rintro e w6 ⟨rfl, ⟨n6, rfl⟩⟩; have HB2 := Aside0.mk (HB1.out.drewN n6))
       | (go_at_call 49; refine (spec_l03Find.calls k2 g bK bL bS ph s _ _ _ _ w _ HB2.out.is HB2.out.bel HFI.out).mono ?_; rintro e w7 ⟨rfl, h1, h2, h3⟩; obtain ⟨A8, c8, h4, h5, h6⟩ := (HB2.out.call h1 h2 h3).two HH.out.2.1 HH.out.2.2.1; have HT := Aside0.mk h4; have HR8 := Aside0.mk h5; have HBK := Aside0.mk h6; clear h1 h2 h3 h4 h5 h6))
      refine start_ (n := 12) (S := fun w' => Two w g g4 bK bL bS A8 ph.length c8 w') (ds := []) #[false, false, false, false, false, false, false, false, false, false, false, false] (by kernel_rfl) rfl rfl (HT.out.drew) (fun hHeld => ?_)
      refine pure_ (i := 0) (N := some 17) (v := ?_) (a' := ?_) #[true, false, false, false, false, false, false, false, false, false, false, false] rfl rfl (by kernel_rfl) (fun _ _ _ h => h) (Or.inl ⟨by rfl, ?_⟩) ?_ ?_
      rotate_left
      ·intro w'
       go_simp
       with_reducible rfl
      rotate_left
      ·simp only [Act.put, List.setIfInBounds_toArray, List.set_cons_zero, List.set_cons_succ, i64_w, i32_w]
       rfl
      refine take_ (i := 1) (N := some 18) (v := .slice A8 ph.length c8) (a' := ?_) #[true, true, false, false, false, false, false, false, false, false, false, false] rfl rfl (by kernel_rfl) (fun _ _ _ h => h) (Or.inl ⟨by rfl, ?_⟩) hHeld ?_ ?_
      ·intro w' s0
       exact y_cell (by rfl) (by rfl) oneStrS s0.cell3
      rotate_left
      ·simp only [Act.put, List.setIfInBounds_toArray, List.set_cons_zero, List.set_cons_succ, i64_w, i32_w]
       rfl
      refine pure_ (i := 2) (N := some 19) (v := ?_) (a' := ?_) #[true, true, true, false, false, false, false, false, false, false, false, false] rfl rfl (by kernel_rfl) (fun _ _ _ h => h) (Or.inl ⟨by rfl, ?_⟩) ?_ ?_
      rotate_left
      ·intro w'
       go_simp
       with_reducible rfl
      rotate_left
      ·simp only [Act.put, List.setIfInBounds_toArray, List.set_cons_zero, List.set_cons_succ, i64_w, i32_w]
       rfl
      refine pure_ (i := 3) (N := some 20) (v := ?_) (a' := ?_) #[true, true, true, true, false, false, false, false, false, false, false, false] rfl rfl (by kernel_rfl) (fun _ _ _ h => h) (Or.inl ⟨by rfl, ?_⟩) ?_ ?_
      rotate_left
      ·intro w'
       go_simp
       with_reducible rfl
      rotate_left
      ·simp only [Act.put, List.setIfInBounds_toArray, List.set_cons_zero, List.set_cons_succ, i64_w, i32_w]
       rfl
      refine pure_ (i := 4) (N := some 21) (v := ?_) (a' := ?_) #[true, true, true, true, true, false, false, false, false, false, false, false] rfl rfl (by kernel_rfl) (fun _ _ _ h => h) (Or.inl ⟨by rfl, ?_⟩) ?_ ?_
      rotate_left
      ·intro w'
       go_simp
       with_reducible rfl
      rotate_left
      ·simp only [Act.put, List.setIfInBounds_toArray, List.set_cons_zero, List.set_cons_succ, i64_w, i32_w]
       rfl
      refine pure_ (i := 5) (N := some 22) (v := ?_) (a' := ?_) #[true, true, true, true, true, true, false, false, false, false, false, false] rfl rfl (by kernel_rfl) (fun _ _ _ h => h) (Or.inl ⟨by rfl, ?_⟩) ?_ ?_
      rotate_left
      ·intro w'
       go_simp
       with_reducible rfl
      rotate_left
      ·simp only [Act.put, List.setIfInBounds_toArray, List.set_cons_zero, List.set_cons_succ, i64_w, i32_w]
       rfl
      refine take_ (i := 6) (N := some 23) (v := .slice A8 ph.length c8) (a' := ?_) #[true, true, true, true, true, true, true, false, false, false, false, false] rfl rfl (by kernel_rfl) (fun _ _ _ h => h) (Or.inl ⟨by rfl, ?_⟩) hHeld ?_ ?_
      ·intro w' s0
       exact y_cell (by rfl) (by rfl) oneStrS s0.cell3
      rotate_left
      ·simp only [Act.put, List.setIfInBounds_toArray, List.set_cons_zero, List.set_cons_succ, i64_w, i32_w]
       rfl
      refine pure_ (i := 7) (N := some 24) (v := ?_) (a' := ?_) #[true, true, true, true, true, true, true, true, false, false, false, false] rfl rfl (by kernel_rfl) (fun _ _ _ h => h) (Or.inl ⟨by rfl, ?_⟩) ?_ ?_
      rotate_left
      ·intro w'
       go_simp
       with_reducible rfl
      rotate_left
      ·simp only [Act.put, List.setIfInBounds_toArray, List.set_cons_zero, List.set_cons_succ, i64_w, i32_w]
       rfl
      refine one_ (i := 8) (N := some 25) #[true, true, true, true, true, true, true, true, true, false, false, false] rfl rfl (by kernel_rfl) (by decide) (fun K hK => ?_)
      refine goes_ Try.func50 (by kernel_rfl) rfl #[.pointer (some ⟨g, 0, none⟩)] (by rfl) rfl rfl (by simp only [List.map_toArray, List.map_cons, List.map_nil]; rfl) ?_
      refine (HME.out _ _ _ _ (HBK.out _ hHeld)).mono ?_
      rintro e w8 ⟨A7, c7, rfl, hc7, _, hb8, _⟩
      refine ⟨_, rfl, ?_⟩
      refine hK.out _ _ (hHeld.below hb8) (fun hHeld => ?_)
      clear hK K
      refine norm_ (a' := ?_) ?_ ?_
      rotate_left
      ·show Act.put _ (some 25) _ = _
       simp only [Act.put, List.setIfInBounds_toArray, List.set_cons_zero, List.set_cons_succ, i64_w, i32_w]
       rfl
      refine pure_ (i := 9) (N := some 26) (v := ?_) (a' := ?_) #[true, true, true, true, true, true, true, true, true, true, false, false] rfl rfl (by kernel_rfl) (fun _ _ _ h => h) (Or.inl ⟨by rfl, ?_⟩) ?_ ?_
      rotate_left
      ·intro w'
       go_simp
       with_reducible rfl
      rotate_left
      ·simp only [Act.put, List.setIfInBounds_toArray, List.set_cons_zero, List.set_cons_succ, i64_w, i32_w]
       rfl
      refine pure_ (i := 10) (N := some 27) (v := ?_) (a' := ?_) #[true, true, true, true, true, true, true, true, true, true, true, false] rfl rfl (by kernel_rfl) (fun _ _ _ h => h) (Or.inl ⟨by rfl, ?_⟩) ?_ ?_
      rotate_left
      ·intro w'
       go_simp
       with_reducible rfl
      rotate_left
      ·simp only [Act.put, List.setIfInBounds_toArray, List.set_cons_zero, List.set_cons_succ, i64_w, i32_w]
       rfl
      refine pure_ (i := 11) (N := some 28) (v := ?_) (a' := ?_) #[true, true, true, true, true, true, true, true, true, true, true, true] rfl rfl (by kernel_rfl) (fun _ _ _ h => h) (Or.inl ⟨by rfl, ?_⟩) ?_ ?_
      rotate_left
      ·intro w'
       go_simp
       with_reducible rfl
      rotate_left
      ·simp only [Act.put, List.setIfInBounds_toArray, List.set_cons_zero, List.set_cons_succ, i64_w, i32_w]
       rfl
      refine done_ (by kernel_rfl) ?_
      skip
      have HT2 := Aside0.mk hHeld
      go_wp2_with (first
       | ((with_reducible refine gate_dst (N := 30) rfl ?_); refine Kd.R_lit Kd.string (w0 := w) w.heap.size 9 rfl (N := 30) rfl (xs := ([] : List ByteArray)) (inner := []) (ok := fun k => k ≠ g ∧ k ≠ g4) (okp := fun k => k ≠ g ∧ k ≠ g4) ?hr (Reps.none _ _) (fun _ h => h) (show _ ≠ g ∧ _ ≠ g4 from HT2.out.fresh (Nat.le_refl _)) HT2.out.bel HT2.out.bel.size (by simp) ?_; (case hr => first | (go_simp; done) | (go_simp; rfl)); intro v30 w30 ho30 hb30 hg30 _; have HO30 := Aside0.mk ho30; have HT3 := Aside0.mk (HT2.out.grown hg30 (by simp) (by simp) hb30); have hc30 := HT3.out.cell3; clear ho30)
       | ((with_reducible refine gate_builtin (b := .append) (xs := #[.tmp 30, .tmp 32]) rfl ?_); at_builtin; refine Kd.R_append_rows Kd.string (w0 := w) w.heap.size rfl (.tmp 30) (.tmp 32) 23 9 (.string ByteArray.empty) 16 rfl Try.underlying23 infoStr rfl (by decide) (by decide) v30 [] ph A8 ph.length c8 (fun k => k ≠ g ∧ k ≠ g4) (fun _ => False) rfl rfl HO30.out (Kd.C_below HR8.out HT3.out.bel) (fun _ _ h => h) (fun _ h => h.elim) (fun k hk => HT3.out.fresh hk) HT3.out.bel HT3.out.bel.size (by simp; omega) ?_; intro v33 w33 ho33 hb33 hg33 _; rw [List.nil_append] at ho33; have HO33 := Aside0.mk ho33; have HT4 := Aside0.mk (HT3.out.grown hg33 (Kd.R_away HO30.out (fun k hk => hk.1)) (Kd.R_away HO30.out (fun k hk => hk.2)) hb33); clear ho33)
       | ((with_reducible refine gate_builtin (b := .append) (xs := #[.tmp 33, .tmp 35]) rfl ?_); at_builtin; refine Kd.R_append Kd.string (w0 := w) w.heap.size rfl (.tmp 33) (.tmp 35) 23 9 (.string ByteArray.empty) 16 rfl Try.underlying23 infoStr rfl (by decide) (by decide) v33 ph s [.string s] (fun k => k ≠ g ∧ k ≠ g4) (fun _ => False) rfl rfl rfl (fun _ hk => hk.elim) (fun k hk => HT4.out.fresh hk) HO33.out HT4.out.bel HT4.out.bel.size (by omega) ?_; intro v36 w36 ho36 hb36 hg36 _; rw [HX.out] at ho36; have HT5 := Aside0.mk (HT4.out.grown hg36 (Kd.R_away HO33.out (fun k hk => hk.1)) (Kd.R_away HO33.out (fun k hk => hk.2)) hb36); obtain ⟨A36, c36, rfl, hc36, hC36⟩ := Kd.R_reads ho36; have HC36 := Aside0.mk hC36; have HL36 := Aside0.mk hc36; clear ho36 hC36 hc36)
       | (go_at_call 51; refine (l03With_calls bK bL bS A8 ph.length c8 g A36 c36 pp _ HT5.out.one HC36.out HL36.out (by omega)).mono ?_; rintro e w37 ⟨v37, rfl, ho37, hb37⟩; obtain ⟨A37, c37, rfl⟩ := Kd.R_slice ho37; have HT6 := Aside0.mk (HT5.out.below hb37); have HO37 := Aside0.mk (Kd.R_bound ho37); have HG5 := Aside0.mk (lt_of_some HT5.out.two); have HB5 := Aside0.mk HT5.out.bel.size; clear ho37)
       | ((with_reducible refine gt_store 27 ?_); refine wpList_store_row rfl 27 _ _ rfl g4 (bkC bK bL bS A37 pp.length c37) rfl rfl _ _ HT6.out.two infoBook rfl one4B ?_))
      try simp only [Exit.inBlock, Exit.then]
      refine ret_row_tmp (cs := bkC bK bL bS A37 pp.length c37) (setRow_heap _ _ _ _ _ _ HT6.out.two) rfl rfl aggBook rfl rfl ?_
      exact ⟨bK, bL, bS, .slice A37 pp.length c37, rfl, by simp, Kd.R_mono (Kd.R_lower (Kd.R_step HO37.out (fun k hk _ => setRow_other _ g4 k _ (by have := hk.2.1; have := HG5.out; omega))) HB5.out) (fun _ _ => trivial), Go.below_setRow HT6.out.bel HH.out.2.2.2.1 _⟩
end Go.Proofs.Ytckpfodpfplaeaa.Arr
namespace Go.Proofs.Ytckpfodpfplaeaa.Arr
open Go.RowKit Go.Proofs.YtckpfodpfplaeaaW.PrintWords Go.Proofs.YtckpfodpfplaeaaW.PrintLast Go.Proofs.Ytckpfodpfplaeaa.U Go.Proofs.Ytckpfodpfplaeaa.D
set_option linter.unusedVariables false
theorem isPhrase_calls (s : ByteArray) (w : World) (hs : s.size ≤ 1048576) : Calls Try.prog 54 #[.string s] w fun e w' => e = .returned (.bool (phrB s)) ∧ Drawn0 w w' := by
 obtain ⟨k, hk⟩ := (isPhrase_ev s (by omega)).rounds
 exact impl_isPhrase.calls k s _ w hk
theorem contains_calls (A0 : Option Addr) (c0 : Nat) (l0 : List ByteArray) (s : ByteArray) (w : World) (hr0 : Kd.C Kd.string w A0 l0.length l0) (hc0 : l0.length ≤ c0) (hn : l0.length ≤ 1048576) : Calls Try.prog 55 #[.slice A0 l0.length c0, .string s] w fun e w' => e = .returned (.bool (hasP l0 s)) ∧ Drawn0 w w' := by
 obtain ⟨k, hk⟩ := (contains_ev l0 s (by omega)).rounds
 exact slices_Contains_string_string.calls k A0 c0 l0 s _ w hr0 hc0 hk
end Go.Proofs.Ytckpfodpfplaeaa.Arr
namespace Go.Proofs.Ytckpfodpfplaeaa.Arr
open Go.RowKit Go.Proofs.YtckpfodpfplaeaaW.PrintWords Go.Proofs.YtckpfodpfplaeaaW.PrintLast Go.Proofs.YtckpfodpfplaeaaW.PrintMore Go.Proofs.Ytckpfodpfplaeaa.U Go.Proofs.Ytckpfodpfplaeaa.D
set_option linter.unusedVariables false
set_option linter.unusedSimpArgs false
set_option maxHeartbeats 1000000 in
set_option maxRecDepth 100000 in
theorem cloneS_calls (A0 : Option Addr) (c0 : Nat) (l0 : List ByteArray) (w : World) (hr0 : Kd.C Kd.string w A0 l0.length l0) (hc0 : l0.length ≤ c0) (hn : l0.length < 1048577) :
  Calls Try.prog 58 #[.slice A0 l0.length c0] w fun e w' => ∃ v0_ : Value, e = .returned (v0_) ∧ Kd.R Kd.string 9 w' w.heap.size (fun _ => True) v0_ l0 ∧ Below w.heap.size w w' := by
 have HR0 := Aside0.mk hr0
 have hm := Kd.C_max hr0
 have HL := Aside0.mk hn
 clear hr0
 have heq := fun (W : World) (n c : Nat) => Lib.run_eql_slice_nil (P := Try.prog) W 23 9 A0 n c 0 0 Try.underlying23
 cases A0 with
 | none =>
  have h0 : l0 = [] := by
   rcases Nat.eq_zero_or_pos l0.length with h | h
   ·exact List.eq_nil_of_length_eq_zero h
   ·obtain ⟨ad, e, _⟩ := HR0.out.2.2 h; cases e
  go_enter Try.func58, Try.ntmps58
  go_wp2_with fail
  go_ret
  exact ⟨_, rfl, by rw [h0]; exact Kd.R_nil _ _ _ _ _, Below.refl _ _⟩
 | some ad =>
  go_enter Try.func58, Try.ntmps58
  go_wp2_with (first
   | ((with_reducible refine gate_dst (N := 5) rfl ?_); refine Kd.R_lit Kd.string _ 9 ?hg (N := 5) ?hd (xs := ([] : List ByteArray)) (inner := []) (ok := fun _ => True) (okp := fun _ => True) ?hr ?hp (fun _ hk => hk) trivial (Below.refl _ _) (Nat.le_refl _) (by simp) ?_; (case hd => rfl); (case hg => rfl); (case hr => first | (go_simp; done) | (go_simp; rfl)); (case hp => exact (Reps.none _ _)); intro v1 w1 ho hb _ _; have HO := Aside0.mk ho; have HB := Aside0.mk hb; clear ho hb)
   | ((with_reducible refine gate_builtin (b := .append) (xs := #[.tmp 5, .tmp 6]) rfl ?_); at_builtin; refine Kd.R_append_rows Kd.string (w0 := w) w.heap.size rfl (.tmp 5) (.tmp 6) 23 9 (.string ByteArray.empty) 16 rfl Try.underlying23 infoStr rfl (by decide) (by omega) v1 [] l0 _ _ _ (fun _ => True) (fun _ => False) rfl rfl ?aO ?aR (fun _ _ h => h) (fun _ h => h.elim) (fun _ _ => trivial) ?aB ?aS ?aL ?_; (case aR => exact Kd.C_below HR0.out HB.out); (case aB => exact HB.out); (case aO => exact HO.out); (case aS => exact HB.out.size); (case aL => have := HL.out; simp; omega); intro v2 w2 ho hb _ _; have HO2 := Aside0.mk ho; have HB2 := Aside0.mk hb; clear ho hb))
  go_ret
  exact ⟨_, rfl, HO2.out, HB2.out⟩
theorem start3 {bK bL bS : Int} {A3 : Option Addr} {n3 c3 : Nat} {w w4 : World} {g g4 : Nat} (hm : Mem w w4 [⟨g4, bkC 0 0 0 none 0 0, 27, true⟩, ⟨g, bkC bK bL bS A3 n3 c3, 27, true⟩]) : Two w g g4 bK bL bS A3 n3 c3 w4 :=
 ⟨hm.done rfl, hm.mem (n := 1) rfl, hm.mem (n := 0) rfl⟩
set_option maxHeartbeats 4000000 in
set_option maxRecDepth 100000 in
theorem with_calls (bK bL bS : Int) (A3 : Option Addr) (n3 c3 : Nat) (Ap : Option Addr) (np cp : Nat) (w : World) :
  Calls Try.prog 57 #[.agg #[.int .i8 bK, .int .i8 bL, .int .i8 bS, .slice A3 n3 c3], .slice Ap np cp] w fun e w' => e = .returned (.agg #[.int .i8 bK, .int .i8 bL, .int .i8 bS, .slice Ap np cp]) ∧ Below w.heap.size w w' := by
 have hm := Mem.start w
 have hu := Try.underlying27
 go_enter Try.func57, Try.ntmps57
 go_wp2_with (first
  | ((with_reducible refine gt_box 2 27 ?_); refine st_box rfl 2 rfl 27 _ rfl hm rfl (cs := bkC bK bL bS A3 n3 c3) rfl ?_; clear hm; intro g w1 hm)
  | ((with_reducible refine gt_alloc 4 27 ?_); refine st_alloc rfl 4 rfl 27 rfl hm zeroBook ?_; clear hm; intro g4 w4 hm; have HT := Aside0.mk (start3 hm); have HGE := Aside0.mk (hm.own_ge 0 rfl); clear hm; have hc30 := (blk_cell HT.out.one 0).trans rfl; have hc31 := (blk_cell HT.out.one 1).trans rfl; have hc32 := (blk_cell HT.out.one 2).trans rfl; have hc33 := HT.out.cell3)
  | ((with_reducible refine gt_store 27 ?_); refine wpList_store_row rfl 27 _ _ rfl g4 (bkC bK bL bS Ap np cp) rfl rfl _ _ HT.out.two infoBook rfl one4B ?_))
 try simp only [Exit.inBlock, Exit.then]
 refine ret_row (cs := bkC bK bL bS Ap np cp) (setRow_heap _ _ _ _ _ _ HT.out.two) rfl rfl aggBook rfl rfl ?_
 exact ⟨rfl, Go.below_setRow HT.out.bel HGE.out _⟩
set_option maxHeartbeats 8000000 in
set_option maxRecDepth 100000 in
theorem implAddPhrase_calls (bK bL bS : Int) (A3 : Option Addr) (c3 : Nat) (ph : List ByteArray) (s : ByteArray) (w : World) (hp : BookP bK bL bS ph) (hr3 : Kd.C Kd.string w A3 ph.length ph) (hc3 : ph.length ≤ c3) (hs : s.size ≤ 1048576) :
  Calls Try.prog 15 #[.agg #[.int .i8 bK, .int .i8 bL, .int .i8 bS, .slice A3 ph.length c3], .string s] w fun e w' => ∃ x1 x2 x3 v, e = .returned (.tuple #[.agg #[.int .i8 x1, .int .i8 x2, .int .i8 x3, v], .int .i64 (addW bK bL bS ph s).2]) ∧ (x1, x2, x3) = ((addW bK bL bS ph s).1.1, (addW bK bL bS ph s).1.2.1, (addW bK bL bS ph s).1.2.2.1) ∧ Kd.R Kd.string 9 w' w.heap.size (fun _ => True) v (addW bK bL bS ph s).1.2.2.2 ∧ Below w.heap.size w w' := by
 have hm := Mem.start w
 have hu := Try.underlying27
 have HVB := Aside0.mk (fun W (hW : Below w.heap.size w W) => validBook_calls bK bL bS A3 c3 ph W hp (Kd.C_below hr3 hW) hc3)
 have HR3 := Aside0.mk hr3
 unfold addW
 cases hk : okBook bK bL bS ph with
 | false =>
  rw [hk] at HVB
  clear hk hp hr3
  go_enter Try.func15, Try.ntmps15
  go_wp2_with (first
   | ((with_reducible refine gt_box 2 27 ?_); refine st_box rfl 2 rfl 27 _ rfl hm rfl (cs := bkC bK bL bS A3 ph.length c3) rfl ?_; clear hm; intro g w1 hm)
   | ((with_reducible refine gt_alloc 4 27 ?_); refine st_alloc rfl 4 rfl 27 rfl hm zeroBook ?_; clear hm; intro g4 w4 hm; have HT := Aside0.mk (start3 hm); have HGE := Aside0.mk (hm.own_ge 0 rfl); clear hm; have hc30 := (blk_cell HT.out.one 0).trans rfl; have hc31 := (blk_cell HT.out.one 1).trans rfl; have hc32 := (blk_cell HT.out.one 2).trans rfl; have hc33 := HT.out.cell3)
   | ((with_reducible refine gt_load 27 ?_); refine event_run rfl (y_row (by rfl) (by rfl) HT.out.one aggBook rfl) ?_)
   | (go_at_call 53; refine (HVB.out _ HT.out.bel).mono ?_; rintro e w5 ⟨rfl, h1⟩; have HT1 := Aside0.mk (HT.out.below h1); clear h1)
   | ((with_reducible refine gt_build 27 ?_); refine st_zero rfl 27 rfl builtBook ?_)
   | ((with_reducible refine gt_store 27 ?_); refine wpList_store_row rfl 27 _ _ rfl g4 (bkC 0 0 0 none 0 0) rfl rfl _ _ HT1.out.two infoBook rfl one4B ?_))
  try simp only [Exit.inBlock, Exit.then]
  refine ret_row_tmp (cs := bkC 0 0 0 none 0 0) (setRow_heap _ _ _ _ _ _ HT1.out.two) rfl rfl aggBook rfl rfl ?_
  exact ⟨0, 0, 0, .slice none 0 0, rfl, by simp, Kd.R_nil _ _ _ _ _, Go.below_setRow HT1.out.bel HGE.out _⟩
 | true =>
  rw [hk] at HVB
  have hin := okBook_in hk
  have hph : ph.length ≤ 100 := hin.2.1
  have hphO := hin.2.2
  have hol := outL_le bK.toNat bS.toNat (by omega) bL.toNat (by omega)
  have hOL : (outL bK.toNat bS.toNat bL.toNat).length ≤ 3000 := by omega
  have HME : Aside0 (∀ W, Calls Try.prog 56 #[.agg #[.int .i8 bK, .int .i8 bL, .int .i8 bS, .slice A3 ph.length c3]] W fun e w' => ∃ A c, e = .returned (.slice A (outL bK.toNat bS.toNat bL.toNat).length c) ∧ Below W.heap.size W w') := ⟨fun W => by
   obtain ⟨bK, rfl⟩ := Int.eq_ofNat_of_zero_le (show 0 ≤ bK by omega)
   obtain ⟨bL, rfl⟩ := Int.eq_ofNat_of_zero_le (show 0 ≤ bL by omega)
   obtain ⟨bS, rfl⟩ := Int.eq_ofNat_of_zero_le (show 0 ≤ bS by omega)
   refine (implMeanings_calls bK bL bS A3 ph.length c3 W (by omega) (by omega) (by omega) (by omega)).mono ?_
   rintro e w' ⟨v, rfl, hs, hb⟩
   obtain ⟨A, c, rfl, _, _⟩ := Kd.S_reads hs
   exact ⟨A, c, rfl, hb⟩⟩
  have HCN := Aside0.mk (fun W (hW : Below w.heap.size w W) => contains_calls A3 c3 ph s W (Kd.C_below hr3 hW) hc3 (by omega))
  have HCL := Aside0.mk (fun W (hW : Below w.heap.size w W) => cloneS_calls A3 c3 ph W (Kd.C_below hr3 hW) hc3 (by omega))
  clear hk hp hr3 hin hol
  generalize outL bK.toNat bS.toNat bL.toNat = O at *
  simp only [if_true]
  cases hq : phrB s with
  | false =>
   have HPB := Aside0.mk hq
   clear hq
   go_enter Try.func15, Try.ntmps15
   go_wp2_with (first
    | ((with_reducible refine gt_box 2 27 ?_); refine st_box rfl 2 rfl 27 _ rfl hm rfl (cs := bkC bK bL bS A3 ph.length c3) rfl ?_; clear hm; intro g w1 hm)
    | ((with_reducible refine gt_alloc 4 27 ?_); refine st_alloc rfl 4 rfl 27 rfl hm zeroBook ?_; clear hm; intro g4 w4 hm; have HT := Aside0.mk (start3 hm); have HGE := Aside0.mk (hm.own_ge 0 rfl); clear hm; have hc30 := (blk_cell HT.out.one 0).trans rfl; have hc31 := (blk_cell HT.out.one 1).trans rfl; have hc32 := (blk_cell HT.out.one 2).trans rfl; have hc33 := HT.out.cell3)
    | ((with_reducible refine gt_load 27 ?_); refine event_run rfl (y_row (by rfl) (by rfl) HT.out.one aggBook rfl) ?_)
    | (go_at_call 53; refine (HVB.out _ HT.out.bel).mono ?_; rintro e w5 ⟨rfl, h1⟩; have HT1 := Aside0.mk (HT.out.below h1); clear h1)
    | (go_at_call 54; refine (isPhrase_calls s _ hs).mono ?_; rintro e w6 ⟨h0, h1⟩; rw [HPB.out] at h0; obtain rfl := h0; have HT2 := Aside0.mk (HT1.out.below h1.below); have hc6 := HT2.out.cell3; clear h1)
    | ((with_reducible refine gt_build 27 ?_); refine st_zero rfl 27 rfl builtBook ?_)
    | ((with_reducible refine gt_store 27 ?_); refine wpList_store_row rfl 27 _ _ rfl g4 (bkC 0 0 0 none 0 0) rfl rfl _ _ HT2.out.two infoBook rfl one4B ?_))
   try simp only [Exit.inBlock, Exit.then]
   refine ret_row_tmp (cs := bkC 0 0 0 none 0 0) (setRow_heap _ _ _ _ _ _ HT2.out.two) rfl rfl aggBook rfl rfl ?_
   exact ⟨0, 0, 0, .slice none 0 0, rfl, by simp, Kd.R_nil _ _ _ _ _, Go.below_setRow HT2.out.bel HGE.out _⟩
  | true =>
   have HPB := Aside0.mk hq
   clear hq
   simp only [if_true]
   unfold hasP at HCN
   by_cases hf : 0 ≤ fnd ph s
   ·rw [if_pos hf]
    rw [decide_eq_true hf] at HCN
    clear hf
    go_enter Try.func15, Try.ntmps15
    go_wp2_with (first
     | ((with_reducible refine gt_box 2 27 ?_); refine st_box rfl 2 rfl 27 _ rfl hm rfl (cs := bkC bK bL bS A3 ph.length c3) rfl ?_; clear hm; intro g w1 hm)
     | ((with_reducible refine gt_alloc 4 27 ?_); refine st_alloc rfl 4 rfl 27 rfl hm zeroBook ?_; clear hm; intro g4 w4 hm; have HT := Aside0.mk (start3 hm); have HGE := Aside0.mk (hm.own_ge 0 rfl); clear hm; have hc30 := (blk_cell HT.out.one 0).trans rfl; have hc31 := (blk_cell HT.out.one 1).trans rfl; have hc32 := (blk_cell HT.out.one 2).trans rfl; have hc33 := HT.out.cell3)
     | ((with_reducible refine gt_load 27 ?_); refine event_run rfl (y_row (by rfl) (by rfl) HT.out.one aggBook rfl) ?_)
     | (go_at_call 53; refine (HVB.out _ HT.out.bel).mono ?_; rintro e w5 ⟨rfl, h1⟩; have HT1 := Aside0.mk (HT.out.below h1); clear h1)
     | (go_at_call 54; refine (isPhrase_calls s _ hs).mono ?_; rintro e w6 ⟨h0, h1⟩; rw [HPB.out] at h0; obtain rfl := h0; have HT2 := Aside0.mk (HT1.out.below h1.below); have hc6 := HT2.out.cell3; clear h1)
     | (go_at_call 55; refine (HCN.out _ HT2.out.bel).mono ?_; rintro e w7 ⟨rfl, h1⟩; have HT3 := Aside0.mk (HT2.out.below h1.below); clear h1)
     | ((with_reducible refine gt_build 27 ?_); refine st_zero rfl 27 rfl builtBook ?_)
     | ((with_reducible refine gt_store 27 ?_); refine wpList_store_row rfl 27 _ _ rfl g4 (bkC 0 0 0 none 0 0) rfl rfl _ _ HT3.out.two infoBook rfl one4B ?_))
    try simp only [Exit.inBlock, Exit.then]
    refine ret_row_tmp (cs := bkC 0 0 0 none 0 0) (setRow_heap _ _ _ _ _ _ HT3.out.two) rfl rfl aggBook rfl rfl ?_
    exact ⟨0, 0, 0, .slice none 0 0, rfl, by simp, Kd.R_nil _ _ _ _ _, Go.below_setRow HT3.out.bel HGE.out _⟩
   ·rw [if_neg hf]
    rw [decide_eq_false hf] at HCN
    clear hf
    by_cases h100 : 100 ≤ ph.length
    ·rw [if_pos h100]
     have h1 : ((ph.length : Int) == 100) = true := by rw [beq_iff_eq]; omega
     have h2 : (ph.length == 100) = true := by rw [beq_iff_eq]; omega
     have h2d : decide (ph.length = 100) = true := decide_eq_true (by omega)
     have h2e : decide ((ph.length : Int) = 100) = true := decide_eq_true (by omega)
     go_enter Try.func15, Try.ntmps15
     go_wp2_with (first
      | ((with_reducible refine gt_box 2 27 ?_); refine st_box rfl 2 rfl 27 _ rfl hm rfl (cs := bkC bK bL bS A3 ph.length c3) rfl ?_; clear hm; intro g w1 hm)
      | ((with_reducible refine gt_alloc 4 27 ?_); refine st_alloc rfl 4 rfl 27 rfl hm zeroBook ?_; clear hm; intro g4 w4 hm; have HT := Aside0.mk (start3 hm); have HGE := Aside0.mk (hm.own_ge 0 rfl); clear hm; have hc30 := (blk_cell HT.out.one 0).trans rfl; have hc31 := (blk_cell HT.out.one 1).trans rfl; have hc32 := (blk_cell HT.out.one 2).trans rfl; have hc33 := HT.out.cell3)
      | ((with_reducible refine gt_load 27 ?_); refine event_run rfl (y_row (by rfl) (by rfl) HT.out.one aggBook rfl) ?_)
      | (go_at_call 53; refine (HVB.out _ HT.out.bel).mono ?_; rintro e w5 ⟨rfl, h1⟩; have HT1 := Aside0.mk (HT.out.below h1); clear h1)
      | (go_at_call 54; refine (isPhrase_calls s _ hs).mono ?_; rintro e w6 ⟨h0, h1⟩; rw [HPB.out] at h0; obtain rfl := h0; have HT2 := Aside0.mk (HT1.out.below h1.below); have hc6 := HT2.out.cell3; clear h1)
      | (go_at_call 55; refine (HCN.out _ HT2.out.bel).mono ?_; rintro e w7 ⟨rfl, h1⟩; have HT3 := Aside0.mk (HT2.out.below h1.below); clear h1))
     refine start_ (n := 14) (S := fun w' => Two w g g4 bK bL bS A3 ph.length c3 w') (ds := []) #[false, false, false, false, false, false, false, false, false, false, false, false, false, false] (by kernel_rfl) rfl rfl (HT3.out.drew) (fun hHeld => ?_)
     refine pure_ (i := 0) (N := some 23) (v := ?_) (a' := ?_) #[true, false, false, false, false, false, false, false, false, false, false, false, false, false] rfl rfl (by kernel_rfl) (fun _ _ _ h => h) (Or.inl ⟨by rfl, ?_⟩) ?_ ?_
     rotate_left
     ·intro w'
      go_simp
      with_reducible rfl
     rotate_left
     ·simp only [Act.put, List.setIfInBounds_toArray, List.set_cons_zero, List.set_cons_succ, i64_w, i32_w]
      rfl
     refine take_ (i := 1) (N := some 24) (v := .slice A3 ph.length c3) (a' := ?_) #[true, true, false, false, false, false, false, false, false, false, false, false, false, false] rfl rfl (by kernel_rfl) (fun _ _ _ h => h) (Or.inl ⟨by rfl, ?_⟩) hHeld ?_ ?_
     ·intro w' s0
      exact y_cell (by rfl) (by rfl) oneStrS s0.cell3
     rotate_left
     ·simp only [Act.put, List.setIfInBounds_toArray, List.set_cons_zero, List.set_cons_succ, i64_w, i32_w]
      rfl
     refine pure_ (i := 2) (N := some 25) (v := ?_) (a' := ?_) #[true, true, true, false, false, false, false, false, false, false, false, false, false, false] rfl rfl (by kernel_rfl) (fun _ _ _ h => h) (Or.inl ⟨by rfl, ?_⟩) ?_ ?_
     rotate_left
     ·intro w'
      go_simp
      with_reducible rfl
     rotate_left
     ·simp only [Act.put, List.setIfInBounds_toArray, List.set_cons_zero, List.set_cons_succ, i64_w, i32_w]
      rfl
     refine pure_ (i := 3) (N := some 26) (v := ?_) (a' := ?_) #[true, true, true, true, false, false, false, false, false, false, false, false, false, false] rfl rfl (by kernel_rfl) (fun _ _ _ h => h) (Or.inl ⟨by rfl, ?_⟩) ?_ ?_
     rotate_left
     ·intro w'
      go_simp
      with_reducible rfl
     rotate_left
     ·simp only [Act.put, List.setIfInBounds_toArray, List.set_cons_zero, List.set_cons_succ, i64_w, i32_w]
      rfl
     refine pure_ (i := 4) (N := some 27) (v := ?_) (a' := ?_) #[true, true, true, true, true, false, false, false, false, false, false, false, false, false] rfl rfl (by kernel_rfl) (fun _ _ _ h => h) (Or.inl ⟨by rfl, ?_⟩) ?_ ?_
     rotate_left
     ·intro w'
      go_simp
      with_reducible rfl
     rotate_left
     ·simp only [Act.put, List.setIfInBounds_toArray, List.set_cons_zero, List.set_cons_succ, i64_w, i32_w]
      rfl
     refine pure_ (i := 5) (N := some 28) (v := undef) (a' := ?_) #[true, true, true, true, true, true, false, false, false, false, false, false, false, false] rfl rfl (by kernel_rfl) (fun _ _ _ h => h) (Or.inr ⟨by rfl, rfl⟩) ?_ ?_
     rotate_left
     ·simp only [Act.put, List.setIfInBounds_toArray, List.set_cons_zero, List.set_cons_succ, i64_w, i32_w]
      rfl
     refine pure_ (i := 6) (N := some 29) (v := undef) (a' := ?_) #[true, true, true, true, true, true, true, false, false, false, false, false, false, false] rfl rfl (by kernel_rfl) (fun _ _ _ h => h) (Or.inr ⟨by rfl, rfl⟩) ?_ ?_
     rotate_left
     ·simp only [Act.put, List.setIfInBounds_toArray, List.set_cons_zero, List.set_cons_succ, i64_w, i32_w]
      rfl
     refine pure_ (i := 7) (N := some 30) (v := undef) (a' := ?_) #[true, true, true, true, true, true, true, true, false, false, false, false, false, false] rfl rfl (by kernel_rfl) (fun _ _ _ h => h) (Or.inr ⟨by rfl, rfl⟩) ?_ ?_
     rotate_left
     ·simp only [Act.put, List.setIfInBounds_toArray, List.set_cons_zero, List.set_cons_succ, i64_w, i32_w]
      rfl
     refine pure_ (i := 8) (N := some 31) (v := undef) (a' := ?_) #[true, true, true, true, true, true, true, true, true, false, false, false, false, false] rfl rfl (by kernel_rfl) (fun _ _ _ h => h) (Or.inr ⟨by rfl, rfl⟩) ?_ ?_
     rotate_left
     ·simp only [Act.put, List.setIfInBounds_toArray, List.set_cons_zero, List.set_cons_succ, i64_w, i32_w]
      rfl
     refine pure_ (i := 9) (N := some 32) (v := undef) (a' := ?_) #[true, true, true, true, true, true, true, true, true, true, false, false, false, false] rfl rfl (by kernel_rfl) (fun _ _ _ h => h) (Or.inr ⟨by rfl, rfl⟩) ?_ ?_
     rotate_left
     ·simp only [Act.put, List.setIfInBounds_toArray, List.set_cons_zero, List.set_cons_succ, i64_w, i32_w]
      rfl
     refine pure_ (i := 10) (N := some 33) (v := undef) (a' := ?_) #[true, true, true, true, true, true, true, true, true, true, true, false, false, false] rfl rfl (by kernel_rfl) (fun _ _ _ h => h) (Or.inr ⟨by rfl, rfl⟩) ?_ ?_
     rotate_left
     ·simp only [Act.put, List.setIfInBounds_toArray, List.set_cons_zero, List.set_cons_succ, i64_w, i32_w]
      rfl
     refine pure_ (i := 11) (N := some 34) (v := undef) (a' := ?_) #[true, true, true, true, true, true, true, true, true, true, true, true, false, false] rfl rfl (by kernel_rfl) (fun _ _ _ h => h) (Or.inr ⟨by rfl, rfl⟩) ?_ ?_
     rotate_left
     ·simp only [Act.put, List.setIfInBounds_toArray, List.set_cons_zero, List.set_cons_succ, i64_w, i32_w]
      rfl
     refine pure_ (i := 12) (N := some 35) (v := ?_) (a' := ?_) #[true, true, true, true, true, true, true, true, true, true, true, true, true, false] rfl rfl (by kernel_rfl) (fun _ _ _ h => h) (Or.inl ⟨by rfl, ?_⟩) ?_ ?_
     rotate_left
     ·intro w'
      go_simp
      with_reducible rfl
     rotate_left
     ·simp only [Act.put, List.setIfInBounds_toArray, List.set_cons_zero, List.set_cons_succ, i64_w, i32_w]
      rfl
     refine pure_ (i := 13) (N := some 22) (v := ?_) (a' := ?_) #[true, true, true, true, true, true, true, true, true, true, true, true, true, true] rfl rfl (by kernel_rfl) (fun _ _ _ h => h) (Or.inl ⟨by rfl, ?_⟩) ?_ ?_
     rotate_left
     ·intro w'
      go_simp
      with_reducible rfl
     rotate_left
     ·simp only [Act.put, List.setIfInBounds_toArray, List.set_cons_zero, List.set_cons_succ, i64_w, i32_w]
      rfl
     refine done_ (by kernel_rfl) ?_
     skip
     have HT4 := Aside0.mk hHeld
     clear hHeld
     go_wp2_with (first
      | ((with_reducible refine gt_build 27 ?_); refine st_zero rfl 27 rfl builtBook ?_)
      | ((with_reducible refine gt_store 27 ?_); refine wpList_store_row rfl 27 _ _ rfl g4 (bkC 0 0 0 none 0 0) rfl rfl _ _ HT4.out.two infoBook rfl one4B ?_))
     try simp only [Exit.inBlock, Exit.then]
     refine ret_row_tmp (cs := bkC 0 0 0 none 0 0) (setRow_heap _ _ _ _ _ _ HT4.out.two) rfl rfl aggBook rfl rfl ?_
     exact ⟨0, 0, 0, .slice none 0 0, rfl, by simp, Kd.R_nil _ _ _ _ _, Go.below_setRow HT4.out.bel HGE.out _⟩
    ·rw [if_neg h100]
     have h1 : ((ph.length : Int) == 100) = false := by rw [beq_eq_false_iff_ne]; omega
     have h2 : ¬ ph.length = 100 := by omega
     by_cases hle : O.length ≤ ph.length
     ·rw [if_pos hle]
      have h3 : ((ph.length : Int) == (O.length : Int)) = true := by rw [beq_iff_eq]; omega
      have h4 : (ph.length == O.length) = true := by rw [beq_iff_eq]; omega
      have h4d : decide (ph.length = O.length) = true := decide_eq_true (by omega)
      have h4e : decide ((ph.length : Int) = (O.length : Int)) = true := decide_eq_true (by omega)
      go_enter Try.func15, Try.ntmps15
      go_wp2_with (first
       | ((with_reducible refine gt_box 2 27 ?_); refine st_box rfl 2 rfl 27 _ rfl hm rfl (cs := bkC bK bL bS A3 ph.length c3) rfl ?_; clear hm; intro g w1 hm)
       | ((with_reducible refine gt_alloc 4 27 ?_); refine st_alloc rfl 4 rfl 27 rfl hm zeroBook ?_; clear hm; intro g4 w4 hm; have HT := Aside0.mk (start3 hm); have HGE := Aside0.mk (hm.own_ge 0 rfl); clear hm; have hc30 := (blk_cell HT.out.one 0).trans rfl; have hc31 := (blk_cell HT.out.one 1).trans rfl; have hc32 := (blk_cell HT.out.one 2).trans rfl; have hc33 := HT.out.cell3)
       | ((with_reducible refine gt_load 27 ?_); refine event_run rfl (y_row (by rfl) (by rfl) HT.out.one aggBook rfl) ?_)
       | (go_at_call 53; refine (HVB.out _ HT.out.bel).mono ?_; rintro e w5 ⟨rfl, h1⟩; have HT1 := Aside0.mk (HT.out.below h1); clear h1)
       | (go_at_call 54; refine (isPhrase_calls s _ hs).mono ?_; rintro e w6 ⟨h0, h1⟩; rw [HPB.out] at h0; obtain rfl := h0; have HT2 := Aside0.mk (HT1.out.below h1.below); have hc6 := HT2.out.cell3; clear h1)
       | (go_at_call 55; refine (HCN.out _ HT2.out.bel).mono ?_; rintro e w7 ⟨rfl, h1⟩; have HT3 := Aside0.mk (HT2.out.below h1.below); clear h1))
      refine start_ (n := 14) (S := fun w' => Two w g g4 bK bL bS A3 ph.length c3 w') (ds := []) #[false, false, false, false, false, false, false, false, false, false, false, false, false, false] (by kernel_rfl) rfl rfl (HT3.out.drew) (fun hHeld => ?_)
      refine pure_ (i := 0) (N := some 23) (v := ?_) (a' := ?_) #[true, false, false, false, false, false, false, false, false, false, false, false, false, false] rfl rfl (by kernel_rfl) (fun _ _ _ h => h) (Or.inl ⟨by rfl, ?_⟩) ?_ ?_
      rotate_left
      ·intro w'
       go_simp
       with_reducible rfl
      rotate_left
      ·simp only [Act.put, List.setIfInBounds_toArray, List.set_cons_zero, List.set_cons_succ, i64_w, i32_w]
       rfl
      refine take_ (i := 1) (N := some 24) (v := .slice A3 ph.length c3) (a' := ?_) #[true, true, false, false, false, false, false, false, false, false, false, false, false, false] rfl rfl (by kernel_rfl) (fun _ _ _ h => h) (Or.inl ⟨by rfl, ?_⟩) hHeld ?_ ?_
      ·intro w' s0
       exact y_cell (by rfl) (by rfl) oneStrS s0.cell3
      rotate_left
      ·simp only [Act.put, List.setIfInBounds_toArray, List.set_cons_zero, List.set_cons_succ, i64_w, i32_w]
       rfl
      refine pure_ (i := 2) (N := some 25) (v := ?_) (a' := ?_) #[true, true, true, false, false, false, false, false, false, false, false, false, false, false] rfl rfl (by kernel_rfl) (fun _ _ _ h => h) (Or.inl ⟨by rfl, ?_⟩) ?_ ?_
      rotate_left
      ·intro w'
       go_simp
       with_reducible rfl
      rotate_left
      ·simp only [Act.put, List.setIfInBounds_toArray, List.set_cons_zero, List.set_cons_succ, i64_w, i32_w]
       rfl
      refine pure_ (i := 3) (N := some 26) (v := ?_) (a' := ?_) #[true, true, true, true, false, false, false, false, false, false, false, false, false, false] rfl rfl (by kernel_rfl) (fun _ _ _ h => h) (Or.inl ⟨by rfl, ?_⟩) ?_ ?_
      rotate_left
      ·intro w'
       go_simp
       with_reducible rfl
      rotate_left
      ·simp only [Act.put, List.setIfInBounds_toArray, List.set_cons_zero, List.set_cons_succ, i64_w, i32_w]
       rfl
      refine pure_ (i := 4) (N := some 27) (v := ?_) (a' := ?_) #[true, true, true, true, true, false, false, false, false, false, false, false, false, false] rfl rfl (by kernel_rfl) (fun _ _ _ h => h) (Or.inl ⟨by rfl, ?_⟩) ?_ ?_
      rotate_left
      ·intro w'
       go_simp
       with_reducible rfl
      rotate_left
      ·simp only [Act.put, List.setIfInBounds_toArray, List.set_cons_zero, List.set_cons_succ, i64_w, i32_w]
       rfl
      refine pure_ (i := 5) (N := some 28) (v := ?_) (a' := ?_) #[true, true, true, true, true, true, false, false, false, false, false, false, false, false] rfl rfl (by kernel_rfl) (fun _ _ _ h => h) (Or.inl ⟨by rfl, ?_⟩) ?_ ?_
      rotate_left
      ·intro w'
       go_simp
       with_reducible rfl
      rotate_left
      ·simp only [Act.put, List.setIfInBounds_toArray, List.set_cons_zero, List.set_cons_succ, i64_w, i32_w]
       rfl
      refine take_ (i := 6) (N := some 29) (v := .slice A3 ph.length c3) (a' := ?_) #[true, true, true, true, true, true, true, false, false, false, false, false, false, false] rfl rfl (by kernel_rfl) (fun _ _ _ h => h) (Or.inl ⟨by rfl, ?_⟩) hHeld ?_ ?_
      ·intro w' s0
       exact y_cell (by rfl) (by rfl) oneStrS s0.cell3
      rotate_left
      ·simp only [Act.put, List.setIfInBounds_toArray, List.set_cons_zero, List.set_cons_succ, i64_w, i32_w]
       rfl
      refine pure_ (i := 7) (N := some 30) (v := ?_) (a' := ?_) #[true, true, true, true, true, true, true, true, false, false, false, false, false, false] rfl rfl (by kernel_rfl) (fun _ _ _ h => h) (Or.inl ⟨by rfl, ?_⟩) ?_ ?_
      rotate_left
      ·intro w'
       go_simp
       with_reducible rfl
      rotate_left
      ·simp only [Act.put, List.setIfInBounds_toArray, List.set_cons_zero, List.set_cons_succ, i64_w, i32_w]
       rfl
      refine take_ (i := 8) (N := some 31) (v := .agg #[.int .i8 bK, .int .i8 bL, .int .i8 bS, .slice A3 ph.length c3]) (a' := ?_) #[true, true, true, true, true, true, true, true, true, false, false, false, false, false] rfl rfl (by kernel_rfl) (fun _ _ _ h => h) (Or.inl ⟨by rfl, ?_⟩) hHeld ?_ ?_
      ·intro w' s0
       exact y_row (by rfl) (by rfl) s0.one aggBook rfl
      rotate_left
      ·simp only [Act.put, List.setIfInBounds_toArray, List.set_cons_zero, List.set_cons_succ, i64_w, i32_w]
       rfl
      refine one_ (i := 9) (N := some 32) #[true, true, true, true, true, true, true, true, true, true, false, false, false, false] rfl rfl (by kernel_rfl) (by decide) (fun K hK => ?_)
      refine goes_ Try.func56 (by kernel_rfl) rfl #[.agg #[.int .i8 bK, .int .i8 bL, .int .i8 bS, .slice A3 ph.length c3]] (by rfl) rfl rfl (by simp only [List.map_toArray, List.map_cons, List.map_nil]; rfl) ?_
      refine (HME.out _).mono ?_
      rintro e w8 ⟨A7, c7, rfl, hb8⟩
      refine ⟨_, rfl, ?_⟩
      refine hK.out _ _ (hHeld.below hb8) (fun hHeld => ?_)
      clear hK K
      refine norm_ (a' := ?_) ?_ ?_
      rotate_left
      ·show Act.put _ (some 32) _ = _
       simp only [Act.put, List.setIfInBounds_toArray, List.set_cons_zero, List.set_cons_succ, i64_w, i32_w]
       rfl
      refine pure_ (i := 10) (N := some 33) (v := ?_) (a' := ?_) #[true, true, true, true, true, true, true, true, true, true, true, false, false, false] rfl rfl (by kernel_rfl) (fun _ _ _ h => h) (Or.inl ⟨by rfl, ?_⟩) ?_ ?_
      rotate_left
      ·intro w'
       go_simp
       with_reducible rfl
      rotate_left
      ·simp only [Act.put, List.setIfInBounds_toArray, List.set_cons_zero, List.set_cons_succ, i64_w, i32_w]
       rfl
      refine pure_ (i := 11) (N := some 34) (v := ?_) (a' := ?_) #[true, true, true, true, true, true, true, true, true, true, true, true, false, false] rfl rfl (by kernel_rfl) (fun _ _ _ h => h) (Or.inl ⟨by rfl, ?_⟩) ?_ ?_
      rotate_left
      ·intro w'
       go_simp
       with_reducible rfl
      rotate_left
      ·simp only [Act.put, List.setIfInBounds_toArray, List.set_cons_zero, List.set_cons_succ, i64_w, i32_w]
       rfl
      refine pure_ (i := 12) (N := some 35) (v := ?_) (a' := ?_) #[true, true, true, true, true, true, true, true, true, true, true, true, true, false] rfl rfl (by kernel_rfl) (fun _ _ _ h => h) (Or.inl ⟨by rfl, ?_⟩) ?_ ?_
      rotate_left
      ·intro w'
       go_simp
       with_reducible rfl
      rotate_left
      ·simp only [Act.put, List.setIfInBounds_toArray, List.set_cons_zero, List.set_cons_succ, i64_w, i32_w]
       rfl
      refine pure_ (i := 13) (N := some 22) (v := ?_) (a' := ?_) #[true, true, true, true, true, true, true, true, true, true, true, true, true, true] rfl rfl (by kernel_rfl) (fun _ _ _ h => h) (Or.inl ⟨by rfl, ?_⟩) ?_ ?_
      rotate_left
      ·intro w'
       go_simp
       with_reducible rfl
      rotate_left
      ·simp only [Act.put, List.setIfInBounds_toArray, List.set_cons_zero, List.set_cons_succ, i64_w, i32_w]
       rfl
      refine done_ (by kernel_rfl) ?_
      skip
      have HT4 := Aside0.mk hHeld
      clear hHeld
      go_wp2_with (first
       | ((with_reducible refine gt_build 27 ?_); refine st_zero rfl 27 rfl builtBook ?_)
       | ((with_reducible refine gt_store 27 ?_); refine wpList_store_row rfl 27 _ _ rfl g4 (bkC 0 0 0 none 0 0) rfl rfl _ _ HT4.out.two infoBook rfl one4B ?_))
      try simp only [Exit.inBlock, Exit.then]
      refine ret_row_tmp (cs := bkC 0 0 0 none 0 0) (setRow_heap _ _ _ _ _ _ HT4.out.two) rfl rfl aggBook rfl rfl ?_
      exact ⟨0, 0, 0, .slice none 0 0, rfl, by simp, Kd.R_nil _ _ _ _ _, Go.below_setRow HT4.out.bel HGE.out _⟩
     ·rw [if_neg hle]
      have h3 : ((ph.length : Int) == (O.length : Int)) = false := by rw [beq_eq_false_iff_ne]; omega
      have h4 : ¬ ph.length = O.length := by omega
      have hpl : (ph ++ [s]).length ≤ 1000 := by simp; omega
      generalize hx : ph ++ [s] = pp at *
      have HX := Aside0.mk hx
      clear hx
      go_enter Try.func15, Try.ntmps15
      go_wp2_with (first
       | ((with_reducible refine gt_box 2 27 ?_); refine st_box rfl 2 rfl 27 _ rfl hm rfl (cs := bkC bK bL bS A3 ph.length c3) rfl ?_; clear hm; intro g w1 hm)
       | ((with_reducible refine gt_alloc 4 27 ?_); refine st_alloc rfl 4 rfl 27 rfl hm zeroBook ?_; clear hm; intro g4 w4 hm; have HT := Aside0.mk (start3 hm); have HGE := Aside0.mk (hm.own_ge 0 rfl); clear hm; have hc30 := (blk_cell HT.out.one 0).trans rfl; have hc31 := (blk_cell HT.out.one 1).trans rfl; have hc32 := (blk_cell HT.out.one 2).trans rfl; have hc33 := HT.out.cell3)
       | ((with_reducible refine gt_load 27 ?_); refine event_run rfl (y_row (by rfl) (by rfl) HT.out.one aggBook rfl) ?_)
       | (go_at_call 53; refine (HVB.out _ HT.out.bel).mono ?_; rintro e w5 ⟨rfl, h1⟩; have HT1 := Aside0.mk (HT.out.below h1); clear h1)
       | (go_at_call 54; refine (isPhrase_calls s _ hs).mono ?_; rintro e w6 ⟨h0, h1⟩; rw [HPB.out] at h0; obtain rfl := h0; have HT2 := Aside0.mk (HT1.out.below h1.below); have hc6 := HT2.out.cell3; clear h1)
       | (go_at_call 55; refine (HCN.out _ HT2.out.bel).mono ?_; rintro e w7 ⟨rfl, h1⟩; have HT3 := Aside0.mk (HT2.out.below h1.below); clear h1))
      refine start_ (n := 14) (S := fun w' => Two w g g4 bK bL bS A3 ph.length c3 w') (ds := []) #[false, false, false, false, false, false, false, false, false, false, false, false, false, false] (by kernel_rfl) rfl rfl (HT3.out.drew) (fun hHeld => ?_)
      refine pure_ (i := 0) (N := some 23) (v := ?_) (a' := ?_) #[true, false, false, false, false, false, false, false, false, false, false, false, false, false] rfl rfl (by kernel_rfl) (fun _ _ _ h => h) (Or.inl ⟨by rfl, ?_⟩) ?_ ?_
      rotate_left
      ·intro w'
       go_simp
       with_reducible rfl
      rotate_left
      ·simp only [Act.put, List.setIfInBounds_toArray, List.set_cons_zero, List.set_cons_succ, i64_w, i32_w]
       rfl
      refine take_ (i := 1) (N := some 24) (v := .slice A3 ph.length c3) (a' := ?_) #[true, true, false, false, false, false, false, false, false, false, false, false, false, false] rfl rfl (by kernel_rfl) (fun _ _ _ h => h) (Or.inl ⟨by rfl, ?_⟩) hHeld ?_ ?_
      ·intro w' s0
       exact y_cell (by rfl) (by rfl) oneStrS s0.cell3
      rotate_left
      ·simp only [Act.put, List.setIfInBounds_toArray, List.set_cons_zero, List.set_cons_succ, i64_w, i32_w]
       rfl
      refine pure_ (i := 2) (N := some 25) (v := ?_) (a' := ?_) #[true, true, true, false, false, false, false, false, false, false, false, false, false, false] rfl rfl (by kernel_rfl) (fun _ _ _ h => h) (Or.inl ⟨by rfl, ?_⟩) ?_ ?_
      rotate_left
      ·intro w'
       go_simp
       with_reducible rfl
      rotate_left
      ·simp only [Act.put, List.setIfInBounds_toArray, List.set_cons_zero, List.set_cons_succ, i64_w, i32_w]
       rfl
      refine pure_ (i := 3) (N := some 26) (v := ?_) (a' := ?_) #[true, true, true, true, false, false, false, false, false, false, false, false, false, false] rfl rfl (by kernel_rfl) (fun _ _ _ h => h) (Or.inl ⟨by rfl, ?_⟩) ?_ ?_
      rotate_left
      ·intro w'
       go_simp
       with_reducible rfl
      rotate_left
      ·simp only [Act.put, List.setIfInBounds_toArray, List.set_cons_zero, List.set_cons_succ, i64_w, i32_w]
       rfl
      refine pure_ (i := 4) (N := some 27) (v := ?_) (a' := ?_) #[true, true, true, true, true, false, false, false, false, false, false, false, false, false] rfl rfl (by kernel_rfl) (fun _ _ _ h => h) (Or.inl ⟨by rfl, ?_⟩) ?_ ?_
      rotate_left
      ·intro w'
       go_simp
       with_reducible rfl
      rotate_left
      ·simp only [Act.put, List.setIfInBounds_toArray, List.set_cons_zero, List.set_cons_succ, i64_w, i32_w]
       rfl
      refine pure_ (i := 5) (N := some 28) (v := ?_) (a' := ?_) #[true, true, true, true, true, true, false, false, false, false, false, false, false, false] rfl rfl (by kernel_rfl) (fun _ _ _ h => h) (Or.inl ⟨by rfl, ?_⟩) ?_ ?_
      rotate_left
      ·intro w'
       go_simp
       with_reducible rfl
      rotate_left
      ·simp only [Act.put, List.setIfInBounds_toArray, List.set_cons_zero, List.set_cons_succ, i64_w, i32_w]
       rfl
      refine take_ (i := 6) (N := some 29) (v := .slice A3 ph.length c3) (a' := ?_) #[true, true, true, true, true, true, true, false, false, false, false, false, false, false] rfl rfl (by kernel_rfl) (fun _ _ _ h => h) (Or.inl ⟨by rfl, ?_⟩) hHeld ?_ ?_
      ·intro w' s0
       exact y_cell (by rfl) (by rfl) oneStrS s0.cell3
      rotate_left
      ·simp only [Act.put, List.setIfInBounds_toArray, List.set_cons_zero, List.set_cons_succ, i64_w, i32_w]
       rfl
      refine pure_ (i := 7) (N := some 30) (v := ?_) (a' := ?_) #[true, true, true, true, true, true, true, true, false, false, false, false, false, false] rfl rfl (by kernel_rfl) (fun _ _ _ h => h) (Or.inl ⟨by rfl, ?_⟩) ?_ ?_
      rotate_left
      ·intro w'
       go_simp
       with_reducible rfl
      rotate_left
      ·simp only [Act.put, List.setIfInBounds_toArray, List.set_cons_zero, List.set_cons_succ, i64_w, i32_w]
       rfl
      refine take_ (i := 8) (N := some 31) (v := .agg #[.int .i8 bK, .int .i8 bL, .int .i8 bS, .slice A3 ph.length c3]) (a' := ?_) #[true, true, true, true, true, true, true, true, true, false, false, false, false, false] rfl rfl (by kernel_rfl) (fun _ _ _ h => h) (Or.inl ⟨by rfl, ?_⟩) hHeld ?_ ?_
      ·intro w' s0
       exact y_row (by rfl) (by rfl) s0.one aggBook rfl
      rotate_left
      ·simp only [Act.put, List.setIfInBounds_toArray, List.set_cons_zero, List.set_cons_succ, i64_w, i32_w]
       rfl
      refine one_ (i := 9) (N := some 32) #[true, true, true, true, true, true, true, true, true, true, false, false, false, false] rfl rfl (by kernel_rfl) (by decide) (fun K hK => ?_)
      refine goes_ Try.func56 (by kernel_rfl) rfl #[.agg #[.int .i8 bK, .int .i8 bL, .int .i8 bS, .slice A3 ph.length c3]] (by rfl) rfl rfl (by simp only [List.map_toArray, List.map_cons, List.map_nil]; rfl) ?_
      refine (HME.out _).mono ?_
      rintro e w8 ⟨A7, c7, rfl, hb8⟩
      refine ⟨_, rfl, ?_⟩
      refine hK.out _ _ (hHeld.below hb8) (fun hHeld => ?_)
      clear hK K
      refine norm_ (a' := ?_) ?_ ?_
      rotate_left
      ·show Act.put _ (some 32) _ = _
       simp only [Act.put, List.setIfInBounds_toArray, List.set_cons_zero, List.set_cons_succ, i64_w, i32_w]
       rfl
      refine pure_ (i := 10) (N := some 33) (v := ?_) (a' := ?_) #[true, true, true, true, true, true, true, true, true, true, true, false, false, false] rfl rfl (by kernel_rfl) (fun _ _ _ h => h) (Or.inl ⟨by rfl, ?_⟩) ?_ ?_
      rotate_left
      ·intro w'
       go_simp
       with_reducible rfl
      rotate_left
      ·simp only [Act.put, List.setIfInBounds_toArray, List.set_cons_zero, List.set_cons_succ, i64_w, i32_w]
       rfl
      refine pure_ (i := 11) (N := some 34) (v := ?_) (a' := ?_) #[true, true, true, true, true, true, true, true, true, true, true, true, false, false] rfl rfl (by kernel_rfl) (fun _ _ _ h => h) (Or.inl ⟨by rfl, ?_⟩) ?_ ?_
      rotate_left
      ·intro w'
       go_simp
       with_reducible rfl
      rotate_left
      ·simp only [Act.put, List.setIfInBounds_toArray, List.set_cons_zero, List.set_cons_succ, i64_w, i32_w]
       rfl
      refine pure_ (i := 12) (N := some 35) (v := ?_) (a' := ?_) #[true, true, true, true, true, true, true, true, true, true, true, true, true, false] rfl rfl (by kernel_rfl) (fun _ _ _ h => h) (Or.inl ⟨by rfl, ?_⟩) ?_ ?_
      rotate_left
      ·intro w'
       go_simp
       with_reducible rfl
      rotate_left
      ·simp only [Act.put, List.setIfInBounds_toArray, List.set_cons_zero, List.set_cons_succ, i64_w, i32_w]
       rfl
      refine pure_ (i := 13) (N := some 22) (v := ?_) (a' := ?_) #[true, true, true, true, true, true, true, true, true, true, true, true, true, true] rfl rfl (by kernel_rfl) (fun _ _ _ h => h) (Or.inl ⟨by rfl, ?_⟩) ?_ ?_
      rotate_left
      ·intro w'
       go_simp
       with_reducible rfl
      rotate_left
      ·simp only [Act.put, List.setIfInBounds_toArray, List.set_cons_zero, List.set_cons_succ, i64_w, i32_w]
       rfl
      refine done_ (by kernel_rfl) ?_
      skip
      have HT4 := Aside0.mk hHeld
      clear hHeld
      go_wp2_with fail
      refine start_ (n := 10) (S := fun w' => Two w g g4 bK bL bS A3 ph.length c3 w') (ds := [8]) #[false, false, false, false, false, false, false, false, false, false] (by kernel_rfl) rfl rfl (HT4.out.drew) (fun hHeld => ?_)
      refine pure_ (i := 1) (N := some 38) (v := ?_) (a' := ?_) #[false, true, false, false, false, false, false, false, false, false] rfl rfl (by kernel_rfl) (fun _ _ _ h => h) (Or.inl ⟨by rfl, ?_⟩) ?_ ?_
      rotate_left
      ·intro w'
       go_simp
       with_reducible rfl
      rotate_left
      ·simp only [Act.put, List.setIfInBounds_toArray, List.set_cons_zero, List.set_cons_succ, i64_w, i32_w]
       rfl
      refine pure_ (i := 4) (N := some 41) (v := ?_) (a' := ?_) #[false, true, false, false, true, false, false, false, false, false] rfl rfl (by kernel_rfl) (fun _ _ _ h => h) (Or.inl ⟨by rfl, ?_⟩) ?_ ?_
      rotate_left
      ·intro w'
       go_simp
       with_reducible rfl
      rotate_left
      ·simp only [Act.put, List.setIfInBounds_toArray, List.set_cons_zero, List.set_cons_succ, i64_w, i32_w]
       rfl
      refine take_ (i := 0) (N := some 37) (v := .agg #[.int .i8 bK, .int .i8 bL, .int .i8 bS, .slice A3 ph.length c3]) (a' := ?_) #[true, true, false, false, true, false, false, false, false, false] rfl rfl (by kernel_rfl) (fun _ _ _ h => h) (Or.inl ⟨by rfl, ?_⟩) hHeld ?_ ?_
      ·intro w' s0
       exact y_row (by rfl) (by rfl) s0.one aggBook rfl
      rotate_left
      ·simp only [Act.put, List.setIfInBounds_toArray, List.set_cons_zero, List.set_cons_succ, i64_w, i32_w]
       rfl
      refine take_ (i := 2) (N := some 39) (v := .slice A3 ph.length c3) (a' := ?_) #[true, true, true, false, true, false, false, false, false, false] rfl rfl (by kernel_rfl) (fun _ _ _ h => h) (Or.inl ⟨by rfl, ?_⟩) hHeld ?_ ?_
      ·intro w' s0
       exact y_cell (by rfl) (by rfl) oneStrS s0.cell3
      rotate_left
      ·simp only [Act.put, List.setIfInBounds_toArray, List.set_cons_zero, List.set_cons_succ, i64_w, i32_w]
       rfl
      refine two_ (i := 3) (j := 5) (Ni := some 40) (Nj := some 42) #[true, true, true, true, true, false, false, false, false, false] #[true, true, true, false, true, true, false, false, false, false] rfl rfl rfl rfl (by kernel_rfl) (by decide) (by decide) (fun K hK => ?_) (fun K hK => ?_)
      ·skip
       refine goes_ Try.func58 (by kernel_rfl) rfl #[.slice A3 ph.length c3] (by rfl) rfl rfl (by simp only [List.map_toArray, List.map_cons, List.map_nil]; rfl) ?_
       refine (HCL.out _ hHeld.bel).mono ?_
       rintro e w40 ⟨v40, rfl, ho40, hb40⟩
       have HO40 : Aside0 (Kd.R Kd.string 9 w40 w.heap.size (fun k => k ≠ g ∧ k ≠ g4) v40 ph) := ⟨Kd.R_lower (Kd.R_mono (Kd.R_bound ho40) (fun k hk => hHeld.fresh hk.2.1)) hHeld.bel.size⟩
       (try replace HL1 := Aside0.mk (Kd.C_below HL1.out hb40))
       refine ⟨_, rfl, ?_⟩
       refine hK.out _ _ (hHeld.below hb40) (fun hHeld => ?_)
       clear hK K
       refine norm_ (a' := ?_) ?_ ?_
       rotate_left
       ·show Act.put _ (some 40) _ = _
        simp only [Act.put, List.setIfInBounds_toArray, List.set_cons_zero, List.set_cons_succ, i64_w, i32_w]
        rfl
       refine one_ (i := 5) (N := some 42) #[true, true, true, true, true, true, false, false, false, false] rfl rfl (by kernel_rfl) (by decide) (fun K hK => ?_)
       refine Kd.R_lit_step Kd.string (w0 := w) w.heap.size 9 (by rfl) (N := 42) rfl (xs := [s]) (inner := [.string s]) (ok := fun _ => True) (okp := fun _ => True) (by first | (go_simp; done) | (go_simp; rfl)) (Reps.one rfl (Reps.none _ _)) (fun _ h => h) trivial hHeld.bel hHeld.bel.size (by simp) ?_
       intro v42 w42 ho42 hb42 hg42 _
       obtain ⟨A42, c42, rfl, _, hC42⟩ := Kd.R_reads ho42
       have HL1 := Aside0.mk hC42
       clear ho42 hC42
       (try replace HO40 := Aside0.mk (Kd.R_grown HO40.out hg42 (fun _ _ => by simp)))
       refine hK.out _ _ (hHeld.grown hg42 (by simp) (by simp) hb42) (fun hHeld => ?_)
       clear hK K
       refine norm_ (a' := ?_) ?_ ?_
       rotate_left
       ·show Act.put _ (some 42) _ = _
        simp only [Act.put, List.setIfInBounds_toArray, List.set_cons_zero, List.set_cons_succ, i64_w, i32_w]
        rfl
       refine one_ (i := 6) (N := some 43) #[true, true, true, true, true, true, true, false, false, false] rfl rfl (by kernel_rfl) (by decide) (fun K hK => ?_)
       refine Kd.R_append_rows_step Kd.string (w0 := w) w.heap.size (by rfl) (.tmp 40) (.tmp 42) 23 9 (.string ByteArray.empty) 16 rfl Try.underlying23 infoStr rfl (by decide) (by decide) v40 ph [s] A42 1 c42 (fun k => k ≠ g ∧ k ≠ g4) (fun _ => False) rfl rfl HO40.out HL1.out (fun _ _ h => h) (fun _ h => h.elim) (fun k hk => hHeld.fresh hk) hHeld.bel hHeld.bel.size (by omega) ?_
       intro v43 w43 ho43 hb43 hg43 _
       rw [HX.out] at ho43
       obtain ⟨A43, c43, rfl⟩ := Kd.R_slice ho43
       have HO43 := Aside0.mk ho43
       clear ho43
       refine hK.out _ _ (hHeld.grown hg43 (Kd.R_away HO40.out (fun k hk => hk.1)) (Kd.R_away HO40.out (fun k hk => hk.2)) hb43) (fun hHeld => ?_)
       clear hK K
       refine norm_ (a' := ?_) ?_ ?_
       rotate_left
       ·show Act.put _ (some 43) _ = _
        simp only [Act.put, List.setIfInBounds_toArray, List.set_cons_zero, List.set_cons_succ, i64_w, i32_w]
        rfl
       refine one_ (i := 7) (N := some 44) #[true, true, true, true, true, true, true, true, false, false] rfl rfl (by kernel_rfl) (by decide) (fun K hK => ?_)
       refine goes_ Try.func57 (by kernel_rfl) rfl #[.agg #[.int .i8 bK, .int .i8 bL, .int .i8 bS, .slice A3 ph.length c3], .slice A43 pp.length c43] (by rfl) rfl rfl (by simp only [List.map_toArray, List.map_cons, List.map_nil]; rfl) ?_
       refine (with_calls bK bL bS A3 ph.length c3 A43 pp.length c43 _).mono ?_
       rintro e w44 ⟨rfl, hb44⟩
       have HO44 := Aside0.mk (Kd.R_below HO43.out hb44)
       have HT5 := Aside0.mk (hHeld.below hb44)
       refine ⟨_, rfl, ?_⟩
       refine hK.out _ _ (hHeld.below hb44) (fun hHeld => ?_)
       clear hK K
       refine norm_ (a' := ?_) ?_ ?_
       rotate_left
       ·show Act.put _ (some 44) _ = _
        simp only [Act.put, List.setIfInBounds_toArray, List.set_cons_zero, List.set_cons_succ, i64_w, i32_w]
        rfl
       refine last_ (i := 8) (N := none) #[true, true, true, true, true, true, true, true, true, false] rfl rfl (by kernel_rfl) (by decide) (fun K hK => ?_)
       refine skip_ (by rfl) rfl (y_storeRow (cs := bkC bK bL bS A43 pp.length c43) (by rfl) (by rfl) (by rfl) HT5.out.two infoBook rfl one4B) ?_
       refine hK.out _ _ ?_
       clear hK K
       refine pure_ (i := 9) (N := some 5) (v := ?_) (a' := ?_) #[true, true, true, true, true, true, true, true, true, true] rfl rfl (by kernel_rfl) (fun _ _ _ h => h) (Or.inl ⟨by rfl, ?_⟩) ?_ ?_
       rotate_left
       ·intro w'
        go_simp
        with_reducible rfl
       rotate_left
       ·simp only [Act.put, List.setIfInBounds_toArray, List.set_cons_zero, List.set_cons_succ, i64_w, i32_w]
        rfl
       refine done_ (by kernel_rfl) ?_
       (try simp only [Exit.inBlock, Exit.then])
       go_wp2_with fail
       (try simp only [Exit.inBlock, Exit.then])
       refine ret_row_tmp (cs := bkC bK bL bS A43 pp.length c43) (setRow_heap _ _ _ _ _ _ HT5.out.two) rfl rfl aggBook rfl rfl ?_
       exact ⟨bK, bL, bS, .slice A43 pp.length c43, rfl, by simp, Kd.R_mono (Kd.R_step HO44.out (fun k hk _ => setRow_other _ g4 k _ hk.2)) (fun _ _ => trivial), Go.below_setRow HT5.out.bel HGE.out _⟩
      ·skip
       refine Kd.R_lit_step Kd.string (w0 := w) w.heap.size 9 (by rfl) (N := 42) rfl (xs := [s]) (inner := [.string s]) (ok := fun _ => True) (okp := fun _ => True) (by first | (go_simp; done) | (go_simp; rfl)) (Reps.one rfl (Reps.none _ _)) (fun _ h => h) trivial hHeld.bel hHeld.bel.size (by simp) ?_
       intro v42 w42 ho42 hb42 hg42 _
       obtain ⟨A42, c42, rfl, _, hC42⟩ := Kd.R_reads ho42
       have HL1 := Aside0.mk hC42
       clear ho42 hC42
       (try replace HO40 := Aside0.mk (Kd.R_grown HO40.out hg42 (fun _ _ => by simp)))
       refine hK.out _ _ (hHeld.grown hg42 (by simp) (by simp) hb42) (fun hHeld => ?_)
       clear hK K
       refine norm_ (a' := ?_) ?_ ?_
       rotate_left
       ·show Act.put _ (some 42) _ = _
        simp only [Act.put, List.setIfInBounds_toArray, List.set_cons_zero, List.set_cons_succ, i64_w, i32_w]
        rfl
       refine one_ (i := 3) (N := some 40) #[true, true, true, true, true, true, false, false, false, false] rfl rfl (by kernel_rfl) (by decide) (fun K hK => ?_)
       refine goes_ Try.func58 (by kernel_rfl) rfl #[.slice A3 ph.length c3] (by rfl) rfl rfl (by simp only [List.map_toArray, List.map_cons, List.map_nil]; rfl) ?_
       refine (HCL.out _ hHeld.bel).mono ?_
       rintro e w40 ⟨v40, rfl, ho40, hb40⟩
       have HO40 : Aside0 (Kd.R Kd.string 9 w40 w.heap.size (fun k => k ≠ g ∧ k ≠ g4) v40 ph) := ⟨Kd.R_lower (Kd.R_mono (Kd.R_bound ho40) (fun k hk => hHeld.fresh hk.2.1)) hHeld.bel.size⟩
       (try replace HL1 := Aside0.mk (Kd.C_below HL1.out hb40))
       refine ⟨_, rfl, ?_⟩
       refine hK.out _ _ (hHeld.below hb40) (fun hHeld => ?_)
       clear hK K
       refine norm_ (a' := ?_) ?_ ?_
       rotate_left
       ·show Act.put _ (some 40) _ = _
        simp only [Act.put, List.setIfInBounds_toArray, List.set_cons_zero, List.set_cons_succ, i64_w, i32_w]
        rfl
       refine one_ (i := 6) (N := some 43) #[true, true, true, true, true, true, true, false, false, false] rfl rfl (by kernel_rfl) (by decide) (fun K hK => ?_)
       refine Kd.R_append_rows_step Kd.string (w0 := w) w.heap.size (by rfl) (.tmp 40) (.tmp 42) 23 9 (.string ByteArray.empty) 16 rfl Try.underlying23 infoStr rfl (by decide) (by decide) v40 ph [s] A42 1 c42 (fun k => k ≠ g ∧ k ≠ g4) (fun _ => False) rfl rfl HO40.out HL1.out (fun _ _ h => h) (fun _ h => h.elim) (fun k hk => hHeld.fresh hk) hHeld.bel hHeld.bel.size (by omega) ?_
       intro v43 w43 ho43 hb43 hg43 _
       rw [HX.out] at ho43
       obtain ⟨A43, c43, rfl⟩ := Kd.R_slice ho43
       have HO43 := Aside0.mk ho43
       clear ho43
       refine hK.out _ _ (hHeld.grown hg43 (Kd.R_away HO40.out (fun k hk => hk.1)) (Kd.R_away HO40.out (fun k hk => hk.2)) hb43) (fun hHeld => ?_)
       clear hK K
       refine norm_ (a' := ?_) ?_ ?_
       rotate_left
       ·show Act.put _ (some 43) _ = _
        simp only [Act.put, List.setIfInBounds_toArray, List.set_cons_zero, List.set_cons_succ, i64_w, i32_w]
        rfl
       refine one_ (i := 7) (N := some 44) #[true, true, true, true, true, true, true, true, false, false] rfl rfl (by kernel_rfl) (by decide) (fun K hK => ?_)
       refine goes_ Try.func57 (by kernel_rfl) rfl #[.agg #[.int .i8 bK, .int .i8 bL, .int .i8 bS, .slice A3 ph.length c3], .slice A43 pp.length c43] (by rfl) rfl rfl (by simp only [List.map_toArray, List.map_cons, List.map_nil]; rfl) ?_
       refine (with_calls bK bL bS A3 ph.length c3 A43 pp.length c43 _).mono ?_
       rintro e w44 ⟨rfl, hb44⟩
       have HO44 := Aside0.mk (Kd.R_below HO43.out hb44)
       have HT5 := Aside0.mk (hHeld.below hb44)
       refine ⟨_, rfl, ?_⟩
       refine hK.out _ _ (hHeld.below hb44) (fun hHeld => ?_)
       clear hK K
       refine norm_ (a' := ?_) ?_ ?_
       rotate_left
       ·show Act.put _ (some 44) _ = _
        simp only [Act.put, List.setIfInBounds_toArray, List.set_cons_zero, List.set_cons_succ, i64_w, i32_w]
        rfl
       refine last_ (i := 8) (N := none) #[true, true, true, true, true, true, true, true, true, false] rfl rfl (by kernel_rfl) (by decide) (fun K hK => ?_)
       refine skip_ (by rfl) rfl (y_storeRow (cs := bkC bK bL bS A43 pp.length c43) (by rfl) (by rfl) (by rfl) HT5.out.two infoBook rfl one4B) ?_
       refine hK.out _ _ ?_
       clear hK K
       refine pure_ (i := 9) (N := some 5) (v := ?_) (a' := ?_) #[true, true, true, true, true, true, true, true, true, true] rfl rfl (by kernel_rfl) (fun _ _ _ h => h) (Or.inl ⟨by rfl, ?_⟩) ?_ ?_
       rotate_left
       ·intro w'
        go_simp
        with_reducible rfl
       rotate_left
       ·simp only [Act.put, List.setIfInBounds_toArray, List.set_cons_zero, List.set_cons_succ, i64_w, i32_w]
        rfl
       refine done_ (by kernel_rfl) ?_
       (try simp only [Exit.inBlock, Exit.then])
       go_wp2_with fail
       (try simp only [Exit.inBlock, Exit.then])
       refine ret_row_tmp (cs := bkC bK bL bS A43 pp.length c43) (setRow_heap _ _ _ _ _ _ HT5.out.two) rfl rfl aggBook rfl rfl ?_
       exact ⟨bK, bL, bS, .slice A43 pp.length c43, rfl, by simp, Kd.R_mono (Kd.R_step HO44.out (fun k hk _ => setRow_other _ g4 k _ hk.2)) (fun _ _ => trivial), Go.below_setRow HT5.out.bel HGE.out _⟩
end Go.Proofs.Ytckpfodpfplaeaa.Arr
namespace Go.Proofs.Ytckpfodpfplaeaa.E
open Go.RowKit Go.Proofs.YtckpfodpfplaeaaW.PrintWords Go.Proofs.YtckpfodpfplaeaaW.PrintLast Go.Proofs.YtckpfodpfplaeaaW.PrintMore
attribute [local go_sem] max2_int min2_int max_two min_two max_three min_three max_four min_four
set_option linter.unusedVariables false
set_option linter.unusedSimpArgs false
def errW : Option Int → Value
 | none => .nilIface
 | some c => .iface 0 (.int .i64 c)
theorem errW_none : errW none = .nilIface := rfl
theorem errW_some (c : Int) : errW (some c) = .iface 0 (.int .i64 c) := rfl
theorem info9 : (Try.prog.info? 9).map (fun i => (i.zero, i.size, i.bytes)) = some (some (.string ⟨#[]⟩), 1, 16) := by kernel_rfl
end Go.Proofs.Ytckpfodpfplaeaa.E
