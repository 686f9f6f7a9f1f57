/- The texts that the statement FnSubstitutes needs, part 2: contracts of the program's functions and plain laws, without what it does not reach. No condition beyond what each theorem says. -/
import Derived.Below
import Derived.Deep.Draws
import Derived.Deep.AppendLies
import Derived.Maps.AppendAt
import Derived.OwnWalk
import Derived.Laws.BytesArg
import Derived.Laws.MakeOwn
import Derived.Laws.OwnMore
import Derived.Deep.OwnRows
import Derived.Tactics
import Derived.Lib.ConvBytes
import Derived.Laws.Slices
import Derived.WalkKit
import Derived.KernelRfl
import Derived.RowKit3
import Derived.Deep.LoopGhost
import Derived.Deep.QuietTactic
import Derived.BigQuiet
import Derived.WideLaws
import Derived.Deep.DeepCutAuto
import Derived.Deep.CutBlock
import Derived.Deep.RegionHeld3
import Derived.Laws.Rows
import Derived.Lib.AppendStr
import Derived.ArgAppend
import Derived.Laws.IdiomCopy
import Derived.RowKit
import Derived.Laws.Tables
import Derived.BigFrame
import Derived.Laws.CopyRow
import Derived.Laws.ResultCell
import Derived.OrdersHeld
import Derived.Laws.BitsLemmas
import Derived.Laws.StructEq
import Derived.Test.YtpbomchjcgndoaaGreatDoorProg
import Derived.WalkSpells
import Derived.StillTailTactics
import Derived.Shelf.Strconv.Itoa4
import Derived.Shelf.Strings.OnBuilder
import Derived.Lib.SplitLaws
import Derived.Lib.Join
import Derived.Lib.ParseIntB
import Derived.Lib.CountLaws
import Derived.Shelf.Strings.SplitShaped
import Derived.Shelf.Strings.Shaped
import Derived.Shelf.Small.Wraps
import Derived.Shelf.Strconv.ErrVarParseInt
import Derived.Lib.SmallJoins
import Derived.Lib.AppendIntMem
import Derived.Lib.ParseIntBTie
import Derived.Laws.BitsAllLaws
import Derived.ProofKit
import Derived.OpenShut
import Derived.Deep.Slices
import Derived.Test.YtpbomchjcgndoaaGreatDoorRows
import Derived.ShutString
import Derived.ChangeOld
import Derived.SizedLaws
import Derived.HandedShaped
import Derived.LaidMore
import Derived.Lay
import Derived.Stop.Joined
import Derived.Stop.LaidErr
import Derived.Lib.LaidTab
import Derived.Test.YtpbomchjcgndoaaGreatDoorCards
import Derived.Test.YtpbomchjcgndoaaGreatDoorTie
import Derived.SevenTiedAt
import Derived.Test.YtpbomchjcgndoaaGreatDoorZFnSubstitutes1
namespace Go.Proofs.YtpbomchjcgndoaaGreatDoor.O
open Go.RowKit Go.Proofs.YtpbomchjcgndoaaGreatDoorW.PrintWords Go.Proofs.YtpbomchjcgndoaaGreatDoorW.PrintLast Go.Proofs.YtpbomchjcgndoaaGreatDoorW.PrintMore
attribute [local go_sem] max2_int min2_int max_two min_two max_three min_three max_four min_four
set_option linter.unusedVariables false
set_option linter.unusedSimpArgs false
def impl_within.f (a0 : Int) (a1 : Int) (a2 : Int) : Option (Bool) := if a1 ≤ a0 then (some (decide (a0 ≤ a2))) else (some false)
set_option maxHeartbeats 8000000 in
set_option maxRecDepth 100000 in
theorem impl_within.calls (a0 : Int) (a1 : Int) (a2 : Int) (r : Bool) (w : World) (h : impl_within.f a0 a1 a2 = some r) :
  Calls Tryz.prog 36 #[.int .i64 a0, .int .i64 a1, .int .i64 a2] w fun e w' => e = .returned (.bool r) ∧ Drawn0 w w' := by
 have H : (if a1 ≤ a0 then (some (decide (a0 ≤ a2))) else (some false)) = some r := h
 clear h
 by_cases c4 : a1 ≤ a0
 ·rw [if_pos c4] at H
  have c4b0 : decide (a1 ≤ a0) = true := decide_eq_true c4
  clear c4
  obtain rfl := Option.some.inj H
  go_enter Tryz.func36, Tryz.ntmps36
  go_wp2
  go_ret
  exact ⟨by first | rfl | (simp; done) | (simp [*]; done), by repeat (first | exact Drawn0.refl _ | apply Drawn0.step)⟩
 ·rw [if_neg c4] at H
  have c4b0 : decide (a1 ≤ a0) = false := decide_eq_false c4
  clear c4
  obtain rfl := Option.some.inj H
  go_enter Tryz.func36, Tryz.ntmps36
  go_wp2
  go_ret
  exact ⟨by first | rfl | (simp; done) | (simp [*]; done), by repeat (first | exact Drawn0.refl _ | apply Drawn0.step)⟩
def impl_isKind.f (a0 : Int) : Option (Bool) := (impl_within.f (wrap64 (a0)) 0 39).bind fun t116 => (some t116)
set_option maxHeartbeats 8000000 in
set_option maxRecDepth 100000 in
theorem impl_isKind.calls (a0 : Int) (r : Bool) (w : World) (h : impl_isKind.f a0 = some r) :
  Calls Tryz.prog 51 #[.int .i8 a0] w fun e w' => e = .returned (.bool r) ∧ Drawn0 w w' := by
 have H : ((impl_within.f (wrap64 (a0)) 0 39).bind fun t116 => (some t116)) = some r := h
 clear h
 replace H := Option.bind_eq_some_iff.mp H
 obtain ⟨t116, A20, H⟩ := H
 replace H : (some t116) = some r := H
 have A2 := Aside0.mk A20
 clear A20
 obtain rfl := Option.some.inj H
 go_enter Tryz.func51, Tryz.ntmps51
 go_wp2_with (first | ((with_reducible refine gate_callee (f := 36) rfl ?_); refine goesL_ (some 5) rfl rfl Tryz.func36 (by kernel_rfl) rfl #[.int .i64 (wrap64 (a0)), .int .i64 0, .int .i64 39] rfl (by (try simp only [List.map_toArray, List.map_cons, List.map_nil]); first | done | rfl | (simp only [List.length_drop, List.length_take]; rfl)) ?_; (with_reducible refine (impl_within.calls (wrap64 (a0)) 0 39 t116 _ A2.out).mono ?_); rintro e w' ⟨rfl, ⟨nd, rfl⟩⟩; refine ⟨_, rfl, ?_⟩))
 go_ret
 exact ⟨by first | rfl | (simp; done) | (simp [*]; done), by repeat (first | exact Drawn0.refl _ | apply Drawn0.step)⟩
def impl_size_int8.f (l0 : List Int) : Option (Int) := some (l0.length : Int)
set_option maxHeartbeats 8000000 in
set_option maxRecDepth 100000 in
theorem impl_size_int8.calls (A0 : Option Addr) (c0 : Nat) (l0 : List Int) (r : Int) (w : World) (hr0 : Kd.C (Kd.int .i8) w A0 l0.length l0) (hc0 : l0.length ≤ c0) (h : impl_size_int8.f l0 = some r) :
  Calls Tryz.prog 52 #[.slice A0 l0.length c0] w fun e w' => e = .returned (.int .i64 r) ∧ Drawn0 w w' := by
 have HR0 := Aside0.mk hr0
 have HC0 := Aside0.mk hc0
 clear hr0 hc0
 have H : (some (l0.length : Int)) = some r := h
 clear h
 obtain rfl := Option.some.inj H
 go_enter Tryz.func52, Tryz.ntmps52
 go_wp2
 go_ret
 exact ⟨by first | rfl | (simp; done) | (simp [*]; done), by repeat (first | exact Drawn0.refl _ | apply Drawn0.step)⟩
mutual
def impl_Hoist_meaning.l0 : Nat → List Int → List Int → Int → List Int → Int → Int → Option (List Int × Bool)
 | 0, _, _, _, _, _, _ => none
 | k + 1, x0, x4, x5, x10, x11, x12 => if x12 < x11 then (if 0 ≤ x12 then (if x12 < (x10.length : Int) then (if (rd x10 x12) = (-10) then (if x5 = (x4.length : Int) then (some (([] : List Int), false)) else (if x4.length < 140737488355328 then ((some (x4 ++ [rd x10 x12] : List Int)).bind fun y123 => (impl_Hoist_meaning.l0 k x0 y123 (y123.length : Int) x10 x11 (wrap64 (x12 + 1)))) else (none))) else ((impl_within.f (wrap64 (rd x10 x12)) (-4) (-1)).bind fun t126 => (if t126 = true then (impl_Hoist_meaning.j1 k x0 x4 x5 (rd x10 x12) (wrap64 ((wrap64 (x5 - (wrap64 (rd x10 x12)))) - 1)) x10 x11 x12 (decide ((wrap64 ((wrap64 (x5 - (wrap64 (rd x10 x12)))) - 1)) < (x4.length : Int)))) else (impl_Hoist_meaning.j1 k x0 x4 x5 (rd x10 x12) (wrap64 ((wrap64 (x5 - (wrap64 (rd x10 x12)))) - 1)) x10 x11 x12 false)))) else (none)) else (none)) else ((impl_size_int8.f x0).bind fun t120 => ((impl_within.f t120 1 8).bind fun t121 => (if t121 = true then (some (x4, decide (x5 < (x4.length : Int)))) else (some (x4, false)))))
def impl_Hoist_meaning.j1 : Nat → List Int → List Int → Int → Int → Int → List Int → Int → Int → Bool → Option (List Int × Bool)
 | 0, _, _, _, _, _, _, _, _, _ => none
 | k + 1, x0, x4, x5, x7, x8, x10, x11, x12, x41 => if x41 = true then (if 0 ≤ x8 then (if x8 < (x4.length : Int) then ((impl_isKind.f (rd x4 x8)).bind fun t128 => (if t128 = true then (if x4.length < 140737488355328 then (impl_Hoist_meaning.l0 k x0 (x4 ++ [rd x4 x8]) x5 x10 x11 (wrap64 (x12 + 1))) else (none)) else (some (([] : List Int), false)))) else (none)) else (none)) else ((impl_isKind.f x7).bind fun t132 => (if t132 = true then (if x4.length < 140737488355328 then (impl_Hoist_meaning.l0 k x0 (x4 ++ [x7]) x5 x10 x11 (wrap64 (x12 + 1))) else (none)) else (some (([] : List Int), false))))
end
def impl_Hoist_meaning.f (k : Nat) (l0 : List Int) : Option (List Int × Bool) := impl_Hoist_meaning.l0 k l0 (([] : List Int)) 0 l0 (l0.length : Int) 0
set_option maxHeartbeats 8000000 in
set_option maxRecDepth 100000 in
theorem impl_Hoist_meaning.calls (k : Nat) (A0 : Option Addr) (c0 : Nat) (l0 : List Int) (r1 : List Int) (r2 : Bool) (w : World) (hr0 : Kd.C (Kd.int .i8) w A0 l0.length l0) (hc0 : l0.length ≤ c0) (h : impl_Hoist_meaning.f k l0 = some (r1, r2)) :
  Calls Tryz.prog 30 #[.slice A0 l0.length c0] w fun e w' => ∃ v0_ : Value, e = .returned (.tuple #[v0_, .bool r2]) ∧ Kd.R (Kd.int .i8) 51 w' w.heap.size (fun _ => True) v0_ r1 ∧ Below w.heap.size w w' := by
 have HR0 := Aside0.mk hr0
 have HC0 := Aside0.mk hc0
 clear hr0 hc0
 have HB := Aside0.mk (Below.refl w.heap.size w)
 have H : (impl_Hoist_meaning.l0 k l0 (([] : List Int)) 0 l0 (l0.length : Int) 0) = some (r1, r2) := h
 clear h
 obtain ⟨y117, hy117⟩ : ∃ y_ : List Int, y_ = (([] : List Int)) := ⟨_, rfl⟩
 replace H : (impl_Hoist_meaning.l0 k l0 y117 0 l0 (l0.length : Int) 0) = some (r1, r2) := by first | (rw [hy117]; with_reducible exact H) | (have H2_ := (Option.bind_some _ _).symm.trans H; rw [hy117]; with_reducible exact H2_) | (have H2_ := (Option.bind_some _ _).symm.trans H; with_reducible exact H2_) | with_reducible exact H | (rw [hy117]; exact H) | exact H
 have Ny117 := Aside0.mk hy117
 clear hy117
 have H' := Aside0.mk H
 clear H
 go_enter Tryz.func30, Tryz.ntmps30
 go_wp2_with (first | ((with_reducible refine gate_dst (N := 9) rfl ?_); (try (refine gate_guard (by rfl) ?_; dsimp only)); refine Kd.R_lit (Kd.int .i8) _ 51 ?hg (N := 9) ?hd (xs := ([] : List Int)) (inner := []) (ok := fun _ => True) (okp := fun _ => True) ?hr ?hp (fun _ hk => hk) trivial (Below.refl _ _) (Nat.le_refl _) (by simp) ?_; (case hd => rfl); (case hg => rfl); (case hr => first | (go_simp; done) | (go_simp; rfl)); (case hp => exact (Reps.none _ _)); intro v118 w2 ho3 hb hg_ hnew_; clear hg_ hnew_; (first | rw [← Ny117.out] at ho3 | (simp only [Int.reduceToNat] at ho3; rw [← Ny117.out] at ho3)); have n0_ := Aside0.mk (Kd.R_lower ho3 (below_size (by repeat (first | (with_reducible first | exact HB.out | apply below_alloc | apply pw_below_drewN | apply below_drew1) | exact HB.out)))); have n1_ := Aside0.mk (below_step (by repeat (first | (with_reducible first | exact HB.out | apply below_alloc | apply pw_below_drewN | apply below_drew1) | exact HB.out)) hb); clear HB; have HO119 := n0_; have HB := n1_; clear n0_ n1_; clear hb ho3))
 go_loopg [4, 5, 12] k (fun kq v4 v5 v12 w' => ∃ (x4_1 : List Int) (x5_1 : Int) (x12_1 : Int), v5 = .int .i64 x5_1 ∧ v12 = .int .i64 x12_1 ∧ Aside0 (impl_Hoist_meaning.l0 kq l0 x4_1 x5_1 l0 (l0.length : Int) x12_1 = some (r1, r2)) ∧ Aside0 (kq ≤ k) ∧ Aside0 (Kd.R (Kd.int .i8) 51 w' w.heap.size (fun _ => True) v4 x4_1) ∧ Aside0 (Below w.heap.size w w'))
 case atStart => exact ⟨(y117), (0), (0), (by first | rfl | (simp; done) | (simp [*]; done)), (by first | rfl | (simp; done) | (simp [*]; done)), H', ⟨Nat.le_refl _⟩, ⟨by (with_reducible repeat (first | apply Kd.R_alloc | apply Kd.R_drewN | apply Kd.R_drew)); exact HO119.out⟩, ⟨by repeat (first | (with_reducible first | exact HB.out | apply below_alloc | apply pw_below_drewN | apply below_drew1) | exact HB.out)⟩⟩
 case round =>
  clear H'
  try clear p2
  try clear c3
  obtain ⟨x4_1, x5_1, x12_1, rfl, rfl, HA, HK1, HO_4, HB⟩ := hrel
  cases gk with
  | zero => exact absurd HA.out (by simp [impl_Hoist_meaning.l0])
  | succ k1 =>
   have H := HA.out
   clear HA
   simp only [impl_Hoist_meaning.l0] at H
   by_cases c4 : x12_1 < (l0.length : Int)
   ·rw [if_pos c4] at H
    have c4b0 : decide (x12_1 < (l0.length : Int)) = true := decide_eq_true c4
    clear c4
    by_cases c5 : 0 ≤ x12_1
    ·rw [if_pos c5] at H
     have c5b0 : decide (0 ≤ x12_1) = true := decide_eq_true c5
     clear c5
     by_cases c6 : x12_1 < (l0.length : Int)
     ·rw [if_pos c6] at H
      have c6b0 : decide (x12_1 < (l0.length : Int)) = true := decide_eq_true c6
      clear c6
      by_cases c7 : (rd l0 x12_1) = (-10)
      ·rw [if_pos c7] at H
       have c7b0 : ((rd l0 x12_1) == (-10)) = true := beq_iff_eq.mpr c7
       have c7b1 : ((rd l0 x12_1) != (-10)) = false := bne_eq_false_iff_eq.mpr c7
       clear c7
       by_cases c8 : x5_1 = (x4_1.length : Int)
       ·rw [if_pos c8] at H
        have c8b0 : (x5_1 == (x4_1.length : Int)) = true := beq_iff_eq.mpr c8
        have c8b1 : (x5_1 != (x4_1.length : Int)) = false := bne_eq_false_iff_eq.mpr c8
        clear c8
        simp only [Option.some.injEq, Prod.mk.injEq] at H
        obtain ⟨rfl, rfl⟩ := H
        have p122 : 0 ≤ (x12_1 : Int) := of_decide_eq_true (by first | (with_reducible assumption) | assumption)
        have q122 : x12_1 < (l0.length : Int) := of_decide_eq_true (by first | (with_reducible assumption) | assumption)
        obtain ⟨ad122, e122, hx122_0⟩ := Kd.at_int HR0.out x12_1 p122 q122
        cases e122
        replace hx122_0 := (HB.out.cell (World.block_lt_of_cell? w _ hx122_0)).trans hx122_0
        replace p122 := eq_true p122
        replace q122 := eq_true q122
        obtain ⟨Ao9, co9, eo9⟩ := Kd.R_slice HO_4.out
        subst eo9
        go_wp2
        go_ret2
        exact ⟨_, by first | rfl | (simp [errW_none, errW_some] <;> rfl) | (simp [*, errW_none, errW_some] <;> rfl), by first | exact Kd.R_nil _ _ _ _ _ | exact Kd.N_nil _ _ _ _ _ | exact Kd.V_nil _ _ _ _ _ | exact Kd.Q_nil _ _ _ _ _ | exact Kd.S_nil _ _ _ _ _, by repeat (first | (with_reducible first | exact HB.out | apply below_alloc | apply pw_below_drewN | apply below_drew1) | exact HB.out)⟩
       ·rw [if_neg c8] at H
        have c8b0 : (x5_1 == (x4_1.length : Int)) = false := beq_eq_false_iff_ne.mpr c8
        have c8b1 : (x5_1 != (x4_1.length : Int)) = true := bne_iff_ne.mpr c8
        by_cases c10 : x4_1.length < 140737488355328
        ·rw [if_pos c10] at H
         have LMc10 := Aside0.mk c10
         clear c10
         obtain ⟨y123, hy123⟩ : ∃ y_ : List Int, y_ = (x4_1 ++ [rd l0 x12_1]) := ⟨_, rfl⟩
         replace H : (impl_Hoist_meaning.l0 k1 l0 y123 (y123.length : Int) l0 (l0.length : Int) (wrap64 (x12_1 + 1))) = some (r1, r2) := by first | (rw [hy123]; with_reducible exact H) | (have H2_ := (Option.bind_some _ _).symm.trans H; rw [hy123]; with_reducible exact H2_) | (have H2_ := (Option.bind_some _ _).symm.trans H; with_reducible exact H2_) | with_reducible exact H | (rw [hy123]; exact H) | exact H
         have Ny123 := Aside0.mk hy123
         clear hy123
         have H' := Aside0.mk H
         clear H
         have p122 : 0 ≤ (x12_1 : Int) := of_decide_eq_true (by first | (with_reducible assumption) | assumption)
         have q122 : x12_1 < (l0.length : Int) := of_decide_eq_true (by first | (with_reducible assumption) | assumption)
         obtain ⟨ad122, e122, hx122_0⟩ := Kd.at_int HR0.out x12_1 p122 q122
         cases e122
         replace hx122_0 := (HB.out.cell (World.block_lt_of_cell? w _ hx122_0)).trans hx122_0
         replace p122 := eq_true p122
         replace q122 := eq_true q122
         obtain ⟨Ao11, co11, eo11⟩ := Kd.R_slice HO_4.out
         subst eo11
         go_wp2_with (first | ((with_reducible refine gate_builtin (b := .append) (xs := #[.tmp 22, .tmp 24]) rfl ?_); (try (refine gate_guard (by rfl) ?_; dsimp only)); at_builtin; refine Kd.R_append (Kd.int .i8) (w0 := w) w.heap.size rfl (.tmp 22) (.tmp 24) 27 51 (.int .i8 0) 1 rfl Tryz.underlying27 info51 rfl (by decide) (by omega) (.slice Ao11 x4_1.length co11) x4_1 (rd l0 x12_1) [.int .i8 (rd l0 x12_1)] (fun _ => True) (fun _ => False) rfl rfl ?aP (fun _ hk => hk.elim) ?aF ?aO ?aB ?aS ?aL ?_; (case aP => exact rfl); (case aB => exact (by repeat (first | (with_reducible first | exact HB.out | apply below_alloc | apply pw_below_drewN | apply below_drew1) | exact HB.out))); (case aF => exact (fun _ _ => trivial)); (case aO => exact (by (with_reducible repeat (first | apply Kd.R_alloc | apply Kd.R_drewN | apply Kd.R_drew)); exact HO_4.out)); (case aS => exact (below_size (by repeat (first | (with_reducible first | exact HB.out | apply below_alloc | apply pw_below_drewN | apply below_drew1) | exact HB.out)))); (case aL => have := LMc10.out; omega); intro v124 w12 ho hb hg hat; rw [← Ny123.out] at ho; have n0_ := Aside0.mk (hb); have n1_ := Aside0.mk (ho); clear HB; clear HO_4; have HB := n0_; have HO125 := n1_; clear n0_ n1_; clear ho hb hg hat; obtain ⟨Ao13, co13, eo13⟩ := Kd.R_slice HO125.out; subst eo13))
         go_roundg k1
         case measure => have := HK1.out; omega
         case rel => exact ⟨(y123), ((y123.length : Int)), (wrap64 (x12_1 + 1)), (by first | rfl | (simp; done) | (simp [*]; done)), (by first | rfl | (simp; done) | (simp [*]; done)), H', ⟨by have := HK1.out; omega⟩, ⟨by (with_reducible repeat (first | apply Kd.R_alloc | apply Kd.R_drewN | apply Kd.R_drew)); exact HO125.out⟩, ⟨by repeat (first | (with_reducible first | exact HB.out | apply below_alloc | apply pw_below_drewN | apply below_drew1) | exact HB.out)⟩⟩
        ·rw [if_neg c10] at H
         exact absurd H (by simp)
      ·rw [if_neg c7] at H
       have c7b0 : ((rd l0 x12_1) == (-10)) = false := beq_eq_false_iff_ne.mpr c7
       have c7b1 : ((rd l0 x12_1) != (-10)) = true := bne_iff_ne.mpr c7
       have HC14 := Aside0.mk H
       clear H
       have p122 : 0 ≤ (x12_1 : Int) := of_decide_eq_true (by first | (with_reducible assumption) | assumption)
       have q122 : x12_1 < (l0.length : Int) := of_decide_eq_true (by first | (with_reducible assumption) | assumption)
       obtain ⟨ad122, e122, hx122_0⟩ := Kd.at_int HR0.out x12_1 p122 q122
       cases e122
       replace hx122_0 := (HB.out.cell (World.block_lt_of_cell? w _ hx122_0)).trans hx122_0
       replace p122 := eq_true p122
       replace q122 := eq_true q122
       go_upto_region 11 with (fail)
       go_cut [41] (fun v41 wc => ∃ (kq : Nat) (x41_13 : Bool), v41 = .bool x41_13 ∧ Aside0 (impl_Hoist_meaning.j1 kq l0 x4_1 x5_1 (rd l0 x12_1) (wrap64 ((wrap64 (x5_1 - (wrap64 (rd l0 x12_1)))) - 1)) l0 (l0.length : Int) x12_1 x41_13 = some (r1, r2)) ∧ Aside0 (kq ≤ k1) ∧ Aside0 (Kd.R (Kd.int .i8) 51 wc w.heap.size (fun _ => True) u4 x4_1) ∧ Aside0 (Below w.heap.size w wc))
       case first =>
        have H := HC14.out
        clear HC14
        replace H := Option.bind_eq_some_iff.mp H
        obtain ⟨t126, A150, H⟩ := H
        replace H : (if t126 = true then (impl_Hoist_meaning.j1 k1 l0 x4_1 x5_1 (rd l0 x12_1) (wrap64 ((wrap64 (x5_1 - (wrap64 (rd l0 x12_1)))) - 1)) l0 (l0.length : Int) x12_1 (decide ((wrap64 ((wrap64 (x5_1 - (wrap64 (rd l0 x12_1)))) - 1)) < (x4_1.length : Int)))) else (impl_Hoist_meaning.j1 k1 l0 x4_1 x5_1 (rd l0 x12_1) (wrap64 ((wrap64 (x5_1 - (wrap64 (rd l0 x12_1)))) - 1)) l0 (l0.length : Int) x12_1 false)) = some (r1, r2) := H
        have A15 := Aside0.mk A150
        clear A150
        by_cases c16 : t126 = true
        ·subst c16
         have H1 : (impl_Hoist_meaning.j1 k1 l0 x4_1 x5_1 (rd l0 x12_1) (wrap64 ((wrap64 (x5_1 - (wrap64 (rd l0 x12_1)))) - 1)) l0 (l0.length : Int) x12_1 (decide ((wrap64 ((wrap64 (x5_1 - (wrap64 (rd l0 x12_1)))) - 1)) < (x4_1.length : Int)))) = some (r1, r2) := by rw [if_pos rfl] at H; exact H
         clear H
         have H := H1
         clear H1
         have H' := Aside0.mk H
         clear H
         go_wp2_with (first | ((with_reducible refine gate_callee (f := 36) rfl ?_); refine goesL_ (some 35) rfl rfl Tryz.func36 (by kernel_rfl) rfl #[.int .i64 (wrap64 (rd l0 x12_1)), .int .i64 (-4), .int .i64 (-1)] rfl (by (try simp only [List.map_toArray, List.map_cons, List.map_nil]); first | done | rfl | (simp only [List.length_drop, List.length_take]; rfl)) ?_; (with_reducible refine (impl_within.calls (wrap64 (rd l0 x12_1)) (-4) (-1) true _ A15.out).mono ?_); rintro e w' ⟨rfl, ⟨nd, rfl⟩⟩; refine ⟨_, rfl, ?_⟩; obtain ⟨Ao17, co17, eo17⟩ := Kd.R_slice HO_4.out; subst eo17))
         go_meet
         case rel => exact ⟨_, (decide ((wrap64 ((wrap64 (x5_1 - (wrap64 (rd l0 x12_1)))) - 1)) < (x4_1.length : Int))), (by first | rfl | (simp; done) | (simp [*]; done)), H', ⟨by have := HK1.out; first | omega | exact Nat.le_refl _⟩, ⟨by (with_reducible repeat (first | apply Kd.R_alloc | apply Kd.R_drewN | apply Kd.R_drew)); exact HO_4.out⟩, ⟨by repeat (first | (with_reducible first | exact HB.out | apply below_alloc | apply pw_below_drewN | apply below_drew1) | exact HB.out)⟩⟩
        ·replace c16 := Bool.eq_false_iff.mpr c16
         subst c16
         have H1 : (impl_Hoist_meaning.j1 k1 l0 x4_1 x5_1 (rd l0 x12_1) (wrap64 ((wrap64 (x5_1 - (wrap64 (rd l0 x12_1)))) - 1)) l0 (l0.length : Int) x12_1 false) = some (r1, r2) := by rw [if_neg (show ¬ (false = true) by decide)] at H; exact H
         clear H
         have H := H1
         clear H1
         have H' := Aside0.mk H
         clear H
         go_wp2_with (first | ((with_reducible refine gate_callee (f := 36) rfl ?_); refine goesL_ (some 35) rfl rfl Tryz.func36 (by kernel_rfl) rfl #[.int .i64 (wrap64 (rd l0 x12_1)), .int .i64 (-4), .int .i64 (-1)] rfl (by (try simp only [List.map_toArray, List.map_cons, List.map_nil]); first | done | rfl | (simp only [List.length_drop, List.length_take]; rfl)) ?_; (with_reducible refine (impl_within.calls (wrap64 (rd l0 x12_1)) (-4) (-1) false _ A15.out).mono ?_); rintro e w' ⟨rfl, ⟨nd, rfl⟩⟩; refine ⟨_, rfl, ?_⟩))
         go_meet
         case rel => exact ⟨_, (false), (by first | rfl | (simp; done) | (simp [*]; done)), H', ⟨by have := HK1.out; first | omega | exact Nat.le_refl _⟩, ⟨by (with_reducible repeat (first | apply Kd.R_alloc | apply Kd.R_drewN | apply Kd.R_drew)); exact HO_4.out⟩, ⟨by repeat (first | (with_reducible first | exact HB.out | apply below_alloc | apply pw_below_drewN | apply below_drew1) | exact HB.out)⟩⟩
       case rest =>
        clear HC14
        try clear c1
        try clear p1
        try clear q1
        try clear hx1
        try clear p2
        try clear c3
        try clear c4
        try clear c4b0
        try clear c5
        try clear c5b0
        try clear c6
        try clear c6b0
        try clear p6
        try clear c7
        try clear c7b0
        try clear c7b1
        try clear c8
        try clear c8b0
        try clear c8b1
        try clear c10
        try clear p12
        try clear q12
        try clear hx12
        try clear c16
        try clear hx122_0
        try clear p122
        try clear p2
        try clear q122
        obtain ⟨kq, x41_13, rfl, HA, HJ13, HO_4, HB⟩ := hcut
        cases kq with
        | zero => exact absurd HA.out (by simp [impl_Hoist_meaning.j1])
        | succ kj13 =>
         have H := HA.out
         clear HA
         simp only [impl_Hoist_meaning.j1] at H
         by_cases c18 : x41_13 = true
         ·subst c18
          have H1 : (if 0 ≤ (wrap64 ((wrap64 (x5_1 - (wrap64 (rd l0 x12_1)))) - 1)) then (if (wrap64 ((wrap64 (x5_1 - (wrap64 (rd l0 x12_1)))) - 1)) < (x4_1.length : Int) then ((impl_isKind.f (rd x4_1 (wrap64 ((wrap64 (x5_1 - (wrap64 (rd l0 x12_1)))) - 1)))).bind fun t128 => (if t128 = true then (if x4_1.length < 140737488355328 then (impl_Hoist_meaning.l0 kj13 l0 (x4_1 ++ [rd x4_1 (wrap64 ((wrap64 (x5_1 - (wrap64 (rd l0 x12_1)))) - 1))]) x5_1 l0 (l0.length : Int) (wrap64 (x12_1 + 1))) else (none)) else (some (([] : List Int), false)))) else (none)) else (none)) = some (r1, r2) := by rw [if_pos rfl] at H; exact H
          clear H
          have H := H1
          clear H1
          obtain ⟨ji19, hji19⟩ : ∃ j_ : Int, (wrap64 ((wrap64 (x5_1 - (wrap64 (rd l0 x12_1)))) - 1)) = j_ := ⟨_, rfl⟩
          replace H : (if 0 ≤ (ji19) then (if (ji19) < (x4_1.length : Int) then ((impl_isKind.f (rd x4_1 (ji19))).bind fun t128 => (if t128 = true then (if x4_1.length < 140737488355328 then (impl_Hoist_meaning.l0 kj13 l0 (x4_1 ++ [rd x4_1 (ji19)]) x5_1 l0 (l0.length : Int) (wrap64 (x12_1 + 1))) else (none)) else (some (([] : List Int), false)))) else (none)) else (none)) = some (r1, r2) := by first | (rw [hji19] at H; exact H) | (simp only [hji19] at H ⊢; exact H)
          have hji19w : (IntKind.i64.wrap ((wrap64 (x5_1 - (wrap64 (rd l0 x12_1)))) - 1)) = ji19 := (i64_w _).trans hji19
          by_cases c20 : 0 ≤ (ji19)
          ·rw [if_pos c20] at H
           have c20b0 : decide (0 ≤ (ji19)) = true := decide_eq_true c20
           clear c20
           by_cases c21 : (ji19) < (x4_1.length : Int)
           ·rw [if_pos c21] at H
            have c21b0 : decide ((ji19) < (x4_1.length : Int)) = true := decide_eq_true c21
            clear c21
            replace H := Option.bind_eq_some_iff.mp H
            obtain ⟨t128, A220, H⟩ := H
            replace H : (if t128 = true then (if x4_1.length < 140737488355328 then (impl_Hoist_meaning.l0 kj13 l0 (x4_1 ++ [rd x4_1 (ji19)]) x5_1 l0 (l0.length : Int) (wrap64 (x12_1 + 1))) else (none)) else (some (([] : List Int), false))) = some (r1, r2) := H
            have A22 := Aside0.mk A220
            clear A220
            by_cases c23 : t128 = true
            ·subst c23
             have H1 : (if x4_1.length < 140737488355328 then (impl_Hoist_meaning.l0 kj13 l0 (x4_1 ++ [rd x4_1 (ji19)]) x5_1 l0 (l0.length : Int) (wrap64 (x12_1 + 1))) else (none)) = some (r1, r2) := by rw [if_pos rfl] at H; exact H
             clear H
             have H := H1
             clear H1
             by_cases c24 : x4_1.length < 140737488355328
             ·rw [if_pos c24] at H
              have LMc24 := Aside0.mk c24
              clear c24
              obtain ⟨y129, hy129⟩ : ∃ y_ : List Int, y_ = (x4_1 ++ [rd x4_1 (ji19)]) := ⟨_, rfl⟩
              replace H : (impl_Hoist_meaning.l0 kj13 l0 y129 x5_1 l0 (l0.length : Int) (wrap64 (x12_1 + 1))) = some (r1, r2) := by first | (rw [hy129]; with_reducible exact H) | (have H2_ := (Option.bind_some _ _).symm.trans H; rw [hy129]; with_reducible exact H2_) | (have H2_ := (Option.bind_some _ _).symm.trans H; with_reducible exact H2_) | with_reducible exact H | (rw [hy129]; exact H) | exact H
              have Ny129 := Aside0.mk hy129
              clear hy129
              have H' := Aside0.mk H
              clear H
              obtain ⟨Ao25, co25, eo25⟩ := Kd.R_slice HO_4.out
              subst eo25
              have p127 : 0 ≤ ((ji19) : Int) := of_decide_eq_true (by first | (with_reducible assumption) | assumption)
              have q127 : (ji19) < (x4_1.length : Int) := of_decide_eq_true (by first | (with_reducible assumption) | assumption)
              obtain ⟨ad127, e127, hx127_0⟩ := Kd.at_int (Kd.R_reads' HO_4.out).2.2 (ji19) p127 q127
              cases e127
              replace p127 := eq_true p127
              replace q127 := eq_true q127
              go_wp2_with (first | ((with_reducible refine gate_callee (f := 51) rfl ?_); refine goesL_ (some 47) rfl rfl Tryz.func51 (by kernel_rfl) rfl #[.int .i8 (rd x4_1 (ji19))] rfl (by (try simp only [List.map_toArray, List.map_cons, List.map_nil]); first | done | (simp only [hji19]; rfl) | rfl | (simp only [List.length_drop, List.length_take]; rfl)) ?_; (with_reducible refine (impl_isKind.calls (rd x4_1 (ji19)) true _ A22.out).mono ?_); rintro e w' ⟨rfl, ⟨nd, rfl⟩⟩; refine ⟨_, rfl, ?_⟩) | ((with_reducible refine gate_builtin (b := .append) (xs := #[.tmp 49, .tmp 51]) rfl ?_); (try (refine gate_guard (by rfl) ?_; dsimp only)); at_builtin; refine Kd.R_append (Kd.int .i8) (w0 := w) w.heap.size rfl (.tmp 49) (.tmp 51) 27 51 (.int .i8 0) 1 rfl Tryz.underlying27 info51 rfl (by decide) (by omega) (.slice (some ad127) x4_1.length co25) x4_1 (rd x4_1 (ji19)) [.int .i8 (rd x4_1 (ji19))] (fun _ => True) (fun _ => False) rfl rfl ?aP (fun _ hk => hk.elim) ?aF ?aO ?aB ?aS ?aL ?_; (case aP => exact rfl); (case aB => exact (by repeat (first | (with_reducible first | exact HB.out | apply below_alloc | apply pw_below_drewN | apply below_drew1) | exact HB.out))); (case aF => exact (fun _ _ => trivial)); (case aO => exact (by (with_reducible repeat (first | apply Kd.R_alloc | apply Kd.R_drewN | apply Kd.R_drew)); exact HO_4.out)); (case aS => exact (below_size (by repeat (first | (with_reducible first | exact HB.out | apply below_alloc | apply pw_below_drewN | apply below_drew1) | exact HB.out)))); (case aL => have := LMc24.out; omega); intro v130 w26 ho hb hg hat; rw [← Ny129.out] at ho; have n0_ := Aside0.mk (hb); have n1_ := Aside0.mk (ho); clear HB; clear HO_4; have HB := n0_; have HO131 := n1_; clear n0_ n1_; clear ho hb hg hat))
              go_roundg kj13
              case measure => have := HK1.out; have := HJ13.out; omega
              case rel => exact ⟨(y129), (x5_1), (wrap64 (x12_1 + 1)), (by first | rfl | (simp; done) | (simp [*]; done)), (by first | rfl | (simp; done) | (simp [*]; done)), H', ⟨by have := HK1.out; have := HJ13.out; omega⟩, ⟨by (with_reducible repeat (first | apply Kd.R_alloc | apply Kd.R_drewN | apply Kd.R_drew)); exact HO131.out⟩, ⟨by repeat (first | (with_reducible first | exact HB.out | apply below_alloc | apply pw_below_drewN | apply below_drew1) | exact HB.out)⟩⟩
             ·rw [if_neg c24] at H
              exact absurd H (by simp)
            ·replace c23 := Bool.eq_false_iff.mpr c23
             subst c23
             have H1 : (some (([] : List Int), false)) = some (r1, r2) := by rw [if_neg (show ¬ (false = true) by decide)] at H; exact H
             clear H
             have H := H1
             clear H1
             simp only [Option.some.injEq, Prod.mk.injEq] at H
             obtain ⟨rfl, rfl⟩ := H
             obtain ⟨Ao27, co27, eo27⟩ := Kd.R_slice HO_4.out
             subst eo27
             have p127 : 0 ≤ ((ji19) : Int) := of_decide_eq_true (by first | (with_reducible assumption) | assumption)
             have q127 : (ji19) < (x4_1.length : Int) := of_decide_eq_true (by first | (with_reducible assumption) | assumption)
             obtain ⟨ad127, e127, hx127_0⟩ := Kd.at_int (Kd.R_reads' HO_4.out).2.2 (ji19) p127 q127
             cases e127
             replace p127 := eq_true p127
             replace q127 := eq_true q127
             go_wp2_with (first | ((with_reducible refine gate_callee (f := 51) rfl ?_); refine goesL_ (some 47) rfl rfl Tryz.func51 (by kernel_rfl) rfl #[.int .i8 (rd x4_1 (ji19))] rfl (by (try simp only [List.map_toArray, List.map_cons, List.map_nil]); first | done | (simp only [hji19]; rfl) | rfl | (simp only [List.length_drop, List.length_take]; rfl)) ?_; (with_reducible refine (impl_isKind.calls (rd x4_1 (ji19)) false _ A22.out).mono ?_); rintro e w' ⟨rfl, ⟨nd, rfl⟩⟩; refine ⟨_, rfl, ?_⟩))
             go_ret2
             exact ⟨_, by first | rfl | (simp [errW_none, errW_some] <;> rfl) | (simp only [← hji19]; first | rfl | (simp [errW_none, errW_some] <;> rfl)) | (simp [*, errW_none, errW_some] <;> rfl), by first | exact Kd.R_nil _ _ _ _ _ | exact Kd.N_nil _ _ _ _ _ | exact Kd.V_nil _ _ _ _ _ | exact Kd.Q_nil _ _ _ _ _ | exact Kd.S_nil _ _ _ _ _, by repeat (first | (with_reducible first | exact HB.out | apply below_alloc | apply pw_below_drewN | apply below_drew1) | exact HB.out)⟩
           ·rw [if_neg c21] at H
            exact absurd H (by simp)
          ·rw [if_neg c20] at H
           exact absurd H (by simp)
         ·replace c18 := Bool.eq_false_iff.mpr c18
          subst c18
          have H1 : ((impl_isKind.f (rd l0 x12_1)).bind fun t132 => (if t132 = true then (if x4_1.length < 140737488355328 then (impl_Hoist_meaning.l0 kj13 l0 (x4_1 ++ [(rd l0 x12_1)]) x5_1 l0 (l0.length : Int) (wrap64 (x12_1 + 1))) else (none)) else (some (([] : List Int), false)))) = some (r1, r2) := by rw [if_neg (show ¬ (false = true) by decide)] at H; exact H
          clear H
          have H := H1
          clear H1
          replace H := Option.bind_eq_some_iff.mp H
          obtain ⟨t132, A280, H⟩ := H
          replace H : (if t132 = true then (if x4_1.length < 140737488355328 then (impl_Hoist_meaning.l0 kj13 l0 (x4_1 ++ [(rd l0 x12_1)]) x5_1 l0 (l0.length : Int) (wrap64 (x12_1 + 1))) else (none)) else (some (([] : List Int), false))) = some (r1, r2) := H
          have A28 := Aside0.mk A280
          clear A280
          by_cases c29 : t132 = true
          ·subst c29
           have H1 : (if x4_1.length < 140737488355328 then (impl_Hoist_meaning.l0 kj13 l0 (x4_1 ++ [(rd l0 x12_1)]) x5_1 l0 (l0.length : Int) (wrap64 (x12_1 + 1))) else (none)) = some (r1, r2) := by rw [if_pos rfl] at H; exact H
           clear H
           have H := H1
           clear H1
           by_cases c30 : x4_1.length < 140737488355328
           ·rw [if_pos c30] at H
            have LMc30 := Aside0.mk c30
            clear c30
            obtain ⟨y133, hy133⟩ : ∃ y_ : List Int, y_ = (x4_1 ++ [(rd l0 x12_1)]) := ⟨_, rfl⟩
            replace H : (impl_Hoist_meaning.l0 kj13 l0 y133 x5_1 l0 (l0.length : Int) (wrap64 (x12_1 + 1))) = some (r1, r2) := by first | (rw [hy133]; with_reducible exact H) | (have H2_ := (Option.bind_some _ _).symm.trans H; rw [hy133]; with_reducible exact H2_) | (have H2_ := (Option.bind_some _ _).symm.trans H; with_reducible exact H2_) | with_reducible exact H | (rw [hy133]; exact H) | exact H
            have Ny133 := Aside0.mk hy133
            clear hy133
            have H' := Aside0.mk H
            clear H
            go_wp2_with (first | ((with_reducible refine gate_callee (f := 51) rfl ?_); refine goesL_ (some 47) rfl rfl Tryz.func51 (by kernel_rfl) rfl #[.int .i8 (rd l0 x12_1)] rfl (by (try simp only [List.map_toArray, List.map_cons, List.map_nil]); first | done | rfl | (simp only [List.length_drop, List.length_take]; rfl)) ?_; (with_reducible refine (impl_isKind.calls (rd l0 x12_1) true _ A28.out).mono ?_); rintro e w' ⟨rfl, ⟨nd, rfl⟩⟩; refine ⟨_, rfl, ?_⟩) | ((with_reducible refine gate_builtin (b := .append) (xs := #[.tmp 49, .tmp 51]) rfl ?_); (try (refine gate_guard (by rfl) ?_; dsimp only)); at_builtin; refine Kd.R_append (Kd.int .i8) (w0 := w) w.heap.size rfl (.tmp 49) (.tmp 51) 27 51 (.int .i8 0) 1 rfl Tryz.underlying27 info51 rfl (by decide) (by omega) u4 x4_1 (rd l0 x12_1) [.int .i8 (rd l0 x12_1)] (fun _ => True) (fun _ => False) rfl rfl ?aP (fun _ hk => hk.elim) ?aF ?aO ?aB ?aS ?aL ?_; (case aP => exact rfl); (case aB => exact (by repeat (first | (with_reducible first | exact HB.out | apply below_alloc | apply pw_below_drewN | apply below_drew1) | exact HB.out))); (case aF => exact (fun _ _ => trivial)); (case aO => exact (by (with_reducible repeat (first | apply Kd.R_alloc | apply Kd.R_drewN | apply Kd.R_drew)); exact HO_4.out)); (case aS => exact (below_size (by repeat (first | (with_reducible first | exact HB.out | apply below_alloc | apply pw_below_drewN | apply below_drew1) | exact HB.out)))); (case aL => have := LMc30.out; omega); intro v134 w31 ho hb hg hat; rw [← Ny133.out] at ho; have n0_ := Aside0.mk (hb); have n1_ := Aside0.mk (ho); clear HB; clear HO_4; have HB := n0_; have HO135 := n1_; clear n0_ n1_; clear ho hb hg hat))
            go_roundg kj13
            case measure => have := HK1.out; have := HJ13.out; omega
            case rel => exact ⟨(y133), (x5_1), (wrap64 (x12_1 + 1)), (by first | rfl | (simp; done) | (simp [*]; done)), (by first | rfl | (simp; done) | (simp [*]; done)), H', ⟨by have := HK1.out; have := HJ13.out; omega⟩, ⟨by (with_reducible repeat (first | apply Kd.R_alloc | apply Kd.R_drewN | apply Kd.R_drew)); exact HO135.out⟩, ⟨by repeat (first | (with_reducible first | exact HB.out | apply below_alloc | apply pw_below_drewN | apply below_drew1) | exact HB.out)⟩⟩
           ·rw [if_neg c30] at H
            exact absurd H (by simp)
          ·replace c29 := Bool.eq_false_iff.mpr c29
           subst c29
           have H1 : (some (([] : List Int), false)) = some (r1, r2) := by rw [if_neg (show ¬ (false = true) by decide)] at H; exact H
           clear H
           have H := H1
           clear H1
           simp only [Option.some.injEq, Prod.mk.injEq] at H
           obtain ⟨rfl, rfl⟩ := H
           go_wp2_with (first | ((with_reducible refine gate_callee (f := 51) rfl ?_); refine goesL_ (some 47) rfl rfl Tryz.func51 (by kernel_rfl) rfl #[.int .i8 (rd l0 x12_1)] rfl (by (try simp only [List.map_toArray, List.map_cons, List.map_nil]); first | done | rfl | (simp only [List.length_drop, List.length_take]; rfl)) ?_; (with_reducible refine (impl_isKind.calls (rd l0 x12_1) false _ A28.out).mono ?_); rintro e w' ⟨rfl, ⟨nd, rfl⟩⟩; refine ⟨_, rfl, ?_⟩))
           go_ret2
           exact ⟨_, by first | rfl | (simp [errW_none, errW_some] <;> rfl) | (simp [*, errW_none, errW_some] <;> rfl), by first | exact Kd.R_nil _ _ _ _ _ | exact Kd.N_nil _ _ _ _ _ | exact Kd.V_nil _ _ _ _ _ | exact Kd.Q_nil _ _ _ _ _ | exact Kd.S_nil _ _ _ _ _, by repeat (first | (with_reducible first | exact HB.out | apply below_alloc | apply pw_below_drewN | apply below_drew1) | exact HB.out)⟩
     ·rw [if_neg c6] at H
      exact absurd H (by simp)
    ·rw [if_neg c5] at H
     exact absurd H (by simp)
   ·rw [if_neg c4] at H
    have c4b0 : decide (x12_1 < (l0.length : Int)) = false := decide_eq_false c4
    clear c4
    replace H := Option.bind_eq_some_iff.mp H
    obtain ⟨t120, A320, H⟩ := H
    replace H : ((impl_within.f t120 1 8).bind fun t121 => (if t121 = true then (some (x4_1, decide (x5_1 < (x4_1.length : Int)))) else (some (x4_1, false)))) = some (r1, r2) := H
    have A32 := Aside0.mk A320
    clear A320
    replace H := Option.bind_eq_some_iff.mp H
    obtain ⟨t121, A330, H⟩ := H
    replace H : (if t121 = true then (some (x4_1, decide (x5_1 < (x4_1.length : Int)))) else (some (x4_1, false))) = some (r1, r2) := H
    have A33 := Aside0.mk A330
    clear A330
    by_cases c34 : t121 = true
    ·subst c34
     have H1 : (some (x4_1, decide (x5_1 < (x4_1.length : Int)))) = some (r1, r2) := by rw [if_pos rfl] at H; exact H
     clear H
     have H := H1
     clear H1
     simp only [Option.some.injEq, Prod.mk.injEq] at H
     obtain ⟨rfl, rfl⟩ := H
     go_wp2_with (first | ((with_reducible refine gate_callee (f := 52) rfl ?_); refine goesL_ (some 56) rfl rfl Tryz.func52 (by kernel_rfl) rfl #[.slice A0 l0.length c0] rfl (by (try simp only [List.map_toArray, List.map_cons, List.map_nil]); first | done | rfl | (simp only [List.length_drop, List.length_take]; rfl)) ?_; (with_reducible refine (impl_size_int8.calls _ _ l0 t120 _ ?side1 ?side2 A32.out).mono ?_); (case side1 => repeat (first | exact (Kd.C_below HR0.out HB.out) | (with_reducible refine Kd.C_alloc ?_ _) | (with_reducible refine Kd.C_drewN ?_ _) | (with_reducible refine Kd.C_drew ?_))); (case side2 => exact HC0.out); rintro e w' ⟨rfl, ⟨nd, rfl⟩⟩; refine ⟨_, rfl, ?_⟩) | ((with_reducible refine gate_callee (f := 36) rfl ?_); refine goesL_ (some 57) rfl rfl Tryz.func36 (by kernel_rfl) rfl #[.int .i64 t120, .int .i64 1, .int .i64 8] rfl (by (try simp only [List.map_toArray, List.map_cons, List.map_nil]); first | done | rfl | (simp only [List.length_drop, List.length_take]; rfl)) ?_; (with_reducible refine (impl_within.calls t120 1 8 true _ A33.out).mono ?_); rintro e w' ⟨rfl, ⟨nd, rfl⟩⟩; refine ⟨_, rfl, ?_⟩; obtain ⟨Ao35, co35, eo35⟩ := Kd.R_slice HO_4.out; subst eo35))
     go_ret2
     exact ⟨_, by first | rfl | (simp [errW_none, errW_some] <;> rfl) | (simp [*, errW_none, errW_some] <;> rfl), by (with_reducible repeat (first | apply Kd.R_alloc | apply Kd.R_drewN | apply Kd.R_drew)); exact HO_4.out, by repeat (first | (with_reducible first | exact HB.out | apply below_alloc | apply pw_below_drewN | apply below_drew1) | exact HB.out)⟩
    ·replace c34 := Bool.eq_false_iff.mpr c34
     subst c34
     have H1 : (some (x4_1, false)) = some (r1, r2) := by rw [if_neg (show ¬ (false = true) by decide)] at H; exact H
     clear H
     have H := H1
     clear H1
     simp only [Option.some.injEq, Prod.mk.injEq] at H
     obtain ⟨rfl, rfl⟩ := H
     go_wp2_with (first | ((with_reducible refine gate_callee (f := 52) rfl ?_); refine goesL_ (some 56) rfl rfl Tryz.func52 (by kernel_rfl) rfl #[.slice A0 l0.length c0] rfl (by (try simp only [List.map_toArray, List.map_cons, List.map_nil]); first | done | rfl | (simp only [List.length_drop, List.length_take]; rfl)) ?_; (with_reducible refine (impl_size_int8.calls _ _ l0 t120 _ ?side1 ?side2 A32.out).mono ?_); (case side1 => repeat (first | exact (Kd.C_below HR0.out HB.out) | (with_reducible refine Kd.C_alloc ?_ _) | (with_reducible refine Kd.C_drewN ?_ _) | (with_reducible refine Kd.C_drew ?_))); (case side2 => exact HC0.out); rintro e w' ⟨rfl, ⟨nd, rfl⟩⟩; refine ⟨_, rfl, ?_⟩) | ((with_reducible refine gate_callee (f := 36) rfl ?_); refine goesL_ (some 57) rfl rfl Tryz.func36 (by kernel_rfl) rfl #[.int .i64 t120, .int .i64 1, .int .i64 8] rfl (by (try simp only [List.map_toArray, List.map_cons, List.map_nil]); first | done | rfl | (simp only [List.length_drop, List.length_take]; rfl)) ?_; (with_reducible refine (impl_within.calls t120 1 8 false _ A33.out).mono ?_); rintro e w' ⟨rfl, ⟨nd, rfl⟩⟩; refine ⟨_, rfl, ?_⟩))
     go_ret2
     exact ⟨_, by first | rfl | (simp [errW_none, errW_some] <;> rfl) | (simp [*, errW_none, errW_some] <;> rfl), by (with_reducible repeat (first | apply Kd.R_alloc | apply Kd.R_drewN | apply Kd.R_drew)); exact HO_4.out, by repeat (first | (with_reducible first | exact HB.out | apply below_alloc | apply pw_below_drewN | apply below_drew1) | exact HB.out)⟩
def impl_MeaningOf.f (k : Nat) (l0 : List Int) : Option (List Int × Int) := (impl_Hoist_meaning.f k l0).bind fun bt136 => (if bt136.2 = true then (some (bt136.1, 0)) else (some (([] : List Int), 1)))
set_option maxHeartbeats 8000000 in
set_option maxRecDepth 100000 in
theorem impl_MeaningOf.calls (k : Nat) (A0 : Option Addr) (c0 : Nat) (l0 : List Int) (r1 : List Int) (r2 : Int) (w : World) (hr0 : Kd.C (Kd.int .i8) w A0 l0.length l0) (hc0 : l0.length ≤ c0) (h : impl_MeaningOf.f k l0 = some (r1, r2)) :
  Calls Tryz.prog 6 #[.slice A0 l0.length c0] w fun e w' => ∃ v0_ : Value, e = .returned (.tuple #[v0_, .int .i64 r2]) ∧ Kd.R (Kd.int .i8) 51 w' w.heap.size (fun _ => True) v0_ r1 ∧ Below w.heap.size w w' := by
 have HR0 := Aside0.mk hr0
 have HC0 := Aside0.mk hc0
 clear hr0 hc0
 have HB := Aside0.mk (Below.refl w.heap.size w)
 have H : ((impl_Hoist_meaning.f k l0).bind fun bt136 => (if bt136.2 = true then (some (bt136.1, 0)) else (some (([] : List Int), 1)))) = some (r1, r2) := h
 clear h
 replace H := Option.bind_eq_some_iff.mp H
 obtain ⟨⟨t136, t137⟩, A20, H⟩ := H
 replace H : (if t137 = true then (some (t136, 0)) else (some (([] : List Int), 1))) = some (r1, r2) := H
 have A2 := Aside0.mk A20
 clear A20
 by_cases c3 : t137 = true
 ·subst c3
  have H1 : (some (t136, 0)) = some (r1, r2) := by rw [if_pos rfl] at H; exact H
  clear H
  have H := H1
  clear H1
  simp only [Option.some.injEq, Prod.mk.injEq] at H
  obtain ⟨rfl, rfl⟩ := H
  go_enter Tryz.func6, Tryz.ntmps6
  go_wp2_with (first | ((with_reducible refine gate_callee (f := 30) rfl ?_); refine goesL_ (some 8) rfl rfl Tryz.func30 (by kernel_rfl) rfl #[.slice A0 l0.length c0] rfl (by (try simp only [List.map_toArray, List.map_cons, List.map_nil]); first | done | rfl | (simp only [List.length_drop, List.length_take]; rfl)) ?_; (with_reducible refine (impl_Hoist_meaning.calls k _ _ l0 t136 true _ ?side1 ?side2 A2.out).mono ?_); (case side1 => repeat (first | exact HR0.out | (with_reducible refine Kd.C_alloc ?_ _) | (with_reducible refine Kd.C_drewN ?_ _) | (with_reducible refine Kd.C_drew ?_))); (case side2 => exact HC0.out); rintro e w4 ⟨v138, rfl, ho0, hb⟩; refine ⟨_, rfl, ?_⟩; have n0_ := Aside0.mk (Kd.R_lower ho0 (below_size (by repeat (first | (with_reducible first | exact HB.out | apply below_alloc | apply pw_below_drewN | apply below_drew1) | exact HB.out)))); have n1_ := Aside0.mk (below_step (by repeat (first | (with_reducible first | exact HB.out | apply below_alloc | apply pw_below_drewN | apply below_drew1) | exact HB.out)) hb); clear HB; have HO139 := n0_; have HB := n1_; clear n0_ n1_; (try clear hb); (try clear hb2); (try clear hk); (try clear hi); (try clear ho0)))
  go_ret2
  exact ⟨_, by first | rfl | (simp [errW_none, errW_some] <;> rfl) | (simp [*, errW_none, errW_some] <;> rfl), by (with_reducible repeat (first | apply Kd.R_alloc | apply Kd.R_drewN | apply Kd.R_drew)); exact HO139.out, by repeat (first | (with_reducible first | exact HB.out | apply below_alloc | apply pw_below_drewN | apply below_drew1) | exact HB.out)⟩
 ·replace c3 := Bool.eq_false_iff.mpr c3
  subst c3
  have H1 : (some (([] : List Int), 1)) = some (r1, r2) := by rw [if_neg (show ¬ (false = true) by decide)] at H; exact H
  clear H
  have H := H1
  clear H1
  simp only [Option.some.injEq, Prod.mk.injEq] at H
  obtain ⟨rfl, rfl⟩ := H
  go_enter Tryz.func6, Tryz.ntmps6
  go_wp2_with (first | ((with_reducible refine gate_callee (f := 30) rfl ?_); refine goesL_ (some 8) rfl rfl Tryz.func30 (by kernel_rfl) rfl #[.slice A0 l0.length c0] rfl (by (try simp only [List.map_toArray, List.map_cons, List.map_nil]); first | done | rfl | (simp only [List.length_drop, List.length_take]; rfl)) ?_; (with_reducible refine (impl_Hoist_meaning.calls k _ _ l0 t136 false _ ?side1 ?side2 A2.out).mono ?_); (case side1 => repeat (first | exact HR0.out | (with_reducible refine Kd.C_alloc ?_ _) | (with_reducible refine Kd.C_drewN ?_ _) | (with_reducible refine Kd.C_drew ?_))); (case side2 => exact HC0.out); rintro e w5 ⟨v138, rfl, ho0, hb⟩; refine ⟨_, rfl, ?_⟩; have n0_ := Aside0.mk (Kd.R_lower ho0 (below_size (by repeat (first | (with_reducible first | exact HB.out | apply below_alloc | apply pw_below_drewN | apply below_drew1) | exact HB.out)))); have n1_ := Aside0.mk (below_step (by repeat (first | (with_reducible first | exact HB.out | apply below_alloc | apply pw_below_drewN | apply below_drew1) | exact HB.out)) hb); clear HB; have HO139 := n0_; have HB := n1_; clear n0_ n1_; (try clear hb); (try clear hb2); (try clear hk); (try clear hi); (try clear ho0)))
  go_ret2
  exact ⟨_, by first | rfl | (simp [errW_none, errW_some] <;> rfl) | (simp [*, errW_none, errW_some] <;> rfl), by first | exact Kd.R_nil _ _ _ _ _ | exact Kd.N_nil _ _ _ _ _ | exact Kd.V_nil _ _ _ _ _ | exact Kd.Q_nil _ _ _ _ _ | exact Kd.S_nil _ _ _ _ _, by repeat (first | (with_reducible first | exact HB.out | apply below_alloc | apply pw_below_drewN | apply below_drew1) | exact HB.out)⟩
def impl_ValidHoist.f (k : Nat) (l0 : List Int) : Option (Bool) := (impl_Hoist_meaning.f k l0).bind fun bt140 => (some bt140.2)
set_option maxHeartbeats 8000000 in
set_option maxRecDepth 100000 in
theorem impl_ValidHoist.calls (k : Nat) (A0 : Option Addr) (c0 : Nat) (l0 : List Int) (r : Bool) (w : World) (hr0 : Kd.C (Kd.int .i8) w A0 l0.length l0) (hc0 : l0.length ≤ c0) (h : impl_ValidHoist.f k l0 = some r) :
  Calls Tryz.prog 19 #[.slice A0 l0.length c0] w fun e w' => e = .returned (.bool r) ∧ Below w.heap.size w w' := by
 have HR0 := Aside0.mk hr0
 have HC0 := Aside0.mk hc0
 clear hr0 hc0
 have HB := Aside0.mk (Below.refl w.heap.size w)
 have H : ((impl_Hoist_meaning.f k l0).bind fun bt140 => (some bt140.2)) = some r := h
 clear h
 replace H := Option.bind_eq_some_iff.mp H
 obtain ⟨⟨t140, t141⟩, A20, H⟩ := H
 replace H : (some t141) = some r := H
 have A2 := Aside0.mk A20
 clear A20
 obtain rfl := Option.some.inj H
 go_enter Tryz.func19, Tryz.ntmps19
 go_wp2_with (first | ((with_reducible refine gate_callee (f := 30) rfl ?_); refine goesL_ (some 7) rfl rfl Tryz.func30 (by kernel_rfl) rfl #[.slice A0 l0.length c0] rfl (by (try simp only [List.map_toArray, List.map_cons, List.map_nil]); first | done | rfl | (simp only [List.length_drop, List.length_take]; rfl)) ?_; (with_reducible refine (impl_Hoist_meaning.calls k _ _ l0 t140 t141 _ ?side1 ?side2 A2.out).mono ?_); (case side1 => repeat (first | exact HR0.out | (with_reducible refine Kd.C_alloc ?_ _) | (with_reducible refine Kd.C_drewN ?_ _) | (with_reducible refine Kd.C_drew ?_))); (case side2 => exact HC0.out); rintro e w3 ⟨v142, rfl, ho0, hb⟩; refine ⟨_, rfl, ?_⟩; have n0_ := Aside0.mk (Kd.R_lower ho0 (below_size (by repeat (first | (with_reducible first | exact HB.out | apply below_alloc | apply pw_below_drewN | apply below_drew1) | exact HB.out)))); have n1_ := Aside0.mk (below_step (by repeat (first | (with_reducible first | exact HB.out | apply below_alloc | apply pw_below_drewN | apply below_drew1) | exact HB.out)) hb); clear HB; have HO143 := n0_; have HB := n1_; clear n0_ n1_; (try clear hb); (try clear hb2); (try clear hk); (try clear hi); (try clear ho0)))
 go_ret
 exact ⟨by first | rfl | (simp [errW_none, errW_some] <;> rfl) | (simp [*, errW_none, errW_some] <;> rfl), by repeat (first | (with_reducible first | exact HB.out | apply below_alloc | apply pw_below_drewN | apply below_drew1) | exact HB.out)⟩
def impl_unless.f (a0 : Bool) (a1 : Int) : Option (Int) := if a0 = true then (some 0) else (some a1)
set_option maxHeartbeats 8000000 in
set_option maxRecDepth 100000 in
theorem impl_unless.calls (a0 : Bool) (a1 : Int) (r : Int) (w : World) (h : impl_unless.f a0 a1 = some r) :
  Calls Tryz.prog 63 #[.bool a0, .int .i64 a1] w fun e w' => e = .returned (.int .i64 r) ∧ Drawn0 w w' := by
 have H : (if a0 = true then (some 0) else (some a1)) = some r := h
 clear h
 by_cases c3 : a0 = true
 ·subst c3
  have H1 : (some 0) = some r := by rw [if_pos rfl] at H; exact H
  clear H
  have H := H1
  clear H1
  obtain rfl := Option.some.inj H
  go_enter Tryz.func63, Tryz.ntmps63
  go_wp2
  go_ret
  exact ⟨by first | rfl | (simp; done) | (simp [*]; done), by repeat (first | exact Drawn0.refl _ | apply Drawn0.step)⟩
 ·replace c3 := Bool.eq_false_iff.mpr c3
  subst c3
  have H1 : (some a1) = some r := by rw [if_neg (show ¬ (false = true) by decide)] at H; exact H
  clear H
  have H := H1
  clear H1
  obtain rfl := Option.some.inj H
  go_enter Tryz.func63, Tryz.ntmps63
  go_wp2
  go_ret
  exact ⟨by first | rfl | (simp; done) | (simp [*]; done), by repeat (first | exact Drawn0.refl _ | apply Drawn0.step)⟩
def impl_placeCode.f (k : Nat) (l0 : List Int) (a1 : Int) (a2 : Int) : Option (Int) := (impl_ValidHoist.f k l0).bind fun t144 => (if t144 = true then ((impl_size_int8.f l0).bind fun t145 => ((impl_within.f a1 0 (wrap64 (t145 - 1))).bind fun t146 => (if t146 = true then ((impl_within.f a2 0 39).bind fun t147 => (if t147 = true then (if 0 ≤ a1 then (if a1 < (l0.length : Int) then ((impl_unless.f (decide ((rd l0 a1) ≥ 0)) 4).bind fun t149 => (some t149)) else (none)) else (none)) else (some 2))) else (some 2)))) else (some 1))
set_option maxHeartbeats 8000000 in
set_option maxRecDepth 100000 in
theorem impl_placeCode.calls (k : Nat) (A0 : Option Addr) (c0 : Nat) (l0 : List Int) (a1 : Int) (a2 : Int) (r : Int) (w : World) (hr0 : Kd.C (Kd.int .i8) w A0 l0.length l0) (hc0 : l0.length ≤ c0) (h : impl_placeCode.f k l0 a1 a2 = some r) :
  Calls Tryz.prog 45 #[.slice A0 l0.length c0, .int .i64 a1, .int .i64 a2] w fun e w' => e = .returned (.int .i64 r) ∧ Below w.heap.size w w' := by
 have HR0 := Aside0.mk hr0
 have HC0 := Aside0.mk hc0
 clear hr0 hc0
 have HB := Aside0.mk (Below.refl w.heap.size w)
 have H : ((impl_ValidHoist.f k l0).bind fun t144 => (if t144 = true then ((impl_size_int8.f l0).bind fun t145 => ((impl_within.f a1 0 (wrap64 (t145 - 1))).bind fun t146 => (if t146 = true then ((impl_within.f a2 0 39).bind fun t147 => (if t147 = true then (if 0 ≤ a1 then (if a1 < (l0.length : Int) then ((impl_unless.f (decide ((rd l0 a1) ≥ 0)) 4).bind fun t149 => (some t149)) else (none)) else (none)) else (some 2))) else (some 2)))) else (some 1))) = some r := h
 clear h
 replace H := Option.bind_eq_some_iff.mp H
 obtain ⟨t144, A40, H⟩ := H
 replace H : (if t144 = true then ((impl_size_int8.f l0).bind fun t145 => ((impl_within.f a1 0 (wrap64 (t145 - 1))).bind fun t146 => (if t146 = true then ((impl_within.f a2 0 39).bind fun t147 => (if t147 = true then (if 0 ≤ a1 then (if a1 < (l0.length : Int) then ((impl_unless.f (decide ((rd l0 a1) ≥ 0)) 4).bind fun t149 => (some t149)) else (none)) else (none)) else (some 2))) else (some 2)))) else (some 1)) = some r := H
 have A4 := Aside0.mk A40
 clear A40
 by_cases c5 : t144 = true
 ·subst c5
  have H1 : ((impl_size_int8.f l0).bind fun t145 => ((impl_within.f a1 0 (wrap64 (t145 - 1))).bind fun t146 => (if t146 = true then ((impl_within.f a2 0 39).bind fun t147 => (if t147 = true then (if 0 ≤ a1 then (if a1 < (l0.length : Int) then ((impl_unless.f (decide ((rd l0 a1) ≥ 0)) 4).bind fun t149 => (some t149)) else (none)) else (none)) else (some 2))) else (some 2)))) = some r := by rw [if_pos rfl] at H; exact H
  clear H
  have H := H1
  clear H1
  replace H := Option.bind_eq_some_iff.mp H
  obtain ⟨t145, A60, H⟩ := H
  replace H : ((impl_within.f a1 0 (wrap64 (t145 - 1))).bind fun t146 => (if t146 = true then ((impl_within.f a2 0 39).bind fun t147 => (if t147 = true then (if 0 ≤ a1 then (if a1 < (l0.length : Int) then ((impl_unless.f (decide ((rd l0 a1) ≥ 0)) 4).bind fun t149 => (some t149)) else (none)) else (none)) else (some 2))) else (some 2))) = some r := H
  have A6 := Aside0.mk A60
  clear A60
  replace H := Option.bind_eq_some_iff.mp H
  obtain ⟨t146, A70, H⟩ := H
  replace H : (if t146 = true then ((impl_within.f a2 0 39).bind fun t147 => (if t147 = true then (if 0 ≤ a1 then (if a1 < (l0.length : Int) then ((impl_unless.f (decide ((rd l0 a1) ≥ 0)) 4).bind fun t149 => (some t149)) else (none)) else (none)) else (some 2))) else (some 2)) = some r := H
  have A7 := Aside0.mk A70
  clear A70
  by_cases c8 : t146 = true
  ·subst c8
   have H1 : ((impl_within.f a2 0 39).bind fun t147 => (if t147 = true then (if 0 ≤ a1 then (if a1 < (l0.length : Int) then ((impl_unless.f (decide ((rd l0 a1) ≥ 0)) 4).bind fun t149 => (some t149)) else (none)) else (none)) else (some 2))) = some r := by rw [if_pos rfl] at H; exact H
   clear H
   have H := H1
   clear H1
   replace H := Option.bind_eq_some_iff.mp H
   obtain ⟨t147, A90, H⟩ := H
   replace H : (if t147 = true then (if 0 ≤ a1 then (if a1 < (l0.length : Int) then ((impl_unless.f (decide ((rd l0 a1) ≥ 0)) 4).bind fun t149 => (some t149)) else (none)) else (none)) else (some 2)) = some r := H
   have A9 := Aside0.mk A90
   clear A90
   by_cases c10 : t147 = true
   ·subst c10
    have H1 : (if 0 ≤ a1 then (if a1 < (l0.length : Int) then ((impl_unless.f (decide ((rd l0 a1) ≥ 0)) 4).bind fun t149 => (some t149)) else (none)) else (none)) = some r := by rw [if_pos rfl] at H; exact H
    clear H
    have H := H1
    clear H1
    by_cases c11 : 0 ≤ a1
    ·rw [if_pos c11] at H
     have c11b0 : decide (0 ≤ a1) = true := decide_eq_true c11
     clear c11
     by_cases c12 : a1 < (l0.length : Int)
     ·rw [if_pos c12] at H
      have c12b0 : decide (a1 < (l0.length : Int)) = true := decide_eq_true c12
      clear c12
      replace H := Option.bind_eq_some_iff.mp H
      obtain ⟨t149, A130, H⟩ := H
      replace H : (some t149) = some r := H
      have A13 := Aside0.mk A130
      clear A130
      obtain rfl := Option.some.inj H
      go_enter Tryz.func45, Tryz.ntmps45
      go_wp2_with (first | ((with_reducible refine gate_callee (f := 19) rfl ?_); refine goesL_ (some 9) rfl rfl Tryz.func19 (by kernel_rfl) rfl #[.slice A0 l0.length c0] rfl (by (try simp only [List.map_toArray, List.map_cons, List.map_nil]); first | done | rfl | (simp only [List.length_drop, List.length_take]; rfl)) ?_; (with_reducible refine (impl_ValidHoist.calls k _ _ l0 true _ ?side1 ?side2 A4.out).mono ?_); (case side1 => repeat (first | exact HR0.out | (with_reducible refine Kd.C_alloc ?_ _) | (with_reducible refine Kd.C_drewN ?_ _) | (with_reducible refine Kd.C_drew ?_))); (case side2 => exact HC0.out); rintro e w14 ⟨rfl, hb⟩; refine ⟨_, rfl, ?_⟩; have n0_ := Aside0.mk (below_step (by repeat (first | (with_reducible first | exact HB.out | apply below_alloc | apply pw_below_drewN | apply below_drew1) | exact HB.out)) hb); clear HB; have HB := n0_; clear n0_; (try clear hb); (try clear hb2); (try clear hk); (try clear hi)) | ((with_reducible refine gate_callee (f := 52) rfl ?_); refine goesL_ (some 14) rfl rfl Tryz.func52 (by kernel_rfl) rfl #[.slice A0 l0.length c0] rfl (by (try simp only [List.map_toArray, List.map_cons, List.map_nil]); first | done | rfl | (simp only [List.length_drop, List.length_take]; rfl)) ?_; (with_reducible refine (impl_size_int8.calls _ _ l0 t145 _ ?side1 ?side2 A6.out).mono ?_); (case side1 => repeat (first | exact (Kd.C_below HR0.out HB.out) | (with_reducible refine Kd.C_alloc ?_ _) | (with_reducible refine Kd.C_drewN ?_ _) | (with_reducible refine Kd.C_drew ?_))); (case side2 => exact HC0.out); rintro e w' ⟨rfl, ⟨nd, rfl⟩⟩; refine ⟨_, rfl, ?_⟩) | ((with_reducible refine gate_callee (f := 36) rfl ?_); refine goesL_ (some 16) rfl rfl Tryz.func36 (by kernel_rfl) rfl #[.int .i64 a1, .int .i64 0, .int .i64 (wrap64 (t145 - 1))] rfl (by (try simp only [List.map_toArray, List.map_cons, List.map_nil]); first | done | rfl | (simp only [List.length_drop, List.length_take]; rfl)) ?_; (with_reducible refine (impl_within.calls a1 0 (wrap64 (t145 - 1)) true _ A7.out).mono ?_); rintro e w' ⟨rfl, ⟨nd, rfl⟩⟩; refine ⟨_, rfl, ?_⟩) | (go_at_call 36; (with_reducible refine (impl_within.calls a2 0 39 true _ A9.out).mono ?_); rintro e w' ⟨rfl, ⟨nd, rfl⟩⟩; have p148 : 0 ≤ (a1 : Int) := of_decide_eq_true (by first | (with_reducible assumption) | assumption); have q148 : a1 < (l0.length : Int) := of_decide_eq_true (by first | (with_reducible assumption) | assumption); obtain ⟨ad148, e148, hx148_0⟩ := Kd.at_int HR0.out a1 p148 q148; cases e148; replace hx148_0 := (HB.out.cell (World.block_lt_of_cell? w _ hx148_0)).trans hx148_0; replace p148 := eq_true p148; replace q148 := eq_true q148) | ((with_reducible refine gate_callee (f := 63) rfl ?_); refine goesL_ (some 28) rfl rfl Tryz.func63 (by kernel_rfl) rfl #[.bool (decide ((rd l0 a1) ≥ 0)), .int .i64 4] rfl (by (try simp only [List.map_toArray, List.map_cons, List.map_nil]); first | done | rfl | (simp only [List.length_drop, List.length_take]; rfl)) ?_; (with_reducible refine (impl_unless.calls (decide ((rd l0 a1) ≥ 0)) 4 t149 _ A13.out).mono ?_); rintro e w' ⟨rfl, ⟨nd, rfl⟩⟩; refine ⟨_, rfl, ?_⟩))
      go_ret
      exact ⟨by first | rfl | (simp [errW_none, errW_some] <;> rfl) | (simp [*, errW_none, errW_some] <;> rfl), by repeat (first | (with_reducible first | exact HB.out | apply below_alloc | apply pw_below_drewN | apply below_drew1) | exact HB.out)⟩
     ·rw [if_neg c12] at H
      exact absurd H (by simp)
    ·rw [if_neg c11] at H
     exact absurd H (by simp)
   ·replace c10 := Bool.eq_false_iff.mpr c10
    subst c10
    have H1 : (some 2) = some r := by rw [if_neg (show ¬ (false = true) by decide)] at H; exact H
    clear H
    have H := H1
    clear H1
    obtain rfl := Option.some.inj H
    go_enter Tryz.func45, Tryz.ntmps45
    go_wp2_with (first | ((with_reducible refine gate_callee (f := 19) rfl ?_); refine goesL_ (some 9) rfl rfl Tryz.func19 (by kernel_rfl) rfl #[.slice A0 l0.length c0] rfl (by (try simp only [List.map_toArray, List.map_cons, List.map_nil]); first | done | rfl | (simp only [List.length_drop, List.length_take]; rfl)) ?_; (with_reducible refine (impl_ValidHoist.calls k _ _ l0 true _ ?side1 ?side2 A4.out).mono ?_); (case side1 => repeat (first | exact HR0.out | (with_reducible refine Kd.C_alloc ?_ _) | (with_reducible refine Kd.C_drewN ?_ _) | (with_reducible refine Kd.C_drew ?_))); (case side2 => exact HC0.out); rintro e w15 ⟨rfl, hb⟩; refine ⟨_, rfl, ?_⟩; have n0_ := Aside0.mk (below_step (by repeat (first | (with_reducible first | exact HB.out | apply below_alloc | apply pw_below_drewN | apply below_drew1) | exact HB.out)) hb); clear HB; have HB := n0_; clear n0_; (try clear hb); (try clear hb2); (try clear hk); (try clear hi)) | ((with_reducible refine gate_callee (f := 52) rfl ?_); refine goesL_ (some 14) rfl rfl Tryz.func52 (by kernel_rfl) rfl #[.slice A0 l0.length c0] rfl (by (try simp only [List.map_toArray, List.map_cons, List.map_nil]); first | done | rfl | (simp only [List.length_drop, List.length_take]; rfl)) ?_; (with_reducible refine (impl_size_int8.calls _ _ l0 t145 _ ?side1 ?side2 A6.out).mono ?_); (case side1 => repeat (first | exact (Kd.C_below HR0.out HB.out) | (with_reducible refine Kd.C_alloc ?_ _) | (with_reducible refine Kd.C_drewN ?_ _) | (with_reducible refine Kd.C_drew ?_))); (case side2 => exact HC0.out); rintro e w' ⟨rfl, ⟨nd, rfl⟩⟩; refine ⟨_, rfl, ?_⟩) | ((with_reducible refine gate_callee (f := 36) rfl ?_); refine goesL_ (some 16) rfl rfl Tryz.func36 (by kernel_rfl) rfl #[.int .i64 a1, .int .i64 0, .int .i64 (wrap64 (t145 - 1))] rfl (by (try simp only [List.map_toArray, List.map_cons, List.map_nil]); first | done | rfl | (simp only [List.length_drop, List.length_take]; rfl)) ?_; (with_reducible refine (impl_within.calls a1 0 (wrap64 (t145 - 1)) true _ A7.out).mono ?_); rintro e w' ⟨rfl, ⟨nd, rfl⟩⟩; refine ⟨_, rfl, ?_⟩) | (go_at_call 36; (with_reducible refine (impl_within.calls a2 0 39 false _ A9.out).mono ?_); rintro e w' ⟨rfl, ⟨nd, rfl⟩⟩))
    go_ret
    exact ⟨by first | rfl | (simp [errW_none, errW_some] <;> rfl) | (simp [*, errW_none, errW_some] <;> rfl), by repeat (first | (with_reducible first | exact HB.out | apply below_alloc | apply pw_below_drewN | apply below_drew1) | exact HB.out)⟩
  ·replace c8 := Bool.eq_false_iff.mpr c8
   subst c8
   have H1 : (some 2) = some r := by rw [if_neg (show ¬ (false = true) by decide)] at H; exact H
   clear H
   have H := H1
   clear H1
   obtain rfl := Option.some.inj H
   go_enter Tryz.func45, Tryz.ntmps45
   go_wp2_with (first | ((with_reducible refine gate_callee (f := 19) rfl ?_); refine goesL_ (some 9) rfl rfl Tryz.func19 (by kernel_rfl) rfl #[.slice A0 l0.length c0] rfl (by (try simp only [List.map_toArray, List.map_cons, List.map_nil]); first | done | rfl | (simp only [List.length_drop, List.length_take]; rfl)) ?_; (with_reducible refine (impl_ValidHoist.calls k _ _ l0 true _ ?side1 ?side2 A4.out).mono ?_); (case side1 => repeat (first | exact HR0.out | (with_reducible refine Kd.C_alloc ?_ _) | (with_reducible refine Kd.C_drewN ?_ _) | (with_reducible refine Kd.C_drew ?_))); (case side2 => exact HC0.out); rintro e w16 ⟨rfl, hb⟩; refine ⟨_, rfl, ?_⟩; have n0_ := Aside0.mk (below_step (by repeat (first | (with_reducible first | exact HB.out | apply below_alloc | apply pw_below_drewN | apply below_drew1) | exact HB.out)) hb); clear HB; have HB := n0_; clear n0_; (try clear hb); (try clear hb2); (try clear hk); (try clear hi)) | ((with_reducible refine gate_callee (f := 52) rfl ?_); refine goesL_ (some 14) rfl rfl Tryz.func52 (by kernel_rfl) rfl #[.slice A0 l0.length c0] rfl (by (try simp only [List.map_toArray, List.map_cons, List.map_nil]); first | done | rfl | (simp only [List.length_drop, List.length_take]; rfl)) ?_; (with_reducible refine (impl_size_int8.calls _ _ l0 t145 _ ?side1 ?side2 A6.out).mono ?_); (case side1 => repeat (first | exact (Kd.C_below HR0.out HB.out) | (with_reducible refine Kd.C_alloc ?_ _) | (with_reducible refine Kd.C_drewN ?_ _) | (with_reducible refine Kd.C_drew ?_))); (case side2 => exact HC0.out); rintro e w' ⟨rfl, ⟨nd, rfl⟩⟩; refine ⟨_, rfl, ?_⟩) | ((with_reducible refine gate_callee (f := 36) rfl ?_); refine goesL_ (some 16) rfl rfl Tryz.func36 (by kernel_rfl) rfl #[.int .i64 a1, .int .i64 0, .int .i64 (wrap64 (t145 - 1))] rfl (by (try simp only [List.map_toArray, List.map_cons, List.map_nil]); first | done | rfl | (simp only [List.length_drop, List.length_take]; rfl)) ?_; (with_reducible refine (impl_within.calls a1 0 (wrap64 (t145 - 1)) false _ A7.out).mono ?_); rintro e w' ⟨rfl, ⟨nd, rfl⟩⟩; refine ⟨_, rfl, ?_⟩))
   go_ret
   exact ⟨by first | rfl | (simp [errW_none, errW_some] <;> rfl) | (simp [*, errW_none, errW_some] <;> rfl), by repeat (first | (with_reducible first | exact HB.out | apply below_alloc | apply pw_below_drewN | apply below_drew1) | exact HB.out)⟩
 ·replace c5 := Bool.eq_false_iff.mpr c5
  subst c5
  have H1 : (some 1) = some r := by rw [if_neg (show ¬ (false = true) by decide)] at H; exact H
  clear H
  have H := H1
  clear H1
  obtain rfl := Option.some.inj H
  go_enter Tryz.func45, Tryz.ntmps45
  go_wp2_with (first | ((with_reducible refine gate_callee (f := 19) rfl ?_); refine goesL_ (some 9) rfl rfl Tryz.func19 (by kernel_rfl) rfl #[.slice A0 l0.length c0] rfl (by (try simp only [List.map_toArray, List.map_cons, List.map_nil]); first | done | rfl | (simp only [List.length_drop, List.length_take]; rfl)) ?_; (with_reducible refine (impl_ValidHoist.calls k _ _ l0 false _ ?side1 ?side2 A4.out).mono ?_); (case side1 => repeat (first | exact HR0.out | (with_reducible refine Kd.C_alloc ?_ _) | (with_reducible refine Kd.C_drewN ?_ _) | (with_reducible refine Kd.C_drew ?_))); (case side2 => exact HC0.out); rintro e w17 ⟨rfl, hb⟩; refine ⟨_, rfl, ?_⟩; have n0_ := Aside0.mk (below_step (by repeat (first | (with_reducible first | exact HB.out | apply below_alloc | apply pw_below_drewN | apply below_drew1) | exact HB.out)) hb); clear HB; have HB := n0_; clear n0_; (try clear hb); (try clear hb2); (try clear hk); (try clear hi)))
  go_ret
  exact ⟨by first | rfl | (simp [errW_none, errW_some] <;> rfl) | (simp [*, errW_none, errW_some] <;> rfl), by repeat (first | (with_reducible first | exact HB.out | apply below_alloc | apply pw_below_drewN | apply below_drew1) | exact HB.out)⟩
theorem infoGH_i8 : (Tryz.prog.info? 51).map (fun i => (i.zero, i.size, i.bytes)) = some (some (.int .i8 0), 1, 1) := by kernel_rfl
def impl_Hoist_int8.f (l0 : List Int) : Option (List Int) := if l0.length < 140737488355328 then some l0 else none
set_option maxHeartbeats 1000000 in
set_option maxRecDepth 100000 in
theorem impl_Hoist_int8.calls (A0 : Option Addr) (c0 : Nat) (l0 : List Int) (r : List Int) (w : World) (hr0 : Kd.C (Kd.int .i8) w A0 l0.length l0) (hc0 : l0.length ≤ c0) (h : impl_Hoist_int8.f l0 = some r) :
  Calls Tryz.prog 64 #[.slice A0 l0.length c0] w fun e w' => ∃ v0_ : Value, e = .returned (v0_) ∧ Kd.R (Kd.int .i8) 51 w' w.heap.size (fun _ => True) v0_ r ∧ Below w.heap.size w w' := by
 have HR0 := Aside0.mk hr0
 have hm := Kd.C_max hr0
 have HL : Aside0 (l0.length < 140737488355328) := ⟨by unfold impl_Hoist_int8.f at h; split at h; assumption; cases h⟩
 obtain rfl : l0 = r := by unfold impl_Hoist_int8.f at h; rw [if_pos HL.out] at h; exact Option.some.inj h
 clear h hr0
 have heq := fun (W : World) (n c : Nat) => Lib.run_eql_slice_nil (P := Tryz.prog) W 25 51 A0 n c 0 0 Tryz.underlying25
 cases A0 with
 | none =>
  have h0 : l0 = [] := by
   rcases Nat.eq_zero_or_pos l0.length with h | h
   ·exact List.eq_nil_of_length_eq_zero h
   ·obtain ⟨ad, e, _⟩ := HR0.out.2.2 h; cases e
  go_enter Tryz.func64, Tryz.ntmps64
  go_wp2_with fail
  go_ret
  exact ⟨_, rfl, by rw [h0]; exact Kd.R_nil _ _ _ _ _, Below.refl _ _⟩
 | some ad =>
  go_enter Tryz.func64, Tryz.ntmps64
  go_wp2_with (first
   | ((with_reducible refine gate_dst (N := 5) rfl ?_); refine Kd.R_lit (Kd.int .i8) _ 51 ?hg (N := 5) ?hd (xs := ([] : List Int)) (inner := []) (ok := fun _ => True) (okp := fun _ => True) ?hr ?hp (fun _ hk => hk) trivial (Below.refl _ _) (Nat.le_refl _) (by simp) ?_; (case hd => rfl); (case hg => rfl); (case hr => first | (go_simp; done) | (go_simp; rfl)); (case hp => exact (Reps.none _ _)); intro v1 w1 ho hb _ _; have HO := Aside0.mk ho; have HB := Aside0.mk hb; clear ho hb)
   | ((with_reducible refine gate_builtin (b := .append) (xs := #[.tmp 5, .tmp 6]) rfl ?_); at_builtin; refine Kd.R_append_rows (Kd.int .i8) (w0 := w) w.heap.size rfl (.tmp 5) (.tmp 6) 25 51 (.int .i8 0) 1 rfl Tryz.underlying25 infoGH_i8 rfl (by decide) (by omega) v1 [] l0 _ _ _ (fun _ => True) (fun _ => False) rfl rfl ?aO ?aR (fun _ _ h => h) (fun _ h => h.elim) (fun _ _ => trivial) ?aB ?aS ?aL ?_; (case aR => exact Kd.C_below HR0.out HB.out); (case aB => exact HB.out); (case aO => exact HO.out); (case aS => exact HB.out.size); (case aL => have := HL.out; simp; omega); intro v2 w2 ho hb _ _; have HO2 := Aside0.mk ho; have HB2 := Aside0.mk hb; clear ho hb))
  go_ret
  exact ⟨_, rfl, HO2.out, HB2.out⟩
def impl_Hoist_changed.f (l0 : List Int) (a1 : Int) (a2 : Int) : Option (List Int) := (impl_Hoist_int8.f l0).bind fun t150 => (if 0 ≤ a1 then (if a1 < (t150.length : Int) then (some (t150.set (a1 : Int).toNat (IntKind.i8.wrap (a2)))) else (none)) else (none))
set_option maxHeartbeats 8000000 in
set_option maxRecDepth 100000 in
theorem impl_Hoist_changed.calls (A0 : Option Addr) (c0 : Nat) (l0 : List Int) (a1 : Int) (a2 : Int) (r : List Int) (w : World) (hr0 : Kd.C (Kd.int .i8) w A0 l0.length l0) (hc0 : l0.length ≤ c0) (h : impl_Hoist_changed.f l0 a1 a2 = some r) :
  Calls Tryz.prog 46 #[.slice A0 l0.length c0, .int .i64 a1, .int .i64 a2] w fun e w' => ∃ v0_ : Value, e = .returned (v0_) ∧ Kd.R (Kd.int .i8) 51 w' w.heap.size (fun _ => True) v0_ r ∧ Below w.heap.size w w' := by
 have HR0 := Aside0.mk hr0
 have HC0 := Aside0.mk hc0
 clear hr0 hc0
 have HB := Aside0.mk (Below.refl w.heap.size w)
 have H : ((impl_Hoist_int8.f l0).bind fun t150 => (if 0 ≤ a1 then (if a1 < (t150.length : Int) then (some (t150.set (a1 : Int).toNat (IntKind.i8.wrap (a2)))) else (none)) else (none))) = some r := h
 clear h
 replace H := Option.bind_eq_some_iff.mp H
 obtain ⟨t150, A40, H⟩ := H
 replace H : (if 0 ≤ a1 then (if a1 < (t150.length : Int) then (some (t150.set (a1 : Int).toNat (IntKind.i8.wrap (a2)))) else (none)) else (none)) = some r := H
 have A4 := Aside0.mk A40
 clear A40
 by_cases c5 : 0 ≤ a1
 ·rw [if_pos c5] at H
  have c5b0 : decide (0 ≤ a1) = true := decide_eq_true c5
  clear c5
  by_cases c6 : a1 < (t150.length : Int)
  ·rw [if_pos c6] at H
   have c6b0 : decide (a1 < (t150.length : Int)) = true := decide_eq_true c6
   clear c6
   obtain ⟨y153, hy153⟩ : ∃ y_ : List Int, y_ = (t150.set (a1 : Int).toNat (IntKind.i8.wrap (a2))) := ⟨_, rfl⟩
   replace H : (some y153) = some r := by first | (rw [hy153]; with_reducible exact H) | (have H2_ := (Option.bind_some _ _).symm.trans H; rw [hy153]; with_reducible exact H2_) | (have H2_ := (Option.bind_some _ _).symm.trans H; with_reducible exact H2_) | with_reducible exact H | (rw [hy153]; exact H) | exact H
   have Ny153 := Aside0.mk hy153
   clear hy153
   obtain rfl := Option.some.inj H
   go_enter Tryz.func46, Tryz.ntmps46
   go_wp2_with (first | ((with_reducible refine gate_callee (f := 64) rfl ?_); refine goesL_ (some 9) rfl rfl Tryz.func64 (by kernel_rfl) rfl #[.slice A0 l0.length c0] rfl (by (try simp only [List.map_toArray, List.map_cons, List.map_nil]); first | done | rfl | (simp only [List.length_drop, List.length_take]; rfl)) ?_; (with_reducible refine (impl_Hoist_int8.calls _ _ l0 t150 _ ?side1 ?side2 A4.out).mono ?_); (case side1 => repeat (first | exact HR0.out | (with_reducible refine Kd.C_alloc ?_ _) | (with_reducible refine Kd.C_drewN ?_ _) | (with_reducible refine Kd.C_drew ?_))); (case side2 => exact HC0.out); rintro e w8 ⟨v151, rfl, ho0, hb⟩; refine ⟨_, rfl, ?_⟩; have n0_ := Aside0.mk (Kd.R_lower ho0 (below_size (by repeat (first | (with_reducible first | exact HB.out | apply below_alloc | apply pw_below_drewN | apply below_drew1) | exact HB.out)))); have n1_ := Aside0.mk (below_step (by repeat (first | (with_reducible first | exact HB.out | apply below_alloc | apply pw_below_drewN | apply below_drew1) | exact HB.out)) hb); clear HB; have HO152 := n0_; have HB := n1_; clear n0_ n1_; (try clear hb); (try clear hb2); (try clear hk); (try clear hi); (try clear ho0); have p7 : 0 ≤ (a1 : Int) := of_decide_eq_true (by first | (with_reducible assumption) | assumption); have q7 : (a1 : Int) < ((t150.length : Int) : Int) := of_decide_eq_true (by first | (with_reducible assumption) | assumption); obtain ⟨go7, co7, eo7, gb7, gl7, cl7, HG7⟩ := Kd.R_form HO152.out (by omega); (first | cases eo7 | (injection eo7 with ea_ en_ ec_; (first | subst ea_ | (injection ea_ with ea_; subst ea_)); subst ec_; clear en_)); have GB7 := Aside0.mk gb7; have GG7 := Aside0.mk HG7; clear gb7 gl7 HG7; obtain ⟨hx7_0, hf7_0⟩ := Kd.R_celln 0 HO152.out (a1 : Int) p7 q7; replace p7 := eq_true p7; replace q7 := eq_true q7; obtain ⟨hy9_, hz9_⟩ := Kd.R_celln 0 HO152.out (a1 : Int) (of_decide_eq_true (by first | (with_reducible assumption) | assumption)) (of_decide_eq_true (by first | (with_reducible assumption) | assumption)); have HP9 := Kd.R_putg HO152.out (a1 : Int) (IntKind.i8.wrap (a2))) | ((with_reducible refine gate_store (t := 51) (p := 14) rfl ?_); refine store_event (t := 51) (p := 14) (v := ?vo_w10) (w1 := (w8.setCell ⟨go7, (a1 : Int).toNat, none⟩ (.int .i8 (IntKind.i8.wrap (a2))))) ?hg ?ho ?hn ?hr ?_; (case ho => rfl); (case hg => rfl); (case hn => rfl); (case hr => first | (go_simp; done) | (go_simp; rfl)); intro w10 hw; have hg : w8.grownBy w10 (some go7) := (by rw [hw]; exact HP9.2); have hp_ : Kd.R (Kd.int .i8) 51 w10 w.heap.size (fun _ => True) (.slice (some ⟨go7, 0, none⟩) t150.length co7) y153 := (by rw [hw, Ny153.out]; exact HP9.1); clear HP9; have n0_ := Aside0.mk (hp_); have n1_ := Aside0.mk ((by rw [hw]; exact below_set (HB.out) GB7.out : Below w.heap.size w w10)); clear HO152; clear HB; have HO152 := n0_; have HB := n1_; clear n0_ n1_; clear hg hw hp_))
   go_ret
   exact ⟨_, by first | rfl | (simp [errW_none, errW_some] <;> rfl) | (simp [*, errW_none, errW_some] <;> rfl), by (with_reducible repeat (first | apply Kd.R_alloc | apply Kd.R_drewN | apply Kd.R_drew)); exact HO152.out, by repeat (first | (with_reducible first | exact HB.out | apply below_alloc | apply pw_below_drewN | apply below_drew1) | exact HB.out)⟩
  ·rw [if_neg c6] at H
   exact absurd H (by simp)
 ·rw [if_neg c5] at H
  exact absurd H (by simp)
def impl_MeaningIf.f (k : Nat) (l0 : List Int) (a1 : Int) (a2 : Int) : Option (List Int × Int) := (impl_placeCode.f k l0 a1 a2).bind fun t154 => (if t154 = 0 then ((impl_Hoist_changed.f l0 a1 a2).bind fun t155 => ((impl_MeaningOf.f k t155).bind fun bt158 => (some (bt158.1, bt158.2)))) else (some (([] : List Int), t154)))
set_option maxHeartbeats 8000000 in
set_option maxRecDepth 100000 in
theorem impl_MeaningIf.calls (k : Nat) (A0 : Option Addr) (c0 : Nat) (l0 : List Int) (a1 : Int) (a2 : Int) (r1 : List Int) (r2 : Int) (w : World) (hr0 : Kd.C (Kd.int .i8) w A0 l0.length l0) (hc0 : l0.length ≤ c0) (h : impl_MeaningIf.f k l0 a1 a2 = some (r1, r2)) :
  Calls Tryz.prog 22 #[.slice A0 l0.length c0, .int .i64 a1, .int .i64 a2] w fun e w' => ∃ v0_ : Value, e = .returned (.tuple #[v0_, .int .i64 r2]) ∧ Kd.R (Kd.int .i8) 51 w' w.heap.size (fun _ => True) v0_ r1 ∧ Below w.heap.size w w' := by
 have HR0 := Aside0.mk hr0
 have HC0 := Aside0.mk hc0
 clear hr0 hc0
 have HB := Aside0.mk (Below.refl w.heap.size w)
 have H : ((impl_placeCode.f k l0 a1 a2).bind fun t154 => (if t154 = 0 then ((impl_Hoist_changed.f l0 a1 a2).bind fun t155 => ((impl_MeaningOf.f k t155).bind fun bt158 => (some (bt158.1, bt158.2)))) else (some (([] : List Int), t154)))) = some (r1, r2) := h
 clear h
 replace H := Option.bind_eq_some_iff.mp H
 obtain ⟨t154, A40, H⟩ := H
 replace H : (if t154 = 0 then ((impl_Hoist_changed.f l0 a1 a2).bind fun t155 => ((impl_MeaningOf.f k t155).bind fun bt158 => (some (bt158.1, bt158.2)))) else (some (([] : List Int), t154))) = some (r1, r2) := H
 have A4 := Aside0.mk A40
 clear A40
 by_cases c5 : t154 = 0
 ·rw [if_pos c5] at H
  have c5b0 : (t154 == 0) = true := beq_iff_eq.mpr c5
  have c5b1 : (t154 != 0) = false := bne_eq_false_iff_eq.mpr c5
  clear c5
  replace H := Option.bind_eq_some_iff.mp H
  obtain ⟨t155, A60, H⟩ := H
  replace H : ((impl_MeaningOf.f k t155).bind fun bt158 => (some (bt158.1, bt158.2))) = some (r1, r2) := H
  have A6 := Aside0.mk A60
  clear A60
  replace H := Option.bind_eq_some_iff.mp H
  obtain ⟨⟨t158, t159⟩, A70, H⟩ := H
  replace H : (some (t158, t159)) = some (r1, r2) := H
  have A7 := Aside0.mk A70
  clear A70
  simp only [Option.some.injEq, Prod.mk.injEq] at H
  obtain ⟨rfl, rfl⟩ := H
  go_enter Tryz.func22, Tryz.ntmps22
  go_wp2_with (first | ((with_reducible refine gate_callee (f := 45) rfl ?_); refine goesL_ (some 12) rfl rfl Tryz.func45 (by kernel_rfl) rfl #[.slice A0 l0.length c0, .int .i64 a1, .int .i64 a2] rfl (by (try simp only [List.map_toArray, List.map_cons, List.map_nil]); first | done | rfl | (simp only [List.length_drop, List.length_take]; rfl)) ?_; (with_reducible refine (impl_placeCode.calls k _ _ l0 a1 a2 t154 _ ?side1 ?side2 A4.out).mono ?_); (case side1 => repeat (first | exact HR0.out | (with_reducible refine Kd.C_alloc ?_ _) | (with_reducible refine Kd.C_drewN ?_ _) | (with_reducible refine Kd.C_drew ?_))); (case side2 => exact HC0.out); rintro e w8 ⟨rfl, hb⟩; refine ⟨_, rfl, ?_⟩; have n0_ := Aside0.mk (below_step (by repeat (first | (with_reducible first | exact HB.out | apply below_alloc | apply pw_below_drewN | apply below_drew1) | exact HB.out)) hb); clear HB; have HB := n0_; clear n0_; (try clear hb); (try clear hb2); (try clear hk); (try clear hi)) | ((with_reducible refine gate_callee (f := 46) rfl ?_); refine goesL_ (some 19) rfl rfl Tryz.func46 (by kernel_rfl) rfl #[.slice A0 l0.length c0, .int .i64 a1, .int .i64 a2] rfl (by (try simp only [List.map_toArray, List.map_cons, List.map_nil]); first | done | rfl | (simp only [List.length_drop, List.length_take]; rfl)) ?_; (with_reducible refine (impl_Hoist_changed.calls _ _ l0 a1 a2 t155 _ ?side1 ?side2 A6.out).mono ?_); (case side1 => repeat (first | exact (Kd.C_below HR0.out HB.out) | (with_reducible refine Kd.C_alloc ?_ _) | (with_reducible refine Kd.C_drewN ?_ _) | (with_reducible refine Kd.C_drew ?_))); (case side2 => exact HC0.out); rintro e w9 ⟨v156, rfl, ho0, hb⟩; refine ⟨_, rfl, ?_⟩; have n0_ := Aside0.mk (Kd.R_lower ho0 (below_size (by repeat (first | (with_reducible first | exact HB.out | apply below_alloc | apply pw_below_drewN | apply below_drew1) | exact HB.out)))); have n1_ := Aside0.mk (below_step (by repeat (first | (with_reducible first | exact HB.out | apply below_alloc | apply pw_below_drewN | apply below_drew1) | exact HB.out)) hb); clear HB; have HO157 := n0_; have HB := n1_; clear n0_ n1_; (try clear hb); (try clear hb2); (try clear hk); (try clear hi); (try clear ho0); obtain ⟨Ao10, co10, eo10⟩ := Kd.R_slice HO157.out; subst eo10) | ((with_reducible refine gate_callee (f := 6) rfl ?_); refine goesL_ (some 20) rfl rfl Tryz.func6 (by kernel_rfl) rfl #[.slice Ao10 t155.length co10] rfl (by (try simp only [List.map_toArray, List.map_cons, List.map_nil]); first | done | rfl | (simp only [List.length_drop, List.length_take]; rfl)) ?_; (with_reducible refine (impl_MeaningOf.calls k _ _ t155 t158 t159 _ ?side1 ?side2 A7.out).mono ?_); (case side1 => repeat (first | exact (Kd.R_reads' HO157.out).2.2 | (with_reducible refine Kd.C_alloc ?_ _) | (with_reducible refine Kd.C_drewN ?_ _) | (with_reducible refine Kd.C_drew ?_))); (case side2 => exact (Kd.R_reads' HO157.out).2.1); rintro e w11 ⟨v160, rfl, ho0, hb⟩; refine ⟨_, rfl, ?_⟩; have n0_ := Aside0.mk (Kd.R_elder' (by (with_reducible repeat (first | apply Kd.R_alloc | apply Kd.R_drewN | apply Kd.R_drew)); exact HO157.out) (Kd.R_base ho0) hb); have n1_ := Aside0.mk (Kd.R_lower (Kd.R_new' ho0 (Kd.R_lt (by (with_reducible repeat (first | apply Kd.R_alloc | apply Kd.R_drewN | apply Kd.R_drew)); exact HO157.out))) (below_size (by repeat (first | (with_reducible first | exact HB.out | apply below_alloc | apply pw_below_drewN | apply below_drew1) | exact HB.out)))); have n2_ := Aside0.mk (below_step (by repeat (first | (with_reducible first | exact HB.out | apply below_alloc | apply pw_below_drewN | apply below_drew1) | exact HB.out)) hb); clear HO157; clear HB; have HO157 := n0_; have HO161 := n1_; have HB := n2_; clear n0_ n1_ n2_; (try clear hb); (try clear hb2); (try clear hk); (try clear hi); (try clear ho0)))
  go_ret2
  exact ⟨_, by first | rfl | (simp [errW_none, errW_some] <;> rfl) | (simp [*, errW_none, errW_some] <;> rfl), by (with_reducible repeat (first | apply Kd.R_alloc | apply Kd.R_drewN | apply Kd.R_drew)); exact Kd.R_mono HO161.out (fun _ hk => trivial), by repeat (first | (with_reducible first | exact HB.out | apply below_alloc | apply pw_below_drewN | apply below_drew1) | exact HB.out)⟩
 ·rw [if_neg c5] at H
  have c5b0 : (t154 == 0) = false := beq_eq_false_iff_ne.mpr c5
  have c5b1 : (t154 != 0) = true := bne_iff_ne.mpr c5
  simp only [Option.some.injEq, Prod.mk.injEq] at H
  obtain ⟨rfl, rfl⟩ := H
  go_enter Tryz.func22, Tryz.ntmps22
  go_wp2_with (first | ((with_reducible refine gate_callee (f := 45) rfl ?_); refine goesL_ (some 12) rfl rfl Tryz.func45 (by kernel_rfl) rfl #[.slice A0 l0.length c0, .int .i64 a1, .int .i64 a2] rfl (by (try simp only [List.map_toArray, List.map_cons, List.map_nil]); first | done | rfl | (simp only [List.length_drop, List.length_take]; rfl)) ?_; (with_reducible refine (impl_placeCode.calls k _ _ l0 a1 a2 t154 _ ?side1 ?side2 A4.out).mono ?_); (case side1 => repeat (first | exact HR0.out | (with_reducible refine Kd.C_alloc ?_ _) | (with_reducible refine Kd.C_drewN ?_ _) | (with_reducible refine Kd.C_drew ?_))); (case side2 => exact HC0.out); rintro e w12 ⟨rfl, hb⟩; refine ⟨_, rfl, ?_⟩; have n0_ := Aside0.mk (below_step (by repeat (first | (with_reducible first | exact HB.out | apply below_alloc | apply pw_below_drewN | apply below_drew1) | exact HB.out)) hb); clear HB; have HB := n0_; clear n0_; (try clear hb); (try clear hb2); (try clear hk); (try clear hi)))
  go_ret2
  exact ⟨_, by first | rfl | (simp [errW_none, errW_some] <;> rfl) | (simp [*, errW_none, errW_some] <;> rfl), by first | exact Kd.R_nil _ _ _ _ _ | exact Kd.N_nil _ _ _ _ _ | exact Kd.V_nil _ _ _ _ _ | exact Kd.Q_nil _ _ _ _ _ | exact Kd.S_nil _ _ _ _ _, by repeat (first | (with_reducible first | exact HB.out | apply below_alloc | apply pw_below_drewN | apply below_drew1) | exact HB.out)⟩
end Go.Proofs.YtpbomchjcgndoaaGreatDoor.O
namespace Go.Proofs.YtpbomchjcgndoaaGreatDoor.O
open Go.RowKit Go.Proofs.YtpbomchjcgndoaaGreatDoorW.PrintWords Go.Proofs.YtpbomchjcgndoaaGreatDoorW.PrintLast Go.Proofs.YtpbomchjcgndoaaGreatDoorW.PrintMore
attribute [local go_sem] max2_int min2_int max_two min_two max_three min_three max_four min_four
set_option linter.unusedVariables false
set_option linter.unusedSimpArgs false
def impl_SpoiledBy.l0 : Nat → List Int → List Int → List Int → Int → Int → Option (List Int × Int)
 | 0, _, _, _, _, _ => none
 | k + 1, x8, x10, x12, x31, x32 => if x32 < x31 then (if 0 ≤ x32 then (if x32 < (x10.length : Int) then (if x32 < (x8.length : Int) then (if (rd x10 x32) = (rd x8 x32) then (impl_SpoiledBy.l0 k x8 x10 x12 x31 (wrap64 (x32 + 1))) else (if x12.length < 17592186044416 then (impl_SpoiledBy.l0 k x8 x10 (x12 ++ [x32]) x31 (wrap64 (x32 + 1))) else (none))) else (none)) else (none)) else (none)) else (some (x12, 0))
def impl_SpoiledBy.f (k : Nat) (l0 : List Int) (a1 : Int) (a2 : Int) : Option (List Int × Int) := (impl_MeaningIf.f k l0 a1 a2).bind fun bt162 => (if bt162.2 = 0 then ((impl_Hoist_meaning.f k l0).bind fun bt166 => (impl_SpoiledBy.l0 k bt162.1 bt166.1 (([] : List Int)) (bt166.1.length : Int) 0)) else (some (([] : List Int), bt162.2)))
set_option maxHeartbeats 8000000 in
set_option maxRecDepth 100000 in
theorem impl_SpoiledBy.calls (k : Nat) (A0 : Option Addr) (c0 : Nat) (l0 : List Int) (a1 : Int) (a2 : Int) (r1 : List Int) (r2 : Int) (w : World) (hr0 : Kd.C (Kd.int .i8) w A0 l0.length l0) (hc0 : l0.length ≤ c0) (h : impl_SpoiledBy.f k l0 a1 a2 = some (r1, r2)) :
  Calls Tryz.prog 24 #[.slice A0 l0.length c0, .int .i64 a1, .int .i64 a2] w fun e w' => ∃ v0_ : Value, e = .returned (.tuple #[v0_, .int .i64 r2]) ∧ Kd.R (Kd.int .i64) 2 w' w.heap.size (fun _ => True) v0_ r1 ∧ Below w.heap.size w w' := by
 have HR0 := Aside0.mk hr0
 have HC0 := Aside0.mk hc0
 clear hr0 hc0
 have HB := Aside0.mk (Below.refl w.heap.size w)
 have H : ((impl_MeaningIf.f k l0 a1 a2).bind fun bt162 => (if bt162.2 = 0 then ((impl_Hoist_meaning.f k l0).bind fun bt166 => (impl_SpoiledBy.l0 k bt162.1 bt166.1 (([] : List Int)) (bt166.1.length : Int) 0)) else (some (([] : List Int), bt162.2)))) = some (r1, r2) := h
 clear h
 replace H := Option.bind_eq_some_iff.mp H
 obtain ⟨⟨t162, t163⟩, A40, H⟩ := H
 replace H : (if t163 = 0 then ((impl_Hoist_meaning.f k l0).bind fun bt166 => (impl_SpoiledBy.l0 k t162 bt166.1 (([] : List Int)) (bt166.1.length : Int) 0)) else (some (([] : List Int), t163))) = some (r1, r2) := H
 have A4 := Aside0.mk A40
 clear A40
 by_cases c5 : t163 = 0
 ·rw [if_pos c5] at H
  have c5b0 : (t163 == 0) = true := beq_iff_eq.mpr c5
  have c5b1 : (t163 != 0) = false := bne_eq_false_iff_eq.mpr c5
  clear c5
  replace H := Option.bind_eq_some_iff.mp H
  obtain ⟨⟨t166, t167⟩, A60, H⟩ := H
  replace H : (impl_SpoiledBy.l0 k t162 t166 (([] : List Int)) (t166.length : Int) 0) = some (r1, r2) := H
  have A6 := Aside0.mk A60
  clear A60
  obtain ⟨y170, hy170⟩ : ∃ y_ : List Int, y_ = (([] : List Int)) := ⟨_, rfl⟩
  replace H : (impl_SpoiledBy.l0 k t162 t166 y170 (t166.length : Int) 0) = some (r1, r2) := by first | (rw [hy170]; with_reducible exact H) | (have H2_ := (Option.bind_some _ _).symm.trans H; rw [hy170]; with_reducible exact H2_) | (have H2_ := (Option.bind_some _ _).symm.trans H; with_reducible exact H2_) | with_reducible exact H | (rw [hy170]; exact H) | exact H
  have Ny170 := Aside0.mk hy170
  clear hy170
  have H' := Aside0.mk H
  clear H
  go_enter Tryz.func24, Tryz.ntmps24
  go_wp2_with (first | (go_at_call 22; (with_reducible refine (impl_MeaningIf.calls k _ _ l0 a1 a2 t162 t163 _ ?side1 ?side2 A4.out).mono ?_); (case side1 => repeat (first | exact HR0.out | (with_reducible refine Kd.C_alloc ?_ _) | (with_reducible refine Kd.C_drewN ?_ _) | (with_reducible refine Kd.C_drew ?_))); (case side2 => exact HC0.out); rintro e w7 ⟨v164, rfl, ho0, hb⟩; have n0_ := Aside0.mk (Kd.R_lower ho0 (below_size (by repeat (first | (with_reducible first | exact HB.out | apply below_alloc | apply pw_below_drewN | apply below_drew1) | exact HB.out)))); have n1_ := Aside0.mk (below_step (by repeat (first | (with_reducible first | exact HB.out | apply below_alloc | apply pw_below_drewN | apply below_drew1) | exact HB.out)) hb); clear HB; have HO165 := n0_; have HB := n1_; clear n0_ n1_; (try clear hb); (try clear hb2); (try clear hk); (try clear hi); (try clear ho0)) | (go_at_call 30; (with_reducible refine (impl_Hoist_meaning.calls k _ _ l0 t166 t167 _ ?side1 ?side2 A6.out).mono ?_); (case side1 => repeat (first | exact (Kd.C_below HR0.out HB.out) | (with_reducible refine Kd.C_alloc ?_ _) | (with_reducible refine Kd.C_drewN ?_ _) | (with_reducible refine Kd.C_drew ?_))); (case side2 => exact HC0.out); rintro e w8 ⟨v168, rfl, ho0, hb⟩; have n0_ := Aside0.mk (Kd.R_elder' (by (with_reducible repeat (first | apply Kd.R_alloc | apply Kd.R_drewN | apply Kd.R_drew)); exact HO165.out) (Kd.R_base ho0) hb); have n1_ := Aside0.mk (Kd.R_lower (Kd.R_new' ho0 (Kd.R_lt (by (with_reducible repeat (first | apply Kd.R_alloc | apply Kd.R_drewN | apply Kd.R_drew)); exact HO165.out))) (below_size (by repeat (first | (with_reducible first | exact HB.out | apply below_alloc | apply pw_below_drewN | apply below_drew1) | exact HB.out)))); have n2_ := Aside0.mk (below_step (by repeat (first | (with_reducible first | exact HB.out | apply below_alloc | apply pw_below_drewN | apply below_drew1) | exact HB.out)) hb); clear HO165; clear HB; have HO165 := n0_; have HO169 := n1_; have HB := n2_; clear n0_ n1_ n2_; (try clear hb); (try clear hb2); (try clear hk); (try clear hi); (try clear ho0)) | ((with_reducible refine gate_dst (N := 29) rfl ?_); refine Kd.R_lit (Kd.int .i64) _ 2 ?hg (N := 29) ?hd (xs := ([] : List Int)) (inner := []) (ok := fun _ => True) (okp := fun _ => True) ?hr ?hp (fun _ hk => hk) trivial (Below.refl _ _) (Nat.le_refl _) (by simp) ?_; (case hd => rfl); (case hg => rfl); (case hr => first | (go_simp; done) | (go_simp; rfl)); (case hp => exact (Reps.none _ _)); intro v171 w9 ho10 hb hg_ hnew_; clear hg_ hnew_; (first | rw [← Ny170.out] at ho10 | (simp only [Int.reduceToNat] at ho10; rw [← Ny170.out] at ho10)); have n0_ := Aside0.mk (Kd.R_below (by (with_reducible repeat (first | apply Kd.R_alloc | apply Kd.R_drewN | apply Kd.R_drew)); exact HO165.out) hb); have n1_ := Aside0.mk (Kd.R_below (by (with_reducible repeat (first | apply Kd.R_alloc | apply Kd.R_drewN | apply Kd.R_drew)); exact HO169.out) hb); have n2_ := Aside0.mk (Kd.R_lower ho10 (below_size (by repeat (first | (with_reducible first | exact HB.out | apply below_alloc | apply pw_below_drewN | apply below_drew1) | exact HB.out)))); have n3_ := Aside0.mk (below_step (by repeat (first | (with_reducible first | exact HB.out | apply below_alloc | apply pw_below_drewN | apply below_drew1) | exact HB.out)) hb); clear HO165; clear HO169; clear HB; have HO165 := n0_; have HO169 := n1_; have HO172 := n2_; have HB := n3_; clear n0_ n1_ n2_ n3_; clear hb ho10; obtain ⟨Ao11, co11, eo11⟩ := Kd.R_slice HO169.out; subst eo11))
  repeat (go_quiet (first | (go_at_call 22; (with_reducible refine (impl_MeaningIf.calls k _ _ l0 a1 a2 t162 t163 _ ?side1 ?side2 A4.out).mono ?_); (case side1 => repeat (first | exact HR0.out | (with_reducible refine Kd.C_alloc ?_ _) | (with_reducible refine Kd.C_drewN ?_ _) | (with_reducible refine Kd.C_drew ?_))); (case side2 => exact HC0.out); rintro e w7 ⟨v164, rfl, ho0, hb⟩; have n0_ := Aside0.mk (Kd.R_lower ho0 (below_size (by repeat (first | (with_reducible first | exact HB.out | apply below_alloc | apply pw_below_drewN | apply below_drew1) | exact HB.out)))); have n1_ := Aside0.mk (below_step (by repeat (first | (with_reducible first | exact HB.out | apply below_alloc | apply pw_below_drewN | apply below_drew1) | exact HB.out)) hb); clear HB; have HO165 := n0_; have HB := n1_; clear n0_ n1_; (try clear hb); (try clear hb2); (try clear hk); (try clear hi); (try clear ho0)) | (go_at_call 30; (with_reducible refine (impl_Hoist_meaning.calls k _ _ l0 t166 t167 _ ?side1 ?side2 A6.out).mono ?_); (case side1 => repeat (first | exact (Kd.C_below HR0.out HB.out) | (with_reducible refine Kd.C_alloc ?_ _) | (with_reducible refine Kd.C_drewN ?_ _) | (with_reducible refine Kd.C_drew ?_))); (case side2 => exact HC0.out); rintro e w8 ⟨v168, rfl, ho0, hb⟩; have n0_ := Aside0.mk (Kd.R_elder' (by (with_reducible repeat (first | apply Kd.R_alloc | apply Kd.R_drewN | apply Kd.R_drew)); exact HO165.out) (Kd.R_base ho0) hb); have n1_ := Aside0.mk (Kd.R_lower (Kd.R_new' ho0 (Kd.R_lt (by (with_reducible repeat (first | apply Kd.R_alloc | apply Kd.R_drewN | apply Kd.R_drew)); exact HO165.out))) (below_size (by repeat (first | (with_reducible first | exact HB.out | apply below_alloc | apply pw_below_drewN | apply below_drew1) | exact HB.out)))); have n2_ := Aside0.mk (below_step (by repeat (first | (with_reducible first | exact HB.out | apply below_alloc | apply pw_below_drewN | apply below_drew1) | exact HB.out)) hb); clear HO165; clear HB; have HO165 := n0_; have HO169 := n1_; have HB := n2_; clear n0_ n1_ n2_; (try clear hb); (try clear hb2); (try clear hk); (try clear hi); (try clear ho0)) | ((with_reducible refine gate_dst (N := 29) rfl ?_); refine Kd.R_lit (Kd.int .i64) _ 2 ?hg (N := 29) ?hd (xs := ([] : List Int)) (inner := []) (ok := fun _ => True) (okp := fun _ => True) ?hr ?hp (fun _ hk => hk) trivial (Below.refl _ _) (Nat.le_refl _) (by simp) ?_; (case hd => rfl); (case hg => rfl); (case hr => first | (go_simp; done) | (go_simp; rfl)); (case hp => exact (Reps.none _ _)); intro v171 w9 ho10 hb hg_ hnew_; clear hg_ hnew_; (first | rw [← Ny170.out] at ho10 | (simp only [Int.reduceToNat] at ho10; rw [← Ny170.out] at ho10)); have n0_ := Aside0.mk (Kd.R_below (by (with_reducible repeat (first | apply Kd.R_alloc | apply Kd.R_drewN | apply Kd.R_drew)); exact HO165.out) hb); have n1_ := Aside0.mk (Kd.R_below (by (with_reducible repeat (first | apply Kd.R_alloc | apply Kd.R_drewN | apply Kd.R_drew)); exact HO169.out) hb); have n2_ := Aside0.mk (Kd.R_lower ho10 (below_size (by repeat (first | (with_reducible first | exact HB.out | apply below_alloc | apply pw_below_drewN | apply below_drew1) | exact HB.out)))); have n3_ := Aside0.mk (below_step (by repeat (first | (with_reducible first | exact HB.out | apply below_alloc | apply pw_below_drewN | apply below_drew1) | exact HB.out)) hb); clear HO165; clear HO169; clear HB; have HO165 := n0_; have HO169 := n1_; have HO172 := n2_; have HB := n3_; clear n0_ n1_ n2_ n3_; clear hb ho10; obtain ⟨Ao11, co11, eo11⟩ := Kd.R_slice HO169.out; subst eo11)); try go_wp2_with (first | (go_at_call 22; (with_reducible refine (impl_MeaningIf.calls k _ _ l0 a1 a2 t162 t163 _ ?side1 ?side2 A4.out).mono ?_); (case side1 => repeat (first | exact HR0.out | (with_reducible refine Kd.C_alloc ?_ _) | (with_reducible refine Kd.C_drewN ?_ _) | (with_reducible refine Kd.C_drew ?_))); (case side2 => exact HC0.out); rintro e w7 ⟨v164, rfl, ho0, hb⟩; have n0_ := Aside0.mk (Kd.R_lower ho0 (below_size (by repeat (first | (with_reducible first | exact HB.out | apply below_alloc | apply pw_below_drewN | apply below_drew1) | exact HB.out)))); have n1_ := Aside0.mk (below_step (by repeat (first | (with_reducible first | exact HB.out | apply below_alloc | apply pw_below_drewN | apply below_drew1) | exact HB.out)) hb); clear HB; have HO165 := n0_; have HB := n1_; clear n0_ n1_; (try clear hb); (try clear hb2); (try clear hk); (try clear hi); (try clear ho0)) | (go_at_call 30; (with_reducible refine (impl_Hoist_meaning.calls k _ _ l0 t166 t167 _ ?side1 ?side2 A6.out).mono ?_); (case side1 => repeat (first | exact (Kd.C_below HR0.out HB.out) | (with_reducible refine Kd.C_alloc ?_ _) | (with_reducible refine Kd.C_drewN ?_ _) | (with_reducible refine Kd.C_drew ?_))); (case side2 => exact HC0.out); rintro e w8 ⟨v168, rfl, ho0, hb⟩; have n0_ := Aside0.mk (Kd.R_elder' (by (with_reducible repeat (first | apply Kd.R_alloc | apply Kd.R_drewN | apply Kd.R_drew)); exact HO165.out) (Kd.R_base ho0) hb); have n1_ := Aside0.mk (Kd.R_lower (Kd.R_new' ho0 (Kd.R_lt (by (with_reducible repeat (first | apply Kd.R_alloc | apply Kd.R_drewN | apply Kd.R_drew)); exact HO165.out))) (below_size (by repeat (first | (with_reducible first | exact HB.out | apply below_alloc | apply pw_below_drewN | apply below_drew1) | exact HB.out)))); have n2_ := Aside0.mk (below_step (by repeat (first | (with_reducible first | exact HB.out | apply below_alloc | apply pw_below_drewN | apply below_drew1) | exact HB.out)) hb); clear HO165; clear HB; have HO165 := n0_; have HO169 := n1_; have HB := n2_; clear n0_ n1_ n2_; (try clear hb); (try clear hb2); (try clear hk); (try clear hi); (try clear ho0)) | ((with_reducible refine gate_dst (N := 29) rfl ?_); refine Kd.R_lit (Kd.int .i64) _ 2 ?hg (N := 29) ?hd (xs := ([] : List Int)) (inner := []) (ok := fun _ => True) (okp := fun _ => True) ?hr ?hp (fun _ hk => hk) trivial (Below.refl _ _) (Nat.le_refl _) (by simp) ?_; (case hd => rfl); (case hg => rfl); (case hr => first | (go_simp; done) | (go_simp; rfl)); (case hp => exact (Reps.none _ _)); intro v171 w9 ho10 hb hg_ hnew_; clear hg_ hnew_; (first | rw [← Ny170.out] at ho10 | (simp only [Int.reduceToNat] at ho10; rw [← Ny170.out] at ho10)); have n0_ := Aside0.mk (Kd.R_below (by (with_reducible repeat (first | apply Kd.R_alloc | apply Kd.R_drewN | apply Kd.R_drew)); exact HO165.out) hb); have n1_ := Aside0.mk (Kd.R_below (by (with_reducible repeat (first | apply Kd.R_alloc | apply Kd.R_drewN | apply Kd.R_drew)); exact HO169.out) hb); have n2_ := Aside0.mk (Kd.R_lower ho10 (below_size (by repeat (first | (with_reducible first | exact HB.out | apply below_alloc | apply pw_below_drewN | apply below_drew1) | exact HB.out)))); have n3_ := Aside0.mk (below_step (by repeat (first | (with_reducible first | exact HB.out | apply below_alloc | apply pw_below_drewN | apply below_drew1) | exact HB.out)) hb); clear HO165; clear HO169; clear HB; have HO165 := n0_; have HO169 := n1_; have HO172 := n2_; have HB := n3_; clear n0_ n1_ n2_ n3_; clear hb ho10; obtain ⟨Ao11, co11, eo11⟩ := Kd.R_slice HO169.out; subst eo11)))
  go_loopg [12, 32] k (fun kq v12 v32 w' => ∃ (x12_1 : List Int) (x32_1 : Int), v32 = .int .i64 x32_1 ∧ Aside0 (impl_SpoiledBy.l0 kq t162 t166 x12_1 (t166.length : Int) x32_1 = some (r1, r2)) ∧ Aside0 (kq ≤ k) ∧ Aside0 (Kd.R (Kd.int .i8) 51 w' w.heap.size (fun k_ => some k_ ≠ ((.slice Ao11 t166.length co11) : Value).ownBlock) v164 t162) ∧ Aside0 (Kd.R (Kd.int .i8) 51 w' w.heap.size (fun k_ => some k_ ≠ (v164 : Value).ownBlock) (.slice Ao11 t166.length co11) t166) ∧ Aside0 (Kd.R (Kd.int .i64) 2 w' w.heap.size (fun _ => True) v12 x12_1) ∧ Aside0 (Below w.heap.size w w'))
  case atStart => exact ⟨(y170), (0), (by first | rfl | (simp; done) | (simp [*]; done)), H', ⟨Nat.le_refl _⟩, ⟨by (with_reducible repeat (first | apply Kd.R_alloc | apply Kd.R_drewN | apply Kd.R_drew)); exact Kd.R_mono HO165.out (fun _ hk => hk.2)⟩, ⟨by (with_reducible repeat (first | apply Kd.R_alloc | apply Kd.R_drewN | apply Kd.R_drew)); exact Kd.R_mono HO169.out (fun _ hk => hk.2)⟩, ⟨by (with_reducible repeat (first | apply Kd.R_alloc | apply Kd.R_drewN | apply Kd.R_drew)); exact HO172.out⟩, ⟨by repeat (first | (with_reducible first | exact HB.out | apply below_alloc | apply pw_below_drewN | apply below_drew1) | exact HB.out)⟩⟩
  case round =>
   clear H'
   try clear c2
   try clear p2
   try clear c5
   try clear c5b0
   try clear c5b1
   obtain ⟨x12_1, x32_1, rfl, HA, HK1, HO_8, HO_10, HO_12, HB⟩ := hrel
   cases gk with
   | zero => exact absurd HA.out (by simp [impl_SpoiledBy.l0])
   | succ k1 =>
    have H := HA.out
    clear HA
    simp only [impl_SpoiledBy.l0] at H
    by_cases c12 : x32_1 < (t166.length : Int)
    ·rw [if_pos c12] at H
     have c12b0 : decide (x32_1 < (t166.length : Int)) = true := decide_eq_true c12
     clear c12
     by_cases c13 : 0 ≤ x32_1
     ·rw [if_pos c13] at H
      have c13b0 : decide (0 ≤ x32_1) = true := decide_eq_true c13
      clear c13
      by_cases c14 : x32_1 < (t166.length : Int)
      ·rw [if_pos c14] at H
       have c14b0 : decide (x32_1 < (t166.length : Int)) = true := decide_eq_true c14
       clear c14
       by_cases c15 : x32_1 < (t162.length : Int)
       ·rw [if_pos c15] at H
        have c15b0 : decide (x32_1 < (t162.length : Int)) = true := decide_eq_true c15
        clear c15
        by_cases c16 : (rd t166 x32_1) = (rd t162 x32_1)
        ·rw [if_pos c16] at H
         have c16b0 : ((rd t166 x32_1) == (rd t162 x32_1)) = true := beq_iff_eq.mpr c16
         have c16b1 : ((rd t166 x32_1) != (rd t162 x32_1)) = false := bne_eq_false_iff_eq.mpr c16
         clear c16
         have H' := Aside0.mk H
         clear H
         have p173 : 0 ≤ (x32_1 : Int) := of_decide_eq_true (by first | (with_reducible assumption) | assumption)
         have q173 : x32_1 < (t166.length : Int) := of_decide_eq_true (by first | (with_reducible assumption) | assumption)
         obtain ⟨ad173, e173, hx173_0⟩ := Kd.at_int (Kd.R_reads' HO_10.out).2.2 x32_1 p173 q173
         cases e173
         replace p173 := eq_true p173
         replace q173 := eq_true q173
         obtain ⟨Ao17, co17, eo17⟩ := Kd.R_slice HO_8.out
         subst eo17
         have p174 : 0 ≤ (x32_1 : Int) := of_decide_eq_true (by first | (with_reducible assumption) | assumption)
         have q174 : x32_1 < (t162.length : Int) := of_decide_eq_true (by first | (with_reducible assumption) | assumption)
         obtain ⟨ad174, e174, hx174_0⟩ := Kd.at_int (Kd.R_reads' HO_8.out).2.2 x32_1 p174 q174
         cases e174
         replace p174 := eq_true p174
         replace q174 := eq_true q174
         go_wp2
         repeat (go_quiet (fail); try go_wp2)
         go_roundg k1
         case measure => have := HK1.out; omega
         case rel => exact ⟨(x12_1), (wrap64 (x32_1 + 1)), (by first | rfl | (simp; done) | (simp [*]; done)), H', ⟨by have := HK1.out; omega⟩, ⟨by (with_reducible repeat (first | apply Kd.R_alloc | apply Kd.R_drewN | apply Kd.R_drew)); exact HO_8.out⟩, ⟨by (with_reducible repeat (first | apply Kd.R_alloc | apply Kd.R_drewN | apply Kd.R_drew)); exact HO_10.out⟩, ⟨by (with_reducible repeat (first | apply Kd.R_alloc | apply Kd.R_drewN | apply Kd.R_drew)); exact HO_12.out⟩, ⟨by repeat (first | (with_reducible first | exact HB.out | apply below_alloc | apply pw_below_drewN | apply below_drew1) | exact HB.out)⟩⟩
        ·rw [if_neg c16] at H
         have c16b0 : ((rd t166 x32_1) == (rd t162 x32_1)) = false := beq_eq_false_iff_ne.mpr c16
         have c16b1 : ((rd t166 x32_1) != (rd t162 x32_1)) = true := bne_iff_ne.mpr c16
         by_cases c18 : x12_1.length < 17592186044416
         ·rw [if_pos c18] at H
          have LMc18 := Aside0.mk c18
          clear c18
          obtain ⟨y175, hy175⟩ : ∃ y_ : List Int, y_ = (x12_1 ++ [x32_1]) := ⟨_, rfl⟩
          replace H : (impl_SpoiledBy.l0 k1 t162 t166 y175 (t166.length : Int) (wrap64 (x32_1 + 1))) = some (r1, r2) := by first | (rw [hy175]; with_reducible exact H) | (have H2_ := (Option.bind_some _ _).symm.trans H; rw [hy175]; with_reducible exact H2_) | (have H2_ := (Option.bind_some _ _).symm.trans H; with_reducible exact H2_) | with_reducible exact H | (rw [hy175]; exact H) | exact H
          have Ny175 := Aside0.mk hy175
          clear hy175
          have H' := Aside0.mk H
          clear H
          have p173 : 0 ≤ (x32_1 : Int) := of_decide_eq_true (by first | (with_reducible assumption) | assumption)
          have q173 : x32_1 < (t166.length : Int) := of_decide_eq_true (by first | (with_reducible assumption) | assumption)
          obtain ⟨ad173, e173, hx173_0⟩ := Kd.at_int (Kd.R_reads' HO_10.out).2.2 x32_1 p173 q173
          cases e173
          replace p173 := eq_true p173
          replace q173 := eq_true q173
          obtain ⟨Ao19, co19, eo19⟩ := Kd.R_slice HO_8.out
          subst eo19
          have p174 : 0 ≤ (x32_1 : Int) := of_decide_eq_true (by first | (with_reducible assumption) | assumption)
          have q174 : x32_1 < (t162.length : Int) := of_decide_eq_true (by first | (with_reducible assumption) | assumption)
          obtain ⟨ad174, e174, hx174_0⟩ := Kd.at_int (Kd.R_reads' HO_8.out).2.2 x32_1 p174 q174
          cases e174
          replace p174 := eq_true p174
          replace q174 := eq_true q174
          go_wp2_with (first | ((with_reducible refine gate_builtin (b := .append) (xs := #[.tmp 44, .tmp 46]) rfl ?_); at_builtin; refine Kd.R_append (Kd.int .i64) (w0 := w) w.heap.size rfl (.tmp 44) (.tmp 46) 54 2 (.int .i64 0) 8 rfl Tryz.underlying54 info2 rfl (by decide) (by omega) u12 x12_1 x32_1 [.int .i64 x32_1] (fun _ => True) (fun _ => False) rfl rfl ?aP (fun _ hk => hk.elim) ?aF ?aO ?aB ?aS ?aL ?_; (case aP => exact rfl); (case aB => exact (by repeat (first | (with_reducible first | exact HB.out | apply below_alloc | apply pw_below_drewN | apply below_drew1) | exact HB.out))); (case aF => exact (fun _ _ => trivial)); (case aO => exact (by (with_reducible repeat (first | apply Kd.R_alloc | apply Kd.R_drewN | apply Kd.R_drew)); exact HO_12.out)); (case aS => exact (below_size (by repeat (first | (with_reducible first | exact HB.out | apply below_alloc | apply pw_below_drewN | apply below_drew1) | exact HB.out)))); (case aL => have := LMc18.out; omega); intro v176 w20 ho hb hg hat; rw [← Ny175.out] at ho; have n0_ := Aside0.mk (Kd.R_over' (by (with_reducible repeat (first | apply Kd.R_alloc | apply Kd.R_drewN | apply Kd.R_drew)); exact HO_8.out) (Kd.R_typed (by (with_reducible repeat (first | apply Kd.R_alloc | apply Kd.R_drewN | apply Kd.R_drew)); exact HO_12.out)) (by decide) hg); have n1_ := Aside0.mk (Kd.R_over' (by (with_reducible repeat (first | apply Kd.R_alloc | apply Kd.R_drewN | apply Kd.R_drew)); exact HO_10.out) (Kd.R_typed (by (with_reducible repeat (first | apply Kd.R_alloc | apply Kd.R_drewN | apply Kd.R_drew)); exact HO_12.out)) (by decide) hg); have n2_ := Aside0.mk (hb); have n3_ := Aside0.mk (ho); clear HO_8; clear HO_10; clear HB; clear HO_12; have HO_8 := n0_; have HO_10 := n1_; have HB := n2_; have HO177 := n3_; clear n0_ n1_ n2_ n3_; clear ho hb hg hat))
          repeat (go_quiet (first | ((with_reducible refine gate_builtin (b := .append) (xs := #[.tmp 44, .tmp 46]) rfl ?_); at_builtin; refine Kd.R_append (Kd.int .i64) (w0 := w) w.heap.size rfl (.tmp 44) (.tmp 46) 54 2 (.int .i64 0) 8 rfl Tryz.underlying54 info2 rfl (by decide) (by omega) u12 x12_1 x32_1 [.int .i64 x32_1] (fun _ => True) (fun _ => False) rfl rfl ?aP (fun _ hk => hk.elim) ?aF ?aO ?aB ?aS ?aL ?_; (case aP => exact rfl); (case aB => exact (by repeat (first | (with_reducible first | exact HB.out | apply below_alloc | apply pw_below_drewN | apply below_drew1) | exact HB.out))); (case aF => exact (fun _ _ => trivial)); (case aO => exact (by (with_reducible repeat (first | apply Kd.R_alloc | apply Kd.R_drewN | apply Kd.R_drew)); exact HO_12.out)); (case aS => exact (below_size (by repeat (first | (with_reducible first | exact HB.out | apply below_alloc | apply pw_below_drewN | apply below_drew1) | exact HB.out)))); (case aL => have := LMc18.out; omega); intro v176 w20 ho hb hg hat; rw [← Ny175.out] at ho; have n0_ := Aside0.mk (Kd.R_over' (by (with_reducible repeat (first | apply Kd.R_alloc | apply Kd.R_drewN | apply Kd.R_drew)); exact HO_8.out) (Kd.R_typed (by (with_reducible repeat (first | apply Kd.R_alloc | apply Kd.R_drewN | apply Kd.R_drew)); exact HO_12.out)) (by decide) hg); have n1_ := Aside0.mk (Kd.R_over' (by (with_reducible repeat (first | apply Kd.R_alloc | apply Kd.R_drewN | apply Kd.R_drew)); exact HO_10.out) (Kd.R_typed (by (with_reducible repeat (first | apply Kd.R_alloc | apply Kd.R_drewN | apply Kd.R_drew)); exact HO_12.out)) (by decide) hg); have n2_ := Aside0.mk (hb); have n3_ := Aside0.mk (ho); clear HO_8; clear HO_10; clear HB; clear HO_12; have HO_8 := n0_; have HO_10 := n1_; have HB := n2_; have HO177 := n3_; clear n0_ n1_ n2_ n3_; clear ho hb hg hat)); try go_wp2_with (first | ((with_reducible refine gate_builtin (b := .append) (xs := #[.tmp 44, .tmp 46]) rfl ?_); at_builtin; refine Kd.R_append (Kd.int .i64) (w0 := w) w.heap.size rfl (.tmp 44) (.tmp 46) 54 2 (.int .i64 0) 8 rfl Tryz.underlying54 info2 rfl (by decide) (by omega) u12 x12_1 x32_1 [.int .i64 x32_1] (fun _ => True) (fun _ => False) rfl rfl ?aP (fun _ hk => hk.elim) ?aF ?aO ?aB ?aS ?aL ?_; (case aP => exact rfl); (case aB => exact (by repeat (first | (with_reducible first | exact HB.out | apply below_alloc | apply pw_below_drewN | apply below_drew1) | exact HB.out))); (case aF => exact (fun _ _ => trivial)); (case aO => exact (by (with_reducible repeat (first | apply Kd.R_alloc | apply Kd.R_drewN | apply Kd.R_drew)); exact HO_12.out)); (case aS => exact (below_size (by repeat (first | (with_reducible first | exact HB.out | apply below_alloc | apply pw_below_drewN | apply below_drew1) | exact HB.out)))); (case aL => have := LMc18.out; omega); intro v176 w20 ho hb hg hat; rw [← Ny175.out] at ho; have n0_ := Aside0.mk (Kd.R_over' (by (with_reducible repeat (first | apply Kd.R_alloc | apply Kd.R_drewN | apply Kd.R_drew)); exact HO_8.out) (Kd.R_typed (by (with_reducible repeat (first | apply Kd.R_alloc | apply Kd.R_drewN | apply Kd.R_drew)); exact HO_12.out)) (by decide) hg); have n1_ := Aside0.mk (Kd.R_over' (by (with_reducible repeat (first | apply Kd.R_alloc | apply Kd.R_drewN | apply Kd.R_drew)); exact HO_10.out) (Kd.R_typed (by (with_reducible repeat (first | apply Kd.R_alloc | apply Kd.R_drewN | apply Kd.R_drew)); exact HO_12.out)) (by decide) hg); have n2_ := Aside0.mk (hb); have n3_ := Aside0.mk (ho); clear HO_8; clear HO_10; clear HB; clear HO_12; have HO_8 := n0_; have HO_10 := n1_; have HB := n2_; have HO177 := n3_; clear n0_ n1_ n2_ n3_; clear ho hb hg hat)))
          go_roundg k1
          case measure => have := HK1.out; omega
          case rel => exact ⟨(y175), (wrap64 (x32_1 + 1)), (by first | rfl | (simp; done) | (simp [*]; done)), H', ⟨by have := HK1.out; omega⟩, ⟨by (with_reducible repeat (first | apply Kd.R_alloc | apply Kd.R_drewN | apply Kd.R_drew)); exact HO_8.out⟩, ⟨by (with_reducible repeat (first | apply Kd.R_alloc | apply Kd.R_drewN | apply Kd.R_drew)); exact HO_10.out⟩, ⟨by (with_reducible repeat (first | apply Kd.R_alloc | apply Kd.R_drewN | apply Kd.R_drew)); exact HO177.out⟩, ⟨by repeat (first | (with_reducible first | exact HB.out | apply below_alloc | apply pw_below_drewN | apply below_drew1) | exact HB.out)⟩⟩
         ·rw [if_neg c18] at H
          exact absurd H (by simp)
       ·rw [if_neg c15] at H
        exact absurd H (by simp)
      ·rw [if_neg c14] at H
       exact absurd H (by simp)
     ·rw [if_neg c13] at H
      exact absurd H (by simp)
    ·rw [if_neg c12] at H
     have c12b0 : decide (x32_1 < (t166.length : Int)) = false := decide_eq_false c12
     clear c12
     simp only [Option.some.injEq, Prod.mk.injEq] at H
     obtain ⟨rfl, rfl⟩ := H
     go_wp2
     repeat (go_quiet (fail); try go_wp2)
     go_ret2
     exact ⟨_, by first | rfl | (simp [errW_none, errW_some] <;> rfl) | (simp [*, errW_none, errW_some] <;> rfl), by (with_reducible repeat (first | apply Kd.R_alloc | apply Kd.R_drewN | apply Kd.R_drew)); exact HO_12.out, by repeat (first | (with_reducible first | exact HB.out | apply below_alloc | apply pw_below_drewN | apply below_drew1) | exact HB.out)⟩
 ·rw [if_neg c5] at H
  have c5b0 : (t163 == 0) = false := beq_eq_false_iff_ne.mpr c5
  have c5b1 : (t163 != 0) = true := bne_iff_ne.mpr c5
  simp only [Option.some.injEq, Prod.mk.injEq] at H
  obtain ⟨rfl, rfl⟩ := H
  go_enter Tryz.func24, Tryz.ntmps24
  go_wp2_with (first | (go_at_call 22; (with_reducible refine (impl_MeaningIf.calls k _ _ l0 a1 a2 t162 t163 _ ?side1 ?side2 A4.out).mono ?_); (case side1 => repeat (first | exact HR0.out | (with_reducible refine Kd.C_alloc ?_ _) | (with_reducible refine Kd.C_drewN ?_ _) | (with_reducible refine Kd.C_drew ?_))); (case side2 => exact HC0.out); rintro e w21 ⟨v164, rfl, ho0, hb⟩; have n0_ := Aside0.mk (Kd.R_lower ho0 (below_size (by repeat (first | (with_reducible first | exact HB.out | apply below_alloc | apply pw_below_drewN | apply below_drew1) | exact HB.out)))); have n1_ := Aside0.mk (below_step (by repeat (first | (with_reducible first | exact HB.out | apply below_alloc | apply pw_below_drewN | apply below_drew1) | exact HB.out)) hb); clear HB; have HO165 := n0_; have HB := n1_; clear n0_ n1_; (try clear hb); (try clear hb2); (try clear hk); (try clear hi); (try clear ho0)))
  repeat (go_quiet (first | (go_at_call 22; (with_reducible refine (impl_MeaningIf.calls k _ _ l0 a1 a2 t162 t163 _ ?side1 ?side2 A4.out).mono ?_); (case side1 => repeat (first | exact HR0.out | (with_reducible refine Kd.C_alloc ?_ _) | (with_reducible refine Kd.C_drewN ?_ _) | (with_reducible refine Kd.C_drew ?_))); (case side2 => exact HC0.out); rintro e w21 ⟨v164, rfl, ho0, hb⟩; have n0_ := Aside0.mk (Kd.R_lower ho0 (below_size (by repeat (first | (with_reducible first | exact HB.out | apply below_alloc | apply pw_below_drewN | apply below_drew1) | exact HB.out)))); have n1_ := Aside0.mk (below_step (by repeat (first | (with_reducible first | exact HB.out | apply below_alloc | apply pw_below_drewN | apply below_drew1) | exact HB.out)) hb); clear HB; have HO165 := n0_; have HB := n1_; clear n0_ n1_; (try clear hb); (try clear hb2); (try clear hk); (try clear hi); (try clear ho0))); try go_wp2_with (first | (go_at_call 22; (with_reducible refine (impl_MeaningIf.calls k _ _ l0 a1 a2 t162 t163 _ ?side1 ?side2 A4.out).mono ?_); (case side1 => repeat (first | exact HR0.out | (with_reducible refine Kd.C_alloc ?_ _) | (with_reducible refine Kd.C_drewN ?_ _) | (with_reducible refine Kd.C_drew ?_))); (case side2 => exact HC0.out); rintro e w21 ⟨v164, rfl, ho0, hb⟩; have n0_ := Aside0.mk (Kd.R_lower ho0 (below_size (by repeat (first | (with_reducible first | exact HB.out | apply below_alloc | apply pw_below_drewN | apply below_drew1) | exact HB.out)))); have n1_ := Aside0.mk (below_step (by repeat (first | (with_reducible first | exact HB.out | apply below_alloc | apply pw_below_drewN | apply below_drew1) | exact HB.out)) hb); clear HB; have HO165 := n0_; have HB := n1_; clear n0_ n1_; (try clear hb); (try clear hb2); (try clear hk); (try clear hi); (try clear ho0))))
  go_ret2
  exact ⟨_, by first | rfl | (simp [errW_none, errW_some] <;> rfl) | (simp [*, errW_none, errW_some] <;> rfl), by first | exact Kd.R_nil _ _ _ _ _ | exact Kd.N_nil _ _ _ _ _ | exact Kd.V_nil _ _ _ _ _ | exact Kd.Q_nil _ _ _ _ _ | exact Kd.S_nil _ _ _ _ _, by repeat (first | (with_reducible first | exact HB.out | apply below_alloc | apply pw_below_drewN | apply below_drew1) | exact HB.out)⟩
end Go.Proofs.YtpbomchjcgndoaaGreatDoor.O
namespace Go.Proofs.YtpbomchjcgndoaaGreatDoor.ArrO
open Go.RowKit Go.Proofs.YtpbomchjcgndoaaGreatDoor.Arr Go.Proofs.YtpbomchjcgndoaaGreatDoorW.PrintWords Go.Proofs.YtpbomchjcgndoaaGreatDoorW.PrintLast Go.Proofs.YtpbomchjcgndoaaGreatDoorW.PrintMore Go.Proofs.YtpbomchjcgndoaaGreatDoor.U Go.Proofs.YtpbomchjcgndoaaGreatDoor.O
set_option linter.unusedVariables false
set_option linter.unusedSimpArgs false
theorem within_ev' (a b c : Int) : impl_within.f a b c = some (decide (b ≤ a ∧ a ≤ c)) := by
 unfold impl_within.f
 by_cases h : b ≤ a
 ·rw [if_pos h]; simp [h]
 ·rw [if_neg h, decide_eq_false (fun e => h e.1)]
theorem isKind_ev' (a : Int) (h0 : -128 ≤ a) (h1 : a ≤ 127) : impl_isKind.f a = some (decide (0 ≤ a ∧ a ≤ 39)) := by
 unfold impl_isKind.f
 rw [within_ev', w64 (by omega) (by omega)]; rfl
theorem meaning_ev (h : List Int) (hn : h.length ≤ 100000000) (hb : ∀ x ∈ h, -128 ≤ x ∧ x ≤ 127) : Ev (fun k => impl_Hoist_meaning.f k h) (implRead h) := by
 unfold impl_Hoist_meaning.f
 refine iter (F := fun k (s : List Int × Int × Int) => impl_Hoist_meaning.l0 k h s.1 s.2.1 h (h.length : Int) s.2.2) (fun i s => ∃ st : Nat, s = (s.1, (st : Int), (i : Int)) ∧ runH h i = some (s.1, st)) _ h.length ?_ ?_ 0 ([], 0, 0) (by omega) ⟨0, rfl, rfl⟩
 ·rintro i ⟨o, a, b⟩ hi ⟨st, e, hr⟩
  injection e with _ e
  injection e with e1 e2
  subst e1 e2
  dsimp only at hr
  have g := runH_good _ _ _ hr
  have hgl := g.len
  have hgs := g.le
  have hx := hb _ (by rw [rd_get h i hi]; exact List.getElem_mem hi : rd h (i : Int) ∈ h)
  have hnext : runH h (i + 1) = stepH (o, st) (rd h (i : Int)) := by rw [runH, hr]; rfl
  dsimp only at hnext ⊢
  generalize hX : rd h (i : Int) = x at *
  have fail : stepH (o, st) x = none → implRead h = ([], false) := fun e => by
   unfold implRead
   rw [runH_none (hnext.trans e) h.length (by omega)]
  by_cases h10 : x = -10
  ·by_cases hst : (st : Int) = (o.length : Int)
   ·refine .inr (Ev.step (f := fun _ => some ([], false)) (fun k => ?_) (cons ?_))
    ·simp only [impl_Hoist_meaning.l0, hX]
     rw [if_pos (by omega), if_pos (by omega), if_pos (by omega), if_pos h10, if_pos hst]
    ·rw [fail (by unfold stepH; rw [if_pos h10, if_pos (by dsimp only; omega)])]
   ·refine .inl ⟨(o ++ [x], ((o.length + 1 : Nat) : Int), ((i + 1 : Nat) : Int)), ⟨o.length + 1, rfl, by rw [hnext]; unfold stepH; rw [if_pos h10, if_neg (by dsimp only; omega)]⟩, Ev.step fun k => ?_⟩
    simp only [impl_Hoist_meaning.l0, hX]
    rw [if_pos (by omega), if_pos (by omega), if_pos (by omega), if_pos h10, if_neg hst, if_pos (by omega), w64 (by omega) (by omega)]
    simp only [Option.bind_some]
    rw [show ((i + 1 : Nat) : Int) = (i : Int) + 1 by omega, show ((o ++ [x]).length : Int) = ((o.length + 1 : Nat) : Int) by simp]
  ·by_cases hs : -4 ≤ x ∧ x ≤ -1
   ·have hk : ¬ (0 ≤ x ∧ x ≤ 39) := by omega
    have hw : wrap64 (wrap64 ((st : Int) - wrap64 x) - 1) = (st : Int) + -x - 1 := by
     rw [w64 (x := x) (by omega) (by omega), w64 (x := (st : Int) - x) (by omega) (by omega), w64 (by omega) (by omega)]; omega
    have hl0 : ∀ k, impl_Hoist_meaning.l0 (k + 1) h o (st : Int) h (h.length : Int) (i : Int) = impl_Hoist_meaning.j1 k h o (st : Int) x ((st : Int) + -x - 1) h (h.length : Int) (i : Int) (decide ((st : Int) + -x - 1 < o.length)) := fun k => by
     simp only [impl_Hoist_meaning.l0, hX, hw]
     rw [if_pos (by omega), if_pos (by omega), if_pos (by omega), if_neg h10, w64 (x := x) (by omega) (by omega), within_ev', decide_eq_true hs]
     rfl
    by_cases hat : (st : Int) + -x - 1 < o.length
    ·have hkind := g.kind ((st : Int) + -x - 1).toNat (by omega) (by omega)
     rw [Int.toNat_of_nonneg (by omega)] at hkind
     refine .inl ⟨(o ++ [rd o ((st : Int) + -x - 1)], (st : Int), ((i + 1 : Nat) : Int)), ⟨st, rfl, by rw [hnext]; unfold stepH; rw [if_neg h10, if_neg hk, if_pos hs, if_pos hat]⟩, fun hgo => ?_⟩
     refine Ev.step hl0 (Ev.step (fun k => ?_) hgo)
     simp only [impl_Hoist_meaning.j1]
     rw [if_pos (by simpa using hat), if_pos (by omega), if_pos hat, isKind_ev' _ (by omega) (by omega), decide_eq_true hkind]
     simp only [Option.bind_some]
     rw [if_pos trivial, if_pos (by omega), w64 (by omega) (by omega), show ((i + 1 : Nat) : Int) = (i : Int) + 1 by omega]
    ·refine .inr ?_
     rw [fail (by unfold stepH; rw [if_neg h10, if_neg hk, if_pos hs, if_neg hat])]
     refine Ev.step hl0 (Ev.step (f := fun _ => some ([], false)) (fun k => ?_) (Ev.now _))
     simp only [impl_Hoist_meaning.j1]
     rw [if_neg (by simpa using hat), isKind_ev' _ (by omega) (by omega), decide_eq_false hk]
     rfl
   ·have hl0 : ∀ k, impl_Hoist_meaning.l0 (k + 1) h o (st : Int) h (h.length : Int) (i : Int) = impl_Hoist_meaning.j1 k h o (st : Int) x (wrap64 (wrap64 ((st : Int) - wrap64 x) - 1)) h (h.length : Int) (i : Int) false := fun k => by
     simp only [impl_Hoist_meaning.l0, hX]
     rw [if_pos (by omega), if_pos (by omega), if_pos (by omega), if_neg h10, within_ev', decide_eq_false (by rw [w64 (by omega) (by omega)]; exact hs)]
     rfl
    by_cases hk : 0 ≤ x ∧ x ≤ 39
    ·refine .inl ⟨(o ++ [x], (st : Int), ((i + 1 : Nat) : Int)), ⟨st, rfl, by rw [hnext]; unfold stepH; rw [if_neg h10, if_pos hk]⟩, fun hgo => ?_⟩
     refine Ev.step hl0 (Ev.step (fun k => ?_) hgo)
     simp only [impl_Hoist_meaning.j1]
     rw [if_neg (by simp), isKind_ev' _ (by omega) (by omega), decide_eq_true hk]
     simp only [Option.bind_some]
     rw [if_pos trivial, if_pos (by omega), w64 (by omega) (by omega), show ((i + 1 : Nat) : Int) = (i : Int) + 1 by omega]
    ·refine .inr ?_
     rw [fail (by unfold stepH; rw [if_neg h10, if_neg hk, if_neg hs])]
     refine Ev.step hl0 (Ev.step (f := fun _ => some ([], false)) (fun k => ?_) (Ev.now _))
     simp only [impl_Hoist_meaning.j1]
     rw [if_neg (by simp), isKind_ev' _ (by omega) (by omega), decide_eq_false hk]
     rfl
 ·rintro ⟨o, a, b⟩ ⟨st, e, hr⟩
  injection e with _ e
  injection e with e1 e2
  subst e1 e2
  dsimp only at hr
  have g := runH_good _ _ _ hr
  have hgl := g.len
  refine Ev.step (f := fun _ => some (implRead h)) (fun k => ?_) (Ev.now _)
  simp only [impl_Hoist_meaning.l0]
  rw [if_neg (by omega)]
  unfold impl_size_int8.f
  simp only [Option.bind_some, within_ev']
  unfold implRead okH readH
  rw [hr]
  dsimp only
  by_cases hl : 1 ≤ h.length ∧ h.length ≤ 8
  ·rw [if_pos (by simpa using (show 1 ≤ (h.length : Int) ∧ (h.length : Int) ≤ 8 by omega)), if_pos hl]
   by_cases h2 : st < o.length
   ·rw [if_pos h2, decide_eq_true (by omega)]; rfl
   ·rw [if_neg h2, decide_eq_false (by omega)]; rfl
  ·rw [if_neg (by simpa using (show ¬ (1 ≤ (h.length : Int) ∧ (h.length : Int) ≤ 8) by omega)), if_neg hl]; rfl
theorem unless_evO (b : Bool) (a : Int) : impl_unless.f b a = some (if b = true then 0 else a) := by
 unfold impl_unless.f; cases b <;> rfl
theorem implRead_of {h m : List Int} (e : readH h = some m) : implRead h = (m, true) := by
 have hk : okH h = true := by unfold okH; rw [e]; rfl
 have h1 := implRead_fst hk
 have h2 := implRead_snd h
 rw [e] at h1
 rw [hk] at h2
 exact Prod.ext (Option.some.inj h1).symm h2
theorem small_of {h : List Int} (hk : okH h = true) : Small8 h := by
 have h1 := okH_len hk
 exact ⟨by omega, fun x hx => by have := okH_num hk x hx; unfold NumH at this; omega⟩
theorem placeCode_ev {h : List Int} (hk : okH h = true) (a : Nat) (k : Int) (ha : a < h.length) (hk0 : 0 ≤ k) (hk1 : k ≤ 39) : Ev (fun n => impl_placeCode.f n h (a : Int) k) (if 0 ≤ rd h (a : Int) then 0 else 4) := by
 have hs := small_of hk
 have h8 := okH_len hk
 unfold impl_placeCode.f impl_ValidHoist.f
 refine Ev.bind (Ev.bind (meaning_ev h hs.1 hs.2) (Ev.now _)) ?_
 rw [implRead_snd, hk, if_pos rfl]
 unfold impl_size_int8.f
 simp only [Option.bind_some, within_ev']
 rw [w64 (by omega) (by omega), decide_eq_true (by omega : 0 ≤ (a : Int) ∧ (a : Int) ≤ (h.length : Int) - 1)]
 simp only [if_true]
 rw [decide_eq_true (⟨hk0, hk1⟩ : 0 ≤ k ∧ k ≤ 39)]
 simp only [if_true]
 rw [if_pos (by omega), if_pos (by omega), unless_evO]
 simp only [Option.bind_some, ge_iff_le, decide_eq_true_eq]
 exact Ev.now _
theorem changed_eq {h : List Int} (hk : okH h = true) (a : Nat) (k : Int) (ha : a < h.length) (hk0 : 0 ≤ k) (hk1 : k ≤ 39) : impl_Hoist_changed.f h (a : Int) k = some (h.set a k) := by
 have h8 := okH_len hk
 unfold impl_Hoist_changed.f impl_Hoist_int8.f
 rw [if_pos (by omega)]
 simp only [Option.bind_some]
 rw [if_pos (by omega), if_pos (by omega), Int.toNat_natCast, i8w (by omega) (by omega)]
theorem meaningIf_ev {h m m' : List Int} (e : readH h = some m) (a : Nat) (k : Int) (ha : a < h.length) (hk0 : 0 ≤ k) (hk1 : k ≤ 39) (h0 : 0 ≤ rd h (a : Int)) (e' : readH (h.set a k) = some m') : Ev (fun n => impl_MeaningIf.f n h (a : Int) k) (m', 0) := by
 have hk : okH h = true := by unfold okH; rw [e]; rfl
 have hk' : okH (h.set a k) = true := by unfold okH; rw [e']; rfl
 have hs := small_of hk'
 have hp := placeCode_ev hk a k ha hk0 hk1
 rw [if_pos h0] at hp
 unfold impl_MeaningIf.f
 refine Ev.bind hp (pos rfl ?_)
 rw [changed_eq hk a k ha hk0 hk1]
 simp only [Option.bind_some]
 unfold impl_MeaningOf.f
 refine Ev.bind (Ev.bind (meaning_ev _ hs.1 hs.2) (r := (m', 0)) ?_) (Ev.now _)
 rw [implRead_of e']
 exact pos rfl (Ev.now _)
theorem meaningIf_no {h m : List Int} (e : readH h = some m) (a : Nat) (k : Int) (ha : a < h.length) (hk0 : 0 ≤ k) (hk1 : k ≤ 39) (h0 : ¬ 0 ≤ rd h (a : Int)) : Ev (fun n => impl_MeaningIf.f n h (a : Int) k) ([], 4) := by
 have hk : okH h = true := by unfold okH; rw [e]; rfl
 have hp := placeCode_ev hk a k ha hk0 hk1
 rw [if_neg h0] at hp
 unfold impl_MeaningIf.f
 exact Ev.bind hp (neg (by decide) (Ev.now _))
theorem spoiled_l0 (m m' : List Int) (h8 : m.length ≤ 8) (hl : m'.length = m.length) : ∀ (d i : Nat), i + d = m.length → Ev (fun n => impl_SpoiledBy.l0 n m' m (offL m m' i) (m.length : Int) (i : Int)) (offL m m' m.length, 0) := by
 intro d
 induction d with
 | zero =>
  intro i hi
  obtain rfl : i = m.length := by omega
  refine Ev.step (fun k => by rw [impl_SpoiledBy.l0]) ?_
  exact neg (by omega) (Ev.now _)
 | succ d ih =>
  intro i hi
  have hle := offL_le m m' i
  refine Ev.step (fun k => by rw [impl_SpoiledBy.l0]) ?_
  refine pos (by omega) (pos (by omega) (pos (by omega) (pos (by omega) ?_)))
  have hn := ih (i + 1) (by omega)
  rw [show ((i + 1 : Nat) : Int) = (i : Int) + 1 by omega] at hn
  by_cases he : rd m (i : Int) = rd m' (i : Int)
  ·refine pos he ?_
   rw [offL, if_pos he] at hn
   rw [w64 (by omega) (by omega)]; exact hn
  ·refine neg he (pos (by omega) ?_)
   rw [offL, if_neg he] at hn
   rw [w64 (by omega) (by omega)]; exact hn
theorem spoiled_ev {h m m' : List Int} (e : readH h = some m) (a : Nat) (k : Int) (ha : a < h.length) (hk0 : 0 ≤ k) (hk1 : k ≤ 39) (h0 : 0 ≤ rd h (a : Int)) (e' : readH (h.set a k) = some m') (hl : m'.length = m.length) (h8 : m.length ≤ 8) : Ev (fun n => impl_SpoiledBy.f n h (a : Int) k) (offL m m' m.length, 0) := by
 have hk : okH h = true := by unfold okH; rw [e]; rfl
 have hs := small_of hk
 unfold impl_SpoiledBy.f
 refine Ev.bind (meaningIf_ev e a k ha hk0 hk1 h0 e') (pos rfl ?_)
 refine Ev.bind (meaning_ev _ hs.1 hs.2) ?_
 rw [implRead_of e]
 exact spoiled_l0 m m' h8 hl m.length 0 (by omega)
theorem spoiled_no {h m : List Int} (e : readH h = some m) (a : Nat) (k : Int) (ha : a < h.length) (hk0 : 0 ≤ k) (hk1 : k ≤ 39) (h0 : ¬ 0 ≤ rd h (a : Int)) : Ev (fun n => impl_SpoiledBy.f n h (a : Int) k) ([], 4) := by
 unfold impl_SpoiledBy.f
 exact Ev.bind (meaningIf_no e a k ha hk0 hk1 h0) (neg (by decide) (Ev.now _))
section
variable (A : Option Addr) (c : Nat) (W : World) {h m m' : List Int} (e : readH h = some m) (a : Nat) (k : Int) (ha : a < h.length) (hk0 : 0 ≤ k) (hk1 : k ≤ 39)
include e ha hk0 hk1
theorem ifI_calls (h0 : 0 ≤ rd h (a : Int)) (e' : readH (h.set a k) = some m') (hr : Kd.C (Kd.int .i8) W A h.length h) (hc : h.length ≤ c) :
  Calls Tryz.prog 22 #[.slice A h.length c, .int .i64 (a : Int), .int .i64 k] W fun e w' => ∃ v, e = .returned (.tuple #[v, .int .i64 0]) ∧ Kd.R (Kd.int .i8) 51 w' W.heap.size (fun _ => True) v m' ∧ Below W.heap.size W w' := by
 obtain ⟨n, hn⟩ := (meaningIf_ev e a k ha hk0 hk1 h0 e').rounds
 exact impl_MeaningIf.calls n A c h a k m' 0 W hr hc hn
theorem ifI_no (h0 : ¬ 0 ≤ rd h (a : Int)) (hr : Kd.C (Kd.int .i8) W A h.length h) (hc : h.length ≤ c) :
  Calls Tryz.prog 22 #[.slice A h.length c, .int .i64 (a : Int), .int .i64 k] W fun e w' => ∃ v, e = .returned (.tuple #[v, .int .i64 4]) ∧ Kd.R (Kd.int .i8) 51 w' W.heap.size (fun _ => True) v [] ∧ Below W.heap.size W w' := by
 obtain ⟨n, hn⟩ := (meaningIf_no e a k ha hk0 hk1 h0).rounds
 exact impl_MeaningIf.calls n A c h a k [] 4 W hr hc hn
theorem spI_calls (h0 : 0 ≤ rd h (a : Int)) (e' : readH (h.set a k) = some m') (hl : m'.length = m.length) (h8 : m.length ≤ 8) (hr : Kd.C (Kd.int .i8) W A h.length h) (hc : h.length ≤ c) :
  Calls Tryz.prog 24 #[.slice A h.length c, .int .i64 (a : Int), .int .i64 k] W fun e w' => ∃ v, e = .returned (.tuple #[v, .int .i64 0]) ∧ Kd.R (Kd.int .i64) 2 w' W.heap.size (fun _ => True) v (offL m m' m.length) ∧ Below W.heap.size W w' := by
 obtain ⟨n, hn⟩ := (spoiled_ev e a k ha hk0 hk1 h0 e' hl h8).rounds
 exact impl_SpoiledBy.calls n A c h a k _ 0 W hr hc hn
theorem spI_no (h0 : ¬ 0 ≤ rd h (a : Int)) (hr : Kd.C (Kd.int .i8) W A h.length h) (hc : h.length ≤ c) :
  Calls Tryz.prog 24 #[.slice A h.length c, .int .i64 (a : Int), .int .i64 k] W fun e w' => ∃ v, e = .returned (.tuple #[v, .int .i64 4]) ∧ Kd.R (Kd.int .i64) 2 w' W.heap.size (fun _ => True) v [] ∧ Below W.heap.size W w' := by
 obtain ⟨n, hn⟩ := (spoiled_no e a k ha hk0 hk1 h0).rounds
 exact impl_SpoiledBy.calls n A c h a k [] 4 W hr hc hn
end
end Go.Proofs.YtpbomchjcgndoaaGreatDoor.ArrO
namespace Go.Proofs.YtpbomchjcgndoaaGreatDoor.Arr
open Go.Shelf Go.Proofs
set_option maxRecDepth 100000
def ren173 : Ren :=
 {
  f := fun x =>
   match x with
   | 173 => 57
   | 246 => 75
   | 283 => 87
   | 284 => 88
   | 285 => 89
   | 286 => 90
   | 129 => 104
   | 317 => 103
   | 318 => 105
   | 319 => 106
   | 320 => 107
   | 337 => 111
   | 338 => 112
   | n => n,
  t := fun x =>
   match x with
   | 2 => 2
   | 3 => 3
   | 9 => 9
   | 4 => 4
   | 171 => 130
   | 0 => 0
   | 53 => 88
   | 37 => 22
   | 5 => 5
   | 173 => 133
   | 212 => 146
   | 51 => 147
   | 20 => 20
   | 213 => 148
   | 46 => 118
   | 232 => 161
   | 233 => 162
   | n => n,
  g := fun x =>
   match x with
   | 17 => 3
   | 18 => 6
   | 19 => 7
   | n => n }
theorem lay173 : Lays.n173 Go.Proofs.Tryz.prog ren173 where
 mixed := by kernel_rfl
 f129 := Eq.trans Go.Proofs.Tryz.func104 (congrArg some (by kernel_rfl))
 f173 := Eq.trans Go.Proofs.Tryz.func57 (congrArg some (by kernel_rfl))
 f246 := Eq.trans Go.Proofs.Tryz.func75 (congrArg some (by kernel_rfl))
 f283 := Eq.trans Go.Proofs.Tryz.func87 (congrArg some (by kernel_rfl))
 f284 := Eq.trans Go.Proofs.Tryz.func88 (congrArg some (by kernel_rfl))
 f285 := Eq.trans Go.Proofs.Tryz.func89 (congrArg some (by kernel_rfl))
 f286 := Eq.trans Go.Proofs.Tryz.func90 (congrArg some (by kernel_rfl))
 f317 := Eq.trans Go.Proofs.Tryz.func103 (congrArg some (by kernel_rfl))
 f318 := Eq.trans Go.Proofs.Tryz.func105 (congrArg some (by kernel_rfl))
 f319 := Eq.trans Go.Proofs.Tryz.func106 (congrArg some (by kernel_rfl))
 f320 := Eq.trans Go.Proofs.Tryz.func107 (congrArg some (by kernel_rfl))
 f337 := Eq.trans Go.Proofs.Tryz.func111 (congrArg some (by kernel_rfl))
 f338 := Eq.trans Go.Proofs.Tryz.func112 (congrArg some (by kernel_rfl))
 t0 := Go.Proofs.Tryz.underlying0
 a0 := Go.Proofs.Tryz.isAgg0
 z0 := Go.Proofs.Tryz.sizeOf0
 v0 := Go.Proofs.Tryz.zeroValue0
 t2 := Go.Proofs.Tryz.underlying2
 a2 := Go.Proofs.Tryz.isAgg2
 z2 := Go.Proofs.Tryz.sizeOf2
 v2 := Go.Proofs.Tryz.zeroValue2
 t3 := Go.Proofs.Tryz.underlying3
 a3 := Go.Proofs.Tryz.isAgg3
 z3 := Go.Proofs.Tryz.sizeOf3
 v3 := Go.Proofs.Tryz.zeroValue3
 t4 := Go.Proofs.Tryz.underlying4
 a4 := Go.Proofs.Tryz.isAgg4
 z4 := Go.Proofs.Tryz.sizeOf4
 v4 := Go.Proofs.Tryz.zeroValue4
 t5 := Go.Proofs.Tryz.underlying5
 a5 := Go.Proofs.Tryz.isAgg5
 z5 := Go.Proofs.Tryz.sizeOf5
 v5 := Go.Proofs.Tryz.zeroValue5
 t9 := Go.Proofs.Tryz.underlying9
 a9 := Go.Proofs.Tryz.isAgg9
 z9 := Go.Proofs.Tryz.sizeOf9
 v9 := Go.Proofs.Tryz.zeroValue9
 t20 := Go.Proofs.Tryz.underlying20
 a20 := Go.Proofs.Tryz.isAgg20
 z20 := Go.Proofs.Tryz.sizeOf20
 v20 := Go.Proofs.Tryz.zeroValue20
 t37 := Go.Proofs.Tryz.underlying22
 a37 := Go.Proofs.Tryz.isAgg22
 z37 := Go.Proofs.Tryz.sizeOf22
 v37 := Go.Proofs.Tryz.zeroValue22
 t46 := Go.Proofs.Tryz.underlying118
 a46 := Go.Proofs.Tryz.isAgg118
 z46 := Go.Proofs.Tryz.sizeOf118
 v46 := Go.Proofs.Tryz.zeroValue118
 t51 := Go.Proofs.Tryz.underlying147
 a51 := Go.Proofs.Tryz.isAgg147
 z51 := Go.Proofs.Tryz.sizeOf147
 v51 := Go.Proofs.Tryz.zeroValue147
 t53 := Go.Proofs.Tryz.underlying88
 a53 := Go.Proofs.Tryz.isAgg88
 z53 := Go.Proofs.Tryz.sizeOf88
 v53 := Go.Proofs.Tryz.zeroValue88
 t171 := Go.Proofs.Tryz.underlying130
 a171 := Go.Proofs.Tryz.isAgg130
 z171 := Go.Proofs.Tryz.sizeOf130
 v171 := Go.Proofs.Tryz.zeroValue130
 t173 := Go.Proofs.Tryz.underlying133
 a173 := Go.Proofs.Tryz.isAgg133
 z173 := Go.Proofs.Tryz.sizeOf133
 v173 := Go.Proofs.Tryz.zeroValue133
 t212 := Go.Proofs.Tryz.underlying146
 a212 := Go.Proofs.Tryz.isAgg146
 z212 := Go.Proofs.Tryz.sizeOf146
 v212 := Go.Proofs.Tryz.zeroValue146
 t213 := Go.Proofs.Tryz.underlying148
 a213 := Go.Proofs.Tryz.isAgg148
 z213 := Go.Proofs.Tryz.sizeOf148
 t232 := Go.Proofs.Tryz.underlying161
 a232 := Go.Proofs.Tryz.isAgg161
 z232 := Go.Proofs.Tryz.sizeOf161
 v232 := Go.Proofs.Tryz.zeroValue161
 t233 := Go.Proofs.Tryz.underlying162
 a233 := Go.Proofs.Tryz.isAgg162
 z233 := Go.Proofs.Tryz.sizeOf162
 v233 := Go.Proofs.Tryz.zeroValue162
 g17 := by kernel_rfl
 g18 := by kernel_rfl
 g19 := by kernel_rfl
def ren156 : Ren :=
 {
  f := fun x =>
   match x with
   | 156 => 38
   | 165 => 58
   | 166 => 59
   | 169 => 60
   | 240 => 76
   | 241 => 77
   | 276 => 91
   | 277 => 92
   | n => n,
  t := fun x =>
   match x with
   | 31 => 66
   | 9 => 9
   | 3 => 3
   | 4 => 4
   | 0 => 0
   | 20 => 20
   | 72 => 100
   | 76 => 102
   | 70 => 98
   | 37 => 22
   | 75 => 94
   | 127 => 116
   | 164 => 135
   | 5 => 5
   | 80 => 104
   | n => n,
  g := fun n => n }
theorem lay156 : Lays.n156 Go.Proofs.Tryz.prog ren156 where
 mixed := by kernel_rfl
 f156 := Eq.trans Go.Proofs.Tryz.func38 (congrArg some (by kernel_rfl))
 f165 := Eq.trans Go.Proofs.Tryz.func58 (congrArg some (by kernel_rfl))
 f166 := Eq.trans Go.Proofs.Tryz.func59 (congrArg some (by kernel_rfl))
 f169 := Eq.trans Go.Proofs.Tryz.func60 (congrArg some (by kernel_rfl))
 f240 := Eq.trans Go.Proofs.Tryz.func76 (congrArg some (by kernel_rfl))
 f241 := Eq.trans Go.Proofs.Tryz.func77 (congrArg some (by kernel_rfl))
 f276 := Eq.trans Go.Proofs.Tryz.func91 (congrArg some (by kernel_rfl))
 f277 := Eq.trans Go.Proofs.Tryz.func92 (congrArg some (by kernel_rfl))
 t0 := Go.Proofs.Tryz.underlying0
 a0 := Go.Proofs.Tryz.isAgg0
 z0 := Go.Proofs.Tryz.sizeOf0
 v0 := Go.Proofs.Tryz.zeroValue0
 t3 := Go.Proofs.Tryz.underlying3
 a3 := Go.Proofs.Tryz.isAgg3
 z3 := Go.Proofs.Tryz.sizeOf3
 v3 := Go.Proofs.Tryz.zeroValue3
 t4 := Go.Proofs.Tryz.underlying4
 a4 := Go.Proofs.Tryz.isAgg4
 z4 := Go.Proofs.Tryz.sizeOf4
 v4 := Go.Proofs.Tryz.zeroValue4
 t9 := Go.Proofs.Tryz.underlying9
 a9 := Go.Proofs.Tryz.isAgg9
 z9 := Go.Proofs.Tryz.sizeOf9
 v9 := Go.Proofs.Tryz.zeroValue9
 t20 := Go.Proofs.Tryz.underlying20
 a20 := Go.Proofs.Tryz.isAgg20
 z20 := Go.Proofs.Tryz.sizeOf20
 v20 := Go.Proofs.Tryz.zeroValue20
 t31 := Go.Proofs.Tryz.underlying66
 a31 := Go.Proofs.Tryz.isAgg66
 z31 := Go.Proofs.Tryz.sizeOf66
 v31 := Go.Proofs.Tryz.zeroValue66
 t37 := Go.Proofs.Tryz.underlying22
 a37 := Go.Proofs.Tryz.isAgg22
 z37 := Go.Proofs.Tryz.sizeOf22
 v37 := Go.Proofs.Tryz.zeroValue22
 t70 := Go.Proofs.Tryz.underlying98
 a70 := Go.Proofs.Tryz.isAgg98
 z70 := Go.Proofs.Tryz.sizeOf98
 v70 := Go.Proofs.Tryz.zeroValue98
 t72 := Go.Proofs.Tryz.underlying100
 a72 := Go.Proofs.Tryz.isAgg100
 z72 := Go.Proofs.Tryz.sizeOf100
 v72 := Go.Proofs.Tryz.zeroValue100
 t75 := Go.Proofs.Tryz.underlying94
 a75 := Go.Proofs.Tryz.isAgg94
 z75 := Go.Proofs.Tryz.sizeOf94
 v75 := Go.Proofs.Tryz.zeroValue94
 t76 := Go.Proofs.Tryz.underlying102
 a76 := Go.Proofs.Tryz.isAgg102
 z76 := Go.Proofs.Tryz.sizeOf102
 v76 := Go.Proofs.Tryz.zeroValue102
 t127 := Go.Proofs.Tryz.underlying116
 a127 := Go.Proofs.Tryz.isAgg116
 z127 := Go.Proofs.Tryz.sizeOf116
 v127 := Go.Proofs.Tryz.zeroValue116
 t164 := Go.Proofs.Tryz.underlying135
 a164 := Go.Proofs.Tryz.isAgg135
 z164 := Go.Proofs.Tryz.sizeOf135
 v164 := Go.Proofs.Tryz.zeroValue135
theorem extra156 : Builder.Extra Go.Proofs.Tryz.prog ren156 where
 sizeBuilder := by kernel_rfl
 liesBuilder := by kernel_rfl
 t5 := Go.Proofs.Tryz.underlying5
 a5 := Go.Proofs.Tryz.isAgg5
 z5 := Go.Proofs.Tryz.sizeOf5
 v5 := Go.Proofs.Tryz.zeroValue5
 infoByte := by kernel_rfl
 cellsByte := by kernel_rfl
 sizeByte := by kernel_rfl
 neB5 := by decide
end Go.Proofs.YtpbomchjcgndoaaGreatDoor.Arr
namespace Go.Proofs.YtpbomchjcgndoaaGreatDoor.Arr
open Go.RowKit Go.Proofs.YtpbomchjcgndoaaGreatDoorW.PrintWords Go.Proofs.YtpbomchjcgndoaaGreatDoorW.PrintLast Go.Proofs.YtpbomchjcgndoaaGreatDoorW.PrintMore Go.Proofs.YtpbomchjcgndoaaGreatDoor.U Go.Proofs.YtpbomchjcgndoaaGreatDoor.N
set_option linter.unusedVariables false
set_option linter.unusedSimpArgs false
theorem bs_app_data (a b : Array UInt8) : (⟨a⟩ : ByteArray) ++ ⟨b⟩ = ⟨a ++ b⟩ := by
 apply ByteArray.ext
 simp
theorem bs_size (l : List UInt8) : (⟨l.toArray⟩ : ByteArray).size = l.length := by simp [ByteArray.size]
def dg (n : Nat) : List UInt8 := if n < 10 then [UInt8.ofNat (48 + n)] else [UInt8.ofNat (48 + n / 10), UInt8.ofNat (48 + n % 10)]
theorem dg_dec {n : Nat} (h : n < 100) : Lib.decDigits n = dg n := by
 unfold dg
 by_cases h1 : n < 10
 ·rw [if_pos h1, Lib.decDigits, dif_pos h1]
 ·rw [if_neg h1, Lib.decDigits, dif_neg h1, Lib.decDigits, dif_pos (by omega)]
  rfl
theorem dg_len (n : Nat) : (dg n).length ≤ 2 := by
 unfold dg
 split <;> simp
theorem format_calls (n : Nat) (h : n < 100) (w : World) : Calls Tryz.prog 57 #[.int .i64 (n : Int), .int .i64 10] w fun e w' => e = .returned (.string ⟨(dg n).toArray⟩) ∧ w' = w := by
 rw [← dg_dec h]
 exact Any.strconv_FormatInt_10_small lay173 n h w
theorem decimal_calls (n : Nat) (h : n < 100) (w : World) : Calls Tryz.prog 37 #[.int .i64 (n : Int)] w fun e w' => e = .returned (.string ⟨(dg n).toArray⟩) ∧ Below w.heap.size w w' := by
 have HF := Aside0.mk (fun W => format_calls n h W)
 go_enter Tryz.func37, Tryz.ntmps37
 go_wp2_with (go_at_call 57; refine (HF.out _).mono ?_; rintro e w1 ⟨rfl, rfl⟩)
 go_ret
 exact ⟨rfl, Below.refl _ _⟩
def sp (c : UInt8) : List UInt8 → List (List UInt8)
 | [] => [[]]
 | x :: r => if x = c then [] :: sp c r else match sp c r with | h :: t => (x :: h) :: t | [] => [[x]]
theorem sp_no (c : UInt8) : ∀ (l : List UInt8), (∀ x ∈ l, x ≠ c) → sp c l = [l]
 | [], _ => rfl
 | x :: r, h => by
  rw [sp, if_neg (h x (List.mem_cons_self ..)), sp_no c r (fun y hy => h y (List.mem_cons_of_mem _ hy))]
theorem sp_cut (c : UInt8) (b : List UInt8) : ∀ (a : List UInt8), (∀ x ∈ a, x ≠ c) → sp c (a ++ c :: b) = a :: sp c b
 | [], _ => by rw [List.nil_append, sp, if_pos rfl]
 | x :: r, h => by
  rw [List.cons_append, sp, if_neg (h x (List.mem_cons_self ..)), sp_cut c b r (fun y hy => h y (List.mem_cons_of_mem _ hy))]
theorem sp_join (c : UInt8) : ∀ (ws : List (List UInt8)) (w : List UInt8), (∀ x ∈ w, x ≠ c) → (∀ v ∈ ws, ∀ x ∈ v, x ≠ c) → sp c (w ++ Lib.joinTail [c] ws) = w :: ws
 | [], w, h, _ => by rw [show Lib.joinTail [c] [] = [] from rfl, List.append_nil, sp_no c w h]
 | v :: ws, w, h, hs => by
  rw [show Lib.joinTail [c] (v :: ws) = c :: (v ++ Lib.joinTail [c] ws) from by simp [Lib.joinTail], sp_cut c _ w h, sp_join c ws v (hs v (List.mem_cons_self ..)) (fun u hu => hs u (List.mem_cons_of_mem _ hu))]
theorem index_one (c : UInt8) (b : List UInt8) : ∀ a : List UInt8, (∀ x ∈ a, x ≠ c) → Lib.index (a ++ c :: b) [c] = (a.length : Int)
 | [], _ => by simp [Lib.index]
 | x :: r, h => by
  have ih := index_one c b r (fun y hy => h y (List.mem_cons_of_mem _ hy))
  have hx : ¬ (([c] : List UInt8).isPrefixOf (x :: (r ++ c :: b))) = true := by
   simp only [List.isPrefixOf, Bool.and_true, beq_iff_eq]
   exact fun e => h x (List.mem_cons_self ..) e.symm
  rw [List.cons_append, Lib.index, if_neg hx, ih, if_neg (by simp only [beq_iff_eq]; omega)]
  simp
theorem index_no (c : UInt8) : ∀ a : List UInt8, (∀ x ∈ a, x ≠ c) → Lib.index a [c] = -1
 | [], _ => by simp [Lib.index]
 | x :: r, h => by
  have ih := index_no c r (fun y hy => h y (List.mem_cons_of_mem _ hy))
  have hx : ¬ (([c] : List UInt8).isPrefixOf (x :: r)) = true := by
   simp only [List.isPrefixOf, Bool.and_true, beq_iff_eq]
   exact fun e => h x (List.mem_cons_self ..) e.symm
  rw [Lib.index, if_neg hx, ih]
  simp
theorem at_first (c : UInt8) : ∀ l : List UInt8, (∀ x ∈ l, x ≠ c) ∨ ∃ a b, l = a ++ c :: b ∧ ∀ x ∈ a, x ≠ c
 | [] => Or.inl (by simp)
 | x :: r => by
  by_cases h : x = c
  ·exact Or.inr ⟨[], r, by simp [h], by simp⟩
  ·rcases at_first c r with h1 | ⟨a, b, rfl, h1⟩
   ·refine Or.inl fun y hy => ?_
    rcases List.mem_cons.1 hy with rfl | hy
    ·exact h
    ·exact h1 y hy
   ·refine Or.inr ⟨x :: a, b, rfl, fun y hy => ?_⟩
    rcases List.mem_cons.1 hy with rfl | hy
    ·exact h
    ·exact h1 y hy
theorem splitB_sp (c : UInt8) : ∀ (n : Nat) (s : ByteArray), s.size ≤ n → (Lib.splitB ⟨#[c]⟩ 0 (Lib.countB s ⟨#[c]⟩) s).map (·.data.toList) = sp c s.data.toList
 | n, s, hn => by
  rcases at_first c s.data.toList with h | ⟨a, b, e, h⟩
  ·have hi : Lib.indexB s ⟨#[c]⟩ = -1 := index_no c _ h
   rw [Lib.splitB_miss _ _ _ _ hi, sp_no c _ h]
   rfl
  ·have hi : Lib.indexB s ⟨#[c]⟩ = (a.length : Int) := by
    show Lib.index s.data.toList [c] = _
    rw [e]; exact index_one c b a h
   have hz : s.size = a.length + (b.length + 1) := by
    have : s.size = s.data.toList.length := (Array.length_toList).symm
    rw [this, e]; simp
   have h1 : (s.extract 0 (a.length + 0)).data.toList = a := by
    rw [Lib.extract_from_zero, e]; simp
   have h2 : (s.extract (a.length + (⟨#[c]⟩ : ByteArray).size) s.size).data.toList = b := by
    rw [show (⟨#[c]⟩ : ByteArray).size = 1 from rfl]
    have : s.extract (a.length + 1) s.size = s.extract (a.length + 1) s.data.size := rfl
    simp only [ByteArray.data_extract, Array.toList_extract]
    rw [e]
    simp [List.extract, hz]
    exact List.take_of_length_le (by omega)
   rw [Lib.countB_hit s ⟨#[c]⟩ a.length (Nat.le_refl 1) hi, Nat.add_comm, Lib.splitB_hit _ _ _ _ _ hi, List.map_cons, h1, e, sp_cut c b a h]
   match n, hn with
   | 0, hn => omega
   | n + 1, hn =>
    rw [splitB_sp c n _ (by
     have : (s.extract (a.length + (⟨#[c]⟩ : ByteArray).size) s.size).size = b.length := by
      rw [← h2]; exact (Array.length_toList).symm
     omega), h2]
def numGo : Int → List UInt8 → Int × Bool
 | n, [] => (n, true)
 | n, c :: r => if c.toNat < 48 ∨ 57 < c.toNat then (0, false) else numGo (10 * n + ((c.toNat - 48 : Nat) : Int)) r
def numS (s : List UInt8) : Int × Bool := if s = [] ∨ 9 < s.length ∨ (s.head? = some 48 ∧ 1 < s.length) then (0, false) else numGo 0 s
theorem numS_dg : ∀ k : Fin 100, numS (dg k.val) = ((k.val : Int), true) := by decide +kernel
theorem dg_inj {k j : Nat} (hk : k < 100) (hj : j < 100) (h : dg k = dg j) : k = j := by
 have h1 := numS_dg ⟨k, hk⟩
 have h2 := numS_dg ⟨j, hj⟩
 simp only at h1 h2
 rw [h, h2] at h1
 have := congrArg Prod.fst h1
 simp only at this
 omega
def numI (most : Nat) (s : List UInt8) : Option Nat := (List.range (most + 1)).find? fun k => dg k == s
theorem numI_some {most k : Nat} {s : List UInt8} (hm : most < 100) (h : numI most s = some k) : k ≤ most ∧ dg k = s := by
 have h1 := List.find?_some h
 have h2 := List.mem_of_find?_eq_some h
 simp only [beq_iff_eq] at h1
 simp only [List.mem_range] at h2
 exact ⟨by omega, h1⟩
theorem numI_eq {most k : Nat} (hm : most < 100) (hk : k ≤ most) : numI most (dg k) = some k := by
 rcases hx : numI most (dg k) with _ | j
 ·have := List.find?_eq_none.1 hx k (by simp; omega)
  simp at this
 ·obtain ⟨h1, h2⟩ := numI_some hm hx
  rw [dg_inj (by omega) (by omega) h2]
theorem parse_dg : ∀ k : Fin 100, Lib.parseIntB 64 (dg k.val) = .ok (k.val : Int) := by decide +kernel
theorem numI_none {most : Nat} (hm : most < 100) {s : List UInt8} (h : ∀ v : Int, Lib.parseIntB 64 s ≠ .ok v) : numI most s = none := by
 rcases hx : numI most s with _ | j
 ·rfl
 ·obtain ⟨h1, h2⟩ := numI_some hm hx
  exact absurd (h2 ▸ parse_dg ⟨j, by omega⟩) (h _)
theorem numI_ok {most : Nat} (hm : most < 100) {s : List UInt8} {v : Int} (h : Lib.parseIntB 64 s = .ok v) :
  (Lib.itoa v = s ∧ 0 ≤ v ∧ v ≤ most → numI most s = some v.toNat) ∧ (¬ (Lib.itoa v = s ∧ 0 ≤ v ∧ v ≤ most) → numI most s = none) := by
 refine ⟨fun ⟨h1, h2, h3⟩ => ?_, fun h1 => ?_⟩
 ·have : dg v.toNat = s := by
   rw [← h1, ← dg_dec (by omega)]
   unfold Lib.itoa
   rw [if_neg (by omega)]
  rw [← this]
  exact numI_eq hm (by omega)
 ·rcases hx : numI most s with _ | j
  ·rfl
  ·obtain ⟨h2, h3⟩ := numI_some hm hx
   have h4 := parse_dg ⟨j, by omega⟩
   simp only at h4
   rw [h3, h] at h4
   obtain rfl : v = (j : Int) := by injection h4
   refine absurd ⟨?_, by omega, by omega⟩ h1
   rw [← h3, ← dg_dec (by omega)]
   unfold Lib.itoa
   rw [if_neg (by omega)]
   congr 1
end Go.Proofs.YtpbomchjcgndoaaGreatDoor.Arr
namespace Go.Proofs.YtpbomchjcgndoaaGreatDoor.Arr
open Go.Shelf Go.Proofs
set_option maxRecDepth 100000
def ren146 : Ren :=
 {
  f := fun x =>
   match x with
   | 146 => 33
   | 221 => 54
   | 268 => 69
   | 138 => 70
   | 143 => 71
   | 195 => 78
   | 197 => 79
   | 218 => 80
   | 219 => 81
   | 260 => 93
   | 217 => 94
   | 225 => 95
   | 224 => 96
   | 267 => 97
   | 266 => 108
   | 314 => 109
   | n => n,
  t := fun x =>
   match x with
   | 9 => 9
   | 31 => 66
   | 3 => 3
   | 4 => 4
   | 0 => 0
   | 105 => 120
   | 21 => 21
   | 5 => 5
   | 46 => 118
   | 119 => 151
   | 139 => 154
   | 138 => 153
   | 146 => 155
   | 51 => 147
   | n => n,
  g := fun x =>
   match x with
   | 1 => 0
   | 3 => 4
   | 4 => 5
   | n => n }
theorem lay146 : LaysM.n146 Go.Proofs.Tryz.prog ren146 where
 mixed := by kernel_rfl
 f138 := Eq.trans Go.Proofs.Tryz.func70 (congrArg some (by kernel_rfl))
 f143 := Eq.trans Go.Proofs.Tryz.func71 (congrArg some (by kernel_rfl))
 f146 := Eq.trans Go.Proofs.Tryz.func33 (congrArg some (by kernel_rfl))
 f195 := Eq.trans Go.Proofs.Tryz.func78 (congrArg some (by kernel_rfl))
 f197 := Eq.trans Go.Proofs.Tryz.func79 (congrArg some (by kernel_rfl))
 f217 := Eq.trans Go.Proofs.Tryz.func94 (congrArg some (by kernel_rfl))
 f218 := Eq.trans Go.Proofs.Tryz.func80 (congrArg some (by kernel_rfl))
 f219 := Eq.trans Go.Proofs.Tryz.func81 (congrArg some (by kernel_rfl))
 f221 := Eq.trans Go.Proofs.Tryz.func54 (congrArg some (by kernel_rfl))
 f224 := Eq.trans Go.Proofs.Tryz.func96 (congrArg some (by kernel_rfl))
 f225 := Eq.trans Go.Proofs.Tryz.func95 (congrArg some (by kernel_rfl))
 f260 := Eq.trans Go.Proofs.Tryz.func93 (congrArg some (by kernel_rfl))
 f266 := Eq.trans Go.Proofs.Tryz.func108 (congrArg some (by kernel_rfl))
 f267 := Eq.trans Go.Proofs.Tryz.func97 (congrArg some (by kernel_rfl))
 f268 := Eq.trans Go.Proofs.Tryz.func69 (congrArg some (by kernel_rfl))
 f314 := Eq.trans Go.Proofs.Tryz.func109 (congrArg some (by kernel_rfl))
 t0 := Go.Proofs.Tryz.underlying0
 a0 := Go.Proofs.Tryz.isAgg0
 z0 := Go.Proofs.Tryz.sizeOf0
 v0 := Go.Proofs.Tryz.zeroValue0
 t3 := Go.Proofs.Tryz.underlying3
 a3 := Go.Proofs.Tryz.isAgg3
 z3 := Go.Proofs.Tryz.sizeOf3
 v3 := Go.Proofs.Tryz.zeroValue3
 t4 := Go.Proofs.Tryz.underlying4
 a4 := Go.Proofs.Tryz.isAgg4
 z4 := Go.Proofs.Tryz.sizeOf4
 v4 := Go.Proofs.Tryz.zeroValue4
 t5 := Go.Proofs.Tryz.underlying5
 a5 := Go.Proofs.Tryz.isAgg5
 z5 := Go.Proofs.Tryz.sizeOf5
 v5 := Go.Proofs.Tryz.zeroValue5
 t9 := Go.Proofs.Tryz.underlying9
 a9 := Go.Proofs.Tryz.isAgg9
 z9 := Go.Proofs.Tryz.sizeOf9
 v9 := Go.Proofs.Tryz.zeroValue9
 t21 := Go.Proofs.Tryz.underlying21
 a21 := Go.Proofs.Tryz.isAgg21
 z21 := Go.Proofs.Tryz.sizeOf21
 v21 := Go.Proofs.Tryz.zeroValue21
 t31 := Go.Proofs.Tryz.underlying66
 a31 := Go.Proofs.Tryz.isAgg66
 z31 := Go.Proofs.Tryz.sizeOf66
 v31 := Go.Proofs.Tryz.zeroValue66
 t46 := Go.Proofs.Tryz.underlying118
 a46 := Go.Proofs.Tryz.isAgg118
 z46 := Go.Proofs.Tryz.sizeOf118
 v46 := Go.Proofs.Tryz.zeroValue118
 t51 := Go.Proofs.Tryz.underlying147
 a51 := Go.Proofs.Tryz.isAgg147
 z51 := Go.Proofs.Tryz.sizeOf147
 v51 := Go.Proofs.Tryz.zeroValue147
 t105 := Go.Proofs.Tryz.underlying120
 a105 := Go.Proofs.Tryz.isAgg120
 z105 := Go.Proofs.Tryz.sizeOf120
 v105 := Go.Proofs.Tryz.zeroValue120
 t119 := Go.Proofs.Tryz.underlying151
 a119 := Go.Proofs.Tryz.isAgg151
 z119 := Go.Proofs.Tryz.sizeOf151
 t138 := Go.Proofs.Tryz.underlying153
 a138 := Go.Proofs.Tryz.isAgg153
 z138 := Go.Proofs.Tryz.sizeOf153
 v138 := Go.Proofs.Tryz.zeroValue153
 t139 := Go.Proofs.Tryz.underlying154
 a139 := Go.Proofs.Tryz.isAgg154
 z139 := Go.Proofs.Tryz.sizeOf154
 v139 := Go.Proofs.Tryz.zeroValue154
 t146 := Go.Proofs.Tryz.underlying155
 a146 := Go.Proofs.Tryz.isAgg155
 z146 := Go.Proofs.Tryz.sizeOf155
 v146 := Go.Proofs.Tryz.zeroValue155
 g1 := by kernel_rfl
 g3 := by kernel_rfl
 g4 := by kernel_rfl
 i0 := Eq.refl (some (some (Value.tuple #[]), 1, 0))
 i3 := Eq.refl (some (some (Value.int IntKind.i64 0), 1, 8))
 i4 := Eq.refl (some (some (Value.bool false), 1, 1))
 i5 := Eq.refl (some (some (Value.int IntKind.u8 0), 1, 1))
 i9 := Eq.refl (some (some (Value.string { data := #[] }), 1, 16))
 i21 := Eq.refl (some (some (Value.int IntKind.i32 0), 1, 4))
 i31 := Eq.refl (some (some (Value.slice none 0 0), 1, 24))
 i46 := Eq.refl (some (some (Value.int IntKind.u64 0), 1, 8))
 i51 := Eq.refl (some (some (Value.int IntKind.u32 0), 1, 4))
 i105 := Eq.refl (some (some (Value.tuple #[Value.int IntKind.i32 0, Value.int IntKind.i64 0]), 1, 0))
 i138 := Eq.refl (some (some (Value.agg #[Value.int IntKind.u8 0, Value.int IntKind.u8 0]), 2, 2))
 i139 := Eq.refl (some (some (Value.agg #[Value.int IntKind.u8 0, Value.int IntKind.u8 0, Value.int IntKind.u8 0, Value.int IntKind.u8 0, Value.int IntKind.u8 0, Value.int IntKind.u8 0, Value.int IntKind.u8 0, Value.int IntKind.u8 0, Value.int IntKind.u8 0, Value.int IntKind.u8 0, Value.int IntKind.u8 0, Value.int IntKind.u8 0, Value.int IntKind.u8 0, Value.int IntKind.u8 0, Value.int IntKind.u8 0, Value.int IntKind.u8 0, Value.int IntKind.u8 0, Value.int IntKind.u8 0, Value.int IntKind.u8 0, Value.int IntKind.u8 0, Value.int IntKind.u8 0, Value.int IntKind.u8 0, Value.int IntKind.u8 0, Value.int IntKind.u8 0, Value.int IntKind.u8 0, Value.int IntKind.u8 0, Value.int IntKind.u8 0, Value.int IntKind.u8 0, Value.int IntKind.u8 0, Value.int IntKind.u8 0, Value.int IntKind.u8 0, Value.int IntKind.u8 0]), 32, 32))
 i146 := Eq.refl (some (some (Value.tuple #[Value.int IntKind.u32 0, Value.int IntKind.u32 0]), 1, 0))
 m1 := by kernel_rfl
 s1_3 := fun w h => cell_of_shapedOpen_int (zero := #[.int .i64 0]) (t := 3) h (of_decide_eq_true (by kernel_rfl)) (by kernel_rfl) rfl (by kernel_rfl) (by kernel_rfl) Go.Proofs.Tryz.underlying3
 m3 := by kernel_rfl
 m4 := by kernel_rfl
def ren103 : Ren :=
 {
  f := fun x =>
   match x with
   | 103 => 34
   | 210 => 55
   | 206 => 72
   | n => n,
  t := fun x =>
   match x with
   | 9 => 9
   | 4 => 4
   | 24 => 68
   | 3 => 3
   | n => n,
  g := fun n => n }
theorem lay103 : Lays.n103 Go.Proofs.Tryz.prog ren103 where
 mixed := by kernel_rfl
 f103 := Eq.trans Go.Proofs.Tryz.func34 (congrArg some (by kernel_rfl))
 f206 := Eq.trans Go.Proofs.Tryz.func72 (congrArg some (by kernel_rfl))
 f210 := Eq.trans Go.Proofs.Tryz.func55 (congrArg some (by kernel_rfl))
 t3 := Go.Proofs.Tryz.underlying3
 a3 := Go.Proofs.Tryz.isAgg3
 z3 := Go.Proofs.Tryz.sizeOf3
 v3 := Go.Proofs.Tryz.zeroValue3
 t4 := Go.Proofs.Tryz.underlying4
 a4 := Go.Proofs.Tryz.isAgg4
 z4 := Go.Proofs.Tryz.sizeOf4
 v4 := Go.Proofs.Tryz.zeroValue4
 t9 := Go.Proofs.Tryz.underlying9
 a9 := Go.Proofs.Tryz.isAgg9
 z9 := Go.Proofs.Tryz.sizeOf9
 v9 := Go.Proofs.Tryz.zeroValue9
 t24 := Go.Proofs.Tryz.underlying68
 a24 := Go.Proofs.Tryz.isAgg68
 z24 := Go.Proofs.Tryz.sizeOf68
 v24 := Go.Proofs.Tryz.zeroValue68
def ren174 : Ren :=
 {
  f := fun x =>
   match x with
   | 174 => 56
   | 247 => 73
   | 245 => 74
   | 287 => 82
   | 279 => 83
   | 280 => 84
   | 281 => 85
   | 282 => 86
   | 321 => 98
   | 322 => 99
   | 316 => 100
   | 171 => 102
   | 205 => 101
   | 243 => 110
   | 246 => 75
   | 283 => 87
   | 284 => 88
   | 285 => 89
   | 286 => 90
   | 129 => 104
   | 317 => 103
   | 318 => 105
   | 319 => 106
   | 320 => 107
   | 337 => 111
   | 338 => 112
   | n => n,
  t := fun x =>
   match x with
   | 9 => 9
   | 3 => 3
   | 2 => 2
   | 75 => 94
   | 85 => 95
   | 4 => 4
   | 167 => 123
   | 5 => 5
   | 53 => 88
   | 175 => 124
   | 46 => 118
   | 168 => 126
   | 37 => 22
   | 0 => 0
   | 210 => 143
   | 21 => 21
   | 127 => 116
   | 145 => 159
   | 143 => 157
   | 171 => 130
   | 173 => 133
   | 212 => 146
   | 51 => 147
   | 20 => 20
   | 213 => 148
   | 232 => 161
   | 233 => 162
   | 80 => 104
   | n => n,
  g := fun x =>
   match x with
   | 15 => 1
   | 16 => 2
   | 17 => 3
   | 18 => 6
   | 19 => 7
   | n => n }
theorem lay174 : LaysC.n174 Go.Proofs.Tryz.prog ren174 where
 mixed := by kernel_rfl
 f129 := Eq.trans Go.Proofs.Tryz.func104 (congrArg some (by kernel_rfl))
 f171 := Eq.trans Go.Proofs.Tryz.func102 (congrArg some (by kernel_rfl))
 f174 := Eq.trans Go.Proofs.Tryz.func56 (congrArg some (by kernel_rfl))
 f205 := Eq.trans Go.Proofs.Tryz.func101 (congrArg some (by kernel_rfl))
 f243 := Eq.trans Go.Proofs.Tryz.func110 (congrArg some (by kernel_rfl))
 f245 := Eq.trans Go.Proofs.Tryz.func74 (congrArg some (by kernel_rfl))
 f246 := Eq.trans Go.Proofs.Tryz.func75 (congrArg some (by kernel_rfl))
 f247 := Eq.trans Go.Proofs.Tryz.func73 (congrArg some (by kernel_rfl))
 f279 := Eq.trans Go.Proofs.Tryz.func83 (congrArg some (by kernel_rfl))
 f280 := Eq.trans Go.Proofs.Tryz.func84 (congrArg some (by kernel_rfl))
 f281 := Eq.trans Go.Proofs.Tryz.func85 (congrArg some (by kernel_rfl))
 f282 := Eq.trans Go.Proofs.Tryz.func86 (congrArg some (by kernel_rfl))
 f283 := Eq.trans Go.Proofs.Tryz.func87 (congrArg some (by kernel_rfl))
 f284 := Eq.trans Go.Proofs.Tryz.func88 (congrArg some (by kernel_rfl))
 f285 := Eq.trans Go.Proofs.Tryz.func89 (congrArg some (by kernel_rfl))
 f286 := Eq.trans Go.Proofs.Tryz.func90 (congrArg some (by kernel_rfl))
 f287 := Eq.trans Go.Proofs.Tryz.func82 (congrArg some (by kernel_rfl))
 f316 := Eq.trans Go.Proofs.Tryz.func100 (congrArg some (by kernel_rfl))
 f317 := Eq.trans Go.Proofs.Tryz.func103 (congrArg some (by kernel_rfl))
 f318 := Eq.trans Go.Proofs.Tryz.func105 (congrArg some (by kernel_rfl))
 f319 := Eq.trans Go.Proofs.Tryz.func106 (congrArg some (by kernel_rfl))
 f320 := Eq.trans Go.Proofs.Tryz.func107 (congrArg some (by kernel_rfl))
 f321 := Eq.trans Go.Proofs.Tryz.func98 (congrArg some (by kernel_rfl))
 f322 := Eq.trans Go.Proofs.Tryz.func99 (congrArg some (by kernel_rfl))
 f337 := Eq.trans Go.Proofs.Tryz.func111 (congrArg some (by kernel_rfl))
 f338 := Eq.trans Go.Proofs.Tryz.func112 (congrArg some (by kernel_rfl))
 t0 := Go.Proofs.Tryz.underlying0
 a0 := Go.Proofs.Tryz.isAgg0
 z0 := Go.Proofs.Tryz.sizeOf0
 v0 := Go.Proofs.Tryz.zeroValue0
 t2 := Go.Proofs.Tryz.underlying2
 a2 := Go.Proofs.Tryz.isAgg2
 z2 := Go.Proofs.Tryz.sizeOf2
 v2 := Go.Proofs.Tryz.zeroValue2
 t3 := Go.Proofs.Tryz.underlying3
 a3 := Go.Proofs.Tryz.isAgg3
 z3 := Go.Proofs.Tryz.sizeOf3
 v3 := Go.Proofs.Tryz.zeroValue3
 t4 := Go.Proofs.Tryz.underlying4
 a4 := Go.Proofs.Tryz.isAgg4
 z4 := Go.Proofs.Tryz.sizeOf4
 v4 := Go.Proofs.Tryz.zeroValue4
 t5 := Go.Proofs.Tryz.underlying5
 a5 := Go.Proofs.Tryz.isAgg5
 z5 := Go.Proofs.Tryz.sizeOf5
 v5 := Go.Proofs.Tryz.zeroValue5
 t9 := Go.Proofs.Tryz.underlying9
 a9 := Go.Proofs.Tryz.isAgg9
 z9 := Go.Proofs.Tryz.sizeOf9
 v9 := Go.Proofs.Tryz.zeroValue9
 t20 := Go.Proofs.Tryz.underlying20
 a20 := Go.Proofs.Tryz.isAgg20
 z20 := Go.Proofs.Tryz.sizeOf20
 v20 := Go.Proofs.Tryz.zeroValue20
 t21 := Go.Proofs.Tryz.underlying21
 a21 := Go.Proofs.Tryz.isAgg21
 z21 := Go.Proofs.Tryz.sizeOf21
 v21 := Go.Proofs.Tryz.zeroValue21
 t37 := Go.Proofs.Tryz.underlying22
 a37 := Go.Proofs.Tryz.isAgg22
 z37 := Go.Proofs.Tryz.sizeOf22
 v37 := Go.Proofs.Tryz.zeroValue22
 t46 := Go.Proofs.Tryz.underlying118
 a46 := Go.Proofs.Tryz.isAgg118
 z46 := Go.Proofs.Tryz.sizeOf118
 v46 := Go.Proofs.Tryz.zeroValue118
 t51 := Go.Proofs.Tryz.underlying147
 a51 := Go.Proofs.Tryz.isAgg147
 z51 := Go.Proofs.Tryz.sizeOf147
 v51 := Go.Proofs.Tryz.zeroValue147
 t53 := Go.Proofs.Tryz.underlying88
 a53 := Go.Proofs.Tryz.isAgg88
 z53 := Go.Proofs.Tryz.sizeOf88
 v53 := Go.Proofs.Tryz.zeroValue88
 t75 := Go.Proofs.Tryz.underlying94
 a75 := Go.Proofs.Tryz.isAgg94
 z75 := Go.Proofs.Tryz.sizeOf94
 v75 := Go.Proofs.Tryz.zeroValue94
 t85 := Go.Proofs.Tryz.underlying95
 a85 := Go.Proofs.Tryz.isAgg95
 z85 := Go.Proofs.Tryz.sizeOf95
 v85 := Go.Proofs.Tryz.zeroValue95
 t127 := Go.Proofs.Tryz.underlying116
 a127 := Go.Proofs.Tryz.isAgg116
 z127 := Go.Proofs.Tryz.sizeOf116
 v127 := Go.Proofs.Tryz.zeroValue116
 t143 := Go.Proofs.Tryz.underlying157
 a143 := Go.Proofs.Tryz.isAgg157
 z143 := Go.Proofs.Tryz.sizeOf157
 v143 := Go.Proofs.Tryz.zeroValue157
 t145 := Go.Proofs.Tryz.underlying159
 a145 := Go.Proofs.Tryz.isAgg159
 z145 := Go.Proofs.Tryz.sizeOf159
 v145 := Go.Proofs.Tryz.zeroValue159
 t167 := Go.Proofs.Tryz.underlying123
 a167 := Go.Proofs.Tryz.isAgg123
 z167 := Go.Proofs.Tryz.sizeOf123
 v167 := Go.Proofs.Tryz.zeroValue123
 t168 := Go.Proofs.Tryz.underlying126
 a168 := Go.Proofs.Tryz.isAgg126
 z168 := Go.Proofs.Tryz.sizeOf126
 v168 := Go.Proofs.Tryz.zeroValue126
 t171 := Go.Proofs.Tryz.underlying130
 a171 := Go.Proofs.Tryz.isAgg130
 z171 := Go.Proofs.Tryz.sizeOf130
 v171 := Go.Proofs.Tryz.zeroValue130
 t173 := Go.Proofs.Tryz.underlying133
 a173 := Go.Proofs.Tryz.isAgg133
 z173 := Go.Proofs.Tryz.sizeOf133
 v173 := Go.Proofs.Tryz.zeroValue133
 t175 := Go.Proofs.Tryz.underlying124
 a175 := Go.Proofs.Tryz.isAgg124
 z175 := Go.Proofs.Tryz.sizeOf124
 v175 := Go.Proofs.Tryz.zeroValue124
 t210 := Go.Proofs.Tryz.underlying143
 a210 := Go.Proofs.Tryz.isAgg143
 z210 := Go.Proofs.Tryz.sizeOf143
 v210 := Go.Proofs.Tryz.zeroValue143
 t212 := Go.Proofs.Tryz.underlying146
 a212 := Go.Proofs.Tryz.isAgg146
 z212 := Go.Proofs.Tryz.sizeOf146
 v212 := Go.Proofs.Tryz.zeroValue146
 t213 := Go.Proofs.Tryz.underlying148
 a213 := Go.Proofs.Tryz.isAgg148
 z213 := Go.Proofs.Tryz.sizeOf148
 t232 := Go.Proofs.Tryz.underlying161
 a232 := Go.Proofs.Tryz.isAgg161
 z232 := Go.Proofs.Tryz.sizeOf161
 v232 := Go.Proofs.Tryz.zeroValue161
 t233 := Go.Proofs.Tryz.underlying162
 a233 := Go.Proofs.Tryz.isAgg162
 z233 := Go.Proofs.Tryz.sizeOf162
 v233 := Go.Proofs.Tryz.zeroValue162
 g15 := by kernel_rfl
 g16 := by kernel_rfl
 g17 := by kernel_rfl
 g18 := by kernel_rfl
 g19 := by kernel_rfl
 t80 := Go.Proofs.Tryz.underlying104
 a80 := Go.Proofs.Tryz.isAgg104
 z80 := Go.Proofs.Tryz.sizeOf104
 v80 := Go.Proofs.Tryz.zeroValue104
 i0 := Eq.refl (some (some (Value.tuple #[]), 1, 0))
 i2 := Eq.refl (some (some (Value.int IntKind.i64 0), 1, 8))
 i3 := Eq.refl (some (some (Value.int IntKind.i64 0), 1, 8))
 i4 := Eq.refl (some (some (Value.bool false), 1, 1))
 i5 := Eq.refl (some (some (Value.int IntKind.u8 0), 1, 1))
 i9 := Eq.refl (some (some (Value.string { data := #[] }), 1, 16))
 i20 := by kernel_rfl
 i21 := Eq.refl (some (some (Value.int IntKind.i32 0), 1, 4))
 i37 := Eq.refl (some (some (Value.slice none 0 0), 1, 24))
 i46 := Eq.refl (some (some (Value.int IntKind.u64 0), 1, 8))
 i51 := Eq.refl (some (some (Value.int IntKind.u32 0), 1, 4))
 i53 := Eq.refl (some (some (Value.int IntKind.u64 0), 1, 8))
 i75 := by kernel_rfl
 i80 := by kernel_rfl
 i85 := Eq.refl (some (some (Value.tuple #[Value.int IntKind.i64 0, Value.nilIface]), 1, 0))
 i127 := Eq.refl (some (some (Value.pointer none), 1, 8))
 i143 := Eq.refl (some (some (Value.pointer none), 1, 8))
 i145 := Eq.refl (some (some (Value.agg #[Value.string { data := #[] }]), 1, 16))
 i167 := Eq.refl (some (some (Value.int IntKind.i64 0), 1, 8))
 i168 := Eq.refl (some (some (Value.pointer none), 1, 8))
 i171 := Eq.refl (some (some (Value.agg #[Value.int IntKind.u8 0, Value.int IntKind.u8 0, Value.int IntKind.u8 0, Value.int IntKind.u8 0, Value.int IntKind.u8 0, Value.int IntKind.u8 0, Value.int IntKind.u8 0, Value.int IntKind.u8 0, Value.int IntKind.u8 0, Value.int IntKind.u8 0, Value.int IntKind.u8 0, Value.int IntKind.u8 0, Value.int IntKind.u8 0, Value.int IntKind.u8 0, Value.int IntKind.u8 0, Value.int IntKind.u8 0, Value.int IntKind.u8 0, Value.int IntKind.u8 0, Value.int IntKind.u8 0, Value.int IntKind.u8 0, Value.int IntKind.u8 0, Value.int IntKind.u8 0, Value.int IntKind.u8 0, Value.int IntKind.u8 0]), 24, 24))
 i173 := Eq.refl (some (some (Value.tuple #[Value.slice none 0 0, Value.string { data := #[] }]), 1, 0))
 i175 := Eq.refl (some (some (Value.tuple #[Value.int IntKind.u64 0, Value.nilIface]), 1, 0))
 i210 := Eq.refl (some (some (Value.agg #[Value.string { data := #[] }, Value.string { data := #[] }, Value.nilIface]), 3, 48))
 i212 := Eq.refl (some (some (Value.agg #[Value.int IntKind.u64 0, Value.int IntKind.u64 0, Value.int IntKind.u64 0, Value.int IntKind.u64 0, Value.int IntKind.u64 0, Value.int IntKind.u64 0, Value.int IntKind.u64 0, Value.int IntKind.u64 0, Value.int IntKind.u64 0, Value.int IntKind.u64 0, Value.int IntKind.u64 0, Value.int IntKind.u64 0, Value.int IntKind.u64 0, Value.int IntKind.u64 0, Value.int IntKind.u64 0, Value.int IntKind.u64 0, Value.int IntKind.u64 0, Value.int IntKind.u64 0, Value.int IntKind.u64 0, Value.int IntKind.u64 0]), 20, 160))
 i232 := Eq.refl (some (some (Value.agg #[Value.int IntKind.u8 0, Value.int IntKind.u8 0, Value.int IntKind.u8 0, Value.int IntKind.u8 0, Value.int IntKind.u8 0, Value.int IntKind.u8 0, Value.int IntKind.u8 0, Value.int IntKind.u8 0, Value.int IntKind.u8 0, Value.int IntKind.u8 0, Value.int IntKind.u8 0, Value.int IntKind.u8 0, Value.int IntKind.u8 0, Value.int IntKind.u8 0, Value.int IntKind.u8 0, Value.int IntKind.u8 0, Value.int IntKind.u8 0, Value.int IntKind.u8 0, Value.int IntKind.u8 0, Value.int IntKind.u8 0, Value.int IntKind.u8 0, Value.int IntKind.u8 0, Value.int IntKind.u8 0, Value.int IntKind.u8 0, Value.int IntKind.u8 0, Value.int IntKind.u8 0, Value.int IntKind.u8 0, Value.int IntKind.u8 0, Value.int IntKind.u8 0, Value.int IntKind.u8 0, Value.int IntKind.u8 0, Value.int IntKind.u8 0]), 32, 32))
 i233 := Eq.refl (some (some (Value.agg (let y := let y := let y := let y := [Value.int IntKind.u8 0, Value.int IntKind.u8 0, Value.int IntKind.u8 0, Value.int IntKind.u8 0]; Value.int IntKind.u8 0 :: Value.int IntKind.u8 0 :: Value.int IntKind.u8 0 :: Value.int IntKind.u8 0 :: y; let y := Value.int IntKind.u8 0 :: Value.int IntKind.u8 0 :: Value.int IntKind.u8 0 :: Value.int IntKind.u8 0 :: y; Value.int IntKind.u8 0 :: Value.int IntKind.u8 0 :: Value.int IntKind.u8 0 :: Value.int IntKind.u8 0 :: y; let y := let y := Value.int IntKind.u8 0 :: Value.int IntKind.u8 0 :: Value.int IntKind.u8 0 :: Value.int IntKind.u8 0 :: y; Value.int IntKind.u8 0 :: Value.int IntKind.u8 0 :: Value.int IntKind.u8 0 :: Value.int IntKind.u8 0 :: y; let y := Value.int IntKind.u8 0 :: Value.int IntKind.u8 0 :: Value.int IntKind.u8 0 :: Value.int IntKind.u8 0 :: y; Value.int IntKind.u8 0 :: Value.int IntKind.u8 0 :: Value.int IntKind.u8 0 :: Value.int IntKind.u8 0 :: y; let y := let y := let y := Value.int IntKind.u8 0 :: Value.int IntKind.u8 0 :: Value.int IntKind.u8 0 :: Value.int IntKind.u8 0 :: y; Value.int IntKind.u8 0 :: Value.int IntKind.u8 0 :: Value.int IntKind.u8 0 :: Value.int IntKind.u8 0 :: y; let y := Value.int IntKind.u8 0 :: Value.int IntKind.u8 0 :: Value.int IntKind.u8 0 :: Value.int IntKind.u8 0 :: y; Value.int IntKind.u8 0 :: Value.int IntKind.u8 0 :: Value.int IntKind.u8 0 :: Value.int IntKind.u8 0 :: y; let y := let y := Value.int IntKind.u8 0 :: Value.int IntKind.u8 0 :: Value.int IntKind.u8 0 :: Value.int IntKind.u8 0 :: y; Value.int IntKind.u8 0 :: Value.int IntKind.u8 0 :: Value.int IntKind.u8 0 :: Value.int IntKind.u8 0 :: y; let y := Value.int IntKind.u8 0 :: Value.int IntKind.u8 0 :: Value.int IntKind.u8 0 :: Value.int IntKind.u8 0 :: y; Value.int IntKind.u8 0 :: Value.int IntKind.u8 0 :: Value.int IntKind.u8 0 :: Value.int IntKind.u8 0 :: y).toArray), 64, 64))
 m15 := by kernel_rfl
 m16 := by kernel_rfl
 m17 := by kernel_rfl
 m18 := by kernel_rfl
 m19 := by kernel_rfl
 c0 := Eq.refl (some false)
 c2 := Eq.refl (some true)
 c3 := Eq.refl (some true)
 c4 := Eq.refl (some true)
 c5 := Eq.refl (some true)
 c9 := Eq.refl (some true)
 c20 := Eq.refl (some true)
 c21 := Eq.refl (some true)
 c37 := Eq.refl (some false)
 c46 := Eq.refl (some true)
 c51 := Eq.refl (some true)
 c53 := Eq.refl (some true)
 c75 := Eq.refl (some true)
 c80 := Eq.refl (some false)
 c85 := Eq.refl (some false)
 c127 := Eq.refl (some true)
 c143 := Eq.refl (some true)
 c145 := Eq.refl (some true)
 c167 := Eq.refl (some true)
 c168 := Eq.refl (some true)
 c171 := Eq.refl (some true)
 c173 := Eq.refl (some false)
 c175 := Eq.refl (some false)
 c210 := Eq.refl (some true)
 c212 := Eq.refl (some true)
 c213 := Eq.refl (some true)
 c232 := Eq.refl (some true)
 c233 := Eq.refl (some true)
def renM173 : Ren :=
 {
  f := fun x =>
   match x with
   | 173 => 57
   | 246 => 75
   | 283 => 87
   | 284 => 88
   | 285 => 89
   | 286 => 90
   | 129 => 104
   | 317 => 103
   | 318 => 105
   | 319 => 106
   | 320 => 107
   | 337 => 111
   | 338 => 112
   | n => n,
  t := fun x =>
   match x with
   | 2 => 2
   | 3 => 3
   | 9 => 9
   | 4 => 4
   | 171 => 130
   | 0 => 0
   | 53 => 88
   | 37 => 22
   | 5 => 5
   | 173 => 133
   | 212 => 146
   | 51 => 147
   | 20 => 20
   | 213 => 148
   | 46 => 118
   | 232 => 161
   | 233 => 162
   | n => n,
  g := fun x =>
   match x with
   | 17 => 3
   | 18 => 6
   | 19 => 7
   | n => n }
theorem layM173 : LaysM.n173 Go.Proofs.Tryz.prog renM173 where
 mixed := by kernel_rfl
 f129 := Eq.trans Go.Proofs.Tryz.func104 (congrArg some (by kernel_rfl))
 f173 := Eq.trans Go.Proofs.Tryz.func57 (congrArg some (by kernel_rfl))
 f246 := Eq.trans Go.Proofs.Tryz.func75 (congrArg some (by kernel_rfl))
 f283 := Eq.trans Go.Proofs.Tryz.func87 (congrArg some (by kernel_rfl))
 f284 := Eq.trans Go.Proofs.Tryz.func88 (congrArg some (by kernel_rfl))
 f285 := Eq.trans Go.Proofs.Tryz.func89 (congrArg some (by kernel_rfl))
 f286 := Eq.trans Go.Proofs.Tryz.func90 (congrArg some (by kernel_rfl))
 f317 := Eq.trans Go.Proofs.Tryz.func103 (congrArg some (by kernel_rfl))
 f318 := Eq.trans Go.Proofs.Tryz.func105 (congrArg some (by kernel_rfl))
 f319 := Eq.trans Go.Proofs.Tryz.func106 (congrArg some (by kernel_rfl))
 f320 := Eq.trans Go.Proofs.Tryz.func107 (congrArg some (by kernel_rfl))
 f337 := Eq.trans Go.Proofs.Tryz.func111 (congrArg some (by kernel_rfl))
 f338 := Eq.trans Go.Proofs.Tryz.func112 (congrArg some (by kernel_rfl))
 t0 := Go.Proofs.Tryz.underlying0
 a0 := Go.Proofs.Tryz.isAgg0
 z0 := Go.Proofs.Tryz.sizeOf0
 v0 := Go.Proofs.Tryz.zeroValue0
 t2 := Go.Proofs.Tryz.underlying2
 a2 := Go.Proofs.Tryz.isAgg2
 z2 := Go.Proofs.Tryz.sizeOf2
 v2 := Go.Proofs.Tryz.zeroValue2
 t3 := Go.Proofs.Tryz.underlying3
 a3 := Go.Proofs.Tryz.isAgg3
 z3 := Go.Proofs.Tryz.sizeOf3
 v3 := Go.Proofs.Tryz.zeroValue3
 t4 := Go.Proofs.Tryz.underlying4
 a4 := Go.Proofs.Tryz.isAgg4
 z4 := Go.Proofs.Tryz.sizeOf4
 v4 := Go.Proofs.Tryz.zeroValue4
 t5 := Go.Proofs.Tryz.underlying5
 a5 := Go.Proofs.Tryz.isAgg5
 z5 := Go.Proofs.Tryz.sizeOf5
 v5 := Go.Proofs.Tryz.zeroValue5
 t9 := Go.Proofs.Tryz.underlying9
 a9 := Go.Proofs.Tryz.isAgg9
 z9 := Go.Proofs.Tryz.sizeOf9
 v9 := Go.Proofs.Tryz.zeroValue9
 t20 := Go.Proofs.Tryz.underlying20
 a20 := Go.Proofs.Tryz.isAgg20
 z20 := Go.Proofs.Tryz.sizeOf20
 v20 := Go.Proofs.Tryz.zeroValue20
 t37 := Go.Proofs.Tryz.underlying22
 a37 := Go.Proofs.Tryz.isAgg22
 z37 := Go.Proofs.Tryz.sizeOf22
 v37 := Go.Proofs.Tryz.zeroValue22
 t46 := Go.Proofs.Tryz.underlying118
 a46 := Go.Proofs.Tryz.isAgg118
 z46 := Go.Proofs.Tryz.sizeOf118
 v46 := Go.Proofs.Tryz.zeroValue118
 t51 := Go.Proofs.Tryz.underlying147
 a51 := Go.Proofs.Tryz.isAgg147
 z51 := Go.Proofs.Tryz.sizeOf147
 v51 := Go.Proofs.Tryz.zeroValue147
 t53 := Go.Proofs.Tryz.underlying88
 a53 := Go.Proofs.Tryz.isAgg88
 z53 := Go.Proofs.Tryz.sizeOf88
 v53 := Go.Proofs.Tryz.zeroValue88
 t171 := Go.Proofs.Tryz.underlying130
 a171 := Go.Proofs.Tryz.isAgg130
 z171 := Go.Proofs.Tryz.sizeOf130
 v171 := Go.Proofs.Tryz.zeroValue130
 t173 := Go.Proofs.Tryz.underlying133
 a173 := Go.Proofs.Tryz.isAgg133
 z173 := Go.Proofs.Tryz.sizeOf133
 v173 := Go.Proofs.Tryz.zeroValue133
 t212 := Go.Proofs.Tryz.underlying146
 a212 := Go.Proofs.Tryz.isAgg146
 z212 := Go.Proofs.Tryz.sizeOf146
 v212 := Go.Proofs.Tryz.zeroValue146
 t213 := Go.Proofs.Tryz.underlying148
 a213 := Go.Proofs.Tryz.isAgg148
 z213 := Go.Proofs.Tryz.sizeOf148
 t232 := Go.Proofs.Tryz.underlying161
 a232 := Go.Proofs.Tryz.isAgg161
 z232 := Go.Proofs.Tryz.sizeOf161
 v232 := Go.Proofs.Tryz.zeroValue161
 t233 := Go.Proofs.Tryz.underlying162
 a233 := Go.Proofs.Tryz.isAgg162
 z233 := Go.Proofs.Tryz.sizeOf162
 v233 := Go.Proofs.Tryz.zeroValue162
 g17 := by kernel_rfl
 g18 := by kernel_rfl
 g19 := by kernel_rfl
 i0 := Eq.refl (some (some (Value.tuple #[]), 1, 0))
 i2 := Eq.refl (some (some (Value.int IntKind.i64 0), 1, 8))
 i3 := Eq.refl (some (some (Value.int IntKind.i64 0), 1, 8))
 i4 := Eq.refl (some (some (Value.bool false), 1, 1))
 i5 := Eq.refl (some (some (Value.int IntKind.u8 0), 1, 1))
 i9 := Eq.refl (some (some (Value.string { data := #[] }), 1, 16))
 i20 := by kernel_rfl
 i37 := Eq.refl (some (some (Value.slice none 0 0), 1, 24))
 i46 := Eq.refl (some (some (Value.int IntKind.u64 0), 1, 8))
 i51 := Eq.refl (some (some (Value.int IntKind.u32 0), 1, 4))
 i53 := Eq.refl (some (some (Value.int IntKind.u64 0), 1, 8))
 i171 := Eq.refl (some (some (Value.agg #[Value.int IntKind.u8 0, Value.int IntKind.u8 0, Value.int IntKind.u8 0, Value.int IntKind.u8 0, Value.int IntKind.u8 0, Value.int IntKind.u8 0, Value.int IntKind.u8 0, Value.int IntKind.u8 0, Value.int IntKind.u8 0, Value.int IntKind.u8 0, Value.int IntKind.u8 0, Value.int IntKind.u8 0, Value.int IntKind.u8 0, Value.int IntKind.u8 0, Value.int IntKind.u8 0, Value.int IntKind.u8 0, Value.int IntKind.u8 0, Value.int IntKind.u8 0, Value.int IntKind.u8 0, Value.int IntKind.u8 0, Value.int IntKind.u8 0, Value.int IntKind.u8 0, Value.int IntKind.u8 0, Value.int IntKind.u8 0]), 24, 24))
 i173 := Eq.refl (some (some (Value.tuple #[Value.slice none 0 0, Value.string { data := #[] }]), 1, 0))
 i212 := Eq.refl (some (some (Value.agg #[Value.int IntKind.u64 0, Value.int IntKind.u64 0, Value.int IntKind.u64 0, Value.int IntKind.u64 0, Value.int IntKind.u64 0, Value.int IntKind.u64 0, Value.int IntKind.u64 0, Value.int IntKind.u64 0, Value.int IntKind.u64 0, Value.int IntKind.u64 0, Value.int IntKind.u64 0, Value.int IntKind.u64 0, Value.int IntKind.u64 0, Value.int IntKind.u64 0, Value.int IntKind.u64 0, Value.int IntKind.u64 0, Value.int IntKind.u64 0, Value.int IntKind.u64 0, Value.int IntKind.u64 0, Value.int IntKind.u64 0]), 20, 160))
 i232 := Eq.refl (some (some (Value.agg #[Value.int IntKind.u8 0, Value.int IntKind.u8 0, Value.int IntKind.u8 0, Value.int IntKind.u8 0, Value.int IntKind.u8 0, Value.int IntKind.u8 0, Value.int IntKind.u8 0, Value.int IntKind.u8 0, Value.int IntKind.u8 0, Value.int IntKind.u8 0, Value.int IntKind.u8 0, Value.int IntKind.u8 0, Value.int IntKind.u8 0, Value.int IntKind.u8 0, Value.int IntKind.u8 0, Value.int IntKind.u8 0, Value.int IntKind.u8 0, Value.int IntKind.u8 0, Value.int IntKind.u8 0, Value.int IntKind.u8 0, Value.int IntKind.u8 0, Value.int IntKind.u8 0, Value.int IntKind.u8 0, Value.int IntKind.u8 0, Value.int IntKind.u8 0, Value.int IntKind.u8 0, Value.int IntKind.u8 0, Value.int IntKind.u8 0, Value.int IntKind.u8 0, Value.int IntKind.u8 0, Value.int IntKind.u8 0, Value.int IntKind.u8 0]), 32, 32))
 i233 := Eq.refl (some (some (Value.agg (let y := let y := let y := let y := [Value.int IntKind.u8 0, Value.int IntKind.u8 0, Value.int IntKind.u8 0, Value.int IntKind.u8 0]; Value.int IntKind.u8 0 :: Value.int IntKind.u8 0 :: Value.int IntKind.u8 0 :: Value.int IntKind.u8 0 :: y; let y := Value.int IntKind.u8 0 :: Value.int IntKind.u8 0 :: Value.int IntKind.u8 0 :: Value.int IntKind.u8 0 :: y; Value.int IntKind.u8 0 :: Value.int IntKind.u8 0 :: Value.int IntKind.u8 0 :: Value.int IntKind.u8 0 :: y; let y := let y := Value.int IntKind.u8 0 :: Value.int IntKind.u8 0 :: Value.int IntKind.u8 0 :: Value.int IntKind.u8 0 :: y; Value.int IntKind.u8 0 :: Value.int IntKind.u8 0 :: Value.int IntKind.u8 0 :: Value.int IntKind.u8 0 :: y; let y := Value.int IntKind.u8 0 :: Value.int IntKind.u8 0 :: Value.int IntKind.u8 0 :: Value.int IntKind.u8 0 :: y; Value.int IntKind.u8 0 :: Value.int IntKind.u8 0 :: Value.int IntKind.u8 0 :: Value.int IntKind.u8 0 :: y; let y := let y := let y := Value.int IntKind.u8 0 :: Value.int IntKind.u8 0 :: Value.int IntKind.u8 0 :: Value.int IntKind.u8 0 :: y; Value.int IntKind.u8 0 :: Value.int IntKind.u8 0 :: Value.int IntKind.u8 0 :: Value.int IntKind.u8 0 :: y; let y := Value.int IntKind.u8 0 :: Value.int IntKind.u8 0 :: Value.int IntKind.u8 0 :: Value.int IntKind.u8 0 :: y; Value.int IntKind.u8 0 :: Value.int IntKind.u8 0 :: Value.int IntKind.u8 0 :: Value.int IntKind.u8 0 :: y; let y := let y := Value.int IntKind.u8 0 :: Value.int IntKind.u8 0 :: Value.int IntKind.u8 0 :: Value.int IntKind.u8 0 :: y; Value.int IntKind.u8 0 :: Value.int IntKind.u8 0 :: Value.int IntKind.u8 0 :: Value.int IntKind.u8 0 :: y; let y := Value.int IntKind.u8 0 :: Value.int IntKind.u8 0 :: Value.int IntKind.u8 0 :: Value.int IntKind.u8 0 :: y; Value.int IntKind.u8 0 :: Value.int IntKind.u8 0 :: Value.int IntKind.u8 0 :: Value.int IntKind.u8 0 :: y).toArray), 64, 64))
 m17 := by kernel_rfl
 m18 := by kernel_rfl
 m19 := by kernel_rfl
end Go.Proofs.YtpbomchjcgndoaaGreatDoor.Arr
namespace Go.Proofs.YtpbomchjcgndoaaGreatDoor.Arr
open Go.RowKit Go.Proofs.YtpbomchjcgndoaaGreatDoorW.PrintWords Go.Proofs.YtpbomchjcgndoaaGreatDoor.U
set_option linter.unusedVariables false
set_option linter.unusedSimpArgs false
section
variable {P : Program} (w : World)
theorem run_partA {t : TypeId} {k : IntKind} {L : List Int} {i m : Nat} (h1 : AggTy P t m) : (part t (vals k L) i).run P w = .ok (.agg (vals k ((L.drop i).take m))) w := by
 obtain ⟨hd, hi⟩ := h1
 have hagg : (isAgg t).run P w = .ok true w := by
  unfold isAgg
  cases hu : P.underlying t with
  | none => simp [hu] at hd
  | some d =>
   rw [Sem.run_bind, run_underlying hu w]
   cases d <;> simp_all
 have hsz : (sizeOf t).run P w = .ok m w := by
  cases hq : P.info? t with
  | none => simp [hq] at hi
  | some i => simp [sizeOf, typeInfo, hq, Sem.run_bind]; simpa [hq] using hi
 simp [part, Sem.run_bind, hagg, hsz, vals_extract, List.drop_take]
end
end Go.Proofs.YtpbomchjcgndoaaGreatDoor.Arr
namespace Go.Proofs.YtpbomchjcgndoaaGreatDoor.Arr
open Go.RowKit Go.Proofs.YtpbomchjcgndoaaGreatDoor.U Go.Proofs.YtpbomchjcgndoaaGreatDoorW.PrintWords
set_option linter.unusedVariables false
set_option linter.unusedSimpArgs false
def PartTy (P : Program) (t : TypeId) (f off m : Nat) : Prop := ∃ (fs : Array Field) (fd : Field), P.underlying t = some (.struct fs) ∧ fs[f]? = some fd ∧ fd.offset = off ∧ AggTy P fd.type m
section
variable {P : Program} {ops : Array Oper} {rest : List Oper} {o : Oper} {a : Act} {w : World} {Q : Exit → Act → World → Prop} {dst : Option Tmp} {x : Operand} {tt : TypeId} {pos : String} {after : Array Edge} {g : Option (Nat × Bool)}
theorem st_fieldv (hgd : o.guard = none) (ty : TypeId) (x : Operand) (f : Nat) (ho : o.op = .field ty x f) {k : IntKind} {L S : List Int} {off m : Nat} (hx : a.eval x = .agg (vals k L)) (hf : PartTy P ty f off m) (hS : (L.drop off).take m = S)
  (h : wpList P ops Q rest (a.put o.dst (.agg (vals k S))) w) : wpList P ops Q (o :: rest) a w := by
 obtain ⟨fs, fd, hu, hfd, ho2, ha⟩ := hf
 subst ho2
 subst hS
 refine wpList_plain hgd fun K hK => ?_
 unfold Oper.wp execOp
 simp only [ho, hx, Instr.field, asAgg, Sem.run_bind, Sem.run_pure, Result.andThen_ok, run_underlying hu w, hfd, run_partA w ha]
 exact hK _ _ h
theorem gt_fieldv (ty f : Nat) (h : wpList P ops Q (⟨dst, .field ty x f, tt, pos, after, g⟩ :: rest) a w) : wpList P ops Q (⟨dst, .field ty x f, tt, pos, after, g⟩ :: rest) a w := h
end
theorem partP0 : PartTy Tryz.prog 78 0 0 40 := ⟨_, _, Tryz.underlying78, rfl, rfl, agg75⟩
theorem partP1 : PartTy Tryz.prog 78 1 40 4 := ⟨_, _, Tryz.underlying78, rfl, rfl, agg76⟩
def entOf (w : World) (b k : Nat) : Option Ent := if b ≤ k then (match w.heap[k]? with | some (.cells cs t (0, 0)) => some ⟨k, cs, t, true⟩ | _ => none) else none
def newEnts (w : World) (b : Nat) : List Ent := (List.range w.heap.size).filterMap (entOf w b)
end Go.Proofs.YtpbomchjcgndoaaGreatDoor.Arr
namespace Go.Proofs.YtpbomchjcgndoaaGreatDoor.Arr
open Go.RowKit Go.Proofs.YtpbomchjcgndoaaGreatDoorW.PrintWords Go.Proofs.YtpbomchjcgndoaaGreatDoorW.PrintLast Go.Proofs.YtpbomchjcgndoaaGreatDoorW.PrintMore Go.Proofs.YtpbomchjcgndoaaGreatDoor.U Go.Proofs.YtpbomchjcgndoaaGreatDoor.N
set_option linter.unusedVariables false
set_option linter.unusedSimpArgs false
abbrev txs (l : List (List UInt8)) : List ByteArray := l.map fun x => ⟨x.toArray⟩
theorem txt_cell {W : World} {bk n : Nat} {xs : List ByteArray} (h : Kd.C Kd.string W (some ⟨bk, 0, none⟩) n xs) {j : Nat} {y : ByteArray} (hj : xs[j]? = some y) : W.cell? ⟨bk, 0 + j, none⟩ = some (.string y) := by
 have hl := (List.getElem?_eq_some_iff.1 hj).1
 obtain ⟨hn, _, h3⟩ := h
 obtain ⟨ad, e2, hcell⟩ := h3 (by omega)
 cases e2
 obtain ⟨cs, _, hk, hq⟩ := hcell j _ hj
 have hk : cs = [Value.string y] := hk
 have := hq 0 _ (by rw [hk]; rfl)
 rcases Nat.eq_zero_or_pos j with h0 | h0
 ·subst h0
  simpa [Addr.add, Kd.string, Kd.scalar] using this
 ·have hj0 : ¬ j = 0 := by omega
  simpa [Addr.add, Kd.string, Kd.scalar, hj0] using this
theorem FrBelow.read {w w1 : World} (h : Below w.heap.size w w1) {p : Addr} {v : Value} (hc : w.cell? p = some v) : w1.cell? p = some v :=
 (World.cell?_of_block (w := w) (h.block p.block (World.block_lt_of_cell? w _ hc))).trans hc
theorem Below.drawn3 {B : Nat} {a w : World} (h : Below B a w) (n : Nat) : Below B a (w.drewN n) := h.trans ⟨rfl, rfl, rfl, Nat.le_refl _, fun _ _ => rfl⟩
structure Door (w : World) : Prop where
 len : ∃ m, w.cell? ⟨ren146.g 1, 0, none⟩ = some (.int .i64 m)
 syn : ∃ te pe, w.cell? ⟨ren174.g 15, 0, none⟩ = some (.iface te pe)
 rng : ∃ te pe, w.cell? ⟨ren174.g 16, 0, none⟩ = some (.iface te pe)
 pow : Lib.TabIs Tryz.prog w "internal/strconv.uint64pow10" .u64 Lib.pow10Tab
theorem Door.below {w w1 : World} (h : Door w) (hb : Below w.heap.size w w1) : Door w1 := by
 obtain ⟨⟨m, h1⟩, ⟨a, b, h2⟩, ⟨c, d, h3⟩, h4⟩ := h
 exact ⟨⟨m, FrBelow.read hb h1⟩, ⟨a, b, FrBelow.read hb h2⟩, ⟨c, d, FrBelow.read hb h3⟩, Go.Joins.tab_stays (g := ren174.g 17) (by kernel_rfl) h4 hb (Nat.le_refl _)⟩
theorem parse_ok (l : List UInt8) (hl : l.length ≤ 1048576) (w : World) (v : Int) (hx : Lib.parseIntB 64 l = .ok v) :
  Calls Tryz.prog 56 #[.string ⟨l.toArray⟩, .int .i64 10, .int .i64 64] w fun e w' => e = .returned (.tuple #[.int .i64 v, .nilIface]) ∧ Below w.heap.size w w' := by
 have hs : (⟨l.toArray⟩ : ByteArray).size = l.length := bs_size l
 have hd : (⟨l.toArray⟩ : ByteArray).data.toList = l := by simp
 refine (Any.strconv_ParseInt_10_at64_ok lay174 ⟨l.toArray⟩ (by omega) v (by rw [hd]; exact hx) w).mono ?_
 rintro e w' ⟨rfl, hw⟩
 refine ⟨rfl, ?_⟩
 rcases hw with rfl | ⟨t, rfl⟩
 ·exact Below.refl _ _
 ·exact Lib.bytesWorld_below _ _ _
theorem parse_no (l : List UInt8) (hl : l.length ≤ 1048576) (w : World) (hD : Door w) (hx : ∀ v : Int, Lib.parseIntB 64 l ≠ .ok v) :
  Calls Tryz.prog 56 #[.string ⟨l.toArray⟩, .int .i64 10, .int .i64 64] w fun e w' => ∃ (n : Int) (t : TypeId) (p : Value), e = .returned (.tuple #[.int .i64 n, .iface t p]) ∧ Below w.heap.size w w' := by
 have hs : (⟨l.toArray⟩ : ByteArray).size = l.length := bs_size l
 have hd : (⟨l.toArray⟩ : ByteArray).data.toList = l := by simp
 rcases hy : Lib.parseIntB 64 l with v | _ | _
 ·exact absurd hy (hx v)
 ·obtain ⟨te, pe, hc⟩ := hD.syn
  refine (Any.strconv_ParseInt_10_at64_syntax lay174 ⟨l.toArray⟩ (by omega) (by rw [hd]; exact hy) (.iface te pe) w hc (Or.inr ⟨te, pe, rfl⟩)).mono ?_
  rintro e w' ⟨N, rfl, _, _, hb⟩
  exact ⟨_, _, _, rfl, hb⟩
 ·obtain ⟨te, pe, hc⟩ := hD.rng
  refine (Any.strconv_ParseInt_10_at64_range lay174 ⟨l.toArray⟩ (by omega) (by rw [hd]; exact hy) (.iface te pe) w hc (Or.inr ⟨te, pe, rfl⟩)).mono ?_
  rintro e w' ⟨N, rfl, _, _, hb⟩
  exact ⟨_, _, _, rfl, hb⟩
theorem decimalA_calls (v : Int) (h0 : -9223372036854775808 ≤ v) (h1 : v ≤ 9223372036854775807) (w : World) (hD : Door w) :
  Calls Tryz.prog 37 #[.int .i64 v] w fun e w' => e = .returned (.string ⟨(Lib.itoa v).toArray⟩) ∧ Below w.heap.size w w' := by
 have HF := Aside0.mk (Any.strconv_FormatInt_10 layM173 v h0 h1 w hD.pow)
 go_enter Tryz.func37, Tryz.ntmps37
 go_wp2_with (go_at_call 57; refine HF.out.mono ?_; rintro e w1 ⟨rfl, k, os, rfl⟩)
 go_ret
 exact ⟨rfl, Go.Lib.below_grow _ _ (Nat.le_refl _) _ _⟩
set_option maxHeartbeats 4000000 in
set_option maxRecDepth 100000 in
theorem number_calls (l : List UInt8) (hl : l.length ≤ 1048576) (most : Nat) (hm : most < 100) (w : World) (hD : Door w) :
  Calls Tryz.prog 35 #[.string ⟨l.toArray⟩, .int .i64 (most : Int)] w fun e w' =>
   e = .returned (.tuple #[.int .i64 (((numI most l).getD 0 : Nat) : Int), .bool (numI most l).isSome]) ∧ Below w.heap.size w w' := by
 by_cases hp : ∃ v : Int, Lib.parseIntB 64 l = .ok v
 ·obtain ⟨v, hv⟩ := hp
  have HP := Aside0.mk (fun W => parse_ok l hl W v hv)
  have hbd := Go.Lib.parseIntB_bounds hv
  have hb1 := hbd.1
  have hb2 := hbd.2
  have hN := numI_ok hm hv
  have HD := Aside0.mk (fun W hW => decimalA_calls v (by omega) (by omega) W hW)
  clear hbd hv
  go_enter Tryz.func35, Tryz.ntmps35
  have HW := Aside0.mk (fun W => impl_within.calls v 0 (most : Int) (decide (0 ≤ v ∧ v ≤ (most : Int))) W (by
   unfold impl_within.f
   by_cases h : 0 ≤ v <;> simp [h]))
  go_wp2_with (first
   | (go_at_call 56; refine (HP.out _).mono ?_; rintro e w1 ⟨rfl, hb1⟩)
   | (go_at_call 37; refine (HD.out _ (hD.below hb1)).mono ?_; rintro e w2 ⟨rfl, hb2⟩)
   | (go_at_call 36; refine (HW.out _).mono ?_; rintro e w3 ⟨rfl, n3, rfl⟩))
  ·rename_i he h2
   go_ret2
   simp only [Bool.not_eq_true', decide_eq_false_iff_not] at h2
   rw [hN.2 (by omega)]
   exact ⟨rfl, Below.drawn3 (hb1.trans (hb2.mono hb1.size)) n3⟩
  ·rename_i he h2
   go_ret2
   simp only [Bool.not_eq_false', decide_eq_true_eq] at h2
   rw [hN.1 ⟨he, h2⟩, Option.getD_some, Int.toNat_of_nonneg h2.1]
   exact ⟨rfl, Below.drawn3 (hb1.trans (hb2.mono hb1.size)) n3⟩
  ·rename_i he
   go_ret2
   rw [hN.2 (fun h => he h.1)]
   exact ⟨rfl, hb1.trans (hb2.mono hb1.size)⟩
 ·have hp' : ∀ v : Int, Lib.parseIntB 64 l ≠ .ok v := fun v h => hp ⟨v, h⟩
  have HP := Aside0.mk (fun W hW => parse_no l hl W hW hp')
  have hN := numI_none hm hp'
  rw [hN]
  clear hp hp'
  go_enter Tryz.func35, Tryz.ntmps35
  go_wp2_with (go_at_call 56; refine (HP.out _ hD).mono ?_; rintro e w1 ⟨n, t, p, rfl, hb1⟩)
  go_ret2
  exact ⟨rfl, hb1⟩
end Go.Proofs.YtpbomchjcgndoaaGreatDoor.Arr
namespace Go.Proofs.YtpbomchjcgndoaaGreatDoor.Arr
open Go.RowKit Go.Proofs.YtpbomchjcgndoaaGreatDoorW.PrintWords Go.Proofs.YtpbomchjcgndoaaGreatDoorW.PrintLast Go.Proofs.YtpbomchjcgndoaaGreatDoorW.PrintMore Go.Proofs.YtpbomchjcgndoaaGreatDoor.U Go.Proofs.YtpbomchjcgndoaaGreatDoor.N
set_option linter.unusedVariables false
set_option linter.unusedSimpArgs false
def wdH (x : Int) : List UInt8 := if x = -10 then [47] else if x < 0 then [115] ++ dg (-x).toNat else dg x.toNat
def hoistT (h : List Int) : List UInt8 := Lib.join (h.map wdH) [32]
theorem flag_fin : ∀ n : Fin 40, Lib.trimPrefix (dg n.val) [115] = dg n.val ∧ Lib.hasPrefix (dg n.val) [115] = false ∧ dg n.val ≠ [47] ∧ ((dg n.val).all fun x => x != 32) = true := by decide +kernel
theorem sub_fin : ∀ n : Fin 5, Lib.trimPrefix ([115] ++ dg n.val) [115] = dg n.val ∧ Lib.hasPrefix ([115] ++ dg n.val) [115] = true ∧ [115] ++ dg n.val ≠ [47] ∧ (([115] ++ dg n.val).all fun x => x != 32) = true := by decide +kernel
structure WordH (x : Int) (w : List UInt8) : Prop where
 eq : wdH x = w
 len : w.length ≤ 3
 no : ∀ c ∈ w, c ≠ 32
 brk : x = -10 → w = [47]
 flag : 0 ≤ x → w ≠ [47] ∧ Lib.trimPrefix w [115] = dg x.toNat ∧ Lib.hasPrefix w [115] = false
 sub : -4 ≤ x → x < 0 → w ≠ [47] ∧ Lib.trimPrefix w [115] = dg (-x).toNat ∧ Lib.hasPrefix w [115] = true
theorem wordH_of {x : Int} (hx : NumH x) : WordH x (wdH x) := by
 unfold NumH at hx
 have all_no : ∀ l : List UInt8, (l.all fun x => x != 32) = true → ∀ c ∈ l, c ≠ 32 := fun l h c hc => by
  have := List.all_eq_true.1 h c hc
  simpa using this
 rcases hx with rfl | hx | hx
 ·exact ⟨rfl, by decide, by decide, fun _ => rfl, fun h => absurd h (by omega), fun h => absurd h (by omega)⟩
 ·have e : wdH x = dg x.toNat := by unfold wdH; rw [if_neg (by omega), if_neg (by omega)]
  have hf := flag_fin ⟨x.toNat, by omega⟩
  dsimp only at hf
  have hl := dg_len x.toNat
  rw [e]
  exact ⟨e, by omega, all_no _ hf.2.2.2, fun h => absurd h (by omega), fun _ => ⟨hf.2.2.1, hf.1, hf.2.1⟩, fun _ h => absurd h (by omega)⟩
 ·have e : wdH x = [115] ++ dg (-x).toNat := by unfold wdH; rw [if_neg (by omega), if_pos (by omega)]
  have hf := sub_fin ⟨(-x).toNat, by omega⟩
  dsimp only at hf
  have hl := dg_len (-x).toNat
  rw [e]
  exact ⟨e, by simp; omega, all_no _ hf.2.2.2, fun h => absurd h (by omega), fun h => absurd h (by omega), fun _ _ => ⟨hf.2.2.1, hf.1, hf.2.1⟩⟩
theorem joinTail_len (xs : List (List UInt8)) (h : ∀ x ∈ xs, x.length ≤ 3) : (Lib.joinTail [32] xs).length ≤ 4 * xs.length := by
 induction xs with
 | nil => simp [Lib.joinTail]
 | cons x r ih =>
  have h1 := ih (fun y hy => h y (List.mem_cons_of_mem _ hy))
  have h2 := h x (List.mem_cons_self ..)
  have e : Lib.joinTail [32] (x :: r) = ([32] ++ x) ++ Lib.joinTail [32] r := by simp [Lib.joinTail]
  rw [e, List.length_append, List.length_append, List.length_cons]
  simp only [List.length_cons, List.length_nil]
  omega
theorem hoistT_facts {h : List Int} (hN : ∀ x ∈ h, NumH x) (h1 : 1 ≤ h.length) (h8 : h.length ≤ 8) : sp 32 (hoistT h) = h.map wdH ∧ (hoistT h).length ≤ 40 := by
 cases h with
 | nil => simp at h1
 | cons x r =>
  have hw := fun y hy => wordH_of (hN y hy)
  have e : hoistT (x :: r) = wdH x ++ Lib.joinTail [32] (r.map wdH) := Lib.join_cons _ _ _
  rw [e]
  constructor
  ·rw [sp_join 32 (r.map wdH) (wdH x) (hw x (List.mem_cons_self ..)).no (fun v hv => by
    obtain ⟨y, hy, rfl⟩ := List.mem_map.1 hv
    exact (hw y (List.mem_cons_of_mem _ hy)).no)]
   rfl
  ·have h2 := joinTail_len (r.map wdH) (fun v hv => by
    obtain ⟨y, hy, rfl⟩ := List.mem_map.1 hv
    exact (hw y (List.mem_cons_of_mem _ hy)).len)
   have h3 := (hw x (List.mem_cons_self ..)).len
   rw [List.length_map] at h2
   rw [List.length_append]
   simp only [List.length_cons] at h8
   omega
end Go.Proofs.YtpbomchjcgndoaaGreatDoor.Arr
namespace Go.Proofs.YtpbomchjcgndoaaGreatDoor.Arr
open Go.RowKit Go.Proofs.YtpbomchjcgndoaaGreatDoorW.PrintWords Go.Proofs.YtpbomchjcgndoaaGreatDoorW.PrintLast Go.Proofs.YtpbomchjcgndoaaGreatDoorW.PrintMore Go.Proofs.YtpbomchjcgndoaaGreatDoor.U Go.Proofs.YtpbomchjcgndoaaGreatDoor.N
set_option linter.unusedVariables false
set_option linter.unusedSimpArgs false
def inRes (off m : Nat) (h : List Int) : Value := if okH h = true then .tuple #[.agg (vals .i64 (((pile (zs 44) h 1 h.length).drop off).take m)), .int .i64 0] else .tuple #[.agg (vals .i64 (zs m)), .int .i64 1]
set_option maxHeartbeats 4000000 in
set_option maxRecDepth 100000 in
theorem implFlagsIn_calls (A0 : Option Addr) (c0 : Nat) (h : List Int) (w : World) (hr : Kd.C (Kd.int .i8) w A0 h.length h) (hc : h.length ≤ c0) (hs : Small8 h) :
  Calls Tryz.prog 13 #[.slice A0 h.length c0] w fun e w' => e = .returned (inRes 0 40 h) ∧ Below w.heap.size w w' := by
 have hm := Mem.start w
 have HR := Aside0.mk hr
 have HS := Aside0.mk hs
 have hl2 : (((pile (zs 44) h 1 h.length).drop 0).take 40).length = 40 := by rw [List.length_take, List.length_drop, pile_length, zs_length]; rfl
 clear hr hs
 unfold inRes
 by_cases hk : okH h = true
 ·rw [if_pos hk]
  have HK := Aside0.mk hk
  have HN := Aside0.mk (okH_N hk)
  have HP := Aside0.mk (fun W hr => hoistPieces_calls A0 c0 h W hr hc HN.out.1 HN.out.2)
  have hl3 := (pile_length (zs 44) h 1 h.length).trans zs_length
  generalize hX : pile (zs 44) h 1 h.length = X at *
  clear hk hX
  generalize hY : (X.drop 0).take 40 = Y at *
  have HY := Aside0.mk hY
  clear hY
  go_enter Tryz.func13, Tryz.ntmps13
  go_wp2_with (first
   | (first | fail | ((with_reducible refine gt_alloc 2 39 ?_); refine st_alloc rfl 2 rfl 39 rfl hm zero39 ?_; clear hm; intro g2 w2 hm) | ((with_reducible refine gt_build 39 ?_); refine st_zero rfl 39 rfl built39 ?_) | ((with_reducible refine gt_alloc 4 39 ?_); refine st_alloc rfl 4 rfl 39 rfl hm zero39 ?_; clear hm; intro g4 w4 hm) | ((with_reducible refine gt_store 39 ?_); (first | (refine st_full rfl 39 _ _ rfl hm rfl rfl 0 rfl agg39 (by first | omega | assumption | (simp only [lens]; first | omega | assumption) | (simp [lens]; done) | (simp [lens]; omega)) (by first | omega | assumption | (simp only [lens]; first | omega | assumption) | (simp [lens]; done) | (simp [lens]; omega)) ?_) | (refine st_full rfl 39 _ _ rfl hm rfl rfl 1 rfl agg39 (by first | omega | assumption | (simp only [lens]; first | omega | assumption) | (simp [lens]; done) | (simp [lens]; omega)) (by first | omega | assumption | (simp only [lens]; first | omega | assumption) | (simp [lens]; done) | (simp [lens]; omega)) ?_) | (refine st_full rfl 39 _ _ rfl hm rfl rfl 2 rfl agg39 (by first | omega | assumption | (simp only [lens]; first | omega | assumption) | (simp [lens]; done) | (simp [lens]; omega)) (by first | omega | assumption | (simp only [lens]; first | omega | assumption) | (simp [lens]; done) | (simp [lens]; omega)) ?_) | (refine st_full rfl 39 _ _ rfl hm rfl rfl 3 rfl agg39 (by first | omega | assumption | (simp only [lens]; first | omega | assumption) | (simp [lens]; done) | (simp [lens]; omega)) (by first | omega | assumption | (simp only [lens]; first | omega | assumption) | (simp [lens]; done) | (simp [lens]; omega)) ?_) | (refine st_put rfl 39 _ _ rfl hm rfl rfl 0 rfl agg39 (by first | omega | assumption | (simp only [lens]; first | omega | assumption) | (simp [lens]; done) | (simp [lens]; omega)) (by first | omega | assumption | (simp only [lens]; first | omega | assumption) | (simp [lens]; done) | (simp [lens]; omega)) ?_) | (refine st_put rfl 39 _ _ rfl hm rfl rfl 1 rfl agg39 (by first | omega | assumption | (simp only [lens]; first | omega | assumption) | (simp [lens]; done) | (simp [lens]; omega)) (by first | omega | assumption | (simp only [lens]; first | omega | assumption) | (simp [lens]; done) | (simp [lens]; omega)) ?_) | (refine st_put rfl 39 _ _ rfl hm rfl rfl 2 rfl agg39 (by first | omega | assumption | (simp only [lens]; first | omega | assumption) | (simp [lens]; done) | (simp [lens]; omega)) (by first | omega | assumption | (simp only [lens]; first | omega | assumption) | (simp [lens]; done) | (simp [lens]; omega)) ?_) | (refine st_put rfl 39 _ _ rfl hm rfl rfl 3 rfl agg39 (by first | omega | assumption | (simp only [lens]; first | omega | assumption) | (simp [lens]; done) | (simp [lens]; omega)) (by first | omega | assumption | (simp only [lens]; first | omega | assumption) | (simp [lens]; done) | (simp [lens]; omega)) ?_)); clear hm; intro ws hm; simp only [List.set_cons_zero, List.set_cons_succ] at hm) | ((with_reducible refine gt_load 39 ?_); (first | (refine st_load rfl 39 _ rfl hm rfl 0 rfl agg39 (by first | omega | assumption | (simp only [lens]; first | omega | assumption) | (simp [lens]; done) | (simp [lens]; omega)) ?_) | (refine st_load rfl 39 _ rfl hm rfl 1 rfl agg39 (by first | omega | assumption | (simp only [lens]; first | omega | assumption) | (simp [lens]; done) | (simp [lens]; omega)) ?_) | (refine st_load rfl 39 _ rfl hm rfl 2 rfl agg39 (by first | omega | assumption | (simp only [lens]; first | omega | assumption) | (simp [lens]; done) | (simp [lens]; omega)) ?_) | (refine st_load rfl 39 _ rfl hm rfl 3 rfl agg39 (by first | omega | assumption | (simp only [lens]; first | omega | assumption) | (simp [lens]; done) | (simp [lens]; omega)) ?_) | (refine st_part rfl 39 _ rfl hm rfl 0 rfl agg39 (by first | omega | assumption | (simp only [lens]; first | omega | assumption) | (simp [lens]; done) | (simp [lens]; omega)) ?_) | (refine st_part rfl 39 _ rfl hm rfl 1 rfl agg39 (by first | omega | assumption | (simp only [lens]; first | omega | assumption) | (simp [lens]; done) | (simp [lens]; omega)) ?_) | (refine st_part rfl 39 _ rfl hm rfl 2 rfl agg39 (by first | omega | assumption | (simp only [lens]; first | omega | assumption) | (simp [lens]; done) | (simp [lens]; omega)) ?_) | (refine st_part rfl 39 _ rfl hm rfl 3 rfl agg39 (by first | omega | assumption | (simp only [lens]; first | omega | assumption) | (simp [lens]; done) | (simp [lens]; omega)) ?_))) | ((with_reducible refine gt_index 75 ?_); refine st_index rfl 75 _ _ rfl rfl rfl arr75 (by first | omega | assumption | (simp only [lens]; first | omega | assumption) | (simp [lens]; done) | (simp [lens]; omega)) (by first | omega | assumption | (simp only [lens]; first | omega | assumption) | (simp [lens]; done) | (simp [lens]; omega)) (by first | omega | assumption | (simp only [lens]; first | omega | assumption) | (simp [lens]; done) | (simp [lens]; omega)) ?_) | ((with_reducible refine gt_elem 39 ?_); refine st_elem rfl 39 _ _ rfl rfl rfl arr39 (by first | omega | assumption | (simp only [lens]; first | omega | assumption) | (simp [lens]; done) | (simp [lens]; omega)) (by first | omega | assumption | (simp only [lens]; first | omega | assumption) | (simp [lens]; done) | (simp [lens]; omega)) ?_) | ((with_reducible refine gt_store 2 ?_); (first | (refine st_set rfl 2 _ _ rfl hm rfl rfl 0 rfl one2 (by first | omega | assumption | (simp only [lens]; first | omega | assumption) | (simp [lens]; done) | (simp [lens]; omega)) ?_) | (refine st_set rfl 2 _ _ rfl hm rfl rfl 1 rfl one2 (by first | omega | assumption | (simp only [lens]; first | omega | assumption) | (simp [lens]; done) | (simp [lens]; omega)) ?_) | (refine st_set rfl 2 _ _ rfl hm rfl rfl 2 rfl one2 (by first | omega | assumption | (simp only [lens]; first | omega | assumption) | (simp [lens]; done) | (simp [lens]; omega)) ?_) | (refine st_set rfl 2 _ _ rfl hm rfl rfl 3 rfl one2 (by first | omega | assumption | (simp only [lens]; first | omega | assumption) | (simp [lens]; done) | (simp [lens]; omega)) ?_)); clear hm; intro ws hm; simp only [List.set_cons_zero, List.set_cons_succ] at hm))
   | ((with_reducible refine gt_fieldv 78 0 ?_); refine st_fieldv rfl 78 _ 0 rfl rfl partP0 HY.out ?_)
   | (go_at_call 19; refine (validHoist_calls A0 c0 h _ (Kd.C_below HR.out (hm.done rfl)) hc HS.out.1 HS.out.2).mono ?_; rintro e wa ⟨rfl, hb⟩; replace hm := hm.after hb; clear hb; rw [HK.out])
   | (go_at_call 39; refine (HP.out _ (Kd.C_below HR.out (hm.done rfl))).mono ?_; rintro e wa ⟨rfl, hb⟩; replace hm := hm.after hb; clear hb))
  go_loopw [15, 5, 6] (fun v15 v5 v6 wr => ∃ i : Nat, i ≤ 40 ∧ v15 = .int .i64 i ∧ Mem w wr [⟨g4, vals .i64 (mixTo (zs 40) Y 0 i), 39, true⟩, ⟨g2, vals .i64 (zs 40), 39, true⟩]) (fun v15 _ _ _ => 40 - (intOf v15).toNat)
  case atStart => exact ⟨0, by omega, rfl, by rw [mixTo_zero]; exact hm⟩
  case round =>
   obtain ⟨i, hi, rfl, hm⟩ := hrel
   have hl4 := (mixTo_length (zs 40) Y 0 i (by rw [zs_length]; omega) (by omega)).trans zs_length
   by_cases hlt : i < 40
   ·go_wp2_with (first | fail | ((with_reducible refine gt_alloc 2 39 ?_); refine st_alloc rfl 2 rfl 39 rfl hm zero39 ?_; clear hm; intro g2 w2 hm) | ((with_reducible refine gt_build 39 ?_); refine st_zero rfl 39 rfl built39 ?_) | ((with_reducible refine gt_alloc 4 39 ?_); refine st_alloc rfl 4 rfl 39 rfl hm zero39 ?_; clear hm; intro g4 w4 hm) | ((with_reducible refine gt_store 39 ?_); (first | (refine st_full rfl 39 _ _ rfl hm rfl rfl 0 rfl agg39 (by first | omega | assumption | (simp only [lens]; first | omega | assumption) | (simp [lens]; done) | (simp [lens]; omega)) (by first | omega | assumption | (simp only [lens]; first | omega | assumption) | (simp [lens]; done) | (simp [lens]; omega)) ?_) | (refine st_full rfl 39 _ _ rfl hm rfl rfl 1 rfl agg39 (by first | omega | assumption | (simp only [lens]; first | omega | assumption) | (simp [lens]; done) | (simp [lens]; omega)) (by first | omega | assumption | (simp only [lens]; first | omega | assumption) | (simp [lens]; done) | (simp [lens]; omega)) ?_) | (refine st_full rfl 39 _ _ rfl hm rfl rfl 2 rfl agg39 (by first | omega | assumption | (simp only [lens]; first | omega | assumption) | (simp [lens]; done) | (simp [lens]; omega)) (by first | omega | assumption | (simp only [lens]; first | omega | assumption) | (simp [lens]; done) | (simp [lens]; omega)) ?_) | (refine st_full rfl 39 _ _ rfl hm rfl rfl 3 rfl agg39 (by first | omega | assumption | (simp only [lens]; first | omega | assumption) | (simp [lens]; done) | (simp [lens]; omega)) (by first | omega | assumption | (simp only [lens]; first | omega | assumption) | (simp [lens]; done) | (simp [lens]; omega)) ?_) | (refine st_put rfl 39 _ _ rfl hm rfl rfl 0 rfl agg39 (by first | omega | assumption | (simp only [lens]; first | omega | assumption) | (simp [lens]; done) | (simp [lens]; omega)) (by first | omega | assumption | (simp only [lens]; first | omega | assumption) | (simp [lens]; done) | (simp [lens]; omega)) ?_) | (refine st_put rfl 39 _ _ rfl hm rfl rfl 1 rfl agg39 (by first | omega | assumption | (simp only [lens]; first | omega | assumption) | (simp [lens]; done) | (simp [lens]; omega)) (by first | omega | assumption | (simp only [lens]; first | omega | assumption) | (simp [lens]; done) | (simp [lens]; omega)) ?_) | (refine st_put rfl 39 _ _ rfl hm rfl rfl 2 rfl agg39 (by first | omega | assumption | (simp only [lens]; first | omega | assumption) | (simp [lens]; done) | (simp [lens]; omega)) (by first | omega | assumption | (simp only [lens]; first | omega | assumption) | (simp [lens]; done) | (simp [lens]; omega)) ?_) | (refine st_put rfl 39 _ _ rfl hm rfl rfl 3 rfl agg39 (by first | omega | assumption | (simp only [lens]; first | omega | assumption) | (simp [lens]; done) | (simp [lens]; omega)) (by first | omega | assumption | (simp only [lens]; first | omega | assumption) | (simp [lens]; done) | (simp [lens]; omega)) ?_)); clear hm; intro ws hm; simp only [List.set_cons_zero, List.set_cons_succ] at hm) | ((with_reducible refine gt_load 39 ?_); (first | (refine st_load rfl 39 _ rfl hm rfl 0 rfl agg39 (by first | omega | assumption | (simp only [lens]; first | omega | assumption) | (simp [lens]; done) | (simp [lens]; omega)) ?_) | (refine st_load rfl 39 _ rfl hm rfl 1 rfl agg39 (by first | omega | assumption | (simp only [lens]; first | omega | assumption) | (simp [lens]; done) | (simp [lens]; omega)) ?_) | (refine st_load rfl 39 _ rfl hm rfl 2 rfl agg39 (by first | omega | assumption | (simp only [lens]; first | omega | assumption) | (simp [lens]; done) | (simp [lens]; omega)) ?_) | (refine st_load rfl 39 _ rfl hm rfl 3 rfl agg39 (by first | omega | assumption | (simp only [lens]; first | omega | assumption) | (simp [lens]; done) | (simp [lens]; omega)) ?_) | (refine st_part rfl 39 _ rfl hm rfl 0 rfl agg39 (by first | omega | assumption | (simp only [lens]; first | omega | assumption) | (simp [lens]; done) | (simp [lens]; omega)) ?_) | (refine st_part rfl 39 _ rfl hm rfl 1 rfl agg39 (by first | omega | assumption | (simp only [lens]; first | omega | assumption) | (simp [lens]; done) | (simp [lens]; omega)) ?_) | (refine st_part rfl 39 _ rfl hm rfl 2 rfl agg39 (by first | omega | assumption | (simp only [lens]; first | omega | assumption) | (simp [lens]; done) | (simp [lens]; omega)) ?_) | (refine st_part rfl 39 _ rfl hm rfl 3 rfl agg39 (by first | omega | assumption | (simp only [lens]; first | omega | assumption) | (simp [lens]; done) | (simp [lens]; omega)) ?_))) | ((with_reducible refine gt_index 75 ?_); refine st_index rfl 75 _ _ rfl rfl rfl arr75 (by first | omega | assumption | (simp only [lens]; first | omega | assumption) | (simp [lens]; done) | (simp [lens]; omega)) (by first | omega | assumption | (simp only [lens]; first | omega | assumption) | (simp [lens]; done) | (simp [lens]; omega)) (by first | omega | assumption | (simp only [lens]; first | omega | assumption) | (simp [lens]; done) | (simp [lens]; omega)) ?_) | ((with_reducible refine gt_elem 39 ?_); refine st_elem rfl 39 _ _ rfl rfl rfl arr39 (by first | omega | assumption | (simp only [lens]; first | omega | assumption) | (simp [lens]; done) | (simp [lens]; omega)) (by first | omega | assumption | (simp only [lens]; first | omega | assumption) | (simp [lens]; done) | (simp [lens]; omega)) ?_) | ((with_reducible refine gt_store 2 ?_); (first | (refine st_set rfl 2 _ _ rfl hm rfl rfl 0 rfl one2 (by first | omega | assumption | (simp only [lens]; first | omega | assumption) | (simp [lens]; done) | (simp [lens]; omega)) ?_) | (refine st_set rfl 2 _ _ rfl hm rfl rfl 1 rfl one2 (by first | omega | assumption | (simp only [lens]; first | omega | assumption) | (simp [lens]; done) | (simp [lens]; omega)) ?_) | (refine st_set rfl 2 _ _ rfl hm rfl rfl 2 rfl one2 (by first | omega | assumption | (simp only [lens]; first | omega | assumption) | (simp [lens]; done) | (simp [lens]; omega)) ?_) | (refine st_set rfl 2 _ _ rfl hm rfl rfl 3 rfl one2 (by first | omega | assumption | (simp only [lens]; first | omega | assumption) | (simp [lens]; done) | (simp [lens]; omega)) ?_)); clear hm; intro ws hm; simp only [List.set_cons_zero, List.set_cons_succ] at hm))
    go_roundw
    case rel =>
     refine ⟨i + 1, by omega, by go_num, ?_⟩
     rw [← mixTo_succ (zs 40) Y 0 i (by rw [zs_length]; omega) (by omega)]
     simpa using hm
    case measure => simp [intOf]; omega
   ·have HI := Aside0.mk (show mixTo (zs 40) Y 0 i = Y by
     have : i = 40 := by omega
     subst this
     unfold mixTo
     rw [List.take_zero, List.nil_append, List.take_of_length_le (by omega), List.drop_of_length_le (by rw [zs_length]; omega), List.append_nil])
    generalize mixTo (zs 40) Y 0 i = Z at *
    go_wp2_with (first | fail | ((with_reducible refine gt_alloc 2 39 ?_); refine st_alloc rfl 2 rfl 39 rfl hm zero39 ?_; clear hm; intro g2 w2 hm) | ((with_reducible refine gt_build 39 ?_); refine st_zero rfl 39 rfl built39 ?_) | ((with_reducible refine gt_alloc 4 39 ?_); refine st_alloc rfl 4 rfl 39 rfl hm zero39 ?_; clear hm; intro g4 w4 hm) | ((with_reducible refine gt_store 39 ?_); (first | (refine st_full rfl 39 _ _ rfl hm rfl rfl 0 rfl agg39 (by first | omega | assumption | (simp only [lens]; first | omega | assumption) | (simp [lens]; done) | (simp [lens]; omega)) (by first | omega | assumption | (simp only [lens]; first | omega | assumption) | (simp [lens]; done) | (simp [lens]; omega)) ?_) | (refine st_full rfl 39 _ _ rfl hm rfl rfl 1 rfl agg39 (by first | omega | assumption | (simp only [lens]; first | omega | assumption) | (simp [lens]; done) | (simp [lens]; omega)) (by first | omega | assumption | (simp only [lens]; first | omega | assumption) | (simp [lens]; done) | (simp [lens]; omega)) ?_) | (refine st_full rfl 39 _ _ rfl hm rfl rfl 2 rfl agg39 (by first | omega | assumption | (simp only [lens]; first | omega | assumption) | (simp [lens]; done) | (simp [lens]; omega)) (by first | omega | assumption | (simp only [lens]; first | omega | assumption) | (simp [lens]; done) | (simp [lens]; omega)) ?_) | (refine st_full rfl 39 _ _ rfl hm rfl rfl 3 rfl agg39 (by first | omega | assumption | (simp only [lens]; first | omega | assumption) | (simp [lens]; done) | (simp [lens]; omega)) (by first | omega | assumption | (simp only [lens]; first | omega | assumption) | (simp [lens]; done) | (simp [lens]; omega)) ?_) | (refine st_put rfl 39 _ _ rfl hm rfl rfl 0 rfl agg39 (by first | omega | assumption | (simp only [lens]; first | omega | assumption) | (simp [lens]; done) | (simp [lens]; omega)) (by first | omega | assumption | (simp only [lens]; first | omega | assumption) | (simp [lens]; done) | (simp [lens]; omega)) ?_) | (refine st_put rfl 39 _ _ rfl hm rfl rfl 1 rfl agg39 (by first | omega | assumption | (simp only [lens]; first | omega | assumption) | (simp [lens]; done) | (simp [lens]; omega)) (by first | omega | assumption | (simp only [lens]; first | omega | assumption) | (simp [lens]; done) | (simp [lens]; omega)) ?_) | (refine st_put rfl 39 _ _ rfl hm rfl rfl 2 rfl agg39 (by first | omega | assumption | (simp only [lens]; first | omega | assumption) | (simp [lens]; done) | (simp [lens]; omega)) (by first | omega | assumption | (simp only [lens]; first | omega | assumption) | (simp [lens]; done) | (simp [lens]; omega)) ?_) | (refine st_put rfl 39 _ _ rfl hm rfl rfl 3 rfl agg39 (by first | omega | assumption | (simp only [lens]; first | omega | assumption) | (simp [lens]; done) | (simp [lens]; omega)) (by first | omega | assumption | (simp only [lens]; first | omega | assumption) | (simp [lens]; done) | (simp [lens]; omega)) ?_)); clear hm; intro ws hm; simp only [List.set_cons_zero, List.set_cons_succ] at hm) | ((with_reducible refine gt_load 39 ?_); (first | (refine st_load rfl 39 _ rfl hm rfl 0 rfl agg39 (by first | omega | assumption | (simp only [lens]; first | omega | assumption) | (simp [lens]; done) | (simp [lens]; omega)) ?_) | (refine st_load rfl 39 _ rfl hm rfl 1 rfl agg39 (by first | omega | assumption | (simp only [lens]; first | omega | assumption) | (simp [lens]; done) | (simp [lens]; omega)) ?_) | (refine st_load rfl 39 _ rfl hm rfl 2 rfl agg39 (by first | omega | assumption | (simp only [lens]; first | omega | assumption) | (simp [lens]; done) | (simp [lens]; omega)) ?_) | (refine st_load rfl 39 _ rfl hm rfl 3 rfl agg39 (by first | omega | assumption | (simp only [lens]; first | omega | assumption) | (simp [lens]; done) | (simp [lens]; omega)) ?_) | (refine st_part rfl 39 _ rfl hm rfl 0 rfl agg39 (by first | omega | assumption | (simp only [lens]; first | omega | assumption) | (simp [lens]; done) | (simp [lens]; omega)) ?_) | (refine st_part rfl 39 _ rfl hm rfl 1 rfl agg39 (by first | omega | assumption | (simp only [lens]; first | omega | assumption) | (simp [lens]; done) | (simp [lens]; omega)) ?_) | (refine st_part rfl 39 _ rfl hm rfl 2 rfl agg39 (by first | omega | assumption | (simp only [lens]; first | omega | assumption) | (simp [lens]; done) | (simp [lens]; omega)) ?_) | (refine st_part rfl 39 _ rfl hm rfl 3 rfl agg39 (by first | omega | assumption | (simp only [lens]; first | omega | assumption) | (simp [lens]; done) | (simp [lens]; omega)) ?_))) | ((with_reducible refine gt_index 75 ?_); refine st_index rfl 75 _ _ rfl rfl rfl arr75 (by first | omega | assumption | (simp only [lens]; first | omega | assumption) | (simp [lens]; done) | (simp [lens]; omega)) (by first | omega | assumption | (simp only [lens]; first | omega | assumption) | (simp [lens]; done) | (simp [lens]; omega)) (by first | omega | assumption | (simp only [lens]; first | omega | assumption) | (simp [lens]; done) | (simp [lens]; omega)) ?_) | ((with_reducible refine gt_elem 39 ?_); refine st_elem rfl 39 _ _ rfl rfl rfl arr39 (by first | omega | assumption | (simp only [lens]; first | omega | assumption) | (simp [lens]; done) | (simp [lens]; omega)) (by first | omega | assumption | (simp only [lens]; first | omega | assumption) | (simp [lens]; done) | (simp [lens]; omega)) ?_) | ((with_reducible refine gt_store 2 ?_); (first | (refine st_set rfl 2 _ _ rfl hm rfl rfl 0 rfl one2 (by first | omega | assumption | (simp only [lens]; first | omega | assumption) | (simp [lens]; done) | (simp [lens]; omega)) ?_) | (refine st_set rfl 2 _ _ rfl hm rfl rfl 1 rfl one2 (by first | omega | assumption | (simp only [lens]; first | omega | assumption) | (simp [lens]; done) | (simp [lens]; omega)) ?_) | (refine st_set rfl 2 _ _ rfl hm rfl rfl 2 rfl one2 (by first | omega | assumption | (simp only [lens]; first | omega | assumption) | (simp [lens]; done) | (simp [lens]; omega)) ?_) | (refine st_set rfl 2 _ _ rfl hm rfl rfl 3 rfl one2 (by first | omega | assumption | (simp only [lens]; first | omega | assumption) | (simp [lens]; done) | (simp [lens]; omega)) ?_)); clear hm; intro ws hm; simp only [List.set_cons_zero, List.set_cons_succ] at hm))
    ((try simp only [Exit.inBlock, Exit.then]); (first | (refine ret_cell hm rfl rfl 1 rfl agg39 (by first | omega | assumption | (simp only [lens]; first | omega | assumption) | (simp [lens]; done) | (simp [lens]; omega)) rfl ?_) | (refine ret_cell_tmp hm rfl rfl 1 rfl agg39 (by first | omega | assumption | (simp only [lens]; first | omega | assumption) | (simp [lens]; done) | (simp [lens]; omega)) rfl ?_)))
    exact ⟨by rw [← HI.out]; rfl, hm.done rfl⟩
 ·rw [if_neg hk]
  have HK := Aside0.mk (show okH h = false by simpa using hk)
  clear hk
  go_enter Tryz.func13, Tryz.ntmps13
  go_wp2_with (first
   | (first | fail | ((with_reducible refine gt_alloc 2 39 ?_); refine st_alloc rfl 2 rfl 39 rfl hm zero39 ?_; clear hm; intro g2 w2 hm) | ((with_reducible refine gt_build 39 ?_); refine st_zero rfl 39 rfl built39 ?_) | ((with_reducible refine gt_alloc 4 39 ?_); refine st_alloc rfl 4 rfl 39 rfl hm zero39 ?_; clear hm; intro g4 w4 hm) | ((with_reducible refine gt_store 39 ?_); (first | (refine st_full rfl 39 _ _ rfl hm rfl rfl 0 rfl agg39 (by first | omega | assumption | (simp only [lens]; first | omega | assumption) | (simp [lens]; done) | (simp [lens]; omega)) (by first | omega | assumption | (simp only [lens]; first | omega | assumption) | (simp [lens]; done) | (simp [lens]; omega)) ?_) | (refine st_full rfl 39 _ _ rfl hm rfl rfl 1 rfl agg39 (by first | omega | assumption | (simp only [lens]; first | omega | assumption) | (simp [lens]; done) | (simp [lens]; omega)) (by first | omega | assumption | (simp only [lens]; first | omega | assumption) | (simp [lens]; done) | (simp [lens]; omega)) ?_) | (refine st_full rfl 39 _ _ rfl hm rfl rfl 2 rfl agg39 (by first | omega | assumption | (simp only [lens]; first | omega | assumption) | (simp [lens]; done) | (simp [lens]; omega)) (by first | omega | assumption | (simp only [lens]; first | omega | assumption) | (simp [lens]; done) | (simp [lens]; omega)) ?_) | (refine st_full rfl 39 _ _ rfl hm rfl rfl 3 rfl agg39 (by first | omega | assumption | (simp only [lens]; first | omega | assumption) | (simp [lens]; done) | (simp [lens]; omega)) (by first | omega | assumption | (simp only [lens]; first | omega | assumption) | (simp [lens]; done) | (simp [lens]; omega)) ?_) | (refine st_put rfl 39 _ _ rfl hm rfl rfl 0 rfl agg39 (by first | omega | assumption | (simp only [lens]; first | omega | assumption) | (simp [lens]; done) | (simp [lens]; omega)) (by first | omega | assumption | (simp only [lens]; first | omega | assumption) | (simp [lens]; done) | (simp [lens]; omega)) ?_) | (refine st_put rfl 39 _ _ rfl hm rfl rfl 1 rfl agg39 (by first | omega | assumption | (simp only [lens]; first | omega | assumption) | (simp [lens]; done) | (simp [lens]; omega)) (by first | omega | assumption | (simp only [lens]; first | omega | assumption) | (simp [lens]; done) | (simp [lens]; omega)) ?_) | (refine st_put rfl 39 _ _ rfl hm rfl rfl 2 rfl agg39 (by first | omega | assumption | (simp only [lens]; first | omega | assumption) | (simp [lens]; done) | (simp [lens]; omega)) (by first | omega | assumption | (simp only [lens]; first | omega | assumption) | (simp [lens]; done) | (simp [lens]; omega)) ?_) | (refine st_put rfl 39 _ _ rfl hm rfl rfl 3 rfl agg39 (by first | omega | assumption | (simp only [lens]; first | omega | assumption) | (simp [lens]; done) | (simp [lens]; omega)) (by first | omega | assumption | (simp only [lens]; first | omega | assumption) | (simp [lens]; done) | (simp [lens]; omega)) ?_)); clear hm; intro ws hm; simp only [List.set_cons_zero, List.set_cons_succ] at hm) | ((with_reducible refine gt_load 39 ?_); (first | (refine st_load rfl 39 _ rfl hm rfl 0 rfl agg39 (by first | omega | assumption | (simp only [lens]; first | omega | assumption) | (simp [lens]; done) | (simp [lens]; omega)) ?_) | (refine st_load rfl 39 _ rfl hm rfl 1 rfl agg39 (by first | omega | assumption | (simp only [lens]; first | omega | assumption) | (simp [lens]; done) | (simp [lens]; omega)) ?_) | (refine st_load rfl 39 _ rfl hm rfl 2 rfl agg39 (by first | omega | assumption | (simp only [lens]; first | omega | assumption) | (simp [lens]; done) | (simp [lens]; omega)) ?_) | (refine st_load rfl 39 _ rfl hm rfl 3 rfl agg39 (by first | omega | assumption | (simp only [lens]; first | omega | assumption) | (simp [lens]; done) | (simp [lens]; omega)) ?_) | (refine st_part rfl 39 _ rfl hm rfl 0 rfl agg39 (by first | omega | assumption | (simp only [lens]; first | omega | assumption) | (simp [lens]; done) | (simp [lens]; omega)) ?_) | (refine st_part rfl 39 _ rfl hm rfl 1 rfl agg39 (by first | omega | assumption | (simp only [lens]; first | omega | assumption) | (simp [lens]; done) | (simp [lens]; omega)) ?_) | (refine st_part rfl 39 _ rfl hm rfl 2 rfl agg39 (by first | omega | assumption | (simp only [lens]; first | omega | assumption) | (simp [lens]; done) | (simp [lens]; omega)) ?_) | (refine st_part rfl 39 _ rfl hm rfl 3 rfl agg39 (by first | omega | assumption | (simp only [lens]; first | omega | assumption) | (simp [lens]; done) | (simp [lens]; omega)) ?_))) | ((with_reducible refine gt_index 75 ?_); refine st_index rfl 75 _ _ rfl rfl rfl arr75 (by first | omega | assumption | (simp only [lens]; first | omega | assumption) | (simp [lens]; done) | (simp [lens]; omega)) (by first | omega | assumption | (simp only [lens]; first | omega | assumption) | (simp [lens]; done) | (simp [lens]; omega)) (by first | omega | assumption | (simp only [lens]; first | omega | assumption) | (simp [lens]; done) | (simp [lens]; omega)) ?_) | ((with_reducible refine gt_elem 39 ?_); refine st_elem rfl 39 _ _ rfl rfl rfl arr39 (by first | omega | assumption | (simp only [lens]; first | omega | assumption) | (simp [lens]; done) | (simp [lens]; omega)) (by first | omega | assumption | (simp only [lens]; first | omega | assumption) | (simp [lens]; done) | (simp [lens]; omega)) ?_) | ((with_reducible refine gt_store 2 ?_); (first | (refine st_set rfl 2 _ _ rfl hm rfl rfl 0 rfl one2 (by first | omega | assumption | (simp only [lens]; first | omega | assumption) | (simp [lens]; done) | (simp [lens]; omega)) ?_) | (refine st_set rfl 2 _ _ rfl hm rfl rfl 1 rfl one2 (by first | omega | assumption | (simp only [lens]; first | omega | assumption) | (simp [lens]; done) | (simp [lens]; omega)) ?_) | (refine st_set rfl 2 _ _ rfl hm rfl rfl 2 rfl one2 (by first | omega | assumption | (simp only [lens]; first | omega | assumption) | (simp [lens]; done) | (simp [lens]; omega)) ?_) | (refine st_set rfl 2 _ _ rfl hm rfl rfl 3 rfl one2 (by first | omega | assumption | (simp only [lens]; first | omega | assumption) | (simp [lens]; done) | (simp [lens]; omega)) ?_)); clear hm; intro ws hm; simp only [List.set_cons_zero, List.set_cons_succ] at hm))
   | (go_at_call 19; refine (validHoist_calls A0 c0 h _ (Kd.C_below HR.out (hm.done rfl)) hc HS.out.1 HS.out.2).mono ?_; rintro e wa ⟨rfl, hb⟩; replace hm := hm.after hb; clear hb; rw [HK.out]))
  ((try simp only [Exit.inBlock, Exit.then]); (first | (refine ret_cell hm rfl rfl 1 rfl agg39 (by first | omega | assumption | (simp only [lens]; first | omega | assumption) | (simp [lens]; done) | (simp [lens]; omega)) rfl ?_) | (refine ret_cell_tmp hm rfl rfl 1 rfl agg39 (by first | omega | assumption | (simp only [lens]; first | omega | assumption) | (simp [lens]; done) | (simp [lens]; omega)) rfl ?_)))
  exact ⟨rfl, hm.done rfl⟩
set_option maxHeartbeats 4000000 in
set_option maxRecDepth 100000 in
theorem implSubsIn_calls (A0 : Option Addr) (c0 : Nat) (h : List Int) (w : World) (hr : Kd.C (Kd.int .i8) w A0 h.length h) (hc : h.length ≤ c0) (hs : Small8 h) :
  Calls Tryz.prog 14 #[.slice A0 h.length c0] w fun e w' => e = .returned (inRes 40 4 h) ∧ Below w.heap.size w w' := by
 have hm := Mem.start w
 have HR := Aside0.mk hr
 have HS := Aside0.mk hs
 have hl2 : (((pile (zs 44) h 1 h.length).drop 40).take 4).length = 4 := by rw [List.length_take, List.length_drop, pile_length, zs_length]; rfl
 clear hr hs
 unfold inRes
 by_cases hk : okH h = true
 ·rw [if_pos hk]
  have HK := Aside0.mk hk
  have HN := Aside0.mk (okH_N hk)
  have HP := Aside0.mk (fun W hr => hoistPieces_calls A0 c0 h W hr hc HN.out.1 HN.out.2)
  have hl3 := (pile_length (zs 44) h 1 h.length).trans zs_length
  generalize hX : pile (zs 44) h 1 h.length = X at *
  clear hk hX
  generalize hY : (X.drop 40).take 4 = Y at *
  have HY := Aside0.mk hY
  clear hY
  go_enter Tryz.func14, Tryz.ntmps14
  go_wp2_with (first
   | (first | fail | ((with_reducible refine gt_alloc 2 42 ?_); refine st_alloc rfl 2 rfl 42 rfl hm zero42 ?_; clear hm; intro g2 w2 hm) | ((with_reducible refine gt_build 42 ?_); refine st_zero rfl 42 rfl built42 ?_) | ((with_reducible refine gt_alloc 4 42 ?_); refine st_alloc rfl 4 rfl 42 rfl hm zero42 ?_; clear hm; intro g4 w4 hm) | ((with_reducible refine gt_store 42 ?_); (first | (refine st_full rfl 42 _ _ rfl hm rfl rfl 0 rfl agg42 (by first | omega | assumption | (simp only [lens]; first | omega | assumption) | (simp [lens]; done) | (simp [lens]; omega)) (by first | omega | assumption | (simp only [lens]; first | omega | assumption) | (simp [lens]; done) | (simp [lens]; omega)) ?_) | (refine st_full rfl 42 _ _ rfl hm rfl rfl 1 rfl agg42 (by first | omega | assumption | (simp only [lens]; first | omega | assumption) | (simp [lens]; done) | (simp [lens]; omega)) (by first | omega | assumption | (simp only [lens]; first | omega | assumption) | (simp [lens]; done) | (simp [lens]; omega)) ?_) | (refine st_full rfl 42 _ _ rfl hm rfl rfl 2 rfl agg42 (by first | omega | assumption | (simp only [lens]; first | omega | assumption) | (simp [lens]; done) | (simp [lens]; omega)) (by first | omega | assumption | (simp only [lens]; first | omega | assumption) | (simp [lens]; done) | (simp [lens]; omega)) ?_) | (refine st_full rfl 42 _ _ rfl hm rfl rfl 3 rfl agg42 (by first | omega | assumption | (simp only [lens]; first | omega | assumption) | (simp [lens]; done) | (simp [lens]; omega)) (by first | omega | assumption | (simp only [lens]; first | omega | assumption) | (simp [lens]; done) | (simp [lens]; omega)) ?_) | (refine st_put rfl 42 _ _ rfl hm rfl rfl 0 rfl agg42 (by first | omega | assumption | (simp only [lens]; first | omega | assumption) | (simp [lens]; done) | (simp [lens]; omega)) (by first | omega | assumption | (simp only [lens]; first | omega | assumption) | (simp [lens]; done) | (simp [lens]; omega)) ?_) | (refine st_put rfl 42 _ _ rfl hm rfl rfl 1 rfl agg42 (by first | omega | assumption | (simp only [lens]; first | omega | assumption) | (simp [lens]; done) | (simp [lens]; omega)) (by first | omega | assumption | (simp only [lens]; first | omega | assumption) | (simp [lens]; done) | (simp [lens]; omega)) ?_) | (refine st_put rfl 42 _ _ rfl hm rfl rfl 2 rfl agg42 (by first | omega | assumption | (simp only [lens]; first | omega | assumption) | (simp [lens]; done) | (simp [lens]; omega)) (by first | omega | assumption | (simp only [lens]; first | omega | assumption) | (simp [lens]; done) | (simp [lens]; omega)) ?_) | (refine st_put rfl 42 _ _ rfl hm rfl rfl 3 rfl agg42 (by first | omega | assumption | (simp only [lens]; first | omega | assumption) | (simp [lens]; done) | (simp [lens]; omega)) (by first | omega | assumption | (simp only [lens]; first | omega | assumption) | (simp [lens]; done) | (simp [lens]; omega)) ?_)); clear hm; intro ws hm; simp only [List.set_cons_zero, List.set_cons_succ] at hm) | ((with_reducible refine gt_load 42 ?_); (first | (refine st_load rfl 42 _ rfl hm rfl 0 rfl agg42 (by first | omega | assumption | (simp only [lens]; first | omega | assumption) | (simp [lens]; done) | (simp [lens]; omega)) ?_) | (refine st_load rfl 42 _ rfl hm rfl 1 rfl agg42 (by first | omega | assumption | (simp only [lens]; first | omega | assumption) | (simp [lens]; done) | (simp [lens]; omega)) ?_) | (refine st_load rfl 42 _ rfl hm rfl 2 rfl agg42 (by first | omega | assumption | (simp only [lens]; first | omega | assumption) | (simp [lens]; done) | (simp [lens]; omega)) ?_) | (refine st_load rfl 42 _ rfl hm rfl 3 rfl agg42 (by first | omega | assumption | (simp only [lens]; first | omega | assumption) | (simp [lens]; done) | (simp [lens]; omega)) ?_) | (refine st_part rfl 42 _ rfl hm rfl 0 rfl agg42 (by first | omega | assumption | (simp only [lens]; first | omega | assumption) | (simp [lens]; done) | (simp [lens]; omega)) ?_) | (refine st_part rfl 42 _ rfl hm rfl 1 rfl agg42 (by first | omega | assumption | (simp only [lens]; first | omega | assumption) | (simp [lens]; done) | (simp [lens]; omega)) ?_) | (refine st_part rfl 42 _ rfl hm rfl 2 rfl agg42 (by first | omega | assumption | (simp only [lens]; first | omega | assumption) | (simp [lens]; done) | (simp [lens]; omega)) ?_) | (refine st_part rfl 42 _ rfl hm rfl 3 rfl agg42 (by first | omega | assumption | (simp only [lens]; first | omega | assumption) | (simp [lens]; done) | (simp [lens]; omega)) ?_))) | ((with_reducible refine gt_index 76 ?_); refine st_index rfl 76 _ _ rfl rfl rfl arr76 (by first | omega | assumption | (simp only [lens]; first | omega | assumption) | (simp [lens]; done) | (simp [lens]; omega)) (by first | omega | assumption | (simp only [lens]; first | omega | assumption) | (simp [lens]; done) | (simp [lens]; omega)) (by first | omega | assumption | (simp only [lens]; first | omega | assumption) | (simp [lens]; done) | (simp [lens]; omega)) ?_) | ((with_reducible refine gt_elem 42 ?_); refine st_elem rfl 42 _ _ rfl rfl rfl arr42 (by first | omega | assumption | (simp only [lens]; first | omega | assumption) | (simp [lens]; done) | (simp [lens]; omega)) (by first | omega | assumption | (simp only [lens]; first | omega | assumption) | (simp [lens]; done) | (simp [lens]; omega)) ?_) | ((with_reducible refine gt_store 2 ?_); (first | (refine st_set rfl 2 _ _ rfl hm rfl rfl 0 rfl one2 (by first | omega | assumption | (simp only [lens]; first | omega | assumption) | (simp [lens]; done) | (simp [lens]; omega)) ?_) | (refine st_set rfl 2 _ _ rfl hm rfl rfl 1 rfl one2 (by first | omega | assumption | (simp only [lens]; first | omega | assumption) | (simp [lens]; done) | (simp [lens]; omega)) ?_) | (refine st_set rfl 2 _ _ rfl hm rfl rfl 2 rfl one2 (by first | omega | assumption | (simp only [lens]; first | omega | assumption) | (simp [lens]; done) | (simp [lens]; omega)) ?_) | (refine st_set rfl 2 _ _ rfl hm rfl rfl 3 rfl one2 (by first | omega | assumption | (simp only [lens]; first | omega | assumption) | (simp [lens]; done) | (simp [lens]; omega)) ?_)); clear hm; intro ws hm; simp only [List.set_cons_zero, List.set_cons_succ] at hm))
   | ((with_reducible refine gt_fieldv 78 1 ?_); refine st_fieldv rfl 78 _ 1 rfl rfl partP1 HY.out ?_)
   | (go_at_call 19; refine (validHoist_calls A0 c0 h _ (Kd.C_below HR.out (hm.done rfl)) hc HS.out.1 HS.out.2).mono ?_; rintro e wa ⟨rfl, hb⟩; replace hm := hm.after hb; clear hb; rw [HK.out])
   | (go_at_call 39; refine (HP.out _ (Kd.C_below HR.out (hm.done rfl))).mono ?_; rintro e wa ⟨rfl, hb⟩; replace hm := hm.after hb; clear hb))
  go_loopw [15, 5, 6] (fun v15 v5 v6 wr => ∃ i : Nat, i ≤ 4 ∧ v15 = .int .i64 i ∧ Mem w wr [⟨g4, vals .i64 (mixTo (zs 4) Y 0 i), 42, true⟩, ⟨g2, vals .i64 (zs 4), 42, true⟩]) (fun v15 _ _ _ => 4 - (intOf v15).toNat)
  case atStart => exact ⟨0, by omega, rfl, by rw [mixTo_zero]; exact hm⟩
  case round =>
   obtain ⟨i, hi, rfl, hm⟩ := hrel
   have hl4 := (mixTo_length (zs 4) Y 0 i (by rw [zs_length]; omega) (by omega)).trans zs_length
   by_cases hlt : i < 4
   ·go_wp2_with (first | fail | ((with_reducible refine gt_alloc 2 42 ?_); refine st_alloc rfl 2 rfl 42 rfl hm zero42 ?_; clear hm; intro g2 w2 hm) | ((with_reducible refine gt_build 42 ?_); refine st_zero rfl 42 rfl built42 ?_) | ((with_reducible refine gt_alloc 4 42 ?_); refine st_alloc rfl 4 rfl 42 rfl hm zero42 ?_; clear hm; intro g4 w4 hm) | ((with_reducible refine gt_store 42 ?_); (first | (refine st_full rfl 42 _ _ rfl hm rfl rfl 0 rfl agg42 (by first | omega | assumption | (simp only [lens]; first | omega | assumption) | (simp [lens]; done) | (simp [lens]; omega)) (by first | omega | assumption | (simp only [lens]; first | omega | assumption) | (simp [lens]; done) | (simp [lens]; omega)) ?_) | (refine st_full rfl 42 _ _ rfl hm rfl rfl 1 rfl agg42 (by first | omega | assumption | (simp only [lens]; first | omega | assumption) | (simp [lens]; done) | (simp [lens]; omega)) (by first | omega | assumption | (simp only [lens]; first | omega | assumption) | (simp [lens]; done) | (simp [lens]; omega)) ?_) | (refine st_full rfl 42 _ _ rfl hm rfl rfl 2 rfl agg42 (by first | omega | assumption | (simp only [lens]; first | omega | assumption) | (simp [lens]; done) | (simp [lens]; omega)) (by first | omega | assumption | (simp only [lens]; first | omega | assumption) | (simp [lens]; done) | (simp [lens]; omega)) ?_) | (refine st_full rfl 42 _ _ rfl hm rfl rfl 3 rfl agg42 (by first | omega | assumption | (simp only [lens]; first | omega | assumption) | (simp [lens]; done) | (simp [lens]; omega)) (by first | omega | assumption | (simp only [lens]; first | omega | assumption) | (simp [lens]; done) | (simp [lens]; omega)) ?_) | (refine st_put rfl 42 _ _ rfl hm rfl rfl 0 rfl agg42 (by first | omega | assumption | (simp only [lens]; first | omega | assumption) | (simp [lens]; done) | (simp [lens]; omega)) (by first | omega | assumption | (simp only [lens]; first | omega | assumption) | (simp [lens]; done) | (simp [lens]; omega)) ?_) | (refine st_put rfl 42 _ _ rfl hm rfl rfl 1 rfl agg42 (by first | omega | assumption | (simp only [lens]; first | omega | assumption) | (simp [lens]; done) | (simp [lens]; omega)) (by first | omega | assumption | (simp only [lens]; first | omega | assumption) | (simp [lens]; done) | (simp [lens]; omega)) ?_) | (refine st_put rfl 42 _ _ rfl hm rfl rfl 2 rfl agg42 (by first | omega | assumption | (simp only [lens]; first | omega | assumption) | (simp [lens]; done) | (simp [lens]; omega)) (by first | omega | assumption | (simp only [lens]; first | omega | assumption) | (simp [lens]; done) | (simp [lens]; omega)) ?_) | (refine st_put rfl 42 _ _ rfl hm rfl rfl 3 rfl agg42 (by first | omega | assumption | (simp only [lens]; first | omega | assumption) | (simp [lens]; done) | (simp [lens]; omega)) (by first | omega | assumption | (simp only [lens]; first | omega | assumption) | (simp [lens]; done) | (simp [lens]; omega)) ?_)); clear hm; intro ws hm; simp only [List.set_cons_zero, List.set_cons_succ] at hm) | ((with_reducible refine gt_load 42 ?_); (first | (refine st_load rfl 42 _ rfl hm rfl 0 rfl agg42 (by first | omega | assumption | (simp only [lens]; first | omega | assumption) | (simp [lens]; done) | (simp [lens]; omega)) ?_) | (refine st_load rfl 42 _ rfl hm rfl 1 rfl agg42 (by first | omega | assumption | (simp only [lens]; first | omega | assumption) | (simp [lens]; done) | (simp [lens]; omega)) ?_) | (refine st_load rfl 42 _ rfl hm rfl 2 rfl agg42 (by first | omega | assumption | (simp only [lens]; first | omega | assumption) | (simp [lens]; done) | (simp [lens]; omega)) ?_) | (refine st_load rfl 42 _ rfl hm rfl 3 rfl agg42 (by first | omega | assumption | (simp only [lens]; first | omega | assumption) | (simp [lens]; done) | (simp [lens]; omega)) ?_) | (refine st_part rfl 42 _ rfl hm rfl 0 rfl agg42 (by first | omega | assumption | (simp only [lens]; first | omega | assumption) | (simp [lens]; done) | (simp [lens]; omega)) ?_) | (refine st_part rfl 42 _ rfl hm rfl 1 rfl agg42 (by first | omega | assumption | (simp only [lens]; first | omega | assumption) | (simp [lens]; done) | (simp [lens]; omega)) ?_) | (refine st_part rfl 42 _ rfl hm rfl 2 rfl agg42 (by first | omega | assumption | (simp only [lens]; first | omega | assumption) | (simp [lens]; done) | (simp [lens]; omega)) ?_) | (refine st_part rfl 42 _ rfl hm rfl 3 rfl agg42 (by first | omega | assumption | (simp only [lens]; first | omega | assumption) | (simp [lens]; done) | (simp [lens]; omega)) ?_))) | ((with_reducible refine gt_index 76 ?_); refine st_index rfl 76 _ _ rfl rfl rfl arr76 (by first | omega | assumption | (simp only [lens]; first | omega | assumption) | (simp [lens]; done) | (simp [lens]; omega)) (by first | omega | assumption | (simp only [lens]; first | omega | assumption) | (simp [lens]; done) | (simp [lens]; omega)) (by first | omega | assumption | (simp only [lens]; first | omega | assumption) | (simp [lens]; done) | (simp [lens]; omega)) ?_) | ((with_reducible refine gt_elem 42 ?_); refine st_elem rfl 42 _ _ rfl rfl rfl arr42 (by first | omega | assumption | (simp only [lens]; first | omega | assumption) | (simp [lens]; done) | (simp [lens]; omega)) (by first | omega | assumption | (simp only [lens]; first | omega | assumption) | (simp [lens]; done) | (simp [lens]; omega)) ?_) | ((with_reducible refine gt_store 2 ?_); (first | (refine st_set rfl 2 _ _ rfl hm rfl rfl 0 rfl one2 (by first | omega | assumption | (simp only [lens]; first | omega | assumption) | (simp [lens]; done) | (simp [lens]; omega)) ?_) | (refine st_set rfl 2 _ _ rfl hm rfl rfl 1 rfl one2 (by first | omega | assumption | (simp only [lens]; first | omega | assumption) | (simp [lens]; done) | (simp [lens]; omega)) ?_) | (refine st_set rfl 2 _ _ rfl hm rfl rfl 2 rfl one2 (by first | omega | assumption | (simp only [lens]; first | omega | assumption) | (simp [lens]; done) | (simp [lens]; omega)) ?_) | (refine st_set rfl 2 _ _ rfl hm rfl rfl 3 rfl one2 (by first | omega | assumption | (simp only [lens]; first | omega | assumption) | (simp [lens]; done) | (simp [lens]; omega)) ?_)); clear hm; intro ws hm; simp only [List.set_cons_zero, List.set_cons_succ] at hm))
    go_roundw
    case rel =>
     refine ⟨i + 1, by omega, by go_num, ?_⟩
     rw [← mixTo_succ (zs 4) Y 0 i (by rw [zs_length]; omega) (by omega)]
     simpa using hm
    case measure => simp [intOf]; omega
   ·have HI := Aside0.mk (show mixTo (zs 4) Y 0 i = Y by
     have : i = 4 := by omega
     subst this
     unfold mixTo
     rw [List.take_zero, List.nil_append, List.take_of_length_le (by omega), List.drop_of_length_le (by rw [zs_length]; omega), List.append_nil])
    generalize mixTo (zs 4) Y 0 i = Z at *
    go_wp2_with (first | fail | ((with_reducible refine gt_alloc 2 42 ?_); refine st_alloc rfl 2 rfl 42 rfl hm zero42 ?_; clear hm; intro g2 w2 hm) | ((with_reducible refine gt_build 42 ?_); refine st_zero rfl 42 rfl built42 ?_) | ((with_reducible refine gt_alloc 4 42 ?_); refine st_alloc rfl 4 rfl 42 rfl hm zero42 ?_; clear hm; intro g4 w4 hm) | ((with_reducible refine gt_store 42 ?_); (first | (refine st_full rfl 42 _ _ rfl hm rfl rfl 0 rfl agg42 (by first | omega | assumption | (simp only [lens]; first | omega | assumption) | (simp [lens]; done) | (simp [lens]; omega)) (by first | omega | assumption | (simp only [lens]; first | omega | assumption) | (simp [lens]; done) | (simp [lens]; omega)) ?_) | (refine st_full rfl 42 _ _ rfl hm rfl rfl 1 rfl agg42 (by first | omega | assumption | (simp only [lens]; first | omega | assumption) | (simp [lens]; done) | (simp [lens]; omega)) (by first | omega | assumption | (simp only [lens]; first | omega | assumption) | (simp [lens]; done) | (simp [lens]; omega)) ?_) | (refine st_full rfl 42 _ _ rfl hm rfl rfl 2 rfl agg42 (by first | omega | assumption | (simp only [lens]; first | omega | assumption) | (simp [lens]; done) | (simp [lens]; omega)) (by first | omega | assumption | (simp only [lens]; first | omega | assumption) | (simp [lens]; done) | (simp [lens]; omega)) ?_) | (refine st_full rfl 42 _ _ rfl hm rfl rfl 3 rfl agg42 (by first | omega | assumption | (simp only [lens]; first | omega | assumption) | (simp [lens]; done) | (simp [lens]; omega)) (by first | omega | assumption | (simp only [lens]; first | omega | assumption) | (simp [lens]; done) | (simp [lens]; omega)) ?_) | (refine st_put rfl 42 _ _ rfl hm rfl rfl 0 rfl agg42 (by first | omega | assumption | (simp only [lens]; first | omega | assumption) | (simp [lens]; done) | (simp [lens]; omega)) (by first | omega | assumption | (simp only [lens]; first | omega | assumption) | (simp [lens]; done) | (simp [lens]; omega)) ?_) | (refine st_put rfl 42 _ _ rfl hm rfl rfl 1 rfl agg42 (by first | omega | assumption | (simp only [lens]; first | omega | assumption) | (simp [lens]; done) | (simp [lens]; omega)) (by first | omega | assumption | (simp only [lens]; first | omega | assumption) | (simp [lens]; done) | (simp [lens]; omega)) ?_) | (refine st_put rfl 42 _ _ rfl hm rfl rfl 2 rfl agg42 (by first | omega | assumption | (simp only [lens]; first | omega | assumption) | (simp [lens]; done) | (simp [lens]; omega)) (by first | omega | assumption | (simp only [lens]; first | omega | assumption) | (simp [lens]; done) | (simp [lens]; omega)) ?_) | (refine st_put rfl 42 _ _ rfl hm rfl rfl 3 rfl agg42 (by first | omega | assumption | (simp only [lens]; first | omega | assumption) | (simp [lens]; done) | (simp [lens]; omega)) (by first | omega | assumption | (simp only [lens]; first | omega | assumption) | (simp [lens]; done) | (simp [lens]; omega)) ?_)); clear hm; intro ws hm; simp only [List.set_cons_zero, List.set_cons_succ] at hm) | ((with_reducible refine gt_load 42 ?_); (first | (refine st_load rfl 42 _ rfl hm rfl 0 rfl agg42 (by first | omega | assumption | (simp only [lens]; first | omega | assumption) | (simp [lens]; done) | (simp [lens]; omega)) ?_) | (refine st_load rfl 42 _ rfl hm rfl 1 rfl agg42 (by first | omega | assumption | (simp only [lens]; first | omega | assumption) | (simp [lens]; done) | (simp [lens]; omega)) ?_) | (refine st_load rfl 42 _ rfl hm rfl 2 rfl agg42 (by first | omega | assumption | (simp only [lens]; first | omega | assumption) | (simp [lens]; done) | (simp [lens]; omega)) ?_) | (refine st_load rfl 42 _ rfl hm rfl 3 rfl agg42 (by first | omega | assumption | (simp only [lens]; first | omega | assumption) | (simp [lens]; done) | (simp [lens]; omega)) ?_) | (refine st_part rfl 42 _ rfl hm rfl 0 rfl agg42 (by first | omega | assumption | (simp only [lens]; first | omega | assumption) | (simp [lens]; done) | (simp [lens]; omega)) ?_) | (refine st_part rfl 42 _ rfl hm rfl 1 rfl agg42 (by first | omega | assumption | (simp only [lens]; first | omega | assumption) | (simp [lens]; done) | (simp [lens]; omega)) ?_) | (refine st_part rfl 42 _ rfl hm rfl 2 rfl agg42 (by first | omega | assumption | (simp only [lens]; first | omega | assumption) | (simp [lens]; done) | (simp [lens]; omega)) ?_) | (refine st_part rfl 42 _ rfl hm rfl 3 rfl agg42 (by first | omega | assumption | (simp only [lens]; first | omega | assumption) | (simp [lens]; done) | (simp [lens]; omega)) ?_))) | ((with_reducible refine gt_index 76 ?_); refine st_index rfl 76 _ _ rfl rfl rfl arr76 (by first | omega | assumption | (simp only [lens]; first | omega | assumption) | (simp [lens]; done) | (simp [lens]; omega)) (by first | omega | assumption | (simp only [lens]; first | omega | assumption) | (simp [lens]; done) | (simp [lens]; omega)) (by first | omega | assumption | (simp only [lens]; first | omega | assumption) | (simp [lens]; done) | (simp [lens]; omega)) ?_) | ((with_reducible refine gt_elem 42 ?_); refine st_elem rfl 42 _ _ rfl rfl rfl arr42 (by first | omega | assumption | (simp only [lens]; first | omega | assumption) | (simp [lens]; done) | (simp [lens]; omega)) (by first | omega | assumption | (simp only [lens]; first | omega | assumption) | (simp [lens]; done) | (simp [lens]; omega)) ?_) | ((with_reducible refine gt_store 2 ?_); (first | (refine st_set rfl 2 _ _ rfl hm rfl rfl 0 rfl one2 (by first | omega | assumption | (simp only [lens]; first | omega | assumption) | (simp [lens]; done) | (simp [lens]; omega)) ?_) | (refine st_set rfl 2 _ _ rfl hm rfl rfl 1 rfl one2 (by first | omega | assumption | (simp only [lens]; first | omega | assumption) | (simp [lens]; done) | (simp [lens]; omega)) ?_) | (refine st_set rfl 2 _ _ rfl hm rfl rfl 2 rfl one2 (by first | omega | assumption | (simp only [lens]; first | omega | assumption) | (simp [lens]; done) | (simp [lens]; omega)) ?_) | (refine st_set rfl 2 _ _ rfl hm rfl rfl 3 rfl one2 (by first | omega | assumption | (simp only [lens]; first | omega | assumption) | (simp [lens]; done) | (simp [lens]; omega)) ?_)); clear hm; intro ws hm; simp only [List.set_cons_zero, List.set_cons_succ] at hm))
    ((try simp only [Exit.inBlock, Exit.then]); (first | (refine ret_cell hm rfl rfl 1 rfl agg42 (by first | omega | assumption | (simp only [lens]; first | omega | assumption) | (simp [lens]; done) | (simp [lens]; omega)) rfl ?_) | (refine ret_cell_tmp hm rfl rfl 1 rfl agg42 (by first | omega | assumption | (simp only [lens]; first | omega | assumption) | (simp [lens]; done) | (simp [lens]; omega)) rfl ?_)))
    exact ⟨by rw [← HI.out]; rfl, hm.done rfl⟩
 ·rw [if_neg hk]
  have HK := Aside0.mk (show okH h = false by simpa using hk)
  clear hk
  go_enter Tryz.func14, Tryz.ntmps14
  go_wp2_with (first
   | (first | fail | ((with_reducible refine gt_alloc 2 42 ?_); refine st_alloc rfl 2 rfl 42 rfl hm zero42 ?_; clear hm; intro g2 w2 hm) | ((with_reducible refine gt_build 42 ?_); refine st_zero rfl 42 rfl built42 ?_) | ((with_reducible refine gt_alloc 4 42 ?_); refine st_alloc rfl 4 rfl 42 rfl hm zero42 ?_; clear hm; intro g4 w4 hm) | ((with_reducible refine gt_store 42 ?_); (first | (refine st_full rfl 42 _ _ rfl hm rfl rfl 0 rfl agg42 (by first | omega | assumption | (simp only [lens]; first | omega | assumption) | (simp [lens]; done) | (simp [lens]; omega)) (by first | omega | assumption | (simp only [lens]; first | omega | assumption) | (simp [lens]; done) | (simp [lens]; omega)) ?_) | (refine st_full rfl 42 _ _ rfl hm rfl rfl 1 rfl agg42 (by first | omega | assumption | (simp only [lens]; first | omega | assumption) | (simp [lens]; done) | (simp [lens]; omega)) (by first | omega | assumption | (simp only [lens]; first | omega | assumption) | (simp [lens]; done) | (simp [lens]; omega)) ?_) | (refine st_full rfl 42 _ _ rfl hm rfl rfl 2 rfl agg42 (by first | omega | assumption | (simp only [lens]; first | omega | assumption) | (simp [lens]; done) | (simp [lens]; omega)) (by first | omega | assumption | (simp only [lens]; first | omega | assumption) | (simp [lens]; done) | (simp [lens]; omega)) ?_) | (refine st_full rfl 42 _ _ rfl hm rfl rfl 3 rfl agg42 (by first | omega | assumption | (simp only [lens]; first | omega | assumption) | (simp [lens]; done) | (simp [lens]; omega)) (by first | omega | assumption | (simp only [lens]; first | omega | assumption) | (simp [lens]; done) | (simp [lens]; omega)) ?_) | (refine st_put rfl 42 _ _ rfl hm rfl rfl 0 rfl agg42 (by first | omega | assumption | (simp only [lens]; first | omega | assumption) | (simp [lens]; done) | (simp [lens]; omega)) (by first | omega | assumption | (simp only [lens]; first | omega | assumption) | (simp [lens]; done) | (simp [lens]; omega)) ?_) | (refine st_put rfl 42 _ _ rfl hm rfl rfl 1 rfl agg42 (by first | omega | assumption | (simp only [lens]; first | omega | assumption) | (simp [lens]; done) | (simp [lens]; omega)) (by first | omega | assumption | (simp only [lens]; first | omega | assumption) | (simp [lens]; done) | (simp [lens]; omega)) ?_) | (refine st_put rfl 42 _ _ rfl hm rfl rfl 2 rfl agg42 (by first | omega | assumption | (simp only [lens]; first | omega | assumption) | (simp [lens]; done) | (simp [lens]; omega)) (by first | omega | assumption | (simp only [lens]; first | omega | assumption) | (simp [lens]; done) | (simp [lens]; omega)) ?_) | (refine st_put rfl 42 _ _ rfl hm rfl rfl 3 rfl agg42 (by first | omega | assumption | (simp only [lens]; first | omega | assumption) | (simp [lens]; done) | (simp [lens]; omega)) (by first | omega | assumption | (simp only [lens]; first | omega | assumption) | (simp [lens]; done) | (simp [lens]; omega)) ?_)); clear hm; intro ws hm; simp only [List.set_cons_zero, List.set_cons_succ] at hm) | ((with_reducible refine gt_load 42 ?_); (first | (refine st_load rfl 42 _ rfl hm rfl 0 rfl agg42 (by first | omega | assumption | (simp only [lens]; first | omega | assumption) | (simp [lens]; done) | (simp [lens]; omega)) ?_) | (refine st_load rfl 42 _ rfl hm rfl 1 rfl agg42 (by first | omega | assumption | (simp only [lens]; first | omega | assumption) | (simp [lens]; done) | (simp [lens]; omega)) ?_) | (refine st_load rfl 42 _ rfl hm rfl 2 rfl agg42 (by first | omega | assumption | (simp only [lens]; first | omega | assumption) | (simp [lens]; done) | (simp [lens]; omega)) ?_) | (refine st_load rfl 42 _ rfl hm rfl 3 rfl agg42 (by first | omega | assumption | (simp only [lens]; first | omega | assumption) | (simp [lens]; done) | (simp [lens]; omega)) ?_) | (refine st_part rfl 42 _ rfl hm rfl 0 rfl agg42 (by first | omega | assumption | (simp only [lens]; first | omega | assumption) | (simp [lens]; done) | (simp [lens]; omega)) ?_) | (refine st_part rfl 42 _ rfl hm rfl 1 rfl agg42 (by first | omega | assumption | (simp only [lens]; first | omega | assumption) | (simp [lens]; done) | (simp [lens]; omega)) ?_) | (refine st_part rfl 42 _ rfl hm rfl 2 rfl agg42 (by first | omega | assumption | (simp only [lens]; first | omega | assumption) | (simp [lens]; done) | (simp [lens]; omega)) ?_) | (refine st_part rfl 42 _ rfl hm rfl 3 rfl agg42 (by first | omega | assumption | (simp only [lens]; first | omega | assumption) | (simp [lens]; done) | (simp [lens]; omega)) ?_))) | ((with_reducible refine gt_index 76 ?_); refine st_index rfl 76 _ _ rfl rfl rfl arr76 (by first | omega | assumption | (simp only [lens]; first | omega | assumption) | (simp [lens]; done) | (simp [lens]; omega)) (by first | omega | assumption | (simp only [lens]; first | omega | assumption) | (simp [lens]; done) | (simp [lens]; omega)) (by first | omega | assumption | (simp only [lens]; first | omega | assumption) | (simp [lens]; done) | (simp [lens]; omega)) ?_) | ((with_reducible refine gt_elem 42 ?_); refine st_elem rfl 42 _ _ rfl rfl rfl arr42 (by first | omega | assumption | (simp only [lens]; first | omega | assumption) | (simp [lens]; done) | (simp [lens]; omega)) (by first | omega | assumption | (simp only [lens]; first | omega | assumption) | (simp [lens]; done) | (simp [lens]; omega)) ?_) | ((with_reducible refine gt_store 2 ?_); (first | (refine st_set rfl 2 _ _ rfl hm rfl rfl 0 rfl one2 (by first | omega | assumption | (simp only [lens]; first | omega | assumption) | (simp [lens]; done) | (simp [lens]; omega)) ?_) | (refine st_set rfl 2 _ _ rfl hm rfl rfl 1 rfl one2 (by first | omega | assumption | (simp only [lens]; first | omega | assumption) | (simp [lens]; done) | (simp [lens]; omega)) ?_) | (refine st_set rfl 2 _ _ rfl hm rfl rfl 2 rfl one2 (by first | omega | assumption | (simp only [lens]; first | omega | assumption) | (simp [lens]; done) | (simp [lens]; omega)) ?_) | (refine st_set rfl 2 _ _ rfl hm rfl rfl 3 rfl one2 (by first | omega | assumption | (simp only [lens]; first | omega | assumption) | (simp [lens]; done) | (simp [lens]; omega)) ?_)); clear hm; intro ws hm; simp only [List.set_cons_zero, List.set_cons_succ] at hm))
   | (go_at_call 19; refine (validHoist_calls A0 c0 h _ (Kd.C_below HR.out (hm.done rfl)) hc HS.out.1 HS.out.2).mono ?_; rintro e wa ⟨rfl, hb⟩; replace hm := hm.after hb; clear hb; rw [HK.out]))
  ((try simp only [Exit.inBlock, Exit.then]); (first | (refine ret_cell hm rfl rfl 1 rfl agg42 (by first | omega | assumption | (simp only [lens]; first | omega | assumption) | (simp [lens]; done) | (simp [lens]; omega)) rfl ?_) | (refine ret_cell_tmp hm rfl rfl 1 rfl agg42 (by first | omega | assumption | (simp only [lens]; first | omega | assumption) | (simp [lens]; done) | (simp [lens]; omega)) rfl ?_)))
  exact ⟨rfl, hm.done rfl⟩
end Go.Proofs.YtpbomchjcgndoaaGreatDoor.Arr
namespace Go.Proofs.YtpbomchjcgndoaaGreatDoor.Arr
open Go.RowKit Go.Proofs.YtpbomchjcgndoaaGreatDoorW.PrintWords Go.Proofs.YtpbomchjcgndoaaGreatDoorW.PrintLast Go.Proofs.YtpbomchjcgndoaaGreatDoorW.PrintMore Go.Proofs.YtpbomchjcgndoaaGreatDoor.U Go.Proofs.YtpbomchjcgndoaaGreatDoor.N
set_option linter.unusedVariables false
set_option linter.unusedSimpArgs false
theorem infoStrH : (Tryz.prog.info? 9).map (fun i => (i.zero, i.size, i.bytes)) = some (some (.string ByteArray.empty), 1, 16) := by kernel_rfl
theorem decimalZ_calls (z : Int) (h0 : 0 ≤ z) (h : z < 100) (w : World) : Calls Tryz.prog 37 #[.int .i64 z] w fun e w' => e = .returned (.string ⟨(dg z.toNat).toArray⟩) ∧ Below w.heap.size w w' := by
 obtain ⟨n, rfl⟩ := Int.eq_ofNat_of_zero_le h0
 rw [Int.toNat_natCast]
 exact decimal_calls n (by omega) w
theorem joinH_calls (bk c : Nat) (l : List (List UInt8)) (w : World) (hc : ∀ (j : Nat) x, (txs l)[j]? = some x → w.cell? ⟨bk, 0 + j, none⟩ = some (.string x)) (hbk : bk < w.heap.size) (hn : l.length ≤ 8) (hcap : l.length ≤ c) (hl : (Lib.join l [32]).length ≤ 40) :
  Calls Tryz.prog 38 #[.slice (some ⟨bk, 0, none⟩) l.length c, .string ⟨#[32]⟩] w fun e w' => e = .returned (.string ⟨(Lib.join l [32]).toArray⟩) ∧ Below w.heap.size w w' := by
 have hmap : (txs l).map (·.data.toList) = l := by
  rw [List.map_map]
  have : ((fun x : ByteArray => x.data.toList) ∘ fun x : List UInt8 => (⟨x.toArray⟩ : ByteArray)) = id := by funext x; simp
  rw [this, List.map_id]
 have h := Any.strings_Join lay156 extra156 bk 0 c (txs l) ⟨#[32]⟩ w hc hbk (by simp; omega) (by simpa using hcap) (by
  rw [hmap]
  show (Lib.join l [32]).length ≤ _
  omega)
 rw [hmap, List.length_map] at h
 exact h
def WH (w : World) (v : Value) (l : List (List UInt8)) (W : World) : Prop := Below w.heap.size w W ∧ Kd.R Kd.string 9 W w.heap.size (fun _ => True) v (txs l)
theorem WH.below {w W W1 : World} {v : Value} {l : List (List UInt8)} (h : WH w v l W) (hb : Below W.heap.size W W1) : WH w v l W1 := ⟨below_then h.1 hb, Kd.R_below h.2 hb⟩
theorem take_map (h : List Int) (i : Nat) (hi : i < h.length) : (h.take (i + 1)).map wdH = (h.take i).map wdH ++ [wdH (rd h (i : Int))] := by
 rw [take_step h i hi, List.map_append]; rfl
set_option maxHeartbeats 8000000 in
set_option maxRecDepth 100000 in
theorem implHoistText_calls (A0 : Option Addr) (c0 : Nat) (h : List Int) (w : World) (hr : Kd.C (Kd.int .i8) w A0 h.length h) (hc : h.length ≤ c0) (hk : okH h = true) :
  Calls Tryz.prog 11 #[.slice A0 h.length c0] w fun e w' => e = .returned (.string ⟨(hoistT h).toArray⟩) ∧ Below w.heap.size w w' := by
 have hlen := okH_len hk
 have hnum := okH_num hk
 have hsm : Small8 h := ⟨by omega, fun x hx => by have := hnum x hx; unfold NumH at this; omega⟩
 have HV := Aside0.mk (validHoist_calls A0 c0 h w hr hc hsm.1 hsm.2)
 rw [hk] at HV
 have HR := Aside0.mk hr
 have HN := Aside0.mk hnum
 have HTF := Aside0.mk (hoistT_facts hnum hlen.1 hlen.2)
 clear hr hk hsm hnum
 go_enter Tryz.func11, Tryz.ntmps11
 go_wp2_with (first
  | (go_at_call 19; refine HV.out.mono ?_; rintro e w1 ⟨rfl, hb⟩; have HB1 := Aside0.mk hb; clear hb)
  | ((with_reducible refine gate_dst (N := 9) rfl ?_); refine Kd.R_lit Kd.string (w0 := w) w.heap.size 9 ?hg (N := 9) ?hd (xs := []) (inner := []) (ok := fun _ => True) (okp := fun _ => True) ?hr ?hp (fun _ hk => hk) trivial HB1.out HB1.out.size (by simp) ?_; (case hd => rfl); (case hg => rfl); (case hr => first | (go_simp; done) | (go_simp; rfl)); (case hp => exact (Reps.none _ _)); intro v9 w9 ho hb hgr _; have HW0 := Aside0.mk (show WH w v9 [] w9 from ⟨hb, ho⟩); clear ho hb hgr))
 go_loopw [12, 3] (fun v12 v3 wr => ∃ i : Nat, i ≤ h.length ∧ v12 = .int .i64 i ∧ Aside0 (WH w v3 ((h.take i).map wdH) wr)) (fun v12 _ _ => h.length - (intOf v12).toNat)
 case atStart => exact ⟨0, by omega, rfl, HW0⟩
 case round =>
  clear HW0
  obtain ⟨i, hi, rfl, HW⟩ := hrel
  obtain ⟨A3, c3, hv3⟩ := Kd.R_slice HW.out.2
  rw [txs, List.length_map, List.length_map, List.length_take] at hv3
  subst hv3
  by_cases hlt : i < h.length
  ·obtain ⟨ad, rfl, hcx⟩ := Kd.at_int (Kd.C_below HR.out HW.out.1) (i : Int) (by omega) (by omega)
   rw [Int.toNat_natCast] at hcx
   have hnx := HN.out _ (show rd h (i : Int) ∈ h by rw [rd_get h i hlt]; exact List.getElem_mem _)
   have HS := Aside0.mk (take_map h i hlt)
   have hml : min i h.length = i := by omega
   rw [hml] at HW ⊢
   have hll : ((h.take i).map wdH).length = i := by rw [List.length_map, List.length_take, hml]
   have HLL := Aside0.mk hll
   clear hll hml
   generalize hxg : rd h (i : Int) = x at *
   clear hxg
   generalize (h.take i).map wdH = L at *
   by_cases h10 : x = -10
   ·subst h10
    clear hnx
    go_wp2_with (first
     | ((with_reducible refine gate_builtin (b := .append) (xs := #[.tmp 25, .tmp 26]) rfl ?_); at_builtin; refine Kd.R_append Kd.string (w0 := w) w.heap.size rfl (.tmp 25) (.tmp 26) 66 9 (.string ByteArray.empty) 16 rfl Tryz.underlying66 infoStrH rfl (by decide) (by decide) (.slice A3 i c3) (txs L) _ _ (fun _ => True) (fun _ => False) rfl rfl (by rfl) (fun _ hk => hk.elim) (fun _ _ => trivial) HW.out.2 HW.out.1 HW.out.1.size (by have := HLL.out; simp; omega) ?_; intro v4 w9 ho9 hb9 hg9 _; have HW9 := Aside0.mk (show WH w v4 (L ++ [wdH (-10)]) w9 from ⟨hb9, by rw [txs, List.map_append]; exact ho9⟩); clear ho9 hb9 hg9))
    go_roundw
    case rel => exact ⟨i + 1, by omega, by go_num, by rw [HS.out]; exact HW9⟩
    case measure => simp [intOf]; omega
   ·by_cases h0 : x < 0
    ·have hb4 : -4 ≤ x ∧ x ≤ -1 := by (try unfold NumH at hnx); omega
     have HWD := Aside0.mk (show ((⟨#[115]⟩ : ByteArray) ++ ⟨(dg (-x).toNat).toArray⟩) = ⟨(wdH x).toArray⟩ by unfold wdH; rw [if_neg h10, if_pos h0]; simp [bs_app_data])
     have hdn := dg_len (-x).toNat
     have hg1 : ¬ (9223372036854775807 < 1 + (dg (-x).toNat).length) := by omega
     clear hnx
     go_wp2_with (first
      | (go_at_call 37; refine (decimalZ_calls _ (by omega) (by omega) _).mono ?_; rintro e wa ⟨rfl, hb⟩; replace HW := Aside0.mk (HW.out.below hb); clear hb)
      | ((with_reducible refine gate_builtin (b := .append) (xs := #[.tmp 31, .tmp 37]) rfl ?_); at_builtin; refine Kd.R_append Kd.string (w0 := w) w.heap.size rfl (.tmp 31) (.tmp 37) 66 9 (.string ByteArray.empty) 16 rfl Tryz.underlying66 infoStrH rfl (by decide) (by decide) (.slice A3 i c3) (txs L) _ _ (fun _ => True) (fun _ => False) rfl rfl (by rfl) (fun _ hk => hk.elim) (fun _ _ => trivial) HW.out.2 HW.out.1 HW.out.1.size (by have := HLL.out; simp; omega) ?_; intro v4 w9 ho9 hb9 hg9 _; rw [HWD.out] at ho9; have HW9 := Aside0.mk (show WH w v4 (L ++ [wdH x]) w9 from ⟨hb9, by rw [txs, List.map_append]; exact ho9⟩); clear ho9 hb9 hg9))
     go_roundw
     case rel => exact ⟨i + 1, by omega, by go_num, by rw [HS.out]; exact HW9⟩
     case measure => simp [intOf]; omega
    ·have hb4 : 0 ≤ x ∧ x ≤ 39 := by (try unfold NumH at hnx); omega
     have HWD := Aside0.mk (show (⟨(dg x.toNat).toArray⟩ : ByteArray) = ⟨(wdH x).toArray⟩ by unfold wdH; rw [if_neg h10, if_neg h0])
     clear hnx
     go_wp2_with (first
      | (go_at_call 37; refine (decimalZ_calls _ (by omega) (by omega) _).mono ?_; rintro e wa ⟨rfl, hb⟩; replace HW := Aside0.mk (HW.out.below hb); clear hb)
      | ((with_reducible refine gate_builtin (b := .append) (xs := #[.tmp 16, .tmp 20]) rfl ?_); at_builtin; refine Kd.R_append Kd.string (w0 := w) w.heap.size rfl (.tmp 16) (.tmp 20) 66 9 (.string ByteArray.empty) 16 rfl Tryz.underlying66 infoStrH rfl (by decide) (by decide) (.slice A3 i c3) (txs L) _ _ (fun _ => True) (fun _ => False) rfl rfl (by rfl) (fun _ hk => hk.elim) (fun _ _ => trivial) HW.out.2 HW.out.1 HW.out.1.size (by have := HLL.out; simp; omega) ?_; intro v4 w9 ho9 hb9 hg9 _; rw [HWD.out] at ho9; have HW9 := Aside0.mk (show WH w v4 (L ++ [wdH x]) w9 from ⟨hb9, by rw [txs, List.map_append]; exact ho9⟩); clear ho9 hb9 hg9))
     go_roundw
     case rel => exact ⟨i + 1, by omega, by go_num, by rw [HS.out]; exact HW9⟩
     case measure => simp [intOf]; omega
  ·have hI : i = h.length := by omega
   have HTK := Aside0.mk (show (h.take i).map wdH = h.map wdH by rw [hI, List.take_length])
   rw [HTK.out] at HW
   have hmn : min i h.length = (h.map wdH).length := by rw [List.length_map]; omega
   rw [hmn]
   have hlm : (h.map wdH).length = h.length := List.length_map ..
   obtain ⟨bk, cap, hv, _, hbk, _⟩ := Kd.R_form HW.out.2 (by rw [txs, List.length_map]; omega)
   rw [txs, List.length_map, hmn] at hv
   injection hv with hA _ hcc
   subst hA hcc
   have HRD := Aside0.mk (Kd.R_reads' HW.out.2)
   have HCL := Aside0.mk (fun (j : Nat) y (hj : (txs (h.map wdH))[j]? = some y) => txt_cell HRD.out.2.2 hj)
   have HJ := Aside0.mk (joinH_calls bk c3 (h.map wdH) wr HCL.out hbk (by omega) (by have := HRD.out.2.1; rw [hmn] at this; exact this) HTF.out.2)
   have HE := Aside0.mk (show Lib.join (h.map wdH) [32] = hoistT h from rfl)
   rw [HE.out] at HJ
   clear hmn hI HRD HCL hlm
   generalize (h.map wdH).length = nx at *
   go_wp2_with (go_at_call 38; refine HJ.out.mono ?_; rintro e wa ⟨rfl, hb⟩; have HB9 := Aside0.mk (below_then HW.out.1 hb); clear hb)
   go_ret
   exact ⟨rfl, HB9.out⟩
end Go.Proofs.YtpbomchjcgndoaaGreatDoor.Arr
namespace Go.Proofs.YtpbomchjcgndoaaGreatDoor.Arr
open Go.RowKit Go.Proofs.YtpbomchjcgndoaaGreatDoorW.PrintWords Go.Proofs.YtpbomchjcgndoaaGreatDoorW.PrintLast Go.Proofs.YtpbomchjcgndoaaGreatDoorW.PrintMore Go.Proofs.YtpbomchjcgndoaaGreatDoor.U Go.Proofs.YtpbomchjcgndoaaGreatDoor.N
set_option linter.unusedVariables false
set_option linter.unusedSimpArgs false
def GivesT (ws : List (List UInt8)) (w : World) (e : Ending) (w' : World) : Prop := ∃ bk cap, e = .returned (.slice (some ⟨bk, 0, none⟩) ws.length cap) ∧ (∀ W : World, W.heap[bk]? = w'.heap[bk]? → ∀ (j : Nat) x, ws[j]? = some x → W.cell? ⟨bk, j, none⟩ = some (.string ⟨x.toArray⟩)) ∧ (w.heap.size ≤ bk ∧ bk < w'.heap.size) ∧ Below w.heap.size w w'
theorem splitM_calls (c : UInt8) (l : List UInt8) (hl : l.length ≤ 1048576) (w : World) (hD : ∃ m, w.cell? ⟨ren146.g 1, 0, none⟩ = some (.int .i64 m)) : Calls Tryz.prog 33 #[.string ⟨l.toArray⟩, .string ⟨#[c]⟩] w
  fun e w' => GivesT (sp c l) w e w' := by
 obtain ⟨m, hm⟩ := hD
 have hn : (Lib.splitB ⟨#[c]⟩ 0 (Lib.countB ⟨l.toArray⟩ ⟨#[c]⟩) ⟨l.toArray⟩).length = Lib.countB ⟨l.toArray⟩ ⟨#[c]⟩ + 1 := Lib.splitB_all ⟨#[c]⟩ (Nat.le_refl 1) 0 _ _ rfl
 have hs := splitB_sp c l.length ⟨l.toArray⟩ (by rw [bs_size]; exact Nat.le_refl _)
 rw [show (⟨l.toArray⟩ : ByteArray).data.toList = l by simp] at hs
 have hl2 : Lib.countB ⟨l.toArray⟩ ⟨#[c]⟩ + 1 = (sp c l).length := by rw [← hn, ← hs, List.length_map]
 refine (Any.strings_Split { lay146 with } lay146.i9 ⟨l.toArray⟩ ⟨#[c]⟩ m w (by rw [bs_size]; omega) hm (Nat.le_refl 1)).mono ?_
 rintro e w' ⟨rfl, rfl⟩
 rw [hl2]
 generalize Lib.splitB ⟨#[c]⟩ 0 (Lib.countB ⟨l.toArray⟩ ⟨#[c]⟩) ⟨l.toArray⟩ = xs at *
 refine ⟨w.heap.size, _, rfl, fun W hW j x hj => ?_, ⟨Nat.le_refl _, by simp⟩, Below.alloc (Below.refl _ _) (Nat.le_refl _) _⟩
 have hc : W.heap[w.heap.size]? = some (.cells (xs.map Value.string).toArray (ren146.t 9) (0, 0)) := hW.trans (Go.heap_alloc_new w _)
 rw [cell_of_row W w.heap.size j _ _ (0, 0) hc, List.getElem?_toArray, List.getElem?_map]
 have hj2 : (xs.map (·.data.toList))[j]? = some x := by rw [hs]; exact hj
 rw [List.getElem?_map] at hj2
 rcases hy : xs[j]? with _ | y
 ·rw [hy] at hj2; cases hj2
 ·rw [hy] at hj2
  injection hj2 with hj2
  subst hj2
  rfl
structure Bk (bk : Nat) (ws : World) (v : Value) (W : World) : Prop where
 eq : W.heap[bk]? = ws.heap[bk]?
 lt : bk < W.heap.size
 ne : ∀ k, v.ownBlock = some k → k ≠ bk
theorem Bk.below {bk : Nat} {ws : World} {v : Value} {W W1 : World} (h : Bk bk ws v W) (hb : Below W.heap.size W W1) : Bk bk ws v W1 := ⟨(hb.block _ h.lt).trans h.eq, Nat.lt_of_lt_of_le h.lt hb.size, h.ne⟩
theorem Bk.grown {bk : Nat} {ws : World} {v v1 : Value} {W W1 : World} (h : Bk bk ws v W) (hg : W.grownBy W1 v.ownBlock) (hat : v1.ownBlock = v.ownBlock ∨ ∃ b, v1.ownBlock = some b ∧ W.heap.size ≤ b) : Bk bk ws v1 W1 := by
 have he := hg.block bk h.lt (fun e => h.ne bk e.symm rfl)
 refine ⟨he.trans h.eq, ?_, fun k hk => ?_⟩
 ·have := he
  rw [Array.getElem?_eq_getElem h.lt] at this
  exact (Array.getElem?_eq_some_iff.1 this).1
 ·rcases hat with hat | ⟨b, hb, hle⟩
  ·exact h.ne k (hat ▸ hk)
  ·rw [hb] at hk
   have := Option.some.inj hk
   have := h.lt
   omega
theorem prefI_calls (x : List UInt8) (w : World) : Calls Tryz.prog 34 #[.string ⟨x.toArray⟩, .string ⟨#[115]⟩] w
  fun e w' => e = .returned (.tuple #[.string ⟨(Lib.trimPrefix x [115]).toArray⟩, .bool (Lib.hasPrefix x [115])]) ∧ w' = w := by
 have := Any.strings_CutPrefix lay103 ⟨x.toArray⟩ ⟨#[115]⟩ w
 rw [show (⟨x.toArray⟩ : ByteArray).data.toList = x by simp] at this
 exact this
def HRd (w : World) (bk : Nat) (ws : World) (v : Value) (l : List Int) (W : World) : Prop := Below w.heap.size w W ∧ Kd.R (Kd.int .i8) 51 W w.heap.size (fun _ => True) v l ∧ Bk bk ws v W
theorem HRd.below {w W W1 ws : World} {bk : Nat} {v : Value} {l : List Int} (h : HRd w bk ws v l W) (hb : Below W.heap.size W W1) : HRd w bk ws v l W1 := ⟨below_then h.1 hb, Kd.R_below h.2.1 hb, h.2.2.below hb⟩
theorem infoI8H : (Tryz.prog.info? 51).map (fun i => (i.zero, i.size, i.bytes)) = some (some (.int .i8 0), 1, 1) := by kernel_rfl
set_option maxHeartbeats 8000000 in
set_option maxRecDepth 100000 in
theorem implReadHoist_calls (h : List Int) (w : World) (hk : okH h = true) (hD0 : Door w) :
  Calls Tryz.prog 10 #[.string ⟨(hoistT h).toArray⟩] w fun e w' => ∃ v, e = .returned (.tuple #[v, .int .i64 0]) ∧ Kd.R (Kd.int .i8) 51 w' w.heap.size (fun _ => True) v h ∧ Below w.heap.size w w' := by
 have hlen := okH_len hk
 have HN := Aside0.mk (okH_num hk)
 obtain ⟨hsp, htl⟩ := hoistT_facts HN.out hlen.1 hlen.2
 have HV := Aside0.mk (fun A c W (hr : Kd.C (Kd.int .i8) W A h.length h) (hc : h.length ≤ c) => validHoist_calls A c h W hr hc (by omega) (fun x hx => by have := HN.out x hx; unfold NumH at this; omega))
 rw [hk] at HV
 have HD := Aside0.mk (fun W (hb : Below w.heap.size w W) => hD0.below hb)
 have HSP := Aside0.mk (fun W (hW : Below w.heap.size w W) => splitM_calls 32 (hoistT h) (by omega) W (HD.out W hW).len)
 rw [hsp] at HSP
 generalize hoistT h = T at *
 clear hk hsp htl
 go_enter Tryz.func10, Tryz.ntmps10
 go_wp2_with (first
  | ((with_reducible refine gate_dst (N := 11) rfl ?_); refine Kd.R_lit (Kd.int .i8) (w0 := w) w.heap.size 51 ?hg (N := 11) ?hd (xs := []) (inner := []) (ok := fun _ => True) (okp := fun _ => True) ?hr ?hp (fun _ hk => hk) trivial (Below.refl _ _) (Nat.le_refl _) (by simp) ?_; (case hd => rfl); (case hg => rfl); (case hr => first | (go_simp; done) | (go_simp; rfl)); (case hp => exact (Reps.none _ _)); intro v11 w11 ho hb hgr _; have HO := Aside0.mk ho; have HB := Aside0.mk hb; clear ho hb hgr)
  | (go_at_call 33; refine (HSP.out _ HB.out).mono ?_; rintro e w13 ⟨bk, cap, rfl, hcells, hbk, hb⟩; have HC := Aside0.mk hcells; have HG0 := Aside0.mk (show HRd w bk w13 v11 [] w13 from ⟨below_then HB.out hb, Kd.R_below HO.out hb, rfl, hbk.2, fun k hk => by have := Kd.R_lt HO.out k hk; omega⟩); clear hcells hbk hb; rw [List.length_map]))
 clear HO HB HSP
 go_loopw [15, 4] (fun v15 v4 wr => ∃ i : Nat, i ≤ h.length ∧ v15 = .int .i64 i ∧ Aside0 (HRd w bk w13 v4 (h.take i) wr)) (fun v15 _ _ => h.length - (intOf v15).toNat)
 case atStart => exact ⟨0, by omega, rfl, HG0⟩
 case round =>
  clear HG0
  obtain ⟨i, hi, rfl, HG⟩ := hrel
  obtain ⟨A4, c4, hv4⟩ := Kd.R_slice HG.out.2.1
  rw [List.length_take] at hv4
  subst hv4
  by_cases hlt : i < h.length
  ·have hml : min i h.length = i := by omega
   rw [hml] at HG ⊢
   have HX := Aside0.mk (take_step h i hlt)
   have hc17 := HC.out wr HG.out.2.2.eq i (wdH (rd h (i : Int))) (by rw [List.getElem?_map, List.getElem?_eq_getElem hlt, rd_get h i hlt]; rfl)
   have hnx := HN.out _ (show rd h (i : Int) ∈ h by rw [rd_get h i hlt]; exact List.getElem_mem _)
   have HW := Aside0.mk (wordH_of hnx)
   have HLL := Aside0.mk (show (h.take i).length = i by rw [List.length_take, hml])
   have hi8 : ((i : Int) == 8) = false := by rw [beq_eq_false_iff_ne]; omega
   clear hml
   generalize rd h (i : Int) = x at *
   generalize wdH x = wd at *
   generalize h.take i = L at *
   by_cases h10 : x = -10
   ·have hwd := HW.out.brk h10
    subst hwd
    subst h10
    clear hnx HW
    go_wp2_with (first
     | ((with_reducible refine gate_builtin (b := .append) (xs := #[.tmp 21, .tmp 22]) rfl ?_); at_builtin; refine Kd.R_append (Kd.int .i8) (w0 := w) w.heap.size rfl (.tmp 21) (.tmp 22) 25 51 (.int .i8 0) 1 rfl Tryz.underlying25 infoI8H rfl (by decide) (by decide) (.slice A4 i c4) L (-10) _ (fun _ => True) (fun _ => False) rfl rfl (by rfl) (fun _ hk => hk.elim) (fun _ _ => trivial) HG.out.2.1 HG.out.1 HG.out.1.size (by have := HLL.out; omega) ?_; intro v23 w23 ho hb hg hat; have HG9 := Aside0.mk (show HRd w bk w13 v23 (L ++ [-10]) w23 from ⟨hb, ho, HG.out.2.2.grown hg hat⟩); clear ho hb hg hat))
    go_roundw
    case rel => exact ⟨i + 1, by omega, by go_num, by rw [HX.out]; exact HG9⟩
    case measure => simp [intOf]; omega
   ·by_cases h0 : 0 ≤ x
    ·obtain ⟨n, rfl⟩ := Int.eq_ofNat_of_zero_le h0
     have hb : n ≤ 39 := by (try unfold NumH at hnx); omega
     obtain ⟨hne, htr, hpr⟩ := HW.out.flag h0
     rw [Int.toNat_natCast] at htr
     have hq47 : (wd == [47]) = false := by simpa using hne
     have HPR := Aside0.mk (fun W => prefI_calls wd W)
     rw [htr, hpr] at HPR
     have hdl := dg_len n
     have HNU := Aside0.mk (fun W hW => number_calls (dg n) (by omega) 39 (by omega) W hW)
     rw [numI_eq (by omega) hb] at HNU
     have HNU : Aside0 (∀ W, Door W → Calls Tryz.prog 35 #[.string ⟨(dg n).toArray⟩, .int .i64 39] W fun e w' => e = .returned (.tuple #[.int .i64 (n : Int), .bool true]) ∧ Below W.heap.size W w') := ⟨HNU.out⟩
     clear hnx HW hne htr hpr h0 h10 hdl
     generalize dg n = D at *
     go_wp2_with (first
      | (go_at_call 34; refine (HPR.out _).mono ?_; rintro e wc ⟨rfl, rfl⟩)
      | (go_at_call 35; refine (HNU.out _ (HD.out _ HG.out.1)).mono ?_; rintro e wd2 ⟨rfl, hb2⟩; replace HG := Aside0.mk (HG.out.below hb2); clear hb2)
      | ((with_reducible refine gate_builtin (b := .append) (xs := #[.tmp 52, .tmp 55]) rfl ?_); at_builtin; refine Kd.R_append (Kd.int .i8) (w0 := w) w.heap.size rfl (.tmp 52) (.tmp 55) 25 51 (.int .i8 0) 1 rfl Tryz.underlying25 infoI8H rfl (by decide) (by decide) (.slice A4 i c4) L (n : Int) _ (fun _ => True) (fun _ => False) rfl rfl (by rfl) (fun _ hk => hk.elim) (fun _ _ => trivial) HG.out.2.1 HG.out.1 HG.out.1.size (by have := HLL.out; omega) ?_; intro v23 w23 ho hb hg hat; have HG9 := Aside0.mk (show HRd w bk w13 v23 (L ++ [(n : Int)]) w23 from ⟨hb, ho, HG.out.2.2.grown hg hat⟩); clear ho hb hg hat))
     go_roundw
     case rel => exact ⟨i + 1, by omega, by go_num, by rw [HX.out]; exact HG9⟩
     case measure => simp [intOf]; omega
    ·have hb4 : -4 ≤ x ∧ x ≤ -1 := by (try unfold NumH at hnx); omega
     obtain ⟨hne, htr, hpr⟩ := HW.out.sub hb4.1 (by omega)
     obtain ⟨n, hn⟩ := Int.eq_ofNat_of_zero_le (show 0 ≤ -x by omega)
     obtain rfl : x = -(n : Int) := by omega
     rw [Int.neg_neg, Int.toNat_natCast] at htr
     have hb : 1 ≤ n ∧ n ≤ 4 := by omega
     have hq47 : (wd == [47]) = false := by simpa using hne
     have HPR := Aside0.mk (fun W => prefI_calls wd W)
     rw [htr, hpr] at HPR
     have hdl := dg_len n
     have HNU := Aside0.mk (fun W hW => number_calls (dg n) (by omega) 39 (by omega) W hW)
     rw [numI_eq (by omega) (by omega)] at HNU
     have HNU : Aside0 (∀ W, Door W → Calls Tryz.prog 35 #[.string ⟨(dg n).toArray⟩, .int .i64 39] W fun e w' => e = .returned (.tuple #[.int .i64 (n : Int), .bool true]) ∧ Below W.heap.size W w') := ⟨HNU.out⟩
     have HIN := Aside0.mk (fun W => impl_within.calls (n : Int) 1 4 true W (by unfold impl_within.f; by_cases h : (1 : Int) ≤ (n : Int) <;> simp [h] <;> omega))
     clear hnx HW hne htr hpr h0 h10 hdl hb4 hn
     generalize dg n = D at *
     go_wp2_with (first
      | (go_at_call 34; refine (HPR.out _).mono ?_; rintro e wc ⟨rfl, rfl⟩)
      | (go_at_call 35; refine (HNU.out _ (HD.out _ HG.out.1)).mono ?_; rintro e wd2 ⟨rfl, hb2⟩; replace HG := Aside0.mk (HG.out.below hb2); clear hb2)
      | (go_at_call 36; refine (HIN.out _).mono ?_; rintro e wf ⟨rfl, nf, rfl⟩; replace HG := Aside0.mk (HG.out.below (Below.drawn3 (Below.refl _ _) nf)))
      | ((with_reducible refine gate_builtin (b := .append) (xs := #[.tmp 52, .tmp 55]) rfl ?_); at_builtin; refine Kd.R_append (Kd.int .i8) (w0 := w) w.heap.size rfl (.tmp 52) (.tmp 55) 25 51 (.int .i8 0) 1 rfl Tryz.underlying25 infoI8H rfl (by decide) (by decide) (.slice A4 i c4) L (-(n : Int)) _ (fun _ => True) (fun _ => False) rfl rfl (by rfl) (fun _ hk => hk.elim) (fun _ _ => trivial) HG.out.2.1 HG.out.1 HG.out.1.size (by have := HLL.out; omega) ?_; intro v23 w23 ho hb hg hat; have HG9 := Aside0.mk (show HRd w bk w13 v23 (L ++ [-(n : Int)]) w23 from ⟨hb, ho, HG.out.2.2.grown hg hat⟩); clear ho hb hg hat))
     go_roundw
     case rel => exact ⟨i + 1, by omega, by go_num, by rw [HX.out]; exact HG9⟩
     case measure => simp [intOf]; omega
  ·have hI : i = h.length := by omega
   have HTK := Aside0.mk (show h.take i = h by rw [hI, List.take_length])
   rw [HTK.out] at HG
   rw [show min i h.length = h.length by omega] at HG ⊢
   have HRR := Aside0.mk (Kd.R_reads' HG.out.2.1)
   have HVV := Aside0.mk (HV.out A4 c4 wr HRR.out.2.2 HRR.out.2.1)
   clear hI
   go_wp2_with (go_at_call 19; refine HVV.out.mono ?_; rintro e we ⟨rfl, hb⟩; replace HG := Aside0.mk (HG.out.below hb); clear hb)
   go_ret2
   exact ⟨_, rfl, HG.out.2.1, HG.out.1⟩
end Go.Proofs.YtpbomchjcgndoaaGreatDoor.Arr
namespace Go.Proofs.YtpbomchjcgndoaaGreatDoor.Arr
open Go.RowKit Go.Proofs.YtpbomchjcgndoaaGreatDoorW.PrintWords Go.Proofs.YtpbomchjcgndoaaGreatDoorW.PrintLast Go.Proofs.YtpbomchjcgndoaaGreatDoorW.PrintMore Go.Proofs.YtpbomchjcgndoaaGreatDoor.U Go.Proofs.YtpbomchjcgndoaaGreatDoor.N
set_option linter.unusedVariables false
set_option linter.unusedSimpArgs false
abbrev ShpM := Option Addr × Nat × Nat
abbrev shv (s : ShpM) : Value := .slice s.1 s.2.1 s.2.2
def kdM : Kd ShpM := Kd.scalar (fun x => Value.slice x.1 x.2.1 x.2.2) (fun _ => rfl)
theorem infoM : (Tryz.prog.info? 27).map (fun i => (i.zero, i.size, i.bytes)) = some (some (.slice none 0 0), 1, 24) := by kernel_rfl
theorem infoI8 : (Tryz.prog.info? 51).map (fun i => (i.zero, i.size, i.bytes)) = some (some (.int .i8 0), 1, 1) := by kernel_rfl
theorem oneMe : OneTy Tryz.prog 27 := ⟨by kernel_rfl, by kernel_rfl⟩
section
variable {P : Program} {w : World} {o : Oper} {a : Act}
theorem y_storeC {ty : TypeId} {x y : Operand} (ho : o.op = .store ty x y) {g i : Nat} {v u : Value} (hx : a.eval x = .pointer (some ⟨g, i, none⟩)) (hy : a.eval y = v) (hc : w.cell? ⟨g, i, none⟩ = some u) (hf : w.frozen? ⟨g, i, none⟩ = false) (h1 : OneTy P ty) (hv : v.cells = #[v]) (hv1 : v.oneCell' = true) : (execOp a.eval o).run P w = .ok .skip (w.setCell ⟨g, i, none⟩ v) := by
 have hst : (storeVar ty ⟨g, i, none⟩ v).run P w = .ok () (w.setCell ⟨g, i, none⟩ v) := run_store1 h1.2 hv hc hf hv1
 unfold execOp
 simp only [ho, hx, hy, Instr.storeAt, Instr.sureAddr, Sem.run_bind, Sem.run_pure, Result.andThen_ok, hst]
end
structure LM (b : Nat) (W : World) (v : Value) (ss : List ShpM) (gs : List (List Int)) (f : Nat → Nat) : Prop where
 len : ss.length = gs.length
 sp : Kd.R kdM 27 W b (fun _ => True) v ss
 rows : ∀ j x s, gs[j]? = some x → ss[j]? = some s → Kd.R (Kd.int .i8) 51 W b (fun k => f k = j) (shv s) x
section
variable {b : Nat} {W W1 W2 : World} {v v1 : Value} {ss : List ShpM} {gs : List (List Int)} {f : Nat → Nat}
theorem row_step {ok : Nat → Prop} {x : List Int} (h : Kd.R (Kd.int .i8) 51 W b ok v x) (hm : ∀ k cs, ok k → W.heap[k]? = some (.cells cs 51 (0, 0)) → W1.heap[k]? = W.heap[k]?) : Kd.R (Kd.int .i8) 51 W1 b (fun k => ok k ∧ k < W.heap.size) v x :=
 Kd.R_mono (Kd.R_move (Kd.R_bound h) (fun k hk => by
  obtain ⟨h0, _, _, q, hq, cells, hc⟩ := hk
  rw [List.mem_cons] at hq
  rcases hq with hq | hq
  ·subst hq; exact hm k cells h0 hc
  ·simp [Kd.int, Kd.scalar] at hq)) (fun k hk => ⟨hk.1, hk.2.2.1⟩)
theorem LM.below (h : LM b W v ss gs f) (hb : Below W.heap.size W W1) : LM b W1 v ss gs f :=
 ⟨h.len, Kd.R_below h.sp hb, fun j x s hj hs => Kd.R_below (h.rows j x s hj hs) hb⟩
theorem LM.push (h : LM b W v ss gs f) (hbs : b ≤ W.heap.size) (hb : Below W.heap.size W W1) {s : ShpM} {x : List Int} (hx : Kd.R (Kd.int .i8) 51 W1 W.heap.size (fun _ => True) (shv s) x) (hg : W1.grownBy W2 v.ownBlock) (hr : Kd.R kdM 27 W2 b (fun _ => True) v1 (ss ++ [s])) :
  LM b W2 v1 (ss ++ [s]) (gs ++ [x]) (fun k => if k < W.heap.size then f k else gs.length) := by
 have hty := Kd.R_typed (Kd.R_below h.sp hb)
 refine ⟨by simp [h.len], hr, fun j y q hj hq => ?_⟩
 rcases Nat.lt_or_ge j gs.length with hlt | hge
 ·rw [List.getElem?_append_left hlt] at hj
  rw [List.getElem?_append_left (by have := h.len; omega)] at hq
  have h1 := row_step (h.rows j y q hj hq) (W1 := W1) (fun k cs _ hk => hb.block k (lt_of_some hk))
  have h2 := Kd.R_over' h1 hty (by intro q hq; simp [Kd.int, Kd.scalar] at hq; subst hq; decide) hg
  refine Kd.R_mono h2 (fun k hk => ?_)
  try dsimp only
  rw [if_pos hk.2]
  exact hk.1
 ·have hj1 := (List.getElem?_eq_some_iff.1 hj).1
  simp at hj1
  obtain rfl : j = gs.length := by omega
  simp at hj
  rw [← h.len] at hq
  simp at hq
  subst hj hq
  have h2 := Kd.R_over' hx hty (by intro q hq; simp [Kd.int, Kd.scalar] at hq; subst hq; decide) hg
  have h3 := Kd.R_lower (Kd.R_bound h2) hbs
  refine Kd.R_mono h3 (fun k hk => ?_)
  try dsimp only
  rw [if_neg (by have := hk.2.1; omega)]
theorem LM.grow {g n cap : Nat} (h : LM b W (.slice (some ⟨g, 0, none⟩) n cap) ss gs f) {j : Nat} {s s' : ShpM} {x x' : List Int} (hj : gs[j]? = some x) (hs : ss[j]? = some s) (hg : W.grownBy W1 (shv s).ownBlock) (hx : Kd.R (Kd.int .i8) 51 W1 b (fun k => f k = j ∨ W.heap.size ≤ k) (shv s') x') :
  LM b (W1.setCell ⟨g, j, none⟩ (shv s')) (.slice (some ⟨g, 0, none⟩) n cap) (ss.set j s') (gs.set j x') (fun k => if k < W.heap.size then f k else j) := by
 have hrow := h.rows j x s hj hs
 have hsp : Kd.R kdM 27 W1 b (fun _ => True) (.slice (some ⟨g, 0, none⟩) n cap) ss := Kd.R_over' h.sp (Kd.R_typed hrow) (by intro q hq; simp [kdM, Kd.scalar] at hq; subst hq; decide) hg
 obtain ⟨cells, hcg⟩ := Kd.R_typed hsp g rfl
 have hput := Kd.R_putn hsp (j : Int) s'
 rw [Int.toNat_natCast] at hput
 have hjl := (List.getElem?_eq_some_iff.1 hj).1
 refine ⟨by simp [h.len], hput, fun i y q hi hq => ?_⟩
 by_cases hij : i = j
 ·subst hij
  rw [List.getElem?_set_self hjl] at hi
  rw [List.getElem?_set_self (by rw [h.len]; exact hjl)] at hq
  cases hi
  cases hq
  refine Kd.R_mono (Kd.R_set hx hcg (by intro q hq; simp [Kd.int, Kd.scalar] at hq; subst hq; decide) i _) (fun k hk => ?_)
  try dsimp only
  split
  ·rcases hk with hk | hk
   ·exact hk
   ·omega
  ·rfl
 ·rw [List.getElem?_set_ne (fun e => hij e.symm)] at hi hq
  have h1 := h.rows i y q hi hq
  have h2 := row_step h1 (W1 := W1) (fun k cs hk hc => hg.block k (lt_of_some hc) (fun e => by
   have := hrow.1 k e.symm
   omega))
  refine Kd.R_mono (Kd.R_set h2 hcg (by intro q hq; simp [Kd.int, Kd.scalar] at hq; subst hq; decide) j _) (fun k hk => ?_)
  try dsimp only
  rw [if_pos hk.2]
  exact hk.1
theorem LM.after_ {g n cap : Nat} (h : LM b W (.slice (some ⟨g, 0, none⟩) n cap) ss gs f) {j : Nat} {s : ShpM} {x : List Int} (hj : gs[j]? = some x) (hs : ss[j]? = some s) (hg : W.grownBy W1 (shv s).ownBlock) : W1.cell? ⟨g, j, none⟩ = some (shv s) ∧ W1.frozen? ⟨g, j, none⟩ = false := by
 have hrow := h.rows j x s hj hs
 have hsp : Kd.R kdM 27 W1 b (fun _ => True) (.slice (some ⟨g, 0, none⟩) n cap) ss := Kd.R_over' h.sp (Kd.R_typed hrow) (by intro q hq; simp [kdM, Kd.scalar] at hq; subst hq; decide) hg
 have hjl := (List.getElem?_eq_some_iff.1 hs).1
 obtain ⟨hn, _, _⟩ := Kd.R_reads' hsp
 have h1 := Kd.R_celln (d := (none, 0, 0)) hsp (j : Int) (by omega) (by omega)
 rw [Int.toNat_natCast, show rdOf ((none, 0, 0) : ShpM) ss (j : Int) = s by unfold rdOf; simp [hs]] at h1
 exact h1
theorem LM.at_ (h : LM b W v ss gs f) (j : Nat) (hj : j < gs.length) : ∃ A c, W.cell? ⟨(v.ownBlock.getD 0), j, none⟩ = some (.slice A (gs.getD j []).length c) ∧ (gs.getD j []).length ≤ c ∧ Kd.C (Kd.int .i8) W A (gs.getD j []).length (gs.getD j []) := by
 obtain ⟨g, cap, rfl, _, _, _⟩ := Kd.R_form h.sp (by rw [h.len]; omega)
 have hx := List.getElem?_eq_getElem hj
 have hjs : j < ss.length := by rw [h.len]; exact hj
 have hs := List.getElem?_eq_getElem hjs
 have hr := h.rows j _ _ hx hs
 have hc := (Kd.R_celln (d := (none, 0, 0)) h.sp (j : Int) (by omega) (by omega)).1
 rw [Int.toNat_natCast] at hc
 have e : gs.getD j [] = gs[j] := by rw [List.getD_eq_getElem?_getD, hx]; rfl
 have e2 : rdOf ((none, 0, 0) : ShpM) ss (j : Int) = ss[j] := by
  unfold rdOf
  simp [List.getElem?_eq_getElem hjs]
 rw [e2] at hc
 rw [e]
 obtain ⟨hn, hcl, hC⟩ := Kd.R_reads' hr
 refine ⟨ss[j].1, ss[j].2.2, ?_, by rw [← hn]; exact hcl, hC⟩
 rw [← hn]
 exact hc
end
end Go.Proofs.YtpbomchjcgndoaaGreatDoor.Arr
