/- The texts that the statement FnExactHoistsForText needs, part 3: contracts of the program's functions and plain laws, without what it does not reach. No condition beyond what each theorem says. -/
import Derived.Below
import Derived.Deep.Draws
import Derived.Deep.AppendLies
import Derived.Maps.AppendAt
import Derived.OwnWalk
import Derived.Laws.BytesArg
import Derived.Laws.MakeOwn
import Derived.Laws.OwnMore
import Derived.Deep.OwnRows
import Derived.Tactics
import Derived.Lib.ConvBytes
import Derived.Laws.Slices
import Derived.WalkKit
import Derived.KernelRfl
import Derived.RowKit3
import Derived.Deep.LoopGhost
import Derived.Deep.QuietTactic
import Derived.BigQuiet
import Derived.WideLaws
import Derived.Deep.DeepCutAuto
import Derived.Deep.CutBlock
import Derived.Deep.RegionHeld3
import Derived.Laws.Rows
import Derived.Lib.AppendStr
import Derived.ArgAppend
import Derived.Laws.IdiomCopy
import Derived.RowKit
import Derived.Laws.Tables
import Derived.BigFrame
import Derived.Laws.CopyRow
import Derived.Laws.ResultCell
import Derived.OrdersHeld
import Derived.Laws.BitsLemmas
import Derived.Laws.StructEq
import Derived.Test.YtdgecgfgekmhcaaDoorProg
import Derived.WalkSpells
import Derived.StillTailTactics
import Derived.Shelf.Strconv.Itoa4
import Derived.Lib.SplitLaws
import Derived.Lib.Join
import Derived.Lib.ParseIntB
import Derived.Lib.CountLaws
import Derived.Shelf.Strings.SplitShaped
import Derived.Shelf.Strings.Shaped
import Derived.Shelf.Small.Wraps
import Derived.Shelf.Strconv.ErrVarParseInt
import Derived.Lib.SmallJoins
import Derived.Lib.AppendIntMem
import Derived.Lib.ParseIntBTie
import Derived.Shelf.Strings.SlTrimAscii
import Derived.ProofKit
import Derived.OpenShut
import Derived.Deep.Slices
import Derived.Test.YtdgecgfgekmhcaaDoorRows
import Derived.ShutString
import Derived.ChangeOld
import Derived.SizedLaws
import Derived.HandedShaped
import Derived.LaidMore
import Derived.Lay
import Derived.Stop.Joined
import Derived.Stop.LaidErr
import Derived.Lib.LaidTab
import Derived.Test.YtdgecgfgekmhcaaDoorCards
import Derived.Test.YtdgecgfgekmhcaaDoorTie
import Derived.SevenTiedAt
import Derived.Test.YtdgecgfgekmhcaaDoorZFnExactHoistsForText2
namespace Go.Proofs.YtdgecgfgekmhcaaDoor.Arr
open Go.RowKit Go.Proofs.YtdgecgfgekmhcaaDoorW.PrintWords Go.Proofs.YtdgecgfgekmhcaaDoorW.PrintLast Go.Proofs.YtdgecgfgekmhcaaDoorW.PrintMore Go.Proofs.YtdgecgfgekmhcaaDoor.U Go.Proofs.YtdgecgfgekmhcaaDoor.J
set_option linter.unusedVariables false
set_option linter.unusedSimpArgs false
theorem within_eight {h : List Int} {n : Int} (hl : (h ++ [n]).length ≤ 8) : within 8 h n = true := by
 unfold within
 refine decide_eq_true fun j hj => ?_
 have := (pile_small (h ++ [n]) (h ++ [n]).length j hj).2
 omega
theorem leaves_eight (m : List Int) (top : Nat) (hl : m.length ≤ 8) : ∀ (d : Nat) (h : List Int) (g : Int), h.length + d = m.length → leaves m top (within 8) d h g ≠ []
 | 0, h, g, _ => by simp [leaves]
 | d + 1, h, g, hd => by
  rw [leaves]
  split
  ·exact leaves_eight m top hl d _ _ (by simp; omega)
  ·intro he
   rw [List.flatMap_eq_nil_iff] at he
   have := he (rd m (h.length : Int)) (by unfold opts; simp)
   rw [if_pos (within_eight (by simp; omega))] at this
   exact leaves_eight m top hl d _ _ (by simp; omega) this
theorem findL_eight {m : List Int} (subs : Nat) (hl : m.length ≤ 8) : findL m 8 subs ≠ [] := leaves_eight m subs hl m.length [] 0 (by simp)
def leastN (m : List Int) (subs : Nat) : Nat := ((List.range 7).find? fun k : Nat => !(findL m ((k : Int) + 1) subs).isEmpty).getD 7 + 1
theorem leastN_spec {m : List Int} (subs : Nat) (hl : m.length ≤ 8) : (1 ≤ leastN m subs ∧ leastN m subs ≤ 8) ∧ findL m (leastN m subs : Int) subs ≠ [] ∧ ∀ j : Nat, 1 ≤ j → j < leastN m subs → findL m (j : Int) subs = [] := by
 unfold leastN
 cases hf : (List.range 7).find? fun k : Nat => !(findL m ((k : Int) + 1) subs).isEmpty with
 | none =>
  rw [Option.getD_none]
  refine ⟨by omega, findL_eight subs hl, fun j h1 h2 => ?_⟩
  have := List.find?_eq_none.1 hf (j - 1) (by simp; omega)
  simp only [Bool.not_eq_true', Bool.not_eq_false, List.isEmpty_iff] at this
  rw [show (((j - 1 : Nat) : Int) + 1) = (j : Int) by omega] at this
  exact this
 | some k =>
  rw [Option.getD_some]
  have h1 := List.find?_some hf
  have h2 := List.mem_of_find?_eq_some hf
  simp only [List.mem_range] at h2
  simp only [Bool.not_eq_true', List.isEmpty_eq_false_iff] at h1
  refine ⟨by omega, by rw [show ((k + 1 : Nat) : Int) = (k : Int) + 1 by omega]; exact h1, fun j h3 h4 => ?_⟩
  obtain ⟨_, i, hi, h8, h9⟩ := List.find?_eq_some_iff_getElem.1 hf
  have h10 : i = k := by simpa using h8
  subst h10
  have h5 := h9 (j - 1) (by omega)
  simp only [List.getElem_range, Bool.not_not, List.isEmpty_iff] at h5
  rw [show (((j - 1 : Nat) : Int) + 1) = (j : Int) by omega] at h5
  exact h5
def leastW (m : List Int) (subs : Int) : Int × Int := if codeM m 1 subs = 0 then ((leastN m subs.toNat : Int), 0) else (0, codeM m 1 subs)
set_option maxHeartbeats 4000000 in
set_option maxRecDepth 100000 in
theorem implLeast_calls (A0 : Option Addr) (c0 : Nat) (m : List Int) (subs : Int) (w : World) (hr : Kd.C (Kd.int .i8) w A0 m.length m) (hc : m.length ≤ c0) (hs : Small8 m) :
  Calls Tryd.prog 35 #[.slice A0 m.length c0, .int .i64 subs] w fun e w' => e = .returned (.tuple #[.int .i64 (leastW m subs).1, .int .i64 (leastW m subs).2]) ∧ Below w.heap.size w w' := by
 have HCO := Aside0.mk (hoistCode_calls A0 c0 m 1 subs w hr hc hs)
 by_cases hk : codeM m 1 subs = 0
 ·obtain ⟨hp, hse, hsu⟩ := codeM_zero hk
  obtain ⟨hN, _, hl⟩ := plainM_N hp
  have HRES := Aside0.mk (show leastW m subs = ((leastN m subs.toNat : Int), 0) from if_pos hk)
  obtain ⟨hb, h1, h2⟩ := leastN_spec (m := m) subs.toNat hl
  have HEV := Aside0.mk (fun (sets : Int) W => even_calls sets subs W hsu.2 hsu.1)
  have HFI : Aside0 (∀ (i : Nat) W, 1 ≤ i → i ≤ 8 → Below w.heap.size w W → Calls Tryd.prog 62 #[.slice A0 m.length c0, .agg (vals .i64 (fillTo (fillTo (zs 44) 0 40 (i : Int)) 40 subs.toNat (i : Int)))] W fun e w' => ∃ (v : Value) (b : Bool), e = .returned (.tuple #[v, .bool b]) ∧
    b = !(findL m (i : Int) subs.toNat).isEmpty ∧ Below W.heap.size W w') := ⟨fun i W hi1 hi8 hW => by
   have := first_calls A0 c0 m (evenL (i : Int) subs) W (Kd.C_below hr hW) hc hN (by omega) (evenL_length (i : Int) subs hsu.2) (evenL_b (i : Int) subs hsu.2 (by omega) (by omega))
   rw [find_even hN (i : Int) subs (by omega) hsu.1 hsu.2] at this
   refine this.mono ?_
   rintro e w' ⟨v, b, rfl, hf, hbb⟩
   refine ⟨v, b, rfl, ?_, hbb⟩
   cases hL : findL m (i : Int) subs.toNat with
   | nil => rw [hL] at hf; exact hf.2
   | cons x r => rw [hL] at hf; exact hf.1⟩
  have HN := Aside0.mk h1
  have HN2 := Aside0.mk h2
  rw [HRES.out]
  rw [hk] at HCO
  clear hk hp hN hr hs hsu hse HRES h1 h2
  generalize leastN m subs.toNat = n at *
  go_enter Tryd.func35, Tryd.ntmps35
  go_wp2_with (go_at_call 61; refine HCO.out.mono ?_; rintro e w1 ⟨rfl, hb1⟩; have HB1 := Aside0.mk hb1; clear hb1)
  go_loopw [7] (fun v7 wr => ∃ i : Nat, (1 ≤ i ∧ i ≤ n) ∧ v7 = .int .i64 i ∧ Aside0 (Below w.heap.size w wr)) (fun v7 _ => n - (intOf v7).toNat)
  case atStart => exact ⟨1, by omega, rfl, HB1⟩
  case round =>
   clear HB1
   obtain ⟨i, hi, rfl, HB⟩ := hrel
   by_cases hin : i = n
   ·have HI := Aside0.mk hin
    have hz : (!(findL m (i : Int) subs.toNat).isEmpty) = true := by rw [hin, List.isEmpty_eq_false_iff.2 HN.out]; rfl
    have HFI2 := Aside0.mk (fun W => HFI.out i W hi.1 (by omega))
    rw [hz] at HFI2
    clear hin hz
    go_wp2_with (first
     | (go_at_call 63; refine (HEV.out _ _).mono ?_; rintro e w2 ⟨rfl, hb2⟩; have HB2 := Aside0.mk (HB.out.trans (hb2.mono HB.out.size)); clear hb2)
     | (go_at_call 62; refine (HFI2.out _ HB2.out).mono ?_; rintro e w3 ⟨v, b, rfl, rfl, hb3⟩; have HB3 := Aside0.mk (HB2.out.trans (hb3.mono HB2.out.size)); clear hb3))
    go_ret2
    exact ⟨by rw [HI.out]; rfl, HB3.out⟩
   ·have hz : (!(findL m (i : Int) subs.toNat).isEmpty) = false := by rw [HN2.out i hi.1 (by omega)]; rfl
    have HFI2 := Aside0.mk (fun W => HFI.out i W hi.1 (by omega))
    rw [hz] at HFI2
    clear hz
    go_wp2_with (first
     | (go_at_call 63; refine (HEV.out _ _).mono ?_; rintro e w2 ⟨rfl, hb2⟩; have HB2 := Aside0.mk (HB.out.trans (hb2.mono HB.out.size)); clear hb2)
     | (go_at_call 62; refine (HFI2.out _ HB2.out).mono ?_; rintro e w3 ⟨v, b, rfl, rfl, hb3⟩; have HB3 := Aside0.mk (HB2.out.trans (hb3.mono HB2.out.size)); clear hb3))
    go_roundw
    case rel => exact ⟨i + 1, by omega, by go_num, HB3⟩
    case measure => simp [intOf]; omega
 ·have HRES := Aside0.mk (show leastW m subs = (0, codeM m 1 subs) from if_neg hk)
  rw [HRES.out]
  have hk1 : (codeM m 1 subs != 0) = true := by rw [bne_iff_ne]; exact hk
  clear hk hr hs HRES
  generalize codeM m 1 subs = q at *
  go_enter Tryd.func35, Tryd.ntmps35
  go_wp2_with (go_at_call 61; refine HCO.out.mono ?_; rintro e w1 ⟨rfl, hb1⟩; have HB1 := Aside0.mk hb1; clear hb1)
  go_ret2
  exact ⟨rfl, HB1.out⟩
set_option maxHeartbeats 4000000 in
set_option maxRecDepth 100000 in
theorem specLeast_calls (A0 : Option Addr) (c0 : Nat) (m : List Int) (subs : Int) (w : World) (hr : Kd.C (Kd.int .i8) w A0 m.length m) (hc : m.length ≤ c0) (hs : Small8 m) :
  Calls Tryd.prog 30 #[.slice A0 m.length c0, .int .i64 subs] w fun e w' => e = .returned (.tuple #[.int .i64 (leastW m subs).1, .int .i64 (leastW m subs).2]) ∧ Below w.heap.size w w' := by
 have HCO := Aside0.mk (l02Asked_calls A0 c0 m 1 subs w hr hc hs)
 by_cases hk : codeM m 1 subs = 0
 ·obtain ⟨hp, hse, hsu⟩ := codeM_zero hk
  obtain ⟨hN, _, hl⟩ := plainM_N hp
  have HRES := Aside0.mk (show leastW m subs = ((leastN m subs.toNat : Int), 0) from if_pos hk)
  obtain ⟨hb, h1, h2⟩ := leastN_spec (m := m) subs.toNat hl
  have HFI : Aside0 (∀ (i : Nat) W, Below w.heap.size w W → Calls Tryd.prog 58 #[.slice A0 m.length c0, .int .i64 (i : Int), .int .i64 subs] W fun e w' => ∃ (g : Nat), e = .returned (.pointer (some ⟨g, 0, none⟩)) ∧
    w'.cell? ⟨g, 3, none⟩ = some (.int .i64 ((findL m (i : Int) subs.toNat).length : Int)) ∧ Below W.heap.size W w') := ⟨fun i W hW => by
   have := l02Find_calls A0 c0 m (i : Int) subs.toNat W (Kd.C_below hr hW) hc hN hl (by omega)
   rw [Int.toNat_of_nonneg hsu.1] at this
   refine this.mono ?_
   rintro e w' ⟨g, vf, rfl, hg, _, hb⟩
   refine ⟨g, rfl, ?_, hb⟩
   have hc3 := cell_of_row w' g 3 _ 79 (0, 0) hg
   simpa [cs5] using hc3⟩
  have HN := Aside0.mk h1
  have HN2 := Aside0.mk h2
  rw [HRES.out]
  rw [hk] at HCO
  clear hk hp hN hr hs hsu hse HRES h1 h2
  generalize leastN m subs.toNat = n at *
  go_enter Tryd.func30, Tryd.ntmps30
  go_wp2_with (go_at_call 57; refine HCO.out.mono ?_; rintro e w1 ⟨rfl, hb1⟩; have HB1 := Aside0.mk hb1; clear hb1)
  go_loopw [7] (fun v7 wr => ∃ i : Nat, (1 ≤ i ∧ i ≤ n) ∧ v7 = .int .i64 i ∧ Aside0 (Below w.heap.size w wr)) (fun v7 _ => n - (intOf v7).toNat)
  case atStart => exact ⟨1, by omega, rfl, HB1⟩
  case round =>
   clear HB1
   obtain ⟨i, hi, rfl, HB⟩ := hrel
   have HFI2 := Aside0.mk (fun W => HFI.out i W)
   by_cases hin : i = n
   ·have HI := Aside0.mk hin
    have hz : (((findL m (i : Int) subs.toNat).length : Int) == 0) = false := by
     rw [beq_eq_false_iff_ne, hin]
     have := List.length_pos_iff.2 HN.out
     omega
    generalize ((findL m (i : Int) subs.toNat).length : Int) = z at *
    clear hin
    go_wp2_with (go_at_call 58; refine (HFI2.out _ HB.out).mono ?_; rintro e w3 ⟨g, rfl, hc3, hb3⟩; have HB3 := Aside0.mk (HB.out.trans (hb3.mono HB.out.size)); clear hb3)
    go_ret2
    exact ⟨by rw [HI.out]; rfl, HB3.out⟩
   ·have hz : (findL m (i : Int) subs.toNat).length = 0 := by rw [HN2.out i hi.1 (by omega)]; rfl
    rw [hz] at HFI2
    clear hz
    go_wp2_with (go_at_call 58; refine (HFI2.out _ HB.out).mono ?_; rintro e w3 ⟨g, rfl, hc3, hb3⟩; have HB3 := Aside0.mk (HB.out.trans (hb3.mono HB.out.size)); clear hb3)
    go_roundw
    case rel => exact ⟨i + 1, by omega, by go_num, HB3⟩
    case measure => simp [intOf]; omega
 ·have HRES := Aside0.mk (show leastW m subs = (0, codeM m 1 subs) from if_neg hk)
  rw [HRES.out]
  have hk1 : (codeM m 1 subs != 0) = true := by rw [bne_iff_ne]; exact hk
  clear hk hr hs HRES
  generalize codeM m 1 subs = q at *
  go_enter Tryd.func30, Tryd.ntmps30
  go_wp2_with (go_at_call 57; refine HCO.out.mono ?_; rintro e w1 ⟨rfl, hb1⟩; have HB1 := Aside0.mk hb1; clear hb1)
  go_ret2
  exact ⟨rfl, HB1.out⟩
end Go.Proofs.YtdgecgfgekmhcaaDoor.Arr
namespace Go.Proofs.YtdgecgfgekmhcaaDoor.J
open Go.RowKit Go.Proofs.YtdgecgfgekmhcaaDoorW.PrintWords Go.Proofs.YtdgecgfgekmhcaaDoorW.PrintLast Go.Proofs.YtdgecgfgekmhcaaDoorW.PrintMore
attribute [local go_sem] max2_int min2_int max_two min_two max_three min_three max_four min_four
set_option linter.unusedVariables false
set_option linter.unusedSimpArgs false
def spec_l01Split.l0 : Nat → ByteArray → Int → List ByteArray → Int → Int → Option (List ByteArray)
 | 0, _, _, _, _, _ => none
 | k + 1, x0, x1, x5, x6, x7 => if x7 < (x0.size : Int) then (if 0 ≤ x7 then (if (bt x0 x7) = x1 then (if 0 ≤ x6 then (if x6 ≤ x7 then (if x7 ≤ (x0.size : Int) then (if x5.length < 8796093022208 then (spec_l01Split.l0 k x0 x1 (x5 ++ [x0.extract (x6 : Int).toNat (x7 : Int).toNat]) (wrap64 (x7 + 1)) (wrap64 (x7 + 1))) else (none)) else (none)) else (none)) else (none)) else (spec_l01Split.l0 k x0 x1 x5 x6 (wrap64 (x7 + 1)))) else (none)) else (if 0 ≤ x6 then (if x6 ≤ (x0.size : Int) then (if x5.length < 8796093022208 then (some (x5 ++ [x0.extract (x6 : Int).toNat x0.size])) else (none)) else (none)) else (none))
def spec_l01Split.f (k : Nat) (a0 : ByteArray) (a1 : Int) : Option (List ByteArray) := spec_l01Split.l0 k a0 a1 (([] : List ByteArray)) 0 0
set_option maxHeartbeats 8000000 in
set_option maxRecDepth 100000 in
theorem spec_l01Split.calls (k : Nat) (a0 : ByteArray) (a1 : Int) (r : List ByteArray) (w : World) (h : spec_l01Split.f k a0 a1 = some r) :
  Calls Tryd.prog 28 #[.string a0, .int .u8 a1] w fun e w' => ∃ v0_ : Value, e = .returned (v0_) ∧ Kd.R Kd.string 9 w' w.heap.size (fun _ => True) v0_ r ∧ Below w.heap.size w w' := by
 have HB := Aside0.mk (Below.refl w.heap.size w)
 have H : (spec_l01Split.l0 k a0 a1 (([] : List ByteArray)) 0 0) = some r := h
 clear h
 obtain ⟨y184, hy184⟩ : ∃ y_ : List ByteArray, y_ = (([] : List ByteArray)) := ⟨_, rfl⟩
 replace H : (spec_l01Split.l0 k a0 a1 y184 0 0) = some r := by first | (rw [hy184]; with_reducible exact H) | (have H2_ := (Option.bind_some _ _).symm.trans H; rw [hy184]; with_reducible exact H2_) | (have H2_ := (Option.bind_some _ _).symm.trans H; with_reducible exact H2_) | with_reducible exact H | (rw [hy184]; exact H) | exact H
 have Ny184 := Aside0.mk hy184
 clear hy184
 have H' := Aside0.mk H
 clear H
 go_enter Tryd.func28, Tryd.ntmps28
 go_wp2_with (first | ((with_reducible refine gate_dst (N := 8) rfl ?_); refine Kd.R_lit Kd.string _ 9 ?hg (N := 8) ?hd (xs := ([] : List ByteArray)) (inner := []) (ok := fun _ => True) (okp := fun _ => True) ?hr ?hp (fun _ hk => hk) trivial (Below.refl _ _) (Nat.le_refl _) (by simp) ?_; (case hd => rfl); (case hg => rfl); (case hr => first | (go_simp; done) | (go_simp; rfl)); (case hp => exact (Reps.none _ _)); intro v185 w3 ho4 hb hg_ hnew_; clear hg_ hnew_; (first | rw [← Ny184.out] at ho4 | (simp only [Int.reduceToNat] at ho4; rw [← Ny184.out] at ho4)); have n0_ := Aside0.mk (Kd.R_lower ho4 (below_size (by repeat (first | (with_reducible first | exact HB.out | apply below_alloc | apply pw_below_drewN | apply below_drew1) | exact HB.out)))); have n1_ := Aside0.mk (below_step (by repeat (first | (with_reducible first | exact HB.out | apply below_alloc | apply pw_below_drewN | apply below_drew1) | exact HB.out)) hb); clear HB; have HO186 := n0_; have HB := n1_; clear n0_ n1_; clear hb ho4))
 go_loopg [5, 6, 7] k (fun kq v5 v6 v7 w' => ∃ (x5_1 : List ByteArray) (x6_1 : Int) (x7_1 : Int), v6 = .int .i64 x6_1 ∧ v7 = .int .i64 x7_1 ∧ Aside0 (spec_l01Split.l0 kq a0 a1 x5_1 x6_1 x7_1 = some r) ∧ Aside0 (kq ≤ k) ∧ Aside0 (Kd.R Kd.string 9 w' w.heap.size (fun _ => True) v5 x5_1) ∧ Aside0 (Below w.heap.size w w'))
 case atStart => exact ⟨(y184), (0), (0), (by first | rfl | (simp; done) | (simp [*]; done)), (by first | rfl | (simp; done) | (simp [*]; done)), H', ⟨Nat.le_refl _⟩, ⟨by (with_reducible repeat (first | apply Kd.R_alloc | apply Kd.R_drewN | apply Kd.R_drew)); exact HO186.out⟩, ⟨by repeat (first | (with_reducible first | exact HB.out | apply below_alloc | apply pw_below_drewN | apply below_drew1) | exact HB.out)⟩⟩
 case round =>
  clear H'
  try clear c2
  try clear p2
  obtain ⟨x5_1, x6_1, x7_1, rfl, rfl, HA, HK1, HO_5, HB⟩ := hrel
  cases gk with
  | zero => exact absurd HA.out (by simp [spec_l01Split.l0])
  | succ k1 =>
   have H := HA.out
   clear HA
   simp only [spec_l01Split.l0] at H
   by_cases c5 : x7_1 < (a0.size : Int)
   ·rw [if_pos c5] at H
    have c5b0 : decide (x7_1 < (a0.size : Int)) = true := decide_eq_true c5
    clear c5
    by_cases c6 : 0 ≤ x7_1
    ·rw [if_pos c6] at H
     have c6b0 : decide (0 ≤ x7_1) = true := decide_eq_true c6
     clear c6
     by_cases c8 : (bt a0 x7_1) = a1
     ·rw [if_pos c8] at H
      have c8b0 : ((bt a0 x7_1) == a1) = true := beq_iff_eq.mpr c8
      have c8b1 : ((bt a0 x7_1) != a1) = false := bne_eq_false_iff_eq.mpr c8
      clear c8
      by_cases c9 : 0 ≤ x6_1
      ·rw [if_pos c9] at H
       have c9b0 := eq_true c9
       have c9b1 : decide (0 ≤ x6_1) = true := decide_eq_true c9
       clear c9
       by_cases c10 : x6_1 ≤ x7_1
       ·rw [if_pos c10] at H
        have c10b0 := eq_true c10
        have c10b1 : decide (x6_1 ≤ x7_1) = true := decide_eq_true c10
        clear c10
        by_cases c11 : x7_1 ≤ (a0.size : Int)
        ·rw [if_pos c11] at H
         have c11b0 := eq_true c11
         have c11b1 : decide (x7_1 ≤ (a0.size : Int)) = true := decide_eq_true c11
         clear c11
         by_cases c12 : x5_1.length < 8796093022208
         ·rw [if_pos c12] at H
          have LMc12 := Aside0.mk c12
          clear c12
          obtain ⟨y187, hy187⟩ : ∃ y_ : List ByteArray, y_ = (x5_1 ++ [a0.extract (x6_1 : Int).toNat (x7_1 : Int).toNat]) := ⟨_, rfl⟩
          replace H : (spec_l01Split.l0 k1 a0 a1 y187 (wrap64 (x7_1 + 1)) (wrap64 (x7_1 + 1))) = some r := by first | (rw [hy187]; with_reducible exact H) | (have H2_ := (Option.bind_some _ _).symm.trans H; rw [hy187]; with_reducible exact H2_) | (have H2_ := (Option.bind_some _ _).symm.trans H; with_reducible exact H2_) | with_reducible exact H | (rw [hy187]; exact H) | exact H
          have Ny187 := Aside0.mk hy187
          clear hy187
          have H' := Aside0.mk H
          clear H
          have p7 : 0 ≤ (x7_1 : Int) := of_decide_eq_true (by first | (with_reducible assumption) | assumption)
          have q7 : x7_1 < (a0.size : Int) := of_decide_eq_true (by first | (with_reducible assumption) | assumption)
          have hx7 := bt_at a0 x7_1
          replace p7 := eq_true p7
          replace q7 := eq_true q7
          go_wp2_with (first | ((with_reducible refine gate_builtin (b := .append) (xs := #[.tmp 20, .tmp 25]) rfl ?_); at_builtin; refine Kd.R_append Kd.string (w0 := w) w.heap.size rfl (.tmp 20) (.tmp 25) 23 9 (.string ⟨#[]⟩) 16 rfl Tryd.underlying23 info9 rfl (by decide) (by omega) u5 x5_1 (a0.extract (x6_1 : Int).toNat (x7_1 : Int).toNat) [.string (a0.extract (x6_1 : Int).toNat (x7_1 : Int).toNat)] (fun _ => True) (fun _ => False) rfl rfl ?aP (fun _ hk => hk.elim) ?aF ?aO ?aB ?aS ?aL ?_; (case aP => exact rfl); (case aB => exact (by repeat (first | (with_reducible first | exact HB.out | apply below_alloc | apply pw_below_drewN | apply below_drew1) | exact HB.out))); (case aF => exact (fun _ _ => trivial)); (case aO => exact (by (with_reducible repeat (first | apply Kd.R_alloc | apply Kd.R_drewN | apply Kd.R_drew)); exact HO_5.out)); (case aS => exact (below_size (by repeat (first | (with_reducible first | exact HB.out | apply below_alloc | apply pw_below_drewN | apply below_drew1) | exact HB.out)))); (case aL => have := LMc12.out; omega); intro v188 w13 ho hb hg hat; rw [← Ny187.out] at ho; have n0_ := Aside0.mk (hb); have n1_ := Aside0.mk (ho); clear HB; clear HO_5; have HB := n0_; have HO189 := n1_; clear n0_ n1_; clear ho hb hg hat))
          go_roundg k1
          case measure => have := HK1.out; omega
          case rel => exact ⟨(y187), (wrap64 (x7_1 + 1)), (wrap64 (x7_1 + 1)), (by first | rfl | (simp; done) | (simp [*]; done)), (by first | rfl | (simp; done) | (simp [*]; done)), H', ⟨by have := HK1.out; omega⟩, ⟨by (with_reducible repeat (first | apply Kd.R_alloc | apply Kd.R_drewN | apply Kd.R_drew)); exact HO189.out⟩, ⟨by repeat (first | (with_reducible first | exact HB.out | apply below_alloc | apply pw_below_drewN | apply below_drew1) | exact HB.out)⟩⟩
         ·rw [if_neg c12] at H
          exact absurd H (by simp)
        ·rw [if_neg c11] at H
         exact absurd H (by simp)
       ·rw [if_neg c10] at H
        exact absurd H (by simp)
      ·rw [if_neg c9] at H
       exact absurd H (by simp)
     ·rw [if_neg c8] at H
      have c8b0 : ((bt a0 x7_1) == a1) = false := beq_eq_false_iff_ne.mpr c8
      have c8b1 : ((bt a0 x7_1) != a1) = true := bne_iff_ne.mpr c8
      have H' := Aside0.mk H
      clear H
      have p7 : 0 ≤ (x7_1 : Int) := of_decide_eq_true (by first | (with_reducible assumption) | assumption)
      have q7 : x7_1 < (a0.size : Int) := of_decide_eq_true (by first | (with_reducible assumption) | assumption)
      have hx7 := bt_at a0 x7_1
      replace p7 := eq_true p7
      replace q7 := eq_true q7
      go_wp2
      go_roundg k1
      case measure => have := HK1.out; omega
      case rel => exact ⟨(x5_1), (x6_1), (wrap64 (x7_1 + 1)), (by first | rfl | (simp; done) | (simp [*]; done)), (by first | rfl | (simp; done) | (simp [*]; done)), H', ⟨by have := HK1.out; omega⟩, ⟨by (with_reducible repeat (first | apply Kd.R_alloc | apply Kd.R_drewN | apply Kd.R_drew)); exact HO_5.out⟩, ⟨by repeat (first | (with_reducible first | exact HB.out | apply below_alloc | apply pw_below_drewN | apply below_drew1) | exact HB.out)⟩⟩
    ·rw [if_neg c6] at H
     exact absurd H (by simp)
   ·rw [if_neg c5] at H
    have c5b0 : decide (x7_1 < (a0.size : Int)) = false := decide_eq_false c5
    clear c5
    by_cases c14 : 0 ≤ x6_1
    ·rw [if_pos c14] at H
     have c14b0 := eq_true c14
     have c14b1 : decide (0 ≤ x6_1) = true := decide_eq_true c14
     clear c14
     by_cases c15 : x6_1 ≤ (a0.size : Int)
     ·rw [if_pos c15] at H
      have c15b0 := eq_true c15
      have c15b1 : decide (x6_1 ≤ (a0.size : Int)) = true := decide_eq_true c15
      clear c15
      by_cases c16 : x5_1.length < 8796093022208
      ·rw [if_pos c16] at H
       have LMc16 := Aside0.mk c16
       clear c16
       obtain ⟨y190, hy190⟩ : ∃ y_ : List ByteArray, y_ = (x5_1 ++ [a0.extract (x6_1 : Int).toNat a0.size]) := ⟨_, rfl⟩
       replace H : (some y190) = some r := by first | (rw [hy190]; with_reducible exact H) | (have H2_ := (Option.bind_some _ _).symm.trans H; rw [hy190]; with_reducible exact H2_) | (have H2_ := (Option.bind_some _ _).symm.trans H; with_reducible exact H2_) | with_reducible exact H | (rw [hy190]; exact H) | exact H
       have Ny190 := Aside0.mk hy190
       clear hy190
       obtain rfl := Option.some.inj H
       go_wp2_with (first | ((with_reducible refine gate_builtin (b := .append) (xs := #[.tmp 29, .tmp 33]) rfl ?_); at_builtin; refine Kd.R_append Kd.string (w0 := w) w.heap.size rfl (.tmp 29) (.tmp 33) 23 9 (.string ⟨#[]⟩) 16 rfl Tryd.underlying23 info9 rfl (by decide) (by omega) u5 x5_1 (a0.extract (x6_1 : Int).toNat a0.size) [.string (a0.extract (x6_1 : Int).toNat a0.size)] (fun _ => True) (fun _ => False) rfl rfl ?aP (fun _ hk => hk.elim) ?aF ?aO ?aB ?aS ?aL ?_; (case aP => exact rfl); (case aB => exact (by repeat (first | (with_reducible first | exact HB.out | apply below_alloc | apply pw_below_drewN | apply below_drew1) | exact HB.out))); (case aF => exact (fun _ _ => trivial)); (case aO => exact (by (with_reducible repeat (first | apply Kd.R_alloc | apply Kd.R_drewN | apply Kd.R_drew)); exact HO_5.out)); (case aS => exact (below_size (by repeat (first | (with_reducible first | exact HB.out | apply below_alloc | apply pw_below_drewN | apply below_drew1) | exact HB.out)))); (case aL => have := LMc16.out; omega); intro v191 w17 ho hb hg hat; rw [← Ny190.out] at ho; have n0_ := Aside0.mk (hb); have n1_ := Aside0.mk (ho); clear HB; clear HO_5; have HB := n0_; have HO192 := n1_; clear n0_ n1_; clear ho hb hg hat))
       go_ret
       exact ⟨_, by first | rfl | (simp [errW_none, errW_some] <;> rfl) | (simp [*, errW_none, errW_some] <;> rfl), by (with_reducible repeat (first | apply Kd.R_alloc | apply Kd.R_drewN | apply Kd.R_drew)); exact HO192.out, by repeat (first | (with_reducible first | exact HB.out | apply below_alloc | apply pw_below_drewN | apply below_drew1) | exact HB.out)⟩
      ·rw [if_neg c16] at H
       exact absurd H (by simp)
     ·rw [if_neg c15] at H
      exact absurd H (by simp)
    ·rw [if_neg c14] at H
     exact absurd H (by simp)
end Go.Proofs.YtdgecgfgekmhcaaDoor.J
namespace Go.Proofs.YtdgecgfgekmhcaaDoor.Arr
open Go.RowKit Go.Proofs.YtdgecgfgekmhcaaDoorW.PrintWords Go.Proofs.YtdgecgfgekmhcaaDoorW.PrintLast Go.Proofs.YtdgecgfgekmhcaaDoorW.PrintMore Go.Proofs.YtdgecgfgekmhcaaDoor.U Go.Proofs.YtdgecgfgekmhcaaDoor.J
set_option linter.unusedVariables false
set_option linter.unusedSimpArgs false
theorem bs_size (l : List UInt8) : (⟨l.toArray⟩ : ByteArray).size = l.length := by simp [ByteArray.size]
def sp (c : UInt8) : List UInt8 → List (List UInt8)
 | [] => [[]]
 | x :: r => if x = c then [] :: sp c r else match sp c r with | h :: t => (x :: h) :: t | [] => [[x]]
theorem sp_no (c : UInt8) : ∀ (l : List UInt8), (∀ x ∈ l, x ≠ c) → sp c l = [l]
 | [], _ => rfl
 | x :: r, h => by
  rw [sp, if_neg (h x (List.mem_cons_self ..)), sp_no c r (fun y hy => h y (List.mem_cons_of_mem _ hy))]
theorem sp_cut (c : UInt8) (b : List UInt8) : ∀ (a : List UInt8), (∀ x ∈ a, x ≠ c) → sp c (a ++ c :: b) = a :: sp c b
 | [], _ => by rw [List.nil_append, sp, if_pos rfl]
 | x :: r, h => by
  rw [List.cons_append, sp, if_neg (h x (List.mem_cons_self ..)), sp_cut c b r (fun y hy => h y (List.mem_cons_of_mem _ hy))]
theorem sp_ne (c : UInt8) (l : List UInt8) : sp c l ≠ [] := by
 cases l with
 | nil => simp [sp]
 | cons x r =>
  rw [sp]
  split
  ·simp
  ·split <;> simp
theorem sp_len (c : UInt8) : ∀ l : List UInt8, (sp c l).length ≤ l.length + 1
 | [] => Nat.le_refl _
 | x :: r => by
  have := sp_len c r
  rw [sp]
  split
  ·simp only [List.length_cons]; omega
  ·split
   ·rename_i h t e
    rw [e] at this
    simp only [List.length_cons] at this ⊢; omega
   ·simp
theorem sp_mem (c : UInt8) : ∀ (l : List UInt8), ∀ v ∈ sp c l, v.length ≤ l.length
 | [], v, h => by simp [sp] at h; simp [h]
 | x :: r, v, h => by
  have ih := sp_mem c r
  rw [sp] at h
  split at h
  ·rcases List.mem_cons.1 h with rfl | h
   ·simp
   ·exact Nat.le_trans (ih v h) (by simp)
  ·split at h
   ·rename_i a t e
    rw [e] at ih
    rcases List.mem_cons.1 h with rfl | h
    ·have := ih a (List.mem_cons_self ..)
     simp only [List.length_cons]; omega
    ·exact Nat.le_trans (ih v (List.mem_cons_of_mem _ h)) (by simp)
   ·simp at h; simp [h]
theorem index_one (c : UInt8) (b : List UInt8) : ∀ a : List UInt8, (∀ x ∈ a, x ≠ c) → Lib.index (a ++ c :: b) [c] = (a.length : Int)
 | [], _ => by simp [Lib.index]
 | x :: r, h => by
  have ih := index_one c b r (fun y hy => h y (List.mem_cons_of_mem _ hy))
  have hx : ¬ (([c] : List UInt8).isPrefixOf (x :: (r ++ c :: b))) = true := by
   simp only [List.isPrefixOf, Bool.and_true, beq_iff_eq]
   exact fun e => h x (List.mem_cons_self ..) e.symm
  rw [List.cons_append, Lib.index, if_neg hx, ih, if_neg (by simp only [beq_iff_eq]; omega)]
  simp
theorem index_no (c : UInt8) : ∀ a : List UInt8, (∀ x ∈ a, x ≠ c) → Lib.index a [c] = -1
 | [], _ => by simp [Lib.index]
 | x :: r, h => by
  have ih := index_no c r (fun y hy => h y (List.mem_cons_of_mem _ hy))
  have hx : ¬ (([c] : List UInt8).isPrefixOf (x :: r)) = true := by
   simp only [List.isPrefixOf, Bool.and_true, beq_iff_eq]
   exact fun e => h x (List.mem_cons_self ..) e.symm
  rw [Lib.index, if_neg hx, ih]
  simp
theorem at_first (c : UInt8) : ∀ l : List UInt8, (∀ x ∈ l, x ≠ c) ∨ ∃ a b, l = a ++ c :: b ∧ ∀ x ∈ a, x ≠ c
 | [] => Or.inl (by simp)
 | x :: r => by
  by_cases h : x = c
  ·exact Or.inr ⟨[], r, by simp [h], by simp⟩
  ·rcases at_first c r with h1 | ⟨a, b, rfl, h1⟩
   ·refine Or.inl fun y hy => ?_
    rcases List.mem_cons.1 hy with rfl | hy
    ·exact h
    ·exact h1 y hy
   ·refine Or.inr ⟨x :: a, b, rfl, fun y hy => ?_⟩
    rcases List.mem_cons.1 hy with rfl | hy
    ·exact h
    ·exact h1 y hy
theorem splitB_sp (c : UInt8) : ∀ (n : Nat) (s : ByteArray), s.size ≤ n → (Lib.splitB ⟨#[c]⟩ 0 (Lib.countB s ⟨#[c]⟩) s).map (·.data.toList) = sp c s.data.toList
 | n, s, hn => by
  rcases at_first c s.data.toList with h | ⟨a, b, e, h⟩
  ·have hi : Lib.indexB s ⟨#[c]⟩ = -1 := index_no c _ h
   rw [Lib.splitB_miss _ _ _ _ hi, sp_no c _ h]
   rfl
  ·have hi : Lib.indexB s ⟨#[c]⟩ = (a.length : Int) := by
    show Lib.index s.data.toList [c] = _
    rw [e]; exact index_one c b a h
   have hz : s.size = a.length + (b.length + 1) := by
    have : s.size = s.data.toList.length := (Array.length_toList).symm
    rw [this, e]; simp
   have h1 : (s.extract 0 (a.length + 0)).data.toList = a := by
    rw [Lib.extract_from_zero, e]; simp
   have h2 : (s.extract (a.length + (⟨#[c]⟩ : ByteArray).size) s.size).data.toList = b := by
    rw [show (⟨#[c]⟩ : ByteArray).size = 1 from rfl]
    have : s.extract (a.length + 1) s.size = s.extract (a.length + 1) s.data.size := rfl
    simp only [ByteArray.data_extract, Array.toList_extract]
    rw [e]
    simp [List.extract, hz]
    exact List.take_of_length_le (by omega)
   rw [Lib.countB_hit s ⟨#[c]⟩ a.length (Nat.le_refl 1) hi, Nat.add_comm, Lib.splitB_hit _ _ _ _ _ hi, List.map_cons, h1, e, sp_cut c b a h]
   match n, hn with
   | 0, hn => omega
   | n + 1, hn =>
    rw [splitB_sp c n _ (by
     have : (s.extract (a.length + (⟨#[c]⟩ : ByteArray).size) s.size).size = b.length := by
      rw [← h2]; exact (Array.length_toList).symm
     omega), h2]
end Go.Proofs.YtdgecgfgekmhcaaDoor.Arr
namespace Go.Proofs.YtdgecgfgekmhcaaDoor.Arr
open Go.Shelf Go.Proofs
set_option maxRecDepth 100000
def ren146 : Ren :=
 {
  f := fun x =>
   match x with
   | 146 => 33
   | 221 => 59
   | 268 => 71
   | 138 => 72
   | 143 => 73
   | 195 => 93
   | 197 => 94
   | 218 => 95
   | 219 => 96
   | 260 => 121
   | 217 => 122
   | 225 => 123
   | 224 => 124
   | 267 => 125
   | 266 => 137
   | 314 => 138
   | n => n,
  t := fun x =>
   match x with
   | 9 => 9
   | 31 => 23
   | 3 => 3
   | 4 => 4
   | 0 => 0
   | 105 => 122
   | 21 => 21
   | 5 => 5
   | 46 => 136
   | 119 => 164
   | 139 => 167
   | 138 => 166
   | 146 => 168
   | 51 => 143
   | n => n,
  g := fun x =>
   match x with
   | 1 => 1
   | 3 => 4
   | 4 => 5
   | n => n }
theorem lay146 : LaysM.n146 Go.Proofs.Tryd.prog ren146 where
 mixed := by kernel_rfl
 f138 := Eq.trans Go.Proofs.Tryd.func72 (congrArg some (by kernel_rfl))
 f143 := Eq.trans Go.Proofs.Tryd.func73 (congrArg some (by kernel_rfl))
 f146 := Eq.trans Go.Proofs.Tryd.func33 (congrArg some (by kernel_rfl))
 f195 := Eq.trans Go.Proofs.Tryd.func93 (congrArg some (by kernel_rfl))
 f197 := Eq.trans Go.Proofs.Tryd.func94 (congrArg some (by kernel_rfl))
 f217 := Eq.trans Go.Proofs.Tryd.func122 (congrArg some (by kernel_rfl))
 f218 := Eq.trans Go.Proofs.Tryd.func95 (congrArg some (by kernel_rfl))
 f219 := Eq.trans Go.Proofs.Tryd.func96 (congrArg some (by kernel_rfl))
 f221 := Eq.trans Go.Proofs.Tryd.func59 (congrArg some (by kernel_rfl))
 f224 := Eq.trans Go.Proofs.Tryd.func124 (congrArg some (by kernel_rfl))
 f225 := Eq.trans Go.Proofs.Tryd.func123 (congrArg some (by kernel_rfl))
 f260 := Eq.trans Go.Proofs.Tryd.func121 (congrArg some (by kernel_rfl))
 f266 := Eq.trans Go.Proofs.Tryd.func137 (congrArg some (by kernel_rfl))
 f267 := Eq.trans Go.Proofs.Tryd.func125 (congrArg some (by kernel_rfl))
 f268 := Eq.trans Go.Proofs.Tryd.func71 (congrArg some (by kernel_rfl))
 f314 := Eq.trans Go.Proofs.Tryd.func138 (congrArg some (by kernel_rfl))
 t0 := Go.Proofs.Tryd.underlying0
 a0 := Go.Proofs.Tryd.isAgg0
 z0 := Go.Proofs.Tryd.sizeOf0
 v0 := Go.Proofs.Tryd.zeroValue0
 t3 := Go.Proofs.Tryd.underlying3
 a3 := Go.Proofs.Tryd.isAgg3
 z3 := Go.Proofs.Tryd.sizeOf3
 v3 := Go.Proofs.Tryd.zeroValue3
 t4 := Go.Proofs.Tryd.underlying4
 a4 := Go.Proofs.Tryd.isAgg4
 z4 := Go.Proofs.Tryd.sizeOf4
 v4 := Go.Proofs.Tryd.zeroValue4
 t5 := Go.Proofs.Tryd.underlying5
 a5 := Go.Proofs.Tryd.isAgg5
 z5 := Go.Proofs.Tryd.sizeOf5
 v5 := Go.Proofs.Tryd.zeroValue5
 t9 := Go.Proofs.Tryd.underlying9
 a9 := Go.Proofs.Tryd.isAgg9
 z9 := Go.Proofs.Tryd.sizeOf9
 v9 := Go.Proofs.Tryd.zeroValue9
 t21 := Go.Proofs.Tryd.underlying21
 a21 := Go.Proofs.Tryd.isAgg21
 z21 := Go.Proofs.Tryd.sizeOf21
 v21 := Go.Proofs.Tryd.zeroValue21
 t31 := Go.Proofs.Tryd.underlying23
 a31 := Go.Proofs.Tryd.isAgg23
 z31 := Go.Proofs.Tryd.sizeOf23
 v31 := Go.Proofs.Tryd.zeroValue23
 t46 := Go.Proofs.Tryd.underlying136
 a46 := Go.Proofs.Tryd.isAgg136
 z46 := Go.Proofs.Tryd.sizeOf136
 v46 := Go.Proofs.Tryd.zeroValue136
 t51 := Go.Proofs.Tryd.underlying143
 a51 := Go.Proofs.Tryd.isAgg143
 z51 := Go.Proofs.Tryd.sizeOf143
 v51 := Go.Proofs.Tryd.zeroValue143
 t105 := Go.Proofs.Tryd.underlying122
 a105 := Go.Proofs.Tryd.isAgg122
 z105 := Go.Proofs.Tryd.sizeOf122
 v105 := Go.Proofs.Tryd.zeroValue122
 t119 := Go.Proofs.Tryd.underlying164
 a119 := Go.Proofs.Tryd.isAgg164
 z119 := Go.Proofs.Tryd.sizeOf164
 t138 := Go.Proofs.Tryd.underlying166
 a138 := Go.Proofs.Tryd.isAgg166
 z138 := Go.Proofs.Tryd.sizeOf166
 v138 := Go.Proofs.Tryd.zeroValue166
 t139 := Go.Proofs.Tryd.underlying167
 a139 := Go.Proofs.Tryd.isAgg167
 z139 := Go.Proofs.Tryd.sizeOf167
 v139 := Go.Proofs.Tryd.zeroValue167
 t146 := Go.Proofs.Tryd.underlying168
 a146 := Go.Proofs.Tryd.isAgg168
 z146 := Go.Proofs.Tryd.sizeOf168
 v146 := Go.Proofs.Tryd.zeroValue168
 g1 := by kernel_rfl
 g3 := by kernel_rfl
 g4 := by kernel_rfl
 i0 := Eq.refl (some (some (Value.tuple #[]), 1, 0))
 i3 := Eq.refl (some (some (Value.int IntKind.i64 0), 1, 8))
 i4 := Eq.refl (some (some (Value.bool false), 1, 1))
 i5 := Eq.refl (some (some (Value.int IntKind.u8 0), 1, 1))
 i9 := Eq.refl (some (some (Value.string { data := #[] }), 1, 16))
 i21 := Eq.refl (some (some (Value.int IntKind.i32 0), 1, 4))
 i31 := Eq.refl (some (some (Value.slice none 0 0), 1, 24))
 i46 := Eq.refl (some (some (Value.int IntKind.u64 0), 1, 8))
 i51 := Eq.refl (some (some (Value.int IntKind.u32 0), 1, 4))
 i105 := Eq.refl (some (some (Value.tuple #[Value.int IntKind.i32 0, Value.int IntKind.i64 0]), 1, 0))
 i138 := Eq.refl (some (some (Value.agg #[Value.int IntKind.u8 0, Value.int IntKind.u8 0]), 2, 2))
 i139 := Eq.refl (some (some (Value.agg #[Value.int IntKind.u8 0, Value.int IntKind.u8 0, Value.int IntKind.u8 0, Value.int IntKind.u8 0, Value.int IntKind.u8 0, Value.int IntKind.u8 0, Value.int IntKind.u8 0, Value.int IntKind.u8 0, Value.int IntKind.u8 0, Value.int IntKind.u8 0, Value.int IntKind.u8 0, Value.int IntKind.u8 0, Value.int IntKind.u8 0, Value.int IntKind.u8 0, Value.int IntKind.u8 0, Value.int IntKind.u8 0, Value.int IntKind.u8 0, Value.int IntKind.u8 0, Value.int IntKind.u8 0, Value.int IntKind.u8 0, Value.int IntKind.u8 0, Value.int IntKind.u8 0, Value.int IntKind.u8 0, Value.int IntKind.u8 0, Value.int IntKind.u8 0, Value.int IntKind.u8 0, Value.int IntKind.u8 0, Value.int IntKind.u8 0, Value.int IntKind.u8 0, Value.int IntKind.u8 0, Value.int IntKind.u8 0, Value.int IntKind.u8 0]), 32, 32))
 i146 := Eq.refl (some (some (Value.tuple #[Value.int IntKind.u32 0, Value.int IntKind.u32 0]), 1, 0))
 m1 := by kernel_rfl
 s1_3 := fun w h => cell_of_shapedOpen_int (zero := #[.int .i64 0]) (t := 3) h (of_decide_eq_true (by kernel_rfl)) (by kernel_rfl) rfl (by kernel_rfl) (by kernel_rfl) Go.Proofs.Tryd.underlying3
 m3 := by kernel_rfl
 m4 := by kernel_rfl
def ren174 : Ren :=
 {
  f := fun x =>
   match x with
   | 174 => 64
   | 247 => 85
   | 245 => 86
   | 287 => 107
   | 279 => 108
   | 280 => 109
   | 281 => 110
   | 282 => 111
   | 321 => 130
   | 322 => 131
   | 316 => 132
   | 171 => 134
   | 205 => 133
   | 243 => 143
   | 246 => 68
   | 283 => 87
   | 284 => 88
   | 285 => 89
   | 286 => 90
   | 129 => 113
   | 317 => 112
   | 318 => 114
   | 319 => 115
   | 320 => 116
   | 337 => 135
   | 338 => 136
   | n => n,
  t := fun x =>
   match x with
   | 9 => 9
   | 3 => 3
   | 2 => 2
   | 75 => 92
   | 85 => 93
   | 4 => 4
   | 167 => 133
   | 5 => 5
   | 53 => 115
   | 175 => 134
   | 46 => 136
   | 168 => 137
   | 37 => 96
   | 0 => 0
   | 210 => 161
   | 21 => 21
   | 127 => 172
   | 145 => 175
   | 143 => 173
   | 171 => 114
   | 173 => 118
   | 212 => 142
   | 51 => 143
   | 20 => 20
   | 213 => 144
   | 232 => 176
   | 233 => 177
   | 80 => 178
   | n => n,
  g := fun x =>
   match x with
   | 15 => 2
   | 16 => 3
   | 17 => 0
   | 18 => 6
   | 19 => 7
   | n => n }
end Go.Proofs.YtdgecgfgekmhcaaDoor.Arr
namespace Go.Proofs.YtdgecgfgekmhcaaDoor.Arr
open Go.RowKit Go.Proofs.YtdgecgfgekmhcaaDoorW.PrintWords Go.Proofs.YtdgecgfgekmhcaaDoorW.PrintLast Go.Proofs.YtdgecgfgekmhcaaDoorW.PrintMore Go.Proofs.YtdgecgfgekmhcaaDoor.U Go.Proofs.YtdgecgfgekmhcaaDoor.J
set_option linter.unusedVariables false
set_option linter.unusedSimpArgs false
abbrev txs (l : List (List UInt8)) : List ByteArray := l.map fun x => ⟨x.toArray⟩
theorem txt_cell {W : World} {bk n : Nat} {xs : List ByteArray} (h : Kd.C Kd.string W (some ⟨bk, 0, none⟩) n xs) {j : Nat} {y : ByteArray} (hj : xs[j]? = some y) : W.cell? ⟨bk, 0 + j, none⟩ = some (.string y) := by
 have hl := (List.getElem?_eq_some_iff.1 hj).1
 obtain ⟨hn, _, h3⟩ := h
 obtain ⟨ad, e2, hcell⟩ := h3 (by omega)
 cases e2
 obtain ⟨cs, _, hk, hq⟩ := hcell j _ hj
 have hk : cs = [Value.string y] := hk
 have := hq 0 _ (by rw [hk]; rfl)
 rcases Nat.eq_zero_or_pos j with h0 | h0
 ·subst h0
  simpa [Addr.add, Kd.string, Kd.scalar] using this
 ·have hj0 : ¬ j = 0 := by omega
  simpa [Addr.add, Kd.string, Kd.scalar, hj0] using this
theorem FrBelow.read {w w1 : World} (h : Below w.heap.size w w1) {p : Addr} {v : Value} (hc : w.cell? p = some v) : w1.cell? p = some v :=
 (World.cell?_of_block (w := w) (h.block p.block (World.block_lt_of_cell? w _ hc))).trans hc
theorem bt_app (a b : List UInt8) (c : UInt8) : bt ⟨(a ++ c :: b).toArray⟩ (a.length : Int) = (c.toNat : Int) := by
 unfold bt
 have h : ((a.length : Int)).toNat < (⟨(a ++ c :: b).toArray⟩ : ByteArray).size := by rw [bs_size]; simp
 rw [dif_pos h]
 congr 2
 show (a ++ c :: b).toArray[a.length]'_ = c
 simp
theorem bs_extract (a b c : List UInt8) : (⟨(a ++ (b ++ c)).toArray⟩ : ByteArray).extract ((a.length : Int)).toNat (((a.length + b.length : Nat) : Int)).toNat = ⟨b.toArray⟩ := AnyPlain.small_ba _ b (by
 rw [Lib.extract_data, Int.toNat_natCast, Int.toNat_natCast]
 simp)
theorem split_l0 (c : UInt8) (l : List UInt8) (hl : l.length ≤ 1048576) : ∀ (r b a : List UInt8) (out : List (List UInt8)), l = a ++ (b ++ r) → (∀ x ∈ b, x ≠ c) → out.length ≤ a.length →
  spec_l01Split.l0 (r.length + 1) ⟨l.toArray⟩ (c.toNat : Int) (txs out) (a.length : Int) ((a.length + b.length : Nat) : Int) = some (txs (out ++ sp c (b ++ r)))
 | [], b, a, out, e, hb, ho => by
  have hn : l.length = a.length + b.length := by rw [e]; simp
  rw [List.length_nil, spec_l01Split.l0, bs_size, if_neg (by omega), if_pos (by omega), if_pos (by omega), if_pos (by simp; omega), List.append_nil, sp_no c b hb]
  congr 1
  unfold txs
  rw [List.map_append, List.map_singleton]
  congr 2
  have := bs_extract a b []
  rw [List.append_nil] at this
  rw [e, List.append_nil]
  rw [Int.toNat_natCast] at this ⊢
  rw [List.length_append]
  exact this
 | x :: r, b, a, out, e, hb, ho => by
  have hn : l.length = a.length + b.length + (r.length + 1) := by rw [e]; simp; omega
  have hx : bt ⟨l.toArray⟩ ((a.length + b.length : Nat) : Int) = (x.toNat : Int) := by
   have := bt_app (a ++ b) r x
   rw [List.append_assoc, ← e, List.length_append] at this
   exact this
  rw [List.length_cons, spec_l01Split.l0, bs_size, if_pos (by omega), if_pos (by omega), hx, w64 (by omega) (by omega)]
  by_cases h : x = c
  ·subst h
   rw [if_pos rfl, if_pos (by omega), if_pos (by omega), if_pos (by omega), if_pos (by simp; omega)]
   have h2 := bs_extract a b (x :: r)
   rw [e, h2, show txs out ++ [(⟨b.toArray⟩ : ByteArray)] = txs (out ++ [b]) by simp [txs], sp_cut x r b hb]
   have := split_l0 x l hl r [] (a ++ b ++ [x]) (out ++ [b]) (by rw [e]; simp) (by simp) (by simp; omega)
   simp only [List.length_append, List.length_singleton, List.length_nil, Nat.add_zero, List.nil_append, List.append_assoc, e] at this
   rw [show ((a.length + b.length : Nat) : Int) + 1 = ((a.length + (b.length + 1) : Nat) : Int) by omega]
   exact this
  ·rw [if_neg (fun h2 => h (UInt8.toNat_inj.1 (by omega)))]
   have := split_l0 c l hl r (b ++ [x]) a out (by rw [e]; simp) (by
    intro y hy
    rcases List.mem_append.1 hy with hy | hy
    ·exact hb y hy
    ·simp at hy; rw [hy]; exact h) ho
   simp only [List.length_append, List.length_singleton, List.append_assoc, List.singleton_append] at this
   rw [show ((a.length + b.length : Nat) : Int) + 1 = ((a.length + (b.length + 1) : Nat) : Int) by omega]
   exact this
theorem split_f (c : UInt8) (l : List UInt8) (hl : l.length ≤ 1048576) : spec_l01Split.f (l.length + 1) ⟨l.toArray⟩ (c.toNat : Int) = some (txs (sp c l)) :=
 split_l0 c l hl l [] [] [] rfl (by simp) (Nat.le_refl _)
theorem split_calls (c : UInt8) (l : List UInt8) (hl : l.length ≤ 1048576) (w : World) : Calls Tryd.prog 28 #[.string ⟨l.toArray⟩, .int .u8 (c.toNat : Int)] w
  fun e w' => ∃ v, e = .returned v ∧ Kd.R Kd.string 9 w' w.heap.size (fun _ => True) v (txs (sp c l)) ∧ Below w.heap.size w w' :=
 spec_l01Split.calls _ _ _ _ w (split_f c l hl)
structure Door (w : World) : Prop where
 len : ∃ m, w.cell? ⟨ren146.g 1, 0, none⟩ = some (.int .i64 m)
 syn : ∃ te pe, w.cell? ⟨ren174.g 15, 0, none⟩ = some (.iface te pe)
 rng : ∃ te pe, w.cell? ⟨ren174.g 16, 0, none⟩ = some (.iface te pe)
 pow : Lib.TabIs Tryd.prog w "internal/strconv.uint64pow10" .u64 Lib.pow10Tab
end Go.Proofs.YtdgecgfgekmhcaaDoor.Arr
namespace Go.Proofs.YtdgecgfgekmhcaaDoor.Arr
open Go.RowKit Go.Proofs.YtdgecgfgekmhcaaDoorW.PrintWords Go.Proofs.YtdgecgfgekmhcaaDoorW.PrintLast Go.Proofs.YtdgecgfgekmhcaaDoorW.PrintMore Go.Proofs.YtdgecgfgekmhcaaDoor.U Go.Proofs.YtdgecgfgekmhcaaDoor.J
set_option linter.unusedVariables false
set_option linter.unusedSimpArgs false
def spellL (s : ByteArray) (g : Int) : Nat → List Int
 | 0 => []
 | i + 1 => (if 0 < (i : Int) ∧ (i : Int) % g = 0 then spellL s g i ++ [-10] else spellL s g i) ++ [bt s (i : Int) - 97]
def wordB (s : ByteArray) : Bool := decide (∀ i : Nat, i < s.size → 97 ≤ bt s (i : Int) ∧ bt s (i : Int) ≤ 122) && decide (1 ≤ s.size ∧ s.size ≤ 8)
def spellW (s : ByteArray) (g : Int) : List Int × Int :=
 if (1 ≤ g ∧ g ≤ 8) ∧ wordB s = true then (if (spellL s g s.size).length ≤ 8 then (spellL s g s.size, 0) else ([], 3)) else ([], 2)
theorem wordB_iff {s : ByteArray} (h : wordB s = true) : (∀ i : Nat, i < s.size → 97 ≤ bt s (i : Int) ∧ bt s (i : Int) ≤ 122) ∧ (1 ≤ s.size ∧ s.size ≤ 8) := by
 unfold wordB at h
 rw [Bool.and_eq_true, decide_eq_true_eq, decide_eq_true_eq] at h
 exact h
theorem spellL_in {s : ByteArray} (hs : ∀ i : Nat, i < s.size → 97 ≤ bt s (i : Int) ∧ bt s (i : Int) ≤ 122) (g : Int) : ∀ i : Nat, i ≤ s.size → (∀ x ∈ spellL s g i, x = -10 ∨ (0 ≤ x ∧ x ≤ 25)) ∧ (spellL s g i).length ≤ 2 * i
 | 0, _ => ⟨by simp [spellL], by simp [spellL]⟩
 | i + 1, hi => by
  obtain ⟨h1, h2⟩ := spellL_in hs g i (by omega)
  have := hs i (by omega)
  rw [spellL]
  refine ⟨fun x hx => ?_, ?_⟩
  ·rcases List.mem_append.1 hx with hx | hx
   ·split at hx
    ·rcases List.mem_append.1 hx with hx | hx
     ·exact h1 x hx
     ·simp at hx; exact Or.inl hx
    ·exact h1 x hx
   ·simp at hx; right; omega
  ·split <;> simp <;> omega
theorem spellW_small (s : ByteArray) (g : Int) : Small8 (spellW s g).1 ∧ (spellW s g).1.length ≤ 8 := by
 unfold spellW
 split
 ·rename_i h
  obtain ⟨h1, h2⟩ := wordB_iff h.2
  split
  ·rename_i h3
   refine ⟨⟨by dsimp only; omega, fun x hx => ?_⟩, h3⟩
   have := (spellL_in h1 g s.size (Nat.le_refl _)).1 x hx
   omega
  ·exact ⟨⟨by simp, by simp⟩, by simp⟩
 ·exact ⟨⟨by simp, by simp⟩, by simp⟩
def goT (subs : Int) : List (List UInt8) → List (List Int) → List (List Int) × Int
 | [], acc => (acc, 0)
 | x :: r, acc => if (spellW ⟨x.toArray⟩ 8).2 = 0 then goT subs r (acc ++ [(hoistW (spellW ⟨x.toArray⟩ 8).1 (leastW (spellW ⟨x.toArray⟩ 8).1 subs).1 subs).1]) else ([], (spellW ⟨x.toArray⟩ 8).2)
def hftW (l : List UInt8) (subs : Int) : List (List Int) × Int := if (0 ≤ subs ∧ subs ≤ 4) ∧ l.length ≤ 200 then goT subs (sp 32 l) [] else ([], 2)
end Go.Proofs.YtdgecgfgekmhcaaDoor.Arr
namespace Go.Proofs.YtdgecgfgekmhcaaDoor.Arr
open Go.RowKit Go.Proofs.YtdgecgfgekmhcaaDoorW.PrintWords Go.Proofs.YtdgecgfgekmhcaaDoorW.PrintLast Go.Proofs.YtdgecgfgekmhcaaDoorW.PrintMore Go.Proofs.YtdgecgfgekmhcaaDoor.U Go.Proofs.YtdgecgfgekmhcaaDoor.J
set_option linter.unusedVariables false
set_option linter.unusedSimpArgs false
abbrev ShpM := Option Addr × Nat × Nat
def kdH : Kd ShpM := Kd.scalar (fun x => Value.slice x.1 x.2.1 x.2.2) (fun _ => rfl)
abbrev kM : Kd (List Int) := Kd.slice 22 (Kd.int .i8)
def RdI (w : World) (A : Option Addr) (x : List Int) : Prop := x.length ≤ 1000 ∧ (0 < x.length → ∃ g cells, A = some ⟨g, 0, none⟩ ∧ w.heap[g]? = some (.cells cells 22 (0, 0)) ∧ ∀ (j : Nat) y, x[j]? = some y → cells[j]? = some (.int .i8 y))
namespace RdI
variable {w w1 : World} {A : Option Addr} {x : List Int}
end RdI
def LsR (B : Nat) (w : World) (v : Value) (xs : List (List Int)) : Prop := ∃ ss : List ShpM, ss.length = xs.length ∧ Kd.R kdH 53 w B (fun _ => True) v ss ∧ ∀ (j : Nat) x, xs[j]? = some x → ∃ A c, ss[j]? = some (A, x.length, c) ∧ x.length ≤ c ∧ RdI w A x
namespace LsR
variable {B : Nat} {w w1 : World} {v : Value} {xs : List (List Int)}
end LsR
structure Rows (w : World) (N : Nat) (Bx : List (Nat × Array Value × TypeId)) (wr : World) (vo vl vn : Value) (outs ls ns : List (List Int)) : Prop where
 out : Kd.S kM 53 wr w.heap.size (fun k => (some k ≠ vl.ownBlock ∧ k < N) ∧ some k ≠ vn.ownBlock) vo outs
 last : LsR w.heap.size wr vl ls
 next : LsR w.heap.size wr vn ns
 ln : ∀ k, vl.ownBlock = some k → vn.ownBlock ≠ some k
 box : ∀ b ∈ Bx, wr.heap[b.1]? = some (.cells b.2.1 b.2.2 (0, 0)) ∧ b.2.2 ≠ 53
 le : N ≤ wr.heap.size
 bel : Below w.heap.size w wr
namespace Rows
variable {w wr w1 : World} {N : Nat} {Bx : List (Nat × Array Value × TypeId)} {vo vl vn : Value} {outs ls ns : List (List Int)}
end Rows
end Go.Proofs.YtdgecgfgekmhcaaDoor.Arr
namespace Go.Proofs.YtdgecgfgekmhcaaDoor.Arr
open Go.RowKit Go.Proofs.YtdgecgfgekmhcaaDoorW.PrintWords Go.Proofs.YtdgecgfgekmhcaaDoorW.PrintLast Go.Proofs.YtdgecgfgekmhcaaDoorW.PrintMore Go.Proofs.YtdgecgfgekmhcaaDoor.U Go.Proofs.YtdgecgfgekmhcaaDoor.J
set_option linter.unusedVariables false
set_option linter.unusedSimpArgs false
structure Rows2 (w : World) (Bx : List (Nat × Array Value × TypeId)) (wr : World) (vo vl : Value) (outs ls : List (List Int)) : Prop where
 out : Kd.S kM 53 wr w.heap.size (fun k => some k ≠ vl.ownBlock ∧ k < wr.heap.size) vo outs
 last : LsR w.heap.size wr vl ls
 box : ∀ b ∈ Bx, wr.heap[b.1]? = some (.cells b.2.1 b.2.2 (0, 0)) ∧ b.2.2 ≠ 53
 bel : Below w.heap.size w wr
section
variable {P : Program} {ops : Array Oper} {rest : List Oper} {o : Oper} {a : Act} {w0 w : World} {M : List Ent} {Q : Exit → Act → World → Prop}
theorem st_litv (hgd : o.guard = none) {N n : Nat} (hd : o.dst = some N) (hm : Mem w0 w M) {cs : Array Value} {e : TypeId} (hrun : (execOp a.eval o).run P w = .ok (.value (.slice (some ⟨w.heap.size, 0, none⟩) n n)) (w.alloc (.cells cs e)))
  (h : ∀ g w1, Mem w0 w1 (⟨g, cs, e, true⟩ :: M) → wpList P ops Q rest (a.put (some N) (.slice (some ⟨g, 0, none⟩) n n)) w1) : wpList P ops Q (o :: rest) a w := by
 refine Kd.event_run hgd hrun ?_
 rw [hd]
 exact h _ _ (hm.new cs e)
end
end Go.Proofs.YtdgecgfgekmhcaaDoor.Arr
namespace Go.Proofs.YtdgecgfgekmhcaaDoor.Arr
open Go.RowKit Go.Proofs.YtdgecgfgekmhcaaDoorW.PrintWords Go.Proofs.YtdgecgfgekmhcaaDoorW.PrintLast Go.Proofs.YtdgecgfgekmhcaaDoorW.PrintMore Go.Proofs.YtdgecgfgekmhcaaDoor.U Go.Proofs.YtdgecgfgekmhcaaDoor.J
set_option linter.unusedVariables false
set_option linter.unusedSimpArgs false
abbrev kH : Kd (List Int) := Kd.slice 22 (Kd.int .i8)
theorem infoH : (Tryd.prog.info? 58).map (fun i => (i.zero, i.size, i.bytes)) = some (some (.slice none 0 0), 1, 24) := by kernel_rfl
theorem S_blockH {w : World} {g base : Nat} {ok : Nat → Prop} (h : w.heap[g]? = some (.cells #[] 58 (0, 0))) (hb : base ≤ g) (hk : ok g) : Kd.S kH 58 w base ok (.slice (some ⟨g, 0, none⟩) 0 0) [] := by
 refine ⟨fun _ => 0, fun k hk2 => ?_, [], ⟨rfl, Or.inr ⟨g, 0, #[], rfl, hb, h, Nat.le_refl _, by simp [maxLen], rfl, rfl⟩⟩, Reps.none _ _⟩
 have : g = k := by simpa [Value.ownBlock] using hk2
 subst this; exact hk
structure HTs (w1 : World) (v : Value) (l : List (List Int)) (W : World) : Prop where
 bel : Below w1.heap.size w1 W
 own : Kd.S kH 58 W w1.heap.size (fun _ => True) v l
theorem HTs.below {w1 : World} {v : Value} {l : List (List Int)} {W W1 : World} (h : HTs w1 v l W) (hb : Below W.heap.size W W1) : HTs w1 v l W1 := ⟨h.bel.trans (hb.mono h.bel.size), Kd.S_below h.own hb⟩
theorem HTs.give {w1 : World} {v : Value} {l : List (List Int)} {W W1 : World} {A : Option Addr} {c : Nat} {h : List Int} (ht : HTs w1 v l W) (ho : Kd.R (Kd.int .i8) 22 W1 W.heap.size (fun _ => True) (.slice A h.length c) h) (hb : Below W.heap.size W W1) :
  Kd.M kH W1 w1.heap.size (fun k => W.heap.size ≤ k) h [.slice A h.length c] ∧ (∀ k, W.heap.size ≤ k → (fun _ : Nat => True) k ∧ some k ≠ v.ownBlock) ∧ Kd.S kH 58 W1 w1.heap.size (fun k => (fun _ : Nat => True) k ∧ ¬ (fun k => W.heap.size ≤ k) k) v l :=
 ⟨⟨_, rfl, Kd.R_mono (Kd.R_lower (Kd.R_bound ho) ht.bel.size) (fun k hk => hk.2.1)⟩, fun k hk => ⟨trivial, fun e => by have := Kd.S_lt ht.own k e.symm; omega⟩, Kd.S_mono (Kd.S_old ht.own hb) (fun k hk => ⟨trivial, by have := hk.2; omega⟩)⟩
theorem goT_step {subs : Int} {ws : List (List UInt8)} {i : Nat} {x : List UInt8} (hx : ws[i]? = some x) {acc : List (List Int)} (h : (spellW ⟨x.toArray⟩ 8).2 = 0) :
  goT subs (ws.drop i) acc = goT subs (ws.drop (i + 1)) (acc ++ [(hoistW (spellW ⟨x.toArray⟩ 8).1 (leastW (spellW ⟨x.toArray⟩ 8).1 subs).1 subs).1]) := by
 obtain ⟨hi, rfl⟩ := List.getElem?_eq_some_iff.1 hx
 rw [List.drop_eq_getElem_cons hi, goT, if_pos h]
theorem goT_stop {subs : Int} {ws : List (List UInt8)} {i : Nat} {x : List UInt8} (hx : ws[i]? = some x) {acc : List (List Int)} (h : (spellW ⟨x.toArray⟩ 8).2 ≠ 0) :
  goT subs (ws.drop i) acc = ([], (spellW ⟨x.toArray⟩ 8).2) := by
 obtain ⟨hi, rfl⟩ := List.getElem?_eq_some_iff.1 hx
 rw [List.drop_eq_getElem_cons hi, goT, if_neg h]
def GivesT (ws : List (List UInt8)) (w : World) (e : Ending) (w' : World) : Prop := ∃ bk cap, e = .returned (.slice (some ⟨bk, 0, none⟩) ws.length cap) ∧ (∀ W : World, W.heap[bk]? = w'.heap[bk]? → ∀ (j : Nat) x, ws[j]? = some x → W.cell? ⟨bk, j, none⟩ = some (.string ⟨x.toArray⟩)) ∧ (w.heap.size ≤ bk ∧ bk < w'.heap.size) ∧ Below w.heap.size w w'
theorem splitS_calls (c : UInt8) (l : List UInt8) (hl : l.length ≤ 1048576) (w : World) : Calls Tryd.prog 28 #[.string ⟨l.toArray⟩, .int .u8 (c.toNat : Int)] w fun e w' => GivesT (sp c l) w e w' := by
 refine (split_calls c l hl w).mono ?_
 rintro e w' ⟨v, rfl, hR, hb⟩
 have hne : 0 < (txs (sp c l)).length := by
  rw [txs, List.length_map]
  exact List.length_pos_iff.2 (sp_ne c l)
 obtain ⟨bk, cap, hv, hbase, hbk, _⟩ := Kd.R_form hR hne
 obtain ⟨A, c2, hv2⟩ := Kd.R_slice hR
 subst hv2
 injection hv with hA _ hc
 subst hA hc
 have hC := (Kd.R_reads' hR).2.2
 rw [txs, List.length_map] at hR ⊢
 refine ⟨bk, _, rfl, fun W hW j x hj => ?_, ⟨hbase, hbk⟩, hb⟩
 have := txt_cell hC (show (txs (sp c l))[j]? = some ⟨x.toArray⟩ by rw [List.getElem?_map, hj]; rfl)
 rw [Nat.zero_add] at this
 exact (World.cell?_of_block (w := w') hW).trans this
theorem splitM_calls (c : UInt8) (l : List UInt8) (hl : l.length ≤ 1048576) (w : World) (hD : ∃ m, w.cell? ⟨ren146.g 1, 0, none⟩ = some (.int .i64 m)) : Calls Tryd.prog 33 #[.string ⟨l.toArray⟩, .string ⟨#[c]⟩] w
  fun e w' => GivesT (sp c l) w e w' := by
 obtain ⟨m, hm⟩ := hD
 have hn : (Lib.splitB ⟨#[c]⟩ 0 (Lib.countB ⟨l.toArray⟩ ⟨#[c]⟩) ⟨l.toArray⟩).length = Lib.countB ⟨l.toArray⟩ ⟨#[c]⟩ + 1 := Lib.splitB_all ⟨#[c]⟩ (Nat.le_refl 1) 0 _ _ rfl
 have hs := splitB_sp c l.length ⟨l.toArray⟩ (by rw [bs_size]; exact Nat.le_refl _)
 rw [show (⟨l.toArray⟩ : ByteArray).data.toList = l by simp] at hs
 have hl2 : Lib.countB ⟨l.toArray⟩ ⟨#[c]⟩ + 1 = (sp c l).length := by rw [← hn, ← hs, List.length_map]
 refine (Any.strings_Split { lay146 with } lay146.i9 ⟨l.toArray⟩ ⟨#[c]⟩ m w (by rw [bs_size]; omega) hm (Nat.le_refl 1)).mono ?_
 rintro e w' ⟨rfl, rfl⟩
 rw [hl2]
 generalize Lib.splitB ⟨#[c]⟩ 0 (Lib.countB ⟨l.toArray⟩ ⟨#[c]⟩) ⟨l.toArray⟩ = xs at *
 refine ⟨w.heap.size, _, rfl, fun W hW j x hj => ?_, ⟨Nat.le_refl _, by simp⟩, Below.alloc (Below.refl _ _) (Nat.le_refl _) _⟩
 have hc : W.heap[w.heap.size]? = some (.cells (xs.map Value.string).toArray (ren146.t 9) (0, 0)) := hW.trans (Go.heap_alloc_new w _)
 rw [cell_of_row W w.heap.size j _ _ (0, 0) hc, List.getElem?_toArray, List.getElem?_map]
 have hj2 : (xs.map (·.data.toList))[j]? = some x := by rw [hs]; exact hj
 rw [List.getElem?_map] at hj2
 rcases hy : xs[j]? with _ | y
 ·rw [hy] at hj2; cases hj2
 ·rw [hy] at hj2
  injection hj2 with hj2
  subst hj2
  rfl
structure Bk (bk : Nat) (ws : World) (v : Value) (W : World) : Prop where
 eq : W.heap[bk]? = ws.heap[bk]?
 lt : bk < W.heap.size
 ne : ∀ k, v.ownBlock = some k → k ≠ bk
theorem Bk.below {bk : Nat} {ws : World} {v : Value} {W W1 : World} (h : Bk bk ws v W) (hb : Below W.heap.size W W1) : Bk bk ws v W1 := ⟨(hb.block _ h.lt).trans h.eq, Nat.lt_of_lt_of_le h.lt hb.size, h.ne⟩
theorem Bk.grown {bk : Nat} {ws : World} {v v1 : Value} {W W1 : World} (h : Bk bk ws v W) (hg : W.grownBy W1 v.ownBlock) (hat : v1.ownBlock = v.ownBlock ∨ ∃ b, v1.ownBlock = some b ∧ W.heap.size ≤ b) : Bk bk ws v1 W1 := by
 have he := hg.block bk h.lt (fun e => h.ne bk e.symm rfl)
 refine ⟨he.trans h.eq, ?_, fun k hk => ?_⟩
 ·have := he
  rw [Array.getElem?_eq_getElem h.lt] at this
  exact (Array.getElem?_eq_some_iff.1 this).1
 ·rcases hat with hat | ⟨b, hb, hle⟩
  ·exact h.ne k (hat ▸ hk)
  ·rw [hb] at hk
   have := Option.some.inj hk
   have := h.lt
   omega
end Go.Proofs.YtdgecgfgekmhcaaDoor.Arr
namespace Go.Proofs.YtdgecgfgekmhcaaDoor.Arr
open Go.Shelf Go.Proofs
set_option maxRecDepth 100000
def ren160 : Ren :=
 {
  f := fun x =>
   match x with
   | 160 => 60
   | 232 => 75
   | 231 => 74
   | 227 => 76
   | 234 => 78
   | 233 => 77
   | 236 => 80
   | 235 => 79
   | 228 => 97
   | 271 => 99
   | 151 => 98
   | 197 => 94
   | 120 => 127
   | 152 => 126
   | 260 => 121
   | 137 => 139
   | 119 => 140
   | 224 => 124
   | 225 => 123
   | 217 => 122
   | 266 => 137
   | n => n,
  t := fun x =>
   match x with
   | 9 => 9
   | 4 => 4
   | 3 => 3
   | 5 => 5
   | 117 => 106
   | 116 => 105
   | 0 => 0
   | 124 => 109
   | 21 => 21
   | 105 => 122
   | 46 => 136
   | 119 => 164
   | 139 => 167
   | 138 => 166
   | n => n,
  g := fun x =>
   match x with
   | 3 => 4
   | 4 => 5
   | n => n }
theorem lay160 : Lays.n160 Go.Proofs.Tryd.prog ren160 where
 mixed := by kernel_rfl
 f119 := Eq.trans Go.Proofs.Tryd.func140 (congrArg some (by kernel_rfl))
 f120 := Eq.trans Go.Proofs.Tryd.func127 (congrArg some (by kernel_rfl))
 f137 := Eq.trans Go.Proofs.Tryd.func139 (congrArg some (by kernel_rfl))
 f151 := Eq.trans Go.Proofs.Tryd.func98 (congrArg some (by kernel_rfl))
 f152 := Eq.trans Go.Proofs.Tryd.func126 (congrArg some (by kernel_rfl))
 f160 := Eq.trans Go.Proofs.Tryd.func60 (congrArg some (by kernel_rfl))
 f197 := Eq.trans Go.Proofs.Tryd.func94 (congrArg some (by kernel_rfl))
 f217 := Eq.trans Go.Proofs.Tryd.func122 (congrArg some (by kernel_rfl))
 f224 := Eq.trans Go.Proofs.Tryd.func124 (congrArg some (by kernel_rfl))
 f225 := Eq.trans Go.Proofs.Tryd.func123 (congrArg some (by kernel_rfl))
 f227 := Eq.trans Go.Proofs.Tryd.func76 (congrArg some (by kernel_rfl))
 f228 := Eq.trans Go.Proofs.Tryd.func97 (congrArg some (by kernel_rfl))
 f231 := Eq.trans Go.Proofs.Tryd.func74 (congrArg some (by kernel_rfl))
 f232 := Eq.trans Go.Proofs.Tryd.func75 (congrArg some (by kernel_rfl))
 f233 := Eq.trans Go.Proofs.Tryd.func77 (congrArg some (by kernel_rfl))
 f234 := Eq.trans Go.Proofs.Tryd.func78 (congrArg some (by kernel_rfl))
 f235 := Eq.trans Go.Proofs.Tryd.func79 (congrArg some (by kernel_rfl))
 f236 := Eq.trans Go.Proofs.Tryd.func80 (congrArg some (by kernel_rfl))
 f260 := Eq.trans Go.Proofs.Tryd.func121 (congrArg some (by kernel_rfl))
 f266 := Eq.trans Go.Proofs.Tryd.func137 (congrArg some (by kernel_rfl))
 f271 := Eq.trans Go.Proofs.Tryd.func99 (congrArg some (by kernel_rfl))
 t0 := Go.Proofs.Tryd.underlying0
 a0 := Go.Proofs.Tryd.isAgg0
 z0 := Go.Proofs.Tryd.sizeOf0
 v0 := Go.Proofs.Tryd.zeroValue0
 t3 := Go.Proofs.Tryd.underlying3
 a3 := Go.Proofs.Tryd.isAgg3
 z3 := Go.Proofs.Tryd.sizeOf3
 v3 := Go.Proofs.Tryd.zeroValue3
 t4 := Go.Proofs.Tryd.underlying4
 a4 := Go.Proofs.Tryd.isAgg4
 z4 := Go.Proofs.Tryd.sizeOf4
 v4 := Go.Proofs.Tryd.zeroValue4
 t5 := Go.Proofs.Tryd.underlying5
 a5 := Go.Proofs.Tryd.isAgg5
 z5 := Go.Proofs.Tryd.sizeOf5
 v5 := Go.Proofs.Tryd.zeroValue5
 t9 := Go.Proofs.Tryd.underlying9
 a9 := Go.Proofs.Tryd.isAgg9
 z9 := Go.Proofs.Tryd.sizeOf9
 v9 := Go.Proofs.Tryd.zeroValue9
 t21 := Go.Proofs.Tryd.underlying21
 a21 := Go.Proofs.Tryd.isAgg21
 z21 := Go.Proofs.Tryd.sizeOf21
 v21 := Go.Proofs.Tryd.zeroValue21
 t46 := Go.Proofs.Tryd.underlying136
 a46 := Go.Proofs.Tryd.isAgg136
 z46 := Go.Proofs.Tryd.sizeOf136
 v46 := Go.Proofs.Tryd.zeroValue136
 t105 := Go.Proofs.Tryd.underlying122
 a105 := Go.Proofs.Tryd.isAgg122
 z105 := Go.Proofs.Tryd.sizeOf122
 v105 := Go.Proofs.Tryd.zeroValue122
 t116 := Go.Proofs.Tryd.underlying105
 a116 := Go.Proofs.Tryd.isAgg105
 z116 := Go.Proofs.Tryd.sizeOf105
 t117 := Go.Proofs.Tryd.underlying106
 a117 := Go.Proofs.Tryd.isAgg106
 z117 := Go.Proofs.Tryd.sizeOf106
 v117 := Go.Proofs.Tryd.zeroValue106
 t119 := Go.Proofs.Tryd.underlying164
 a119 := Go.Proofs.Tryd.isAgg164
 z119 := Go.Proofs.Tryd.sizeOf164
 t124 := Go.Proofs.Tryd.underlying109
 a124 := Go.Proofs.Tryd.isAgg109
 z124 := Go.Proofs.Tryd.sizeOf109
 v124 := Go.Proofs.Tryd.zeroValue109
 t138 := Go.Proofs.Tryd.underlying166
 a138 := Go.Proofs.Tryd.isAgg166
 z138 := Go.Proofs.Tryd.sizeOf166
 v138 := Go.Proofs.Tryd.zeroValue166
 t139 := Go.Proofs.Tryd.underlying167
 a139 := Go.Proofs.Tryd.isAgg167
 z139 := Go.Proofs.Tryd.sizeOf167
 v139 := Go.Proofs.Tryd.zeroValue167
 g3 := by kernel_rfl
 g4 := by kernel_rfl
end Go.Proofs.YtdgecgfgekmhcaaDoor.Arr
namespace Go.Proofs.YtdgecgfgekmhcaaDoor.Arr
open Go.RowKit Go.Proofs.YtdgecgfgekmhcaaDoorW.PrintWords Go.Proofs.YtdgecgfgekmhcaaDoorW.PrintLast Go.Proofs.YtdgecgfgekmhcaaDoorW.PrintMore Go.Proofs.YtdgecgfgekmhcaaDoor.U
set_option linter.unusedVariables false
set_option linter.unusedSimpArgs false
def abc : ByteArray := ⟨#[97, 98, 99, 100, 101, 102, 103, 104, 105, 106, 107, 108, 109, 110, 111, 112, 113, 114, 115, 116, 117, 118, 119, 120, 121, 122]⟩
theorem abc_small : ∀ (j : Nat) b, abc.data.toList[j]? = some b → b.toNat < 128 := by
 have h : (abc.data.toList.all fun b => decide (b.toNat < 128)) = true := by decide +kernel
 intro j b hb
 have := List.all_eq_true.1 h b (List.mem_of_getElem? hb)
 exact of_decide_eq_true this
theorem setSize : (Tryd.prog.info? (ren160.t 116)).map (·.size) = some 256 := by kernel_rfl
theorem setZero (w : World) : (zeroValue (ren160.t 116)).run Tryd.prog w = .ok (.agg (Array.replicate 256 (.bool false))) w := by kernel_rfl
theorem trim_calls (s : ByteArray) (w : World) (hs : s.size ≤ 1000000) : Calls Tryd.prog 60 #[.string s, .string abc] w fun e w' => e = .returned (.string ⟨(Lib.trimS s.data.toList abc.data.toList).toArray⟩) ∧ Below w.heap.size w w' :=
 Any.strings_Trim_ascii lay160 setZero setSize s abc w (by omega) (by decide) abc_small
end Go.Proofs.YtdgecgfgekmhcaaDoor.Arr
namespace Go.Proofs.YtdgecgfgekmhcaaDoor.M
open Go.RowKit Go.Proofs.YtdgecgfgekmhcaaDoorW.PrintWords Go.Proofs.YtdgecgfgekmhcaaDoorW.PrintLast Go.Proofs.YtdgecgfgekmhcaaDoorW.PrintMore
attribute [local go_sem] max2_int min2_int max_two min_two max_three min_three max_four min_four
set_option linter.unusedVariables false
set_option linter.unusedSimpArgs false
def errW : Option Int → Value
 | none => .nilIface
 | some c => .iface 0 (.int .i64 c)
theorem errW_none : errW none = .nilIface := rfl
theorem errW_some (c : Int) : errW (some c) = .iface 0 (.int .i64 c) := rfl
theorem info22 : (Tryd.prog.info? 22).map (fun i => (i.zero, i.size, i.bytes)) = some (some (.int .i8 0), 1, 1) := by kernel_rfl
def rd_L2 (xs : List (List Int)) (i : Int) : (List Int) := xs.getD i.toNat ([] : List Int)
theorem at_L2 {w : World} {A : Option Addr} {n : Nat} {xs : List (List Int)} (h : Kd.C (Kd.slice 22 (Kd.int .i8)) w A n xs) (i : Int) (h0 : 0 ≤ i) (h1 : i < n) : ∃ ad A0 c0, A = some ad ∧ w.cell? (ad.add i.toNat) = some (.slice A0 (rd_L2 xs i).length c0) ∧ (rd_L2 xs i).length ≤ c0 ∧ (Kd.int .i8).C w A0 (rd_L2 xs i).length (rd_L2 xs i) := by
 obtain ⟨ad, c, e, _, hK, hc0⟩ := Kd.C_get h ([] : List Int) i h0 h1
 have hc : ∀ j u, c[j]? = some u → w.cell? (ad.add (i.toNat * 1 + j)) = some u := hc0
 obtain ⟨A0, c0, rfl, l0, g0⟩ := hK
 exact ⟨ad, A0, c0, e, by have hq := hc 0 _ rfl; rwa [Nat.mul_one, Nat.add_zero] at hq, l0, g0⟩
end Go.Proofs.YtdgecgfgekmhcaaDoor.M
namespace Go.Proofs.YtdgecgfgekmhcaaDoor.M
open Go.RowKit Go.Proofs.YtdgecgfgekmhcaaDoorW.PrintWords Go.Proofs.YtdgecgfgekmhcaaDoorW.PrintLast Go.Proofs.YtdgecgfgekmhcaaDoorW.PrintMore
attribute [local go_sem] max2_int min2_int max_two min_two max_three min_three max_four min_four
set_option linter.unusedVariables false
set_option linter.unusedSimpArgs false
def spec_l00In.f (a0 : Int) (a1 : Int) (a2 : Int) : Option (Bool) := if a0 ≥ a1 then (some (decide (a0 ≤ a2))) else (some false)
set_option maxHeartbeats 8000000 in
set_option maxRecDepth 100000 in
theorem spec_l00In.calls (a0 : Int) (a1 : Int) (a2 : Int) (r : Bool) (w : World) (h : spec_l00In.f a0 a1 a2 = some r) :
  Calls Tryd.prog 27 #[.int .i64 a0, .int .i64 a1, .int .i64 a2] w fun e w' => e = .returned (.bool r) ∧ Drawn0 w w' := by
 have H : (if a0 ≥ a1 then (some (decide (a0 ≤ a2))) else (some false)) = some r := h
 clear h
 by_cases c4 : a0 ≥ a1
 ·rw [if_pos c4] at H
  have c4b0 : decide (a1 ≤ a0) = true := decide_eq_true c4
  clear c4
  obtain rfl := Option.some.inj H
  go_enter Tryd.func27, Tryd.ntmps27
  go_wp2
  go_ret
  exact ⟨by first | rfl | (simp; done) | (simp [*]; done), by repeat (first | exact Drawn0.refl _ | apply Drawn0.step)⟩
 ·rw [if_neg c4] at H
  have c4b0 : decide (a1 ≤ a0) = false := decide_eq_false c4
  clear c4
  obtain rfl := Option.some.inj H
  go_enter Tryd.func27, Tryd.ntmps27
  go_wp2
  go_ret
  exact ⟨by first | rfl | (simp; done) | (simp [*]; done), by repeat (first | exact Drawn0.refl _ | apply Drawn0.step)⟩
def spec_l03Word.l0 : Nat → ByteArray → Int → Option (Bool)
 | 0, _, _ => none
 | k + 1, x0, x3 => if x3 < (x0.size : Int) then (if 0 ≤ x3 then (if (bt x0 x3) < 97 then (some false) else (if (bt x0 x3) > 122 then (some false) else (spec_l03Word.l0 k x0 (wrap64 (x3 + 1))))) else (none)) else ((spec_l00In.f (x0.size : Int) 1 8).bind fun t101 => (some t101))
def spec_l03Word.f (k : Nat) (a0 : ByteArray) : Option (Bool) := spec_l03Word.l0 k a0 0
set_option maxHeartbeats 8000000 in
set_option maxRecDepth 100000 in
theorem spec_l03Word.calls (k : Nat) (a0 : ByteArray) (r : Bool) (w : World) (h : spec_l03Word.f k a0 = some r) :
  Calls Tryd.prog 55 #[.string a0] w fun e w' => e = .returned (.bool r) ∧ Drawn0 w w' := by
 have H : (spec_l03Word.l0 k a0 0) = some r := h
 clear h
 have H' := Aside0.mk H
 clear H
 go_enter Tryd.func55, Tryd.ntmps55
 go_wp2
 go_loopg [3] k (fun kq v3 w' => ∃ (x3_1 : Int), v3 = .int .i64 x3_1 ∧ Aside0 (spec_l03Word.l0 kq a0 x3_1 = some r) ∧ Aside0 (kq ≤ k) ∧ Drawn0 w w')
 case atStart => exact ⟨(0), (by first | rfl | (simp; done) | (simp [*]; done)), H', ⟨Nat.le_refl _⟩, by repeat (first | exact Drawn0.refl _ | apply Drawn0.step)⟩
 case round =>
  clear H'
  obtain ⟨x3_1, rfl, HA, HK1, ⟨m1, rfl⟩⟩ := hrel
  cases gk with
  | zero => exact absurd HA.out (by simp [spec_l03Word.l0])
  | succ k1 =>
   have H := HA.out
   clear HA
   simp only [spec_l03Word.l0] at H
   by_cases c2 : x3_1 < (a0.size : Int)
   ·rw [if_pos c2] at H
    have c2b0 : decide (x3_1 < (a0.size : Int)) = true := decide_eq_true c2
    clear c2
    by_cases c3 : 0 ≤ x3_1
    ·rw [if_pos c3] at H
     have c3b0 : decide (0 ≤ x3_1) = true := decide_eq_true c3
     clear c3
     by_cases c5 : (bt a0 x3_1) < 97
     ·rw [if_pos c5] at H
      have c5b0 : decide ((bt a0 x3_1) < 97) = true := decide_eq_true c5
      clear c5
      obtain rfl := Option.some.inj H
      have p4 : 0 ≤ (x3_1 : Int) := of_decide_eq_true (by first | (with_reducible assumption) | assumption)
      have q4 : x3_1 < (a0.size : Int) := of_decide_eq_true (by first | (with_reducible assumption) | assumption)
      have hx4 := bt_at a0 x3_1
      replace p4 := eq_true p4
      replace q4 := eq_true q4
      go_wp2
      go_ret
      exact ⟨by first | rfl | (simp; done) | (simp [*]; done), by repeat (first | exact Drawn0.refl _ | apply Drawn0.step)⟩
     ·rw [if_neg c5] at H
      have c5b0 : decide ((bt a0 x3_1) < 97) = false := decide_eq_false c5
      clear c5
      by_cases c7 : (bt a0 x3_1) > 122
      ·rw [if_pos c7] at H
       have c7b0 : decide (122 < (bt a0 x3_1)) = true := decide_eq_true c7
       clear c7
       obtain rfl := Option.some.inj H
       have p4 : 0 ≤ (x3_1 : Int) := of_decide_eq_true (by first | (with_reducible assumption) | assumption)
       have q4 : x3_1 < (a0.size : Int) := of_decide_eq_true (by first | (with_reducible assumption) | assumption)
       have hx4 := bt_at a0 x3_1
       replace p4 := eq_true p4
       replace q4 := eq_true q4
       have p6 : 0 ≤ (x3_1 : Int) := of_decide_eq_true (by first | (with_reducible assumption) | assumption)
       have q6 : x3_1 < (a0.size : Int) := of_decide_eq_true (by first | (with_reducible assumption) | assumption)
       have hx6 := bt_at a0 x3_1
       replace p6 := eq_true p6
       replace q6 := eq_true q6
       go_wp2
       go_ret
       exact ⟨by first | rfl | (simp; done) | (simp [*]; done), by repeat (first | exact Drawn0.refl _ | apply Drawn0.step)⟩
      ·rw [if_neg c7] at H
       have c7b0 : decide (122 < (bt a0 x3_1)) = false := decide_eq_false c7
       clear c7
       have H' := Aside0.mk H
       clear H
       have p4 : 0 ≤ (x3_1 : Int) := of_decide_eq_true (by first | (with_reducible assumption) | assumption)
       have q4 : x3_1 < (a0.size : Int) := of_decide_eq_true (by first | (with_reducible assumption) | assumption)
       have hx4 := bt_at a0 x3_1
       replace p4 := eq_true p4
       replace q4 := eq_true q4
       have p6 : 0 ≤ (x3_1 : Int) := of_decide_eq_true (by first | (with_reducible assumption) | assumption)
       have q6 : x3_1 < (a0.size : Int) := of_decide_eq_true (by first | (with_reducible assumption) | assumption)
       have hx6 := bt_at a0 x3_1
       replace p6 := eq_true p6
       replace q6 := eq_true q6
       go_wp2
       go_roundg k1
       case measure => have := HK1.out; omega
       case rel => exact ⟨(wrap64 (x3_1 + 1)), (by first | rfl | (simp; done) | (simp [*]; done)), H', ⟨by have := HK1.out; omega⟩, by repeat (first | exact Drawn0.refl _ | apply Drawn0.step)⟩
    ·rw [if_neg c3] at H
     exact absurd H (by simp)
   ·rw [if_neg c2] at H
    have c2b0 : decide (x3_1 < (a0.size : Int)) = false := decide_eq_false c2
    clear c2
    replace H := Option.bind_eq_some_iff.mp H
    obtain ⟨t101, A80, H⟩ := H
    replace H : (some t101) = some r := H
    have A8 := Aside0.mk A80
    clear A80
    obtain rfl := Option.some.inj H
    go_wp2_with (first | ((with_reducible refine gate_callee (f := 27) rfl ?_); refine goesL_ (some 22) rfl rfl Tryd.func27 (by kernel_rfl) rfl #[.int .i64 (a0.size : Int), .int .i64 1, .int .i64 8] rfl (by (try simp only [List.map_toArray, List.map_cons, List.map_nil]); first | done | rfl | (simp only [List.length_drop, List.length_take]; rfl)) ?_; (with_reducible refine (spec_l00In.calls (a0.size : Int) 1 8 t101 _ A8.out).mono ?_); rintro e w' ⟨rfl, ⟨nd, rfl⟩⟩; refine ⟨_, rfl, ?_⟩))
    go_ret
    exact ⟨by first | rfl | (simp; done) | (simp [*]; done), by repeat (first | exact Drawn0.refl _ | apply Drawn0.step)⟩
def spec_l03Spell.l0 : Nat → ByteArray → Int → List Int → Int → Option (List Int)
 | 0, _, _, _, _ => none
 | k + 1, x0, x1, x5, x6 => if x6 < (x0.size : Int) then (if x6 > 0 then (if x1 = 0 then (none) else (if (Int.tmod x6 x1) = 0 then (if x5.length < 140737488355328 then ((some (x5 ++ [(-10)] : List Int)).bind fun y105 => (if 0 ≤ x6 then (if y105.length < 140737488355328 then (spec_l03Spell.l0 k x0 x1 (y105 ++ [IntKind.i8.wrap (((bt x0 x6) - 97) % 256)]) (wrap64 (x6 + 1))) else (none)) else (none))) else (none)) else (if 0 ≤ x6 then (if x5.length < 140737488355328 then (spec_l03Spell.l0 k x0 x1 (x5 ++ [IntKind.i8.wrap (((bt x0 x6) - 97) % 256)]) (wrap64 (x6 + 1))) else (none)) else (none)))) else (if 0 ≤ x6 then (if x5.length < 140737488355328 then (spec_l03Spell.l0 k x0 x1 (x5 ++ [IntKind.i8.wrap (((bt x0 x6) - 97) % 256)]) (wrap64 (x6 + 1))) else (none)) else (none))) else (some x5)
def spec_l03Spell.f (k : Nat) (a0 : ByteArray) (a1 : Int) : Option (List Int) := spec_l03Spell.l0 k a0 a1 (([] : List Int)) 0
set_option maxHeartbeats 8000000 in
set_option maxRecDepth 100000 in
theorem spec_l03Spell.calls (k : Nat) (a0 : ByteArray) (a1 : Int) (r : List Int) (w : World) (h : spec_l03Spell.f k a0 a1 = some r) :
  Calls Tryd.prog 56 #[.string a0, .int .i64 a1] w fun e w' => ∃ v0_ : Value, e = .returned (v0_) ∧ Kd.R (Kd.int .i8) 22 w' w.heap.size (fun _ => True) v0_ r ∧ Below w.heap.size w w' := by
 have HB := Aside0.mk (Below.refl w.heap.size w)
 have H : (spec_l03Spell.l0 k a0 a1 (([] : List Int)) 0) = some r := h
 clear h
 obtain ⟨y102, hy102⟩ : ∃ y_ : List Int, y_ = (([] : List Int)) := ⟨_, rfl⟩
 replace H : (spec_l03Spell.l0 k a0 a1 y102 0) = some r := by first | (rw [hy102]; with_reducible exact H) | (have H2_ := (Option.bind_some _ _).symm.trans H; rw [hy102]; with_reducible exact H2_) | (have H2_ := (Option.bind_some _ _).symm.trans H; with_reducible exact H2_) | with_reducible exact H | (rw [hy102]; exact H) | exact H
 have Ny102 := Aside0.mk hy102
 clear hy102
 have H' := Aside0.mk H
 clear H
 go_enter Tryd.func56, Tryd.ntmps56
 go_wp2_with (first | ((with_reducible refine gate_dst (N := 7) rfl ?_); refine Kd.R_lit (Kd.int .i8) _ 22 ?hg (N := 7) ?hd (xs := ([] : List Int)) (inner := []) (ok := fun _ => True) (okp := fun _ => True) ?hr ?hp (fun _ hk => hk) trivial (Below.refl _ _) (Nat.le_refl _) (by simp) ?_; (case hd => rfl); (case hg => rfl); (case hr => first | (go_simp; done) | (go_simp; rfl)); (case hp => exact (Reps.none _ _)); intro v103 w3 ho4 hb hg_ hnew_; clear hg_ hnew_; (first | rw [← Ny102.out] at ho4 | (simp only [Int.reduceToNat] at ho4; rw [← Ny102.out] at ho4)); have n0_ := Aside0.mk (Kd.R_lower ho4 (below_size (by repeat (first | (with_reducible first | exact HB.out | apply below_alloc | apply pw_below_drewN | apply below_drew1) | exact HB.out)))); have n1_ := Aside0.mk (below_step (by repeat (first | (with_reducible first | exact HB.out | apply below_alloc | apply pw_below_drewN | apply below_drew1) | exact HB.out)) hb); clear HB; have HO104 := n0_; have HB := n1_; clear n0_ n1_; clear hb ho4))
 go_loopg [5, 6] k (fun kq v5 v6 w' => ∃ (x5_1 : List Int) (x6_1 : Int), v6 = .int .i64 x6_1 ∧ Aside0 (spec_l03Spell.l0 kq a0 a1 x5_1 x6_1 = some r) ∧ Aside0 (kq ≤ k) ∧ Aside0 (Kd.R (Kd.int .i8) 22 w' w.heap.size (fun _ => True) v5 x5_1) ∧ Aside0 (Below w.heap.size w w'))
 case atStart => exact ⟨(y102), (0), (by first | rfl | (simp; done) | (simp [*]; done)), H', ⟨Nat.le_refl _⟩, ⟨by (with_reducible repeat (first | apply Kd.R_alloc | apply Kd.R_drewN | apply Kd.R_drew)); exact HO104.out⟩, ⟨by repeat (first | (with_reducible first | exact HB.out | apply below_alloc | apply pw_below_drewN | apply below_drew1) | exact HB.out)⟩⟩
 case round =>
  clear H'
  try clear p2
  obtain ⟨x5_1, x6_1, rfl, HA, HK1, HO_5, HB⟩ := hrel
  cases gk with
  | zero => exact absurd HA.out (by simp [spec_l03Spell.l0])
  | succ k1 =>
   have H := HA.out
   clear HA
   simp only [spec_l03Spell.l0] at H
   by_cases c5 : x6_1 < (a0.size : Int)
   ·rw [if_pos c5] at H
    have c5b0 : decide (x6_1 < (a0.size : Int)) = true := decide_eq_true c5
    clear c5
    by_cases c6 : x6_1 > 0
    ·rw [if_pos c6] at H
     have c6b0 : decide (0 < x6_1) = true := decide_eq_true c6
     clear c6
     by_cases c7 : a1 = 0
     ·rw [if_pos c7] at H
      exact absurd H (by simp)
     ·rw [if_neg c7] at H
      have c7b0 : (a1 == 0) = false := beq_eq_false_iff_ne.mpr c7
      have c7b1 : (a1 != 0) = true := bne_iff_ne.mpr c7
      by_cases c8 : (Int.tmod x6_1 a1) = 0
      ·rw [if_pos c8] at H
       have c8b0 : ((Int.tmod x6_1 a1) == 0) = true := beq_iff_eq.mpr c8
       have c8b1 : ((Int.tmod x6_1 a1) != 0) = false := bne_eq_false_iff_eq.mpr c8
       clear c8
       by_cases c9 : x5_1.length < 140737488355328
       ·rw [if_pos c9] at H
        have LMc9 := Aside0.mk c9
        clear c9
        obtain ⟨y105, hy105⟩ : ∃ y_ : List Int, y_ = (x5_1 ++ [(-10)]) := ⟨_, rfl⟩
        replace H : (if 0 ≤ x6_1 then (if y105.length < 140737488355328 then (spec_l03Spell.l0 k1 a0 a1 (y105 ++ [IntKind.i8.wrap (((bt a0 x6_1) - 97) % 256)]) (wrap64 (x6_1 + 1))) else (none)) else (none)) = some r := by first | (rw [hy105]; with_reducible exact H) | (have H2_ := (Option.bind_some _ _).symm.trans H; rw [hy105]; with_reducible exact H2_) | (have H2_ := (Option.bind_some _ _).symm.trans H; with_reducible exact H2_) | with_reducible exact H | (rw [hy105]; exact H) | exact H
        have Ny105 := Aside0.mk hy105
        clear hy105
        by_cases c10 : 0 ≤ x6_1
        ·rw [if_pos c10] at H
         have c10b0 : decide (0 ≤ x6_1) = true := decide_eq_true c10
         clear c10
         by_cases c12 : y105.length < 140737488355328
         ·rw [if_pos c12] at H
          have LMc12 := Aside0.mk c12
          clear c12
          obtain ⟨y108, hy108⟩ : ∃ y_ : List Int, y_ = (y105 ++ [IntKind.i8.wrap (((bt a0 x6_1) - 97) % 256)]) := ⟨_, rfl⟩
          replace H : (spec_l03Spell.l0 k1 a0 a1 y108 (wrap64 (x6_1 + 1))) = some r := by first | (rw [hy108]; with_reducible exact H) | (have H2_ := (Option.bind_some _ _).symm.trans H; rw [hy108]; with_reducible exact H2_) | (have H2_ := (Option.bind_some _ _).symm.trans H; with_reducible exact H2_) | with_reducible exact H | (rw [hy108]; exact H) | exact H
          have Ny108 := Aside0.mk hy108
          clear hy108
          have H' := Aside0.mk H
          clear H
          go_wp2_with (first | ((with_reducible refine gate_builtin (b := .append) (xs := #[.tmp 22, .tmp 23]) rfl ?_); at_builtin; refine Kd.R_append (Kd.int .i8) (w0 := w) w.heap.size rfl (.tmp 22) (.tmp 23) 53 22 (.int .i8 0) 1 rfl Tryd.underlying53 info22 rfl (by decide) (by omega) u5 x5_1 (-10) [.int .i8 (-10)] (fun _ => True) (fun _ => False) rfl rfl ?aP (fun _ hk => hk.elim) ?aF ?aO ?aB ?aS ?aL ?_; (case aP => exact rfl); (case aB => exact (by repeat (first | (with_reducible first | exact HB.out | apply below_alloc | apply pw_below_drewN | apply below_drew1) | exact HB.out))); (case aF => exact (fun _ _ => trivial)); (case aO => exact (by (with_reducible repeat (first | apply Kd.R_alloc | apply Kd.R_drewN | apply Kd.R_drew)); exact HO_5.out)); (case aS => exact (below_size (by repeat (first | (with_reducible first | exact HB.out | apply below_alloc | apply pw_below_drewN | apply below_drew1) | exact HB.out)))); (case aL => have := LMc9.out; omega); intro v106 w13 ho hb hg hat; rw [← Ny105.out] at ho; have n0_ := Aside0.mk (hb); have n1_ := Aside0.mk (ho); clear HB; clear HO_5; have HB := n0_; have HO107 := n1_; clear n0_ n1_; clear ho hb hg hat; have p11 : 0 ≤ (x6_1 : Int) := of_decide_eq_true (by first | (with_reducible assumption) | assumption); have q11 : x6_1 < (a0.size : Int) := of_decide_eq_true (by first | (with_reducible assumption) | assumption); have hx11 := bt_at a0 x6_1; replace p11 := eq_true p11; replace q11 := eq_true q11) | ((with_reducible refine gate_builtin (b := .append) (xs := #[.tmp 25, .tmp 31]) rfl ?_); at_builtin; refine Kd.R_append (Kd.int .i8) (w0 := w) w.heap.size rfl (.tmp 25) (.tmp 31) 53 22 (.int .i8 0) 1 rfl Tryd.underlying53 info22 rfl (by decide) (by omega) v106 y105 (IntKind.i8.wrap (((bt a0 x6_1) - 97) % 256)) [.int .i8 (IntKind.i8.wrap (((bt a0 x6_1) - 97) % 256))] (fun _ => True) (fun _ => False) rfl rfl ?aP (fun _ hk => hk.elim) ?aF ?aO ?aB ?aS ?aL ?_; (case aP => exact rfl); (case aB => exact (by repeat (first | (with_reducible first | exact HB.out | apply below_alloc | apply pw_below_drewN | apply below_drew1) | exact HB.out))); (case aF => exact (fun _ _ => trivial)); (case aO => exact (by (with_reducible repeat (first | apply Kd.R_alloc | apply Kd.R_drewN | apply Kd.R_drew)); exact HO107.out)); (case aS => exact (below_size (by repeat (first | (with_reducible first | exact HB.out | apply below_alloc | apply pw_below_drewN | apply below_drew1) | exact HB.out)))); (case aL => have := LMc12.out; omega); intro v109 w14 ho hb hg hat; rw [← Ny108.out] at ho; have n0_ := Aside0.mk (hb); have n1_ := Aside0.mk (ho); clear HB; clear HO107; have HB := n0_; have HO110 := n1_; clear n0_ n1_; clear ho hb hg hat))
          go_roundg k1
          case measure => have := HK1.out; omega
          case rel => exact ⟨(y108), (wrap64 (x6_1 + 1)), (by first | rfl | (simp; done) | (simp [*]; done)), H', ⟨by have := HK1.out; omega⟩, ⟨by (with_reducible repeat (first | apply Kd.R_alloc | apply Kd.R_drewN | apply Kd.R_drew)); exact HO110.out⟩, ⟨by repeat (first | (with_reducible first | exact HB.out | apply below_alloc | apply pw_below_drewN | apply below_drew1) | exact HB.out)⟩⟩
         ·rw [if_neg c12] at H
          exact absurd H (by simp)
        ·rw [if_neg c10] at H
         exact absurd H (by simp)
       ·rw [if_neg c9] at H
        exact absurd H (by simp)
      ·rw [if_neg c8] at H
       have c8b0 : ((Int.tmod x6_1 a1) == 0) = false := beq_eq_false_iff_ne.mpr c8
       have c8b1 : ((Int.tmod x6_1 a1) != 0) = true := bne_iff_ne.mpr c8
       by_cases c15 : 0 ≤ x6_1
       ·rw [if_pos c15] at H
        have c15b0 : decide (0 ≤ x6_1) = true := decide_eq_true c15
        clear c15
        by_cases c17 : x5_1.length < 140737488355328
        ·rw [if_pos c17] at H
         have LMc17 := Aside0.mk c17
         clear c17
         obtain ⟨y111, hy111⟩ : ∃ y_ : List Int, y_ = (x5_1 ++ [IntKind.i8.wrap (((bt a0 x6_1) - 97) % 256)]) := ⟨_, rfl⟩
         replace H : (spec_l03Spell.l0 k1 a0 a1 y111 (wrap64 (x6_1 + 1))) = some r := by first | (rw [hy111]; with_reducible exact H) | (have H2_ := (Option.bind_some _ _).symm.trans H; rw [hy111]; with_reducible exact H2_) | (have H2_ := (Option.bind_some _ _).symm.trans H; with_reducible exact H2_) | with_reducible exact H | (rw [hy111]; exact H) | exact H
         have Ny111 := Aside0.mk hy111
         clear hy111
         have H' := Aside0.mk H
         clear H
         have p16 : 0 ≤ (x6_1 : Int) := of_decide_eq_true (by first | (with_reducible assumption) | assumption)
         have q16 : x6_1 < (a0.size : Int) := of_decide_eq_true (by first | (with_reducible assumption) | assumption)
         have hx16 := bt_at a0 x6_1
         replace p16 := eq_true p16
         replace q16 := eq_true q16
         go_wp2_with (first | ((with_reducible refine gate_builtin (b := .append) (xs := #[.tmp 25, .tmp 31]) rfl ?_); at_builtin; refine Kd.R_append (Kd.int .i8) (w0 := w) w.heap.size rfl (.tmp 25) (.tmp 31) 53 22 (.int .i8 0) 1 rfl Tryd.underlying53 info22 rfl (by decide) (by omega) u5 x5_1 (IntKind.i8.wrap (((bt a0 x6_1) - 97) % 256)) [.int .i8 (IntKind.i8.wrap (((bt a0 x6_1) - 97) % 256))] (fun _ => True) (fun _ => False) rfl rfl ?aP (fun _ hk => hk.elim) ?aF ?aO ?aB ?aS ?aL ?_; (case aP => exact rfl); (case aB => exact (by repeat (first | (with_reducible first | exact HB.out | apply below_alloc | apply pw_below_drewN | apply below_drew1) | exact HB.out))); (case aF => exact (fun _ _ => trivial)); (case aO => exact (by (with_reducible repeat (first | apply Kd.R_alloc | apply Kd.R_drewN | apply Kd.R_drew)); exact HO_5.out)); (case aS => exact (below_size (by repeat (first | (with_reducible first | exact HB.out | apply below_alloc | apply pw_below_drewN | apply below_drew1) | exact HB.out)))); (case aL => have := LMc17.out; omega); intro v112 w18 ho hb hg hat; rw [← Ny111.out] at ho; have n0_ := Aside0.mk (hb); have n1_ := Aside0.mk (ho); clear HB; clear HO_5; have HB := n0_; have HO113 := n1_; clear n0_ n1_; clear ho hb hg hat))
         go_roundg k1
         case measure => have := HK1.out; omega
         case rel => exact ⟨(y111), (wrap64 (x6_1 + 1)), (by first | rfl | (simp; done) | (simp [*]; done)), H', ⟨by have := HK1.out; omega⟩, ⟨by (with_reducible repeat (first | apply Kd.R_alloc | apply Kd.R_drewN | apply Kd.R_drew)); exact HO113.out⟩, ⟨by repeat (first | (with_reducible first | exact HB.out | apply below_alloc | apply pw_below_drewN | apply below_drew1) | exact HB.out)⟩⟩
        ·rw [if_neg c17] at H
         exact absurd H (by simp)
       ·rw [if_neg c15] at H
        exact absurd H (by simp)
    ·rw [if_neg c6] at H
     have c6b0 : decide (0 < x6_1) = false := decide_eq_false c6
     clear c6
     by_cases c19 : 0 ≤ x6_1
     ·rw [if_pos c19] at H
      have c19b0 : decide (0 ≤ x6_1) = true := decide_eq_true c19
      clear c19
      by_cases c21 : x5_1.length < 140737488355328
      ·rw [if_pos c21] at H
       have LMc21 := Aside0.mk c21
       clear c21
       obtain ⟨y114, hy114⟩ : ∃ y_ : List Int, y_ = (x5_1 ++ [IntKind.i8.wrap (((bt a0 x6_1) - 97) % 256)]) := ⟨_, rfl⟩
       replace H : (spec_l03Spell.l0 k1 a0 a1 y114 (wrap64 (x6_1 + 1))) = some r := by first | (rw [hy114]; with_reducible exact H) | (have H2_ := (Option.bind_some _ _).symm.trans H; rw [hy114]; with_reducible exact H2_) | (have H2_ := (Option.bind_some _ _).symm.trans H; with_reducible exact H2_) | with_reducible exact H | (rw [hy114]; exact H) | exact H
       have Ny114 := Aside0.mk hy114
       clear hy114
       have H' := Aside0.mk H
       clear H
       have p20 : 0 ≤ (x6_1 : Int) := of_decide_eq_true (by first | (with_reducible assumption) | assumption)
       have q20 : x6_1 < (a0.size : Int) := of_decide_eq_true (by first | (with_reducible assumption) | assumption)
       have hx20 := bt_at a0 x6_1
       replace p20 := eq_true p20
       replace q20 := eq_true q20
       go_wp2_with (first | ((with_reducible refine gate_builtin (b := .append) (xs := #[.tmp 25, .tmp 31]) rfl ?_); at_builtin; refine Kd.R_append (Kd.int .i8) (w0 := w) w.heap.size rfl (.tmp 25) (.tmp 31) 53 22 (.int .i8 0) 1 rfl Tryd.underlying53 info22 rfl (by decide) (by omega) u5 x5_1 (IntKind.i8.wrap (((bt a0 x6_1) - 97) % 256)) [.int .i8 (IntKind.i8.wrap (((bt a0 x6_1) - 97) % 256))] (fun _ => True) (fun _ => False) rfl rfl ?aP (fun _ hk => hk.elim) ?aF ?aO ?aB ?aS ?aL ?_; (case aP => exact rfl); (case aB => exact (by repeat (first | (with_reducible first | exact HB.out | apply below_alloc | apply pw_below_drewN | apply below_drew1) | exact HB.out))); (case aF => exact (fun _ _ => trivial)); (case aO => exact (by (with_reducible repeat (first | apply Kd.R_alloc | apply Kd.R_drewN | apply Kd.R_drew)); exact HO_5.out)); (case aS => exact (below_size (by repeat (first | (with_reducible first | exact HB.out | apply below_alloc | apply pw_below_drewN | apply below_drew1) | exact HB.out)))); (case aL => have := LMc21.out; omega); intro v115 w22 ho hb hg hat; rw [← Ny114.out] at ho; have n0_ := Aside0.mk (hb); have n1_ := Aside0.mk (ho); clear HB; clear HO_5; have HB := n0_; have HO116 := n1_; clear n0_ n1_; clear ho hb hg hat))
       go_roundg k1
       case measure => have := HK1.out; omega
       case rel => exact ⟨(y114), (wrap64 (x6_1 + 1)), (by first | rfl | (simp; done) | (simp [*]; done)), H', ⟨by have := HK1.out; omega⟩, ⟨by (with_reducible repeat (first | apply Kd.R_alloc | apply Kd.R_drewN | apply Kd.R_drew)); exact HO116.out⟩, ⟨by repeat (first | (with_reducible first | exact HB.out | apply below_alloc | apply pw_below_drewN | apply below_drew1) | exact HB.out)⟩⟩
      ·rw [if_neg c21] at H
       exact absurd H (by simp)
     ·rw [if_neg c19] at H
      exact absurd H (by simp)
   ·rw [if_neg c5] at H
    have c5b0 : decide (x6_1 < (a0.size : Int)) = false := decide_eq_false c5
    clear c5
    obtain rfl := Option.some.inj H
    go_wp2
    go_ret
    exact ⟨_, by first | rfl | (simp [errW_none, errW_some] <;> rfl) | (simp [*, errW_none, errW_some] <;> rfl), by (with_reducible repeat (first | apply Kd.R_alloc | apply Kd.R_drewN | apply Kd.R_drew)); exact HO_5.out, by repeat (first | (with_reducible first | exact HB.out | apply below_alloc | apply pw_below_drewN | apply below_drew1) | exact HB.out)⟩
def spec_SpellWord.j0 : Nat → ByteArray → Int → Bool → Option (List Int × Int)
 | 0, _, _, _ => none
 | k + 1, x0, x1, x14 => if x14 = true then (some ((([] : List Int)), 2)) else ((spec_l03Spell.f k x0 x1).bind fun t122 => (if (t122.length : Int) > 8 then (some ((([] : List Int)), 3)) else (some (t122, 0))))
def spec_SpellWord.f (k : Nat) (a0 : ByteArray) (a1 : Int) : Option (List Int × Int) := (spec_l00In.f a1 1 8).bind fun t117 => (if t117 = true then ((spec_l03Word.f k a0).bind fun t118 => (spec_SpellWord.j0 k a0 a1 (!t118))) else (spec_SpellWord.j0 k a0 a1 true))
set_option maxHeartbeats 8000000 in
set_option maxRecDepth 100000 in
theorem spec_SpellWord.calls (k : Nat) (a0 : ByteArray) (a1 : Int) (r1 : List Int) (r2 : Int) (w : World) (h : spec_SpellWord.f k a0 a1 = some (r1, r2)) :
  Calls Tryd.prog 29 #[.string a0, .int .i64 a1] w fun e w' => ∃ v0_ : Value, e = .returned (.tuple #[v0_, .int .i64 r2]) ∧ Kd.R (Kd.int .i8) 22 w' w.heap.size (fun _ => True) v0_ r1 ∧ Below w.heap.size w w' := by
 have HB := Aside0.mk (Below.refl w.heap.size w)
 have H : ((spec_l00In.f a1 1 8).bind fun t117 => (if t117 = true then ((spec_l03Word.f k a0).bind fun t118 => (spec_SpellWord.j0 k a0 a1 (!t118))) else (spec_SpellWord.j0 k a0 a1 true))) = some (r1, r2) := h
 clear h
 have HC3 := Aside0.mk H
 clear H
 go_enter Tryd.func29, Tryd.ntmps29
 go_upto_region 1 with (fail)
 go_cut [14] (fun v14 wc => ∃ (kq : Nat) (x14_2 : Bool), v14 = .bool x14_2 ∧ Aside0 (spec_SpellWord.j0 kq a0 a1 x14_2 = some (r1, r2)) ∧ Aside0 (kq ≤ k) ∧ Aside0 (Below w.heap.size w wc))
 case first =>
  have H := HC3.out
  clear HC3
  replace H := Option.bind_eq_some_iff.mp H
  obtain ⟨t117, A40, H⟩ := H
  replace H : (if t117 = true then ((spec_l03Word.f k a0).bind fun t118 => (spec_SpellWord.j0 k a0 a1 (!t118))) else (spec_SpellWord.j0 k a0 a1 true)) = some (r1, r2) := H
  have A4 := Aside0.mk A40
  clear A40
  by_cases c5 : t117 = true
  ·subst c5
   have H1 : ((spec_l03Word.f k a0).bind fun t118 => (spec_SpellWord.j0 k a0 a1 (!t118))) = some (r1, r2) := by rw [if_pos rfl] at H; exact H
   clear H
   have H := H1
   clear H1
   replace H := Option.bind_eq_some_iff.mp H
   obtain ⟨t118, A60, H⟩ := H
   replace H : (spec_SpellWord.j0 k a0 a1 (!t118)) = some (r1, r2) := H
   have A6 := Aside0.mk A60
   clear A60
   have H' := Aside0.mk H
   clear H
   go_wp2_with (first | ((with_reducible refine gate_callee (f := 27) rfl ?_); refine goesL_ (some 8) rfl rfl Tryd.func27 (by kernel_rfl) rfl #[.int .i64 a1, .int .i64 1, .int .i64 8] rfl (by (try simp only [List.map_toArray, List.map_cons, List.map_nil]); first | done | rfl | (simp only [List.length_drop, List.length_take]; rfl)) ?_; (with_reducible refine (spec_l00In.calls a1 1 8 true _ A4.out).mono ?_); rintro e w' ⟨rfl, ⟨nd, rfl⟩⟩; refine ⟨_, rfl, ?_⟩) | (go_at_call 55; (with_reducible refine (spec_l03Word.calls k a0 t118 _ A6.out).mono ?_); rintro e w' ⟨rfl, ⟨nd, rfl⟩⟩))
   go_meet
   case rel => exact ⟨_, (!t118), (by first | rfl | (simp; done) | (simp [*]; done)), H', ⟨by first | omega | exact Nat.le_refl _⟩, ⟨by repeat (first | (with_reducible first | exact HB.out | apply below_alloc | apply pw_below_drewN | apply below_drew1) | exact HB.out)⟩⟩
  ·replace c5 := Bool.eq_false_iff.mpr c5
   subst c5
   have H1 : (spec_SpellWord.j0 k a0 a1 true) = some (r1, r2) := by rw [if_neg (show ¬ (false = true) by decide)] at H; exact H
   clear H
   have H := H1
   clear H1
   have H' := Aside0.mk H
   clear H
   go_wp2_with (first | ((with_reducible refine gate_callee (f := 27) rfl ?_); refine goesL_ (some 8) rfl rfl Tryd.func27 (by kernel_rfl) rfl #[.int .i64 a1, .int .i64 1, .int .i64 8] rfl (by (try simp only [List.map_toArray, List.map_cons, List.map_nil]); first | done | rfl | (simp only [List.length_drop, List.length_take]; rfl)) ?_; (with_reducible refine (spec_l00In.calls a1 1 8 false _ A4.out).mono ?_); rintro e w' ⟨rfl, ⟨nd, rfl⟩⟩; refine ⟨_, rfl, ?_⟩))
   go_meet
   case rel => exact ⟨_, (true), (by first | rfl | (simp; done) | (simp [*]; done)), H', ⟨by first | omega | exact Nat.le_refl _⟩, ⟨by repeat (first | (with_reducible first | exact HB.out | apply below_alloc | apply pw_below_drewN | apply below_drew1) | exact HB.out)⟩⟩
 case rest =>
  clear HC3
  try clear c2
  try clear p2
  try clear c5
  obtain ⟨kq, x14_2, rfl, HA, HJ2, HB⟩ := hcut
  cases kq with
  | zero => exact absurd HA.out (by simp [spec_SpellWord.j0])
  | succ kj2 =>
   have H := HA.out
   clear HA
   simp only [spec_SpellWord.j0] at H
   by_cases c7 : x14_2 = true
   ·subst c7
    have H1 : (some ((([] : List Int)), 2)) = some (r1, r2) := by rw [if_pos rfl] at H; exact H
    clear H
    have H := H1
    clear H1
    obtain ⟨y119, hy119⟩ : ∃ y_ : List Int, y_ = (([] : List Int)) := ⟨_, rfl⟩
    replace H : (some (y119, 2)) = some (r1, r2) := by first | (rw [hy119]; with_reducible exact H) | (have H2_ := (Option.bind_some _ _).symm.trans H; rw [hy119]; with_reducible exact H2_) | (have H2_ := (Option.bind_some _ _).symm.trans H; with_reducible exact H2_) | with_reducible exact H | (rw [hy119]; exact H) | exact H
    have Ny119 := Aside0.mk hy119
    clear hy119
    simp only [Option.some.injEq, Prod.mk.injEq] at H
    obtain ⟨rfl, rfl⟩ := H
    go_wp2_with (first | ((with_reducible refine gate_dst (N := 15) rfl ?_); refine Kd.R_lit (Kd.int .i8) _ 22 ?hg (N := 15) ?hd (xs := ([] : List Int)) (inner := []) (ok := fun _ => True) (okp := fun _ => True) ?hr ?hp (fun _ hk => hk) trivial (Below.refl _ _) (Nat.le_refl _) (by simp) ?_; (case hd => rfl); (case hg => rfl); (case hr => first | (go_simp; done) | (go_simp; rfl)); (case hp => exact (Reps.none _ _)); intro v120 w8 ho9 hb hg_ hnew_; clear hg_ hnew_; (first | rw [← Ny119.out] at ho9 | (simp only [Int.reduceToNat] at ho9; rw [← Ny119.out] at ho9)); have n0_ := Aside0.mk (Kd.R_lower ho9 (below_size (by repeat (first | (with_reducible first | exact HB.out | apply below_alloc | apply pw_below_drewN | apply below_drew1) | exact HB.out)))); have n1_ := Aside0.mk (below_step (by repeat (first | (with_reducible first | exact HB.out | apply below_alloc | apply pw_below_drewN | apply below_drew1) | exact HB.out)) hb); clear HB; have HO121 := n0_; have HB := n1_; clear n0_ n1_; clear hb ho9))
    go_ret2
    exact ⟨_, by first | rfl | (simp [errW_none, errW_some] <;> rfl) | (simp [*, errW_none, errW_some] <;> rfl), by (with_reducible repeat (first | apply Kd.R_alloc | apply Kd.R_drewN | apply Kd.R_drew)); exact HO121.out, by repeat (first | (with_reducible first | exact HB.out | apply below_alloc | apply pw_below_drewN | apply below_drew1) | exact HB.out)⟩
   ·replace c7 := Bool.eq_false_iff.mpr c7
    subst c7
    have H1 : ((spec_l03Spell.f kj2 a0 a1).bind fun t122 => (if (t122.length : Int) > 8 then (some ((([] : List Int)), 3)) else (some (t122, 0)))) = some (r1, r2) := by rw [if_neg (show ¬ (false = true) by decide)] at H; exact H
    clear H
    have H := H1
    clear H1
    replace H := Option.bind_eq_some_iff.mp H
    obtain ⟨t122, A100, H⟩ := H
    replace H : (if (t122.length : Int) > 8 then (some ((([] : List Int)), 3)) else (some (t122, 0))) = some (r1, r2) := H
    have A10 := Aside0.mk A100
    clear A100
    by_cases c11 : (t122.length : Int) > 8
    ·rw [if_pos c11] at H
     have c11b0 : decide (8 < (t122.length : Int)) = true := decide_eq_true c11
     have c11b1 : decide (8 < t122.length) = true := decide_eq_true (by omega)
     clear c11
     obtain ⟨y125, hy125⟩ : ∃ y_ : List Int, y_ = (([] : List Int)) := ⟨_, rfl⟩
     replace H : (some (y125, 3)) = some (r1, r2) := by first | (rw [hy125]; with_reducible exact H) | (have H2_ := (Option.bind_some _ _).symm.trans H; rw [hy125]; with_reducible exact H2_) | (have H2_ := (Option.bind_some _ _).symm.trans H; with_reducible exact H2_) | with_reducible exact H | (rw [hy125]; exact H) | exact H
     have Ny125 := Aside0.mk hy125
     clear hy125
     simp only [Option.some.injEq, Prod.mk.injEq] at H
     obtain ⟨rfl, rfl⟩ := H
     go_wp2_with (first | ((with_reducible refine gate_callee (f := 56) rfl ?_); refine goesL_ (some 18) rfl rfl Tryd.func56 (by kernel_rfl) rfl #[.string a0, .int .i64 a1] rfl (by (try simp only [List.map_toArray, List.map_cons, List.map_nil]); first | done | rfl | (simp only [List.length_drop, List.length_take]; rfl)) ?_; (with_reducible refine (spec_l03Spell.calls kj2 a0 a1 t122 _ A10.out).mono ?_); rintro e w12 ⟨v123, rfl, ho0, hb⟩; refine ⟨_, rfl, ?_⟩; have n0_ := Aside0.mk (Kd.R_lower ho0 (below_size (by repeat (first | (with_reducible first | exact HB.out | apply below_alloc | apply pw_below_drewN | apply below_drew1) | exact HB.out)))); have n1_ := Aside0.mk (below_step (by repeat (first | (with_reducible first | exact HB.out | apply below_alloc | apply pw_below_drewN | apply below_drew1) | exact HB.out)) hb); clear HB; have HO124 := n0_; have HB := n1_; clear n0_ n1_; (try clear hb); (try clear hb2); (try clear hk); (try clear hi); (try clear ho0); obtain ⟨Ao13, co13, eo13⟩ := Kd.R_slice HO124.out; subst eo13) | ((with_reducible refine gate_dst (N := 22) rfl ?_); refine Kd.R_lit (Kd.int .i8) _ 22 ?hg (N := 22) ?hd (xs := ([] : List Int)) (inner := []) (ok := fun _ => True) (okp := fun _ => True) ?hr ?hp (fun _ hk => hk) trivial (Below.refl _ _) (Nat.le_refl _) (by simp) ?_; (case hd => rfl); (case hg => rfl); (case hr => first | (go_simp; done) | (go_simp; rfl)); (case hp => exact (Reps.none _ _)); intro v126 w14 ho15 hb hg_ hnew_; clear hg_ hnew_; (first | rw [← Ny125.out] at ho15 | (simp only [Int.reduceToNat] at ho15; rw [← Ny125.out] at ho15)); have n0_ := Aside0.mk (Kd.R_elder' (by (with_reducible repeat (first | apply Kd.R_alloc | apply Kd.R_drewN | apply Kd.R_drew)); exact HO124.out) (Kd.R_base ho15) hb); have n1_ := Aside0.mk (Kd.R_lower (Kd.R_new' ho15 (Kd.R_lt (by (with_reducible repeat (first | apply Kd.R_alloc | apply Kd.R_drewN | apply Kd.R_drew)); exact HO124.out))) (below_size (by repeat (first | (with_reducible first | exact HB.out | apply below_alloc | apply pw_below_drewN | apply below_drew1) | exact HB.out)))); have n2_ := Aside0.mk (below_step (by repeat (first | (with_reducible first | exact HB.out | apply below_alloc | apply pw_below_drewN | apply below_drew1) | exact HB.out)) hb); clear HO124; clear HB; have HO124 := n0_; have HO127 := n1_; have HB := n2_; clear n0_ n1_ n2_; clear hb ho15))
     go_ret2
     exact ⟨_, by first | rfl | (simp [errW_none, errW_some] <;> rfl) | (simp [*, errW_none, errW_some] <;> rfl), by (with_reducible repeat (first | apply Kd.R_alloc | apply Kd.R_drewN | apply Kd.R_drew)); exact Kd.R_mono HO127.out (fun _ hk => trivial), by repeat (first | (with_reducible first | exact HB.out | apply below_alloc | apply pw_below_drewN | apply below_drew1) | exact HB.out)⟩
    ·rw [if_neg c11] at H
     have c11b0 : decide (8 < (t122.length : Int)) = false := decide_eq_false c11
     have c11b1 : decide (8 < t122.length) = false := decide_eq_false (by omega)
     clear c11
     simp only [Option.some.injEq, Prod.mk.injEq] at H
     obtain ⟨rfl, rfl⟩ := H
     go_wp2_with (first | ((with_reducible refine gate_callee (f := 56) rfl ?_); refine goesL_ (some 18) rfl rfl Tryd.func56 (by kernel_rfl) rfl #[.string a0, .int .i64 a1] rfl (by (try simp only [List.map_toArray, List.map_cons, List.map_nil]); first | done | rfl | (simp only [List.length_drop, List.length_take]; rfl)) ?_; (with_reducible refine (spec_l03Spell.calls kj2 a0 a1 t122 _ A10.out).mono ?_); rintro e w16 ⟨v123, rfl, ho0, hb⟩; refine ⟨_, rfl, ?_⟩; have n0_ := Aside0.mk (Kd.R_lower ho0 (below_size (by repeat (first | (with_reducible first | exact HB.out | apply below_alloc | apply pw_below_drewN | apply below_drew1) | exact HB.out)))); have n1_ := Aside0.mk (below_step (by repeat (first | (with_reducible first | exact HB.out | apply below_alloc | apply pw_below_drewN | apply below_drew1) | exact HB.out)) hb); clear HB; have HO124 := n0_; have HB := n1_; clear n0_ n1_; (try clear hb); (try clear hb2); (try clear hk); (try clear hi); (try clear ho0); obtain ⟨Ao17, co17, eo17⟩ := Kd.R_slice HO124.out; subst eo17))
     go_ret2
     exact ⟨_, by first | rfl | (simp [errW_none, errW_some] <;> rfl) | (simp [*, errW_none, errW_some] <;> rfl), by (with_reducible repeat (first | apply Kd.R_alloc | apply Kd.R_drewN | apply Kd.R_drew)); exact HO124.out, by repeat (first | (with_reducible first | exact HB.out | apply below_alloc | apply pw_below_drewN | apply below_drew1) | exact HB.out)⟩
def impl_within.f (a0 : Int) (a1 : Int) (a2 : Int) : Option (Bool) := if a1 ≤ a0 then (some (decide (a0 ≤ a2))) else (some false)
set_option maxHeartbeats 8000000 in
set_option maxRecDepth 100000 in
theorem impl_within.calls (a0 : Int) (a1 : Int) (a2 : Int) (r : Bool) (w : World) (h : impl_within.f a0 a1 a2 = some r) :
  Calls Tryd.prog 32 #[.int .i64 a0, .int .i64 a1, .int .i64 a2] w fun e w' => e = .returned (.bool r) ∧ Drawn0 w w' := by
 have H : (if a1 ≤ a0 then (some (decide (a0 ≤ a2))) else (some false)) = some r := h
 clear h
 by_cases c4 : a1 ≤ a0
 ·rw [if_pos c4] at H
  have c4b0 : decide (a1 ≤ a0) = true := decide_eq_true c4
  clear c4
  obtain rfl := Option.some.inj H
  go_enter Tryd.func32, Tryd.ntmps32
  go_wp2
  go_ret
  exact ⟨by first | rfl | (simp; done) | (simp [*]; done), by repeat (first | exact Drawn0.refl _ | apply Drawn0.step)⟩
 ·rw [if_neg c4] at H
  have c4b0 : decide (a1 ≤ a0) = false := decide_eq_false c4
  clear c4
  obtain rfl := Option.some.inj H
  go_enter Tryd.func32, Tryd.ntmps32
  go_wp2
  go_ret
  exact ⟨by first | rfl | (simp; done) | (simp [*]; done), by repeat (first | exact Drawn0.refl _ | apply Drawn0.step)⟩
def strings_Trim.f (a0 : ByteArray) (a1 : ByteArray) : Option ByteArray := if a0.size ≤ 1000000 ∧ a1 = Go.Proofs.YtdgecgfgekmhcaaDoor.Arr.abc then some ⟨(Lib.trimS a0.data.toList Go.Proofs.YtdgecgfgekmhcaaDoor.Arr.abc.data.toList).toArray⟩ else none
theorem strings_Trim.calls (a0 : ByteArray) (a1 : ByteArray) (r : ByteArray) (w : World) (h : strings_Trim.f a0 a1 = some r) :
  Calls Tryd.prog 60 #[.string a0, .string a1] w fun e w' => e = .returned (.string r) ∧ Below w.heap.size w w' := by
 unfold strings_Trim.f at h
 split at h
 ·rename_i hs
  obtain ⟨hs, rfl⟩ := hs
  obtain rfl := Option.some.inj h
  exact Go.Proofs.YtdgecgfgekmhcaaDoor.Arr.trim_calls a0 w hs
 ·cases h
mutual
def impl_SpellWord.j0 : Nat → ByteArray → Int → Bool → Option (List Int × Int)
 | 0, _, _, _ => none
 | k + 1, x0, x1, x21 => if x21 = true then (some (([] : List Int), 2)) else (impl_SpellWord.l0 k x0 x1 (([] : List Int)) (x0.size : Int) 0)
def impl_SpellWord.l0 : Nat → ByteArray → Int → List Int → Int → Int → Option (List Int × Int)
 | 0, _, _, _, _, _ => none
 | k + 1, x0, x1, x6, x24, x25 => if x25 < x24 then (if x25 > 0 then (if x1 = 0 then (none) else (if (Int.tmod x25 x1) = 0 then (if x6.length < 140737488355328 then ((some (x6 ++ [(-10)] : List Int)).bind fun y134 => (if 0 ≤ x25 then (if x25 < (x0.size : Int) then (if y134.length < 140737488355328 then (impl_SpellWord.l0 k x0 x1 (y134 ++ [IntKind.i8.wrap (((bt x0 x25) - 97) % 256)]) x24 (wrap64 (x25 + 1))) else (none)) else (none)) else (none))) else (none)) else (if 0 ≤ x25 then (if x25 < (x0.size : Int) then (if x6.length < 140737488355328 then (impl_SpellWord.l0 k x0 x1 (x6 ++ [IntKind.i8.wrap (((bt x0 x25) - 97) % 256)]) x24 (wrap64 (x25 + 1))) else (none)) else (none)) else (none)))) else (if 0 ≤ x25 then (if x25 < (x0.size : Int) then (if x6.length < 140737488355328 then (impl_SpellWord.l0 k x0 x1 (x6 ++ [IntKind.i8.wrap (((bt x0 x25) - 97) % 256)]) x24 (wrap64 (x25 + 1))) else (none)) else (none)) else (none))) else (if (x6.length : Int) > 8 then (some (([] : List Int), 3)) else (some (x6, 0)))
end
def impl_SpellWord.f (k : Nat) (a0 : ByteArray) (a1 : Int) : Option (List Int × Int) := (impl_within.f a1 1 8).bind fun t128 => (if t128 = true then ((impl_within.f (a0.size : Int) 1 8).bind fun t129 => (if t129 = true then ((strings_Trim.f a0 (⟨#[97, 98, 99, 100, 101, 102, 103, 104, 105, 106, 107, 108, 109, 110, 111, 112, 113, 114, 115, 116, 117, 118, 119, 120, 121, 122]⟩ : ByteArray)).bind fun t130 => (impl_SpellWord.j0 k a0 a1 (t130.toList != ([] : List UInt8)))) else (impl_SpellWord.j0 k a0 a1 true))) else (impl_SpellWord.j0 k a0 a1 true))
set_option maxHeartbeats 8000000 in
set_option maxRecDepth 100000 in
theorem impl_SpellWord.calls (k : Nat) (a0 : ByteArray) (a1 : Int) (r1 : List Int) (r2 : Int) (w : World) (h : impl_SpellWord.f k a0 a1 = some (r1, r2)) :
  Calls Tryd.prog 34 #[.string a0, .int .i64 a1] w fun e w' => ∃ v0_ : Value, e = .returned (.tuple #[v0_, .int .i64 r2]) ∧ Kd.R (Kd.int .i8) 22 w' w.heap.size (fun _ => True) v0_ r1 ∧ Below w.heap.size w w' := by
 have HB := Aside0.mk (Below.refl w.heap.size w)
 have H : ((impl_within.f a1 1 8).bind fun t128 => (if t128 = true then ((impl_within.f (a0.size : Int) 1 8).bind fun t129 => (if t129 = true then ((strings_Trim.f a0 (⟨#[97, 98, 99, 100, 101, 102, 103, 104, 105, 106, 107, 108, 109, 110, 111, 112, 113, 114, 115, 116, 117, 118, 119, 120, 121, 122]⟩ : ByteArray)).bind fun t130 => (impl_SpellWord.j0 k a0 a1 (t130.toList != ([] : List UInt8)))) else (impl_SpellWord.j0 k a0 a1 true))) else (impl_SpellWord.j0 k a0 a1 true))) = some (r1, r2) := h
 clear h
 have HC3 := Aside0.mk H
 clear H
 go_enter Tryd.func34, Tryd.ntmps34
 go_upto_region 1 with (fail)
 go_cut [21] (fun v21 wc => ∃ (kq : Nat) (x21_2 : Bool), v21 = .bool x21_2 ∧ Aside0 (impl_SpellWord.j0 kq a0 a1 x21_2 = some (r1, r2)) ∧ Aside0 (kq ≤ k) ∧ Aside0 (Below w.heap.size w wc))
 case first =>
  have H := HC3.out
  clear HC3
  replace H := Option.bind_eq_some_iff.mp H
  obtain ⟨t128, A40, H⟩ := H
  replace H : (if t128 = true then ((impl_within.f (a0.size : Int) 1 8).bind fun t129 => (if t129 = true then ((strings_Trim.f a0 (⟨#[97, 98, 99, 100, 101, 102, 103, 104, 105, 106, 107, 108, 109, 110, 111, 112, 113, 114, 115, 116, 117, 118, 119, 120, 121, 122]⟩ : ByteArray)).bind fun t130 => (impl_SpellWord.j0 k a0 a1 (t130.toList != ([] : List UInt8)))) else (impl_SpellWord.j0 k a0 a1 true))) else (impl_SpellWord.j0 k a0 a1 true)) = some (r1, r2) := H
  have A4 := Aside0.mk A40
  clear A40
  by_cases c5 : t128 = true
  ·subst c5
   have H1 : ((impl_within.f (a0.size : Int) 1 8).bind fun t129 => (if t129 = true then ((strings_Trim.f a0 (⟨#[97, 98, 99, 100, 101, 102, 103, 104, 105, 106, 107, 108, 109, 110, 111, 112, 113, 114, 115, 116, 117, 118, 119, 120, 121, 122]⟩ : ByteArray)).bind fun t130 => (impl_SpellWord.j0 k a0 a1 (t130.toList != ([] : List UInt8)))) else (impl_SpellWord.j0 k a0 a1 true))) = some (r1, r2) := by rw [if_pos rfl] at H; exact H
   clear H
   have H := H1
   clear H1
   replace H := Option.bind_eq_some_iff.mp H
   obtain ⟨t129, A60, H⟩ := H
   replace H : (if t129 = true then ((strings_Trim.f a0 (⟨#[97, 98, 99, 100, 101, 102, 103, 104, 105, 106, 107, 108, 109, 110, 111, 112, 113, 114, 115, 116, 117, 118, 119, 120, 121, 122]⟩ : ByteArray)).bind fun t130 => (impl_SpellWord.j0 k a0 a1 (t130.toList != ([] : List UInt8)))) else (impl_SpellWord.j0 k a0 a1 true)) = some (r1, r2) := H
   have A6 := Aside0.mk A60
   clear A60
   by_cases c7 : t129 = true
   ·subst c7
    have H1 : ((strings_Trim.f a0 (⟨#[97, 98, 99, 100, 101, 102, 103, 104, 105, 106, 107, 108, 109, 110, 111, 112, 113, 114, 115, 116, 117, 118, 119, 120, 121, 122]⟩ : ByteArray)).bind fun t130 => (impl_SpellWord.j0 k a0 a1 (t130.toList != ([] : List UInt8)))) = some (r1, r2) := by rw [if_pos rfl] at H; exact H
    clear H
    have H := H1
    clear H1
    replace H := Option.bind_eq_some_iff.mp H
    obtain ⟨t130, A80, H⟩ := H
    replace H : (impl_SpellWord.j0 k a0 a1 (t130.toList != ([] : List UInt8))) = some (r1, r2) := H
    have A8 := Aside0.mk A80
    clear A80
    have H' := Aside0.mk H
    clear H
    go_wp2_with (first | ((with_reducible refine gate_callee (f := 32) rfl ?_); refine goesL_ (some 9) rfl rfl Tryd.func32 (by kernel_rfl) rfl #[.int .i64 a1, .int .i64 1, .int .i64 8] rfl (by (try simp only [List.map_toArray, List.map_cons, List.map_nil]); first | done | rfl | (simp only [List.length_drop, List.length_take]; rfl)) ?_; (with_reducible refine (impl_within.calls a1 1 8 true _ A4.out).mono ?_); rintro e w' ⟨rfl, ⟨nd, rfl⟩⟩; refine ⟨_, rfl, ?_⟩) | (go_at_call 32; (with_reducible refine (impl_within.calls (a0.size : Int) 1 8 true _ A6.out).mono ?_); rintro e w' ⟨rfl, ⟨nd, rfl⟩⟩) | (go_at_call 60; (with_reducible refine (strings_Trim.calls a0 (⟨#[97, 98, 99, 100, 101, 102, 103, 104, 105, 106, 107, 108, 109, 110, 111, 112, 113, 114, 115, 116, 117, 118, 119, 120, 121, 122]⟩ : ByteArray) t130 _ A8.out).mono ?_); rintro e w9 ⟨rfl, hb⟩; have n0_ := Aside0.mk (below_step (by repeat (first | (with_reducible first | exact HB.out | apply below_alloc | apply pw_below_drewN | apply below_drew1) | exact HB.out)) hb); clear HB; have HB := n0_; clear n0_; (try clear hb); (try clear hb2); (try clear hk); (try clear hi)))
    go_meet
    case rel => exact ⟨_, ((t130.toList != ([] : List UInt8))), (by first | rfl | (cases t130.toList <;> rfl) | (congr 1; cases t130.toList <;> rfl) | (simp; done) | (simp [*]; done)), H', ⟨by first | omega | exact Nat.le_refl _⟩, ⟨by repeat (first | (with_reducible first | exact HB.out | apply below_alloc | apply pw_below_drewN | apply below_drew1) | exact HB.out)⟩⟩
   ·replace c7 := Bool.eq_false_iff.mpr c7
    subst c7
    have H1 : (impl_SpellWord.j0 k a0 a1 true) = some (r1, r2) := by rw [if_neg (show ¬ (false = true) by decide)] at H; exact H
    clear H
    have H := H1
    clear H1
    have H' := Aside0.mk H
    clear H
    go_wp2_with (first | ((with_reducible refine gate_callee (f := 32) rfl ?_); refine goesL_ (some 9) rfl rfl Tryd.func32 (by kernel_rfl) rfl #[.int .i64 a1, .int .i64 1, .int .i64 8] rfl (by (try simp only [List.map_toArray, List.map_cons, List.map_nil]); first | done | rfl | (simp only [List.length_drop, List.length_take]; rfl)) ?_; (with_reducible refine (impl_within.calls a1 1 8 true _ A4.out).mono ?_); rintro e w' ⟨rfl, ⟨nd, rfl⟩⟩; refine ⟨_, rfl, ?_⟩) | (go_at_call 32; (with_reducible refine (impl_within.calls (a0.size : Int) 1 8 false _ A6.out).mono ?_); rintro e w' ⟨rfl, ⟨nd, rfl⟩⟩))
    go_meet
    case rel => exact ⟨_, (true), (by first | rfl | (simp; done) | (simp [*]; done)), H', ⟨by first | omega | exact Nat.le_refl _⟩, ⟨by repeat (first | (with_reducible first | exact HB.out | apply below_alloc | apply pw_below_drewN | apply below_drew1) | exact HB.out)⟩⟩
  ·replace c5 := Bool.eq_false_iff.mpr c5
   subst c5
   have H1 : (impl_SpellWord.j0 k a0 a1 true) = some (r1, r2) := by rw [if_neg (show ¬ (false = true) by decide)] at H; exact H
   clear H
   have H := H1
   clear H1
   have H' := Aside0.mk H
   clear H
   go_wp2_with (first | ((with_reducible refine gate_callee (f := 32) rfl ?_); refine goesL_ (some 9) rfl rfl Tryd.func32 (by kernel_rfl) rfl #[.int .i64 a1, .int .i64 1, .int .i64 8] rfl (by (try simp only [List.map_toArray, List.map_cons, List.map_nil]); first | done | rfl | (simp only [List.length_drop, List.length_take]; rfl)) ?_; (with_reducible refine (impl_within.calls a1 1 8 false _ A4.out).mono ?_); rintro e w' ⟨rfl, ⟨nd, rfl⟩⟩; refine ⟨_, rfl, ?_⟩))
   go_meet
   case rel => exact ⟨_, (true), (by first | rfl | (simp; done) | (simp [*]; done)), H', ⟨by first | omega | exact Nat.le_refl _⟩, ⟨by repeat (first | (with_reducible first | exact HB.out | apply below_alloc | apply pw_below_drewN | apply below_drew1) | exact HB.out)⟩⟩
 case rest =>
  clear HC3
  try clear p2
  try clear c3
  try clear c5
  try clear c7
  obtain ⟨kq, x21_2, rfl, HA, HJ2, HB⟩ := hcut
  cases kq with
  | zero => exact absurd HA.out (by simp [impl_SpellWord.j0])
  | succ kj2 =>
   have H := HA.out
   clear HA
   simp only [impl_SpellWord.j0] at H
   by_cases c10 : x21_2 = true
   ·subst c10
    have H1 : (some (([] : List Int), 2)) = some (r1, r2) := by rw [if_pos rfl] at H; exact H
    clear H
    have H := H1
    clear H1
    simp only [Option.some.injEq, Prod.mk.injEq] at H
    obtain ⟨rfl, rfl⟩ := H
    go_wp2
    go_ret2
    exact ⟨_, by first | rfl | (simp [errW_none, errW_some] <;> rfl) | (simp [*, errW_none, errW_some] <;> rfl), by first | exact Kd.R_nil _ _ _ _ _ | exact Kd.N_nil _ _ _ _ _ | exact Kd.V_nil _ _ _ _ _ | exact Kd.Q_nil _ _ _ _ _ | exact Kd.S_nil _ _ _ _ _, by repeat (first | (with_reducible first | exact HB.out | apply below_alloc | apply pw_below_drewN | apply below_drew1) | exact HB.out)⟩
   ·replace c10 := Bool.eq_false_iff.mpr c10
    subst c10
    have H1 : (impl_SpellWord.l0 kj2 a0 a1 (([] : List Int)) (a0.size : Int) 0) = some (r1, r2) := by rw [if_neg (show ¬ (false = true) by decide)] at H; exact H
    clear H
    have H := H1
    clear H1
    obtain ⟨y131, hy131⟩ : ∃ y_ : List Int, y_ = (([] : List Int)) := ⟨_, rfl⟩
    replace H : (impl_SpellWord.l0 kj2 a0 a1 y131 (a0.size : Int) 0) = some (r1, r2) := by first | (rw [hy131]; with_reducible exact H) | (have H2_ := (Option.bind_some _ _).symm.trans H; rw [hy131]; with_reducible exact H2_) | (have H2_ := (Option.bind_some _ _).symm.trans H; with_reducible exact H2_) | with_reducible exact H | (rw [hy131]; exact H) | exact H
    have Ny131 := Aside0.mk hy131
    clear hy131
    have H' := Aside0.mk H
    clear H
    go_wp2_with (first | ((with_reducible refine gate_dst (N := 22) rfl ?_); (try (refine gate_guard (by rfl) ?_; dsimp only)); refine Kd.R_lit (Kd.int .i8) _ 22 ?hg (N := 22) ?hd (xs := ([] : List Int)) (inner := []) (ok := fun _ => True) (okp := fun _ => True) ?hr ?hp (fun _ hk => hk) trivial (Below.refl _ _) (Nat.le_refl _) (by simp) ?_; (case hd => rfl); (case hg => rfl); (case hr => first | (go_simp; done) | (go_simp; rfl)); (case hp => exact (Reps.none _ _)); intro v132 w11 ho12 hb hg_ hnew_; clear hg_ hnew_; (first | rw [← Ny131.out] at ho12 | (simp only [Int.reduceToNat] at ho12; rw [← Ny131.out] at ho12)); have n0_ := Aside0.mk (Kd.R_lower ho12 (below_size (by repeat (first | (with_reducible first | exact HB.out | apply below_alloc | apply pw_below_drewN | apply below_drew1) | exact HB.out)))); have n1_ := Aside0.mk (below_step (by repeat (first | (with_reducible first | exact HB.out | apply below_alloc | apply pw_below_drewN | apply below_drew1) | exact HB.out)) hb); clear HB; have HO133 := n0_; have HB := n1_; clear n0_ n1_; clear hb ho12))
    go_loopg [6, 25] kj2 (fun kq v6 v25 w' => ∃ (x6_2 : List Int) (x25_2 : Int), v25 = .int .i64 x25_2 ∧ Aside0 (impl_SpellWord.l0 kq a0 a1 x6_2 (a0.size : Int) x25_2 = some (r1, r2)) ∧ Aside0 (kq ≤ kj2) ∧ Aside0 (Kd.R (Kd.int .i8) 22 w' w.heap.size (fun _ => True) v6 x6_2) ∧ Aside0 (Below w.heap.size w w'))
    case atStart => exact ⟨(y131), (0), (by first | rfl | (simp; done) | (simp [*]; done)), H', ⟨Nat.le_refl _⟩, ⟨by (with_reducible repeat (first | apply Kd.R_alloc | apply Kd.R_drewN | apply Kd.R_drew)); exact HO133.out⟩, ⟨by repeat (first | (with_reducible first | exact HB.out | apply below_alloc | apply pw_below_drewN | apply below_drew1) | exact HB.out)⟩⟩
    case round =>
     clear H'
     try clear c1
     try clear p2
     try clear c3
     try clear c5
     try clear c7
     try clear c10
     try clear p2
     obtain ⟨x6_2, x25_2, rfl, HA, HK2, HO_6, HB⟩ := hrel
     cases gk with
     | zero => exact absurd HA.out (by simp [impl_SpellWord.l0])
     | succ k2 =>
      have H := HA.out
      clear HA
      simp only [impl_SpellWord.l0] at H
      by_cases c13 : x25_2 < (a0.size : Int)
      ·rw [if_pos c13] at H
       have c13b0 : decide (x25_2 < (a0.size : Int)) = true := decide_eq_true c13
       clear c13
       by_cases c14 : x25_2 > 0
       ·rw [if_pos c14] at H
        have c14b0 : decide (0 < x25_2) = true := decide_eq_true c14
        clear c14
        by_cases c15 : a1 = 0
        ·rw [if_pos c15] at H
         exact absurd H (by simp)
        ·rw [if_neg c15] at H
         have c15b0 : (a1 == 0) = false := beq_eq_false_iff_ne.mpr c15
         have c15b1 : (a1 != 0) = true := bne_iff_ne.mpr c15
         by_cases c16 : (Int.tmod x25_2 a1) = 0
         ·rw [if_pos c16] at H
          have c16b0 : ((Int.tmod x25_2 a1) == 0) = true := beq_iff_eq.mpr c16
          have c16b1 : ((Int.tmod x25_2 a1) != 0) = false := bne_eq_false_iff_eq.mpr c16
          clear c16
          by_cases c17 : x6_2.length < 140737488355328
          ·rw [if_pos c17] at H
           have LMc17 := Aside0.mk c17
           clear c17
           obtain ⟨y134, hy134⟩ : ∃ y_ : List Int, y_ = (x6_2 ++ [(-10)]) := ⟨_, rfl⟩
           replace H : (if 0 ≤ x25_2 then (if x25_2 < (a0.size : Int) then (if y134.length < 140737488355328 then (impl_SpellWord.l0 k2 a0 a1 (y134 ++ [IntKind.i8.wrap (((bt a0 x25_2) - 97) % 256)]) (a0.size : Int) (wrap64 (x25_2 + 1))) else (none)) else (none)) else (none)) = some (r1, r2) := by first | (rw [hy134]; with_reducible exact H) | (have H2_ := (Option.bind_some _ _).symm.trans H; rw [hy134]; with_reducible exact H2_) | (have H2_ := (Option.bind_some _ _).symm.trans H; with_reducible exact H2_) | with_reducible exact H | (rw [hy134]; exact H) | exact H
           have Ny134 := Aside0.mk hy134
           clear hy134
           by_cases c18 : 0 ≤ x25_2
           ·rw [if_pos c18] at H
            have c18b0 : decide (0 ≤ x25_2) = true := decide_eq_true c18
            clear c18
            by_cases c19 : x25_2 < (a0.size : Int)
            ·rw [if_pos c19] at H
             have c19b0 : decide (x25_2 < (a0.size : Int)) = true := decide_eq_true c19
             clear c19
             by_cases c21 : y134.length < 140737488355328
             ·rw [if_pos c21] at H
              have LMc21 := Aside0.mk c21
              clear c21
              obtain ⟨y137, hy137⟩ : ∃ y_ : List Int, y_ = (y134 ++ [IntKind.i8.wrap (((bt a0 x25_2) - 97) % 256)]) := ⟨_, rfl⟩
              replace H : (impl_SpellWord.l0 k2 a0 a1 y137 (a0.size : Int) (wrap64 (x25_2 + 1))) = some (r1, r2) := by first | (rw [hy137]; with_reducible exact H) | (have H2_ := (Option.bind_some _ _).symm.trans H; rw [hy137]; with_reducible exact H2_) | (have H2_ := (Option.bind_some _ _).symm.trans H; with_reducible exact H2_) | with_reducible exact H | (rw [hy137]; exact H) | exact H
              have Ny137 := Aside0.mk hy137
              clear hy137
              have H' := Aside0.mk H
              clear H
              go_wp2_with (first | ((with_reducible refine gate_builtin (b := .append) (xs := #[.tmp 36, .tmp 37]) rfl ?_); (try (refine gate_guard (by rfl) ?_; dsimp only)); at_builtin; refine Kd.R_append (Kd.int .i8) (w0 := w) w.heap.size rfl (.tmp 36) (.tmp 37) 53 22 (.int .i8 0) 1 rfl Tryd.underlying53 info22 rfl (by decide) (by omega) u6 x6_2 (-10) [.int .i8 (-10)] (fun _ => True) (fun _ => False) rfl rfl ?aP (fun _ hk => hk.elim) ?aF ?aO ?aB ?aS ?aL ?_; (case aP => exact rfl); (case aB => exact (by repeat (first | (with_reducible first | exact HB.out | apply below_alloc | apply pw_below_drewN | apply below_drew1) | exact HB.out))); (case aF => exact (fun _ _ => trivial)); (case aO => exact (by (with_reducible repeat (first | apply Kd.R_alloc | apply Kd.R_drewN | apply Kd.R_drew)); exact HO_6.out)); (case aS => exact (below_size (by repeat (first | (with_reducible first | exact HB.out | apply below_alloc | apply pw_below_drewN | apply below_drew1) | exact HB.out)))); (case aL => have := LMc17.out; omega); intro v135 w22 ho hb hg hat; rw [← Ny134.out] at ho; have n0_ := Aside0.mk (hb); have n1_ := Aside0.mk (ho); clear HB; clear HO_6; have HB := n0_; have HO136 := n1_; clear n0_ n1_; clear ho hb hg hat; have p20 : 0 ≤ (x25_2 : Int) := of_decide_eq_true (by first | (with_reducible assumption) | assumption); have q20 : x25_2 < (a0.size : Int) := of_decide_eq_true (by first | (with_reducible assumption) | assumption); have hx20 := bt_at a0 x25_2; replace p20 := eq_true p20; replace q20 := eq_true q20) | ((with_reducible refine gate_builtin (b := .append) (xs := #[.tmp 39, .tmp 45]) rfl ?_); (try (refine gate_guard (by rfl) ?_; dsimp only)); at_builtin; refine Kd.R_append (Kd.int .i8) (w0 := w) w.heap.size rfl (.tmp 39) (.tmp 45) 53 22 (.int .i8 0) 1 rfl Tryd.underlying53 info22 rfl (by decide) (by omega) v135 y134 (IntKind.i8.wrap (((bt a0 x25_2) - 97) % 256)) [.int .i8 (IntKind.i8.wrap (((bt a0 x25_2) - 97) % 256))] (fun _ => True) (fun _ => False) rfl rfl ?aP (fun _ hk => hk.elim) ?aF ?aO ?aB ?aS ?aL ?_; (case aP => exact rfl); (case aB => exact (by repeat (first | (with_reducible first | exact HB.out | apply below_alloc | apply pw_below_drewN | apply below_drew1) | exact HB.out))); (case aF => exact (fun _ _ => trivial)); (case aO => exact (by (with_reducible repeat (first | apply Kd.R_alloc | apply Kd.R_drewN | apply Kd.R_drew)); exact HO136.out)); (case aS => exact (below_size (by repeat (first | (with_reducible first | exact HB.out | apply below_alloc | apply pw_below_drewN | apply below_drew1) | exact HB.out)))); (case aL => have := LMc21.out; omega); intro v138 w23 ho hb hg hat; rw [← Ny137.out] at ho; have n0_ := Aside0.mk (hb); have n1_ := Aside0.mk (ho); clear HB; clear HO136; have HB := n0_; have HO139 := n1_; clear n0_ n1_; clear ho hb hg hat))
              go_roundg k2
              case measure => have := HJ2.out; have := HK2.out; omega
              case rel => exact ⟨(y137), (wrap64 (x25_2 + 1)), (by first | rfl | (simp; done) | (simp [*]; done)), H', ⟨by have := HJ2.out; have := HK2.out; omega⟩, ⟨by (with_reducible repeat (first | apply Kd.R_alloc | apply Kd.R_drewN | apply Kd.R_drew)); exact HO139.out⟩, ⟨by repeat (first | (with_reducible first | exact HB.out | apply below_alloc | apply pw_below_drewN | apply below_drew1) | exact HB.out)⟩⟩
             ·rw [if_neg c21] at H
              exact absurd H (by simp)
            ·rw [if_neg c19] at H
             exact absurd H (by simp)
           ·rw [if_neg c18] at H
            exact absurd H (by simp)
          ·rw [if_neg c17] at H
           exact absurd H (by simp)
         ·rw [if_neg c16] at H
          have c16b0 : ((Int.tmod x25_2 a1) == 0) = false := beq_eq_false_iff_ne.mpr c16
          have c16b1 : ((Int.tmod x25_2 a1) != 0) = true := bne_iff_ne.mpr c16
          by_cases c24 : 0 ≤ x25_2
          ·rw [if_pos c24] at H
           have c24b0 : decide (0 ≤ x25_2) = true := decide_eq_true c24
           clear c24
           by_cases c25 : x25_2 < (a0.size : Int)
           ·rw [if_pos c25] at H
            have c25b0 : decide (x25_2 < (a0.size : Int)) = true := decide_eq_true c25
            clear c25
            by_cases c27 : x6_2.length < 140737488355328
            ·rw [if_pos c27] at H
             have LMc27 := Aside0.mk c27
             clear c27
             obtain ⟨y140, hy140⟩ : ∃ y_ : List Int, y_ = (x6_2 ++ [IntKind.i8.wrap (((bt a0 x25_2) - 97) % 256)]) := ⟨_, rfl⟩
             replace H : (impl_SpellWord.l0 k2 a0 a1 y140 (a0.size : Int) (wrap64 (x25_2 + 1))) = some (r1, r2) := by first | (rw [hy140]; with_reducible exact H) | (have H2_ := (Option.bind_some _ _).symm.trans H; rw [hy140]; with_reducible exact H2_) | (have H2_ := (Option.bind_some _ _).symm.trans H; with_reducible exact H2_) | with_reducible exact H | (rw [hy140]; exact H) | exact H
             have Ny140 := Aside0.mk hy140
             clear hy140
             have H' := Aside0.mk H
             clear H
             have p26 : 0 ≤ (x25_2 : Int) := of_decide_eq_true (by first | (with_reducible assumption) | assumption)
             have q26 : x25_2 < (a0.size : Int) := of_decide_eq_true (by first | (with_reducible assumption) | assumption)
             have hx26 := bt_at a0 x25_2
             replace p26 := eq_true p26
             replace q26 := eq_true q26
             go_wp2_with (first | ((with_reducible refine gate_builtin (b := .append) (xs := #[.tmp 39, .tmp 45]) rfl ?_); (try (refine gate_guard (by rfl) ?_; dsimp only)); at_builtin; refine Kd.R_append (Kd.int .i8) (w0 := w) w.heap.size rfl (.tmp 39) (.tmp 45) 53 22 (.int .i8 0) 1 rfl Tryd.underlying53 info22 rfl (by decide) (by omega) u6 x6_2 (IntKind.i8.wrap (((bt a0 x25_2) - 97) % 256)) [.int .i8 (IntKind.i8.wrap (((bt a0 x25_2) - 97) % 256))] (fun _ => True) (fun _ => False) rfl rfl ?aP (fun _ hk => hk.elim) ?aF ?aO ?aB ?aS ?aL ?_; (case aP => exact rfl); (case aB => exact (by repeat (first | (with_reducible first | exact HB.out | apply below_alloc | apply pw_below_drewN | apply below_drew1) | exact HB.out))); (case aF => exact (fun _ _ => trivial)); (case aO => exact (by (with_reducible repeat (first | apply Kd.R_alloc | apply Kd.R_drewN | apply Kd.R_drew)); exact HO_6.out)); (case aS => exact (below_size (by repeat (first | (with_reducible first | exact HB.out | apply below_alloc | apply pw_below_drewN | apply below_drew1) | exact HB.out)))); (case aL => have := LMc27.out; omega); intro v141 w28 ho hb hg hat; rw [← Ny140.out] at ho; have n0_ := Aside0.mk (hb); have n1_ := Aside0.mk (ho); clear HB; clear HO_6; have HB := n0_; have HO142 := n1_; clear n0_ n1_; clear ho hb hg hat))
             go_roundg k2
             case measure => have := HJ2.out; have := HK2.out; omega
             case rel => exact ⟨(y140), (wrap64 (x25_2 + 1)), (by first | rfl | (simp; done) | (simp [*]; done)), H', ⟨by have := HJ2.out; have := HK2.out; omega⟩, ⟨by (with_reducible repeat (first | apply Kd.R_alloc | apply Kd.R_drewN | apply Kd.R_drew)); exact HO142.out⟩, ⟨by repeat (first | (with_reducible first | exact HB.out | apply below_alloc | apply pw_below_drewN | apply below_drew1) | exact HB.out)⟩⟩
            ·rw [if_neg c27] at H
             exact absurd H (by simp)
           ·rw [if_neg c25] at H
            exact absurd H (by simp)
          ·rw [if_neg c24] at H
           exact absurd H (by simp)
       ·rw [if_neg c14] at H
        have c14b0 : decide (0 < x25_2) = false := decide_eq_false c14
        clear c14
        by_cases c29 : 0 ≤ x25_2
        ·rw [if_pos c29] at H
         have c29b0 : decide (0 ≤ x25_2) = true := decide_eq_true c29
         clear c29
         by_cases c30 : x25_2 < (a0.size : Int)
         ·rw [if_pos c30] at H
          have c30b0 : decide (x25_2 < (a0.size : Int)) = true := decide_eq_true c30
          clear c30
          by_cases c32 : x6_2.length < 140737488355328
          ·rw [if_pos c32] at H
           have LMc32 := Aside0.mk c32
           clear c32
           obtain ⟨y143, hy143⟩ : ∃ y_ : List Int, y_ = (x6_2 ++ [IntKind.i8.wrap (((bt a0 x25_2) - 97) % 256)]) := ⟨_, rfl⟩
           replace H : (impl_SpellWord.l0 k2 a0 a1 y143 (a0.size : Int) (wrap64 (x25_2 + 1))) = some (r1, r2) := by first | (rw [hy143]; with_reducible exact H) | (have H2_ := (Option.bind_some _ _).symm.trans H; rw [hy143]; with_reducible exact H2_) | (have H2_ := (Option.bind_some _ _).symm.trans H; with_reducible exact H2_) | with_reducible exact H | (rw [hy143]; exact H) | exact H
           have Ny143 := Aside0.mk hy143
           clear hy143
           have H' := Aside0.mk H
           clear H
           have p31 : 0 ≤ (x25_2 : Int) := of_decide_eq_true (by first | (with_reducible assumption) | assumption)
           have q31 : x25_2 < (a0.size : Int) := of_decide_eq_true (by first | (with_reducible assumption) | assumption)
           have hx31 := bt_at a0 x25_2
           replace p31 := eq_true p31
           replace q31 := eq_true q31
           go_wp2_with (first | ((with_reducible refine gate_builtin (b := .append) (xs := #[.tmp 39, .tmp 45]) rfl ?_); (try (refine gate_guard (by rfl) ?_; dsimp only)); at_builtin; refine Kd.R_append (Kd.int .i8) (w0 := w) w.heap.size rfl (.tmp 39) (.tmp 45) 53 22 (.int .i8 0) 1 rfl Tryd.underlying53 info22 rfl (by decide) (by omega) u6 x6_2 (IntKind.i8.wrap (((bt a0 x25_2) - 97) % 256)) [.int .i8 (IntKind.i8.wrap (((bt a0 x25_2) - 97) % 256))] (fun _ => True) (fun _ => False) rfl rfl ?aP (fun _ hk => hk.elim) ?aF ?aO ?aB ?aS ?aL ?_; (case aP => exact rfl); (case aB => exact (by repeat (first | (with_reducible first | exact HB.out | apply below_alloc | apply pw_below_drewN | apply below_drew1) | exact HB.out))); (case aF => exact (fun _ _ => trivial)); (case aO => exact (by (with_reducible repeat (first | apply Kd.R_alloc | apply Kd.R_drewN | apply Kd.R_drew)); exact HO_6.out)); (case aS => exact (below_size (by repeat (first | (with_reducible first | exact HB.out | apply below_alloc | apply pw_below_drewN | apply below_drew1) | exact HB.out)))); (case aL => have := LMc32.out; omega); intro v144 w33 ho hb hg hat; rw [← Ny143.out] at ho; have n0_ := Aside0.mk (hb); have n1_ := Aside0.mk (ho); clear HB; clear HO_6; have HB := n0_; have HO145 := n1_; clear n0_ n1_; clear ho hb hg hat))
           go_roundg k2
           case measure => have := HJ2.out; have := HK2.out; omega
           case rel => exact ⟨(y143), (wrap64 (x25_2 + 1)), (by first | rfl | (simp; done) | (simp [*]; done)), H', ⟨by have := HJ2.out; have := HK2.out; omega⟩, ⟨by (with_reducible repeat (first | apply Kd.R_alloc | apply Kd.R_drewN | apply Kd.R_drew)); exact HO145.out⟩, ⟨by repeat (first | (with_reducible first | exact HB.out | apply below_alloc | apply pw_below_drewN | apply below_drew1) | exact HB.out)⟩⟩
          ·rw [if_neg c32] at H
           exact absurd H (by simp)
         ·rw [if_neg c30] at H
          exact absurd H (by simp)
        ·rw [if_neg c29] at H
         exact absurd H (by simp)
      ·rw [if_neg c13] at H
       have c13b0 : decide (x25_2 < (a0.size : Int)) = false := decide_eq_false c13
       clear c13
       by_cases c34 : (x6_2.length : Int) > 8
       ·rw [if_pos c34] at H
        have c34b0 : decide (8 < (x6_2.length : Int)) = true := decide_eq_true c34
        have c34b1 : decide (8 < x6_2.length) = true := decide_eq_true (by omega)
        clear c34
        simp only [Option.some.injEq, Prod.mk.injEq] at H
        obtain ⟨rfl, rfl⟩ := H
        obtain ⟨Ao35, co35, eo35⟩ := Kd.R_slice HO_6.out
        subst eo35
        go_wp2
        go_ret2
        exact ⟨_, by first | rfl | (simp [errW_none, errW_some] <;> rfl) | (simp [*, errW_none, errW_some] <;> rfl), by first | exact Kd.R_nil _ _ _ _ _ | exact Kd.N_nil _ _ _ _ _ | exact Kd.V_nil _ _ _ _ _ | exact Kd.Q_nil _ _ _ _ _ | exact Kd.S_nil _ _ _ _ _, by repeat (first | (with_reducible first | exact HB.out | apply below_alloc | apply pw_below_drewN | apply below_drew1) | exact HB.out)⟩
       ·rw [if_neg c34] at H
        have c34b0 : decide (8 < (x6_2.length : Int)) = false := decide_eq_false c34
        have c34b1 : decide (8 < x6_2.length) = false := decide_eq_false (by omega)
        clear c34
        simp only [Option.some.injEq, Prod.mk.injEq] at H
        obtain ⟨rfl, rfl⟩ := H
        obtain ⟨Ao36, co36, eo36⟩ := Kd.R_slice HO_6.out
        subst eo36
        go_wp2
        go_ret2
        exact ⟨_, by first | rfl | (simp [errW_none, errW_some] <;> rfl) | (simp [*, errW_none, errW_some] <;> rfl), by (with_reducible repeat (first | apply Kd.R_alloc | apply Kd.R_drewN | apply Kd.R_drew)); exact HO_6.out, by repeat (first | (with_reducible first | exact HB.out | apply below_alloc | apply pw_below_drewN | apply below_drew1) | exact HB.out)⟩
end Go.Proofs.YtdgecgfgekmhcaaDoor.M
namespace Go.Proofs.YtdgecgfgekmhcaaDoor.Arr
open Go.RowKit Go.Proofs.YtdgecgfgekmhcaaDoorW.PrintWords Go.Proofs.YtdgecgfgekmhcaaDoorW.PrintLast Go.Proofs.YtdgecgfgekmhcaaDoorW.PrintMore Go.Proofs.YtdgecgfgekmhcaaDoor.U Go.Proofs.YtdgecgfgekmhcaaDoor.M
set_option linter.unusedVariables false
set_option linter.unusedSimpArgs false
theorem inM_ev (a b c : Int) : M.spec_l00In.f a b c = some (decide (b ≤ a ∧ a ≤ c)) := by
 unfold M.spec_l00In.f
 by_cases h : a ≥ b
 ·rw [if_pos h]; congr 1; rw [decide_eq_decide]; omega
 ·rw [if_neg h]; congr 1; rw [eq_comm, decide_eq_false_iff_not]; omega
theorem withinM_ev (a b c : Int) : M.impl_within.f a b c = some (decide (b ≤ a ∧ a ≤ c)) := by
 unfold M.impl_within.f
 by_cases h : a ≥ b
 ·rw [if_pos h]; congr 1; rw [decide_eq_decide]; omega
 ·rw [if_neg h]; congr 1; rw [eq_comm, decide_eq_false_iff_not]; omega
theorem word_ev (s : ByteArray) (hs : s.size ≤ 1048576) : Ev (fun k => spec_l03Word.f k s) (wordB s) := by
 unfold spec_l03Word.f
 refine iter (F := fun k (x : Int) => spec_l03Word.l0 k s x) (fun i x => x = (i : Int) ∧ ∀ j : Nat, j < i → 97 ≤ bt s (j : Int) ∧ bt s (j : Int) ≤ 122) _ s.size ?_ ?_ 0 0 (by omega) ⟨rfl, fun j hj => absurd hj (by omega)⟩
 ·rintro i x hi ⟨rfl, hP⟩
  by_cases h1 : 97 ≤ bt s (i : Int) ∧ bt s (i : Int) ≤ 122
  ·refine .inl ⟨((i + 1 : Nat) : Int), ⟨rfl, fun j hj => ?_⟩, fun hgo => ?_⟩
   ·rcases Nat.lt_or_ge j i with h | h
    ·exact hP j h
    ·obtain rfl : j = i := by omega
     exact h1
   ·have hgo2 : Ev (fun k => spec_l03Word.l0 k s (wrap64 ((i : Int) + 1))) (wordB s) := by rw [w64 (by omega) (by omega)]; exact hgo
    refine Ev.step (fun k => by rw [spec_l03Word.l0]) ?_
    exact pos (by omega) (pos (by omega) (neg (by omega) (neg (by omega) hgo2)))
  ·refine .inr ?_
   have hf : wordB s = false := by
    unfold wordB
    rw [decide_eq_false (fun h => h1 (h i hi))]; rfl
   rw [hf]
   refine Ev.step (fun k => by rw [spec_l03Word.l0]) ?_
   refine pos (by omega) (pos (by omega) ?_)
   by_cases h2 : bt s (i : Int) < 97
   ·exact pos h2 (cons rfl)
   ·exact neg h2 (pos (by omega) (cons rfl))
 ·rintro x ⟨rfl, hP⟩
  refine Ev.step (fun k => by rw [spec_l03Word.l0]) ?_
  refine neg (by omega) (bindc (inM_ev _ _ _) (cons ?_))
  unfold wordB
  rw [decide_eq_true hP, Bool.true_and, decide_eq_decide]
  omega
theorem tm {i : Nat} {g : Int} (hg : 1 ≤ g) : Int.tmod (i : Int) g = (i : Int) % g := Int.tmod_eq_emod_of_nonneg (by omega)
theorem spell_ev (s : ByteArray) (g : Int) (hg : 1 ≤ g) (hs : ∀ i : Nat, i < s.size → 97 ≤ bt s (i : Int) ∧ bt s (i : Int) ≤ 122) (h8 : s.size ≤ 8) : Ev (fun k => spec_l03Spell.f k s g) (spellL s g s.size) := by
 unfold spec_l03Spell.f
 refine iter (F := fun k (st : List Int × Int) => spec_l03Spell.l0 k s g st.1 st.2) (fun i st => st.2 = (i : Int) ∧ st.1 = spellL s g i) _ s.size ?_ ?_ 0 ([], 0) (by omega) ⟨rfl, rfl⟩
 ·rintro i ⟨l, x⟩ hi ⟨hx, hl⟩
  dsimp only at hx hl
  subst hx hl
  have hb := hs i hi
  have hlen := (spellL_in hs g i (by omega)).2
  have hw8 : IntKind.i8.wrap ((bt s (i : Int) - 97) % 256) = bt s (i : Int) - 97 := by rw [Int.emod_eq_of_lt (by omega) (by omega)]; exact i8w (by omega) (by omega)
  refine .inl ⟨(spellL s g (i + 1), ((i + 1 : Nat) : Int)), ⟨rfl, rfl⟩, fun hgo => ?_⟩
  have hgo2 : Ev (fun k => spec_l03Spell.l0 k s g (spellL s g (i + 1)) (wrap64 ((i : Int) + 1))) (spellL s g s.size) := by rw [w64 (by omega) (by omega)]; exact hgo
  rw [spellL] at hgo2
  refine Ev.step (fun k => by rw [spec_l03Spell.l0]) ?_
  dsimp only
  refine pos (by omega) ?_
  rw [hw8]
  by_cases h0 : (i : Int) > 0
  ·refine pos h0 (neg (by omega) ?_)
   by_cases hm : (i : Int) % g = 0
   ·rw [if_pos ⟨h0, hm⟩] at hgo2
    refine pos (by rw [tm hg]; exact hm) (pos (by omega) ?_)
    exact Ev.bind (Ev.now _) (pos (by omega) (pos (by simp; omega) hgo2))
   ·rw [if_neg (fun h => hm h.2)] at hgo2
    exact neg (by rw [tm hg]; exact hm) (pos (by omega) (pos (by omega) hgo2))
  ·rw [if_neg (fun h => h0 h.1)] at hgo2
   exact neg h0 (pos (by omega) (pos (by omega) hgo2))
 ·rintro ⟨l, x⟩ ⟨hx, hl⟩
  dsimp only at hx hl
  subst hx hl
  refine Ev.step (fun k => by rw [spec_l03Spell.l0]) ?_
  exact neg (by omega) (cons rfl)
theorem specSpell_ev (s : ByteArray) (g : Int) (hs : s.size ≤ 1048576) : Ev (fun k => spec_SpellWord.f k s g) (spellW s g) := by
 unfold spec_SpellWord.f
 refine bindc (inM_ev _ _ _) ?_
 unfold spellW
 by_cases hg : 1 ≤ g ∧ g ≤ 8
 ·refine pos (decide_eq_true hg) (Ev.bind (word_ev s hs) ?_)
  refine Ev.step (fun k => by rw [spec_SpellWord.j0]) ?_
  cases hw : wordB s with
  | false =>
   rw [if_neg (fun h => by simpa using h.2)]
   exact pos rfl (cons rfl)
  | true =>
   rw [if_pos ⟨hg, rfl⟩]
   obtain ⟨h1, h2⟩ := wordB_iff hw
   refine neg (by simp) (Ev.bind (spell_ev s g hg.1 h1 h2.2) ?_)
   by_cases h8 : (spellL s g s.size).length ≤ 8
   ·rw [if_pos h8]
    exact neg (by omega) (cons rfl)
   ·rw [if_neg h8]
    exact pos (by omega) (cons rfl)
 ·rw [if_neg (fun h => hg h.1)]
  refine neg (by rw [decide_eq_false hg]; simp) ?_
  refine Ev.step (fun k => by rw [spec_SpellWord.j0]) ?_
  exact pos rfl (cons rfl)
theorem abc_all : ∀ n : Fin 256, abc.data.toList.contains (UInt8.ofNat n.val) = decide (97 ≤ n.val ∧ n.val ≤ 122) := by decide +kernel
theorem abc_has (x : UInt8) : abc.data.toList.contains x = decide (97 ≤ x.toNat ∧ x.toNat ≤ 122) := by
 have := abc_all ⟨x.toNat, x.toNat_lt⟩
 simp only [UInt8.ofNat_toNat] at this
 exact this
theorem dropWhile_nil {p : UInt8 → Bool} : ∀ {l : List UInt8}, l.dropWhile p = [] ↔ ∀ x ∈ l, p x = true
 | [] => by simp
 | x :: r => by
  rw [List.dropWhile_cons]
  by_cases h : p x = true
  ·rw [if_pos h, dropWhile_nil]
   simp [h]
  ·rw [if_neg h]
   simp [h]
theorem trim_nil (l cs : List UInt8) : Lib.trimS l cs = [] ↔ ∀ x ∈ l, cs.contains x = true := by
 unfold Lib.trimS Lib.trimLeftS Lib.trimRightS
 rw [dropWhile_nil]
 constructor
 ·intro h
  have hn : l.reverse.dropWhile (cs.contains ·) = [] := by
   rcases hd : l.reverse.dropWhile (cs.contains ·) with _ | ⟨y, r⟩
   ·rfl
   ·exfalso
    have h1 := h y (by rw [hd]; simp)
    have h2 := List.head?_dropWhile_not (p := (cs.contains ·)) (l := l.reverse)
    rw [hd] at h2
    simp only [List.head?_cons] at h2
    simp at h2
    exact h2 (by simpa using h1)
  rw [dropWhile_nil] at hn
  intro x hx
  exact hn x (by simpa using hx)
 ·intro h x hx
  rw [(dropWhile_nil (l := l.reverse)).2 (fun y hy => h y (by simpa using hy))] at hx
  cases hx
theorem letters_iff (s : ByteArray) : (∀ x ∈ s.data.toList, abc.data.toList.contains x = true) ↔ ∀ i : Nat, i < s.size → 97 ≤ bt s (i : Int) ∧ bt s (i : Int) ≤ 122 := by
 have hb : ∀ (i : Nat) (h : i < s.size), bt s (i : Int) = ((s.data.toList[i]'(by simpa using h)).toNat : Int) := by
  intro i h
  unfold bt
  rw [dif_pos (by simpa using h)]
  simp
  rfl
 constructor
 ·intro h i hi
  rw [hb i hi]
  have := h _ (List.getElem_mem (l := s.data.toList) (n := i) (by simpa using hi))
  rw [abc_has, decide_eq_true_eq] at this
  omega
 ·intro h x hx
  obtain ⟨i, hi, rfl⟩ := List.getElem_of_mem hx
  have hi2 : i < s.size := by simpa using hi
  have := h i hi2
  rw [hb i hi2] at this
  rw [abc_has, decide_eq_true_eq]
  omega
theorem implSpell_l0 (s : ByteArray) (g : Int) (hg : 1 ≤ g) (hs : ∀ i : Nat, i < s.size → 97 ≤ bt s (i : Int) ∧ bt s (i : Int) ≤ 122) (h8 : s.size ≤ 8) : Ev (fun k => impl_SpellWord.l0 k s g [] (s.size : Int) 0) (if (spellL s g s.size).length ≤ 8 then (spellL s g s.size, 0) else ([], 3)) := by
 refine iter (F := fun k (st : List Int × Int) => impl_SpellWord.l0 k s g st.1 (s.size : Int) st.2) (fun i st => st.2 = (i : Int) ∧ st.1 = spellL s g i) _ s.size ?_ ?_ 0 ([], 0) (by omega) ⟨rfl, rfl⟩
 ·rintro i ⟨l, x⟩ hi ⟨hx, hl⟩
  dsimp only at hx hl
  subst hx hl
  have hb := hs i hi
  have hlen := (spellL_in hs g i (by omega)).2
  have hw8 : IntKind.i8.wrap ((bt s (i : Int) - 97) % 256) = bt s (i : Int) - 97 := by rw [Int.emod_eq_of_lt (by omega) (by omega)]; exact i8w (by omega) (by omega)
  refine .inl ⟨(spellL s g (i + 1), ((i + 1 : Nat) : Int)), ⟨rfl, rfl⟩, fun hgo => ?_⟩
  have hgo2 : Ev (fun k => impl_SpellWord.l0 k s g (spellL s g (i + 1)) (s.size : Int) (wrap64 ((i : Int) + 1))) (if (spellL s g s.size).length ≤ 8 then (spellL s g s.size, 0) else ([], 3)) := by rw [w64 (by omega) (by omega)]; exact hgo
  rw [spellL] at hgo2
  refine Ev.step (fun k => by rw [impl_SpellWord.l0]) ?_
  dsimp only
  refine pos (by omega) ?_
  rw [hw8]
  by_cases h0 : (i : Int) > 0
  ·refine pos h0 (neg (by omega) ?_)
   by_cases hm : (i : Int) % g = 0
   ·rw [if_pos ⟨h0, hm⟩] at hgo2
    refine pos (by rw [tm hg]; exact hm) (pos (by omega) ?_)
    exact Ev.bind (Ev.now _) (pos (by omega) (pos (by omega) (pos (by simp; omega) hgo2)))
   ·rw [if_neg (fun h => hm h.2)] at hgo2
    exact neg (by rw [tm hg]; exact hm) (pos (by omega) (pos (by omega) (pos (by omega) hgo2)))
  ·rw [if_neg (fun h => h0 h.1)] at hgo2
   exact neg h0 (pos (by omega) (pos (by omega) (pos (by omega) hgo2)))
 ·rintro ⟨l, x⟩ ⟨hx, hl⟩
  dsimp only at hx hl
  subst hx hl
  refine Ev.step (fun k => by rw [impl_SpellWord.l0]) ?_
  dsimp only
  refine neg (by omega) ?_
  by_cases h8 : (spellL s g s.size).length ≤ 8
  ·rw [if_pos h8]
   exact neg (by omega) (cons rfl)
  ·rw [if_neg h8]
   exact pos (by omega) (cons rfl)
theorem implSpell_ev (s : ByteArray) (g : Int) (hs : s.size ≤ 1000000) : Ev (fun k => impl_SpellWord.f k s g) (spellW s g) := by
 unfold impl_SpellWord.f
 refine bindc (withinM_ev _ _ _) ?_
 unfold spellW
 by_cases hg : 1 ≤ g ∧ g ≤ 8
 ·refine pos (decide_eq_true hg) (bindc (withinM_ev _ _ _) ?_)
  by_cases hz : 1 ≤ (s.size : Int) ∧ (s.size : Int) ≤ 8
  ·refine pos (decide_eq_true hz) ?_
   have ht : strings_Trim.f s abc = some ⟨(Lib.trimS s.data.toList abc.data.toList).toArray⟩ := if_pos ⟨hs, rfl⟩
   refine bindc ht ?_
   rw [Lib.toList_data]
   refine Ev.step (fun k => by rw [impl_SpellWord.j0]) ?_
   cases hw : wordB s with
   | false =>
    rw [if_neg (fun h => by simpa using h.2)]
    refine pos ?_ (cons rfl)
    rw [bne_iff_ne]
    intro h
    have h1 := (letters_iff s).1 ((trim_nil _ _).1 (by simpa using h))
    unfold wordB at hw
    rw [decide_eq_true h1, Bool.true_and, decide_eq_false_iff_not] at hw
    omega
   | true =>
    rw [if_pos ⟨hg, rfl⟩]
    obtain ⟨h1, h2⟩ := wordB_iff hw
    have h3 := (trim_nil s.data.toList abc.data.toList).2 ((letters_iff s).2 h1)
    refine neg (by rw [h3]; simp) ?_
    exact implSpell_l0 s g hg.1 h1 h2.2
  ·rw [if_neg (fun h => by have := (wordB_iff h.2).2; omega)]
   refine neg (by rw [decide_eq_false hz]; simp) ?_
   refine Ev.step (fun k => by rw [impl_SpellWord.j0]) ?_
   exact pos rfl (cons rfl)
 ·rw [if_neg (fun h => hg h.1)]
  refine neg (by rw [decide_eq_false hg]; simp) ?_
  refine Ev.step (fun k => by rw [impl_SpellWord.j0]) ?_
  exact pos rfl (cons rfl)
theorem specSpell_calls (s : ByteArray) (g : Int) (hs : s.size ≤ 1000000) (hg : -9223372036854775808 ≤ g ∧ g ≤ 9223372036854775807) (w : World) :
  Calls Tryd.prog 29 #[.string s, .int .i64 g] w fun e w' => ∃ v, e = .returned (.tuple #[v, .int .i64 (spellW s g).2]) ∧ Own w.heap.size w' v (spellW s g).1 ∧ Below w.heap.size w w' := by
 obtain ⟨k, hk⟩ := (specSpell_ev s g (by omega)).rounds
 exact spec_SpellWord.calls k s g _ _ w hk
theorem implSpell_calls (s : ByteArray) (g : Int) (hs : s.size ≤ 1000000) (hg : -9223372036854775808 ≤ g ∧ g ≤ 9223372036854775807) (w : World) :
  Calls Tryd.prog 34 #[.string s, .int .i64 g] w fun e w' => ∃ v, e = .returned (.tuple #[v, .int .i64 (spellW s g).2]) ∧ Own w.heap.size w' v (spellW s g).1 ∧ Below w.heap.size w w' := by
 obtain ⟨k, hk⟩ := (implSpell_ev s g hs).rounds
 exact impl_SpellWord.calls k s g _ _ w hk
end Go.Proofs.YtdgecgfgekmhcaaDoor.Arr
namespace Go.Proofs.YtdgecgfgekmhcaaDoor.Arr
open Go.RowKit Go.Proofs.YtdgecgfgekmhcaaDoorW.PrintWords Go.Proofs.YtdgecgfgekmhcaaDoorW.PrintLast Go.Proofs.YtdgecgfgekmhcaaDoorW.PrintMore Go.Proofs.YtdgecgfgekmhcaaDoor.U Go.Proofs.YtdgecgfgekmhcaaDoor.J
set_option linter.unusedVariables false
set_option linter.unusedSimpArgs false
set_option maxHeartbeats 8000000 in
set_option maxRecDepth 100000 in
theorem specHft_calls (l : List UInt8) (hl : l.length ≤ 1048576) (subs : Int) (hsub : -9223372036854775808 ≤ subs ∧ subs ≤ 9223372036854775807) (w : World) :
  Calls Tryd.prog 11 #[.string ⟨l.toArray⟩, .int .i64 subs] w fun e w' => ∃ v, e = .returned (.tuple #[v, .int .i64 (hftW l subs).2]) ∧ Kd.S kH 58 w' w.heap.size (fun _ => True) v (hftW l subs).1 ∧ Below w.heap.size w w' := by
 have HIN := Aside0.mk (fun W => spec_l00In.calls subs 0 4 (decide (0 ≤ subs ∧ subs ≤ 4)) W (in_ev' _ _ _))
 have hsz := bs_size l
 by_cases hok : (0 ≤ subs ∧ subs ≤ 4) ∧ l.length ≤ 200
 ·obtain ⟨hsb, hln⟩ := hok
  have HV : Aside0 (hftW l subs = goT subs (sp 32 l) []) := ⟨if_pos ⟨hsb, hln⟩⟩
  have HS : Aside0 (∀ W, Calls Tryd.prog 28 #[.string ⟨l.toArray⟩, .int .u8 32] W fun e w' => GivesT (sp 32 l) W e w') := ⟨fun W => splitS_calls 32 l hl W⟩
  have hwl := sp_len 32 l
  have HWM := Aside0.mk (sp_mem 32 l)
  generalize sp 32 l = WS at *
  generalize hftW l subs = V at *
  rw [decide_eq_true hsb] at HIN
  have hgt : ¬ (200 : Int) < (l.length : Int) := by omega
  have hgd := decide_eq_false hgt
  have HSP := Aside0.mk (fun (x : List UInt8) (hx : x.length ≤ 1000) W => specSpell_calls ⟨x.toArray⟩ 8 (by rw [bs_size]; omega) (by omega) W)
  have HLE := Aside0.mk (fun A c m W hr hc hs => specLeast_calls A c m subs W hr hc hs)
  have HHF := Aside0.mk (fun A c m sets W hr hc hs => specHoistFor_calls A c m sets subs W hr hc hs)
  go_enter Tryd.func11, Tryd.ntmps11
  go_wp2_with (first
   | (go_at_call 27; refine (HIN.out _).mono ?_; rintro e w1 ⟨rfl, ⟨n1, rfl⟩⟩; have HBD := Aside0.mk (pw_below_drewN (Below.refl w.heap.size w) n1))
   | (go_at_call 28; refine (HS.out _).mono ?_; rintro e ws ⟨bk, cap, rfl, hwc, ⟨hk1, hk2⟩, hb⟩; have HBW := Aside0.mk (HBD.out.trans (hb.mono HBD.out.size)); have HWC := Aside0.mk hwc; have HK2 := Aside0.mk hk2; clear hb hwc hk1 hk2)
   | ((with_reducible refine gate_dst (N := 26) rfl ?_); refine st_litv rfl (N := 26) (n := 0) rfl (Mem.start ws) (cs := #[]) (e := 58) ?hr ?_; (case hr => first | (go_simp; done) | (go_simp; rfl)); intro gl wl hm; have HH := Aside0.mk (HTs.mk (hm.done rfl) (S_blockH (hm.mem (n := 0) rfl) (hm.own_ge 0 rfl) trivial)); have HBK := Aside0.mk (Bk.mk ((hm.done rfl).block _ HK2.out) (Nat.lt_of_lt_of_le HK2.out (hm.done rfl).size) (fun k hk => by have h1 := hm.own_ge 0 rfl; have h2 := HK2.out; simp [Value.ownBlock] at hk; omega) : Bk bk ws (.slice (some ⟨gl, 0, none⟩) 0 0) wl); clear hm))
  go_loopw [8, 7] (fun vi vo wr => ∃ (i : Nat) (acc : List (List Int)), i ≤ WS.length ∧ vi = .int .i64 i ∧ acc.length ≤ i ∧ Aside0 (V = goT subs (WS.drop i) acc) ∧ Aside0 (HTs ws vo acc wr) ∧ Aside0 (Bk bk ws vo wr)) (fun vi _ _ => WS.length - (intOf vi).toNat)
  case atStart => exact ⟨0, [], by omega, rfl, by simp, HV, HH, HBK⟩
  case round =>
   clear HH HBK
   obtain ⟨i, acc, hi, rfl, hal, HV, HH, HK⟩ := hrel
   obtain ⟨Ao, co, rfl⟩ := Kd.S_slice HH.out.own
   by_cases hlt : i < WS.length
   ·obtain ⟨x, hx⟩ : ∃ x, WS[i]? = some x := ⟨_, List.getElem?_eq_getElem hlt⟩
    have hc := HWC.out wr HK.out.eq i x hx
    have hxl := HWM.out x (List.mem_of_getElem? hx)
    have HSX := Aside0.mk (HSP.out x (by omega))
    have hsm := spellW_small ⟨x.toArray⟩ 8
    by_cases hz : (spellW ⟨x.toArray⟩ 8).2 = 0
    ·have HV2 := Aside0.mk (HV.out.trans (goT_step hx hz))
     rw [hz] at HSX
     clear hz hx HV
     generalize (spellW ⟨x.toArray⟩ 8).1 = m at *
     have HLX := Aside0.mk (fun A c W hr hc => HLE.out A c m W hr hc hsm.1)
     generalize (leastW m subs).1 = sets at *
     have HHX := Aside0.mk (fun A c W hr hc => HHF.out A c m sets W hr hc hsm.1)
     generalize (hoistW m sets subs).1 = h at *
     go_wp2_with (first
      | (go_at_call 29; refine (HSX.out _).mono ?_; rintro e w2 ⟨v2, rfl, ho, hb⟩; obtain ⟨A2, c2, rfl⟩ := Kd.R_slice ho; have HM := Aside0.mk ho; have HH2 := Aside0.mk (HH.out.below hb); have HK2 := Aside0.mk (HK.out.below hb); clear ho hb)
      | (go_at_call 30; refine (HLX.out A2 c2 _ (Kd.R_reads' HM.out).2.2 (Kd.R_reads' HM.out).2.1).mono ?_; rintro e w3 ⟨rfl, hb⟩; have HM3 := Aside0.mk (Kd.R_below HM.out hb); have HH3 := Aside0.mk (HH2.out.below hb); have HK3 := Aside0.mk (HK2.out.below hb); clear hb)
      | (go_at_call 31; refine (HHX.out A2 c2 _ (Kd.R_reads' HM3.out).2.2 (Kd.R_reads' HM3.out).2.1).mono ?_; rintro e w4 ⟨v4, rfl, ho, hb⟩; obtain ⟨A4, c4, rfl⟩ := Kd.R_slice ho; have HO4 := Aside0.mk ho; have HBB4 := Aside0.mk hb; have HK4 := Aside0.mk (HK3.out.below hb); clear ho hb)
      | ((with_reducible refine gate_builtin (b := .append) (xs := #[.tmp 58, .tmp 60]) rfl ?_); at_builtin; obtain ⟨hp1, hp2, hp3⟩ := HH3.out.give HO4.out HBB4.out; refine Kd.S_append kH (w0 := ws) ws.heap.size rfl (.tmp 58) (.tmp 60) 32 58 (.slice none 0 0) 24 rfl Tryd.underlying32 infoH rfl (by decide) (by decide) (.slice Ao acc.length co) acc h [.slice A4 h.length c4] (fun _ => True) (fun k => w3.heap.size ≤ k) rfl rfl hp1 hp2 (fun _ _ => trivial) hp3 (HH3.out.below HBB4.out).bel (HH3.out.below HBB4.out).bel.size (by omega) ?_; intro v5 w5 hs5 hb5 hg5 hat5; have HH5 := Aside0.mk (HTs.mk hb5 hs5); have HK5 := Aside0.mk (HK4.out.grown hg5 hat5); clear hp1 hp2 hp3 hs5 hb5 hg5 hat5))
     go_roundw
     case rel => exact ⟨i + 1, acc ++ [h], by omega, by go_num, by simp; omega, HV2, HH5, HK5⟩
     case measure => simp [intOf]; omega
    ·have HV2 := Aside0.mk (HV.out.trans (goT_stop hx hz))
     have hz1 : ((spellW ⟨x.toArray⟩ 8).2 != 0) = true := by rw [bne_iff_ne]; exact hz
     clear hz hx HV
     generalize (spellW ⟨x.toArray⟩ 8).2 = q at *
     generalize (spellW ⟨x.toArray⟩ 8).1 = m at *
     go_wp2_with (go_at_call 29; refine (HSX.out _).mono ?_; rintro e w2 ⟨v2, rfl, ho, hb⟩; have HH2 := Aside0.mk (HH.out.below hb); clear ho hb)
     go_ret2
     rw [HV2.out]
     exact ⟨_, rfl, S_blockH (Go.heap_alloc_new _ _) (HBW.out.trans (HH2.out.bel.mono HBW.out.size)).size trivial, below_alloc (HBW.out.trans (HH2.out.bel.mono HBW.out.size)) _⟩
   ·have HI := Aside0.mk (show i = WS.length by omega)
    have HV2 := Aside0.mk (show V = (acc, 0) from HV.out.trans (by rw [HI.out, List.drop_length, goT]))
    go_wp2_with fail
    go_ret2
    rw [HV2.out]
    exact ⟨_, rfl, Kd.S_lower HH.out.own HBW.out.size, HBW.out.trans (HH.out.bel.mono HBW.out.size)⟩
 ·have HV : Aside0 (hftW l subs = ([], 2)) := ⟨if_neg hok⟩
  generalize hftW l subs = V at *
  by_cases hsb : 0 ≤ subs ∧ subs ≤ 4
  ·rw [decide_eq_true hsb] at HIN
   have hgt : (200 : Int) < (l.length : Int) := by omega
   have hgd := decide_eq_true hgt
   clear hok hsb
   go_enter Tryd.func11, Tryd.ntmps11
   go_wp2_with (go_at_call 27; refine (HIN.out _).mono ?_; rintro e w1 ⟨rfl, ⟨n1, rfl⟩⟩)
   go_ret2
   rw [HV.out]
   exact ⟨_, rfl, S_blockH (Go.heap_alloc_new _ _) (Nat.le_refl _) trivial, below_alloc (pw_below_drewN (Below.refl _ _) _) _⟩
  ·rw [decide_eq_false hsb] at HIN
   clear hok hsb
   go_enter Tryd.func11, Tryd.ntmps11
   go_wp2_with (go_at_call 27; refine (HIN.out _).mono ?_; rintro e w1 ⟨rfl, ⟨n1, rfl⟩⟩)
   go_ret2
   rw [HV.out]
   exact ⟨_, rfl, S_blockH (Go.heap_alloc_new _ _) (Nat.le_refl _) trivial, below_alloc (pw_below_drewN (Below.refl _ _) _) _⟩
end Go.Proofs.YtdgecgfgekmhcaaDoor.Arr
namespace Go.Proofs.YtdgecgfgekmhcaaDoor.Arr
open Go.RowKit Go.Proofs.YtdgecgfgekmhcaaDoorW.PrintWords Go.Proofs.YtdgecgfgekmhcaaDoorW.PrintLast Go.Proofs.YtdgecgfgekmhcaaDoorW.PrintMore Go.Proofs.YtdgecgfgekmhcaaDoor.U Go.Proofs.YtdgecgfgekmhcaaDoor.J
set_option linter.unusedVariables false
set_option linter.unusedSimpArgs false
set_option maxHeartbeats 8000000 in
set_option maxRecDepth 100000 in
theorem implHft_calls (l : List UInt8) (hl : l.length ≤ 1048576) (subs : Int) (hsub : -9223372036854775808 ≤ subs ∧ subs ≤ 9223372036854775807) (w : World) (hD : ∃ m, w.cell? ⟨ren146.g 1, 0, none⟩ = some (.int .i64 m)) :
  Calls Tryd.prog 12 #[.string ⟨l.toArray⟩, .int .i64 subs] w fun e w' => ∃ v, e = .returned (.tuple #[v, .int .i64 (hftW l subs).2]) ∧ Kd.S kH 58 w' w.heap.size (fun _ => True) v (hftW l subs).1 ∧ Below w.heap.size w w' := by
 have HIN := Aside0.mk (fun W => impl_within.calls subs 0 4 (decide (0 ≤ subs ∧ subs ≤ 4)) W (within_ev' _ _ _))
 have hsz := bs_size l
 obtain ⟨md, hmd⟩ := hD
 have HDD := Aside0.mk (fun W (hW : Below w.heap.size w W) => (⟨md, FrBelow.read hW hmd⟩ : ∃ m, W.cell? ⟨ren146.g 1, 0, none⟩ = some (.int .i64 m)))
 clear hmd
 by_cases hok : (0 ≤ subs ∧ subs ≤ 4) ∧ l.length ≤ 200
 ·obtain ⟨hsb, hln⟩ := hok
  have HV : Aside0 (hftW l subs = goT subs (sp 32 l) []) := ⟨if_pos ⟨hsb, hln⟩⟩
  have HS : Aside0 (∀ W, (∃ m, W.cell? ⟨ren146.g 1, 0, none⟩ = some (.int .i64 m)) → Calls Tryd.prog 33 #[.string ⟨l.toArray⟩, .string ⟨#[32]⟩] W fun e w' => GivesT (sp 32 l) W e w') := ⟨fun W hW => splitM_calls 32 l hl W hW⟩
  have hwl := sp_len 32 l
  have HWM := Aside0.mk (sp_mem 32 l)
  generalize sp 32 l = WS at *
  generalize hftW l subs = V at *
  rw [decide_eq_true hsb] at HIN
  have hgt : ¬ (200 : Int) < (l.length : Int) := by omega
  have hgd := decide_eq_false hgt
  have HSP := Aside0.mk (fun (x : List UInt8) (hx : x.length ≤ 1000) W => implSpell_calls ⟨x.toArray⟩ 8 (by rw [bs_size]; omega) (by omega) W)
  have HLE := Aside0.mk (fun A c m W hr hc hs => implLeast_calls A c m subs W hr hc hs)
  have HHF := Aside0.mk (fun A c m sets W hr hc hs => implHoistFor_calls A c m sets subs W hr hc hs)
  go_enter Tryd.func12, Tryd.ntmps12
  go_wp2_with (first
   | (go_at_call 32; refine (HIN.out _).mono ?_; rintro e w1 ⟨rfl, ⟨n1, rfl⟩⟩; have HBD := Aside0.mk (pw_below_drewN (Below.refl w.heap.size w) n1))
   | (go_at_call 33; refine (HS.out _ (HDD.out _ (HBD.out.trans (HH.out.bel.mono HBD.out.size)))).mono ?_; rintro e ws ⟨bk, cap, rfl, hwc, ⟨hk1, hk2⟩, hb⟩; have HWC := Aside0.mk hwc; have HH0 := Aside0.mk (HH.out.below hb); have HBK := Aside0.mk (Bk.mk rfl hk2 (fun k hk => by have h2 := HLT.out; simp [Value.ownBlock] at hk; omega) : Bk bk ws (.slice (some ⟨gl, 0, none⟩) 0 0) ws); clear hb hwc hk1 hk2 HH)
   | ((with_reducible refine gate_dst (N := 23) rfl ?_); refine st_litv rfl (N := 23) (n := 0) rfl (Mem.start _) (cs := #[]) (e := 58) ?hr ?_; (case hr => first | (go_simp; done) | (go_simp; rfl)); intro gl wl hm; have HH := Aside0.mk (HTs.mk (hm.done rfl) (S_blockH (hm.mem (n := 0) rfl) (hm.own_ge 0 rfl) trivial)); have HLT := Aside0.mk (lt_of_some (hm.mem (n := 0) rfl)); clear hm))
  go_loopw [27, 6] (fun vi vo wr => ∃ (i : Nat) (acc : List (List Int)), i ≤ WS.length ∧ vi = .int .i64 i ∧ acc.length ≤ i ∧ Aside0 (V = goT subs (WS.drop i) acc) ∧ Aside0 (HTs (w.drewN n1) vo acc wr) ∧ Aside0 (Bk bk ws vo wr)) (fun vi _ _ => WS.length - (intOf vi).toNat)
  case atStart => exact ⟨0, [], by omega, rfl, by simp, HV, HH0, HBK⟩
  case round =>
   clear HH0 HBK
   obtain ⟨i, acc, hi, rfl, hal, HV, HH, HK⟩ := hrel
   obtain ⟨Ao, co, rfl⟩ := Kd.S_slice HH.out.own
   by_cases hlt : i < WS.length
   ·obtain ⟨x, hx⟩ : ∃ x, WS[i]? = some x := ⟨_, List.getElem?_eq_getElem hlt⟩
    have hc := HWC.out wr HK.out.eq i x hx
    have hxl := HWM.out x (List.mem_of_getElem? hx)
    have HSX := Aside0.mk (HSP.out x (by omega))
    have hsm := spellW_small ⟨x.toArray⟩ 8
    by_cases hz : (spellW ⟨x.toArray⟩ 8).2 = 0
    ·have HV2 := Aside0.mk (HV.out.trans (goT_step hx hz))
     rw [hz] at HSX
     clear hz hx HV
     generalize (spellW ⟨x.toArray⟩ 8).1 = m at *
     have HLX := Aside0.mk (fun A c W hr hc => HLE.out A c m W hr hc hsm.1)
     generalize (leastW m subs).1 = sets at *
     have HHX := Aside0.mk (fun A c W hr hc => HHF.out A c m sets W hr hc hsm.1)
     generalize (hoistW m sets subs).1 = h at *
     go_wp2_with (first
      | (go_at_call 34; refine (HSX.out _).mono ?_; rintro e w2 ⟨v2, rfl, ho, hb⟩; obtain ⟨A2, c2, rfl⟩ := Kd.R_slice ho; have HM := Aside0.mk ho; have HH2 := Aside0.mk (HH.out.below hb); have HK2 := Aside0.mk (HK.out.below hb); clear ho hb)
      | (go_at_call 35; refine (HLX.out A2 c2 _ (Kd.R_reads' HM.out).2.2 (Kd.R_reads' HM.out).2.1).mono ?_; rintro e w3 ⟨rfl, hb⟩; have HM3 := Aside0.mk (Kd.R_below HM.out hb); have HH3 := Aside0.mk (HH2.out.below hb); have HK3 := Aside0.mk (HK2.out.below hb); clear hb)
      | (go_at_call 36; refine (HHX.out A2 c2 _ (Kd.R_reads' HM3.out).2.2 (Kd.R_reads' HM3.out).2.1).mono ?_; rintro e w4 ⟨v4, rfl, ho, hb⟩; obtain ⟨A4, c4, rfl⟩ := Kd.R_slice ho; have HO4 := Aside0.mk ho; have HBB4 := Aside0.mk hb; have HK4 := Aside0.mk (HK3.out.below hb); clear ho hb)
      | ((with_reducible refine gate_builtin (b := .append) (xs := #[.tmp 52, .tmp 54]) rfl ?_); at_builtin; obtain ⟨hp1, hp2, hp3⟩ := HH3.out.give HO4.out HBB4.out; refine Kd.S_append kH (w0 := (w.drewN n1)) (w.drewN n1).heap.size rfl (.tmp 52) (.tmp 54) 32 58 (.slice none 0 0) 24 rfl Tryd.underlying32 infoH rfl (by decide) (by decide) (.slice Ao acc.length co) acc h [.slice A4 h.length c4] (fun _ => True) (fun k => w3.heap.size ≤ k) rfl rfl hp1 hp2 (fun _ _ => trivial) hp3 (HH3.out.below HBB4.out).bel (HH3.out.below HBB4.out).bel.size (by omega) ?_; intro v5 w5 hs5 hb5 hg5 hat5; have HH5 := Aside0.mk (HTs.mk hb5 hs5); have HK5 := Aside0.mk (HK4.out.grown hg5 hat5); clear hp1 hp2 hp3 hs5 hb5 hg5 hat5))
     go_roundw
     case rel => exact ⟨i + 1, acc ++ [h], by omega, by go_num, by simp; omega, HV2, HH5, HK5⟩
     case measure => simp [intOf]; omega
    ·have HV2 := Aside0.mk (HV.out.trans (goT_stop hx hz))
     have hz1 : ((spellW ⟨x.toArray⟩ 8).2 != 0) = true := by rw [bne_iff_ne]; exact hz
     clear hz hx HV
     generalize (spellW ⟨x.toArray⟩ 8).2 = q at *
     generalize (spellW ⟨x.toArray⟩ 8).1 = m at *
     go_wp2_with (go_at_call 34; refine (HSX.out _).mono ?_; rintro e w2 ⟨v2, rfl, ho, hb⟩; have HH2 := Aside0.mk (HH.out.below hb); clear ho hb)
     go_ret2
     rw [HV2.out]
     exact ⟨_, rfl, Kd.S_nil _ _ _ _ _, HBD.out.trans (HH2.out.bel.mono HBD.out.size)⟩
   ·have HI := Aside0.mk (show i = WS.length by omega)
    have HV2 := Aside0.mk (show V = (acc, 0) from HV.out.trans (by rw [HI.out, List.drop_length, goT]))
    go_wp2_with fail
    go_ret2
    rw [HV2.out]
    exact ⟨_, rfl, Kd.S_lower HH.out.own HBD.out.size, HBD.out.trans (HH.out.bel.mono HBD.out.size)⟩
 ·have HV : Aside0 (hftW l subs = ([], 2)) := ⟨if_neg hok⟩
  generalize hftW l subs = V at *
  by_cases hsb : 0 ≤ subs ∧ subs ≤ 4
  ·rw [decide_eq_true hsb] at HIN
   have hgt : (200 : Int) < (l.length : Int) := by omega
   have hgd := decide_eq_true hgt
   clear hok hsb
   go_enter Tryd.func12, Tryd.ntmps12
   go_wp2_with (go_at_call 32; refine (HIN.out _).mono ?_; rintro e w1 ⟨rfl, ⟨n1, rfl⟩⟩)
   go_ret2
   rw [HV.out]
   exact ⟨_, rfl, Kd.S_nil _ _ _ _ _, pw_below_drewN (Below.refl _ _) _⟩
  ·rw [decide_eq_false hsb] at HIN
   clear hok hsb
   go_enter Tryd.func12, Tryd.ntmps12
   go_wp2_with (go_at_call 32; refine (HIN.out _).mono ?_; rintro e w1 ⟨rfl, ⟨n1, rfl⟩⟩)
   go_ret2
   rw [HV.out]
   exact ⟨_, rfl, Kd.S_nil _ _ _ _ _, pw_below_drewN (Below.refl _ _) _⟩
end Go.Proofs.YtdgecgfgekmhcaaDoor.Arr
namespace Go.Proofs.YtdgecgfgekmhcaaDoor.M
open Go.RowKit Go.Proofs.YtdgecgfgekmhcaaDoorW.PrintWords Go.Proofs.YtdgecgfgekmhcaaDoorW.PrintLast Go.Proofs.YtdgecgfgekmhcaaDoorW.PrintMore
attribute [local go_sem] max2_int min2_int max_two min_two max_three min_three max_four min_four
set_option linter.unusedVariables false
set_option linter.unusedSimpArgs false
def laws_eqHoist.l0 : Nat → List Int → List Int → Int → Option (Bool)
 | 0, _, _, _ => none
 | k + 1, x0, x1, x5 => if x5 < (x0.length : Int) then (if 0 ≤ x5 then (if x5 < (x1.length : Int) then (if (rd x0 x5) = (rd x1 x5) then (laws_eqHoist.l0 k x0 x1 (wrap64 (x5 + 1))) else (some false)) else (none)) else (none)) else (some true)
def laws_eqHoist.f (k : Nat) (l0 : List Int) (l1 : List Int) : Option (Bool) := if (l0.length : Int) = (l1.length : Int) then (laws_eqHoist.l0 k l0 l1 0) else (some false)
set_option maxHeartbeats 8000000 in
set_option maxRecDepth 100000 in
theorem laws_eqHoist.calls (k : Nat) (A0 : Option Addr) (c0 : Nat) (l0 : List Int) (A1 : Option Addr) (c1 : Nat) (l1 : List Int) (r : Bool) (w : World) (hr0 : Kd.C (Kd.int .i8) w A0 l0.length l0) (hc0 : l0.length ≤ c0) (hr1 : Kd.C (Kd.int .i8) w A1 l1.length l1) (hc1 : l1.length ≤ c1) (h : laws_eqHoist.f k l0 l1 = some r) :
  Calls Tryd.prog 37 #[.slice A0 l0.length c0, .slice A1 l1.length c1] w fun e w' => e = .returned (.bool r) ∧ Drawn0 w w' := by
 have HR0 := Aside0.mk hr0
 have HC0 := Aside0.mk hc0
 clear hr0 hc0
 have HR1 := Aside0.mk hr1
 have HC1 := Aside0.mk hc1
 clear hr1 hc1
 have H : (if (l0.length : Int) = (l1.length : Int) then (laws_eqHoist.l0 k l0 l1 0) else (some false)) = some r := h
 clear h
 by_cases c3 : (l0.length : Int) = (l1.length : Int)
 ·rw [if_pos c3] at H
  have c3b0 : ((l0.length : Int) == (l1.length : Int)) = true := beq_iff_eq.mpr c3
  have c3b1 : ((l0.length : Int) != (l1.length : Int)) = false := bne_eq_false_iff_eq.mpr c3
  have c3b2 : (l0.length == l1.length) = true := by first | simpa using c3 | (simp at c3 ⊢; omega)
  clear c3
  have H' := Aside0.mk H
  clear H
  go_enter Tryd.func37, Tryd.ntmps37
  go_wp2
  repeat (go_quiet (fail); try go_wp2)
  go_loopg [5] k (fun kq v5 w' => ∃ (x5_1 : Int), v5 = .int .i64 x5_1 ∧ Aside0 (laws_eqHoist.l0 kq l0 l1 x5_1 = some r) ∧ Aside0 (kq ≤ k) ∧ Drawn0 w w')
  case atStart => exact ⟨(0), (by first | rfl | (simp; done) | (simp [*]; done)), H', ⟨Nat.le_refl _⟩, by repeat (first | exact Drawn0.refl _ | apply Drawn0.step)⟩
  case round =>
   clear H'
   try clear c1
   try clear p2
   try clear c3
   try clear c3b0
   try clear c3b1
   try clear c3b2
   obtain ⟨x5_1, rfl, HA, HK1, ⟨m1, rfl⟩⟩ := hrel
   cases gk with
   | zero => exact absurd HA.out (by simp [laws_eqHoist.l0])
   | succ k1 =>
    have H := HA.out
    clear HA
    simp only [laws_eqHoist.l0] at H
    by_cases c4 : x5_1 < (l0.length : Int)
    ·rw [if_pos c4] at H
     have c4b0 : decide (x5_1 < (l0.length : Int)) = true := decide_eq_true c4
     clear c4
     by_cases c5 : 0 ≤ x5_1
     ·rw [if_pos c5] at H
      have c5b0 : decide (0 ≤ x5_1) = true := decide_eq_true c5
      clear c5
      by_cases c6 : x5_1 < (l1.length : Int)
      ·rw [if_pos c6] at H
       have c6b0 : decide (x5_1 < (l1.length : Int)) = true := decide_eq_true c6
       clear c6
       by_cases c7 : (rd l0 x5_1) = (rd l1 x5_1)
       ·rw [if_pos c7] at H
        have c7b0 : ((rd l0 x5_1) == (rd l1 x5_1)) = true := beq_iff_eq.mpr c7
        have c7b1 : ((rd l0 x5_1) != (rd l1 x5_1)) = false := bne_eq_false_iff_eq.mpr c7
        clear c7
        have H' := Aside0.mk H
        clear H
        have p146 : 0 ≤ (x5_1 : Int) := of_decide_eq_true (by first | (with_reducible assumption) | assumption)
        have q146 : x5_1 < (l0.length : Int) := of_decide_eq_true (by first | (with_reducible assumption) | assumption)
        obtain ⟨ad146, e146, hx146_0⟩ := Kd.at_int HR0.out x5_1 p146 q146
        cases e146
        replace p146 := eq_true p146
        replace q146 := eq_true q146
        have p147 : 0 ≤ (x5_1 : Int) := of_decide_eq_true (by first | (with_reducible assumption) | assumption)
        have q147 : x5_1 < (l1.length : Int) := of_decide_eq_true (by first | (with_reducible assumption) | assumption)
        obtain ⟨ad147, e147, hx147_0⟩ := Kd.at_int HR1.out x5_1 p147 q147
        cases e147
        replace p147 := eq_true p147
        replace q147 := eq_true q147
        go_wp2
        repeat (go_quiet (fail); try go_wp2)
        go_roundg k1
        case measure => have := HK1.out; omega
        case rel => exact ⟨(wrap64 (x5_1 + 1)), (by first | rfl | (simp; done) | (simp [*]; done)), H', ⟨by have := HK1.out; omega⟩, by repeat (first | exact Drawn0.refl _ | apply Drawn0.step)⟩
       ·rw [if_neg c7] at H
        have c7b0 : ((rd l0 x5_1) == (rd l1 x5_1)) = false := beq_eq_false_iff_ne.mpr c7
        have c7b1 : ((rd l0 x5_1) != (rd l1 x5_1)) = true := bne_iff_ne.mpr c7
        obtain rfl := Option.some.inj H
        have p146 : 0 ≤ (x5_1 : Int) := of_decide_eq_true (by first | (with_reducible assumption) | assumption)
        have q146 : x5_1 < (l0.length : Int) := of_decide_eq_true (by first | (with_reducible assumption) | assumption)
        obtain ⟨ad146, e146, hx146_0⟩ := Kd.at_int HR0.out x5_1 p146 q146
        cases e146
        replace p146 := eq_true p146
        replace q146 := eq_true q146
        have p147 : 0 ≤ (x5_1 : Int) := of_decide_eq_true (by first | (with_reducible assumption) | assumption)
        have q147 : x5_1 < (l1.length : Int) := of_decide_eq_true (by first | (with_reducible assumption) | assumption)
        obtain ⟨ad147, e147, hx147_0⟩ := Kd.at_int HR1.out x5_1 p147 q147
        cases e147
        replace p147 := eq_true p147
        replace q147 := eq_true q147
        go_wp2
        repeat (go_quiet (fail); try go_wp2)
        go_ret
        exact ⟨by first | rfl | (simp; done) | (simp [*]; done), by repeat (first | exact Drawn0.refl _ | apply Drawn0.step)⟩
      ·rw [if_neg c6] at H
       exact absurd H (by simp)
     ·rw [if_neg c5] at H
      exact absurd H (by simp)
    ·rw [if_neg c4] at H
     have c4b0 : decide (x5_1 < (l0.length : Int)) = false := decide_eq_false c4
     clear c4
     obtain rfl := Option.some.inj H
     go_wp2
     repeat (go_quiet (fail); try go_wp2)
     go_ret
     exact ⟨by first | rfl | (simp; done) | (simp [*]; done), by repeat (first | exact Drawn0.refl _ | apply Drawn0.step)⟩
 ·rw [if_neg c3] at H
  have c3b0 : ((l0.length : Int) == (l1.length : Int)) = false := beq_eq_false_iff_ne.mpr c3
  have c3b1 : ((l0.length : Int) != (l1.length : Int)) = true := bne_iff_ne.mpr c3
  have c3b2 : (l0.length == l1.length) = false := by first | simpa using c3 | (simp at c3 ⊢; omega)
  obtain rfl := Option.some.inj H
  go_enter Tryd.func37, Tryd.ntmps37
  go_wp2
  repeat (go_quiet (fail); try go_wp2)
  go_ret
  exact ⟨by first | rfl | (simp; done) | (simp [*]; done), by repeat (first | exact Drawn0.refl _ | apply Drawn0.step)⟩
def laws_eqHoistS.l0 : Nat → List (List Int) → List (List Int) → Int → Option (Bool)
 | 0, _, _, _ => none
 | k + 1, x0, x1, x5 => if x5 < (x0.length : Int) then (if 0 ≤ x5 then (if x5 < (x1.length : Int) then ((laws_eqHoist.f k (rd_L2 x0 x5) (rd_L2 x1 x5)).bind fun t150 => (if t150 = true then (laws_eqHoistS.l0 k x0 x1 (wrap64 (x5 + 1))) else (some false))) else (none)) else (none)) else (some true)
def laws_eqHoistS.f (k : Nat) (l0 : List (List Int)) (l1 : List (List Int)) : Option (Bool) := if (l0.length : Int) = (l1.length : Int) then (laws_eqHoistS.l0 k l0 l1 0) else (some false)
set_option maxHeartbeats 8000000 in
set_option maxRecDepth 100000 in
theorem laws_eqHoistS.calls (k : Nat) (A0 : Option Addr) (c0 : Nat) (l0 : List (List Int)) (A1 : Option Addr) (c1 : Nat) (l1 : List (List Int)) (r : Bool) (w : World) (hr0 : Kd.C (Kd.slice 22 (Kd.int .i8)) w A0 l0.length l0) (hc0 : l0.length ≤ c0) (hr1 : Kd.C (Kd.slice 22 (Kd.int .i8)) w A1 l1.length l1) (hc1 : l1.length ≤ c1) (h : laws_eqHoistS.f k l0 l1 = some r) :
  Calls Tryd.prog 13 #[.slice A0 l0.length c0, .slice A1 l1.length c1] w fun e w' => e = .returned (.bool r) ∧ Drawn0 w w' := by
 have HR0 := Aside0.mk hr0
 have HC0 := Aside0.mk hc0
 clear hr0 hc0
 have HR1 := Aside0.mk hr1
 have HC1 := Aside0.mk hc1
 clear hr1 hc1
 have H : (if (l0.length : Int) = (l1.length : Int) then (laws_eqHoistS.l0 k l0 l1 0) else (some false)) = some r := h
 clear h
 by_cases c3 : (l0.length : Int) = (l1.length : Int)
 ·rw [if_pos c3] at H
  have c3b0 : ((l0.length : Int) == (l1.length : Int)) = true := beq_iff_eq.mpr c3
  have c3b1 : ((l0.length : Int) != (l1.length : Int)) = false := bne_eq_false_iff_eq.mpr c3
  have c3b2 : (l0.length == l1.length) = true := by first | simpa using c3 | (simp at c3 ⊢; omega)
  clear c3
  have H' := Aside0.mk H
  clear H
  go_enter Tryd.func13, Tryd.ntmps13
  go_wp2
  repeat (go_quiet (fail); try go_wp2)
  go_loopg [5] k (fun kq v5 w' => ∃ (x5_1 : Int), v5 = .int .i64 x5_1 ∧ Aside0 (laws_eqHoistS.l0 kq l0 l1 x5_1 = some r) ∧ Aside0 (kq ≤ k) ∧ Drawn0 w w')
  case atStart => exact ⟨(0), (by first | rfl | (simp; done) | (simp [*]; done)), H', ⟨Nat.le_refl _⟩, by repeat (first | exact Drawn0.refl _ | apply Drawn0.step)⟩
  case round =>
   clear H'
   try clear c1
   try clear p2
   try clear c3
   try clear c3b0
   try clear c3b1
   try clear c3b2
   obtain ⟨x5_1, rfl, HA, HK1, ⟨m1, rfl⟩⟩ := hrel
   cases gk with
   | zero => exact absurd HA.out (by simp [laws_eqHoistS.l0])
   | succ k1 =>
    have H := HA.out
    clear HA
    simp only [laws_eqHoistS.l0] at H
    by_cases c4 : x5_1 < (l0.length : Int)
    ·rw [if_pos c4] at H
     have c4b0 : decide (x5_1 < (l0.length : Int)) = true := decide_eq_true c4
     clear c4
     by_cases c5 : 0 ≤ x5_1
     ·rw [if_pos c5] at H
      have c5b0 : decide (0 ≤ x5_1) = true := decide_eq_true c5
      clear c5
      by_cases c6 : x5_1 < (l1.length : Int)
      ·rw [if_pos c6] at H
       have c6b0 : decide (x5_1 < (l1.length : Int)) = true := decide_eq_true c6
       clear c6
       replace H := Option.bind_eq_some_iff.mp H
       obtain ⟨t150, A70, H⟩ := H
       replace H : (if t150 = true then (laws_eqHoistS.l0 k1 l0 l1 (wrap64 (x5_1 + 1))) else (some false)) = some r := H
       have A7 := Aside0.mk A70
       clear A70
       by_cases c8 : t150 = true
       ·subst c8
        have H1 : (laws_eqHoistS.l0 k1 l0 l1 (wrap64 (x5_1 + 1))) = some r := by rw [if_pos rfl] at H; exact H
        clear H
        have H := H1
        clear H1
        have H' := Aside0.mk H
        clear H
        have p148 : 0 ≤ (x5_1 : Int) := of_decide_eq_true (by first | (with_reducible assumption) | assumption)
        have q148 : x5_1 < (l0.length : Int) := of_decide_eq_true (by first | (with_reducible assumption) | assumption)
        obtain ⟨ad148, A148_0, c148_0, e148, hx148_0, hl148_0, hi148_0⟩ := at_L2 HR0.out x5_1 p148 q148
        cases e148
        have HR148_0 := Aside0.mk hi148_0
        have HC148_0 := Aside0.mk hl148_0
        clear hi148_0 hl148_0
        replace p148 := eq_true p148
        replace q148 := eq_true q148
        have p149 : 0 ≤ (x5_1 : Int) := of_decide_eq_true (by first | (with_reducible assumption) | assumption)
        have q149 : x5_1 < (l1.length : Int) := of_decide_eq_true (by first | (with_reducible assumption) | assumption)
        obtain ⟨ad149, A149_0, c149_0, e149, hx149_0, hl149_0, hi149_0⟩ := at_L2 HR1.out x5_1 p149 q149
        cases e149
        have HR149_0 := Aside0.mk hi149_0
        have HC149_0 := Aside0.mk hl149_0
        clear hi149_0 hl149_0
        replace p149 := eq_true p149
        replace q149 := eq_true q149
        go_wp2_with (first | (go_at_call 37; (with_reducible refine (laws_eqHoist.calls k1 _ _ (rd_L2 l0 x5_1) _ _ (rd_L2 l1 x5_1) true _ ?side1 ?side2 ?side3 ?side4 A7.out).mono ?_); (case side1 => repeat (first | exact HR148_0.out | (with_reducible refine Kd.C_alloc ?_ _) | (with_reducible refine Kd.C_drewN ?_ _) | (with_reducible refine Kd.C_drew ?_))); (case side2 => exact HC148_0.out); (case side3 => repeat (first | exact HR149_0.out | (with_reducible refine Kd.C_alloc ?_ _) | (with_reducible refine Kd.C_drewN ?_ _) | (with_reducible refine Kd.C_drew ?_))); (case side4 => exact HC149_0.out); rintro e w' ⟨rfl, ⟨nd, rfl⟩⟩; (try first | exact ⟨rfl, _, World.drewN_drewN _ _ _⟩ | exact ⟨rfl, _, Eq.trans (World.drewN_drewN _ _ _) (congrArg (World.drewN _) (Nat.add_assoc _ _ _))⟩)))
        repeat (go_quiet (first | (go_at_call 37; (with_reducible refine (laws_eqHoist.calls k1 _ _ (rd_L2 l0 x5_1) _ _ (rd_L2 l1 x5_1) true _ ?side1 ?side2 ?side3 ?side4 A7.out).mono ?_); (case side1 => repeat (first | exact HR148_0.out | (with_reducible refine Kd.C_alloc ?_ _) | (with_reducible refine Kd.C_drewN ?_ _) | (with_reducible refine Kd.C_drew ?_))); (case side2 => exact HC148_0.out); (case side3 => repeat (first | exact HR149_0.out | (with_reducible refine Kd.C_alloc ?_ _) | (with_reducible refine Kd.C_drewN ?_ _) | (with_reducible refine Kd.C_drew ?_))); (case side4 => exact HC149_0.out); rintro e w' ⟨rfl, ⟨nd, rfl⟩⟩; (try first | exact ⟨rfl, _, World.drewN_drewN _ _ _⟩ | exact ⟨rfl, _, Eq.trans (World.drewN_drewN _ _ _) (congrArg (World.drewN _) (Nat.add_assoc _ _ _))⟩))); try go_wp2_with (first | (go_at_call 37; (with_reducible refine (laws_eqHoist.calls k1 _ _ (rd_L2 l0 x5_1) _ _ (rd_L2 l1 x5_1) true _ ?side1 ?side2 ?side3 ?side4 A7.out).mono ?_); (case side1 => repeat (first | exact HR148_0.out | (with_reducible refine Kd.C_alloc ?_ _) | (with_reducible refine Kd.C_drewN ?_ _) | (with_reducible refine Kd.C_drew ?_))); (case side2 => exact HC148_0.out); (case side3 => repeat (first | exact HR149_0.out | (with_reducible refine Kd.C_alloc ?_ _) | (with_reducible refine Kd.C_drewN ?_ _) | (with_reducible refine Kd.C_drew ?_))); (case side4 => exact HC149_0.out); rintro e w' ⟨rfl, ⟨nd, rfl⟩⟩; (try first | exact ⟨rfl, _, World.drewN_drewN _ _ _⟩ | exact ⟨rfl, _, Eq.trans (World.drewN_drewN _ _ _) (congrArg (World.drewN _) (Nat.add_assoc _ _ _))⟩))))
        go_roundg k1
        case measure => have := HK1.out; omega
        case rel => exact ⟨(wrap64 (x5_1 + 1)), (by first | rfl | (simp; done) | (simp [*]; done)), H', ⟨by have := HK1.out; omega⟩, by repeat (first | exact Drawn0.refl _ | apply Drawn0.step)⟩
       ·replace c8 := Bool.eq_false_iff.mpr c8
        subst c8
        have H1 : (some false) = some r := by rw [if_neg (show ¬ (false = true) by decide)] at H; exact H
        clear H
        have H := H1
        clear H1
        obtain rfl := Option.some.inj H
        have p148 : 0 ≤ (x5_1 : Int) := of_decide_eq_true (by first | (with_reducible assumption) | assumption)
        have q148 : x5_1 < (l0.length : Int) := of_decide_eq_true (by first | (with_reducible assumption) | assumption)
        obtain ⟨ad148, A148_0, c148_0, e148, hx148_0, hl148_0, hi148_0⟩ := at_L2 HR0.out x5_1 p148 q148
        cases e148
        have HR148_0 := Aside0.mk hi148_0
        have HC148_0 := Aside0.mk hl148_0
        clear hi148_0 hl148_0
        replace p148 := eq_true p148
        replace q148 := eq_true q148
        have p149 : 0 ≤ (x5_1 : Int) := of_decide_eq_true (by first | (with_reducible assumption) | assumption)
        have q149 : x5_1 < (l1.length : Int) := of_decide_eq_true (by first | (with_reducible assumption) | assumption)
        obtain ⟨ad149, A149_0, c149_0, e149, hx149_0, hl149_0, hi149_0⟩ := at_L2 HR1.out x5_1 p149 q149
        cases e149
        have HR149_0 := Aside0.mk hi149_0
        have HC149_0 := Aside0.mk hl149_0
        clear hi149_0 hl149_0
        replace p149 := eq_true p149
        replace q149 := eq_true q149
        go_wp2_with (first | (go_at_call 37; (with_reducible refine (laws_eqHoist.calls k1 _ _ (rd_L2 l0 x5_1) _ _ (rd_L2 l1 x5_1) false _ ?side1 ?side2 ?side3 ?side4 A7.out).mono ?_); (case side1 => repeat (first | exact HR148_0.out | (with_reducible refine Kd.C_alloc ?_ _) | (with_reducible refine Kd.C_drewN ?_ _) | (with_reducible refine Kd.C_drew ?_))); (case side2 => exact HC148_0.out); (case side3 => repeat (first | exact HR149_0.out | (with_reducible refine Kd.C_alloc ?_ _) | (with_reducible refine Kd.C_drewN ?_ _) | (with_reducible refine Kd.C_drew ?_))); (case side4 => exact HC149_0.out); rintro e w' ⟨rfl, ⟨nd, rfl⟩⟩; (try first | exact ⟨rfl, _, World.drewN_drewN _ _ _⟩ | exact ⟨rfl, _, Eq.trans (World.drewN_drewN _ _ _) (congrArg (World.drewN _) (Nat.add_assoc _ _ _))⟩)))
        repeat (go_quiet (first | (go_at_call 37; (with_reducible refine (laws_eqHoist.calls k1 _ _ (rd_L2 l0 x5_1) _ _ (rd_L2 l1 x5_1) false _ ?side1 ?side2 ?side3 ?side4 A7.out).mono ?_); (case side1 => repeat (first | exact HR148_0.out | (with_reducible refine Kd.C_alloc ?_ _) | (with_reducible refine Kd.C_drewN ?_ _) | (with_reducible refine Kd.C_drew ?_))); (case side2 => exact HC148_0.out); (case side3 => repeat (first | exact HR149_0.out | (with_reducible refine Kd.C_alloc ?_ _) | (with_reducible refine Kd.C_drewN ?_ _) | (with_reducible refine Kd.C_drew ?_))); (case side4 => exact HC149_0.out); rintro e w' ⟨rfl, ⟨nd, rfl⟩⟩; (try first | exact ⟨rfl, _, World.drewN_drewN _ _ _⟩ | exact ⟨rfl, _, Eq.trans (World.drewN_drewN _ _ _) (congrArg (World.drewN _) (Nat.add_assoc _ _ _))⟩))); try go_wp2_with (first | (go_at_call 37; (with_reducible refine (laws_eqHoist.calls k1 _ _ (rd_L2 l0 x5_1) _ _ (rd_L2 l1 x5_1) false _ ?side1 ?side2 ?side3 ?side4 A7.out).mono ?_); (case side1 => repeat (first | exact HR148_0.out | (with_reducible refine Kd.C_alloc ?_ _) | (with_reducible refine Kd.C_drewN ?_ _) | (with_reducible refine Kd.C_drew ?_))); (case side2 => exact HC148_0.out); (case side3 => repeat (first | exact HR149_0.out | (with_reducible refine Kd.C_alloc ?_ _) | (with_reducible refine Kd.C_drewN ?_ _) | (with_reducible refine Kd.C_drew ?_))); (case side4 => exact HC149_0.out); rintro e w' ⟨rfl, ⟨nd, rfl⟩⟩; (try first | exact ⟨rfl, _, World.drewN_drewN _ _ _⟩ | exact ⟨rfl, _, Eq.trans (World.drewN_drewN _ _ _) (congrArg (World.drewN _) (Nat.add_assoc _ _ _))⟩))))
        go_ret
        exact ⟨by first | rfl | (simp; done) | (simp [*]; done), by repeat (first | exact Drawn0.refl _ | apply Drawn0.step)⟩
      ·rw [if_neg c6] at H
       exact absurd H (by simp)
     ·rw [if_neg c5] at H
      exact absurd H (by simp)
    ·rw [if_neg c4] at H
     have c4b0 : decide (x5_1 < (l0.length : Int)) = false := decide_eq_false c4
     clear c4
     obtain rfl := Option.some.inj H
     go_wp2
     repeat (go_quiet (fail); try go_wp2)
     go_ret
     exact ⟨by first | rfl | (simp; done) | (simp [*]; done), by repeat (first | exact Drawn0.refl _ | apply Drawn0.step)⟩
 ·rw [if_neg c3] at H
  have c3b0 : ((l0.length : Int) == (l1.length : Int)) = false := beq_eq_false_iff_ne.mpr c3
  have c3b1 : ((l0.length : Int) != (l1.length : Int)) = true := bne_iff_ne.mpr c3
  have c3b2 : (l0.length == l1.length) = false := by first | simpa using c3 | (simp at c3 ⊢; omega)
  obtain rfl := Option.some.inj H
  go_enter Tryd.func13, Tryd.ntmps13
  go_wp2
  repeat (go_quiet (fail); try go_wp2)
  go_ret
  exact ⟨by first | rfl | (simp; done) | (simp [*]; done), by repeat (first | exact Drawn0.refl _ | apply Drawn0.step)⟩
def laws_heldHoist.l0 : Nat → List Int → Int → Int → Option (Int)
 | 0, _, _, _ => none
 | k + 1, x0, x1, x5 => if x5 < (x0.length : Int) then (if 0 ≤ x5 then (if (rd x0 x5) = (IntKind.i8.wrap (x1)) then (laws_heldHoist.l0 k x0 (wrap64 (x1 + 1)) (wrap64 (x5 + 1))) else (some (-1))) else (none)) else (some x1)
def laws_heldHoist.f (k : Nat) (l0 : List Int) (a1 : Int) : Option (Int) := laws_heldHoist.l0 k l0 a1 0
set_option maxHeartbeats 8000000 in
set_option maxRecDepth 100000 in
theorem laws_heldHoist.calls (k : Nat) (A0 : Option Addr) (c0 : Nat) (l0 : List Int) (a1 : Int) (r : Int) (w : World) (hr0 : Kd.C (Kd.int .i8) w A0 l0.length l0) (hc0 : l0.length ≤ c0) (h : laws_heldHoist.f k l0 a1 = some r) :
  Calls Tryd.prog 39 #[.slice A0 l0.length c0, .int .i64 a1] w fun e w' => e = .returned (.int .i64 r) ∧ Drawn0 w w' := by
 have HR0 := Aside0.mk hr0
 have HC0 := Aside0.mk hc0
 clear hr0 hc0
 have H : (laws_heldHoist.l0 k l0 a1 0) = some r := h
 clear h
 have H' := Aside0.mk H
 clear H
 go_enter Tryd.func39, Tryd.ntmps39
 go_wp2
 go_loopg [1, 5] k (fun kq v1 v5 w' => ∃ (x1_1 : Int) (x5_1 : Int), v1 = .int .i64 x1_1 ∧ v5 = .int .i64 x5_1 ∧ Aside0 (laws_heldHoist.l0 kq l0 x1_1 x5_1 = some r) ∧ Aside0 (kq ≤ k) ∧ Drawn0 w w')
 case atStart => exact ⟨(a1), (0), (by first | rfl | (simp; done) | (simp [*]; done)), (by first | rfl | (simp; done) | (simp [*]; done)), H', ⟨Nat.le_refl _⟩, by repeat (first | exact Drawn0.refl _ | apply Drawn0.step)⟩
 case round =>
  clear H'
  try clear p2
  obtain ⟨x1_1, x5_1, rfl, rfl, HA, HK1, ⟨m1, rfl⟩⟩ := hrel
  cases gk with
  | zero => exact absurd HA.out (by simp [laws_heldHoist.l0])
  | succ k1 =>
   have H := HA.out
   clear HA
   simp only [laws_heldHoist.l0] at H
   by_cases c3 : x5_1 < (l0.length : Int)
   ·rw [if_pos c3] at H
    have c3b0 : decide (x5_1 < (l0.length : Int)) = true := decide_eq_true c3
    clear c3
    by_cases c4 : 0 ≤ x5_1
    ·rw [if_pos c4] at H
     have c4b0 : decide (0 ≤ x5_1) = true := decide_eq_true c4
     clear c4
     by_cases c5 : (rd l0 x5_1) = (IntKind.i8.wrap (x1_1))
     ·rw [if_pos c5] at H
      have c5b0 : ((rd l0 x5_1) == (IntKind.i8.wrap (x1_1))) = true := beq_iff_eq.mpr c5
      have c5b1 : ((rd l0 x5_1) != (IntKind.i8.wrap (x1_1))) = false := bne_eq_false_iff_eq.mpr c5
      clear c5
      have H' := Aside0.mk H
      clear H
      have p152 : 0 ≤ (x5_1 : Int) := of_decide_eq_true (by first | (with_reducible assumption) | assumption)
      have q152 : x5_1 < (l0.length : Int) := of_decide_eq_true (by first | (with_reducible assumption) | assumption)
      obtain ⟨ad152, e152, hx152_0⟩ := Kd.at_int HR0.out x5_1 p152 q152
      cases e152
      replace p152 := eq_true p152
      replace q152 := eq_true q152
      go_wp2
      go_roundg k1
      case measure => have := HK1.out; omega
      case rel => exact ⟨(wrap64 (x1_1 + 1)), (wrap64 (x5_1 + 1)), (by first | rfl | (simp; done) | (simp [*]; done)), (by first | rfl | (simp; done) | (simp [*]; done)), H', ⟨by have := HK1.out; omega⟩, by repeat (first | exact Drawn0.refl _ | apply Drawn0.step)⟩
     ·rw [if_neg c5] at H
      have c5b0 : ((rd l0 x5_1) == (IntKind.i8.wrap (x1_1))) = false := beq_eq_false_iff_ne.mpr c5
      have c5b1 : ((rd l0 x5_1) != (IntKind.i8.wrap (x1_1))) = true := bne_iff_ne.mpr c5
      obtain rfl := Option.some.inj H
      have p152 : 0 ≤ (x5_1 : Int) := of_decide_eq_true (by first | (with_reducible assumption) | assumption)
      have q152 : x5_1 < (l0.length : Int) := of_decide_eq_true (by first | (with_reducible assumption) | assumption)
      obtain ⟨ad152, e152, hx152_0⟩ := Kd.at_int HR0.out x5_1 p152 q152
      cases e152
      replace p152 := eq_true p152
      replace q152 := eq_true q152
      go_wp2
      go_ret
      exact ⟨by first | rfl | (simp; done) | (simp [*]; done), by repeat (first | exact Drawn0.refl _ | apply Drawn0.step)⟩
    ·rw [if_neg c4] at H
     exact absurd H (by simp)
   ·rw [if_neg c3] at H
    have c3b0 : decide (x5_1 < (l0.length : Int)) = false := decide_eq_false c3
    clear c3
    obtain rfl := Option.some.inj H
    go_wp2
    go_ret
    exact ⟨by first | rfl | (simp; done) | (simp [*]; done), by repeat (first | exact Drawn0.refl _ | apply Drawn0.step)⟩
def laws_heldHoistS.l0 : Nat → List (List Int) → Int → Int → Option (Int)
 | 0, _, _, _ => none
 | k + 1, x0, x1, x5 => if x5 < (x0.length : Int) then (if 0 ≤ x5 then ((laws_heldHoist.f k (rd_L2 x0 x5) x1).bind fun t154 => (if t154 < 0 then (some (-1)) else (laws_heldHoistS.l0 k x0 t154 (wrap64 (x5 + 1))))) else (none)) else (some x1)
def laws_heldHoistS.f (k : Nat) (l0 : List (List Int)) (a1 : Int) : Option (Int) := laws_heldHoistS.l0 k l0 a1 0
set_option maxHeartbeats 8000000 in
set_option maxRecDepth 100000 in
theorem laws_heldHoistS.calls (k : Nat) (A0 : Option Addr) (c0 : Nat) (l0 : List (List Int)) (a1 : Int) (r : Int) (w : World) (hr0 : Kd.C (Kd.slice 22 (Kd.int .i8)) w A0 l0.length l0) (hc0 : l0.length ≤ c0) (h : laws_heldHoistS.f k l0 a1 = some r) :
  Calls Tryd.prog 15 #[.slice A0 l0.length c0, .int .i64 a1] w fun e w' => e = .returned (.int .i64 r) ∧ Drawn0 w w' := by
 have HR0 := Aside0.mk hr0
 have HC0 := Aside0.mk hc0
 clear hr0 hc0
 have H : (laws_heldHoistS.l0 k l0 a1 0) = some r := h
 clear h
 have H' := Aside0.mk H
 clear H
 go_enter Tryd.func15, Tryd.ntmps15
 go_wp2
 go_loopg [1, 5] k (fun kq v1 v5 w' => ∃ (x1_1 : Int) (x5_1 : Int), v1 = .int .i64 x1_1 ∧ v5 = .int .i64 x5_1 ∧ Aside0 (laws_heldHoistS.l0 kq l0 x1_1 x5_1 = some r) ∧ Aside0 (kq ≤ k) ∧ Drawn0 w w')
 case atStart => exact ⟨(a1), (0), (by first | rfl | (simp; done) | (simp [*]; done)), (by first | rfl | (simp; done) | (simp [*]; done)), H', ⟨Nat.le_refl _⟩, by repeat (first | exact Drawn0.refl _ | apply Drawn0.step)⟩
 case round =>
  clear H'
  try clear c1
  try clear p2
  obtain ⟨x1_1, x5_1, rfl, rfl, HA, HK1, ⟨m1, rfl⟩⟩ := hrel
  cases gk with
  | zero => exact absurd HA.out (by simp [laws_heldHoistS.l0])
  | succ k1 =>
   have H := HA.out
   clear HA
   simp only [laws_heldHoistS.l0] at H
   by_cases c3 : x5_1 < (l0.length : Int)
   ·rw [if_pos c3] at H
    have c3b0 : decide (x5_1 < (l0.length : Int)) = true := decide_eq_true c3
    clear c3
    by_cases c4 : 0 ≤ x5_1
    ·rw [if_pos c4] at H
     have c4b0 : decide (0 ≤ x5_1) = true := decide_eq_true c4
     clear c4
     replace H := Option.bind_eq_some_iff.mp H
     obtain ⟨t154, A50, H⟩ := H
     replace H : (if t154 < 0 then (some (-1)) else (laws_heldHoistS.l0 k1 l0 t154 (wrap64 (x5_1 + 1)))) = some r := H
     have A5 := Aside0.mk A50
     clear A50
     by_cases c6 : t154 < 0
     ·rw [if_pos c6] at H
      have c6b0 : decide (t154 < 0) = true := decide_eq_true c6
      clear c6
      obtain rfl := Option.some.inj H
      have p153 : 0 ≤ (x5_1 : Int) := of_decide_eq_true (by first | (with_reducible assumption) | assumption)
      have q153 : x5_1 < (l0.length : Int) := of_decide_eq_true (by first | (with_reducible assumption) | assumption)
      obtain ⟨ad153, A153_0, c153_0, e153, hx153_0, hl153_0, hi153_0⟩ := at_L2 HR0.out x5_1 p153 q153
      cases e153
      have HR153_0 := Aside0.mk hi153_0
      have HC153_0 := Aside0.mk hl153_0
      clear hi153_0 hl153_0
      replace p153 := eq_true p153
      replace q153 := eq_true q153
      go_wp2_with (first | ((with_reducible refine gate_callee (f := 39) rfl ?_); refine goesL_ (some 17) rfl rfl Tryd.func39 (by kernel_rfl) rfl #[.slice A153_0 (rd_L2 l0 x5_1).length c153_0, .int .i64 x1_1] rfl (by (try simp only [List.map_toArray, List.map_cons, List.map_nil]); first | done | rfl | (simp only [List.length_drop, List.length_take]; rfl)) ?_; (with_reducible refine (laws_heldHoist.calls k1 _ _ (rd_L2 l0 x5_1) x1_1 t154 _ ?side1 ?side2 A5.out).mono ?_); (case side1 => repeat (first | exact HR153_0.out | (with_reducible refine Kd.C_alloc ?_ _) | (with_reducible refine Kd.C_drewN ?_ _) | (with_reducible refine Kd.C_drew ?_))); (case side2 => exact HC153_0.out); rintro e w' ⟨rfl, ⟨nd, rfl⟩⟩; refine ⟨_, rfl, ?_⟩))
      go_ret
      exact ⟨by first | rfl | (simp; done) | (simp [*]; done), by repeat (first | exact Drawn0.refl _ | apply Drawn0.step)⟩
     ·rw [if_neg c6] at H
      have c6b0 : decide (t154 < 0) = false := decide_eq_false c6
      clear c6
      have H' := Aside0.mk H
      clear H
      have p153 : 0 ≤ (x5_1 : Int) := of_decide_eq_true (by first | (with_reducible assumption) | assumption)
      have q153 : x5_1 < (l0.length : Int) := of_decide_eq_true (by first | (with_reducible assumption) | assumption)
      obtain ⟨ad153, A153_0, c153_0, e153, hx153_0, hl153_0, hi153_0⟩ := at_L2 HR0.out x5_1 p153 q153
      cases e153
      have HR153_0 := Aside0.mk hi153_0
      have HC153_0 := Aside0.mk hl153_0
      clear hi153_0 hl153_0
      replace p153 := eq_true p153
      replace q153 := eq_true q153
      go_wp2_with (first | ((with_reducible refine gate_callee (f := 39) rfl ?_); refine goesL_ (some 17) rfl rfl Tryd.func39 (by kernel_rfl) rfl #[.slice A153_0 (rd_L2 l0 x5_1).length c153_0, .int .i64 x1_1] rfl (by (try simp only [List.map_toArray, List.map_cons, List.map_nil]); first | done | rfl | (simp only [List.length_drop, List.length_take]; rfl)) ?_; (with_reducible refine (laws_heldHoist.calls k1 _ _ (rd_L2 l0 x5_1) x1_1 t154 _ ?side1 ?side2 A5.out).mono ?_); (case side1 => repeat (first | exact HR153_0.out | (with_reducible refine Kd.C_alloc ?_ _) | (with_reducible refine Kd.C_drewN ?_ _) | (with_reducible refine Kd.C_drew ?_))); (case side2 => exact HC153_0.out); rintro e w' ⟨rfl, ⟨nd, rfl⟩⟩; refine ⟨_, rfl, ?_⟩))
      go_roundg k1
      case measure => have := HK1.out; omega
      case rel => exact ⟨(t154), (wrap64 (x5_1 + 1)), (by first | rfl | (simp; done) | (simp [*]; done)), (by first | rfl | (simp; done) | (simp [*]; done)), H', ⟨by have := HK1.out; omega⟩, by repeat (first | exact Drawn0.refl _ | apply Drawn0.step)⟩
    ·rw [if_neg c4] at H
     exact absurd H (by simp)
   ·rw [if_neg c3] at H
    have c3b0 : decide (x5_1 < (l0.length : Int)) = false := decide_eq_false c3
    clear c3
    obtain rfl := Option.some.inj H
    go_wp2
    go_ret
    exact ⟨by first | rfl | (simp; done) | (simp [*]; done), by repeat (first | exact Drawn0.refl _ | apply Drawn0.step)⟩
end Go.Proofs.YtdgecgfgekmhcaaDoor.M
namespace Go.Proofs.YtdgecgfgekmhcaaDoor.M
open Go.RowKit Go.Proofs.YtdgecgfgekmhcaaDoorW.PrintWords Go.Proofs.YtdgecgfgekmhcaaDoorW.PrintLast Go.Proofs.YtdgecgfgekmhcaaDoor.U
set_option linter.unusedVariables false
set_option linter.unusedSimpArgs false
theorem eqHoist_l0 (l : List Int) (hn : l.length ≤ 9223372036854775806) : ∀ (d i : Nat), i + d = l.length → Ev (fun k => laws_eqHoist.l0 k l l (i : Int)) true := by
 intro d
 induction d with
 | zero =>
  intro i hi
  refine Ev.step (f := fun _ => some true) (fun k => ?_) (cons rfl)
  simp only [laws_eqHoist.l0]; rw [if_neg (by omega)]
 | succ d ih =>
  intro i hi
  refine Ev.step (f := fun k => laws_eqHoist.l0 k l l ((i + 1 : Nat) : Int)) (fun k => ?_) (ih (i + 1) (by omega))
  simp only [laws_eqHoist.l0]; rw [if_pos (by omega), if_pos (by omega), if_pos (by omega), if_pos trivial, w64 (by omega) (by omega)]; rfl
theorem eqHoist_refl (l : List Int) (hn : l.length ≤ 9223372036854775806) : Ev (fun k => laws_eqHoist.f k l l) true := by
 unfold laws_eqHoist.f
 exact pos rfl (eqHoist_l0 l hn l.length 0 (by omega))
end Go.Proofs.YtdgecgfgekmhcaaDoor.M
namespace Go.Proofs.YtdgecgfgekmhcaaDoor.M
open Go.RowKit Go.Proofs.YtdgecgfgekmhcaaDoorW.PrintWords Go.Proofs.YtdgecgfgekmhcaaDoorW.PrintLast Go.Proofs.YtdgecgfgekmhcaaDoorW.PrintMore
attribute [local go_sem] max2_int min2_int max_two min_two max_three min_three max_four min_four
set_option linter.unusedVariables false
set_option linter.unusedSimpArgs false
def laws_markHoist.l0 : Nat → List Int → Int → Int → Option (Int × List Int)
 | 0, _, _, _ => none
 | k + 1, x0, x1, x5 => if x5 < (x0.length : Int) then (if 0 ≤ x5 then (laws_markHoist.l0 k (x0.set (x5 : Int).toNat (IntKind.i8.wrap (x1))) (wrap64 (x1 + 1)) (wrap64 (x5 + 1))) else (none)) else (some (x1, x0))
def laws_markHoist.f (k : Nat) (l0 : List Int) (a1 : Int) : Option (Int × List Int) := laws_markHoist.l0 k l0 a1 0
set_option maxHeartbeats 8000000 in
set_option maxRecDepth 100000 in
theorem laws_markHoist.calls (k : Nat) (P0_ : Nat → Prop) (u9000_ : Value) (l0 : List Int) (a1 : Int) (r1 : Int) (r2 : List Int) (w0 w : World) (hB : Below w0.heap.size w0 w) (ho0 : Kd.R (Kd.int .i8) 22 w w0.heap.size P0_ u9000_ l0) (h : laws_markHoist.f k l0 a1 = some (r1, r2)) :
 Calls Tryd.prog 38 #[u9000_, .int .i64 a1] w fun e w' => e = .returned (.int .i64 r1) ∧ Kd.R (Kd.int .i8) 22 w' w0.heap.size (fun k_ => (P0_ k_ ∨ w.heap.size ≤ k_)) u9000_ r2 ∧ Below w0.heap.size w0 w' ∧ Kept w w' (fun k_ => P0_ k_) := by
 have HO0 := Aside0.mk (show Kd.R (Kd.int .i8) 22 w w0.heap.size (fun k_ => (P0_ k_ ∨ w.heap.size ≤ k_)) u9000_ l0 from Kd.R_mono ho0 (fun k_ hk => (.inl hk)))
 have HK := Aside0.mk (Kept.refl w (fun k_ => P0_ k_))
 have HW0 := Aside0.mk hB.size
 have HB := Aside0.mk hB
 clear hB
 have H : (laws_markHoist.l0 k l0 a1 0) = some (r1, r2) := h
 clear h
 have H' := Aside0.mk H
 clear H
 go_enter Tryd.func38, Tryd.ntmps38
 go_wp2
 go_loopg [1, 5] k (fun kq v1 v5 w' => ∃ (x0_1 : List Int) (x1_1 : Int) (x5_1 : Int), v1 = .int .i64 x1_1 ∧ v5 = .int .i64 x5_1 ∧ Aside0 (laws_markHoist.l0 kq x0_1 x1_1 x5_1 = some (r1, r2)) ∧ Aside0 (kq ≤ k) ∧ Aside0 (Kd.R (Kd.int .i8) 22 w' w0.heap.size (fun k_ => (P0_ k_ ∨ w.heap.size ≤ k_)) u9000_ x0_1) ∧ Aside0 (Kept w w' (fun k_ => P0_ k_)) ∧ Aside0 (Below w0.heap.size w0 w'))
 case atStart => exact ⟨(l0), (a1), (0), (by first | rfl | (simp; done) | (simp [*]; done)), (by first | rfl | (simp; done) | (simp [*]; done)), H', ⟨Nat.le_refl _⟩, ⟨by (with_reducible repeat (first | apply Kd.R_alloc | apply Kd.R_drewN | apply Kd.R_drew)); exact HO0.out⟩, ⟨by repeat (first | (with_reducible first | exact HK.out | apply Kept.alloc | apply Kept.drewN | apply Kept.drew) | exact HK.out)⟩, ⟨by repeat (first | (with_reducible first | exact HB.out | apply below_alloc | apply pw_below_drewN | apply below_drew1) | exact HB.out)⟩⟩
 case round =>
  clear H'
  try clear c1
  try clear p2
  obtain ⟨x0_1, x1_1, x5_1, rfl, rfl, HA, HK1, HO_0, HK, HB⟩ := hrel
  cases gk with
  | zero => exact absurd HA.out (by simp [laws_markHoist.l0])
  | succ k1 =>
   have H := HA.out
   clear HA
   simp only [laws_markHoist.l0] at H
   by_cases c3 : x5_1 < (x0_1.length : Int)
   ·rw [if_pos c3] at H
    have c3b0 : decide (x5_1 < (x0_1.length : Int)) = true := decide_eq_true c3
    clear c3
    by_cases c4 : 0 ≤ x5_1
    ·rw [if_pos c4] at H
     have c4b0 : decide (0 ≤ x5_1) = true := decide_eq_true c4
     clear c4
     obtain ⟨y148, hy148⟩ : ∃ y_ : List Int, y_ = (x0_1.set (x5_1 : Int).toNat (IntKind.i8.wrap (x1_1))) := ⟨_, rfl⟩
     replace H : (laws_markHoist.l0 k1 y148 (wrap64 (x1_1 + 1)) (wrap64 (x5_1 + 1))) = some (r1, r2) := by first | (rw [hy148]; with_reducible exact H) | (have H2_ := (Option.bind_some _ _).symm.trans H; rw [hy148]; with_reducible exact H2_) | (have H2_ := (Option.bind_some _ _).symm.trans H; with_reducible exact H2_) | with_reducible exact H | (rw [hy148]; exact H) | exact H
     have Ny148 := Aside0.mk hy148
     clear hy148
     have H' := Aside0.mk H
     clear H
     obtain ⟨Ao6, co6, eo6⟩ := Kd.R_slice HO_0.out
     subst eo6
     have p5 : 0 ≤ (x5_1 : Int) := of_decide_eq_true (by first | (with_reducible assumption) | assumption)
     have q5 : (x5_1 : Int) < ((x0_1.length : Int) : Int) := of_decide_eq_true (by first | (with_reducible assumption) | assumption)
     obtain ⟨go5, co5, eo5, gb5, gl5, cl5, HG5⟩ := Kd.R_form HO_0.out (by omega)
     (first | cases eo5 | (injection eo5 with ea_ en_ ec_; (first | subst ea_ | (injection ea_ with ea_; subst ea_)); subst ec_; clear en_))
     have GB5 := Aside0.mk gb5
     have GG5 := Aside0.mk HG5
     clear gb5 gl5 HG5
     have HMgo5 := Aside0.mk (show (P0_ go5 ∨ w.heap.size ≤ go5) from (HO_0.out.1 _ rfl))
     obtain ⟨hx5_0, hf5_0⟩ := Kd.R_celln 0 HO_0.out (x5_1 : Int) p5 q5
     replace p5 := eq_true p5
     replace q5 := eq_true q5
     have HP7 := Kd.R_putg HO_0.out (x5_1 : Int) (IntKind.i8.wrap (x1_1))
     go_wp2_with (first | ((with_reducible refine gate_store (t := 22) (p := 16) rfl ?_); refine store_event (t := 22) (p := 16) (v := ?vo_w8) (w1 := (wr.setCell ⟨go5, (x5_1 : Int).toNat, none⟩ (.int .i8 (IntKind.i8.wrap (x1_1))))) ?hg ?ho ?hn ?hr ?_; (case ho => rfl); (case hg => rfl); (case hn => rfl); (case hr => first | (go_simp; done) | (go_simp; rfl)); intro w8 hw; have hg : wr.grownBy w8 (some go5) := (by rw [hw]; exact HP7.2); have hp_ : Kd.R (Kd.int .i8) 22 w8 w0.heap.size (fun k_ => (P0_ k_ ∨ w.heap.size ≤ k_)) (.slice (some ⟨go5, 0, none⟩) x0_1.length co6) y148 := (by rw [hw, Ny148.out]; exact HP7.1); clear HP7; have n0_ := Aside0.mk (hp_); have n1_ := Aside0.mk ((by rw [hw]; exact below_set (HB.out) GB5.out : Below w0.heap.size w0 w8)); have n2_ := Aside0.mk (Kept.of_grown (S := (fun k_ => P0_ k_)) hg (by repeat (first | (with_reducible first | exact HK.out | apply Kept.alloc | apply Kept.drewN | apply Kept.drew) | exact HK.out)) (fun k_ e_ => (HO_0.out.1 k_ e_))); clear HO_0; clear HB; clear HK; have HO_0 := n0_; have HB := n1_; have HK := n2_; clear n0_ n1_ n2_; clear hg hw hp_))
     go_roundg k1
     case measure => have := HK1.out; omega
     case rel => exact ⟨(y148), (wrap64 (x1_1 + 1)), (wrap64 (x5_1 + 1)), (by first | rfl | (simp; done) | (simp [*]; done)), (by first | rfl | (simp; done) | (simp [*]; done)), H', ⟨by have := HK1.out; omega⟩, ⟨by (with_reducible repeat (first | apply Kd.R_alloc | apply Kd.R_drewN | apply Kd.R_drew)); exact HO_0.out⟩, ⟨by repeat (first | (with_reducible first | exact HK.out | apply Kept.alloc | apply Kept.drewN | apply Kept.drew) | exact HK.out)⟩, ⟨by repeat (first | (with_reducible first | exact HB.out | apply below_alloc | apply pw_below_drewN | apply below_drew1) | exact HB.out)⟩⟩
    ·rw [if_neg c4] at H
     exact absurd H (by simp)
   ·rw [if_neg c3] at H
    have c3b0 : decide (x5_1 < (x0_1.length : Int)) = false := decide_eq_false c3
    clear c3
    simp only [Option.some.injEq, Prod.mk.injEq] at H
    obtain ⟨rfl, rfl⟩ := H
    obtain ⟨Ao9, co9, eo9⟩ := Kd.R_slice HO_0.out
    subst eo9
    go_wp2
    go_ret
    exact ⟨by first | rfl | (simp [errW_none, errW_some] <;> rfl) | (simp [*, errW_none, errW_some] <;> rfl), by (with_reducible repeat (first | apply Kd.R_alloc | apply Kd.R_drewN | apply Kd.R_drew)); exact HO_0.out, by repeat (first | (with_reducible first | exact HB.out | apply below_alloc | apply pw_below_drewN | apply below_drew1) | exact HB.out), by repeat (first | (with_reducible first | exact HK.out | apply Kept.alloc | apply Kept.drewN | apply Kept.drew) | exact HK.out)⟩
end Go.Proofs.YtdgecgfgekmhcaaDoor.M
namespace Go.Proofs.YtdgecgfgekmhcaaDoor.M
open Go.RowKit Go.Proofs.YtdgecgfgekmhcaaDoorW.PrintWords Go.Proofs.YtdgecgfgekmhcaaDoorW.PrintLast Go.Proofs.YtdgecgfgekmhcaaDoor.U
set_option linter.unusedVariables false
set_option linter.unusedSimpArgs false
def marksHoist (n : Nat) (a : Int) : List Int := (List.range n).map fun (j : Nat) => IntKind.i8.wrap (a + (j : Int))
theorem marksHoist_length (n : Nat) (a : Int) : (marksHoist n a).length = n := by simp [marksHoist]
theorem markHoist_l0 (n : Nat) (a : Int) (ha : 0 ≤ a) (hb : a + n ≤ 9223372036854775806) : ∀ (d i : Nat) (x0 : List Int), i + d = n → x0.length = n → (∀ j, j < i → x0[j]? = (marksHoist n a)[j]?) →
  Ev (fun k => laws_markHoist.l0 k x0 (a + i) (i : Int)) (a + n, marksHoist n a) := by
 intro d
 induction d with
 | zero =>
  intro i x0 hi hl hp
  obtain rfl : i = n := by omega
  refine Ev.step (f := fun _ => some (a + i, x0)) (fun k => by simp only [laws_markHoist.l0]; rw [if_neg (by omega)]) (cons ?_)
  rw [show x0 = marksHoist i a from List.ext_getElem? fun j => by
   rcases Nat.lt_or_ge j i with h | h
   ·exact hp j h
   ·rw [List.getElem?_eq_none (by omega), List.getElem?_eq_none (by rw [marksHoist_length]; omega)]]
 | succ d ih =>
  intro i x0 hi hl hp
  refine Ev.step (f := fun k => laws_markHoist.l0 k (x0.set i (IntKind.i8.wrap (a + (i : Int)))) (a + ((i + 1 : Nat) : Int)) ((i + 1 : Nat) : Int)) (fun k => ?_) (ih (i + 1) _ (by omega) (by simpa using hl) ?_)
  ·simp only [laws_markHoist.l0]; rw [if_pos (by omega), if_pos (by omega), w64 (by omega) (by omega), w64 (by omega) (by omega), show a + (i : Int) + 1 = a + ((i + 1 : Nat) : Int) by omega, show (i : Int) + 1 = ((i + 1 : Nat) : Int) by omega, Int.toNat_natCast]
  ·intro j hj
   by_cases e : j = i
   ·subst e
    rw [List.getElem?_set_self (by omega)]
    simp [marksHoist, List.getElem?_map, List.getElem?_range (show j < n by omega)]
   ·rw [List.getElem?_set_ne (by omega)]; exact hp j (by omega)
theorem markHoist_ev (l : List Int) (a : Int) (ha : 0 ≤ a) (hb : a + l.length ≤ 9223372036854775806) : Ev (fun k => laws_markHoist.f k l a) (a + l.length, marksHoist l.length a) := by
 have := markHoist_l0 l.length a ha hb l.length 0 l (by omega) rfl (fun j hj => by omega)
 simpa [laws_markHoist.f] using this
end Go.Proofs.YtdgecgfgekmhcaaDoor.M
namespace Go.Proofs.YtdgecgfgekmhcaaDoor.M
open Go.RowKit Go.Proofs.YtdgecgfgekmhcaaDoorW.PrintWords Go.Proofs.YtdgecgfgekmhcaaDoorW.PrintLast Go.Proofs.YtdgecgfgekmhcaaDoor.U
set_option linter.unusedVariables false
set_option linter.unusedSimpArgs false
theorem heldHoist_l0 (n : Nat) (a : Int) (ha : 0 ≤ a) (hb : a + n ≤ 9223372036854775806) : ∀ (d i : Nat), i + d = n →
  Ev (fun k => laws_heldHoist.l0 k (marksHoist n a) (a + i) (i : Int)) (a + n) := by
 intro d
 induction d with
 | zero =>
  intro i hi
  obtain rfl : i = n := by omega
  exact Ev.step (f := fun _ => some (a + i)) (fun k => by simp only [laws_heldHoist.l0]; rw [marksHoist_length, if_neg (by omega)]) (cons rfl)
 | succ d ih =>
  intro i hi
  refine Ev.step (f := fun k => laws_heldHoist.l0 k (marksHoist n a) (a + ((i + 1 : Nat) : Int)) ((i + 1 : Nat) : Int)) (fun k => ?_) (ih (i + 1) (by omega))
  have hr : rd (marksHoist n a) i = IntKind.i8.wrap (a + (i : Int)) := by
   rw [rd_get _ i (by rw [marksHoist_length]; omega)]
   simp [marksHoist]
  simp only [laws_heldHoist.l0]; rw [marksHoist_length, if_pos (by omega), if_pos (by omega), if_pos hr, w64 (by omega) (by omega), w64 (by omega) (by omega), show a + (i : Int) + 1 = a + ((i + 1 : Nat) : Int) by omega]; rfl
theorem heldHoist_ev (n : Nat) (a : Int) (ha : 0 ≤ a) (hb : a + n ≤ 9223372036854775806) : Ev (fun k => laws_heldHoist.f k (marksHoist n a) a) (a + n) := by
 have := heldHoist_l0 n a ha hb n 0 (by omega)
 simpa [laws_heldHoist.f] using this
end Go.Proofs.YtdgecgfgekmhcaaDoor.M
namespace Go.Proofs.YtdgecgfgekmhcaaDoor.Arr
open Go.RowKit Go.Proofs.YtdgecgfgekmhcaaDoorW.PrintWords Go.Proofs.YtdgecgfgekmhcaaDoorW.PrintLast Go.Proofs.YtdgecgfgekmhcaaDoorW.PrintMore Go.Proofs.YtdgecgfgekmhcaaDoor.U Go.Proofs.YtdgecgfgekmhcaaDoor.M
set_option linter.unusedVariables false
set_option linter.unusedSimpArgs false
theorem rdM_get (xs : List (List Int)) (i : Nat) (h : i < xs.length) : rd_L2 xs (i : Int) = xs[i] := by
 simp [rd_L2, List.getElem?_eq_getElem h]
theorem toListL {l l' : List (List Int)} {n : Nat} (h1 : l.length = n) (h2 : l'.length = n) (h : ∀ j, j < n → l[j]? = l'[j]?) : l = l' := by
 apply List.ext_getElem?
 intro j
 rcases Nat.lt_or_ge j n with hj | hj
 ·exact h j hj
 ·rw [List.getElem?_eq_none (by omega), List.getElem?_eq_none (by omega)]
def offs (xs : List (List Int)) (i : Nat) : Nat := ((xs.take i).map List.length).sum
theorem offs_succ (xs : List (List Int)) (i : Nat) (h : i < xs.length) : offs xs (i + 1) = offs xs i + xs[i].length := by
 unfold offs
 rw [List.take_succ_eq_append_getElem h, List.map_append, List.sum_append, List.map_cons, List.map_nil, List.sum_cons, List.sum_nil, Nat.add_zero]
theorem offs_le (xs : List (List Int)) (h8 : ∀ x ∈ xs, x.length ≤ 1048576) : ∀ i, offs xs i ≤ 1048576 * i
 | 0 => by simp [offs]
 | i + 1 => by
  rcases Nat.lt_or_ge i xs.length with h | h
  ·rw [offs_succ xs i h]
   have := offs_le xs h8 i
   have := h8 _ (List.getElem_mem h)
   omega
  ·have := offs_le xs h8 i
   unfold offs at this ⊢
   rw [List.take_of_length_le (by omega)] at this ⊢
   omega
theorem eqHoistS_refl (l : List (List Int)) (hn : l.length ≤ 1048576) (hls : ∀ x ∈ l, x.length ≤ 1048576) : Ev (fun k => laws_eqHoistS.f k l l) true := by
 unfold laws_eqHoistS.f
 refine pos rfl ?_
 refine iter (F := fun k (s : Int) => laws_eqHoistS.l0 k l l s) (fun i s => s = (i : Int)) _ l.length ?_ ?_ 0 0 (by omega) rfl
 ·rintro i s hi rfl
  have hm : (rd_L2 l (i : Int)).length ≤ 1048576 := by rw [rdM_get l i hi]; exact hls _ (List.getElem_mem _)
  refine .inl ⟨((i + 1 : Nat) : Int), rfl, fun hk => ?_⟩
  refine Ev.step (fun k => by rw [laws_eqHoistS.l0]) ?_
  refine pos (by omega) (pos (by omega) (pos (by omega) (Ev.bind (eqHoist_refl (rd_L2 l (i : Int)) (by omega)) (pos rfl ?_))))
  rw [w64 (by omega) (by omega)]; exact hk
 ·rintro s rfl
  refine Ev.step (fun k => by rw [laws_eqHoistS.l0]) ?_
  exact neg (by omega) (cons rfl)
theorem eqHoistS_calls (A : Option Addr) (c : Nat) (A2 : Option Addr) (c2 : Nat) (xs : List (List Int)) (b1 b2 : Nat) (ok1 ok2 : Nat → Prop) (w : World) (h1 : Kd.S kH 58 w b1 ok1 (.slice A xs.length c) xs) (h2 : Kd.S kH 58 w b2 ok2 (.slice A2 xs.length c2) xs) (hn : xs.length ≤ 1048576) (h8 : ∀ x ∈ xs, x.length ≤ 1048576) :
  Calls Tryd.prog 13 #[.slice A xs.length c, .slice A2 xs.length c2] w fun e w' => e = .returned (.bool true) ∧ Below w.heap.size w w' := by
 obtain ⟨k, hk⟩ := (eqHoistS_refl xs hn h8).rounds
 refine (laws_eqHoistS.calls k A c xs A2 c2 xs true w (Kd.S_reads' h1).2.2 (Kd.S_reads' h1).2.1 (Kd.S_reads' h2).2.2 (Kd.S_reads' h2).2.1 hk).mono ?_
 rintro e w' ⟨rfl, h⟩
 exact ⟨rfl, h.below⟩
def markedHoist (xs : List (List Int)) (i : Nat) : List (List Int) := xs.mapIdx fun j x => if j < i then marksHoist x.length (1 + (offs xs j : Int)) else x
theorem markedHoist_len (xs : List (List Int)) (i : Nat) : (markedHoist xs i).length = xs.length := by simp [markedHoist]
theorem markedHoist_zero (xs : List (List Int)) : markedHoist xs 0 = xs := by
 apply List.ext_getElem?
 intro j
 simp [markedHoist, List.getElem?_mapIdx]
theorem markedHoist_at (xs : List (List Int)) (i j : Nat) (hj : j < xs.length) : (markedHoist xs i)[j]? = some (if j < i then marksHoist xs[j].length (1 + (offs xs j : Int)) else xs[j]) := by
 simp [markedHoist, List.getElem?_mapIdx, List.getElem?_eq_getElem hj]
theorem markedHoist_set (xs : List (List Int)) (i : Nat) (h : i < xs.length) : (markedHoist xs i).set i (marksHoist xs[i].length (1 + (offs xs i : Int))) = markedHoist xs (i + 1) := by
 refine toListL (n := xs.length) (by rw [List.length_set, markedHoist_len]) (markedHoist_len _ _) fun j hj => ?_
 rw [markedHoist_at xs (i + 1) j hj]
 by_cases e : i = j
 ·subst e
  rw [List.getElem?_set_self (by rw [markedHoist_len]; exact h), if_pos (by omega)]
 ·rw [List.getElem?_set_ne e, markedHoist_at xs i j hj]
  by_cases hji : j < i
  ·rw [if_pos hji, if_pos (by omega)]
  ·rw [if_neg hji, if_neg (by omega)]
theorem oneLHoist : OneTy Tryd.prog 58 := ⟨by kernel_rfl, by kernel_rfl⟩
set_option maxHeartbeats 4000000 in
set_option maxRecDepth 100000 in
theorem markHoistS_calls (A : Option Addr) (c : Nat) (xs : List (List Int)) (ok : Nat → Prop) (w0 w : World) (hB : Below w0.heap.size w0 w) (hS : Kd.S kH 58 w w0.heap.size ok (.slice A xs.length c) xs) (hn : xs.length ≤ 1048576) (h8 : ∀ x ∈ xs, x.length ≤ 1048576) :
  Calls Tryd.prog 14 #[.slice A xs.length c, .int .i64 1] w fun e w' => e = .returned (.int .i64 (1 + (offs xs xs.length : Int))) ∧ Kd.S kH 58 w' w0.heap.size (fun k => ok k ∨ w.heap.size ≤ k) (.slice A xs.length c) (markedHoist xs xs.length) ∧ Below w0.heap.size w0 w' ∧ Kept w w' ok := by
 have HC := Aside0.mk (show Kd.S kH 58 w w0.heap.size (fun k => ok k ∨ w.heap.size ≤ k) (.slice A xs.length c) (markedHoist xs 0) ∧ Below w0.heap.size w0 w ∧ Kept w w ok from ⟨by rw [markedHoist_zero]; exact Kd.S_mono hS (fun k hk => .inl hk), hB, Kept.refl _ _⟩)
 have HO8 := Aside0.mk (offs_le xs h8)
 have H8 := Aside0.mk h8
 clear hB hS h8
 go_enter Tryd.func14, Tryd.ntmps14
 go_wp2_with fail
 go_loopw [5, 1] (fun v5 v1 wr => ∃ i : Nat, i ≤ xs.length ∧ v5 = .int .i64 i ∧ v1 = .int .i64 (1 + (offs xs i : Int)) ∧ Aside0 (Kd.S kH 58 wr w0.heap.size (fun k => ok k ∨ w.heap.size ≤ k) (.slice A xs.length c) (markedHoist xs i) ∧ Below w0.heap.size w0 wr ∧ Kept w wr ok)) (fun v5 _ _ => xs.length - (intOf v5).toNat)
 case atStart => exact ⟨0, by omega, rfl, by simp [offs], HC⟩
 case round =>
  clear HC
  obtain ⟨i, hi, rfl, rfl, HU⟩ := hrel
  by_cases hlt : i < xs.length
  ·have hltI : (i : Int) < (xs.length : Int) := by omega
   obtain ⟨hS, hB, hK⟩ := HU.out
   obtain ⟨g, hA⟩ : ∃ g, A = some ⟨g, 0, none⟩ := by
    obtain ⟨g, cap, hv, _⟩ := Kd.S_form hS (by rw [markedHoist_len]; omega)
    injection hv with hA _ _
    exact ⟨g, hA⟩
   subst hA
   obtain ⟨oki, cl, hcl, hM, hcc, hoki, hH⟩ := Kd.S_lend hS ([] : List Int) (i : Int) (by omega) (by omega)
   have hxi : (markedHoist xs i).getD (i : Int).toNat [] = xs[i] := by
    rw [Int.toNat_natCast, List.getD_eq_getElem?_getD, markedHoist_at xs i i hlt, if_neg (by omega)]
    rfl
   rw [hxi] at hM
   obtain ⟨v, hcl2, hR⟩ := hM
   subst hcl2
   have HCELL := Aside0.mk (show wr.cell? ⟨g, i, none⟩ = some v by
    have := hcc 0 v rfl
    rw [Int.toNat_natCast] at this
    simpa [kH, Kd.slice] using this)
   have hx8 := H8.out _ (List.getElem_mem hlt)
   have hoi := HO8.out i
   have HOS := Aside0.mk (offs_succ xs i hlt)
   obtain ⟨k, hk⟩ := (markHoist_ev xs[i] (1 + (offs xs i : Int)) (by omega) (by omega)).rounds
   have HMW := Aside0.mk (laws_markHoist.calls k oki v xs[i] (1 + (offs xs i : Int)) _ _ w0 wr hB hR hk)
   have HN := Aside0.mk (fun w2 (h1 : Kd.R (Kd.int .i8) 22 w2 w0.heap.size (fun k_ => (oki k_ ∨ wr.heap.size ≤ k_)) v (marksHoist xs[i].length (1 + (offs xs i : Int)))) (h2 : Below w0.heap.size w0 w2) (h3 : Kept wr w2 oki) =>
    show Kd.S kH 58 w2 w0.heap.size (fun k => ok k ∨ w.heap.size ≤ k) (.slice (some ⟨g, 0, none⟩) xs.length c) (markedHoist xs (i + 1)) ∧ Below w0.heap.size w0 w2 ∧ Kept w w2 ok by
     refine ⟨?_, h2, Kept.then_ hK h3 (fun k hk => (hoki k hk).1)⟩
     have hH2 := Kd.H_step (Kd.H_widen hH) (w1 := w2) (fun k _ hn hlt => h3.2 k hlt (fun ho => hn (.inl ho)))
     have hS2 := Kd.H_back hH2 (x' := marksHoist xs[i].length (1 + (offs xs i : Int))) ⟨v, rfl, h1⟩ (fun k hk => by
      rcases hk with hk | hk
      ·exact .inl hk
      ·exact .inr ⟨.inr (by have := hK.1; omega), hk⟩)
     rw [Int.toNat_natCast, markedHoist_set xs i hlt] at hS2
     exact hS2)
   generalize hmk : marksHoist xs[i].length (1 + (offs xs i : Int)) = mk at *
   have hvs := Kd.R_slice hR
   have hw1 : wrap64 ((i : Int) + 1) = ((i + 1 : Nat) : Int) := by rw [w64 (by omega) (by omega)]; omega
   clear hS hB hK hcc hoki hH hR hxi hk hmk HU hx8 hoi
   obtain ⟨Ai, ci, rfl⟩ := hvs
   generalize hq : offs xs i = q at *
   go_wp2_with (first
    | ((with_reducible refine gt_load 58 ?_); refine Kd.event_run rfl (y_cell (by rfl) (by rfl) oneLHoist HCELL.out) ?_)
    | (go_at_call 38; refine HMW.out.mono ?_; rintro e w2 ⟨rfl, h1, h2, h3⟩; have HX := Aside0.mk (HN.out w2 h1 h2 h3); clear h1 h2 h3))
   go_roundw
   case rel => exact ⟨i + 1, by omega, by go_num, by rw [HOS.out]; congr 1; omega, HX⟩
   case measure => simp [intOf]; omega
  ·obtain rfl : i = xs.length := by omega
   go_wp2_with fail
   go_ret
   exact ⟨rfl, HU.out.1, HU.out.2.1, HU.out.2.2⟩
theorem heldHoistS_ev (xs : List (List Int)) (hn : xs.length ≤ 1048576) (h8 : ∀ x ∈ xs, x.length ≤ 1048576) : Ev (fun k => laws_heldHoistS.f k (markedHoist xs xs.length) 1) (1 + (offs xs xs.length : Int)) := by
 unfold laws_heldHoistS.f
 refine iter (F := fun k (s : Int × Int) => laws_heldHoistS.l0 k (markedHoist xs xs.length) s.1 s.2) (fun i s => s = (1 + (offs xs i : Int), (i : Int))) _ xs.length ?_ ?_ 0 (1, 0) (by omega) (by simp [offs])
 ·rintro i s hi rfl
  refine .inl ⟨(1 + (offs xs (i + 1) : Int), ((i + 1 : Nat) : Int)), rfl, fun hk => ?_⟩
  have ho := offs_le xs h8 i
  have hx8 := h8 _ (List.getElem_mem hi)
  have hrd : rd_L2 (markedHoist xs xs.length) (i : Int) = marksHoist xs[i].length (1 + (offs xs i : Int)) := by
   rw [rdM_get _ i (by rw [markedHoist_len]; exact hi)]
   have h := markedHoist_at xs xs.length i hi
   rw [List.getElem?_eq_getElem (by rw [markedHoist_len]; exact hi), if_pos hi] at h
   exact Option.some.inj h
  refine Ev.step (fun k => by rw [laws_heldHoistS.l0]) ?_
  refine pos (by rw [markedHoist_len]; omega) (pos (by omega) (Ev.bind (a := 1 + (offs xs i : Int) + xs[i].length) (g := fun k => laws_heldHoist.f k (rd_L2 (markedHoist xs xs.length) (i : Int)) (1 + (offs xs i : Int))) (by rw [hrd]; exact heldHoist_ev _ _ (by omega) (by omega)) ?_))
  refine neg (by omega) ?_
  rw [w64 (by omega) (by omega)]
  dsimp only at hk
  rw [offs_succ xs i hi] at hk
  rw [show 1 + (offs xs i : Int) + (xs[i].length : Int) = 1 + ((offs xs i + xs[i].length : Nat) : Int) by omega]
  exact hk
 ·rintro s rfl
  refine Ev.step (fun k => by rw [laws_heldHoistS.l0]) ?_
  exact neg (by rw [markedHoist_len]; omega) (cons rfl)
theorem heldHoistS_calls (A : Option Addr) (c : Nat) (xs : List (List Int)) (b : Nat) (ok : Nat → Prop) (w : World) (h : Kd.S kH 58 w b ok (.slice A xs.length c) (markedHoist xs xs.length)) (hn : xs.length ≤ 1048576) (h8 : ∀ x ∈ xs, x.length ≤ 1048576) :
  Calls Tryd.prog 15 #[.slice A xs.length c, .int .i64 1] w fun e w' => e = .returned (.int .i64 (1 + (offs xs xs.length : Int))) ∧ Below w.heap.size w w' := by
 obtain ⟨k, hk⟩ := (heldHoistS_ev xs hn h8).rounds
 have := laws_heldHoistS.calls k A c (markedHoist xs xs.length) 1 _ w (Kd.S_reads' h).2.2 (by rw [markedHoist_len]; exact (Kd.S_reads' h).2.1) hk
 rw [markedHoist_len] at this
 refine this.mono ?_
 rintro e w' ⟨rfl, h⟩
 exact ⟨rfl, h.below⟩
end Go.Proofs.YtdgecgfgekmhcaaDoor.Arr
namespace Go.Proofs.YtdgecgfgekmhcaaDoor.Arr
open Go.RowKit Go.Proofs.YtdgecgfgekmhcaaDoorW.PrintWords Go.Proofs.YtdgecgfgekmhcaaDoorW.PrintLast Go.Proofs.YtdgecgfgekmhcaaDoorW.PrintMore Go.Proofs.YtdgecgfgekmhcaaDoor.U Go.Proofs.YtdgecgfgekmhcaaDoor.M
set_option linter.unusedVariables false
set_option linter.unusedSimpArgs false
abbrev RowH (v : Value) (xs : List (List Int)) (W : World) (b : Nat) (ok : Nat → Prop) : Prop := Kd.S kH 58 W b ok v xs
structure L2 (w : World) (S1 : Nat) (v : Value) (xs : List (List Int)) (W : World) : Prop where
 bel : Below w.heap.size w W
 n : w.heap.size ≤ S1 ∧ S1 ≤ W.heap.size
 spec : RowH v xs W w.heap.size (fun k => k < S1)
structure L3 (w : World) (S1 : Nat) (v : Value) (xs : List (List Int)) (u : Value) (ys : List (List Int)) (W : World) : Prop where
 bel : Below w.heap.size w W
 n : w.heap.size ≤ S1 ∧ S1 ≤ W.heap.size
 spec : RowH v xs W w.heap.size (fun k => k < S1)
 impl : RowH u ys W w.heap.size (fun k => S1 ≤ k)
theorem L2.mk_ {w W : World} {v : Value} {xs : List (List Int)} (h : RowH v xs W w.heap.size (fun _ => True)) (hb : Below w.heap.size w W) : L2 w W.heap.size v xs W := ⟨hb, ⟨hb.size, Nat.le_refl _⟩, Kd.S_mono (Kd.S_bound h) (fun k hk => hk.2.2.1)⟩
theorem L2.impl {w W W1 : World} {S1 : Nat} {v u : Value} {xs ys : List (List Int)} (h : L2 w S1 v xs W) (ho : RowH u ys W1 W.heap.size (fun _ => True)) (hb : Below W.heap.size W W1) : L3 w S1 v xs u ys W1 :=
 ⟨h.bel.trans (hb.mono h.bel.size), ⟨h.n.1, Nat.le_trans h.n.2 hb.size⟩, Kd.S_below h.spec hb, Kd.S_lower (Kd.S_mono (Kd.S_bound ho) (fun k hk => Nat.le_trans h.n.2 hk.2.1)) h.bel.size⟩
theorem L3.below {w W W1 : World} {S1 : Nat} {v u : Value} {xs ys : List (List Int)} (h : L3 w S1 v xs u ys W) (hb : Below W.heap.size W W1) : L3 w S1 v xs u ys W1 :=
 ⟨h.bel.trans (hb.mono h.bel.size), ⟨h.n.1, Nat.le_trans h.n.2 hb.size⟩, Kd.S_below h.spec hb, Kd.S_below h.impl hb⟩
theorem L3.mark {w W W1 : World} {S1 : Nat} {v u : Value} {xs ys zs : List (List Int)} (h : L3 w S1 v xs u ys W) (hr : RowH u zs W1 w.heap.size (fun k => S1 ≤ k ∨ W.heap.size ≤ k)) (hb : Below w.heap.size w W1) (hk : Kept W W1 (fun k => S1 ≤ k)) : L3 w S1 v xs u zs W1 :=
 ⟨hb, ⟨h.n.1, Nat.le_trans h.n.2 hk.1⟩, Kd.S_step h.spec (fun k ho hlt => hk.2 k hlt (by omega)), Kd.S_mono hr (fun k ho => by have := h.n.2; omega)⟩
theorem leaves_len (m : List Int) (top : Nat) (ok : List Int → Int → Bool) : ∀ (d : Nat) (h : List Int) (g : Int), ∀ x ∈ leaves m top ok d h g, x.length = h.length + d
 | 0, h, g, x, hx => by
  rw [leaves, List.mem_singleton] at hx
  rw [hx]
  rfl
 | d + 1, h, g, x, hx => by
  rw [leaves] at hx
  split at hx
  ·have := leaves_len m top ok d _ _ x hx
   rw [this]
   simp
   omega
  ·obtain ⟨n, _, hn⟩ := List.mem_flatMap.1 hx
   split at hn
   ·have := leaves_len m top ok d _ _ x hn
    rw [this]
    simp
    omega
   ·cases hn
theorem hoistW_len (m : List Int) (sets subs : Int) (hm : m.length ≤ 8) : (hoistW m sets subs).1.length ≤ 8 := by
 unfold hoistW
 split
 ·cases hf : (findL m sets subs.toNat).head? with
  | none => simp
  | some h =>
   have := List.mem_of_head? hf
   have hl := leaves_len m subs.toNat (within sets) m.length [] 0 h this
   simp at hl
   dsimp only
   omega
 ·simp
theorem goT_len (subs : Int) : ∀ (ws : List (List UInt8)) (acc : List (List Int)), (∀ x ∈ acc, x.length ≤ 8) → (goT subs ws acc).1.length ≤ acc.length + ws.length ∧ ∀ x ∈ (goT subs ws acc).1, x.length ≤ 8
 | [], acc, h => ⟨by simp [goT], h⟩
 | x :: r, acc, h => by
  rw [goT]
  split
  ·have := goT_len subs r (acc ++ [(hoistW (spellW ⟨x.toArray⟩ 8).1 (leastW (spellW ⟨x.toArray⟩ 8).1 subs).1 subs).1]) (fun y hy => by
    rcases List.mem_append.1 hy with hy | hy
    ·exact h y hy
    ·simp at hy
     subst hy
     exact hoistW_len _ _ _ (spellW_small _ _).2)
   refine ⟨?_, this.2⟩
   have h1 := this.1
   simp at h1 ⊢
   omega
  ·simp
theorem hft_len (l : List UInt8) (subs : Int) : (hftW l subs).1.length ≤ 1048576 ∧ ∀ x ∈ (hftW l subs).1, x.length ≤ 1048576 := by
 unfold hftW
 split
 ·rename_i h
  have h1 := goT_len subs (sp 32 l) [] (by simp)
  have h2 := sp_len 32 l
  exact ⟨by have := h1.1; simp at this; omega, fun x hx => by have := h1.2 x hx; omega⟩
 ·simp
theorem lawHft_big (s : ByteArray) (subs : Int) (hs : 1048576 < s.size) (w : World) :
  Calls Tryd.prog 4 #[.string s, .int .i64 subs] w fun e w' => e = .returned (.bool true) ∧ Below w.heap.size w w' := by
 have hq : decide ((s.size : Int) > 1048576) = true := decide_eq_true (by omega)
 go_enter Tryd.func4, Tryd.ntmps4
 go_wp2_with fail
 ·go_ret
  exact ⟨rfl, Below.refl _ _⟩
set_option maxHeartbeats 8000000 in
set_option maxRecDepth 100000 in
theorem lawHft_small (l : List UInt8) (hl : l.length ≤ 1048576) (subs : Int) (hsub : -9223372036854775808 ≤ subs ∧ subs ≤ 9223372036854775807) (w : World) (hD : ∃ m, w.cell? ⟨ren146.g 1, 0, none⟩ = some (.int .i64 m)) :
  Calls Tryd.prog 4 #[.string ⟨l.toArray⟩, .int .i64 subs] w fun e w' => e = .returned (.bool true) ∧ Below w.heap.size w w' := by
 obtain ⟨md, hmd⟩ := hD
 have HD := Aside0.mk (fun W (hW : Below w.heap.size w W) => (⟨md, FrBelow.read hW hmd⟩ : ∃ m, W.cell? ⟨ren146.g 1, 0, none⟩ = some (.int .i64 m)))
 have HSP := Aside0.mk (fun W => specHft_calls l hl subs hsub W)
 have HIM := Aside0.mk (fun W hW => implHft_calls l hl subs hsub W hW)
 have hsz : ¬ ((⟨l.toArray⟩ : ByteArray).size : Int) > 1048576 := by rw [bs_size]; omega
 have hsz2 := decide_eq_false hsz
 have hX := hft_len l subs
 have hof := offs_le (hftW l subs).1 hX.2 (hftW l subs).1.length
 have HX := Aside0.mk hX
 generalize (hftW l subs).2 = q at *
 generalize (hftW l subs).1 = xs at *
 have hmx : ¬ (1 + (offs xs xs.length : Int) < 0) := by omega
 clear hmd hX hof
 go_enter Tryd.func4, Tryd.ntmps4
 go_wp2_with (first
  | (go_at_call 15; refine (heldHoistS_calls Ag cg xs _ _ _ HL8.out.impl HX.out.1 HX.out.2).mono ?_; rintro e w9 ⟨rfl, h⟩; have HL9 := Aside0.mk (HL8.out.below h); clear h)
  | (go_at_call 13; refine (eqHoistS_calls Ah ch Aw cw xs _ _ _ _ _ HR7.out HL7.out.spec HX.out.1 HX.out.2).mono ?_; rintro e w8 ⟨rfl, h⟩; have HL8 := Aside0.mk (HL7.out.below h); clear h)
  | (go_at_call 12; refine (HIM.out _ (HD.out _ HL6.out.bel)).mono ?_; rintro e w7 ⟨v7, rfl, ho, h⟩; obtain ⟨Ah, ch, rfl⟩ := Kd.S_slice ho; have HR7 := Aside0.mk ho; have HL7 := Aside0.mk (HL6.out.below h); clear h ho)
  | (go_at_call 15; refine (heldHoistS_calls Ag cg xs _ _ _ HL5.out.impl HX.out.1 HX.out.2).mono ?_; rintro e w6 ⟨rfl, h⟩; have HL6 := Aside0.mk (HL5.out.below h); clear h)
  | (go_at_call 14; refine (markHoistS_calls Ag cg xs _ w _ HL4.out.bel HL4.out.impl HX.out.1 HX.out.2).mono ?_; rintro e w5 ⟨rfl, hr, hb, hk⟩; have HL5 := Aside0.mk (HL4.out.mark hr hb hk); clear hr hb hk)
  | (go_at_call 13; refine (eqHoistS_calls Ag cg Aw cw xs _ _ _ _ _ HL3.out.impl HL3.out.spec HX.out.1 HX.out.2).mono ?_; rintro e w4 ⟨rfl, h⟩; have HL4 := Aside0.mk (HL3.out.below h); clear h)
  | (go_at_call 12; refine (HIM.out _ (HD.out _ HL2.out.bel)).mono ?_; rintro e w3 ⟨v3, rfl, ho, h⟩; obtain ⟨Ag, cg, rfl⟩ := Kd.S_slice ho; have HL3 := Aside0.mk (HL2.out.impl ho h); clear h ho)
  | (go_at_call 11; refine (HSP.out _).mono ?_; rintro e w2 ⟨v2, rfl, ho, h⟩; obtain ⟨Aw, cw, rfl⟩ := Kd.S_slice ho; have HL2 := Aside0.mk (L2.mk_ ho h); clear h ho))
 go_ret
 exact ⟨rfl, HL9.out.bel⟩
theorem law_FnExactHoistsForText (s : ByteArray) (subs : Int) (hsub : (Lit.int .i64 subs).wf = true) (w : World) (hD : ∃ m, w.cell? ⟨ren146.g 1, 0, none⟩ = some (.int .i64 m)) :
  Calls Tryd.prog 4 #[.string s, .int .i64 subs] w fun e w' => e = .returned (.bool true) ∧ Below w.heap.size w w' := by
 have hsub2 : -9223372036854775808 ≤ subs ∧ subs ≤ 9223372036854775807 := by
  have := hsub
  simp [Lit.wf] at this
  exact this
 by_cases h : s.size ≤ 1048576
 ·have hs : s = ⟨s.data.toList.toArray⟩ := by simp
  rw [hs]
  refine lawHft_small s.data.toList ?_ subs hsub2 w hD
  have : s.data.toList.length = s.size := Array.length_toList
  omega
 ·exact lawHft_big s subs (by omega) w
end Go.Proofs.YtdgecgfgekmhcaaDoor.Arr
namespace Go.Proofs.YtdgecgfgekmhcaaDoor.fnExactHoistsForText
open Go.ChangeShapes Go.WideShapes Go.ChangeAt Go.RowKit Go.Proofs.YtdgecgfgekmhcaaDoor.U Go.Proofs.YtdgecgfgekmhcaaDoorW.PrintWords Go.Proofs.YtdgecgfgekmhcaaDoor.Arr
open Go.ChangeMaps (open_string shut_string)
set_option linter.unusedVariables false
theorem own : ownKnob Tryd.prog.godebug = none := by kernel_rfl
theorem wrap {H : Type} {enc : TypeId × Value → H} {a : Assume} {C : Checked} {os : Os} {f : FuncId} {fn : Func} {s : ChangeSpec} {conds : List PathCond} {apart fresh handsOn again : Bool} {X : World → Array Value → Prop}
  (hX : ∀ (w w' : World) (args : Array Value), w.heap = w'.heap → X w args → X w' args)
  (own : ownKnob C.prog.godebug = none) (started : os.Started) (noInit : C.prog.inits.idxOf? f = none) (hfn : C.prog.funcs[f]? = some fn)
  (witness : ∃ (w : World) (tape : Tape) (i : Input), w.os = os ∧ (w.forCall tape i).Shaped C.prog ∧ i.vars = [] ∧ Input.okWide C.prog (w.forCall tape i) .any w.heap.size f i ∧
   ((s.pre enc C.prog fn conds apart (w.forCall tape i).memory i.args ∧ X (w.forCall tape i).memory i.args) ∧ sizedMet enc C.prog fn (OpenSpec.ofChange s) apart (w.forCall tape i).memory i.args) ∧ a.holds C.prog (lone (Frame.enter C.prog f i.args .normal) [] (w.forCall tape i)))
  (contract : ∀ (W : World) (base : Nat) (args : Array Value) (ds gs : List (DataW H)) (before : List MemPlace),
   (∀ (j : Nat) t v, fn.params[j]? = some t → args[j]? = some v → Value.okWide C.prog W .any base t v) →
   DataW.Whole enc C.prog fn.params.toList s.vars apart W args.toList ds gs before → X W args → W.ShapedOpen C.prog →
   Calls C.prog f args W fun e W' => ∃ v, e = .returned v ∧ s.post enc C.prog fn apart fresh handsOn again W args v W') :
  ReturnsInHanded a C os f .any (fun w args => (s.pre enc C.prog fn conds apart w args ∧ X w args) ∧ sizedMet enc C.prog fn (OpenSpec.ofChange s) apart w args) (s.post enc C.prog fn apart fresh handsOn again) := by
 refine returnsInHanded_of_calls own started noInit witness ?_
 intro w tape i _ hsh _ hok hpre hholds
 obtain ⟨_, _, _, fn', hfn', _, _, _, _, hval⟩ := hok
 have e : fn' = fn := Option.some.inj (hfn'.symm.trans hfn)
 subst e
 obtain ⟨⟨⟨ds, gs, before, hw, hc⟩, hx⟩, hz⟩ := hpre
 have hw' := DataW.Whole.of_heap (w' := w.forCall tape i) (by rfl) hw
 refine (contract (w.forCall tape i) w.heap.size i.args ds gs before hval hw' (hX _ _ _ (by rfl) hx) hsh).mono fun e W' ⟨v, he, hp⟩ => ?_
 subst he
 exact ChangeSpec.post_blind hp
set_option maxRecDepth 100000 in
theorem door_met (os : Os) (args : Array Value) : laidMetH Tryd.prog Rows.fnExactHoistsForTextRow.laid ((World.laidAll Tryd.prog os Rows.fnExactHoistsForTextRow.laid).forCall (fun _ _ => 0) ⟨#[], args, []⟩).memory := by
 rw [MakeChecks.laidMetH_plain _ _ _ (by kernel_rfl)]
 exact laidMet_laidAll _ (by kernel_rfl) (by kernel_rfl)
set_option maxRecDepth 100000 in
theorem lifted (os : Os) (started : os.Started) (H : Type) (enc : TypeId × Value → H) :
  ReturnsInHanded {} Tryd.checked os 4 .any (fun w args => (Rows.fnExactHoistsForTextSpec.pre enc Tryd.prog Tryd.f4 [] false w args ∧ laidMetH Tryd.prog Rows.fnExactHoistsForTextRow.laid w) ∧ sizedMet enc Tryd.prog Tryd.f4 (OpenSpec.ofChange Rows.fnExactHoistsForTextSpec) false w args)
   (Rows.fnExactHoistsForTextSpec.post enc Tryd.prog Tryd.f4 false true false false) := by
 refine wrap (C := Tryd.checked) (X := fun w _ => laidMetH Tryd.prog Rows.fnExactHoistsForTextRow.laid w) (fun _ _ _ hh h => h.of_heap hh) own started (by kernel_rfl) Tryd.func4
  (ChangeSpec.witness_shaped (enc := enc) (C := Tryd.checked) (os := os) (X := fun w _ => laidMetH Tryd.prog Rows.fnExactHoistsForTextRow.laid w) false (World.laidAll Tryd.prog os Rows.fnExactHoistsForTextRow.laid) #[.string ByteArray.empty, .int .i64 0] 8 (World.laidAll_os _ _ _) (World.shaped_of_ZipB (by kernel_rfl) (by kernel_rfl)) (by kernel_rfl) (by kernel_rfl) (by kernel_rfl) (door_met os _)) ?_
 intro W base args ds gs before hval0 hW hL hs
 have hval : ∀ (j : Nat) t v, Tryd.f4.params[j]? = some t → args[j]? = some v → Value.okWide Tryd.prog W .any base t v := hval0
 have hW' := hW
 obtain ⟨p, q, hA0, hV, rfl, hfz, hnd⟩ := hW
 have hA : DataW.TrodAll enc Tryd.prog W 0 (fun _ => true) true Tryd.f4.params.toList args.toList ds p := hA0
 rw [Tryd.params4] at hA hval
 obtain ⟨v0, vs0, d0, ds0, p0, q0, hargs, rfl, rfl, h0, r0⟩ := trodAll_cons hA
 obtain ⟨v1, vs1, d1, ds1, p1, q1, rfl, rfl, rfl, h1, r1⟩ := trodAll_cons r0
 obtain ⟨rfl, rfl, rfl⟩ := trodAll_nil r1
 obtain rfl : args = #[v0, v1] := by cases args; simp_all
 obtain ⟨rfl, rfl⟩ := trodVars_none hV
 obtain ⟨a0, rfl, rfl, rfl, y0⟩ := open_string Tryd.underlying9 (hval 0 9 v0 rfl rfl) h0
 obtain ⟨a1, rfl, rfl, rfl, w1⟩ := open_int Tryd.underlying2 (hval 1 2 v1 rfl rfl) h1
 clear hA0 hval0
 refine (Arr.law_FnExactHoistsForText a0 a1 w1 W (lay146.s1_3 W hs)).mono ?_
 rintro e W' ⟨rfl, bel⟩
 exact ⟨_, rfl, _, _, _, [], _, [], hW', trodAll_mk1 (shut_bool Tryd.underlying4 _), (trodAll_cons_mk (shut_string Tryd.underlying9 y0) (trodAll_cons_mk (shut_int Tryd.underlying2 w1) trodAll_mk0)), rfl, bel.frame _, fun h => by cases h⟩
theorem over : Rows.fnExactHoistsForTextRow.holds Tryd.pinned (OpenSpec.ofChange Rows.fnExactHoistsForTextSpec) :=
 OpenClaim.holds_of_wide 4 Tryd.f4 rfl rfl rfl rfl rfl rfl rfl ⟨rfl, rfl, rfl, rfl, rfl⟩ rfl rfl rfl rfl rfl (by kernel_rfl) Tryd.func4 (by kernel_rfl)
  (of_decide_eq_true (by kernel_rfl)) (by unfold Func.isWrapper; first | (rw [if_pos (by decide +kernel)]; kernel_rfl) | (rw [if_neg (by decide +kernel)]; exact ⟨rfl, rfl⟩))
  (fun os started H enc _ => lifted os started H enc)
theorem proved : Rows.FnExactHoistsForTextSaid := over
end Go.Proofs.YtdgecgfgekmhcaaDoor.fnExactHoistsForText
