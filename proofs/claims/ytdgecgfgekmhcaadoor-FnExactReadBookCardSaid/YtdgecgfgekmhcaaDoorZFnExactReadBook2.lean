/- The texts that the statement FnExactReadBook needs, part 2: contracts of the program's functions and plain laws, without what it does not reach. No condition beyond what each theorem says. -/
import Derived.Shelf.Strconv.Itoa4
import Derived.Test.YtdgecgfgekmhcaaDoorProg
import Derived.KernelRfl
import Derived.Below
import Derived.Deep.Draws
import Derived.Deep.AppendLies
import Derived.Maps.AppendAt
import Derived.OwnWalk
import Derived.Laws.BytesArg
import Derived.Laws.MakeOwn
import Derived.Laws.OwnMore
import Derived.Deep.OwnRows
import Derived.Tactics
import Derived.Lib.ConvBytes
import Derived.Laws.Slices
import Derived.WalkKit
import Derived.RowKit3
import Derived.Deep.LoopGhost
import Derived.Deep.QuietTactic
import Derived.BigQuiet
import Derived.WideLaws
import Derived.Deep.DeepCutAuto
import Derived.Deep.CutBlock
import Derived.Deep.RegionHeld3
import Derived.Laws.Rows
import Derived.Lib.AppendStr
import Derived.ArgAppend
import Derived.Laws.IdiomCopy
import Derived.RowKit
import Derived.OrdersHeld
import Derived.Laws.BitsLemmas
import Derived.Laws.StructEq
import Derived.Laws.Tables
import Derived.BigFrame
import Derived.Laws.CopyRow
import Derived.Laws.ResultCell
import Derived.WalkSpells
import Derived.Lib.SplitLaws
import Derived.Lib.Join
import Derived.Lib.ParseIntB
import Derived.Lib.CountLaws
import Derived.Shelf.Strings.SplitShaped
import Derived.Shelf.Strings.Shaped
import Derived.Shelf.Small.Wraps
import Derived.Shelf.Strconv.ErrVarParseInt
import Derived.Lib.SmallJoins
import Derived.Lib.AppendIntMem
import Derived.Lib.ParseIntBTie
import Derived.StillTailTactics
import Derived.Laws.CopyOwn
import Derived.ProofKit
import Derived.OpenShut
import Derived.Deep.Slices
import Derived.Test.YtdgecgfgekmhcaaDoorRows
import Derived.ShutString
import Derived.ChangeOld
import Derived.SizedLaws
import Derived.HandedShaped
import Derived.LaidMore
import Derived.Lay
import Derived.Stop.Joined
import Derived.Stop.LaidErr
import Derived.Lib.LaidTab
import Derived.Test.YtdgecgfgekmhcaaDoorCards
import Derived.Test.YtdgecgfgekmhcaaDoorTie
import Derived.SevenTiedAt
import Derived.Test.YtdgecgfgekmhcaaDoorZFnExactReadBook1
namespace Go.Proofs.YtdgecgfgekmhcaaDoor.Arr
open Go.RowKit Go.Proofs.YtdgecgfgekmhcaaDoor.J Go.Proofs.YtdgecgfgekmhcaaDoor.U Go.Proofs.YtdgecgfgekmhcaaDoorW.PrintLast Go.Proofs.YtdgecgfgekmhcaaDoorW.PrintMore Go.Proofs.YtdgecgfgekmhcaaDoorW.PrintWords
set_option linter.unusedVariables false
set_option linter.unusedSimpArgs false
def NumH (x : Int) : Prop := x = -10 ∨ (0 ≤ x ∧ x ≤ 39) ∨ (-4 ≤ x ∧ x ≤ -1)
def slot (x : Int) : Nat := if 0 ≤ x then x.toNat else 40 + (-x - 1).toNat
theorem slot_lt {x : Int} (h : NumH x) (hx : x ≠ -10) : slot x < 44 := by
 unfold slot; rcases h with h | h | h <;> (try split) <;> omega
theorem slot_flag {x : Int} (h0 : 0 ≤ x) : slot x = x.toNat := if_pos h0
theorem slot_sub {x : Int} (h0 : x < 0) : slot x = 40 + (-x - 1).toNat := if_neg (by omega)
def bump (L : List Int) (x t : Int) : List Int := if x = -10 then L else L.set (slot x) (rd L (slot x : Nat) + t)
theorem bump_length (L : List Int) (x t : Int) : (bump L x t).length = L.length := by
 unfold bump; split <;> simp
theorem rd_set (L : List Int) (i j : Nat) (v : Int) (hj : j < L.length) : rd (L.set i v) (j : Int) = if j = i then v else rd L (j : Int) := by
 rw [rd_get _ j (by simpa using hj), rd_get L j hj, List.getElem_set]
 by_cases h : i = j
 ·rw [if_pos h, if_pos h.symm]
 ·rw [if_neg h, if_neg (fun e => h e.symm)]
theorem rd_bump (L : List Int) (x t : Int) (j : Nat) (hj : j < L.length) : rd (bump L x t) (j : Int) = rd L (j : Int) + if x ≠ -10 ∧ j = slot x then t else 0 := by
 unfold bump
 by_cases hx : x = -10
 ·rw [if_pos hx, if_neg (fun e => e.1 hx)]; omega
 ·rw [if_neg hx, rd_set L _ j _ hj]
  by_cases h : j = slot x
  ·rw [if_pos h, if_pos ⟨hx, h⟩, h]
  ·rw [if_neg h, if_neg (fun e => h e.2)]; omega
theorem rd_zs (n j : Nat) : rd (zs n) (j : Int) = 0 := by
 rcases Nat.lt_or_ge j n with h | h
 ·rw [rd_get (zs n) j (by rw [zs_length]; exact h)]; simp only [zs, List.getElem_replicate]
 ·unfold rd zs; simp only [List.getD_eq_getElem?_getD, Int.toNat_natCast]; rw [List.getElem?_eq_none (by simpa using h)]; rfl
def pile (L h : List Int) (t : Int) : Nat → List Int
 | 0 => L
 | i + 1 => bump (pile L h t i) (rd h (i : Int)) t
theorem pile_length (L h : List Int) (t : Int) : ∀ i, (pile L h t i).length = L.length
 | 0 => rfl
 | i + 1 => by rw [pile, bump_length, pile_length L h t i]
theorem pile_one (L h : List Int) (a b : Int) (i : Nat) (hb : ∀ j : Nat, j < L.length → a ≤ rd L (j : Int) ∧ rd L (j : Int) ≤ b) : ∀ j : Nat, j < L.length → a ≤ rd (pile L h 1 i) (j : Int) ∧ rd (pile L h 1 i) (j : Int) ≤ b + i := by
 induction i with
 | zero => intro j hj; have := hb j hj; simp only [pile]; omega
 | succ i ih =>
  intro j hj
  have := ih j hj
  rw [pile, rd_bump _ _ _ j (by rw [pile_length]; exact hj)]
  split <;> omega
theorem pile_small (h : List Int) (i : Nat) (j : Nat) (hj : j < 44) : 0 ≤ rd (pile (zs 44) h 1 i) (j : Int) ∧ rd (pile (zs 44) h 1 i) (j : Int) ≤ i := by
 have := pile_one (zs 44) h 0 0 i (fun j hj => by rw [rd_zs]; omega) j (by rw [zs_length]; exact hj)
 omega
theorem bump_take (L : List Int) (x t : Int) (hL : L.length = 44) (hx : NumH x) : (bump L x t).take 40 = if 0 ≤ x then (L.take 40).set x.toNat (rd (L.take 40) x + t) else L.take 40 := by
 unfold bump
 by_cases h0 : 0 ≤ x
 ·have hx9 : x ≤ 39 := by rcases hx with h | h | h <;> omega
  rw [if_neg (by omega), if_pos h0, slot_flag h0, List.take_set]
  have : rd (L.take 40) x = rd L (x.toNat : Nat) := by
   have h := rd_take L x.toNat 40 (by omega) (by omega)
   rwa [Int.toNat_of_nonneg h0] at h ⊢
  rw [this]
 ·rw [if_neg h0]
  split
  ·rfl
  ·rw [List.take_set, slot_sub (by omega), List.set_eq_of_length_le (by simp; omega)]
theorem bump_drop (L : List Int) (x t : Int) (hL : L.length = 44) (hx : NumH x) : (bump L x t).drop 40 = if x < 0 ∧ x ≠ -10 then (L.drop 40).set (-x - 1).toNat (rd (L.drop 40) (-x - 1) + t) else L.drop 40 := by
 unfold bump
 by_cases h0 : x < 0 ∧ x ≠ -10
 ·have hx9 : -4 ≤ x := by rcases hx with h | h | h <;> omega
  rw [if_neg h0.2, if_pos h0, slot_sub h0.1, List.drop_set, if_neg (by omega)]
  have : rd (L.drop 40) (-x - 1) = rd L ((40 + (-x - 1).toNat : Nat) : Int) := by
   have h := rd_drop L (-x - 1).toNat 40 (by omega)
   rwa [Int.toNat_of_nonneg (by omega)] at h
  rw [this, show 40 + (-x - 1).toNat - 40 = (-x - 1).toNat by omega]
 ·rw [if_neg h0]
  split
  ·rfl
  ·have h1 : 0 ≤ x := by omega
   have hx9 : x ≤ 39 := by rcases hx with h | h | h <;> omega
   rw [List.drop_set, if_pos (by rw [slot_flag h1]; omega)]
theorem i64w {x : Int} (h0 : -9223372036854775808 ≤ x) (h1 : x ≤ 9223372036854775807) : IntKind.i64.wrap x = x := by
 unfold IntKind.wrap
 simp only [IntKind.signed, IntKind.bits]
 simp
 omega
set_option maxHeartbeats 4000000 in
set_option maxRecDepth 100000 in
theorem add_calls (g : Nat) (L : List Int) (x t : Int) (w : World) (h0 : w.heap[g]? = some (.cells (vals .i64 L) 89 (0, 0))) (hl : L.length = 44) (hx : NumH x) (hb : ∀ j : Nat, j < 44 → -1000000000 ≤ rd L (j : Int) ∧ rd L (j : Int) ≤ 1000000000) (ht : -1000000000 ≤ t ∧ t ≤ 1000000000) :
  Calls Tryd.prog 106 #[.pointer (some ⟨g, 0, none⟩), .int .i8 x, .int .i64 t] w fun e w' => e = .returned (.tuple #[]) ∧ Fr1 g (vals .i64 (bump L x t)) 89 w w' := by
 have hm := Mem.given h0
 clear h0
 by_cases hx0 : 0 ≤ x
 ·have hx9 : x < 40 := by rcases hx with h | h | h <;> omega
  have hv := hm.get (n := 0) rfl x.toNat (by omega)
  have HB := Aside0.mk (show bump L x t = L.set x.toNat (rd L (x.toNat : Nat) + t) by unfold bump; rw [if_neg (by omega), slot_flag hx0])
  have h1 := hb x.toNat (by omega)
  generalize rd L (x.toNat : Nat) = y at *
  have HW := Aside0.mk (i64w (x := y + t) (by omega) (by omega))
  clear hx hb
  go_enter Tryd.func106, Tryd.ntmps106
  go_wp2_with (first | fail | ((with_reducible refine gt_field 89 0 ?_); refine st_field rfl 89 _ 0 rfl rfl field89_0 ?_) | ((with_reducible refine gt_elem 86 ?_); refine st_elem rfl 86 _ _ rfl rfl rfl arr86 (by first | omega | assumption | (simp only [lens]; first | omega | assumption) | (simp [lens]; done) | (simp [lens]; omega)) (by first | omega | assumption | (simp only [lens]; first | omega | assumption) | (simp [lens]; done) | (simp [lens]; omega)) ?_) | ((with_reducible refine gt_load 3 ?_); (first | (refine st_get rfl 3 _ rfl hm rfl 0 rfl one3 (by first | omega | assumption | (simp only [lens]; first | omega | assumption) | (simp [lens]; done) | (simp [lens]; omega)) ?_) | (refine st_get rfl 3 _ rfl hm rfl 1 rfl one3 (by first | omega | assumption | (simp only [lens]; first | omega | assumption) | (simp [lens]; done) | (simp [lens]; omega)) ?_))) | ((with_reducible refine gt_store 3 ?_); (first | (refine st_set rfl 3 _ _ rfl hm rfl rfl 0 rfl one3 (by first | omega | assumption | (simp only [lens]; first | omega | assumption) | (simp [lens]; done) | (simp [lens]; omega)) ?_) | (refine st_set rfl 3 _ _ rfl hm rfl rfl 1 rfl one3 (by first | omega | assumption | (simp only [lens]; first | omega | assumption) | (simp [lens]; done) | (simp [lens]; omega)) ?_)); clear hm; intro ws hm; simp only [List.set_cons_zero, List.set_cons_succ] at hm) | ((with_reducible refine gt_field 89 1 ?_); refine st_field rfl 89 _ 1 rfl rfl field89_1 ?_) | ((with_reducible refine gt_elem 87 ?_); refine st_elem rfl 87 _ _ rfl rfl rfl arr87 (by first | omega | assumption | (simp only [lens]; first | omega | assumption) | (simp [lens]; done) | (simp [lens]; omega)) (by first | omega | assumption | (simp only [lens]; first | omega | assumption) | (simp [lens]; done) | (simp [lens]; omega)) ?_))
  go_still_tail 11, (by kernel_rfl)
  replace hm := hm.drawn (w.drawn + 1)
  go_wp2_with (first | fail | ((with_reducible refine gt_field 89 0 ?_); refine st_field rfl 89 _ 0 rfl rfl field89_0 ?_) | ((with_reducible refine gt_elem 86 ?_); refine st_elem rfl 86 _ _ rfl rfl rfl arr86 (by first | omega | assumption | (simp only [lens]; first | omega | assumption) | (simp [lens]; done) | (simp [lens]; omega)) (by first | omega | assumption | (simp only [lens]; first | omega | assumption) | (simp [lens]; done) | (simp [lens]; omega)) ?_) | ((with_reducible refine gt_load 3 ?_); (first | (refine st_get rfl 3 _ rfl hm rfl 0 rfl one3 (by first | omega | assumption | (simp only [lens]; first | omega | assumption) | (simp [lens]; done) | (simp [lens]; omega)) ?_) | (refine st_get rfl 3 _ rfl hm rfl 1 rfl one3 (by first | omega | assumption | (simp only [lens]; first | omega | assumption) | (simp [lens]; done) | (simp [lens]; omega)) ?_))) | ((with_reducible refine gt_store 3 ?_); (first | (refine st_set rfl 3 _ _ rfl hm rfl rfl 0 rfl one3 (by first | omega | assumption | (simp only [lens]; first | omega | assumption) | (simp [lens]; done) | (simp [lens]; omega)) ?_) | (refine st_set rfl 3 _ _ rfl hm rfl rfl 1 rfl one3 (by first | omega | assumption | (simp only [lens]; first | omega | assumption) | (simp [lens]; done) | (simp [lens]; omega)) ?_)); clear hm; intro ws hm; simp only [List.set_cons_zero, List.set_cons_succ] at hm) | ((with_reducible refine gt_field 89 1 ?_); refine st_field rfl 89 _ 1 rfl rfl field89_1 ?_) | ((with_reducible refine gt_elem 87 ?_); refine st_elem rfl 87 _ _ rfl rfl rfl arr87 (by first | omega | assumption | (simp only [lens]; first | omega | assumption) | (simp [lens]; done) | (simp [lens]; omega)) (by first | omega | assumption | (simp only [lens]; first | omega | assumption) | (simp [lens]; done) | (simp [lens]; omega)) ?_))
  refine bodyPost_end (results_none rfl _ _ _) rfl ?_
  refine ⟨rfl, ?_⟩
  rw [HW.out] at hm
  rw [HB.out]
  exact hm.gives (M := []) rfl
 ·by_cases hx1 : x = -10
  ·have HB := Aside0.mk (show bump L x t = L by unfold bump; rw [if_pos hx1])
   subst hx1
   clear hx0 hx hb
   go_enter Tryd.func106, Tryd.ntmps106
   go_wp2_with (first | fail | ((with_reducible refine gt_field 89 0 ?_); refine st_field rfl 89 _ 0 rfl rfl field89_0 ?_) | ((with_reducible refine gt_elem 86 ?_); refine st_elem rfl 86 _ _ rfl rfl rfl arr86 (by first | omega | assumption | (simp only [lens]; first | omega | assumption) | (simp [lens]; done) | (simp [lens]; omega)) (by first | omega | assumption | (simp only [lens]; first | omega | assumption) | (simp [lens]; done) | (simp [lens]; omega)) ?_) | ((with_reducible refine gt_load 3 ?_); (first | (refine st_get rfl 3 _ rfl hm rfl 0 rfl one3 (by first | omega | assumption | (simp only [lens]; first | omega | assumption) | (simp [lens]; done) | (simp [lens]; omega)) ?_) | (refine st_get rfl 3 _ rfl hm rfl 1 rfl one3 (by first | omega | assumption | (simp only [lens]; first | omega | assumption) | (simp [lens]; done) | (simp [lens]; omega)) ?_))) | ((with_reducible refine gt_store 3 ?_); (first | (refine st_set rfl 3 _ _ rfl hm rfl rfl 0 rfl one3 (by first | omega | assumption | (simp only [lens]; first | omega | assumption) | (simp [lens]; done) | (simp [lens]; omega)) ?_) | (refine st_set rfl 3 _ _ rfl hm rfl rfl 1 rfl one3 (by first | omega | assumption | (simp only [lens]; first | omega | assumption) | (simp [lens]; done) | (simp [lens]; omega)) ?_)); clear hm; intro ws hm; simp only [List.set_cons_zero, List.set_cons_succ] at hm) | ((with_reducible refine gt_field 89 1 ?_); refine st_field rfl 89 _ 1 rfl rfl field89_1 ?_) | ((with_reducible refine gt_elem 87 ?_); refine st_elem rfl 87 _ _ rfl rfl rfl arr87 (by first | omega | assumption | (simp only [lens]; first | omega | assumption) | (simp [lens]; done) | (simp [lens]; omega)) (by first | omega | assumption | (simp only [lens]; first | omega | assumption) | (simp [lens]; done) | (simp [lens]; omega)) ?_))
   refine bodyPost_end (results_none rfl _ _ _) rfl ?_
   refine ⟨rfl, ?_⟩
   rw [HB.out]
   exact hm.gives (M := []) rfl
  ·have hx9 : x = -4 ∨ x = -3 ∨ x = -2 ∨ x = -1 := by rcases hx with h | h | h <;> omega
   have hv := hm.get (n := 0) rfl (slot x) (by have := slot_lt hx hx1; omega)
   have HB := Aside0.mk (show bump L x t = L.set (slot x) (rd L (slot x : Nat) + t) by unfold bump; rw [if_neg hx1])
   have h1 := hb (slot x) (slot_lt hx hx1)
   generalize rd L (slot x : Nat) = y at *
   have HW := Aside0.mk (i64w (x := y + t) (by omega) (by omega))
   clear hb hx hx0 hx1
   rcases hx9 with rfl | rfl | rfl | rfl
   all_goals
    simp only [slot] at hv
    simp at hv
    have k0 : IntKind.i8.wrap 0 = 0 := rfl
    have k1 : IntKind.i8.wrap 1 = 1 := rfl
    have k2 : IntKind.i8.wrap 2 = 2 := rfl
    have k3 : IntKind.i8.wrap 3 = 3 := rfl
    have k4 : IntKind.i8.wrap 4 = 4 := rfl
    go_enter Tryd.func106, Tryd.ntmps106
    go_wp2_with (first | fail | ((with_reducible refine gt_field 89 0 ?_); refine st_field rfl 89 _ 0 rfl rfl field89_0 ?_) | ((with_reducible refine gt_elem 86 ?_); refine st_elem rfl 86 _ _ rfl rfl rfl arr86 (by first | omega | assumption | (simp only [lens]; first | omega | assumption) | (simp [lens]; done) | (simp [lens]; omega)) (by first | omega | assumption | (simp only [lens]; first | omega | assumption) | (simp [lens]; done) | (simp [lens]; omega)) ?_) | ((with_reducible refine gt_load 3 ?_); (first | (refine st_get rfl 3 _ rfl hm rfl 0 rfl one3 (by first | omega | assumption | (simp only [lens]; first | omega | assumption) | (simp [lens]; done) | (simp [lens]; omega)) ?_) | (refine st_get rfl 3 _ rfl hm rfl 1 rfl one3 (by first | omega | assumption | (simp only [lens]; first | omega | assumption) | (simp [lens]; done) | (simp [lens]; omega)) ?_))) | ((with_reducible refine gt_store 3 ?_); (first | (refine st_set rfl 3 _ _ rfl hm rfl rfl 0 rfl one3 (by first | omega | assumption | (simp only [lens]; first | omega | assumption) | (simp [lens]; done) | (simp [lens]; omega)) ?_) | (refine st_set rfl 3 _ _ rfl hm rfl rfl 1 rfl one3 (by first | omega | assumption | (simp only [lens]; first | omega | assumption) | (simp [lens]; done) | (simp [lens]; omega)) ?_)); clear hm; intro ws hm; simp only [List.set_cons_zero, List.set_cons_succ] at hm) | ((with_reducible refine gt_field 89 1 ?_); refine st_field rfl 89 _ 1 rfl rfl field89_1 ?_) | ((with_reducible refine gt_elem 87 ?_); refine st_elem rfl 87 _ _ rfl rfl rfl arr87 (by first | omega | assumption | (simp only [lens]; first | omega | assumption) | (simp [lens]; done) | (simp [lens]; omega)) (by first | omega | assumption | (simp only [lens]; first | omega | assumption) | (simp [lens]; done) | (simp [lens]; omega)) ?_))
    go_still_tail 13, (by kernel_rfl)
    replace hm := hm.drawn (w.drawn + 1)
    go_wp2_with (first | fail | ((with_reducible refine gt_field 89 0 ?_); refine st_field rfl 89 _ 0 rfl rfl field89_0 ?_) | ((with_reducible refine gt_elem 86 ?_); refine st_elem rfl 86 _ _ rfl rfl rfl arr86 (by first | omega | assumption | (simp only [lens]; first | omega | assumption) | (simp [lens]; done) | (simp [lens]; omega)) (by first | omega | assumption | (simp only [lens]; first | omega | assumption) | (simp [lens]; done) | (simp [lens]; omega)) ?_) | ((with_reducible refine gt_load 3 ?_); (first | (refine st_get rfl 3 _ rfl hm rfl 0 rfl one3 (by first | omega | assumption | (simp only [lens]; first | omega | assumption) | (simp [lens]; done) | (simp [lens]; omega)) ?_) | (refine st_get rfl 3 _ rfl hm rfl 1 rfl one3 (by first | omega | assumption | (simp only [lens]; first | omega | assumption) | (simp [lens]; done) | (simp [lens]; omega)) ?_))) | ((with_reducible refine gt_store 3 ?_); (first | (refine st_set rfl 3 _ _ rfl hm rfl rfl 0 rfl one3 (by first | omega | assumption | (simp only [lens]; first | omega | assumption) | (simp [lens]; done) | (simp [lens]; omega)) ?_) | (refine st_set rfl 3 _ _ rfl hm rfl rfl 1 rfl one3 (by first | omega | assumption | (simp only [lens]; first | omega | assumption) | (simp [lens]; done) | (simp [lens]; omega)) ?_)); clear hm; intro ws hm; simp only [List.set_cons_zero, List.set_cons_succ] at hm) | ((with_reducible refine gt_field 89 1 ?_); refine st_field rfl 89 _ 1 rfl rfl field89_1 ?_) | ((with_reducible refine gt_elem 87 ?_); refine st_elem rfl 87 _ _ rfl rfl rfl arr87 (by first | omega | assumption | (simp only [lens]; first | omega | assumption) | (simp [lens]; done) | (simp [lens]; omega)) (by first | omega | assumption | (simp only [lens]; first | omega | assumption) | (simp [lens]; done) | (simp [lens]; omega)) ?_))
    refine bodyPost_end (results_none rfl _ _ _) rfl ?_
    refine ⟨rfl, ?_⟩
    rw [HW.out] at hm
    rw [HB.out]
    simpa [slot] using hm.gives (M := []) rfl
theorem NumH.at {h : List Int} (hh : ∀ x ∈ h, NumH x) (i : Nat) (hi : i < h.length) : NumH (rd h (i : Int)) := by
 rw [rd_get h i hi]; exact hh _ (List.getElem_mem hi)
set_option maxHeartbeats 4000000 in
set_option maxRecDepth 100000 in
theorem l02Flags_calls (A0 : Option Addr) (c0 : Nat) (h : List Int) (w : World) (hr : Kd.C (Kd.int .i8) w A0 h.length h) (hc : h.length ≤ c0) (hh : ∀ x ∈ h, NumH x) (hn : h.length ≤ 1000) :
  Calls Tryd.prog 118 #[.slice A0 h.length c0] w fun e w' => e = .returned (.agg (vals .i64 ((pile (zs 44) h 1 h.length).take 40))) ∧ Below w.heap.size w w' := by
 have hm := Mem.start w
 have HR := Aside0.mk hr
 have HH := Aside0.mk hh
 clear hr hh
 go_enter Tryd.func118, Tryd.ntmps118
 go_wp2_with (first | fail | ((with_reducible refine gt_alloc 2 149 ?_); refine st_alloc rfl 2 rfl 149 rfl hm zero149 ?_; clear hm; intro g2 w2 hm) | ((with_reducible refine gt_build 149 ?_); refine st_zero rfl 149 rfl built149 ?_) | ((with_reducible refine gt_alloc 3 149 ?_); refine st_alloc rfl 3 rfl 149 rfl hm zero149 ?_; clear hm; intro g3 w3 hm) | ((with_reducible refine gt_store 149 ?_); (first | (refine st_full rfl 149 _ _ rfl hm rfl rfl 0 rfl agg149 (by first | omega | assumption | (simp only [lens]; first | omega | assumption) | (simp [lens]; done) | (simp [lens]; omega)) (by first | omega | assumption | (simp only [lens]; first | omega | assumption) | (simp [lens]; done) | (simp [lens]; omega)) ?_) | (refine st_full rfl 149 _ _ rfl hm rfl rfl 1 rfl agg149 (by first | omega | assumption | (simp only [lens]; first | omega | assumption) | (simp [lens]; done) | (simp [lens]; omega)) (by first | omega | assumption | (simp only [lens]; first | omega | assumption) | (simp [lens]; done) | (simp [lens]; omega)) ?_) | (refine st_full rfl 149 _ _ rfl hm rfl rfl 2 rfl agg149 (by first | omega | assumption | (simp only [lens]; first | omega | assumption) | (simp [lens]; done) | (simp [lens]; omega)) (by first | omega | assumption | (simp only [lens]; first | omega | assumption) | (simp [lens]; done) | (simp [lens]; omega)) ?_) | (refine st_full rfl 149 _ _ rfl hm rfl rfl 3 rfl agg149 (by first | omega | assumption | (simp only [lens]; first | omega | assumption) | (simp [lens]; done) | (simp [lens]; omega)) (by first | omega | assumption | (simp only [lens]; first | omega | assumption) | (simp [lens]; done) | (simp [lens]; omega)) ?_) | (refine st_put rfl 149 _ _ rfl hm rfl rfl 0 rfl agg149 (by first | omega | assumption | (simp only [lens]; first | omega | assumption) | (simp [lens]; done) | (simp [lens]; omega)) (by first | omega | assumption | (simp only [lens]; first | omega | assumption) | (simp [lens]; done) | (simp [lens]; omega)) ?_) | (refine st_put rfl 149 _ _ rfl hm rfl rfl 1 rfl agg149 (by first | omega | assumption | (simp only [lens]; first | omega | assumption) | (simp [lens]; done) | (simp [lens]; omega)) (by first | omega | assumption | (simp only [lens]; first | omega | assumption) | (simp [lens]; done) | (simp [lens]; omega)) ?_) | (refine st_put rfl 149 _ _ rfl hm rfl rfl 2 rfl agg149 (by first | omega | assumption | (simp only [lens]; first | omega | assumption) | (simp [lens]; done) | (simp [lens]; omega)) (by first | omega | assumption | (simp only [lens]; first | omega | assumption) | (simp [lens]; done) | (simp [lens]; omega)) ?_) | (refine st_put rfl 149 _ _ rfl hm rfl rfl 3 rfl agg149 (by first | omega | assumption | (simp only [lens]; first | omega | assumption) | (simp [lens]; done) | (simp [lens]; omega)) (by first | omega | assumption | (simp only [lens]; first | omega | assumption) | (simp [lens]; done) | (simp [lens]; omega)) ?_)); clear hm; intro ws hm; simp only [List.set_cons_zero, List.set_cons_succ] at hm) | ((with_reducible refine gt_load 22 ?_); (first | (refine st_get rfl 22 _ rfl hm rfl 0 rfl one22 (by first | omega | assumption | (simp only [lens]; first | omega | assumption) | (simp [lens]; done) | (simp [lens]; omega)) ?_) | (refine st_get rfl 22 _ rfl hm rfl 1 rfl one22 (by first | omega | assumption | (simp only [lens]; first | omega | assumption) | (simp [lens]; done) | (simp [lens]; omega)) ?_) | (refine st_get rfl 22 _ rfl hm rfl 2 rfl one22 (by first | omega | assumption | (simp only [lens]; first | omega | assumption) | (simp [lens]; done) | (simp [lens]; omega)) ?_) | (refine st_get rfl 22 _ rfl hm rfl 3 rfl one22 (by first | omega | assumption | (simp only [lens]; first | omega | assumption) | (simp [lens]; done) | (simp [lens]; omega)) ?_))) | ((with_reducible refine gt_elem 149 ?_); refine st_elem rfl 149 _ _ rfl rfl rfl arr149 (by first | omega | assumption | (simp only [lens]; first | omega | assumption) | (simp [lens]; done) | (simp [lens]; omega)) (by first | omega | assumption | (simp only [lens]; first | omega | assumption) | (simp [lens]; done) | (simp [lens]; omega)) ?_) | ((with_reducible refine gt_load 2 ?_); (first | (refine st_get rfl 2 _ rfl hm rfl 0 rfl one2 (by first | omega | assumption | (simp only [lens]; first | omega | assumption) | (simp [lens]; done) | (simp [lens]; omega)) ?_) | (refine st_get rfl 2 _ rfl hm rfl 1 rfl one2 (by first | omega | assumption | (simp only [lens]; first | omega | assumption) | (simp [lens]; done) | (simp [lens]; omega)) ?_) | (refine st_get rfl 2 _ rfl hm rfl 2 rfl one2 (by first | omega | assumption | (simp only [lens]; first | omega | assumption) | (simp [lens]; done) | (simp [lens]; omega)) ?_) | (refine st_get rfl 2 _ rfl hm rfl 3 rfl one2 (by first | omega | assumption | (simp only [lens]; first | omega | assumption) | (simp [lens]; done) | (simp [lens]; omega)) ?_))) | ((with_reducible refine gt_store 2 ?_); (first | (refine st_set rfl 2 _ _ rfl hm rfl rfl 0 rfl one2 (by first | omega | assumption | (simp only [lens]; first | omega | assumption) | (simp [lens]; done) | (simp [lens]; omega)) ?_) | (refine st_set rfl 2 _ _ rfl hm rfl rfl 1 rfl one2 (by first | omega | assumption | (simp only [lens]; first | omega | assumption) | (simp [lens]; done) | (simp [lens]; omega)) ?_) | (refine st_set rfl 2 _ _ rfl hm rfl rfl 2 rfl one2 (by first | omega | assumption | (simp only [lens]; first | omega | assumption) | (simp [lens]; done) | (simp [lens]; omega)) ?_) | (refine st_set rfl 2 _ _ rfl hm rfl rfl 3 rfl one2 (by first | omega | assumption | (simp only [lens]; first | omega | assumption) | (simp [lens]; done) | (simp [lens]; omega)) ?_)); clear hm; intro ws hm; simp only [List.set_cons_zero, List.set_cons_succ] at hm) | ((with_reducible refine gt_load 149 ?_); (first | (refine st_load rfl 149 _ rfl hm rfl 0 rfl agg149 (by first | omega | assumption | (simp only [lens]; first | omega | assumption) | (simp [lens]; done) | (simp [lens]; omega)) ?_) | (refine st_load rfl 149 _ rfl hm rfl 1 rfl agg149 (by first | omega | assumption | (simp only [lens]; first | omega | assumption) | (simp [lens]; done) | (simp [lens]; omega)) ?_) | (refine st_load rfl 149 _ rfl hm rfl 2 rfl agg149 (by first | omega | assumption | (simp only [lens]; first | omega | assumption) | (simp [lens]; done) | (simp [lens]; omega)) ?_) | (refine st_load rfl 149 _ rfl hm rfl 3 rfl agg149 (by first | omega | assumption | (simp only [lens]; first | omega | assumption) | (simp [lens]; done) | (simp [lens]; omega)) ?_) | (refine st_part rfl 149 _ rfl hm rfl 0 rfl agg149 (by first | omega | assumption | (simp only [lens]; first | omega | assumption) | (simp [lens]; done) | (simp [lens]; omega)) ?_) | (refine st_part rfl 149 _ rfl hm rfl 1 rfl agg149 (by first | omega | assumption | (simp only [lens]; first | omega | assumption) | (simp [lens]; done) | (simp [lens]; omega)) ?_) | (refine st_part rfl 149 _ rfl hm rfl 2 rfl agg149 (by first | omega | assumption | (simp only [lens]; first | omega | assumption) | (simp [lens]; done) | (simp [lens]; omega)) ?_) | (refine st_part rfl 149 _ rfl hm rfl 3 rfl agg149 (by first | omega | assumption | (simp only [lens]; first | omega | assumption) | (simp [lens]; done) | (simp [lens]; omega)) ?_))))
 go_loopw [4] (fun v4 wr => ∃ i : Nat, i ≤ h.length ∧ v4 = .int .i64 i ∧ Mem w wr [⟨g3, vals .i64 ((pile (zs 44) h 1 i).take 40), 149, true⟩, ⟨g2, vals .i64 (zs 40), 149, true⟩]) (fun v4 _ => h.length - (intOf v4).toNat)
 case atStart => exact ⟨0, by omega, rfl, hm⟩
 case round =>
  obtain ⟨i, hi, rfl, hm⟩ := hrel
  have hl2 := (pile_length (zs 44) h 1 i).trans zs_length
  by_cases hlt : i < h.length
  ·obtain ⟨ad, rfl, hc1⟩ := Kd.at_int (Kd.C_below HR.out (hm.done rfl)) (i : Int) (by omega) (by omega)
   rw [Int.toNat_natCast] at hc1
   have hx := NumH.at HH.out i hlt
   have HS := Aside0.mk (show (pile (zs 44) h 1 (i + 1)).take 40 = _ from bump_take (pile (zs 44) h 1 i) (rd h (i : Int)) 1 hl2 hx)
   have HP := Aside0.mk (fun j hj => pile_small h i j hj)
   have hl3 : ((pile (zs 44) h 1 i).take 40).length = 40 := by rw [List.length_take]; omega
   have HQ : Aside0 (∀ j : Nat, j < 40 → 0 ≤ rd ((pile (zs 44) h 1 i).take 40) (j : Int) ∧ rd ((pile (zs 44) h 1 i).take 40) (j : Int) ≤ i) := ⟨fun j hj => by
    rw [rd_take _ j 40 hj (by omega)]; exact pile_small h i j (by omega)⟩
   generalize rd h (i : Int) = x at *
   generalize (pile (zs 44) h 1 i).take 40 = X at *
   by_cases hx0 : 0 ≤ x
   ·have hx9 : x < 40 := by rcases hx with h | h | h <;> omega
    have HW := Aside0.mk (show wrap64 (rd X x + 1) = rd X x + 1 by
     have := HQ.out x.toNat (by omega)
     rw [Int.toNat_of_nonneg hx0] at this
     exact w64 (by omega) (by omega))
    have HS2 := Aside0.mk (HS.out.trans (if_pos hx0))
    clear HS HP HQ hx
    go_wp2_with (first | fail | ((with_reducible refine gt_alloc 2 149 ?_); refine st_alloc rfl 2 rfl 149 rfl hm zero149 ?_; clear hm; intro g2 w2 hm) | ((with_reducible refine gt_build 149 ?_); refine st_zero rfl 149 rfl built149 ?_) | ((with_reducible refine gt_alloc 3 149 ?_); refine st_alloc rfl 3 rfl 149 rfl hm zero149 ?_; clear hm; intro g3 w3 hm) | ((with_reducible refine gt_store 149 ?_); (first | (refine st_full rfl 149 _ _ rfl hm rfl rfl 0 rfl agg149 (by first | omega | assumption | (simp only [lens]; first | omega | assumption) | (simp [lens]; done) | (simp [lens]; omega)) (by first | omega | assumption | (simp only [lens]; first | omega | assumption) | (simp [lens]; done) | (simp [lens]; omega)) ?_) | (refine st_full rfl 149 _ _ rfl hm rfl rfl 1 rfl agg149 (by first | omega | assumption | (simp only [lens]; first | omega | assumption) | (simp [lens]; done) | (simp [lens]; omega)) (by first | omega | assumption | (simp only [lens]; first | omega | assumption) | (simp [lens]; done) | (simp [lens]; omega)) ?_) | (refine st_full rfl 149 _ _ rfl hm rfl rfl 2 rfl agg149 (by first | omega | assumption | (simp only [lens]; first | omega | assumption) | (simp [lens]; done) | (simp [lens]; omega)) (by first | omega | assumption | (simp only [lens]; first | omega | assumption) | (simp [lens]; done) | (simp [lens]; omega)) ?_) | (refine st_full rfl 149 _ _ rfl hm rfl rfl 3 rfl agg149 (by first | omega | assumption | (simp only [lens]; first | omega | assumption) | (simp [lens]; done) | (simp [lens]; omega)) (by first | omega | assumption | (simp only [lens]; first | omega | assumption) | (simp [lens]; done) | (simp [lens]; omega)) ?_) | (refine st_put rfl 149 _ _ rfl hm rfl rfl 0 rfl agg149 (by first | omega | assumption | (simp only [lens]; first | omega | assumption) | (simp [lens]; done) | (simp [lens]; omega)) (by first | omega | assumption | (simp only [lens]; first | omega | assumption) | (simp [lens]; done) | (simp [lens]; omega)) ?_) | (refine st_put rfl 149 _ _ rfl hm rfl rfl 1 rfl agg149 (by first | omega | assumption | (simp only [lens]; first | omega | assumption) | (simp [lens]; done) | (simp [lens]; omega)) (by first | omega | assumption | (simp only [lens]; first | omega | assumption) | (simp [lens]; done) | (simp [lens]; omega)) ?_) | (refine st_put rfl 149 _ _ rfl hm rfl rfl 2 rfl agg149 (by first | omega | assumption | (simp only [lens]; first | omega | assumption) | (simp [lens]; done) | (simp [lens]; omega)) (by first | omega | assumption | (simp only [lens]; first | omega | assumption) | (simp [lens]; done) | (simp [lens]; omega)) ?_) | (refine st_put rfl 149 _ _ rfl hm rfl rfl 3 rfl agg149 (by first | omega | assumption | (simp only [lens]; first | omega | assumption) | (simp [lens]; done) | (simp [lens]; omega)) (by first | omega | assumption | (simp only [lens]; first | omega | assumption) | (simp [lens]; done) | (simp [lens]; omega)) ?_)); clear hm; intro ws hm; simp only [List.set_cons_zero, List.set_cons_succ] at hm) | ((with_reducible refine gt_load 22 ?_); (first | (refine st_get rfl 22 _ rfl hm rfl 0 rfl one22 (by first | omega | assumption | (simp only [lens]; first | omega | assumption) | (simp [lens]; done) | (simp [lens]; omega)) ?_) | (refine st_get rfl 22 _ rfl hm rfl 1 rfl one22 (by first | omega | assumption | (simp only [lens]; first | omega | assumption) | (simp [lens]; done) | (simp [lens]; omega)) ?_) | (refine st_get rfl 22 _ rfl hm rfl 2 rfl one22 (by first | omega | assumption | (simp only [lens]; first | omega | assumption) | (simp [lens]; done) | (simp [lens]; omega)) ?_) | (refine st_get rfl 22 _ rfl hm rfl 3 rfl one22 (by first | omega | assumption | (simp only [lens]; first | omega | assumption) | (simp [lens]; done) | (simp [lens]; omega)) ?_))) | ((with_reducible refine gt_elem 149 ?_); refine st_elem rfl 149 _ _ rfl rfl rfl arr149 (by first | omega | assumption | (simp only [lens]; first | omega | assumption) | (simp [lens]; done) | (simp [lens]; omega)) (by first | omega | assumption | (simp only [lens]; first | omega | assumption) | (simp [lens]; done) | (simp [lens]; omega)) ?_) | ((with_reducible refine gt_load 2 ?_); (first | (refine st_get rfl 2 _ rfl hm rfl 0 rfl one2 (by first | omega | assumption | (simp only [lens]; first | omega | assumption) | (simp [lens]; done) | (simp [lens]; omega)) ?_) | (refine st_get rfl 2 _ rfl hm rfl 1 rfl one2 (by first | omega | assumption | (simp only [lens]; first | omega | assumption) | (simp [lens]; done) | (simp [lens]; omega)) ?_) | (refine st_get rfl 2 _ rfl hm rfl 2 rfl one2 (by first | omega | assumption | (simp only [lens]; first | omega | assumption) | (simp [lens]; done) | (simp [lens]; omega)) ?_) | (refine st_get rfl 2 _ rfl hm rfl 3 rfl one2 (by first | omega | assumption | (simp only [lens]; first | omega | assumption) | (simp [lens]; done) | (simp [lens]; omega)) ?_))) | ((with_reducible refine gt_store 2 ?_); (first | (refine st_set rfl 2 _ _ rfl hm rfl rfl 0 rfl one2 (by first | omega | assumption | (simp only [lens]; first | omega | assumption) | (simp [lens]; done) | (simp [lens]; omega)) ?_) | (refine st_set rfl 2 _ _ rfl hm rfl rfl 1 rfl one2 (by first | omega | assumption | (simp only [lens]; first | omega | assumption) | (simp [lens]; done) | (simp [lens]; omega)) ?_) | (refine st_set rfl 2 _ _ rfl hm rfl rfl 2 rfl one2 (by first | omega | assumption | (simp only [lens]; first | omega | assumption) | (simp [lens]; done) | (simp [lens]; omega)) ?_) | (refine st_set rfl 2 _ _ rfl hm rfl rfl 3 rfl one2 (by first | omega | assumption | (simp only [lens]; first | omega | assumption) | (simp [lens]; done) | (simp [lens]; omega)) ?_)); clear hm; intro ws hm; simp only [List.set_cons_zero, List.set_cons_succ] at hm) | ((with_reducible refine gt_load 149 ?_); (first | (refine st_load rfl 149 _ rfl hm rfl 0 rfl agg149 (by first | omega | assumption | (simp only [lens]; first | omega | assumption) | (simp [lens]; done) | (simp [lens]; omega)) ?_) | (refine st_load rfl 149 _ rfl hm rfl 1 rfl agg149 (by first | omega | assumption | (simp only [lens]; first | omega | assumption) | (simp [lens]; done) | (simp [lens]; omega)) ?_) | (refine st_load rfl 149 _ rfl hm rfl 2 rfl agg149 (by first | omega | assumption | (simp only [lens]; first | omega | assumption) | (simp [lens]; done) | (simp [lens]; omega)) ?_) | (refine st_load rfl 149 _ rfl hm rfl 3 rfl agg149 (by first | omega | assumption | (simp only [lens]; first | omega | assumption) | (simp [lens]; done) | (simp [lens]; omega)) ?_) | (refine st_part rfl 149 _ rfl hm rfl 0 rfl agg149 (by first | omega | assumption | (simp only [lens]; first | omega | assumption) | (simp [lens]; done) | (simp [lens]; omega)) ?_) | (refine st_part rfl 149 _ rfl hm rfl 1 rfl agg149 (by first | omega | assumption | (simp only [lens]; first | omega | assumption) | (simp [lens]; done) | (simp [lens]; omega)) ?_) | (refine st_part rfl 149 _ rfl hm rfl 2 rfl agg149 (by first | omega | assumption | (simp only [lens]; first | omega | assumption) | (simp [lens]; done) | (simp [lens]; omega)) ?_) | (refine st_part rfl 149 _ rfl hm rfl 3 rfl agg149 (by first | omega | assumption | (simp only [lens]; first | omega | assumption) | (simp [lens]; done) | (simp [lens]; omega)) ?_))))
    go_roundw
    case rel => exact ⟨i + 1, by omega, by go_num, by rw [HS2.out, ← HW.out]; simpa [Int.max_eq_left hx0] using hm⟩
    case measure => simp [intOf]; omega
   ·have HS2 := Aside0.mk (HS.out.trans (if_neg hx0))
    clear HS HP HQ hx
    go_wp2_with (first | fail | ((with_reducible refine gt_alloc 2 149 ?_); refine st_alloc rfl 2 rfl 149 rfl hm zero149 ?_; clear hm; intro g2 w2 hm) | ((with_reducible refine gt_build 149 ?_); refine st_zero rfl 149 rfl built149 ?_) | ((with_reducible refine gt_alloc 3 149 ?_); refine st_alloc rfl 3 rfl 149 rfl hm zero149 ?_; clear hm; intro g3 w3 hm) | ((with_reducible refine gt_store 149 ?_); (first | (refine st_full rfl 149 _ _ rfl hm rfl rfl 0 rfl agg149 (by first | omega | assumption | (simp only [lens]; first | omega | assumption) | (simp [lens]; done) | (simp [lens]; omega)) (by first | omega | assumption | (simp only [lens]; first | omega | assumption) | (simp [lens]; done) | (simp [lens]; omega)) ?_) | (refine st_full rfl 149 _ _ rfl hm rfl rfl 1 rfl agg149 (by first | omega | assumption | (simp only [lens]; first | omega | assumption) | (simp [lens]; done) | (simp [lens]; omega)) (by first | omega | assumption | (simp only [lens]; first | omega | assumption) | (simp [lens]; done) | (simp [lens]; omega)) ?_) | (refine st_full rfl 149 _ _ rfl hm rfl rfl 2 rfl agg149 (by first | omega | assumption | (simp only [lens]; first | omega | assumption) | (simp [lens]; done) | (simp [lens]; omega)) (by first | omega | assumption | (simp only [lens]; first | omega | assumption) | (simp [lens]; done) | (simp [lens]; omega)) ?_) | (refine st_full rfl 149 _ _ rfl hm rfl rfl 3 rfl agg149 (by first | omega | assumption | (simp only [lens]; first | omega | assumption) | (simp [lens]; done) | (simp [lens]; omega)) (by first | omega | assumption | (simp only [lens]; first | omega | assumption) | (simp [lens]; done) | (simp [lens]; omega)) ?_) | (refine st_put rfl 149 _ _ rfl hm rfl rfl 0 rfl agg149 (by first | omega | assumption | (simp only [lens]; first | omega | assumption) | (simp [lens]; done) | (simp [lens]; omega)) (by first | omega | assumption | (simp only [lens]; first | omega | assumption) | (simp [lens]; done) | (simp [lens]; omega)) ?_) | (refine st_put rfl 149 _ _ rfl hm rfl rfl 1 rfl agg149 (by first | omega | assumption | (simp only [lens]; first | omega | assumption) | (simp [lens]; done) | (simp [lens]; omega)) (by first | omega | assumption | (simp only [lens]; first | omega | assumption) | (simp [lens]; done) | (simp [lens]; omega)) ?_) | (refine st_put rfl 149 _ _ rfl hm rfl rfl 2 rfl agg149 (by first | omega | assumption | (simp only [lens]; first | omega | assumption) | (simp [lens]; done) | (simp [lens]; omega)) (by first | omega | assumption | (simp only [lens]; first | omega | assumption) | (simp [lens]; done) | (simp [lens]; omega)) ?_) | (refine st_put rfl 149 _ _ rfl hm rfl rfl 3 rfl agg149 (by first | omega | assumption | (simp only [lens]; first | omega | assumption) | (simp [lens]; done) | (simp [lens]; omega)) (by first | omega | assumption | (simp only [lens]; first | omega | assumption) | (simp [lens]; done) | (simp [lens]; omega)) ?_)); clear hm; intro ws hm; simp only [List.set_cons_zero, List.set_cons_succ] at hm) | ((with_reducible refine gt_load 22 ?_); (first | (refine st_get rfl 22 _ rfl hm rfl 0 rfl one22 (by first | omega | assumption | (simp only [lens]; first | omega | assumption) | (simp [lens]; done) | (simp [lens]; omega)) ?_) | (refine st_get rfl 22 _ rfl hm rfl 1 rfl one22 (by first | omega | assumption | (simp only [lens]; first | omega | assumption) | (simp [lens]; done) | (simp [lens]; omega)) ?_) | (refine st_get rfl 22 _ rfl hm rfl 2 rfl one22 (by first | omega | assumption | (simp only [lens]; first | omega | assumption) | (simp [lens]; done) | (simp [lens]; omega)) ?_) | (refine st_get rfl 22 _ rfl hm rfl 3 rfl one22 (by first | omega | assumption | (simp only [lens]; first | omega | assumption) | (simp [lens]; done) | (simp [lens]; omega)) ?_))) | ((with_reducible refine gt_elem 149 ?_); refine st_elem rfl 149 _ _ rfl rfl rfl arr149 (by first | omega | assumption | (simp only [lens]; first | omega | assumption) | (simp [lens]; done) | (simp [lens]; omega)) (by first | omega | assumption | (simp only [lens]; first | omega | assumption) | (simp [lens]; done) | (simp [lens]; omega)) ?_) | ((with_reducible refine gt_load 2 ?_); (first | (refine st_get rfl 2 _ rfl hm rfl 0 rfl one2 (by first | omega | assumption | (simp only [lens]; first | omega | assumption) | (simp [lens]; done) | (simp [lens]; omega)) ?_) | (refine st_get rfl 2 _ rfl hm rfl 1 rfl one2 (by first | omega | assumption | (simp only [lens]; first | omega | assumption) | (simp [lens]; done) | (simp [lens]; omega)) ?_) | (refine st_get rfl 2 _ rfl hm rfl 2 rfl one2 (by first | omega | assumption | (simp only [lens]; first | omega | assumption) | (simp [lens]; done) | (simp [lens]; omega)) ?_) | (refine st_get rfl 2 _ rfl hm rfl 3 rfl one2 (by first | omega | assumption | (simp only [lens]; first | omega | assumption) | (simp [lens]; done) | (simp [lens]; omega)) ?_))) | ((with_reducible refine gt_store 2 ?_); (first | (refine st_set rfl 2 _ _ rfl hm rfl rfl 0 rfl one2 (by first | omega | assumption | (simp only [lens]; first | omega | assumption) | (simp [lens]; done) | (simp [lens]; omega)) ?_) | (refine st_set rfl 2 _ _ rfl hm rfl rfl 1 rfl one2 (by first | omega | assumption | (simp only [lens]; first | omega | assumption) | (simp [lens]; done) | (simp [lens]; omega)) ?_) | (refine st_set rfl 2 _ _ rfl hm rfl rfl 2 rfl one2 (by first | omega | assumption | (simp only [lens]; first | omega | assumption) | (simp [lens]; done) | (simp [lens]; omega)) ?_) | (refine st_set rfl 2 _ _ rfl hm rfl rfl 3 rfl one2 (by first | omega | assumption | (simp only [lens]; first | omega | assumption) | (simp [lens]; done) | (simp [lens]; omega)) ?_)); clear hm; intro ws hm; simp only [List.set_cons_zero, List.set_cons_succ] at hm) | ((with_reducible refine gt_load 149 ?_); (first | (refine st_load rfl 149 _ rfl hm rfl 0 rfl agg149 (by first | omega | assumption | (simp only [lens]; first | omega | assumption) | (simp [lens]; done) | (simp [lens]; omega)) ?_) | (refine st_load rfl 149 _ rfl hm rfl 1 rfl agg149 (by first | omega | assumption | (simp only [lens]; first | omega | assumption) | (simp [lens]; done) | (simp [lens]; omega)) ?_) | (refine st_load rfl 149 _ rfl hm rfl 2 rfl agg149 (by first | omega | assumption | (simp only [lens]; first | omega | assumption) | (simp [lens]; done) | (simp [lens]; omega)) ?_) | (refine st_load rfl 149 _ rfl hm rfl 3 rfl agg149 (by first | omega | assumption | (simp only [lens]; first | omega | assumption) | (simp [lens]; done) | (simp [lens]; omega)) ?_) | (refine st_part rfl 149 _ rfl hm rfl 0 rfl agg149 (by first | omega | assumption | (simp only [lens]; first | omega | assumption) | (simp [lens]; done) | (simp [lens]; omega)) ?_) | (refine st_part rfl 149 _ rfl hm rfl 1 rfl agg149 (by first | omega | assumption | (simp only [lens]; first | omega | assumption) | (simp [lens]; done) | (simp [lens]; omega)) ?_) | (refine st_part rfl 149 _ rfl hm rfl 2 rfl agg149 (by first | omega | assumption | (simp only [lens]; first | omega | assumption) | (simp [lens]; done) | (simp [lens]; omega)) ?_) | (refine st_part rfl 149 _ rfl hm rfl 3 rfl agg149 (by first | omega | assumption | (simp only [lens]; first | omega | assumption) | (simp [lens]; done) | (simp [lens]; omega)) ?_))))
    go_roundw
    case rel => exact ⟨i + 1, by omega, by go_num, by rw [HS2.out]; simpa using hm⟩
    case measure => simp [intOf]; omega
  ·have HI := Aside0.mk (show i = h.length by omega)
   have hl3 : ((pile (zs 44) h 1 i).take 40).length = 40 := by rw [List.length_take]; omega
   generalize hX : (pile (zs 44) h 1 i).take 40 = X at *
   have HX := Aside0.mk hX
   clear hX
   go_wp2_with (first | fail | ((with_reducible refine gt_alloc 2 149 ?_); refine st_alloc rfl 2 rfl 149 rfl hm zero149 ?_; clear hm; intro g2 w2 hm) | ((with_reducible refine gt_build 149 ?_); refine st_zero rfl 149 rfl built149 ?_) | ((with_reducible refine gt_alloc 3 149 ?_); refine st_alloc rfl 3 rfl 149 rfl hm zero149 ?_; clear hm; intro g3 w3 hm) | ((with_reducible refine gt_store 149 ?_); (first | (refine st_full rfl 149 _ _ rfl hm rfl rfl 0 rfl agg149 (by first | omega | assumption | (simp only [lens]; first | omega | assumption) | (simp [lens]; done) | (simp [lens]; omega)) (by first | omega | assumption | (simp only [lens]; first | omega | assumption) | (simp [lens]; done) | (simp [lens]; omega)) ?_) | (refine st_full rfl 149 _ _ rfl hm rfl rfl 1 rfl agg149 (by first | omega | assumption | (simp only [lens]; first | omega | assumption) | (simp [lens]; done) | (simp [lens]; omega)) (by first | omega | assumption | (simp only [lens]; first | omega | assumption) | (simp [lens]; done) | (simp [lens]; omega)) ?_) | (refine st_full rfl 149 _ _ rfl hm rfl rfl 2 rfl agg149 (by first | omega | assumption | (simp only [lens]; first | omega | assumption) | (simp [lens]; done) | (simp [lens]; omega)) (by first | omega | assumption | (simp only [lens]; first | omega | assumption) | (simp [lens]; done) | (simp [lens]; omega)) ?_) | (refine st_full rfl 149 _ _ rfl hm rfl rfl 3 rfl agg149 (by first | omega | assumption | (simp only [lens]; first | omega | assumption) | (simp [lens]; done) | (simp [lens]; omega)) (by first | omega | assumption | (simp only [lens]; first | omega | assumption) | (simp [lens]; done) | (simp [lens]; omega)) ?_) | (refine st_put rfl 149 _ _ rfl hm rfl rfl 0 rfl agg149 (by first | omega | assumption | (simp only [lens]; first | omega | assumption) | (simp [lens]; done) | (simp [lens]; omega)) (by first | omega | assumption | (simp only [lens]; first | omega | assumption) | (simp [lens]; done) | (simp [lens]; omega)) ?_) | (refine st_put rfl 149 _ _ rfl hm rfl rfl 1 rfl agg149 (by first | omega | assumption | (simp only [lens]; first | omega | assumption) | (simp [lens]; done) | (simp [lens]; omega)) (by first | omega | assumption | (simp only [lens]; first | omega | assumption) | (simp [lens]; done) | (simp [lens]; omega)) ?_) | (refine st_put rfl 149 _ _ rfl hm rfl rfl 2 rfl agg149 (by first | omega | assumption | (simp only [lens]; first | omega | assumption) | (simp [lens]; done) | (simp [lens]; omega)) (by first | omega | assumption | (simp only [lens]; first | omega | assumption) | (simp [lens]; done) | (simp [lens]; omega)) ?_) | (refine st_put rfl 149 _ _ rfl hm rfl rfl 3 rfl agg149 (by first | omega | assumption | (simp only [lens]; first | omega | assumption) | (simp [lens]; done) | (simp [lens]; omega)) (by first | omega | assumption | (simp only [lens]; first | omega | assumption) | (simp [lens]; done) | (simp [lens]; omega)) ?_)); clear hm; intro ws hm; simp only [List.set_cons_zero, List.set_cons_succ] at hm) | ((with_reducible refine gt_load 22 ?_); (first | (refine st_get rfl 22 _ rfl hm rfl 0 rfl one22 (by first | omega | assumption | (simp only [lens]; first | omega | assumption) | (simp [lens]; done) | (simp [lens]; omega)) ?_) | (refine st_get rfl 22 _ rfl hm rfl 1 rfl one22 (by first | omega | assumption | (simp only [lens]; first | omega | assumption) | (simp [lens]; done) | (simp [lens]; omega)) ?_) | (refine st_get rfl 22 _ rfl hm rfl 2 rfl one22 (by first | omega | assumption | (simp only [lens]; first | omega | assumption) | (simp [lens]; done) | (simp [lens]; omega)) ?_) | (refine st_get rfl 22 _ rfl hm rfl 3 rfl one22 (by first | omega | assumption | (simp only [lens]; first | omega | assumption) | (simp [lens]; done) | (simp [lens]; omega)) ?_))) | ((with_reducible refine gt_elem 149 ?_); refine st_elem rfl 149 _ _ rfl rfl rfl arr149 (by first | omega | assumption | (simp only [lens]; first | omega | assumption) | (simp [lens]; done) | (simp [lens]; omega)) (by first | omega | assumption | (simp only [lens]; first | omega | assumption) | (simp [lens]; done) | (simp [lens]; omega)) ?_) | ((with_reducible refine gt_load 2 ?_); (first | (refine st_get rfl 2 _ rfl hm rfl 0 rfl one2 (by first | omega | assumption | (simp only [lens]; first | omega | assumption) | (simp [lens]; done) | (simp [lens]; omega)) ?_) | (refine st_get rfl 2 _ rfl hm rfl 1 rfl one2 (by first | omega | assumption | (simp only [lens]; first | omega | assumption) | (simp [lens]; done) | (simp [lens]; omega)) ?_) | (refine st_get rfl 2 _ rfl hm rfl 2 rfl one2 (by first | omega | assumption | (simp only [lens]; first | omega | assumption) | (simp [lens]; done) | (simp [lens]; omega)) ?_) | (refine st_get rfl 2 _ rfl hm rfl 3 rfl one2 (by first | omega | assumption | (simp only [lens]; first | omega | assumption) | (simp [lens]; done) | (simp [lens]; omega)) ?_))) | ((with_reducible refine gt_store 2 ?_); (first | (refine st_set rfl 2 _ _ rfl hm rfl rfl 0 rfl one2 (by first | omega | assumption | (simp only [lens]; first | omega | assumption) | (simp [lens]; done) | (simp [lens]; omega)) ?_) | (refine st_set rfl 2 _ _ rfl hm rfl rfl 1 rfl one2 (by first | omega | assumption | (simp only [lens]; first | omega | assumption) | (simp [lens]; done) | (simp [lens]; omega)) ?_) | (refine st_set rfl 2 _ _ rfl hm rfl rfl 2 rfl one2 (by first | omega | assumption | (simp only [lens]; first | omega | assumption) | (simp [lens]; done) | (simp [lens]; omega)) ?_) | (refine st_set rfl 2 _ _ rfl hm rfl rfl 3 rfl one2 (by first | omega | assumption | (simp only [lens]; first | omega | assumption) | (simp [lens]; done) | (simp [lens]; omega)) ?_)); clear hm; intro ws hm; simp only [List.set_cons_zero, List.set_cons_succ] at hm) | ((with_reducible refine gt_load 149 ?_); (first | (refine st_load rfl 149 _ rfl hm rfl 0 rfl agg149 (by first | omega | assumption | (simp only [lens]; first | omega | assumption) | (simp [lens]; done) | (simp [lens]; omega)) ?_) | (refine st_load rfl 149 _ rfl hm rfl 1 rfl agg149 (by first | omega | assumption | (simp only [lens]; first | omega | assumption) | (simp [lens]; done) | (simp [lens]; omega)) ?_) | (refine st_load rfl 149 _ rfl hm rfl 2 rfl agg149 (by first | omega | assumption | (simp only [lens]; first | omega | assumption) | (simp [lens]; done) | (simp [lens]; omega)) ?_) | (refine st_load rfl 149 _ rfl hm rfl 3 rfl agg149 (by first | omega | assumption | (simp only [lens]; first | omega | assumption) | (simp [lens]; done) | (simp [lens]; omega)) ?_) | (refine st_part rfl 149 _ rfl hm rfl 0 rfl agg149 (by first | omega | assumption | (simp only [lens]; first | omega | assumption) | (simp [lens]; done) | (simp [lens]; omega)) ?_) | (refine st_part rfl 149 _ rfl hm rfl 1 rfl agg149 (by first | omega | assumption | (simp only [lens]; first | omega | assumption) | (simp [lens]; done) | (simp [lens]; omega)) ?_) | (refine st_part rfl 149 _ rfl hm rfl 2 rfl agg149 (by first | omega | assumption | (simp only [lens]; first | omega | assumption) | (simp [lens]; done) | (simp [lens]; omega)) ?_) | (refine st_part rfl 149 _ rfl hm rfl 3 rfl agg149 (by first | omega | assumption | (simp only [lens]; first | omega | assumption) | (simp [lens]; done) | (simp [lens]; omega)) ?_))))
   ((try simp only [Exit.inBlock, Exit.then]); (first | (refine ret_cell hm rfl rfl 1 rfl agg149 (by first | omega | assumption | (simp only [lens]; first | omega | assumption) | (simp [lens]; done) | (simp [lens]; omega)) rfl ?_) | (refine ret_cell_tmp hm rfl rfl 1 rfl agg149 (by first | omega | assumption | (simp only [lens]; first | omega | assumption) | (simp [lens]; done) | (simp [lens]; omega)) rfl ?_)))
   exact ⟨by rw [← HX.out, HI.out], hm.done rfl⟩
set_option maxHeartbeats 4000000 in
set_option maxRecDepth 100000 in
theorem l02Subs_calls (A0 : Option Addr) (c0 : Nat) (h : List Int) (w : World) (hr : Kd.C (Kd.int .i8) w A0 h.length h) (hc : h.length ≤ c0) (hh : ∀ x ∈ h, NumH x) (hn : h.length ≤ 1000) :
  Calls Tryd.prog 120 #[.slice A0 h.length c0] w fun e w' => e = .returned (.agg (vals .i64 ((pile (zs 44) h 1 h.length).drop 40))) ∧ Below w.heap.size w w' := by
 have hm := Mem.start w
 have HR := Aside0.mk hr
 have HH := Aside0.mk hh
 clear hr hh
 go_enter Tryd.func120, Tryd.ntmps120
 go_wp2_with (first | fail | ((with_reducible refine gt_alloc 2 152 ?_); refine st_alloc rfl 2 rfl 152 rfl hm zero152 ?_; clear hm; intro g2 w2 hm) | ((with_reducible refine gt_build 152 ?_); refine st_zero rfl 152 rfl built152 ?_) | ((with_reducible refine gt_alloc 3 152 ?_); refine st_alloc rfl 3 rfl 152 rfl hm zero152 ?_; clear hm; intro g3 w3 hm) | ((with_reducible refine gt_store 152 ?_); (first | (refine st_full rfl 152 _ _ rfl hm rfl rfl 0 rfl agg152 (by first | omega | assumption | (simp only [lens]; first | omega | assumption) | (simp [lens]; done) | (simp [lens]; omega)) (by first | omega | assumption | (simp only [lens]; first | omega | assumption) | (simp [lens]; done) | (simp [lens]; omega)) ?_) | (refine st_full rfl 152 _ _ rfl hm rfl rfl 1 rfl agg152 (by first | omega | assumption | (simp only [lens]; first | omega | assumption) | (simp [lens]; done) | (simp [lens]; omega)) (by first | omega | assumption | (simp only [lens]; first | omega | assumption) | (simp [lens]; done) | (simp [lens]; omega)) ?_) | (refine st_full rfl 152 _ _ rfl hm rfl rfl 2 rfl agg152 (by first | omega | assumption | (simp only [lens]; first | omega | assumption) | (simp [lens]; done) | (simp [lens]; omega)) (by first | omega | assumption | (simp only [lens]; first | omega | assumption) | (simp [lens]; done) | (simp [lens]; omega)) ?_) | (refine st_full rfl 152 _ _ rfl hm rfl rfl 3 rfl agg152 (by first | omega | assumption | (simp only [lens]; first | omega | assumption) | (simp [lens]; done) | (simp [lens]; omega)) (by first | omega | assumption | (simp only [lens]; first | omega | assumption) | (simp [lens]; done) | (simp [lens]; omega)) ?_) | (refine st_put rfl 152 _ _ rfl hm rfl rfl 0 rfl agg152 (by first | omega | assumption | (simp only [lens]; first | omega | assumption) | (simp [lens]; done) | (simp [lens]; omega)) (by first | omega | assumption | (simp only [lens]; first | omega | assumption) | (simp [lens]; done) | (simp [lens]; omega)) ?_) | (refine st_put rfl 152 _ _ rfl hm rfl rfl 1 rfl agg152 (by first | omega | assumption | (simp only [lens]; first | omega | assumption) | (simp [lens]; done) | (simp [lens]; omega)) (by first | omega | assumption | (simp only [lens]; first | omega | assumption) | (simp [lens]; done) | (simp [lens]; omega)) ?_) | (refine st_put rfl 152 _ _ rfl hm rfl rfl 2 rfl agg152 (by first | omega | assumption | (simp only [lens]; first | omega | assumption) | (simp [lens]; done) | (simp [lens]; omega)) (by first | omega | assumption | (simp only [lens]; first | omega | assumption) | (simp [lens]; done) | (simp [lens]; omega)) ?_) | (refine st_put rfl 152 _ _ rfl hm rfl rfl 3 rfl agg152 (by first | omega | assumption | (simp only [lens]; first | omega | assumption) | (simp [lens]; done) | (simp [lens]; omega)) (by first | omega | assumption | (simp only [lens]; first | omega | assumption) | (simp [lens]; done) | (simp [lens]; omega)) ?_)); clear hm; intro ws hm; simp only [List.set_cons_zero, List.set_cons_succ] at hm) | ((with_reducible refine gt_load 22 ?_); (first | (refine st_get rfl 22 _ rfl hm rfl 0 rfl one22 (by first | omega | assumption | (simp only [lens]; first | omega | assumption) | (simp [lens]; done) | (simp [lens]; omega)) ?_) | (refine st_get rfl 22 _ rfl hm rfl 1 rfl one22 (by first | omega | assumption | (simp only [lens]; first | omega | assumption) | (simp [lens]; done) | (simp [lens]; omega)) ?_) | (refine st_get rfl 22 _ rfl hm rfl 2 rfl one22 (by first | omega | assumption | (simp only [lens]; first | omega | assumption) | (simp [lens]; done) | (simp [lens]; omega)) ?_) | (refine st_get rfl 22 _ rfl hm rfl 3 rfl one22 (by first | omega | assumption | (simp only [lens]; first | omega | assumption) | (simp [lens]; done) | (simp [lens]; omega)) ?_))) | ((with_reducible refine gt_elem 152 ?_); refine st_elem rfl 152 _ _ rfl rfl rfl arr152 (by first | omega | assumption | (simp only [lens]; first | omega | assumption) | (simp [lens]; done) | (simp [lens]; omega)) (by first | omega | assumption | (simp only [lens]; first | omega | assumption) | (simp [lens]; done) | (simp [lens]; omega)) ?_) | ((with_reducible refine gt_load 2 ?_); (first | (refine st_get rfl 2 _ rfl hm rfl 0 rfl one2 (by first | omega | assumption | (simp only [lens]; first | omega | assumption) | (simp [lens]; done) | (simp [lens]; omega)) ?_) | (refine st_get rfl 2 _ rfl hm rfl 1 rfl one2 (by first | omega | assumption | (simp only [lens]; first | omega | assumption) | (simp [lens]; done) | (simp [lens]; omega)) ?_) | (refine st_get rfl 2 _ rfl hm rfl 2 rfl one2 (by first | omega | assumption | (simp only [lens]; first | omega | assumption) | (simp [lens]; done) | (simp [lens]; omega)) ?_) | (refine st_get rfl 2 _ rfl hm rfl 3 rfl one2 (by first | omega | assumption | (simp only [lens]; first | omega | assumption) | (simp [lens]; done) | (simp [lens]; omega)) ?_))) | ((with_reducible refine gt_store 2 ?_); (first | (refine st_set rfl 2 _ _ rfl hm rfl rfl 0 rfl one2 (by first | omega | assumption | (simp only [lens]; first | omega | assumption) | (simp [lens]; done) | (simp [lens]; omega)) ?_) | (refine st_set rfl 2 _ _ rfl hm rfl rfl 1 rfl one2 (by first | omega | assumption | (simp only [lens]; first | omega | assumption) | (simp [lens]; done) | (simp [lens]; omega)) ?_) | (refine st_set rfl 2 _ _ rfl hm rfl rfl 2 rfl one2 (by first | omega | assumption | (simp only [lens]; first | omega | assumption) | (simp [lens]; done) | (simp [lens]; omega)) ?_) | (refine st_set rfl 2 _ _ rfl hm rfl rfl 3 rfl one2 (by first | omega | assumption | (simp only [lens]; first | omega | assumption) | (simp [lens]; done) | (simp [lens]; omega)) ?_)); clear hm; intro ws hm; simp only [List.set_cons_zero, List.set_cons_succ] at hm) | ((with_reducible refine gt_load 152 ?_); (first | (refine st_load rfl 152 _ rfl hm rfl 0 rfl agg152 (by first | omega | assumption | (simp only [lens]; first | omega | assumption) | (simp [lens]; done) | (simp [lens]; omega)) ?_) | (refine st_load rfl 152 _ rfl hm rfl 1 rfl agg152 (by first | omega | assumption | (simp only [lens]; first | omega | assumption) | (simp [lens]; done) | (simp [lens]; omega)) ?_) | (refine st_load rfl 152 _ rfl hm rfl 2 rfl agg152 (by first | omega | assumption | (simp only [lens]; first | omega | assumption) | (simp [lens]; done) | (simp [lens]; omega)) ?_) | (refine st_load rfl 152 _ rfl hm rfl 3 rfl agg152 (by first | omega | assumption | (simp only [lens]; first | omega | assumption) | (simp [lens]; done) | (simp [lens]; omega)) ?_) | (refine st_part rfl 152 _ rfl hm rfl 0 rfl agg152 (by first | omega | assumption | (simp only [lens]; first | omega | assumption) | (simp [lens]; done) | (simp [lens]; omega)) ?_) | (refine st_part rfl 152 _ rfl hm rfl 1 rfl agg152 (by first | omega | assumption | (simp only [lens]; first | omega | assumption) | (simp [lens]; done) | (simp [lens]; omega)) ?_) | (refine st_part rfl 152 _ rfl hm rfl 2 rfl agg152 (by first | omega | assumption | (simp only [lens]; first | omega | assumption) | (simp [lens]; done) | (simp [lens]; omega)) ?_) | (refine st_part rfl 152 _ rfl hm rfl 3 rfl agg152 (by first | omega | assumption | (simp only [lens]; first | omega | assumption) | (simp [lens]; done) | (simp [lens]; omega)) ?_))))
 go_loopw [4] (fun v4 wr => ∃ i : Nat, i ≤ h.length ∧ v4 = .int .i64 i ∧ Mem w wr [⟨g3, vals .i64 ((pile (zs 44) h 1 i).drop 40), 152, true⟩, ⟨g2, vals .i64 (zs 4), 152, true⟩]) (fun v4 _ => h.length - (intOf v4).toNat)
 case atStart => exact ⟨0, by omega, rfl, hm⟩
 case round =>
  obtain ⟨i, hi, rfl, hm⟩ := hrel
  have hl2 := (pile_length (zs 44) h 1 i).trans zs_length
  by_cases hlt : i < h.length
  ·obtain ⟨ad, rfl, hc1⟩ := Kd.at_int (Kd.C_below HR.out (hm.done rfl)) (i : Int) (by omega) (by omega)
   rw [Int.toNat_natCast] at hc1
   have hx := NumH.at HH.out i hlt
   have HS := Aside0.mk (show (pile (zs 44) h 1 (i + 1)).drop 40 = _ from bump_drop (pile (zs 44) h 1 i) (rd h (i : Int)) 1 hl2 hx)
   have hl3 : ((pile (zs 44) h 1 i).drop 40).length = 4 := by rw [List.length_drop]; omega
   have HQ : Aside0 (∀ j : Nat, j < 4 → 0 ≤ rd ((pile (zs 44) h 1 i).drop 40) (j : Int) ∧ rd ((pile (zs 44) h 1 i).drop 40) (j : Int) ≤ i) := ⟨fun j hj => by
    rw [rd_drop _ j 40 (by omega)]; exact pile_small h i _ (by omega)⟩
   generalize rd h (i : Int) = x at *
   generalize (pile (zs 44) h 1 i).drop 40 = X at *
   by_cases hx0 : x < 0
   ·by_cases hx1 : x = -10
    ·have HS2 := Aside0.mk (HS.out.trans (if_neg (by omega)))
     clear HS HQ hx hx0
     subst hx1
     go_wp2_with (first | fail | ((with_reducible refine gt_alloc 2 152 ?_); refine st_alloc rfl 2 rfl 152 rfl hm zero152 ?_; clear hm; intro g2 w2 hm) | ((with_reducible refine gt_build 152 ?_); refine st_zero rfl 152 rfl built152 ?_) | ((with_reducible refine gt_alloc 3 152 ?_); refine st_alloc rfl 3 rfl 152 rfl hm zero152 ?_; clear hm; intro g3 w3 hm) | ((with_reducible refine gt_store 152 ?_); (first | (refine st_full rfl 152 _ _ rfl hm rfl rfl 0 rfl agg152 (by first | omega | assumption | (simp only [lens]; first | omega | assumption) | (simp [lens]; done) | (simp [lens]; omega)) (by first | omega | assumption | (simp only [lens]; first | omega | assumption) | (simp [lens]; done) | (simp [lens]; omega)) ?_) | (refine st_full rfl 152 _ _ rfl hm rfl rfl 1 rfl agg152 (by first | omega | assumption | (simp only [lens]; first | omega | assumption) | (simp [lens]; done) | (simp [lens]; omega)) (by first | omega | assumption | (simp only [lens]; first | omega | assumption) | (simp [lens]; done) | (simp [lens]; omega)) ?_) | (refine st_full rfl 152 _ _ rfl hm rfl rfl 2 rfl agg152 (by first | omega | assumption | (simp only [lens]; first | omega | assumption) | (simp [lens]; done) | (simp [lens]; omega)) (by first | omega | assumption | (simp only [lens]; first | omega | assumption) | (simp [lens]; done) | (simp [lens]; omega)) ?_) | (refine st_full rfl 152 _ _ rfl hm rfl rfl 3 rfl agg152 (by first | omega | assumption | (simp only [lens]; first | omega | assumption) | (simp [lens]; done) | (simp [lens]; omega)) (by first | omega | assumption | (simp only [lens]; first | omega | assumption) | (simp [lens]; done) | (simp [lens]; omega)) ?_) | (refine st_put rfl 152 _ _ rfl hm rfl rfl 0 rfl agg152 (by first | omega | assumption | (simp only [lens]; first | omega | assumption) | (simp [lens]; done) | (simp [lens]; omega)) (by first | omega | assumption | (simp only [lens]; first | omega | assumption) | (simp [lens]; done) | (simp [lens]; omega)) ?_) | (refine st_put rfl 152 _ _ rfl hm rfl rfl 1 rfl agg152 (by first | omega | assumption | (simp only [lens]; first | omega | assumption) | (simp [lens]; done) | (simp [lens]; omega)) (by first | omega | assumption | (simp only [lens]; first | omega | assumption) | (simp [lens]; done) | (simp [lens]; omega)) ?_) | (refine st_put rfl 152 _ _ rfl hm rfl rfl 2 rfl agg152 (by first | omega | assumption | (simp only [lens]; first | omega | assumption) | (simp [lens]; done) | (simp [lens]; omega)) (by first | omega | assumption | (simp only [lens]; first | omega | assumption) | (simp [lens]; done) | (simp [lens]; omega)) ?_) | (refine st_put rfl 152 _ _ rfl hm rfl rfl 3 rfl agg152 (by first | omega | assumption | (simp only [lens]; first | omega | assumption) | (simp [lens]; done) | (simp [lens]; omega)) (by first | omega | assumption | (simp only [lens]; first | omega | assumption) | (simp [lens]; done) | (simp [lens]; omega)) ?_)); clear hm; intro ws hm; simp only [List.set_cons_zero, List.set_cons_succ] at hm) | ((with_reducible refine gt_load 22 ?_); (first | (refine st_get rfl 22 _ rfl hm rfl 0 rfl one22 (by first | omega | assumption | (simp only [lens]; first | omega | assumption) | (simp [lens]; done) | (simp [lens]; omega)) ?_) | (refine st_get rfl 22 _ rfl hm rfl 1 rfl one22 (by first | omega | assumption | (simp only [lens]; first | omega | assumption) | (simp [lens]; done) | (simp [lens]; omega)) ?_) | (refine st_get rfl 22 _ rfl hm rfl 2 rfl one22 (by first | omega | assumption | (simp only [lens]; first | omega | assumption) | (simp [lens]; done) | (simp [lens]; omega)) ?_) | (refine st_get rfl 22 _ rfl hm rfl 3 rfl one22 (by first | omega | assumption | (simp only [lens]; first | omega | assumption) | (simp [lens]; done) | (simp [lens]; omega)) ?_))) | ((with_reducible refine gt_elem 152 ?_); refine st_elem rfl 152 _ _ rfl rfl rfl arr152 (by first | omega | assumption | (simp only [lens]; first | omega | assumption) | (simp [lens]; done) | (simp [lens]; omega)) (by first | omega | assumption | (simp only [lens]; first | omega | assumption) | (simp [lens]; done) | (simp [lens]; omega)) ?_) | ((with_reducible refine gt_load 2 ?_); (first | (refine st_get rfl 2 _ rfl hm rfl 0 rfl one2 (by first | omega | assumption | (simp only [lens]; first | omega | assumption) | (simp [lens]; done) | (simp [lens]; omega)) ?_) | (refine st_get rfl 2 _ rfl hm rfl 1 rfl one2 (by first | omega | assumption | (simp only [lens]; first | omega | assumption) | (simp [lens]; done) | (simp [lens]; omega)) ?_) | (refine st_get rfl 2 _ rfl hm rfl 2 rfl one2 (by first | omega | assumption | (simp only [lens]; first | omega | assumption) | (simp [lens]; done) | (simp [lens]; omega)) ?_) | (refine st_get rfl 2 _ rfl hm rfl 3 rfl one2 (by first | omega | assumption | (simp only [lens]; first | omega | assumption) | (simp [lens]; done) | (simp [lens]; omega)) ?_))) | ((with_reducible refine gt_store 2 ?_); (first | (refine st_set rfl 2 _ _ rfl hm rfl rfl 0 rfl one2 (by first | omega | assumption | (simp only [lens]; first | omega | assumption) | (simp [lens]; done) | (simp [lens]; omega)) ?_) | (refine st_set rfl 2 _ _ rfl hm rfl rfl 1 rfl one2 (by first | omega | assumption | (simp only [lens]; first | omega | assumption) | (simp [lens]; done) | (simp [lens]; omega)) ?_) | (refine st_set rfl 2 _ _ rfl hm rfl rfl 2 rfl one2 (by first | omega | assumption | (simp only [lens]; first | omega | assumption) | (simp [lens]; done) | (simp [lens]; omega)) ?_) | (refine st_set rfl 2 _ _ rfl hm rfl rfl 3 rfl one2 (by first | omega | assumption | (simp only [lens]; first | omega | assumption) | (simp [lens]; done) | (simp [lens]; omega)) ?_)); clear hm; intro ws hm; simp only [List.set_cons_zero, List.set_cons_succ] at hm) | ((with_reducible refine gt_load 152 ?_); (first | (refine st_load rfl 152 _ rfl hm rfl 0 rfl agg152 (by first | omega | assumption | (simp only [lens]; first | omega | assumption) | (simp [lens]; done) | (simp [lens]; omega)) ?_) | (refine st_load rfl 152 _ rfl hm rfl 1 rfl agg152 (by first | omega | assumption | (simp only [lens]; first | omega | assumption) | (simp [lens]; done) | (simp [lens]; omega)) ?_) | (refine st_load rfl 152 _ rfl hm rfl 2 rfl agg152 (by first | omega | assumption | (simp only [lens]; first | omega | assumption) | (simp [lens]; done) | (simp [lens]; omega)) ?_) | (refine st_load rfl 152 _ rfl hm rfl 3 rfl agg152 (by first | omega | assumption | (simp only [lens]; first | omega | assumption) | (simp [lens]; done) | (simp [lens]; omega)) ?_) | (refine st_part rfl 152 _ rfl hm rfl 0 rfl agg152 (by first | omega | assumption | (simp only [lens]; first | omega | assumption) | (simp [lens]; done) | (simp [lens]; omega)) ?_) | (refine st_part rfl 152 _ rfl hm rfl 1 rfl agg152 (by first | omega | assumption | (simp only [lens]; first | omega | assumption) | (simp [lens]; done) | (simp [lens]; omega)) ?_) | (refine st_part rfl 152 _ rfl hm rfl 2 rfl agg152 (by first | omega | assumption | (simp only [lens]; first | omega | assumption) | (simp [lens]; done) | (simp [lens]; omega)) ?_) | (refine st_part rfl 152 _ rfl hm rfl 3 rfl agg152 (by first | omega | assumption | (simp only [lens]; first | omega | assumption) | (simp [lens]; done) | (simp [lens]; omega)) ?_))))
     go_roundw
     case rel => exact ⟨i + 1, by omega, by go_num, by rw [HS2.out]; simpa using hm⟩
     case measure => simp [intOf]; omega
    ·have HS2 := Aside0.mk (HS.out.trans (if_pos ⟨hx0, hx1⟩))
     have hx9 : x = -4 ∨ x = -3 ∨ x = -2 ∨ x = -1 := by rcases hx with h | h | h <;> omega
     have HW := Aside0.mk (show wrap64 (rd X (-x - 1) + 1) = rd X (-x - 1) + 1 by
      have := HQ.out (-x - 1).toNat (by omega)
      rw [Int.toNat_of_nonneg (by omega)] at this
      exact w64 (by omega) (by omega))
     clear HS HQ hx hx0 hx1
     have k0 : IntKind.i8.wrap 0 = 0 := rfl
     have k1 : IntKind.i8.wrap 1 = 1 := rfl
     have k2 : IntKind.i8.wrap 2 = 2 := rfl
     have k3 : IntKind.i8.wrap 3 = 3 := rfl
     have k4 : IntKind.i8.wrap 4 = 4 := rfl
     rcases hx9 with rfl | rfl | rfl | rfl
     all_goals
      go_wp2_with (first | fail | ((with_reducible refine gt_alloc 2 152 ?_); refine st_alloc rfl 2 rfl 152 rfl hm zero152 ?_; clear hm; intro g2 w2 hm) | ((with_reducible refine gt_build 152 ?_); refine st_zero rfl 152 rfl built152 ?_) | ((with_reducible refine gt_alloc 3 152 ?_); refine st_alloc rfl 3 rfl 152 rfl hm zero152 ?_; clear hm; intro g3 w3 hm) | ((with_reducible refine gt_store 152 ?_); (first | (refine st_full rfl 152 _ _ rfl hm rfl rfl 0 rfl agg152 (by first | omega | assumption | (simp only [lens]; first | omega | assumption) | (simp [lens]; done) | (simp [lens]; omega)) (by first | omega | assumption | (simp only [lens]; first | omega | assumption) | (simp [lens]; done) | (simp [lens]; omega)) ?_) | (refine st_full rfl 152 _ _ rfl hm rfl rfl 1 rfl agg152 (by first | omega | assumption | (simp only [lens]; first | omega | assumption) | (simp [lens]; done) | (simp [lens]; omega)) (by first | omega | assumption | (simp only [lens]; first | omega | assumption) | (simp [lens]; done) | (simp [lens]; omega)) ?_) | (refine st_full rfl 152 _ _ rfl hm rfl rfl 2 rfl agg152 (by first | omega | assumption | (simp only [lens]; first | omega | assumption) | (simp [lens]; done) | (simp [lens]; omega)) (by first | omega | assumption | (simp only [lens]; first | omega | assumption) | (simp [lens]; done) | (simp [lens]; omega)) ?_) | (refine st_full rfl 152 _ _ rfl hm rfl rfl 3 rfl agg152 (by first | omega | assumption | (simp only [lens]; first | omega | assumption) | (simp [lens]; done) | (simp [lens]; omega)) (by first | omega | assumption | (simp only [lens]; first | omega | assumption) | (simp [lens]; done) | (simp [lens]; omega)) ?_) | (refine st_put rfl 152 _ _ rfl hm rfl rfl 0 rfl agg152 (by first | omega | assumption | (simp only [lens]; first | omega | assumption) | (simp [lens]; done) | (simp [lens]; omega)) (by first | omega | assumption | (simp only [lens]; first | omega | assumption) | (simp [lens]; done) | (simp [lens]; omega)) ?_) | (refine st_put rfl 152 _ _ rfl hm rfl rfl 1 rfl agg152 (by first | omega | assumption | (simp only [lens]; first | omega | assumption) | (simp [lens]; done) | (simp [lens]; omega)) (by first | omega | assumption | (simp only [lens]; first | omega | assumption) | (simp [lens]; done) | (simp [lens]; omega)) ?_) | (refine st_put rfl 152 _ _ rfl hm rfl rfl 2 rfl agg152 (by first | omega | assumption | (simp only [lens]; first | omega | assumption) | (simp [lens]; done) | (simp [lens]; omega)) (by first | omega | assumption | (simp only [lens]; first | omega | assumption) | (simp [lens]; done) | (simp [lens]; omega)) ?_) | (refine st_put rfl 152 _ _ rfl hm rfl rfl 3 rfl agg152 (by first | omega | assumption | (simp only [lens]; first | omega | assumption) | (simp [lens]; done) | (simp [lens]; omega)) (by first | omega | assumption | (simp only [lens]; first | omega | assumption) | (simp [lens]; done) | (simp [lens]; omega)) ?_)); clear hm; intro ws hm; simp only [List.set_cons_zero, List.set_cons_succ] at hm) | ((with_reducible refine gt_load 22 ?_); (first | (refine st_get rfl 22 _ rfl hm rfl 0 rfl one22 (by first | omega | assumption | (simp only [lens]; first | omega | assumption) | (simp [lens]; done) | (simp [lens]; omega)) ?_) | (refine st_get rfl 22 _ rfl hm rfl 1 rfl one22 (by first | omega | assumption | (simp only [lens]; first | omega | assumption) | (simp [lens]; done) | (simp [lens]; omega)) ?_) | (refine st_get rfl 22 _ rfl hm rfl 2 rfl one22 (by first | omega | assumption | (simp only [lens]; first | omega | assumption) | (simp [lens]; done) | (simp [lens]; omega)) ?_) | (refine st_get rfl 22 _ rfl hm rfl 3 rfl one22 (by first | omega | assumption | (simp only [lens]; first | omega | assumption) | (simp [lens]; done) | (simp [lens]; omega)) ?_))) | ((with_reducible refine gt_elem 152 ?_); refine st_elem rfl 152 _ _ rfl rfl rfl arr152 (by first | omega | assumption | (simp only [lens]; first | omega | assumption) | (simp [lens]; done) | (simp [lens]; omega)) (by first | omega | assumption | (simp only [lens]; first | omega | assumption) | (simp [lens]; done) | (simp [lens]; omega)) ?_) | ((with_reducible refine gt_load 2 ?_); (first | (refine st_get rfl 2 _ rfl hm rfl 0 rfl one2 (by first | omega | assumption | (simp only [lens]; first | omega | assumption) | (simp [lens]; done) | (simp [lens]; omega)) ?_) | (refine st_get rfl 2 _ rfl hm rfl 1 rfl one2 (by first | omega | assumption | (simp only [lens]; first | omega | assumption) | (simp [lens]; done) | (simp [lens]; omega)) ?_) | (refine st_get rfl 2 _ rfl hm rfl 2 rfl one2 (by first | omega | assumption | (simp only [lens]; first | omega | assumption) | (simp [lens]; done) | (simp [lens]; omega)) ?_) | (refine st_get rfl 2 _ rfl hm rfl 3 rfl one2 (by first | omega | assumption | (simp only [lens]; first | omega | assumption) | (simp [lens]; done) | (simp [lens]; omega)) ?_))) | ((with_reducible refine gt_store 2 ?_); (first | (refine st_set rfl 2 _ _ rfl hm rfl rfl 0 rfl one2 (by first | omega | assumption | (simp only [lens]; first | omega | assumption) | (simp [lens]; done) | (simp [lens]; omega)) ?_) | (refine st_set rfl 2 _ _ rfl hm rfl rfl 1 rfl one2 (by first | omega | assumption | (simp only [lens]; first | omega | assumption) | (simp [lens]; done) | (simp [lens]; omega)) ?_) | (refine st_set rfl 2 _ _ rfl hm rfl rfl 2 rfl one2 (by first | omega | assumption | (simp only [lens]; first | omega | assumption) | (simp [lens]; done) | (simp [lens]; omega)) ?_) | (refine st_set rfl 2 _ _ rfl hm rfl rfl 3 rfl one2 (by first | omega | assumption | (simp only [lens]; first | omega | assumption) | (simp [lens]; done) | (simp [lens]; omega)) ?_)); clear hm; intro ws hm; simp only [List.set_cons_zero, List.set_cons_succ] at hm) | ((with_reducible refine gt_load 152 ?_); (first | (refine st_load rfl 152 _ rfl hm rfl 0 rfl agg152 (by first | omega | assumption | (simp only [lens]; first | omega | assumption) | (simp [lens]; done) | (simp [lens]; omega)) ?_) | (refine st_load rfl 152 _ rfl hm rfl 1 rfl agg152 (by first | omega | assumption | (simp only [lens]; first | omega | assumption) | (simp [lens]; done) | (simp [lens]; omega)) ?_) | (refine st_load rfl 152 _ rfl hm rfl 2 rfl agg152 (by first | omega | assumption | (simp only [lens]; first | omega | assumption) | (simp [lens]; done) | (simp [lens]; omega)) ?_) | (refine st_load rfl 152 _ rfl hm rfl 3 rfl agg152 (by first | omega | assumption | (simp only [lens]; first | omega | assumption) | (simp [lens]; done) | (simp [lens]; omega)) ?_) | (refine st_part rfl 152 _ rfl hm rfl 0 rfl agg152 (by first | omega | assumption | (simp only [lens]; first | omega | assumption) | (simp [lens]; done) | (simp [lens]; omega)) ?_) | (refine st_part rfl 152 _ rfl hm rfl 1 rfl agg152 (by first | omega | assumption | (simp only [lens]; first | omega | assumption) | (simp [lens]; done) | (simp [lens]; omega)) ?_) | (refine st_part rfl 152 _ rfl hm rfl 2 rfl agg152 (by first | omega | assumption | (simp only [lens]; first | omega | assumption) | (simp [lens]; done) | (simp [lens]; omega)) ?_) | (refine st_part rfl 152 _ rfl hm rfl 3 rfl agg152 (by first | omega | assumption | (simp only [lens]; first | omega | assumption) | (simp [lens]; done) | (simp [lens]; omega)) ?_))))
      go_roundw
      case rel => exact ⟨i + 1, by omega, by go_num, by rw [HS2.out, ← HW.out]; simpa using hm⟩
      case measure => simp [intOf]; omega
   ·have HS2 := Aside0.mk (HS.out.trans (if_neg (by omega)))
    clear HS HQ hx
    have hx2 : ¬ x < 0 := hx0
    go_wp2_with (first | fail | ((with_reducible refine gt_alloc 2 152 ?_); refine st_alloc rfl 2 rfl 152 rfl hm zero152 ?_; clear hm; intro g2 w2 hm) | ((with_reducible refine gt_build 152 ?_); refine st_zero rfl 152 rfl built152 ?_) | ((with_reducible refine gt_alloc 3 152 ?_); refine st_alloc rfl 3 rfl 152 rfl hm zero152 ?_; clear hm; intro g3 w3 hm) | ((with_reducible refine gt_store 152 ?_); (first | (refine st_full rfl 152 _ _ rfl hm rfl rfl 0 rfl agg152 (by first | omega | assumption | (simp only [lens]; first | omega | assumption) | (simp [lens]; done) | (simp [lens]; omega)) (by first | omega | assumption | (simp only [lens]; first | omega | assumption) | (simp [lens]; done) | (simp [lens]; omega)) ?_) | (refine st_full rfl 152 _ _ rfl hm rfl rfl 1 rfl agg152 (by first | omega | assumption | (simp only [lens]; first | omega | assumption) | (simp [lens]; done) | (simp [lens]; omega)) (by first | omega | assumption | (simp only [lens]; first | omega | assumption) | (simp [lens]; done) | (simp [lens]; omega)) ?_) | (refine st_full rfl 152 _ _ rfl hm rfl rfl 2 rfl agg152 (by first | omega | assumption | (simp only [lens]; first | omega | assumption) | (simp [lens]; done) | (simp [lens]; omega)) (by first | omega | assumption | (simp only [lens]; first | omega | assumption) | (simp [lens]; done) | (simp [lens]; omega)) ?_) | (refine st_full rfl 152 _ _ rfl hm rfl rfl 3 rfl agg152 (by first | omega | assumption | (simp only [lens]; first | omega | assumption) | (simp [lens]; done) | (simp [lens]; omega)) (by first | omega | assumption | (simp only [lens]; first | omega | assumption) | (simp [lens]; done) | (simp [lens]; omega)) ?_) | (refine st_put rfl 152 _ _ rfl hm rfl rfl 0 rfl agg152 (by first | omega | assumption | (simp only [lens]; first | omega | assumption) | (simp [lens]; done) | (simp [lens]; omega)) (by first | omega | assumption | (simp only [lens]; first | omega | assumption) | (simp [lens]; done) | (simp [lens]; omega)) ?_) | (refine st_put rfl 152 _ _ rfl hm rfl rfl 1 rfl agg152 (by first | omega | assumption | (simp only [lens]; first | omega | assumption) | (simp [lens]; done) | (simp [lens]; omega)) (by first | omega | assumption | (simp only [lens]; first | omega | assumption) | (simp [lens]; done) | (simp [lens]; omega)) ?_) | (refine st_put rfl 152 _ _ rfl hm rfl rfl 2 rfl agg152 (by first | omega | assumption | (simp only [lens]; first | omega | assumption) | (simp [lens]; done) | (simp [lens]; omega)) (by first | omega | assumption | (simp only [lens]; first | omega | assumption) | (simp [lens]; done) | (simp [lens]; omega)) ?_) | (refine st_put rfl 152 _ _ rfl hm rfl rfl 3 rfl agg152 (by first | omega | assumption | (simp only [lens]; first | omega | assumption) | (simp [lens]; done) | (simp [lens]; omega)) (by first | omega | assumption | (simp only [lens]; first | omega | assumption) | (simp [lens]; done) | (simp [lens]; omega)) ?_)); clear hm; intro ws hm; simp only [List.set_cons_zero, List.set_cons_succ] at hm) | ((with_reducible refine gt_load 22 ?_); (first | (refine st_get rfl 22 _ rfl hm rfl 0 rfl one22 (by first | omega | assumption | (simp only [lens]; first | omega | assumption) | (simp [lens]; done) | (simp [lens]; omega)) ?_) | (refine st_get rfl 22 _ rfl hm rfl 1 rfl one22 (by first | omega | assumption | (simp only [lens]; first | omega | assumption) | (simp [lens]; done) | (simp [lens]; omega)) ?_) | (refine st_get rfl 22 _ rfl hm rfl 2 rfl one22 (by first | omega | assumption | (simp only [lens]; first | omega | assumption) | (simp [lens]; done) | (simp [lens]; omega)) ?_) | (refine st_get rfl 22 _ rfl hm rfl 3 rfl one22 (by first | omega | assumption | (simp only [lens]; first | omega | assumption) | (simp [lens]; done) | (simp [lens]; omega)) ?_))) | ((with_reducible refine gt_elem 152 ?_); refine st_elem rfl 152 _ _ rfl rfl rfl arr152 (by first | omega | assumption | (simp only [lens]; first | omega | assumption) | (simp [lens]; done) | (simp [lens]; omega)) (by first | omega | assumption | (simp only [lens]; first | omega | assumption) | (simp [lens]; done) | (simp [lens]; omega)) ?_) | ((with_reducible refine gt_load 2 ?_); (first | (refine st_get rfl 2 _ rfl hm rfl 0 rfl one2 (by first | omega | assumption | (simp only [lens]; first | omega | assumption) | (simp [lens]; done) | (simp [lens]; omega)) ?_) | (refine st_get rfl 2 _ rfl hm rfl 1 rfl one2 (by first | omega | assumption | (simp only [lens]; first | omega | assumption) | (simp [lens]; done) | (simp [lens]; omega)) ?_) | (refine st_get rfl 2 _ rfl hm rfl 2 rfl one2 (by first | omega | assumption | (simp only [lens]; first | omega | assumption) | (simp [lens]; done) | (simp [lens]; omega)) ?_) | (refine st_get rfl 2 _ rfl hm rfl 3 rfl one2 (by first | omega | assumption | (simp only [lens]; first | omega | assumption) | (simp [lens]; done) | (simp [lens]; omega)) ?_))) | ((with_reducible refine gt_store 2 ?_); (first | (refine st_set rfl 2 _ _ rfl hm rfl rfl 0 rfl one2 (by first | omega | assumption | (simp only [lens]; first | omega | assumption) | (simp [lens]; done) | (simp [lens]; omega)) ?_) | (refine st_set rfl 2 _ _ rfl hm rfl rfl 1 rfl one2 (by first | omega | assumption | (simp only [lens]; first | omega | assumption) | (simp [lens]; done) | (simp [lens]; omega)) ?_) | (refine st_set rfl 2 _ _ rfl hm rfl rfl 2 rfl one2 (by first | omega | assumption | (simp only [lens]; first | omega | assumption) | (simp [lens]; done) | (simp [lens]; omega)) ?_) | (refine st_set rfl 2 _ _ rfl hm rfl rfl 3 rfl one2 (by first | omega | assumption | (simp only [lens]; first | omega | assumption) | (simp [lens]; done) | (simp [lens]; omega)) ?_)); clear hm; intro ws hm; simp only [List.set_cons_zero, List.set_cons_succ] at hm) | ((with_reducible refine gt_load 152 ?_); (first | (refine st_load rfl 152 _ rfl hm rfl 0 rfl agg152 (by first | omega | assumption | (simp only [lens]; first | omega | assumption) | (simp [lens]; done) | (simp [lens]; omega)) ?_) | (refine st_load rfl 152 _ rfl hm rfl 1 rfl agg152 (by first | omega | assumption | (simp only [lens]; first | omega | assumption) | (simp [lens]; done) | (simp [lens]; omega)) ?_) | (refine st_load rfl 152 _ rfl hm rfl 2 rfl agg152 (by first | omega | assumption | (simp only [lens]; first | omega | assumption) | (simp [lens]; done) | (simp [lens]; omega)) ?_) | (refine st_load rfl 152 _ rfl hm rfl 3 rfl agg152 (by first | omega | assumption | (simp only [lens]; first | omega | assumption) | (simp [lens]; done) | (simp [lens]; omega)) ?_) | (refine st_part rfl 152 _ rfl hm rfl 0 rfl agg152 (by first | omega | assumption | (simp only [lens]; first | omega | assumption) | (simp [lens]; done) | (simp [lens]; omega)) ?_) | (refine st_part rfl 152 _ rfl hm rfl 1 rfl agg152 (by first | omega | assumption | (simp only [lens]; first | omega | assumption) | (simp [lens]; done) | (simp [lens]; omega)) ?_) | (refine st_part rfl 152 _ rfl hm rfl 2 rfl agg152 (by first | omega | assumption | (simp only [lens]; first | omega | assumption) | (simp [lens]; done) | (simp [lens]; omega)) ?_) | (refine st_part rfl 152 _ rfl hm rfl 3 rfl agg152 (by first | omega | assumption | (simp only [lens]; first | omega | assumption) | (simp [lens]; done) | (simp [lens]; omega)) ?_))))
    go_roundw
    case rel => exact ⟨i + 1, by omega, by go_num, by rw [HS2.out]; simpa using hm⟩
    case measure => simp [intOf]; omega
  ·have HI := Aside0.mk (show i = h.length by omega)
   have hl3 : ((pile (zs 44) h 1 i).drop 40).length = 4 := by rw [List.length_drop]; omega
   generalize hX : (pile (zs 44) h 1 i).drop 40 = X at *
   have HX := Aside0.mk hX
   clear hX
   go_wp2_with (first | fail | ((with_reducible refine gt_alloc 2 152 ?_); refine st_alloc rfl 2 rfl 152 rfl hm zero152 ?_; clear hm; intro g2 w2 hm) | ((with_reducible refine gt_build 152 ?_); refine st_zero rfl 152 rfl built152 ?_) | ((with_reducible refine gt_alloc 3 152 ?_); refine st_alloc rfl 3 rfl 152 rfl hm zero152 ?_; clear hm; intro g3 w3 hm) | ((with_reducible refine gt_store 152 ?_); (first | (refine st_full rfl 152 _ _ rfl hm rfl rfl 0 rfl agg152 (by first | omega | assumption | (simp only [lens]; first | omega | assumption) | (simp [lens]; done) | (simp [lens]; omega)) (by first | omega | assumption | (simp only [lens]; first | omega | assumption) | (simp [lens]; done) | (simp [lens]; omega)) ?_) | (refine st_full rfl 152 _ _ rfl hm rfl rfl 1 rfl agg152 (by first | omega | assumption | (simp only [lens]; first | omega | assumption) | (simp [lens]; done) | (simp [lens]; omega)) (by first | omega | assumption | (simp only [lens]; first | omega | assumption) | (simp [lens]; done) | (simp [lens]; omega)) ?_) | (refine st_full rfl 152 _ _ rfl hm rfl rfl 2 rfl agg152 (by first | omega | assumption | (simp only [lens]; first | omega | assumption) | (simp [lens]; done) | (simp [lens]; omega)) (by first | omega | assumption | (simp only [lens]; first | omega | assumption) | (simp [lens]; done) | (simp [lens]; omega)) ?_) | (refine st_full rfl 152 _ _ rfl hm rfl rfl 3 rfl agg152 (by first | omega | assumption | (simp only [lens]; first | omega | assumption) | (simp [lens]; done) | (simp [lens]; omega)) (by first | omega | assumption | (simp only [lens]; first | omega | assumption) | (simp [lens]; done) | (simp [lens]; omega)) ?_) | (refine st_put rfl 152 _ _ rfl hm rfl rfl 0 rfl agg152 (by first | omega | assumption | (simp only [lens]; first | omega | assumption) | (simp [lens]; done) | (simp [lens]; omega)) (by first | omega | assumption | (simp only [lens]; first | omega | assumption) | (simp [lens]; done) | (simp [lens]; omega)) ?_) | (refine st_put rfl 152 _ _ rfl hm rfl rfl 1 rfl agg152 (by first | omega | assumption | (simp only [lens]; first | omega | assumption) | (simp [lens]; done) | (simp [lens]; omega)) (by first | omega | assumption | (simp only [lens]; first | omega | assumption) | (simp [lens]; done) | (simp [lens]; omega)) ?_) | (refine st_put rfl 152 _ _ rfl hm rfl rfl 2 rfl agg152 (by first | omega | assumption | (simp only [lens]; first | omega | assumption) | (simp [lens]; done) | (simp [lens]; omega)) (by first | omega | assumption | (simp only [lens]; first | omega | assumption) | (simp [lens]; done) | (simp [lens]; omega)) ?_) | (refine st_put rfl 152 _ _ rfl hm rfl rfl 3 rfl agg152 (by first | omega | assumption | (simp only [lens]; first | omega | assumption) | (simp [lens]; done) | (simp [lens]; omega)) (by first | omega | assumption | (simp only [lens]; first | omega | assumption) | (simp [lens]; done) | (simp [lens]; omega)) ?_)); clear hm; intro ws hm; simp only [List.set_cons_zero, List.set_cons_succ] at hm) | ((with_reducible refine gt_load 22 ?_); (first | (refine st_get rfl 22 _ rfl hm rfl 0 rfl one22 (by first | omega | assumption | (simp only [lens]; first | omega | assumption) | (simp [lens]; done) | (simp [lens]; omega)) ?_) | (refine st_get rfl 22 _ rfl hm rfl 1 rfl one22 (by first | omega | assumption | (simp only [lens]; first | omega | assumption) | (simp [lens]; done) | (simp [lens]; omega)) ?_) | (refine st_get rfl 22 _ rfl hm rfl 2 rfl one22 (by first | omega | assumption | (simp only [lens]; first | omega | assumption) | (simp [lens]; done) | (simp [lens]; omega)) ?_) | (refine st_get rfl 22 _ rfl hm rfl 3 rfl one22 (by first | omega | assumption | (simp only [lens]; first | omega | assumption) | (simp [lens]; done) | (simp [lens]; omega)) ?_))) | ((with_reducible refine gt_elem 152 ?_); refine st_elem rfl 152 _ _ rfl rfl rfl arr152 (by first | omega | assumption | (simp only [lens]; first | omega | assumption) | (simp [lens]; done) | (simp [lens]; omega)) (by first | omega | assumption | (simp only [lens]; first | omega | assumption) | (simp [lens]; done) | (simp [lens]; omega)) ?_) | ((with_reducible refine gt_load 2 ?_); (first | (refine st_get rfl 2 _ rfl hm rfl 0 rfl one2 (by first | omega | assumption | (simp only [lens]; first | omega | assumption) | (simp [lens]; done) | (simp [lens]; omega)) ?_) | (refine st_get rfl 2 _ rfl hm rfl 1 rfl one2 (by first | omega | assumption | (simp only [lens]; first | omega | assumption) | (simp [lens]; done) | (simp [lens]; omega)) ?_) | (refine st_get rfl 2 _ rfl hm rfl 2 rfl one2 (by first | omega | assumption | (simp only [lens]; first | omega | assumption) | (simp [lens]; done) | (simp [lens]; omega)) ?_) | (refine st_get rfl 2 _ rfl hm rfl 3 rfl one2 (by first | omega | assumption | (simp only [lens]; first | omega | assumption) | (simp [lens]; done) | (simp [lens]; omega)) ?_))) | ((with_reducible refine gt_store 2 ?_); (first | (refine st_set rfl 2 _ _ rfl hm rfl rfl 0 rfl one2 (by first | omega | assumption | (simp only [lens]; first | omega | assumption) | (simp [lens]; done) | (simp [lens]; omega)) ?_) | (refine st_set rfl 2 _ _ rfl hm rfl rfl 1 rfl one2 (by first | omega | assumption | (simp only [lens]; first | omega | assumption) | (simp [lens]; done) | (simp [lens]; omega)) ?_) | (refine st_set rfl 2 _ _ rfl hm rfl rfl 2 rfl one2 (by first | omega | assumption | (simp only [lens]; first | omega | assumption) | (simp [lens]; done) | (simp [lens]; omega)) ?_) | (refine st_set rfl 2 _ _ rfl hm rfl rfl 3 rfl one2 (by first | omega | assumption | (simp only [lens]; first | omega | assumption) | (simp [lens]; done) | (simp [lens]; omega)) ?_)); clear hm; intro ws hm; simp only [List.set_cons_zero, List.set_cons_succ] at hm) | ((with_reducible refine gt_load 152 ?_); (first | (refine st_load rfl 152 _ rfl hm rfl 0 rfl agg152 (by first | omega | assumption | (simp only [lens]; first | omega | assumption) | (simp [lens]; done) | (simp [lens]; omega)) ?_) | (refine st_load rfl 152 _ rfl hm rfl 1 rfl agg152 (by first | omega | assumption | (simp only [lens]; first | omega | assumption) | (simp [lens]; done) | (simp [lens]; omega)) ?_) | (refine st_load rfl 152 _ rfl hm rfl 2 rfl agg152 (by first | omega | assumption | (simp only [lens]; first | omega | assumption) | (simp [lens]; done) | (simp [lens]; omega)) ?_) | (refine st_load rfl 152 _ rfl hm rfl 3 rfl agg152 (by first | omega | assumption | (simp only [lens]; first | omega | assumption) | (simp [lens]; done) | (simp [lens]; omega)) ?_) | (refine st_part rfl 152 _ rfl hm rfl 0 rfl agg152 (by first | omega | assumption | (simp only [lens]; first | omega | assumption) | (simp [lens]; done) | (simp [lens]; omega)) ?_) | (refine st_part rfl 152 _ rfl hm rfl 1 rfl agg152 (by first | omega | assumption | (simp only [lens]; first | omega | assumption) | (simp [lens]; done) | (simp [lens]; omega)) ?_) | (refine st_part rfl 152 _ rfl hm rfl 2 rfl agg152 (by first | omega | assumption | (simp only [lens]; first | omega | assumption) | (simp [lens]; done) | (simp [lens]; omega)) ?_) | (refine st_part rfl 152 _ rfl hm rfl 3 rfl agg152 (by first | omega | assumption | (simp only [lens]; first | omega | assumption) | (simp [lens]; done) | (simp [lens]; omega)) ?_))))
   ((try simp only [Exit.inBlock, Exit.then]); (first | (refine ret_cell hm rfl rfl 1 rfl agg152 (by first | omega | assumption | (simp only [lens]; first | omega | assumption) | (simp [lens]; done) | (simp [lens]; omega)) rfl ?_) | (refine ret_cell_tmp hm rfl rfl 1 rfl agg152 (by first | omega | assumption | (simp only [lens]; first | omega | assumption) | (simp [lens]; done) | (simp [lens]; omega)) rfl ?_)))
   exact ⟨by rw [← HX.out, HI.out], hm.done rfl⟩
def Small8 (h : List Int) : Prop := h.length ≤ 100000000 ∧ ∀ x ∈ h, -128 ≤ x ∧ x ≤ 127
end Go.Proofs.YtdgecgfgekmhcaaDoor.Arr
namespace Go.Proofs.YtdgecgfgekmhcaaDoor.Arr
open Go.RowKit Go.Proofs.YtdgecgfgekmhcaaDoorW.PrintWords Go.Proofs.YtdgecgfgekmhcaaDoorW.PrintLast Go.Proofs.YtdgecgfgekmhcaaDoor.U Go.Proofs.YtdgecgfgekmhcaaDoor.J
set_option linter.unusedVariables false
set_option linter.unusedSimpArgs false
def subOk (m : List Int) (k : Nat) (g : Int) (s : Int) : Bool := decide (g - s - 1 < k ∧ rd m (g - s - 1) = rd m (k : Int))
def subsTo (m : List Int) (k : Nat) (g : Int) : Nat → List Int
 | 0 => []
 | t + 1 => (if subOk m k g (-((t : Int) + 1)) = true then [-((t : Int) + 1)] else []) ++ subsTo m k g t
def opts (m : List Int) (k : Nat) (g : Int) (top : Nat) : List Int := subsTo m k g top ++ [rd m (k : Int)]
def leaves (m : List Int) (top : Nat) (ok : List Int → Int → Bool) : Nat → List Int → Int → List (List Int)
 | 0, h, g => [h]
 | d + 1, h, g =>
  if rd m (h.length : Int) = -10 then leaves m top ok d (h ++ [-10]) ((h.length : Int) + 1)
  else (opts m h.length g top).flatMap fun n => if ok h n = true then leaves m top ok d (h ++ [n]) g else []
def enough (H : List Int) (h : List Int) (n : Int) : Bool := decide (rd (pile H h (-1) h.length) (slot n : Nat) ≠ 0)
def within (sets : Int) (h : List Int) (n : Int) : Bool := decide (∀ j : Nat, j < 44 → rd (pile (zs 44) (h ++ [n]) 1 (h ++ [n]).length) (j : Int) ≤ sets)
def PlainN (x : Int) : Prop := x = -10 ∨ (0 ≤ x ∧ x ≤ 39)
theorem subsTo_in {m : List Int} {k : Nat} {g : Int} : ∀ {t : Nat} {n : Int}, n ∈ subsTo m k g t → -(t : Int) ≤ n ∧ n ≤ -1 ∧ subOk m k g n = true
 | 0, n, h => by simp [subsTo] at h
 | t + 1, n, h => by
  rw [subsTo, List.mem_append] at h
  rcases h with h | h
  ·split at h
   ·rw [List.mem_singleton] at h
    subst h
    exact ⟨by omega, by omega, by assumption⟩
   ·cases h
  ·have := subsTo_in h
   exact ⟨by omega, this.2.1, this.2.2⟩
theorem rd_left (l r : List Int) (i : Nat) (h : i < l.length) : rd (l ++ r) (i : Int) = rd l (i : Int) := by
 rw [rd_get l i h, rd_get _ i (by simp; omega), List.getElem_append_left h]
theorem pile_left (L h : List Int) (n t : Int) : ∀ i, i ≤ h.length → pile L (h ++ [n]) t i = pile L h t i
 | 0, _ => rfl
 | i + 1, hi => by rw [pile, pile, pile_left L h n t i (by omega), rd_left h [n] i (by omega)]
theorem pile_snoc (L h : List Int) (n t : Int) : pile L (h ++ [n]) t (h ++ [n]).length = bump (pile L h t h.length) n t := by
 rw [show (h ++ [n]).length = h.length + 1 by simp, pile, pile_left L h n t h.length (Nat.le_refl _)]
 congr 1
 rw [rd_get _ h.length (by simp)]
 simp
theorem rd_pile_neg (L h : List Int) (j : Nat) (hj : j < 44) (hL : L.length = 44) : ∀ i, rd (pile L h (-1) i) (j : Int) = rd L (j : Int) - rd (pile (zs 44) h 1 i) (j : Int)
 | 0 => by simp only [pile]; rw [rd_zs]; omega
 | i + 1 => by
  rw [pile, pile, rd_bump _ _ _ j (by rw [pile_length]; omega), rd_bump _ _ _ j (by rw [pile_length, zs_length]; omega), rd_pile_neg L h j hj hL i]
  split <;> omega
structure Even (H : List Int) (sets : Int) (subs : Nat) : Prop where
 len : H.length = 44
 flag : ∀ j : Nat, j < 40 → rd H (j : Int) = sets
 sub : ∀ j : Nat, j < subs → rd H ((40 + j : Nat) : Int) = sets
 none : ∀ j : Nat, subs ≤ j → j < 4 → rd H ((40 + j : Nat) : Int) = 0
 few : subs ≤ 4
structure Far (sets : Int) (subs : Nat) (h : List Int) : Prop where
 num : ∀ x ∈ h, NumH x ∧ -(subs : Int) ≤ (if x = -10 then 0 else x)
 few : ∀ j : Nat, j < 44 → rd (pile (zs 44) h 1 h.length) (j : Int) ≤ sets
theorem pile_none (h : List Int) (j : Nat) (hj : j < 44) (hx : ∀ x ∈ h, x = -10 ∨ slot x ≠ j) : ∀ i, i ≤ h.length → rd (pile (zs 44) h 1 i) (j : Int) = 0
 | 0, _ => rd_zs 44 j
 | i + 1, hi => by
  rw [pile, rd_bump _ _ _ j (by rw [pile_length, zs_length]; omega), pile_none h j hj hx i (by omega)]
  have := hx _ (by rw [rd_get h i (by omega)]; exact List.getElem_mem _ : rd h (i : Int) ∈ h)
  rw [if_neg]
  ·rfl
  ·rintro ⟨h1, h2⟩
   rcases this with h3 | h3
   ·exact h1 h3
   ·exact h3 h2.symm
theorem Far.snoc {sets : Int} {subs : Nat} {h : List Int} (hf : Far sets subs h) (n : Int) (hn : NumH n) (hs : -(subs : Int) ≤ (if n = -10 then 0 else n)) (hw : n = -10 ∨ within sets h n = true) : Far sets subs (h ++ [n]) := by
 refine ⟨fun x hx => ?_, fun j hj => ?_⟩
 ·rcases List.mem_append.1 hx with hx | hx
  ·exact hf.num x hx
  ·rw [List.mem_singleton] at hx; subst hx; exact ⟨hn, hs⟩
 ·rcases hw with hw | hw
  ·subst hw
   rw [pile_snoc, bump, if_pos rfl]
   exact hf.few j hj
  ·exact of_decide_eq_true hw j hj
theorem enough_within {H : List Int} {sets : Int} {subs : Nat} {h : List Int} (hE : Even H sets subs) (hf : Far sets subs h) (hs : 0 < sets) {n : Int} (hn : n ≠ -10) (hN : NumH n) (hb : -(subs : Int) ≤ n) : enough H h n = within sets h n := by
 have hsl := slot_lt hN hn
 have hH : rd H (slot n : Nat) = sets := by
  by_cases h0 : 0 ≤ n
  ·rw [slot_flag h0]; exact hE.flag _ (by rcases hN with h | h | h <;> omega)
  ·rw [slot_sub (by omega)]; exact hE.sub _ (by omega)
 unfold enough within
 rw [rd_pile_neg H h (slot n) hsl hE.len, hH]
 have h1 := hf.few (slot n) hsl
 by_cases hlt : rd (pile (zs 44) h 1 h.length) (slot n : Nat) < sets
 ·rw [decide_eq_true (by omega), decide_eq_true]
  intro j hj
  rw [pile_snoc, rd_bump _ _ _ j (by rw [pile_length, zs_length]; omega)]
  have := hf.few j hj
  split
  ·rename_i hc
   rw [hc.2]; omega
  ·omega
 ·rw [decide_eq_false (by omega), decide_eq_false]
  intro hall
  have := hall (slot n) hsl
  rw [pile_snoc, rd_bump _ _ _ _ (by rw [pile_length, zs_length]; omega), if_pos ⟨hn, rfl⟩] at this
  omega
theorem enough_none {H : List Int} {sets : Int} {subs : Nat} {h : List Int} (hE : Even H sets subs) (hf : Far sets subs h) {n : Int} (h4 : -4 ≤ n) (hb : n < -(subs : Int)) : enough H h n = false := by
 have hsl : slot n = 40 + (-n - 1).toNat := slot_sub (by omega)
 unfold enough
 rw [rd_pile_neg H h (slot n) (by omega) hE.len, pile_none h (slot n) (by omega) (fun x hx => ?_) h.length (Nat.le_refl _), hsl, hE.none _ (by omega) (by omega)]
 ·simp
 ·have := hf.num x hx
  by_cases hx1 : x = -10
  ·exact Or.inl hx1
  ·right
   rw [if_neg hx1] at this
   by_cases h0 : 0 ≤ x
   ·rw [slot_flag h0, hsl]; have := this.1; rcases this with h | h | h <;> omega
   ·rw [slot_sub (by omega), hsl]; omega
theorem flatMap_same {f g : Int → List (List Int)} : ∀ l : List Int, (∀ n ∈ l, f n = g n) → l.flatMap f = l.flatMap g
 | [], _ => rfl
 | a :: l, h => by rw [List.flatMap_cons, List.flatMap_cons, h a (List.mem_cons_self ..), flatMap_same l fun n hn => h n (List.mem_cons_of_mem _ hn)]
theorem opts_cut {m : List Int} {k : Nat} {g : Int} {f : Int → List (List Int)} (subs : Nat) (hf : ∀ n : Int, -4 ≤ n → n < -(subs : Int) → f n = []) : ∀ t : Nat, subs ≤ t → t ≤ 4 → (subsTo m k g t).flatMap f = (subsTo m k g subs).flatMap f
 | 0, h, _ => by
  obtain rfl : subs = 0 := by omega
  rfl
 | t + 1, h, h4 => by
  rcases Nat.lt_or_ge subs (t + 1) with h1 | h1
  ·rw [subsTo, List.flatMap_append, opts_cut subs hf t (by omega) (by omega)]
   have : (if subOk m k g (-((t : Int) + 1)) = true then [-((t : Int) + 1)] else []).flatMap f = [] := by
    split
    ·simp [hf (-((t : Int) + 1)) (by omega) (by omega)]
    ·rfl
   rw [this]; rfl
  ·obtain rfl : subs = t + 1 := by omega
   rfl
theorem leaves_even {m : List Int} (hm : ∀ x ∈ m, PlainN x) {H : List Int} {sets : Int} {subs : Nat} (hE : Even H sets subs) (hs : 0 < sets) : ∀ (d : Nat) (h : List Int) (g : Int), h.length + d = m.length → Far sets subs h →
  leaves m 4 (enough H) d h g = leaves m subs (within sets) d h g
 | 0, h, g, _, _ => rfl
 | d + 1, h, g, hl, hf => by
  have hx := hm _ (by rw [rd_get m h.length (by omega)]; exact List.getElem_mem _ : rd m (h.length : Int) ∈ m)
  rw [leaves, leaves]
  by_cases hb : rd m (h.length : Int) = -10
  ·rw [if_pos hb, if_pos hb]
   exact leaves_even hm hE hs d _ _ (by simp; omega) (hf.snoc (-10) (Or.inl rfl) (by rw [if_pos rfl]; omega) (Or.inl rfl))
  ·rw [if_neg hb, if_neg hb]
   have step : ∀ n : Int, n ≠ -10 → NumH n → -(subs : Int) ≤ n → (if enough H h n = true then leaves m 4 (enough H) d (h ++ [n]) g else []) = (if within sets h n = true then leaves m subs (within sets) d (h ++ [n]) g else []) := by
    intro n h1 h2 h3
    rw [enough_within hE hf hs h1 h2 h3]
    by_cases hw : within sets h n = true
    ·rw [if_pos hw, if_pos hw]
     exact leaves_even hm hE hs d _ _ (by simp; omega) (hf.snoc n h2 (by rw [if_neg h1]; exact h3) (Or.inr hw))
    ·rw [if_neg hw, if_neg hw]
   unfold opts
   rw [List.flatMap_append, List.flatMap_append, opts_cut subs (fun n h4 hlt => by rw [if_neg (by rw [enough_none hE hf h4 hlt]; simp)]) 4 hE.few (Nat.le_refl _)]
   congr 1
   ·refine flatMap_same _ fun n hn => ?_
    have := subsTo_in hn
    have := hE.few
    exact step n (by omega) (by right; right; omega) (by omega)
   ·simp only [List.flatMap_cons, List.flatMap_nil, List.append_nil]
    exact step _ hb (by rcases hx with h | h; exact absurd h hb; exact Or.inr (Or.inl h)) (by rcases hx with h | h <;> omega)
end Go.Proofs.YtdgecgfgekmhcaaDoor.Arr
namespace Go.Proofs.YtdgecgfgekmhcaaDoor.Arr
open Go.RowKit Go.Proofs.YtdgecgfgekmhcaaDoorW.PrintWords Go.Proofs.YtdgecgfgekmhcaaDoorW.PrintLast Go.Proofs.YtdgecgfgekmhcaaDoor.U Go.Proofs.YtdgecgfgekmhcaaDoor.J
set_option linter.unusedVariables false
set_option linter.unusedSimpArgs false
def runL {σ : Type} (step : σ → List Int → σ × Bool) : σ → List (List Int) → σ × Bool
 | s, [] => (s, true)
 | s, h :: r => if (step s h).2 = true then runL step (step s h).1 r else ((step s h).1, false)
theorem runL_append {σ : Type} (step : σ → List Int → σ × Bool) (b : List (List Int)) : ∀ (a : List (List Int)) (s : σ), runL step s (a ++ b) = if (runL step s a).2 = true then runL step (runL step s a).1 b else ((runL step s a).1, false)
 | [], s => rfl
 | h :: r, s => by
  rw [List.cons_append, runL, runL]
  by_cases hk : (step s h).2 = true
  ·rw [if_pos hk, if_pos hk]; exact runL_append step b r _
  ·rw [if_neg hk, if_neg hk, if_neg (by simp)]
def goes (m : List Int) (ok : List Int → Int → Bool) (d : Nat) (h : List Int) (g : Int) (l : List Int) : List (List Int) := l.flatMap fun n => if ok h n = true then leaves m 4 ok d (h ++ [n]) g else []
theorem goes_snoc (m : List Int) (ok : List Int → Int → Bool) (d : Nat) (h : List Int) (g : Int) (l : List Int) (n : Int) : goes m ok d h g (l ++ [n]) = goes m ok d h g l ++ (if ok h n = true then leaves m 4 ok d (h ++ [n]) g else []) := by
 unfold goes; rw [List.flatMap_append]; simp
theorem leaves_stop (m : List Int) (ok : List Int → Int → Bool) (d : Nat) (h : List Int) (g : Int) (hb : rd m (h.length : Int) = -10) : leaves m 4 ok (d + 1) h g = leaves m 4 ok d (h ++ [-10]) ((h.length : Int) + 1) := by rw [leaves, if_pos hb]
theorem leaves_go (m : List Int) (ok : List Int → Int → Bool) (d : Nat) (h : List Int) (g : Int) (hb : rd m (h.length : Int) ≠ -10) : leaves m 4 ok (d + 1) h g = goes m ok d h g (opts m h.length g 4) := by rw [leaves, if_neg hb]; rfl
theorem run_skip {σ : Type} {step : σ → List Int → σ × Bool} {s s0 : σ} {m : List Int} {ok : List Int → Int → Bool} {d : Nat} {h : List Int} {g : Int} {l : List Int} {n : Int} (hr : runL step s0 (goes m ok d h g l) = (s, true)) (hk : ok h n = false) : runL step s0 (goes m ok d h g (l ++ [n])) = (s, true) := by
 rw [goes_snoc, runL_append, hr, if_pos rfl, hk]; rfl
theorem run_more {σ : Type} {step : σ → List Int → σ × Bool} {s s0 : σ} {m : List Int} {ok : List Int → Int → Bool} {d : Nat} {h : List Int} {g : Int} {l : List Int} {n : Int} (hr : runL step s0 (goes m ok d h g l) = (s, true)) (hk : ok h n = true) : runL step s0 (goes m ok d h g (l ++ [n])) = runL step s (leaves m 4 ok d (h ++ [n]) g) := by
 rw [goes_snoc, runL_append, hr, if_pos rfl, hk, if_pos rfl]
theorem run_end {σ : Type} {step : σ → List Int → σ × Bool} {s s0 : σ} {m : List Int} {ok : List Int → Int → Bool} {d : Nat} {h : List Int} {g : Int} {l r : List Int} (hr : runL step s0 (goes m ok d h g l) = (s, false)) : runL step s0 (goes m ok d h g (l ++ r)) = (s, false) := by
 have : goes m ok d h g (l ++ r) = goes m ok d h g l ++ goes m ok d h g r := by unfold goes; rw [List.flatMap_append]
 rw [this, runL_append, hr, if_neg (by simp)]
theorem bump_back (L : List Int) (n : Int) (hL : L.length = 44) : bump (bump L n (-1)) n 1 = L := by
 refine list_eq (n := 44) (by rw [bump_length, bump_length, hL]) hL fun j hj => ?_
 rw [rd_bump _ _ _ j (by rw [bump_length]; omega), rd_bump _ _ _ j (by omega)]
 split <;> omega
theorem subsTo_len (m : List Int) (k : Nat) (g : Int) : ∀ t, (subsTo m k g t).length ≤ t
 | 0 => Nat.le_refl _
 | t + 1 => by
  rw [subsTo, List.length_append]
  have := subsTo_len m k g t
  split <;> simp <;> omega
theorem opts_num {m : List Int} (hm : ∀ x ∈ m, PlainN x) {k : Nat} {g : Int} (hk : k < m.length) (hb : rd m (k : Int) ≠ -10) : ∀ n ∈ opts m k g 4, n ≠ -10 ∧ NumH n := by
 intro n hn
 rcases List.mem_append.1 hn with hn | hn
 ·have := subsTo_in hn
  exact ⟨by omega, Or.inr (Or.inr (by omega))⟩
 ·rw [List.mem_singleton] at hn
  subst hn
  refine ⟨hb, ?_⟩
  have hx := hm _ (by rw [rd_get m k hk]; exact List.getElem_mem hk : rd m (k : Int) ∈ m)
  rcases hx with h | h
  ·exact absurd h hb
  ·exact Or.inr (Or.inl h)
theorem pile_b (H h : List Int) (hL : H.length = 44) (b : Int) (hb : ∀ j : Nat, j < 44 → 0 ≤ rd H (j : Int) ∧ rd H (j : Int) ≤ b) (i : Nat) : ∀ j : Nat, j < 44 → -(i : Int) ≤ rd (pile H h (-1) i) (j : Int) ∧ rd (pile H h (-1) i) (j : Int) ≤ b := fun j hj => by
 rw [rd_pile_neg H h j hj hL i]
 have h1 := hb j hj
 have h2 := pile_small h i j hj
 omega
theorem subsTo_step (m : List Int) (k : Nat) (g : Int) (i : Nat) (hi : i < 4) : subsTo m k g (4 - i) = (if subOk m k g ((i : Int) - 4) = true then [(i : Int) - 4] else []) ++ subsTo m k g (4 - (i + 1)) := by
 obtain ⟨t, ht⟩ : ∃ t, 4 - i = t + 1 := ⟨3 - i, by omega⟩
 rw [ht, show 4 - (i + 1) = t by omega, subsTo, show -((t : Int) + 1) = (i : Int) - 4 by omega]
end Go.Proofs.YtdgecgfgekmhcaaDoor.Arr
namespace Go.Proofs.YtdgecgfgekmhcaaDoor.Arr
open Go.RowKit Go.Proofs.YtdgecgfgekmhcaaDoorW.PrintWords Go.Proofs.YtdgecgfgekmhcaaDoor.U
set_option linter.unusedVariables false
set_option linter.unusedSimpArgs false
structure FrB (B : List Nat) (w w' : World) : Prop where
 os : w'.os = w.os
 tape : w'.tape = w.tape
 output : w'.output = w.output
 size : w.heap.size ≤ w'.heap.size
 other : ∀ k, k < w.heap.size → k ∉ B → w'.heap[k]? = w.heap[k]?
namespace FrB
variable {B B' : List Nat} {w w1 w2 : World}
theorem refl (B : List Nat) (w : World) : FrB B w w := ⟨rfl, rfl, rfl, Nat.le_refl _, fun _ _ _ => rfl⟩
theorem trans (h : FrB B w w1) (h2 : FrB B w1 w2) : FrB B w w2 :=
 ⟨h2.os.trans h.os, h2.tape.trans h.tape, h2.output.trans h.output, Nat.le_trans h.size h2.size, fun k hk hn => (h2.other k (Nat.lt_of_lt_of_le hk h.size) hn).trans (h.other k hk hn)⟩
theorem mono (h : FrB B w w1) (hs : ∀ k ∈ B, k ∈ B') : FrB B' w w1 := ⟨h.os, h.tape, h.output, h.size, fun k hk hn => h.other k hk fun hb => hn (hs k hb)⟩
theorem below (h : Below w.heap.size w w1) : FrB B w w1 := ⟨h.os, h.tape, h.output, h.size, fun k hk _ => h.block k hk⟩
theorem to_below (h : FrB [] w w1) : Below w.heap.size w w1 := ⟨h.os, h.tape, h.output, h.size, fun k hk => h.other k hk (by simp)⟩
theorem fr1 {g : Nat} {cs : Array Value} {t : TypeId} (h : Fr1 g cs t w w1) (hg : g ∈ B) : FrB B w w1 := ⟨h.os, h.tape, h.output, h.size, fun k hk hn => h.other k hk fun e => hn (e ▸ hg)⟩
theorem alloc (h : FrB B w w1) (o : Obj) : FrB B w (w1.alloc o) := h.trans (below (below_alloc (Below.refl _ _) o))
theorem grown (h : FrB B w w1) {row : Option Nat} (hg : w1.grownBy w2 row) (hr : ∀ k, row = some k → w.heap.size ≤ k) : FrB B w w2 :=
 ⟨hg.os.trans h.os, hg.tape.trans h.tape, hg.output.trans h.output, Nat.le_trans h.size hg.size, fun k hk hn => (hg.block k (Nat.lt_of_lt_of_le hk h.size) (fun e => by have := hr k e.symm; omega)).trans (h.other k hk hn)⟩
theorem set (h : FrB B w w1) (p : Addr) (u : Value) (hp : p.block ∈ B ∨ w.heap.size ≤ p.block) : FrB B w (w1.setCell p u) :=
 ⟨h.os, h.tape, h.output, by have := h.size; simpa [World.setCell] using this, fun k hk hn => (Below.heap_setCell w1 p u k (fun e => by subst e; rcases hp with hp | hp; exact hn hp; omega)).trans (h.other k hk hn)⟩
theorem row (h : FrB B w w1) {g : Nat} {cs : Array Value} {t : TypeId} (hg : w.heap[g]? = some (.cells cs t (0, 0))) (hn : g ∉ B) : w1.heap[g]? = some (.cells cs t (0, 0)) :=
 (h.other g (lt_of_some hg) hn).trans hg
theorem cell (h : FrB B w w1) {p : Addr} (hp : p.block < w.heap.size) (hn : p.block ∉ B) : w1.cell? p = w.cell? p := World.cell?_of_block (w := w) (h.other p.block hp hn)
theorem read (h : FrB [] w w1) {p : Addr} {v : Value} (hc : w.cell? p = some v) : w1.cell? p = some v := (h.cell (World.block_lt_of_cell? w _ hc) (by simp)).trans hc
theorem same {g : Nat} (h : FrB (g :: B) w w1) (hg : w1.heap[g]? = w.heap[g]?) : FrB B w w1 := ⟨h.os, h.tape, h.output, h.size, fun k hk hn => by
 by_cases e : k = g
 ·subst e; exact hg
 ·exact h.other k hk fun hm => by
   rcases List.mem_cons.1 hm with h1 | h1
   ·exact e h1
   ·exact hn h1⟩
end FrB
def Row (base : Nat) (w : World) (A : Option Addr) (xs : List Int) : Prop := ∀ W : World, (∀ k, base ≤ k → k < w.heap.size → W.heap[k]? = w.heap[k]?) → Kd.C (Kd.int .i8) W A xs.length xs
namespace Row
variable {base : Nat} {w w1 : World} {A : Option Addr} {xs : List Int}
end Row
theorem fill_int {k : IntKind} {z : Int} {cells : Array Value} {i : Nat} {place : Nat → Option (Nat × Nat)} {off : Nat} {rest : List (Nat × Value)} (hp : place i = some (off, 1)) (hc : off + 1 ≤ cells.size) :
  Instr.fill place cells ((i, .int k z) :: rest) = Instr.fill place (cells.setIfInBounds off (.int k z)) rest := by
 rw [Instr.fill, hp]
 have hs : (Value.int k z).cells.size = 1 := rfl
 simp only [hs]
 rw [if_neg (by simp; omega)]
 congr 1
end Go.Proofs.YtdgecgfgekmhcaaDoor.Arr
namespace Go.Proofs.YtdgecgfgekmhcaaDoor.Arr
open Go.RowKit Go.Proofs.YtdgecgfgekmhcaaDoorW.PrintWords Go.Proofs.YtdgecgfgekmhcaaDoorW.PrintLast Go.Proofs.YtdgecgfgekmhcaaDoorW.PrintMore Go.Proofs.YtdgecgfgekmhcaaDoor.U Go.Proofs.YtdgecgfgekmhcaaDoor.J
set_option linter.unusedVariables false
set_option linter.unusedSimpArgs false
abbrev Own (base : Nat) (w : World) (v : Value) (h : List Int) : Prop := Kd.R (Kd.int .i8) 22 w base (fun _ => True) v h
theorem own_later {base : Nat} {w w1 : World} {v : Value} {h : List Int} {B : List Nat} (ho : Own base w v h) (hf : FrB B w w1) (hB : ∀ b ∈ B, b < base) : Own base w1 v h :=
 Kd.R_mono (Kd.R_move (Kd.R_bound ho) fun k hk => hf.other k hk.2.2.1 fun hb => by have := hB k hb; omega) fun _ _ => trivial
theorem own_lower {base b : Nat} {w : World} {v : Value} {h : List Int} (ho : Own base w v h) (hb : b ≤ base) : Own b w v h := Kd.R_lower ho hb
theorem cell1 {w : World} {g : Nat} {v : Value} {t : TypeId} (h : w.heap[g]? = some (.cells #[v] t (0, 0))) : w.cell? ⟨g, 0, none⟩ = some v := by
 rw [cell_of_row w g 0 _ t (0, 0) h]; rfl
section
variable {P : Program} {o : Oper} {a : Act} {w : World}
theorem y_cell {ty : TypeId} {x : Operand} {p : Addr} {v : Value} (ho : o.op = .load ty x) (hx : a.eval x = .pointer (some p)) (h1 : OneTy P ty) (hc : w.cell? p = some v) : (execOp a.eval o).run P w = .ok (.value v) w := by
 have hd := h1.1
 unfold execOp
 have hagg : (isAgg ty).run P w = .ok false w := by
  unfold isAgg
  cases hu : P.underlying ty with
  | none => simp [hu] at hd
  | some d =>
   rw [Sem.run_bind, run_underlying hu w]
   cases d <;> simp_all
 simp only [ho, hx, Instr.loadAt, Instr.sureAddr, Sem.run_bind, Sem.run_pure, Result.andThen_ok, loadVar, hagg]
 simp [run_load, hc]
theorem run_lit1 {t e : TypeId} {x : Operand} {k : IntKind} {z : Int} (ho : o.op = .buildSlice t 1 #[(0, x)]) (hx : a.eval x = .int k z) (hu : P.underlying t = some (.slice e)) (he : OneTy P e) (hz : ZeroTy P e (vals k [0])) :
  (execOp a.eval o).run P w = .ok (.value (.slice (some ⟨w.heap.size, 0, none⟩) 1 1)) (w.alloc (.cells (vals k [z]) e)) := by
 obtain ⟨zz, hz, hzc⟩ := hz
 obtain ⟨_, hi⟩ := he
 unfold execOp
 cases hq : P.info? e with
 | none => simp [hq] at hi
 | some i =>
  have hs : i.size = 1 := by simpa [hq] using hi
  have hz' : i.zero = some zz := by simpa [hq] using hz
  have hf := fill_int (k := k) (z := z) (cells := (Array.range (1 * 1)).map (zz.cells[· % zz.cells.size]!)) (off := 0) (place := fun i => some (i * 1, 1)) (i := 0) (rest := []) (by simp) (by simp)
  have hc : ((Array.range (1 * 1)).map (zz.cells[· % zz.cells.size]!)).setIfInBounds 0 (.int k z) = vals k [z] := by
   rw [show Array.range (1 * 1) = #[0] from rfl]
   generalize (fun x => zz.cells[x % zz.cells.size]!) = f
   simp [vals]
  rw [hc] at hf
  have hrun : (Instr.buildSlice t 1 #[(0, .int k z)]).run P w = .ok (.slice (some ⟨w.heap.size, 0, none⟩) 1 1) (w.alloc (.cells (vals k [z]) e)) := by
   simp only [Instr.buildSlice, Sem.run_bind, run_underlying hu w, Result.andThen_ok, sizeOf, typeInfo, run_program, hq, Sem.run_pure, hs, zeroValue, hz']
   rw [if_neg (by omega), if_neg (by omega)]
   simp only [Sem.run_bind, Sem.run_pure, Result.andThen_ok, hq, hz', hf, run_program]
   simp [Instr.fill, newRow, Sem.run_bind]
  simp only [ho, List.map_toArray, List.map_cons, List.map_nil, hx, Sem.run_bind, hrun, Sem.run_pure, Result.andThen_ok]
theorem enterC {x : Operand} {bs : Array Operand} {ts : Array TypeId} {f : FuncId} {caps args : Array Value} (ho : o.op = .call { callee := .value x, args := bs, argTypes := ts }) (hx : a.eval x = .func (.func f) #[] caps) (hargs : bs.map a.eval = args)
  (hg : (callFunc f (args ++ caps)).run P w = .ok (.enter f (args ++ caps)) w) : (execOp a.eval o).run P w = .ok (.enter f (args ++ caps)) w := by
 unfold execOp
 simp [ho, resolve, Deferred.ofValue, invoke, hx, hargs, hg]
end
theorem oneMean : OneTy Tryd.prog 53 := ⟨by kernel_rfl, by kernel_rfl⟩
theorem oneI8 : OneTy Tryd.prog 22 := ⟨by kernel_rfl, by kernel_rfl⟩
theorem zeroI8 : ZeroTy Tryd.prog 22 (vals .i8 [0]) := ⟨.int .i8 0, by kernel_rfl, rfl⟩
theorem infoI8 : (Tryd.prog.info? 22).map (fun i => (i.zero, i.size, i.bytes)) = some (some (.int .i8 0), 1, 1) := by kernel_rfl
theorem row1 {w : World} {g : Nat} {z : Int} (h : w.heap[g]? = some (.cells (vals .i8 [z]) 22 (0, 0))) : ReadsRow (fun (x : Int) cs => cs = [Value.int .i8 x]) 1 w (some ⟨g, 0, none⟩) 1 [z] := by
 refine ⟨rfl, by omega, fun _ => ⟨_, rfl, fun j y hj => ?_⟩⟩
 have hj0 : j = 0 := by
  have := (List.getElem?_eq_some_iff.1 hj).1
  simp at this; omega
 subst hj0
 cases hj
 refine ⟨_, rfl, rfl, fun i u hu => ?_⟩
 rcases i with _ | i
 ·cases hu
  exact cell1 h
 ·simp at hu
set_option maxHeartbeats 4000000 in
set_option maxRecDepth 100000 in
theorem of_calls (g : Nat) (L : List Int) (x : Int) (w : World) (h0 : w.heap[g]? = some (.cells (vals .i64 L) 89 (0, 0))) (hl : L.length = 44) (hx : NumH x) (hx1 : x ≠ -10) :
  Calls Tryd.prog 105 #[.pointer (some ⟨g, 0, none⟩), .int .i8 x] w fun e w' => e = .returned (.int .i64 (rd L (slot x : Nat))) ∧ w' = w := by
 have hm := Mem.given h0
 have hv := hm.get (n := 0) rfl (slot x) (by have := slot_lt hx hx1; omega)
 clear h0
 by_cases hx0 : 0 ≤ x
 ·have hx9 : x < 40 := by rcases hx with h | h | h <;> omega
  rw [slot_flag hx0] at hv ⊢
  generalize rd L (x.toNat : Nat) = y at *
  clear hx hx1
  go_enter Tryd.func105, Tryd.ntmps105
  go_wp2
  go_ret
  exact ⟨rfl, rfl⟩
 ·have hx9 : x = -4 ∨ x = -3 ∨ x = -2 ∨ x = -1 := by rcases hx with h | h | h <;> omega
  generalize rd L (slot x : Nat) = y at *
  clear hx hx0 hx1
  have k0 : IntKind.i8.wrap 0 = 0 := rfl
  have k1 : IntKind.i8.wrap 1 = 1 := rfl
  have k2 : IntKind.i8.wrap 2 = 2 := rfl
  have k3 : IntKind.i8.wrap 3 = 3 := rfl
  have k4 : IntKind.i8.wrap 4 = 4 := rfl
  rcases hx9 with rfl | rfl | rfl | rfl
  all_goals
   simp [slot] at hv
   go_enter Tryd.func105, Tryd.ntmps105
   go_wp2
   go_ret
   exact ⟨rfl, rfl⟩
set_option maxHeartbeats 1000000 in
set_option maxRecDepth 100000 in
theorem cloneH_calls (A0 : Option Addr) (c0 : Nat) (l0 : List Int) (w : World) (hr0 : Kd.C (Kd.int .i8) w A0 l0.length l0) (hc0 : l0.length ≤ c0) (hl : l0.length < 140737488355328) :
  Calls Tryd.prog 104 #[.slice A0 l0.length c0] w fun e w' => ∃ v0 : Value, e = .returned v0 ∧ Own w.heap.size w' v0 l0 ∧ Below w.heap.size w w' := by
 have HR0 := Aside0.mk hr0
 have hm := Kd.C_max hr0
 have HL := Aside0.mk hl
 clear hr0 hl
 have heq := fun (W : World) (n c : Nat) => Lib.run_eql_slice_nil (P := Tryd.prog) W 58 22 A0 n c 0 0 Tryd.underlying58
 cases A0 with
 | none =>
  have h0 : l0 = [] := by
   rcases Nat.eq_zero_or_pos l0.length with h | h
   ·exact List.eq_nil_of_length_eq_zero h
   ·obtain ⟨ad, e, _⟩ := HR0.out.2.2 h; cases e
  go_enter Tryd.func104, Tryd.ntmps104
  go_wp2_with fail
  go_ret
  exact ⟨_, rfl, by rw [h0]; exact Kd.R_nil _ _ _ _ _, Below.refl _ _⟩
 | some ad =>
  go_enter Tryd.func104, Tryd.ntmps104
  go_wp2_with (first
   | ((with_reducible refine gate_dst (N := 5) rfl ?_); refine Kd.R_lit (Kd.int .i8) _ 22 ?hg (N := 5) ?hd (xs := ([] : List Int)) (inner := []) (ok := fun _ => True) (okp := fun _ => True) ?hr ?hp (fun _ hk => hk) trivial (Below.refl _ _) (Nat.le_refl _) (by simp) ?_; (case hd => rfl); (case hg => rfl); (case hr => first | (go_simp; done) | (go_simp; rfl)); (case hp => exact (Reps.none _ _)); intro v1 w1 ho hb _ _; have HO := Aside0.mk ho; have HB := Aside0.mk hb; clear ho hb)
   | ((with_reducible refine gate_builtin (b := .append) (xs := #[.tmp 5, .tmp 6]) rfl ?_); at_builtin; refine Kd.R_append_rows (Kd.int .i8) (w0 := w) w.heap.size rfl (.tmp 5) (.tmp 6) 58 22 (.int .i8 0) 1 rfl Tryd.underlying58 infoI8 rfl (by decide) (by omega) v1 [] l0 _ _ _ (fun _ => True) (fun _ => False) rfl rfl ?aO ?aR (fun _ _ h => h) (fun _ h => h.elim) (fun _ _ => trivial) ?aB ?aS ?aL ?_; (case aR => exact Kd.C_below HR0.out HB.out); (case aB => exact HB.out); (case aO => exact HO.out); (case aS => exact HB.out.size); (case aL => have := HL.out; simp; omega); intro v2 w2 ho hb _ _; have HO2 := Aside0.mk ho; have HB2 := Aside0.mk hb; clear ho hb))
  go_ret
  exact ⟨_, rfl, HO2.out, HB2.out⟩
end Go.Proofs.YtdgecgfgekmhcaaDoor.Arr
namespace Go.Proofs.YtdgecgfgekmhcaaDoor.Arr
open Go.RowKit Go.Proofs.YtdgecgfgekmhcaaDoor.J Go.Proofs.YtdgecgfgekmhcaaDoor.U Go.Proofs.YtdgecgfgekmhcaaDoorW.PrintLast Go.Proofs.YtdgecgfgekmhcaaDoorW.PrintMore Go.Proofs.YtdgecgfgekmhcaaDoorW.PrintWords
set_option linter.unusedVariables false
set_option linter.unusedSimpArgs false
def mx (a b : Int) : Int := if b < a then a else b
def mxs (a : Int) (S : List Int) : Nat → Int
 | 0 => a
 | i + 1 => mx (mxs a S i) (rd S (i : Int))
theorem mx_assoc (a b c : Int) : mx (mx a b) c = mx a (mx b c) := by unfold mx; repeat' split <;> omega
theorem mxs_ge (a : Int) (S : List Int) : ∀ n, a ≤ mxs a S n
 | 0 => by simp [mxs]
 | n + 1 => by have := mxs_ge a S n; unfold mxs mx; split <;> omega
def top (S : List Int) (n : Nat) : Int := mxs (rd S ((0 : Nat) : Int)) S n
theorem mxs_top (a : Int) (S : List Int) : ∀ n, 0 < n → mxs a S n = mx a (top S n)
 | n + 1, _ => by
  rcases Nat.eq_zero_or_pos n with h | h
  ·subst h
   unfold top mxs mxs mx
   repeat' split
   all_goals omega
  ·show mx (mxs a S n) _ = mx a (mx (mxs _ S n) _)
   rw [mxs_top a S n h, mx_assoc]; rfl
def setsH (h : List Int) : Int := mx (top ((pile (zs 44) h 1 h.length).take 40) 40) (top ((pile (zs 44) h 1 h.length).drop 40) 4)
theorem setsH_eq (h : List Int) : setsH h = mxs (mxs 0 ((pile (zs 44) h 1 h.length).take 40) 40) ((pile (zs 44) h 1 h.length).drop 40) 4 := by
 unfold setsH
 rw [mxs_top _ _ 4 (by omega), mxs_top 0 _ 40 (by omega)]
 have h0 : 0 ≤ top ((pile (zs 44) h 1 h.length).take 40) 40 := by
  have h1 := mxs_ge (rd ((pile (zs 44) h 1 h.length).take 40) ((0 : Nat) : Int)) ((pile (zs 44) h 1 h.length).take 40) 40
  have h2 := pile_small h h.length 0 (by omega)
  rw [rd_take _ 0 40 (by omega) (by rw [pile_length, zs_length]; omega)] at h1
  unfold top
  rw [rd_take _ 0 40 (by omega) (by rw [pile_length, zs_length]; omega)]
  omega
 have : mx 0 (top ((pile (zs 44) h 1 h.length).take 40) 40) = top ((pile (zs 44) h 1 h.length).take 40) 40 := by unfold mx; split <;> omega
 rw [this]
theorem l00Max_calls (a b : Int) (w : World) : Calls Tryd.prog 119 #[.int .i64 a, .int .i64 b] w fun e w' => e = .returned (.int .i64 (mx a b)) ∧ Below w.heap.size w w' := by
 refine (spec_l00Max.calls a b (mx a b) w ?_).mono fun e w' ⟨h1, h2⟩ => ⟨h1, h2.below⟩
 unfold spec_l00Max.f mx
 split <;> rfl
set_option maxHeartbeats 4000000 in
set_option maxRecDepth 100000 in
theorem l02Sets_calls (A0 : Option Addr) (c0 : Nat) (h : List Int) (w : World) (hr : Kd.C (Kd.int .i8) w A0 h.length h) (hc : h.length ≤ c0) (hh : ∀ x ∈ h, NumH x) (hn : h.length ≤ 1000) :
  Calls Tryd.prog 92 #[.slice A0 h.length c0] w fun e w' => e = .returned (.int .i64 (setsH h)) ∧ Below w.heap.size w w' := by
 have hm := Mem.start w
 have HR := Aside0.mk hr
 have HF := Aside0.mk (fun W hr => l02Flags_calls A0 c0 h W hr hc hh hn)
 have HS := Aside0.mk (fun W hr => l02Subs_calls A0 c0 h W hr hc hh hn)
 have hF : ((pile (zs 44) h 1 h.length).take 40).length = 40 := by rw [List.length_take, pile_length, zs_length]; rfl
 have hS : ((pile (zs 44) h 1 h.length).drop 40).length = 4 := by rw [List.length_drop, pile_length, zs_length]
 rw [setsH_eq h]
 clear hr hh
 generalize (pile (zs 44) h 1 h.length).take 40 = F at *
 generalize (pile (zs 44) h 1 h.length).drop 40 = S at *
 go_enter Tryd.func92, Tryd.ntmps92
 go_wp2_with (first
  | (first | fail | ((with_reducible refine gt_alloc 4 149 ?_); refine st_alloc rfl 4 rfl 149 rfl hm zero149 ?_; clear hm; intro g4 w4 hm) | ((with_reducible refine gt_store 149 ?_); (first | (refine st_full rfl 149 _ _ rfl hm rfl rfl 0 rfl agg149 (by first | omega | assumption | (simp only [lens]; first | omega | assumption) | (simp [lens]; done) | (simp [lens]; omega)) (by first | omega | assumption | (simp only [lens]; first | omega | assumption) | (simp [lens]; done) | (simp [lens]; omega)) ?_) | (refine st_full rfl 149 _ _ rfl hm rfl rfl 1 rfl agg149 (by first | omega | assumption | (simp only [lens]; first | omega | assumption) | (simp [lens]; done) | (simp [lens]; omega)) (by first | omega | assumption | (simp only [lens]; first | omega | assumption) | (simp [lens]; done) | (simp [lens]; omega)) ?_) | (refine st_full rfl 149 _ _ rfl hm rfl rfl 2 rfl agg149 (by first | omega | assumption | (simp only [lens]; first | omega | assumption) | (simp [lens]; done) | (simp [lens]; omega)) (by first | omega | assumption | (simp only [lens]; first | omega | assumption) | (simp [lens]; done) | (simp [lens]; omega)) ?_) | (refine st_full rfl 149 _ _ rfl hm rfl rfl 3 rfl agg149 (by first | omega | assumption | (simp only [lens]; first | omega | assumption) | (simp [lens]; done) | (simp [lens]; omega)) (by first | omega | assumption | (simp only [lens]; first | omega | assumption) | (simp [lens]; done) | (simp [lens]; omega)) ?_) | (refine st_put rfl 149 _ _ rfl hm rfl rfl 0 rfl agg149 (by first | omega | assumption | (simp only [lens]; first | omega | assumption) | (simp [lens]; done) | (simp [lens]; omega)) (by first | omega | assumption | (simp only [lens]; first | omega | assumption) | (simp [lens]; done) | (simp [lens]; omega)) ?_) | (refine st_put rfl 149 _ _ rfl hm rfl rfl 1 rfl agg149 (by first | omega | assumption | (simp only [lens]; first | omega | assumption) | (simp [lens]; done) | (simp [lens]; omega)) (by first | omega | assumption | (simp only [lens]; first | omega | assumption) | (simp [lens]; done) | (simp [lens]; omega)) ?_) | (refine st_put rfl 149 _ _ rfl hm rfl rfl 2 rfl agg149 (by first | omega | assumption | (simp only [lens]; first | omega | assumption) | (simp [lens]; done) | (simp [lens]; omega)) (by first | omega | assumption | (simp only [lens]; first | omega | assumption) | (simp [lens]; done) | (simp [lens]; omega)) ?_) | (refine st_put rfl 149 _ _ rfl hm rfl rfl 3 rfl agg149 (by first | omega | assumption | (simp only [lens]; first | omega | assumption) | (simp [lens]; done) | (simp [lens]; omega)) (by first | omega | assumption | (simp only [lens]; first | omega | assumption) | (simp [lens]; done) | (simp [lens]; omega)) ?_)); clear hm; intro ws hm; simp only [List.set_cons_zero, List.set_cons_succ] at hm) | ((with_reducible refine gt_elem 149 ?_); refine st_elem rfl 149 _ _ rfl rfl rfl arr149 (by first | omega | assumption | (simp only [lens]; first | omega | assumption) | (simp [lens]; done) | (simp [lens]; omega)) (by first | omega | assumption | (simp only [lens]; first | omega | assumption) | (simp [lens]; done) | (simp [lens]; omega)) ?_) | ((with_reducible refine gt_load 2 ?_); (first | (refine st_get rfl 2 _ rfl hm rfl 0 rfl one2 (by first | omega | assumption | (simp only [lens]; first | omega | assumption) | (simp [lens]; done) | (simp [lens]; omega)) ?_) | (refine st_get rfl 2 _ rfl hm rfl 1 rfl one2 (by first | omega | assumption | (simp only [lens]; first | omega | assumption) | (simp [lens]; done) | (simp [lens]; omega)) ?_) | (refine st_get rfl 2 _ rfl hm rfl 2 rfl one2 (by first | omega | assumption | (simp only [lens]; first | omega | assumption) | (simp [lens]; done) | (simp [lens]; omega)) ?_) | (refine st_get rfl 2 _ rfl hm rfl 3 rfl one2 (by first | omega | assumption | (simp only [lens]; first | omega | assumption) | (simp [lens]; done) | (simp [lens]; omega)) ?_))) | ((with_reducible refine gt_alloc 6 152 ?_); refine st_alloc rfl 6 rfl 152 rfl hm zero152 ?_; clear hm; intro g6 w6 hm) | ((with_reducible refine gt_store 152 ?_); (first | (refine st_full rfl 152 _ _ rfl hm rfl rfl 0 rfl agg152 (by first | omega | assumption | (simp only [lens]; first | omega | assumption) | (simp [lens]; done) | (simp [lens]; omega)) (by first | omega | assumption | (simp only [lens]; first | omega | assumption) | (simp [lens]; done) | (simp [lens]; omega)) ?_) | (refine st_full rfl 152 _ _ rfl hm rfl rfl 1 rfl agg152 (by first | omega | assumption | (simp only [lens]; first | omega | assumption) | (simp [lens]; done) | (simp [lens]; omega)) (by first | omega | assumption | (simp only [lens]; first | omega | assumption) | (simp [lens]; done) | (simp [lens]; omega)) ?_) | (refine st_full rfl 152 _ _ rfl hm rfl rfl 2 rfl agg152 (by first | omega | assumption | (simp only [lens]; first | omega | assumption) | (simp [lens]; done) | (simp [lens]; omega)) (by first | omega | assumption | (simp only [lens]; first | omega | assumption) | (simp [lens]; done) | (simp [lens]; omega)) ?_) | (refine st_full rfl 152 _ _ rfl hm rfl rfl 3 rfl agg152 (by first | omega | assumption | (simp only [lens]; first | omega | assumption) | (simp [lens]; done) | (simp [lens]; omega)) (by first | omega | assumption | (simp only [lens]; first | omega | assumption) | (simp [lens]; done) | (simp [lens]; omega)) ?_) | (refine st_put rfl 152 _ _ rfl hm rfl rfl 0 rfl agg152 (by first | omega | assumption | (simp only [lens]; first | omega | assumption) | (simp [lens]; done) | (simp [lens]; omega)) (by first | omega | assumption | (simp only [lens]; first | omega | assumption) | (simp [lens]; done) | (simp [lens]; omega)) ?_) | (refine st_put rfl 152 _ _ rfl hm rfl rfl 1 rfl agg152 (by first | omega | assumption | (simp only [lens]; first | omega | assumption) | (simp [lens]; done) | (simp [lens]; omega)) (by first | omega | assumption | (simp only [lens]; first | omega | assumption) | (simp [lens]; done) | (simp [lens]; omega)) ?_) | (refine st_put rfl 152 _ _ rfl hm rfl rfl 2 rfl agg152 (by first | omega | assumption | (simp only [lens]; first | omega | assumption) | (simp [lens]; done) | (simp [lens]; omega)) (by first | omega | assumption | (simp only [lens]; first | omega | assumption) | (simp [lens]; done) | (simp [lens]; omega)) ?_) | (refine st_put rfl 152 _ _ rfl hm rfl rfl 3 rfl agg152 (by first | omega | assumption | (simp only [lens]; first | omega | assumption) | (simp [lens]; done) | (simp [lens]; omega)) (by first | omega | assumption | (simp only [lens]; first | omega | assumption) | (simp [lens]; done) | (simp [lens]; omega)) ?_)); clear hm; intro ws hm; simp only [List.set_cons_zero, List.set_cons_succ] at hm) | ((with_reducible refine gt_elem 152 ?_); refine st_elem rfl 152 _ _ rfl rfl rfl arr152 (by first | omega | assumption | (simp only [lens]; first | omega | assumption) | (simp [lens]; done) | (simp [lens]; omega)) (by first | omega | assumption | (simp only [lens]; first | omega | assumption) | (simp [lens]; done) | (simp [lens]; omega)) ?_))
  | (go_at_call 118; refine (HF.out _ (Kd.C_below HR.out (hm.done rfl))).mono ?_; rintro e wa ⟨rfl, hb⟩; replace hm := hm.after hb; clear hb))
 go_loopw [3, 5] (fun v3 v5 wr => ∃ i : Nat, i ≤ 40 ∧ v5 = .int .i64 i ∧ v3 = .int .i64 (mxs 0 F i) ∧ Mem w wr [⟨g4, vals .i64 F, 149, true⟩]) (fun _ v5 _ => 40 - (intOf v5).toNat)
 case atStart => exact ⟨0, by omega, rfl, rfl, hm⟩
 case round =>
  obtain ⟨i, hi, rfl, rfl, hm⟩ := hrel
  by_cases hlt : i < 40
  ·have HT : Aside0 (mxs 0 F (i + 1) = mx (mxs 0 F i) (rd F (i : Int))) := ⟨rfl⟩
   generalize mxs 0 F i = m at *
   go_wp2_with (first
    | (first | fail | ((with_reducible refine gt_alloc 4 149 ?_); refine st_alloc rfl 4 rfl 149 rfl hm zero149 ?_; clear hm; intro g4 w4 hm) | ((with_reducible refine gt_store 149 ?_); (first | (refine st_full rfl 149 _ _ rfl hm rfl rfl 0 rfl agg149 (by first | omega | assumption | (simp only [lens]; first | omega | assumption) | (simp [lens]; done) | (simp [lens]; omega)) (by first | omega | assumption | (simp only [lens]; first | omega | assumption) | (simp [lens]; done) | (simp [lens]; omega)) ?_) | (refine st_full rfl 149 _ _ rfl hm rfl rfl 1 rfl agg149 (by first | omega | assumption | (simp only [lens]; first | omega | assumption) | (simp [lens]; done) | (simp [lens]; omega)) (by first | omega | assumption | (simp only [lens]; first | omega | assumption) | (simp [lens]; done) | (simp [lens]; omega)) ?_) | (refine st_full rfl 149 _ _ rfl hm rfl rfl 2 rfl agg149 (by first | omega | assumption | (simp only [lens]; first | omega | assumption) | (simp [lens]; done) | (simp [lens]; omega)) (by first | omega | assumption | (simp only [lens]; first | omega | assumption) | (simp [lens]; done) | (simp [lens]; omega)) ?_) | (refine st_full rfl 149 _ _ rfl hm rfl rfl 3 rfl agg149 (by first | omega | assumption | (simp only [lens]; first | omega | assumption) | (simp [lens]; done) | (simp [lens]; omega)) (by first | omega | assumption | (simp only [lens]; first | omega | assumption) | (simp [lens]; done) | (simp [lens]; omega)) ?_) | (refine st_put rfl 149 _ _ rfl hm rfl rfl 0 rfl agg149 (by first | omega | assumption | (simp only [lens]; first | omega | assumption) | (simp [lens]; done) | (simp [lens]; omega)) (by first | omega | assumption | (simp only [lens]; first | omega | assumption) | (simp [lens]; done) | (simp [lens]; omega)) ?_) | (refine st_put rfl 149 _ _ rfl hm rfl rfl 1 rfl agg149 (by first | omega | assumption | (simp only [lens]; first | omega | assumption) | (simp [lens]; done) | (simp [lens]; omega)) (by first | omega | assumption | (simp only [lens]; first | omega | assumption) | (simp [lens]; done) | (simp [lens]; omega)) ?_) | (refine st_put rfl 149 _ _ rfl hm rfl rfl 2 rfl agg149 (by first | omega | assumption | (simp only [lens]; first | omega | assumption) | (simp [lens]; done) | (simp [lens]; omega)) (by first | omega | assumption | (simp only [lens]; first | omega | assumption) | (simp [lens]; done) | (simp [lens]; omega)) ?_) | (refine st_put rfl 149 _ _ rfl hm rfl rfl 3 rfl agg149 (by first | omega | assumption | (simp only [lens]; first | omega | assumption) | (simp [lens]; done) | (simp [lens]; omega)) (by first | omega | assumption | (simp only [lens]; first | omega | assumption) | (simp [lens]; done) | (simp [lens]; omega)) ?_)); clear hm; intro ws hm; simp only [List.set_cons_zero, List.set_cons_succ] at hm) | ((with_reducible refine gt_elem 149 ?_); refine st_elem rfl 149 _ _ rfl rfl rfl arr149 (by first | omega | assumption | (simp only [lens]; first | omega | assumption) | (simp [lens]; done) | (simp [lens]; omega)) (by first | omega | assumption | (simp only [lens]; first | omega | assumption) | (simp [lens]; done) | (simp [lens]; omega)) ?_) | ((with_reducible refine gt_load 2 ?_); (first | (refine st_get rfl 2 _ rfl hm rfl 0 rfl one2 (by first | omega | assumption | (simp only [lens]; first | omega | assumption) | (simp [lens]; done) | (simp [lens]; omega)) ?_) | (refine st_get rfl 2 _ rfl hm rfl 1 rfl one2 (by first | omega | assumption | (simp only [lens]; first | omega | assumption) | (simp [lens]; done) | (simp [lens]; omega)) ?_) | (refine st_get rfl 2 _ rfl hm rfl 2 rfl one2 (by first | omega | assumption | (simp only [lens]; first | omega | assumption) | (simp [lens]; done) | (simp [lens]; omega)) ?_) | (refine st_get rfl 2 _ rfl hm rfl 3 rfl one2 (by first | omega | assumption | (simp only [lens]; first | omega | assumption) | (simp [lens]; done) | (simp [lens]; omega)) ?_))) | ((with_reducible refine gt_alloc 6 152 ?_); refine st_alloc rfl 6 rfl 152 rfl hm zero152 ?_; clear hm; intro g6 w6 hm) | ((with_reducible refine gt_store 152 ?_); (first | (refine st_full rfl 152 _ _ rfl hm rfl rfl 0 rfl agg152 (by first | omega | assumption | (simp only [lens]; first | omega | assumption) | (simp [lens]; done) | (simp [lens]; omega)) (by first | omega | assumption | (simp only [lens]; first | omega | assumption) | (simp [lens]; done) | (simp [lens]; omega)) ?_) | (refine st_full rfl 152 _ _ rfl hm rfl rfl 1 rfl agg152 (by first | omega | assumption | (simp only [lens]; first | omega | assumption) | (simp [lens]; done) | (simp [lens]; omega)) (by first | omega | assumption | (simp only [lens]; first | omega | assumption) | (simp [lens]; done) | (simp [lens]; omega)) ?_) | (refine st_full rfl 152 _ _ rfl hm rfl rfl 2 rfl agg152 (by first | omega | assumption | (simp only [lens]; first | omega | assumption) | (simp [lens]; done) | (simp [lens]; omega)) (by first | omega | assumption | (simp only [lens]; first | omega | assumption) | (simp [lens]; done) | (simp [lens]; omega)) ?_) | (refine st_full rfl 152 _ _ rfl hm rfl rfl 3 rfl agg152 (by first | omega | assumption | (simp only [lens]; first | omega | assumption) | (simp [lens]; done) | (simp [lens]; omega)) (by first | omega | assumption | (simp only [lens]; first | omega | assumption) | (simp [lens]; done) | (simp [lens]; omega)) ?_) | (refine st_put rfl 152 _ _ rfl hm rfl rfl 0 rfl agg152 (by first | omega | assumption | (simp only [lens]; first | omega | assumption) | (simp [lens]; done) | (simp [lens]; omega)) (by first | omega | assumption | (simp only [lens]; first | omega | assumption) | (simp [lens]; done) | (simp [lens]; omega)) ?_) | (refine st_put rfl 152 _ _ rfl hm rfl rfl 1 rfl agg152 (by first | omega | assumption | (simp only [lens]; first | omega | assumption) | (simp [lens]; done) | (simp [lens]; omega)) (by first | omega | assumption | (simp only [lens]; first | omega | assumption) | (simp [lens]; done) | (simp [lens]; omega)) ?_) | (refine st_put rfl 152 _ _ rfl hm rfl rfl 2 rfl agg152 (by first | omega | assumption | (simp only [lens]; first | omega | assumption) | (simp [lens]; done) | (simp [lens]; omega)) (by first | omega | assumption | (simp only [lens]; first | omega | assumption) | (simp [lens]; done) | (simp [lens]; omega)) ?_) | (refine st_put rfl 152 _ _ rfl hm rfl rfl 3 rfl agg152 (by first | omega | assumption | (simp only [lens]; first | omega | assumption) | (simp [lens]; done) | (simp [lens]; omega)) (by first | omega | assumption | (simp only [lens]; first | omega | assumption) | (simp [lens]; done) | (simp [lens]; omega)) ?_)); clear hm; intro ws hm; simp only [List.set_cons_zero, List.set_cons_succ] at hm) | ((with_reducible refine gt_elem 152 ?_); refine st_elem rfl 152 _ _ rfl rfl rfl arr152 (by first | omega | assumption | (simp only [lens]; first | omega | assumption) | (simp [lens]; done) | (simp [lens]; omega)) (by first | omega | assumption | (simp only [lens]; first | omega | assumption) | (simp [lens]; done) | (simp [lens]; omega)) ?_))
    | (go_at_call 119; refine (l00Max_calls m (rd F (i : Int)) _).mono ?_; rintro e wa ⟨rfl, hb⟩; replace hm := hm.after hb; clear hb))
   go_roundw
   case rel => exact ⟨i + 1, by omega, by go_num, by rw [HT.out], hm⟩
   case measure => simp [intOf]; omega
  ·have HI := Aside0.mk (show i = 40 by omega)
   generalize hm1 : mxs 0 F i = m at *
   have HM := Aside0.mk hm1
   clear hm1
   go_wp2_with (first
    | (first | fail | ((with_reducible refine gt_alloc 4 149 ?_); refine st_alloc rfl 4 rfl 149 rfl hm zero149 ?_; clear hm; intro g4 w4 hm) | ((with_reducible refine gt_store 149 ?_); (first | (refine st_full rfl 149 _ _ rfl hm rfl rfl 0 rfl agg149 (by first | omega | assumption | (simp only [lens]; first | omega | assumption) | (simp [lens]; done) | (simp [lens]; omega)) (by first | omega | assumption | (simp only [lens]; first | omega | assumption) | (simp [lens]; done) | (simp [lens]; omega)) ?_) | (refine st_full rfl 149 _ _ rfl hm rfl rfl 1 rfl agg149 (by first | omega | assumption | (simp only [lens]; first | omega | assumption) | (simp [lens]; done) | (simp [lens]; omega)) (by first | omega | assumption | (simp only [lens]; first | omega | assumption) | (simp [lens]; done) | (simp [lens]; omega)) ?_) | (refine st_full rfl 149 _ _ rfl hm rfl rfl 2 rfl agg149 (by first | omega | assumption | (simp only [lens]; first | omega | assumption) | (simp [lens]; done) | (simp [lens]; omega)) (by first | omega | assumption | (simp only [lens]; first | omega | assumption) | (simp [lens]; done) | (simp [lens]; omega)) ?_) | (refine st_full rfl 149 _ _ rfl hm rfl rfl 3 rfl agg149 (by first | omega | assumption | (simp only [lens]; first | omega | assumption) | (simp [lens]; done) | (simp [lens]; omega)) (by first | omega | assumption | (simp only [lens]; first | omega | assumption) | (simp [lens]; done) | (simp [lens]; omega)) ?_) | (refine st_put rfl 149 _ _ rfl hm rfl rfl 0 rfl agg149 (by first | omega | assumption | (simp only [lens]; first | omega | assumption) | (simp [lens]; done) | (simp [lens]; omega)) (by first | omega | assumption | (simp only [lens]; first | omega | assumption) | (simp [lens]; done) | (simp [lens]; omega)) ?_) | (refine st_put rfl 149 _ _ rfl hm rfl rfl 1 rfl agg149 (by first | omega | assumption | (simp only [lens]; first | omega | assumption) | (simp [lens]; done) | (simp [lens]; omega)) (by first | omega | assumption | (simp only [lens]; first | omega | assumption) | (simp [lens]; done) | (simp [lens]; omega)) ?_) | (refine st_put rfl 149 _ _ rfl hm rfl rfl 2 rfl agg149 (by first | omega | assumption | (simp only [lens]; first | omega | assumption) | (simp [lens]; done) | (simp [lens]; omega)) (by first | omega | assumption | (simp only [lens]; first | omega | assumption) | (simp [lens]; done) | (simp [lens]; omega)) ?_) | (refine st_put rfl 149 _ _ rfl hm rfl rfl 3 rfl agg149 (by first | omega | assumption | (simp only [lens]; first | omega | assumption) | (simp [lens]; done) | (simp [lens]; omega)) (by first | omega | assumption | (simp only [lens]; first | omega | assumption) | (simp [lens]; done) | (simp [lens]; omega)) ?_)); clear hm; intro ws hm; simp only [List.set_cons_zero, List.set_cons_succ] at hm) | ((with_reducible refine gt_elem 149 ?_); refine st_elem rfl 149 _ _ rfl rfl rfl arr149 (by first | omega | assumption | (simp only [lens]; first | omega | assumption) | (simp [lens]; done) | (simp [lens]; omega)) (by first | omega | assumption | (simp only [lens]; first | omega | assumption) | (simp [lens]; done) | (simp [lens]; omega)) ?_) | ((with_reducible refine gt_load 2 ?_); (first | (refine st_get rfl 2 _ rfl hm rfl 0 rfl one2 (by first | omega | assumption | (simp only [lens]; first | omega | assumption) | (simp [lens]; done) | (simp [lens]; omega)) ?_) | (refine st_get rfl 2 _ rfl hm rfl 1 rfl one2 (by first | omega | assumption | (simp only [lens]; first | omega | assumption) | (simp [lens]; done) | (simp [lens]; omega)) ?_) | (refine st_get rfl 2 _ rfl hm rfl 2 rfl one2 (by first | omega | assumption | (simp only [lens]; first | omega | assumption) | (simp [lens]; done) | (simp [lens]; omega)) ?_) | (refine st_get rfl 2 _ rfl hm rfl 3 rfl one2 (by first | omega | assumption | (simp only [lens]; first | omega | assumption) | (simp [lens]; done) | (simp [lens]; omega)) ?_))) | ((with_reducible refine gt_alloc 6 152 ?_); refine st_alloc rfl 6 rfl 152 rfl hm zero152 ?_; clear hm; intro g6 w6 hm) | ((with_reducible refine gt_store 152 ?_); (first | (refine st_full rfl 152 _ _ rfl hm rfl rfl 0 rfl agg152 (by first | omega | assumption | (simp only [lens]; first | omega | assumption) | (simp [lens]; done) | (simp [lens]; omega)) (by first | omega | assumption | (simp only [lens]; first | omega | assumption) | (simp [lens]; done) | (simp [lens]; omega)) ?_) | (refine st_full rfl 152 _ _ rfl hm rfl rfl 1 rfl agg152 (by first | omega | assumption | (simp only [lens]; first | omega | assumption) | (simp [lens]; done) | (simp [lens]; omega)) (by first | omega | assumption | (simp only [lens]; first | omega | assumption) | (simp [lens]; done) | (simp [lens]; omega)) ?_) | (refine st_full rfl 152 _ _ rfl hm rfl rfl 2 rfl agg152 (by first | omega | assumption | (simp only [lens]; first | omega | assumption) | (simp [lens]; done) | (simp [lens]; omega)) (by first | omega | assumption | (simp only [lens]; first | omega | assumption) | (simp [lens]; done) | (simp [lens]; omega)) ?_) | (refine st_full rfl 152 _ _ rfl hm rfl rfl 3 rfl agg152 (by first | omega | assumption | (simp only [lens]; first | omega | assumption) | (simp [lens]; done) | (simp [lens]; omega)) (by first | omega | assumption | (simp only [lens]; first | omega | assumption) | (simp [lens]; done) | (simp [lens]; omega)) ?_) | (refine st_put rfl 152 _ _ rfl hm rfl rfl 0 rfl agg152 (by first | omega | assumption | (simp only [lens]; first | omega | assumption) | (simp [lens]; done) | (simp [lens]; omega)) (by first | omega | assumption | (simp only [lens]; first | omega | assumption) | (simp [lens]; done) | (simp [lens]; omega)) ?_) | (refine st_put rfl 152 _ _ rfl hm rfl rfl 1 rfl agg152 (by first | omega | assumption | (simp only [lens]; first | omega | assumption) | (simp [lens]; done) | (simp [lens]; omega)) (by first | omega | assumption | (simp only [lens]; first | omega | assumption) | (simp [lens]; done) | (simp [lens]; omega)) ?_) | (refine st_put rfl 152 _ _ rfl hm rfl rfl 2 rfl agg152 (by first | omega | assumption | (simp only [lens]; first | omega | assumption) | (simp [lens]; done) | (simp [lens]; omega)) (by first | omega | assumption | (simp only [lens]; first | omega | assumption) | (simp [lens]; done) | (simp [lens]; omega)) ?_) | (refine st_put rfl 152 _ _ rfl hm rfl rfl 3 rfl agg152 (by first | omega | assumption | (simp only [lens]; first | omega | assumption) | (simp [lens]; done) | (simp [lens]; omega)) (by first | omega | assumption | (simp only [lens]; first | omega | assumption) | (simp [lens]; done) | (simp [lens]; omega)) ?_)); clear hm; intro ws hm; simp only [List.set_cons_zero, List.set_cons_succ] at hm) | ((with_reducible refine gt_elem 152 ?_); refine st_elem rfl 152 _ _ rfl rfl rfl arr152 (by first | omega | assumption | (simp only [lens]; first | omega | assumption) | (simp [lens]; done) | (simp [lens]; omega)) (by first | omega | assumption | (simp only [lens]; first | omega | assumption) | (simp [lens]; done) | (simp [lens]; omega)) ?_))
    | (go_at_call 120; refine (HS.out _ (Kd.C_below HR.out (hm.done rfl))).mono ?_; rintro e wa ⟨rfl, hb⟩; replace hm := hm.after hb; clear hb))
   go_loopw [3, 7] (fun v3 v7 wr => ∃ i2 : Nat, i2 ≤ 4 ∧ v7 = .int .i64 i2 ∧ v3 = .int .i64 (mxs m S i2) ∧ Mem w wr [⟨g6, vals .i64 S, 152, true⟩, ⟨g4, vals .i64 F, 149, true⟩]) (fun _ v7 _ => 4 - (intOf v7).toNat)
   case atStart => exact ⟨0, by omega, rfl, rfl, hm⟩
   case round =>
    obtain ⟨i2, hi2, rfl, rfl, hm⟩ := hrel
    by_cases hlt2 : i2 < 4
    ·have HT : Aside0 (mxs m S (i2 + 1) = mx (mxs m S i2) (rd S (i2 : Int))) := ⟨rfl⟩
     generalize mxs m S i2 = m2 at *
     go_wp2_with (first
      | (first | fail | ((with_reducible refine gt_alloc 4 149 ?_); refine st_alloc rfl 4 rfl 149 rfl hm zero149 ?_; clear hm; intro g4 w4 hm) | ((with_reducible refine gt_store 149 ?_); (first | (refine st_full rfl 149 _ _ rfl hm rfl rfl 0 rfl agg149 (by first | omega | assumption | (simp only [lens]; first | omega | assumption) | (simp [lens]; done) | (simp [lens]; omega)) (by first | omega | assumption | (simp only [lens]; first | omega | assumption) | (simp [lens]; done) | (simp [lens]; omega)) ?_) | (refine st_full rfl 149 _ _ rfl hm rfl rfl 1 rfl agg149 (by first | omega | assumption | (simp only [lens]; first | omega | assumption) | (simp [lens]; done) | (simp [lens]; omega)) (by first | omega | assumption | (simp only [lens]; first | omega | assumption) | (simp [lens]; done) | (simp [lens]; omega)) ?_) | (refine st_full rfl 149 _ _ rfl hm rfl rfl 2 rfl agg149 (by first | omega | assumption | (simp only [lens]; first | omega | assumption) | (simp [lens]; done) | (simp [lens]; omega)) (by first | omega | assumption | (simp only [lens]; first | omega | assumption) | (simp [lens]; done) | (simp [lens]; omega)) ?_) | (refine st_full rfl 149 _ _ rfl hm rfl rfl 3 rfl agg149 (by first | omega | assumption | (simp only [lens]; first | omega | assumption) | (simp [lens]; done) | (simp [lens]; omega)) (by first | omega | assumption | (simp only [lens]; first | omega | assumption) | (simp [lens]; done) | (simp [lens]; omega)) ?_) | (refine st_put rfl 149 _ _ rfl hm rfl rfl 0 rfl agg149 (by first | omega | assumption | (simp only [lens]; first | omega | assumption) | (simp [lens]; done) | (simp [lens]; omega)) (by first | omega | assumption | (simp only [lens]; first | omega | assumption) | (simp [lens]; done) | (simp [lens]; omega)) ?_) | (refine st_put rfl 149 _ _ rfl hm rfl rfl 1 rfl agg149 (by first | omega | assumption | (simp only [lens]; first | omega | assumption) | (simp [lens]; done) | (simp [lens]; omega)) (by first | omega | assumption | (simp only [lens]; first | omega | assumption) | (simp [lens]; done) | (simp [lens]; omega)) ?_) | (refine st_put rfl 149 _ _ rfl hm rfl rfl 2 rfl agg149 (by first | omega | assumption | (simp only [lens]; first | omega | assumption) | (simp [lens]; done) | (simp [lens]; omega)) (by first | omega | assumption | (simp only [lens]; first | omega | assumption) | (simp [lens]; done) | (simp [lens]; omega)) ?_) | (refine st_put rfl 149 _ _ rfl hm rfl rfl 3 rfl agg149 (by first | omega | assumption | (simp only [lens]; first | omega | assumption) | (simp [lens]; done) | (simp [lens]; omega)) (by first | omega | assumption | (simp only [lens]; first | omega | assumption) | (simp [lens]; done) | (simp [lens]; omega)) ?_)); clear hm; intro ws hm; simp only [List.set_cons_zero, List.set_cons_succ] at hm) | ((with_reducible refine gt_elem 149 ?_); refine st_elem rfl 149 _ _ rfl rfl rfl arr149 (by first | omega | assumption | (simp only [lens]; first | omega | assumption) | (simp [lens]; done) | (simp [lens]; omega)) (by first | omega | assumption | (simp only [lens]; first | omega | assumption) | (simp [lens]; done) | (simp [lens]; omega)) ?_) | ((with_reducible refine gt_load 2 ?_); (first | (refine st_get rfl 2 _ rfl hm rfl 0 rfl one2 (by first | omega | assumption | (simp only [lens]; first | omega | assumption) | (simp [lens]; done) | (simp [lens]; omega)) ?_) | (refine st_get rfl 2 _ rfl hm rfl 1 rfl one2 (by first | omega | assumption | (simp only [lens]; first | omega | assumption) | (simp [lens]; done) | (simp [lens]; omega)) ?_) | (refine st_get rfl 2 _ rfl hm rfl 2 rfl one2 (by first | omega | assumption | (simp only [lens]; first | omega | assumption) | (simp [lens]; done) | (simp [lens]; omega)) ?_) | (refine st_get rfl 2 _ rfl hm rfl 3 rfl one2 (by first | omega | assumption | (simp only [lens]; first | omega | assumption) | (simp [lens]; done) | (simp [lens]; omega)) ?_))) | ((with_reducible refine gt_alloc 6 152 ?_); refine st_alloc rfl 6 rfl 152 rfl hm zero152 ?_; clear hm; intro g6 w6 hm) | ((with_reducible refine gt_store 152 ?_); (first | (refine st_full rfl 152 _ _ rfl hm rfl rfl 0 rfl agg152 (by first | omega | assumption | (simp only [lens]; first | omega | assumption) | (simp [lens]; done) | (simp [lens]; omega)) (by first | omega | assumption | (simp only [lens]; first | omega | assumption) | (simp [lens]; done) | (simp [lens]; omega)) ?_) | (refine st_full rfl 152 _ _ rfl hm rfl rfl 1 rfl agg152 (by first | omega | assumption | (simp only [lens]; first | omega | assumption) | (simp [lens]; done) | (simp [lens]; omega)) (by first | omega | assumption | (simp only [lens]; first | omega | assumption) | (simp [lens]; done) | (simp [lens]; omega)) ?_) | (refine st_full rfl 152 _ _ rfl hm rfl rfl 2 rfl agg152 (by first | omega | assumption | (simp only [lens]; first | omega | assumption) | (simp [lens]; done) | (simp [lens]; omega)) (by first | omega | assumption | (simp only [lens]; first | omega | assumption) | (simp [lens]; done) | (simp [lens]; omega)) ?_) | (refine st_full rfl 152 _ _ rfl hm rfl rfl 3 rfl agg152 (by first | omega | assumption | (simp only [lens]; first | omega | assumption) | (simp [lens]; done) | (simp [lens]; omega)) (by first | omega | assumption | (simp only [lens]; first | omega | assumption) | (simp [lens]; done) | (simp [lens]; omega)) ?_) | (refine st_put rfl 152 _ _ rfl hm rfl rfl 0 rfl agg152 (by first | omega | assumption | (simp only [lens]; first | omega | assumption) | (simp [lens]; done) | (simp [lens]; omega)) (by first | omega | assumption | (simp only [lens]; first | omega | assumption) | (simp [lens]; done) | (simp [lens]; omega)) ?_) | (refine st_put rfl 152 _ _ rfl hm rfl rfl 1 rfl agg152 (by first | omega | assumption | (simp only [lens]; first | omega | assumption) | (simp [lens]; done) | (simp [lens]; omega)) (by first | omega | assumption | (simp only [lens]; first | omega | assumption) | (simp [lens]; done) | (simp [lens]; omega)) ?_) | (refine st_put rfl 152 _ _ rfl hm rfl rfl 2 rfl agg152 (by first | omega | assumption | (simp only [lens]; first | omega | assumption) | (simp [lens]; done) | (simp [lens]; omega)) (by first | omega | assumption | (simp only [lens]; first | omega | assumption) | (simp [lens]; done) | (simp [lens]; omega)) ?_) | (refine st_put rfl 152 _ _ rfl hm rfl rfl 3 rfl agg152 (by first | omega | assumption | (simp only [lens]; first | omega | assumption) | (simp [lens]; done) | (simp [lens]; omega)) (by first | omega | assumption | (simp only [lens]; first | omega | assumption) | (simp [lens]; done) | (simp [lens]; omega)) ?_)); clear hm; intro ws hm; simp only [List.set_cons_zero, List.set_cons_succ] at hm) | ((with_reducible refine gt_elem 152 ?_); refine st_elem rfl 152 _ _ rfl rfl rfl arr152 (by first | omega | assumption | (simp only [lens]; first | omega | assumption) | (simp [lens]; done) | (simp [lens]; omega)) (by first | omega | assumption | (simp only [lens]; first | omega | assumption) | (simp [lens]; done) | (simp [lens]; omega)) ?_))
      | (go_at_call 119; refine (l00Max_calls m2 (rd S (i2 : Int)) _).mono ?_; rintro e wa ⟨rfl, hb⟩; replace hm := hm.after hb; clear hb))
     go_roundw
     case rel => exact ⟨i2 + 1, by omega, by go_num, by rw [HT.out], hm⟩
     case measure => simp [intOf]; omega
    ·have HI2 := Aside0.mk (show i2 = 4 by omega)
     generalize hm2 : mxs m S i2 = m2 at *
     have HM2 := Aside0.mk hm2
     clear hm2
     go_wp2_with (first | fail | ((with_reducible refine gt_alloc 4 149 ?_); refine st_alloc rfl 4 rfl 149 rfl hm zero149 ?_; clear hm; intro g4 w4 hm) | ((with_reducible refine gt_store 149 ?_); (first | (refine st_full rfl 149 _ _ rfl hm rfl rfl 0 rfl agg149 (by first | omega | assumption | (simp only [lens]; first | omega | assumption) | (simp [lens]; done) | (simp [lens]; omega)) (by first | omega | assumption | (simp only [lens]; first | omega | assumption) | (simp [lens]; done) | (simp [lens]; omega)) ?_) | (refine st_full rfl 149 _ _ rfl hm rfl rfl 1 rfl agg149 (by first | omega | assumption | (simp only [lens]; first | omega | assumption) | (simp [lens]; done) | (simp [lens]; omega)) (by first | omega | assumption | (simp only [lens]; first | omega | assumption) | (simp [lens]; done) | (simp [lens]; omega)) ?_) | (refine st_full rfl 149 _ _ rfl hm rfl rfl 2 rfl agg149 (by first | omega | assumption | (simp only [lens]; first | omega | assumption) | (simp [lens]; done) | (simp [lens]; omega)) (by first | omega | assumption | (simp only [lens]; first | omega | assumption) | (simp [lens]; done) | (simp [lens]; omega)) ?_) | (refine st_full rfl 149 _ _ rfl hm rfl rfl 3 rfl agg149 (by first | omega | assumption | (simp only [lens]; first | omega | assumption) | (simp [lens]; done) | (simp [lens]; omega)) (by first | omega | assumption | (simp only [lens]; first | omega | assumption) | (simp [lens]; done) | (simp [lens]; omega)) ?_) | (refine st_put rfl 149 _ _ rfl hm rfl rfl 0 rfl agg149 (by first | omega | assumption | (simp only [lens]; first | omega | assumption) | (simp [lens]; done) | (simp [lens]; omega)) (by first | omega | assumption | (simp only [lens]; first | omega | assumption) | (simp [lens]; done) | (simp [lens]; omega)) ?_) | (refine st_put rfl 149 _ _ rfl hm rfl rfl 1 rfl agg149 (by first | omega | assumption | (simp only [lens]; first | omega | assumption) | (simp [lens]; done) | (simp [lens]; omega)) (by first | omega | assumption | (simp only [lens]; first | omega | assumption) | (simp [lens]; done) | (simp [lens]; omega)) ?_) | (refine st_put rfl 149 _ _ rfl hm rfl rfl 2 rfl agg149 (by first | omega | assumption | (simp only [lens]; first | omega | assumption) | (simp [lens]; done) | (simp [lens]; omega)) (by first | omega | assumption | (simp only [lens]; first | omega | assumption) | (simp [lens]; done) | (simp [lens]; omega)) ?_) | (refine st_put rfl 149 _ _ rfl hm rfl rfl 3 rfl agg149 (by first | omega | assumption | (simp only [lens]; first | omega | assumption) | (simp [lens]; done) | (simp [lens]; omega)) (by first | omega | assumption | (simp only [lens]; first | omega | assumption) | (simp [lens]; done) | (simp [lens]; omega)) ?_)); clear hm; intro ws hm; simp only [List.set_cons_zero, List.set_cons_succ] at hm) | ((with_reducible refine gt_elem 149 ?_); refine st_elem rfl 149 _ _ rfl rfl rfl arr149 (by first | omega | assumption | (simp only [lens]; first | omega | assumption) | (simp [lens]; done) | (simp [lens]; omega)) (by first | omega | assumption | (simp only [lens]; first | omega | assumption) | (simp [lens]; done) | (simp [lens]; omega)) ?_) | ((with_reducible refine gt_load 2 ?_); (first | (refine st_get rfl 2 _ rfl hm rfl 0 rfl one2 (by first | omega | assumption | (simp only [lens]; first | omega | assumption) | (simp [lens]; done) | (simp [lens]; omega)) ?_) | (refine st_get rfl 2 _ rfl hm rfl 1 rfl one2 (by first | omega | assumption | (simp only [lens]; first | omega | assumption) | (simp [lens]; done) | (simp [lens]; omega)) ?_) | (refine st_get rfl 2 _ rfl hm rfl 2 rfl one2 (by first | omega | assumption | (simp only [lens]; first | omega | assumption) | (simp [lens]; done) | (simp [lens]; omega)) ?_) | (refine st_get rfl 2 _ rfl hm rfl 3 rfl one2 (by first | omega | assumption | (simp only [lens]; first | omega | assumption) | (simp [lens]; done) | (simp [lens]; omega)) ?_))) | ((with_reducible refine gt_alloc 6 152 ?_); refine st_alloc rfl 6 rfl 152 rfl hm zero152 ?_; clear hm; intro g6 w6 hm) | ((with_reducible refine gt_store 152 ?_); (first | (refine st_full rfl 152 _ _ rfl hm rfl rfl 0 rfl agg152 (by first | omega | assumption | (simp only [lens]; first | omega | assumption) | (simp [lens]; done) | (simp [lens]; omega)) (by first | omega | assumption | (simp only [lens]; first | omega | assumption) | (simp [lens]; done) | (simp [lens]; omega)) ?_) | (refine st_full rfl 152 _ _ rfl hm rfl rfl 1 rfl agg152 (by first | omega | assumption | (simp only [lens]; first | omega | assumption) | (simp [lens]; done) | (simp [lens]; omega)) (by first | omega | assumption | (simp only [lens]; first | omega | assumption) | (simp [lens]; done) | (simp [lens]; omega)) ?_) | (refine st_full rfl 152 _ _ rfl hm rfl rfl 2 rfl agg152 (by first | omega | assumption | (simp only [lens]; first | omega | assumption) | (simp [lens]; done) | (simp [lens]; omega)) (by first | omega | assumption | (simp only [lens]; first | omega | assumption) | (simp [lens]; done) | (simp [lens]; omega)) ?_) | (refine st_full rfl 152 _ _ rfl hm rfl rfl 3 rfl agg152 (by first | omega | assumption | (simp only [lens]; first | omega | assumption) | (simp [lens]; done) | (simp [lens]; omega)) (by first | omega | assumption | (simp only [lens]; first | omega | assumption) | (simp [lens]; done) | (simp [lens]; omega)) ?_) | (refine st_put rfl 152 _ _ rfl hm rfl rfl 0 rfl agg152 (by first | omega | assumption | (simp only [lens]; first | omega | assumption) | (simp [lens]; done) | (simp [lens]; omega)) (by first | omega | assumption | (simp only [lens]; first | omega | assumption) | (simp [lens]; done) | (simp [lens]; omega)) ?_) | (refine st_put rfl 152 _ _ rfl hm rfl rfl 1 rfl agg152 (by first | omega | assumption | (simp only [lens]; first | omega | assumption) | (simp [lens]; done) | (simp [lens]; omega)) (by first | omega | assumption | (simp only [lens]; first | omega | assumption) | (simp [lens]; done) | (simp [lens]; omega)) ?_) | (refine st_put rfl 152 _ _ rfl hm rfl rfl 2 rfl agg152 (by first | omega | assumption | (simp only [lens]; first | omega | assumption) | (simp [lens]; done) | (simp [lens]; omega)) (by first | omega | assumption | (simp only [lens]; first | omega | assumption) | (simp [lens]; done) | (simp [lens]; omega)) ?_) | (refine st_put rfl 152 _ _ rfl hm rfl rfl 3 rfl agg152 (by first | omega | assumption | (simp only [lens]; first | omega | assumption) | (simp [lens]; done) | (simp [lens]; omega)) (by first | omega | assumption | (simp only [lens]; first | omega | assumption) | (simp [lens]; done) | (simp [lens]; omega)) ?_)); clear hm; intro ws hm; simp only [List.set_cons_zero, List.set_cons_succ] at hm) | ((with_reducible refine gt_elem 152 ?_); refine st_elem rfl 152 _ _ rfl rfl rfl arr152 (by first | omega | assumption | (simp only [lens]; first | omega | assumption) | (simp [lens]; done) | (simp [lens]; omega)) (by first | omega | assumption | (simp only [lens]; first | omega | assumption) | (simp [lens]; done) | (simp [lens]; omega)) ?_))
     go_ret
     refine ⟨?_, hm.done rfl⟩
     rw [← HI.out, HM.out, ← HI2.out, HM2.out]
     rfl
end Go.Proofs.YtdgecgfgekmhcaaDoor.Arr
namespace Go.Proofs.YtdgecgfgekmhcaaDoor.Arr
open Go.RowKit Go.Proofs.YtdgecgfgekmhcaaDoorW.PrintWords Go.Proofs.YtdgecgfgekmhcaaDoorW.PrintLast Go.Proofs.YtdgecgfgekmhcaaDoor.U Go.Proofs.YtdgecgfgekmhcaaDoor.J
set_option linter.unusedVariables false
set_option linter.unusedSimpArgs false
theorem mxs_le (a b : Int) (S : List Int) : ∀ n : Nat, mxs a S n ≤ b ↔ a ≤ b ∧ ∀ j : Nat, j < n → rd S (j : Int) ≤ b
 | 0 => by simp [mxs]
 | n + 1 => by
  have ih := mxs_le a b S n
  have hm : mxs a S (n + 1) ≤ b ↔ mxs a S n ≤ b ∧ rd S (n : Int) ≤ b := by
   rw [mxs]
   unfold Arr.mx
   split <;> omega
  rw [hm, ih]
  constructor
  ·rintro ⟨⟨h1, h2⟩, h3⟩
   refine ⟨h1, fun j hj => ?_⟩
   rcases Nat.lt_or_ge j n with h | h
   ·exact h2 j h
   ·obtain rfl : j = n := by omega
    exact h3
  ·rintro ⟨h1, h2⟩
   exact ⟨⟨h1, fun j hj => h2 j (by omega)⟩, h2 n (by omega)⟩
theorem setsH_le (h : List Int) (sets : Int) : setsH h ≤ sets ↔ ∀ j : Nat, j < 44 → rd (pile (zs 44) h 1 h.length) (j : Int) ≤ sets := by
 have hl := (pile_length (zs 44) h 1 h.length).trans zs_length
 rw [setsH_eq, mxs_le, mxs_le]
 constructor
 ·rintro ⟨⟨h0, h1⟩, h2⟩ j hj
  rcases Nat.lt_or_ge j 40 with hlt | hge
  ·have := h1 j hlt
   rwa [rd_take _ j 40 hlt (by omega)] at this
  ·have := h2 (j - 40) (by omega)
   rwa [rd_drop _ (j - 40) 40 (by omega), show 40 + (j - 40) = j by omega] at this
 ·intro hall
  refine ⟨⟨?_, fun j hj => ?_⟩, fun j hj => ?_⟩
  ·have h1 := hall 0 (by omega)
   have h2 := pile_small h h.length 0 (by omega)
   omega
  ·rw [rd_take _ j 40 hj (by omega)]; exact hall j (by omega)
  ·rw [rd_drop _ j 40 (by omega)]; exact hall (40 + j) (by omega)
theorem within_sets (sets : Int) (h : List Int) (n : Int) : within sets h n = decide (setsH (h ++ [n]) ≤ sets) := by
 unfold within
 exact decide_eq_decide.2 (setsH_le (h ++ [n]) sets).symm
end Go.Proofs.YtdgecgfgekmhcaaDoor.Arr
namespace Go.Proofs.YtdgecgfgekmhcaaDoor.Arr
open Go.RowKit Go.Proofs.YtdgecgfgekmhcaaDoorW.PrintWords Go.Proofs.YtdgecgfgekmhcaaDoorW.PrintLast Go.Proofs.YtdgecgfgekmhcaaDoorW.PrintMore Go.Proofs.YtdgecgfgekmhcaaDoor.U Go.Proofs.YtdgecgfgekmhcaaDoor.J
set_option linter.unusedVariables false
set_option linter.unusedSimpArgs false
def goesS (m : List Int) (sets : Int) (subs : Nat) (d : Nat) (h : List Int) (g : Int) (l : List Int) : List (List Int) := l.flatMap fun n => if within sets h n = true then leaves m subs (within sets) d (h ++ [n]) g else []
theorem leavesS_stop (m : List Int) (sets : Int) (subs : Nat) (d : Nat) (h : List Int) (g : Int) (hb : rd m (h.length : Int) = -10) : leaves m subs (within sets) (d + 1) h g = leaves m subs (within sets) d (h ++ [-10]) ((h.length : Int) + 1) := by rw [leaves, if_pos hb]
theorem leavesS_go (m : List Int) (sets : Int) (subs : Nat) (d : Nat) (h : List Int) (g : Int) (hb : rd m (h.length : Int) ≠ -10) : leaves m subs (within sets) (d + 1) h g = goesS m sets subs d h g (opts m h.length g subs) := by rw [leaves, if_neg hb]; rfl
theorem goesS_cons (m : List Int) (sets : Int) (subs : Nat) (d : Nat) (h : List Int) (g : Int) (n : Int) (l : List Int) : goesS m sets subs d h g (n :: l) = (if within sets h n = true then leaves m subs (within sets) d (h ++ [n]) g else []) ++ goesS m sets subs d h g l := by
 unfold goesS; rw [List.flatMap_cons]
theorem flat_le {f : Int → List (List Int)} {b : Nat} (hf : ∀ n, (f n).length ≤ b) : ∀ l : List Int, (l.flatMap f).length ≤ l.length * b
 | [] => by simp
 | a :: l => by
  rw [List.flatMap_cons, List.length_append, List.length_cons, Nat.add_mul, Nat.one_mul]
  have := flat_le hf l
  have := hf a
  omega
theorem leaves_le (m : List Int) (top : Nat) (ht : top ≤ 4) (ok : List Int → Int → Bool) : ∀ (d : Nat) (h : List Int) (g : Int), (leaves m top ok d h g).length ≤ 5 ^ d
 | 0, h, g => by simp [leaves]
 | d + 1, h, g => by
  have h5 : 5 ^ (d + 1) = 5 ^ d * 5 := Nat.pow_succ ..
  rw [leaves]
  split
  ·have := leaves_le m top ht ok d (h ++ [-10]) ((h.length : Int) + 1)
   omega
  ·have h1 := flat_le (f := fun n => if ok h n = true then leaves m top ok d (h ++ [n]) g else []) (b := 5 ^ d) (fun n => by
    split
    ·exact leaves_le m top ht ok d _ _
    ·simp) (opts m h.length g top)
   have h2 : (opts m h.length g top).length ≤ 5 := by
    unfold opts
    have := subsTo_len m h.length g top
    simp; omega
   have h3 := Nat.mul_le_mul_right (5 ^ d) h2
   omega
def restO (m : List Int) (k : Nat) (g : Int) (subs : Nat) (x : Int) (i : Nat) : List Int := if i ≤ subs then subsTo m k g (subs - i) ++ [x] else []
def cs5 (Am : Option Addr) (cm : Nat) (m : List Int) (sets subs : Int) (n : Int) (vf : Value) : Array Value := #[.slice Am m.length cm, .int .i64 sets, .int .i64 subs, .int .i64 n, vf]
section
variable {P : Program} {ops : Array Oper} {rest : List Oper} {o : Oper} {a : Act} {w : World} {Q : Exit → Act → World → Prop}
theorem st_at (hgd : o.guard = none) (ty : TypeId) (x y : Operand) (ho : o.op = .store ty x y) {g i : Nat} {v : Value} {cs : Array Value} {t : TypeId} (hx : a.eval x = .pointer (some ⟨g, i, none⟩)) (hy : a.eval y = v)
  (hc : w.heap[g]? = some (.cells cs t (0, 0))) {u : Value} (hi : cs[i]? = some u) (h1 : OneTy P ty) (hv : v.cells = #[v]) (hv1 : v.oneCell' = true)
  (h : ∀ w1, w1.heap[g]? = some (.cells (cs.setIfInBounds i v) t (0, 0)) → FrB [g] w w1 → wpList P ops Q rest (a.put o.dst undef) w1) : wpList P ops Q (o :: rest) a w := by
 refine wpList_plain hgd fun K hK => ?_
 unfold Oper.wp execOp
 have hst : (storeVar ty ⟨g, i, none⟩ v).run P w = .ok () (w.setCell ⟨g, i, none⟩ v) := run_store1 h1.2 hv ((cell_of_row w g i cs t (0, 0) hc).trans hi) (frozen_of_row w g i cs t hc) hv1
 simp only [ho, hx, hy, Instr.storeAt, Instr.sureAddr, Sem.run_bind, Sem.run_pure, Result.andThen_ok, hst]
 refine hK _ _ (h _ ?_ ((FrB.refl [g] w).set _ _ (Or.inl (by simp))))
 rw [setCell_eq_setRow w g i cs t (0, 0) v hc]
 exact setRow_heap w g cs _ t (0, 0) hc
end
theorem oneH : OneTy Tryd.prog 58 := ⟨by kernel_rfl, by kernel_rfl⟩
theorem oneI64' : OneTy Tryd.prog 2 := ⟨by kernel_rfl, by kernel_rfl⟩
section
variable {wS : World} {gs : Nat} {Am : Option Addr} {cm : Nat} {m : List Int} {sets : Int} {subs : Nat} {ts : TypeId}
def SI (wS : World) (gs : Nat) (Am : Option Addr) (cm : Nat) (m : List Int) (sets : Int) (subs : Nat) (ts : TypeId) (l : List (List Int)) (w : World) : Prop :=
 ∃ vf, w.heap[gs]? = some (.cells (cs5 Am cm m sets subs l.length vf) ts (0, 0)) ∧ ∀ x, l.head? = some x → Own wS.heap.size w vf x
theorem SI.later {l : List (List Int)} {w w1 : World} (h : SI wS gs Am cm m sets subs ts l w) (hf : FrB [] w w1) : SI wS gs Am cm m sets subs ts l w1 := by
 obtain ⟨vf, h1, h2⟩ := h
 exact ⟨vf, hf.row h1 (by simp), fun x hx => own_later (h2 x hx) hf (by simp)⟩
set_option maxHeartbeats 8000000 in
set_option maxRecDepth 100000 in
theorem look_calls (hgs : gs < wS.heap.size) (hM : ∀ W, FrB [gs] wS W → Kd.C (Kd.int .i8) W Am m.length m) (hmc : m.length ≤ cm) (hm : ∀ x ∈ m, PlainN x) (hml : m.length ≤ 1000) (hs4 : subs ≤ 4) :
  ∀ (d : Nat) (h : List Int) (g : Int) (A : Option Addr) (c : Nat) (l : List (List Int)) (w : World), h.length + d = m.length → 0 ≤ g → g ≤ h.length → FrB [gs] wS w → SI wS gs Am cm m sets subs ts l w → Own wS.heap.size w (.slice A h.length c) h → (∀ x ∈ h, NumH x) → l.length + 2 * 5 ^ d ≤ 1000000000000 →
  Calls Tryd.prog 70 #[.pointer (some ⟨gs, 0, none⟩), .slice A h.length c, .int .i64 g] w fun e w' =>
   e = .returned (.tuple #[]) ∧ SI wS gs Am cm m sets subs ts (l ++ leaves m subs (within sets) d h g) w' ∧ FrB [gs] w w' := by
 intro d
 induction d with
 | zero =>
  intro h g A c l w hd hg0 hg1 hf hI ho hn hbd
  obtain ⟨vf, hcs, hfst⟩ := hI
  have c0 := cell_of_row w gs 0 _ ts (0, 0) hcs
  have c3 := cell_of_row w gs 3 _ ts (0, 0) hcs
  have HC0 := Aside0.mk hcs
  have hlen : h.length = m.length := by omega
  simp only [cs5, List.getElem?_toArray, List.getElem?_cons_zero, List.getElem?_cons_succ] at c0 c3
  have HOH := Aside0.mk ho
  have HF := Aside0.mk hf
  have HFS := Aside0.mk hfst
  have hsz := hf.size
  have hL : leaves m subs (within sets) 0 h g = [h] := rfl
  rw [hL]
  clear ho hf hcs hfst hM hm hn
  rw [← hlen] at c0
  have HLEN := Aside0.mk hlen
  have hhl : h.length ≤ 1000 := by omega
  clear hlen hd hml hmc
  cases l with
  | nil =>
   have hz : (([] : List (List Int)).length : Int) = 0 := rfl
   rw [hz] at c3
   go_enter Tryd.func70, Tryd.ntmps70
   go_wp2_with (first
    | ((with_reducible refine gate_dst (N := 25) rfl ?_); refine Kd.R_lit (Kd.int .i8) _ 22 ?hg (N := 25) ?hd (xs := ([] : List Int)) (inner := []) (ok := fun _ => True) (okp := fun _ => True) ?hr ?hp (fun _ hk => hk) trivial (Below.refl _ _) (Nat.le_refl _) (by simp) ?_; (case hd => rfl); (case hg => rfl); (case hr => first | (go_simp; done) | (go_simp; rfl)); (case hp => exact (Reps.none _ _)); intro v1 w1 ho1 hb1 _ _; have HO1 := Aside0.mk ho1; have HF1 := Aside0.mk (FrB.below (B := []) hb1); clear ho1 hb1)
    | ((with_reducible refine gate_builtin (b := .append) (xs := #[.tmp 25, .tmp 26]) rfl ?_); at_builtin; refine Kd.R_append_rows (Kd.int .i8) (w0 := w1) _ rfl (.tmp 25) (.tmp 26) 58 22 (.int .i8 0) 1 rfl Tryd.underlying58 infoI8 rfl (by decide) (by omega) v1 [] h A h.length c (fun _ => True) (fun _ => False) rfl rfl HO1.out (Kd.R_reads' (own_later HOH.out HF1.out (by simp))).2.2 (fun _ _ h => h) (fun _ h => h.elim) (fun _ _ => trivial) (Below.refl _ _) HF1.out.size (by simp; omega) ?_; intro v2 w2 ho2 hb2 hg2 hat2; obtain ⟨A2, c2, rfl⟩ := Kd.R_slice ho2; have HO2 := Aside0.mk ho2; have HF2 := Aside0.mk (HF1.out.grown hg2 (fun k hk => Kd.R_base HO1.out k hk)); clear ho2 hb2 hg2 hat2)
    | ((with_reducible refine gt_store 58 ?_); refine st_at rfl 58 _ _ rfl (i := 4) rfl rfl (HF2.out.row HC0.out (by simp)) rfl oneH rfl rfl ?_; intro w3 hc3 hf3; have c3n := (cell_of_row w3 gs 3 _ ts (0, 0) hc3); simp [cs5] at c3n; have HC3 := Aside0.mk hc3; have HF3 := Aside0.mk hf3; clear hc3 hf3)
    | ((with_reducible refine gt_store 2 ?_); refine st_at rfl 2 _ _ rfl (i := 3) rfl rfl HC3.out rfl oneI64' rfl rfl ?_; intro w4 hc4 hf4; have HC4 := Aside0.mk hc4; have HF4 := Aside0.mk hf4; clear hc4 hf4))
   refine bodyPost_ret (results_none rfl _ _ _) rfl ?_
   have hfr := HF3.out.trans HF4.out
   refine ⟨rfl, ⟨.slice A2 h.length c2, HC4.out, fun x hx => ?_⟩, (HF2.out.mono (by simp)).trans hfr⟩
   simp at hx
   subst hx
   exact own_later (own_lower HO2.out hsz) hfr (by simpa using hgs)
  | cons x l =>
   have hn0 : (((x :: l).length : Int) == 0) = false := by
    rw [beq_eq_false_iff_ne]
    rw [List.length_cons]
    omega
   have hw1 : wrap64 (((x :: l).length : Int) + 1) = ((x :: l).length : Int) + 1 := w64 (by omega) (by omega)
   have HNE := Aside0.mk (show ((x :: (l ++ [h])).length : Int) = ((x :: l).length : Int) + 1 by simp)
   generalize ((x :: l).length : Int) = n at *
   go_enter Tryd.func70, Tryd.ntmps70
   go_wp2_with ((with_reducible refine gt_store 2 ?_); refine st_at rfl 2 _ _ rfl (i := 3) rfl rfl HC0.out rfl oneI64' rfl rfl ?_; intro w4 hc4 hf4; have HC4 := Aside0.mk hc4; have HF4 := Aside0.mk hf4; clear hc4 hf4)
   refine bodyPost_ret (results_none rfl _ _ _) rfl ?_
   refine ⟨rfl, ⟨vf, by rw [HNE.out, ← hw1]; exact HC4.out, fun y hy => ?_⟩, HF4.out⟩
   exact own_later (HFS.out y (by simpa using hy)) HF4.out (by simpa using hgs)
 | succ d ih =>
  intro h g A c l w hd hg0 hg1 hf hI ho hn hbd
  have HI := Aside0.mk hI
  obtain ⟨vf, hcs, hfst⟩ := hI
  have c0 := cell_of_row w gs 0 _ ts (0, 0) hcs
  have c2s := cell_of_row w gs 2 _ ts (0, 0) hcs
  simp only [cs5, List.getElem?_toArray, List.getElem?_cons_zero, List.getElem?_cons_succ] at c0 c2s
  have hlm : h.length < m.length := by omega
  have hhl : h.length ≤ 1000 := by omega
  obtain ⟨ad, rfl, hcx⟩ := Kd.at_int (hM w hf) (h.length : Int) (by omega) (by omega)
  rw [Int.toNat_natCast] at hcx
  have hx := hm _ (by rw [rd_get m h.length hlm]; exact List.getElem_mem _ : rd m (h.length : Int) ∈ m)
  have HOH := Aside0.mk ho
  have HF := Aside0.mk hf
  have hsz := hf.size
  by_cases hb : rd m (h.length : Int) = -10
  ·rw [leavesS_stop m sets subs d h g hb]
   have HIH : Aside0 (∀ (h2 : List Int) (A3 : Option Addr) (c3 : Nat) (w3 : World), h ++ [-10] = h2 → FrB [] w w3 → Own w.heap.size w3 (.slice A3 h2.length c3) h2 → Calls Tryd.prog 70 #[.pointer (some ⟨gs, 0, none⟩), .slice A3 h2.length c3, .int .i64 ((h.length : Int) + 1)] w3 fun e w' =>
     e = .returned (.tuple #[]) ∧ SI wS gs (some ad) cm m sets subs ts (l ++ leaves m subs (within sets) d (h ++ [-10]) ((h.length : Int) + 1)) w' ∧ FrB [gs] w3 w') := ⟨fun h2 A3 c3 w3 e2 hf3 ho3 => by
    subst e2
    exact ih (h ++ [-10]) ((h.length : Int) + 1) A3 c3 l w3 (by simp; omega) (by omega) (by simp) (hf.trans (hf3.mono (by simp))) (HI.out.later hf3) (own_lower ho3 hsz) (fun y hy => by
     rcases List.mem_append.1 hy with hy | hy
     ·exact hn y hy
     ·rw [List.mem_singleton] at hy; subst hy; exact Or.inl rfl) (by have h5 : 5 ^ (d + 1) = 5 ^ d * 5 := Nat.pow_succ ..; omega)⟩
   have hsw : wrap64 ((h.length : Int) + 1) = (h.length : Int) + 1 := w64 (by omega) (by omega)
   rw [hb] at hcx
   clear hM hm hx hcs hfst ih hf ho hn hbd hd hmc hml
   go_enter Tryd.func70, Tryd.ntmps70
   go_wp2_with (first
    | ((with_reducible refine gate_dst (N := 46) rfl ?_); refine Kd.R_lit (Kd.int .i8) _ 22 ?hg (N := 46) ?hd (xs := ([] : List Int)) (inner := []) (ok := fun _ => True) (okp := fun _ => True) ?hr ?hp (fun _ hk => hk) trivial (Below.refl _ _) (Nat.le_refl _) (by simp) ?_; (case hd => rfl); (case hg => rfl); (case hr => first | (go_simp; done) | (go_simp; rfl)); (case hp => exact (Reps.none _ _)); intro v1 w1 ho1 hb1 _ _; have HO1 := Aside0.mk ho1; have HF1 := Aside0.mk (FrB.below (B := []) hb1); clear ho1 hb1)
    | ((with_reducible refine gate_builtin (b := .append) (xs := #[.tmp 46, .tmp 47]) rfl ?_); at_builtin; refine Kd.R_append_rows (Kd.int .i8) (w0 := w1) _ rfl (.tmp 46) (.tmp 47) 58 22 (.int .i8 0) 1 rfl Tryd.underlying58 infoI8 rfl (by decide) (by omega) v1 [] h A h.length c (fun _ => True) (fun _ => False) rfl rfl HO1.out (Kd.R_reads' (own_later HOH.out HF1.out (by simp))).2.2 (fun _ _ h => h) (fun _ h => h.elim) (fun _ _ => trivial) (Below.refl _ _) HF1.out.size (by simp; omega) ?_; intro v2 w2 ho2 hb2 hg2 hat2; obtain ⟨A2, c2, rfl⟩ := Kd.R_slice ho2; have HO2 := Aside0.mk ho2; have HF2 := Aside0.mk (HF1.out.grown hg2 (fun k hk => Kd.R_base HO1.out k hk)); clear ho2 hb2 hg2 hat2)
    | ((with_reducible refine gate_builtin (b := .append) (xs := #[.tmp 48, .tmp 49]) rfl ?_); (try (refine gate_guard (by rfl) ?_; dsimp only)); at_builtin; refine Kd.R_append (Kd.int .i8) (w0 := w2) _ rfl (.tmp 48) (.tmp 49) 58 22 (.int .i8 0) 1 rfl Tryd.underlying58 infoI8 rfl (by decide) (by omega) (.slice A2 h.length c2) h (-10) [.int .i8 (-10)] (fun _ => True) (fun _ => False) rfl rfl rfl (fun _ hk => hk.elim) (fun _ _ => trivial) HO2.out (Below.refl _ _) HF2.out.size (by omega) ?_; intro v3 w3 ho3 hb3 hg3 hat3; generalize hH2 : h ++ [(-10)] = h2 at ho3; have HH2 := Aside0.mk hH2; clear hH2; obtain ⟨A3, c3, rfl⟩ := Kd.R_slice ho3; have HO3 := Aside0.mk ho3; have HF3 := Aside0.mk (HF2.out.grown hg3 (fun k hk => Kd.R_base HO2.out k hk)); clear ho3 hb3 hg3 hat3)
    | (go_at_call 70; refine (HIH.out h2 A3 c3 _ HH2.out HF3.out HO3.out).mono ?_; rintro e w4 ⟨rfl, hI4, hf4⟩; have HI4 := Aside0.mk hI4; have HF4 := Aside0.mk hf4; clear hI4 hf4))
   refine bodyPost_ret (results_none rfl _ _ _) rfl ?_
   exact ⟨rfl, HI4.out, (HF3.out.mono (by simp)).trans HF4.out⟩
  ·rw [leavesS_go m sets subs d h g hb]
   have hF5 : ∀ (h2 : List Int) (g2 : Int), (leaves m subs (within sets) d h2 g2).length ≤ 5 ^ d := fun h2 g2 => leaves_le m subs hs4 (within sets) d h2 g2
   have HIH : Aside0 (∀ (h2 : List Int) (y : Int) (A3 : Option Addr) (c3 : Nat) (w3 : World) (l2 : List (List Int)), h ++ [y] = h2 → NumH y → FrB [gs] w w3 → SI wS gs (some ad) cm m sets subs ts (l ++ l2) w3 → Own wS.heap.size w3 (.slice A3 h2.length c3) h2 → l2.length ≤ 5 * 5 ^ d → Calls Tryd.prog 70 #[.pointer (some ⟨gs, 0, none⟩), .slice A3 h2.length c3, .int .i64 g] w3 fun e w' =>
     e = .returned (.tuple #[]) ∧ SI wS gs (some ad) cm m sets subs ts ((l ++ l2) ++ leaves m subs (within sets) d (h ++ [y]) g) w' ∧ FrB [gs] w3 w') := ⟨fun h2 y A3 c3 w3 l2 e2 hy hf3 hI3 ho3 hl2 => by
    subst e2
    exact ih (h ++ [y]) g A3 c3 (l ++ l2) w3 (by simp; omega) hg0 (by simp; omega) (hf.trans hf3) hI3 ho3 (fun z hz => by
     rcases List.mem_append.1 hz with hz | hz
     ·exact hn z hz
     ·rw [List.mem_singleton] at hz; subst hz; exact hy) (by have h5 : 5 ^ (d + 1) = 5 ^ d * 5 := Nat.pow_succ ..; rw [List.length_append]; omega)⟩
   have HSETS : Aside0 (∀ (h2 : List Int) (y : Int) (A3 : Option Addr) (c3 : Nat) (w3 : World), h ++ [y] = h2 → NumH y → Kd.C (Kd.int .i8) w3 A3 h2.length h2 → h2.length ≤ c3 → Calls Tryd.prog 92 #[.slice A3 h2.length c3] w3 fun e w' => e = .returned (.int .i64 (setsH h2)) ∧ Below w3.heap.size w3 w') := ⟨fun h2 y A3 c3 w3 e2 hy hC hc3 => by
    subst e2
    exact l02Sets_calls A3 c3 (h ++ [y]) w3 hC hc3 (fun z hz => by
     rcases List.mem_append.1 hz with hz | hz
     ·exact hn z hz
     ·rw [List.mem_singleton] at hz; subst hz; exact hy) (by simp; omega)⟩
   have HTOT : Aside0 ((goesS m sets subs d h g (opts m h.length g subs)).length ≤ 5 * 5 ^ d) := ⟨by
    have h1 := flat_le (f := fun n => if within sets h n = true then leaves m subs (within sets) d (h ++ [n]) g else []) (b := 5 ^ d) (fun n => by
     split
     ·exact hF5 _ _
     ·simp) (opts m h.length g subs)
    have h2 : (opts m h.length g subs).length ≤ 5 := by
     unfold opts
     have := subsTo_len m h.length g subs
     simp; omega
    exact Nat.le_trans h1 (Nat.mul_le_mul_right _ h2)⟩
   have HM := Aside0.mk hM
   have HXN := Aside0.mk hx
   have hgsl : ∀ b ∈ [gs], b < wS.heap.size := by simpa using hgs
   clear hM hm hx hcs hfst ih hf ho hn hbd hF5
   generalize hxv : rd m (h.length : Int) = x at *
   have hne0 : ((h.length : Int) == (m.length : Int)) = false := by rw [beq_eq_false_iff_ne]; omega
   have hx10 : (x == -10) = false := by rw [beq_eq_false_iff_ne]; exact hb
   have HRZ := Aside0.mk (show restO m h.length g subs x 0 = opts m h.length g subs by unfold restO opts; rw [if_pos (by omega), Nat.sub_zero, hxv])
   go_enter Tryd.func70, Tryd.ntmps70
   go_wp2_with fail
   go_loopw [7, 8, 9] (fun v7 v8 v9 wr => ∃ (i : Nat) (l2 : List (List Int)), i ≤ subs + 1 ∧ v7 = .int .i64 ((subs : Int) - i) ∧ Aside0 (l2 ++ goesS m sets subs d h g (restO m h.length g subs x i) = goesS m sets subs d h g (opts m h.length g subs)) ∧ Aside0 (SI wS gs (some ad) cm m sets subs ts (l ++ l2) wr) ∧ Aside0 (FrB [gs] w wr)) (fun v7 _ _ _ => (intOf v7 + 1).toNat)
   case atStart => exact ⟨0, [], by omega, by simp, ⟨by rw [HRZ.out, List.nil_append]⟩, ⟨by rw [List.append_nil]; exact HI.out⟩, ⟨FrB.refl _ _⟩⟩
   case round =>
    obtain ⟨i, l2, hi, rfl, HL2, HIr, HFr⟩ := hrel
    have HLL : Aside0 (l2.length ≤ 5 * 5 ^ d) := ⟨by have h1 := congrArg List.length HL2.out; rw [List.length_append] at h1; have := HTOT.out; omega⟩
    obtain ⟨vf2, hcs2, _⟩ := HIr.out
    have c0r := cell_of_row wr gs 0 _ ts (0, 0) hcs2
    have c1r := cell_of_row wr gs 1 _ ts (0, 0) hcs2
    simp only [cs5, List.getElem?_toArray, List.getElem?_cons_zero, List.getElem?_cons_succ] at c0r c1r
    have hcxr := (Kd.at_int (HM.out _ (HF.out.trans HFr.out)) (h.length : Int) (by omega) (by omega))
    rw [Int.toNat_natCast, hxv] at hcxr
    obtain ⟨ad1, e1, hcxr⟩ := hcxr
    cases e1
    have HOHr := Aside0.mk (own_later HOH.out HFr.out hgsl)
    clear hcs2
    have HNX : Aside0 (∀ n : Int, n = (subs : Int) - i → Value.int .i64 (n - 1) = .int .i64 ((subs : Int) - ((i + 1 : Nat) : Int))) := ⟨fun n hn => by subst hn; congr 1; omega⟩
    by_cases hlt : i ≤ subs
    ·by_cases hz : i = subs
     ·have hn0 : (subs : Int) - i = 0 := by omega
      have HNX := Aside0.mk (HNX.out 0 hn0.symm)
      have HMS : Aside0 ((intOf (Value.int .i64 (0 - 1)) + 1).toNat < (intOf (Value.int .i64 0) + 1).toNat) := ⟨by simp [intOf]⟩
      have HRS := Aside0.mk (show restO m h.length g subs x i = x :: restO m h.length g subs x (i + 1) by unfold restO; rw [if_pos (by omega), if_neg (by omega), show subs - i = 0 by omega]; rfl)
      have HNY := Aside0.mk (show NumH x by rcases HXN.out with h1 | h1; exact absurd h1 hb; exact Or.inr (Or.inl h1))
      rw [hn0]
      have HW0 := Aside0.mk (FrB.refl [] wr)
      have HOC := HOHr
      have HC1 := Aside0.mk c1r
      have HAP : Aside0 (∀ w3, FrB [] wr w3 → FrB [gs] w w3) := ⟨fun w3 h3 => HFr.out.trans ((HW0.out.trans h3).mono (by simp))⟩
      have HSI : Aside0 (∀ w3, FrB [] wr w3 → SI wS gs (some ad) cm m sets subs ts (l ++ l2) w3) := ⟨fun w3 h3 => HIr.out.later (HW0.out.trans h3)⟩
      by_cases hw : setsH (h ++ [x]) ≤ sets <;> have HWF := Aside0.mk hw <;> clear hw
      ·go_wp2_with (first
        | ((with_reducible refine gate_dst (N := 100) rfl ?_); refine Kd.R_lit (Kd.int .i8) _ 22 ?hg (N := 100) ?hd (xs := ([] : List Int)) (inner := []) (ok := fun _ => True) (okp := fun _ => True) ?hr ?hp (fun _ hk => hk) trivial (Below.refl _ _) (Nat.le_refl _) (by simp) ?_; (case hd => rfl); (case hg => rfl); (case hr => first | (go_simp; done) | (go_simp; rfl)); (case hp => exact (Reps.none _ _)); intro v1 w1 ho1 hb1 _ _; have HO1 := Aside0.mk ho1; have HF1 := Aside0.mk (FrB.below (B := []) hb1); clear ho1 hb1)
        | ((with_reducible refine gate_builtin (b := .append) (xs := #[.tmp 100, .tmp 101]) rfl ?_); at_builtin; refine Kd.R_append_rows (Kd.int .i8) (w0 := w1) _ rfl (.tmp 100) (.tmp 101) 58 22 (.int .i8 0) 1 rfl Tryd.underlying58 infoI8 rfl (by decide) (by omega) v1 [] h A h.length c (fun _ => True) (fun _ => False) rfl rfl HO1.out (Kd.R_reads' (own_later HOC.out HF1.out (by simp))).2.2 (fun _ _ h => h) (fun _ h => h.elim) (fun _ _ => trivial) (Below.refl _ _) HF1.out.size (by simp; omega) ?_; intro v2 w2 ho2 hb2 hg2 hat2; obtain ⟨A2, c2, rfl⟩ := Kd.R_slice ho2; have HO2 := Aside0.mk ho2; have HF2 := Aside0.mk (HF1.out.grown hg2 (fun k hk => Kd.R_base HO1.out k hk)); clear ho2 hb2 hg2 hat2)
        | ((with_reducible refine gate_builtin (b := .append) (xs := #[.tmp 102, .tmp 104]) rfl ?_); (try (refine gate_guard (by rfl) ?_; dsimp only)); at_builtin; refine Kd.R_append (Kd.int .i8) (w0 := w2) _ rfl (.tmp 102) (.tmp 104) 58 22 (.int .i8 0) 1 rfl Tryd.underlying58 infoI8 rfl (by decide) (by omega) (.slice A2 h.length c2) h x [.int .i8 x] (fun _ => True) (fun _ => False) rfl rfl rfl (fun _ hk => hk.elim) (fun _ _ => trivial) HO2.out (Below.refl _ _) HF2.out.size (by omega) ?_; intro v3 w3 ho3 hb3 hg3 hat3; generalize hH2 : h ++ [x] = h2 at ho3; have HH2 := Aside0.mk hH2; clear hH2; obtain ⟨A3, c3, rfl⟩ := Kd.R_slice ho3; have HO3 := Aside0.mk ho3; have HF3 := Aside0.mk (HF2.out.grown hg3 (fun k hk => Kd.R_base HO2.out k hk)); clear ho3 hb3 hg3 hat3))
       have hw2 : setsH h2 ≤ sets := by rw [← HH2.out]; exact HWF.out
       have hw3 := decide_eq_true hw2
       have HC3 := Aside0.mk (Kd.R_reads' HO3.out).2.1
       refine start_ (n := 7) (S := fun w' => FrB [] w3 w') (ds := []) #[false, false, false, false, false, false, false] (by kernel_rfl) rfl rfl (FrB.below (below_drew (Below.refl _ _))) (fun hHeld => ?_)
       refine pure_ (i := 0) (N := some 106) (v := ?_) (a' := ?_) #[true, false, false, false, false, false, false] rfl rfl (by kernel_rfl) (fun _ _ _ h => h) (Or.inl ⟨by rfl, ?_⟩) ?_ ?_
       rotate_left
       ·intro w'
        go_simp
        with_reducible rfl
       rotate_left
       ·simp only [Act.put, List.setIfInBounds_toArray, List.set_cons_zero, List.set_cons_succ, i64_w, i32_w]
        rfl
       refine pure_ (i := 2) (N := some 108) (v := ?_) (a' := ?_) #[true, false, true, false, false, false, false] rfl rfl (by kernel_rfl) (fun _ _ _ h => h) (Or.inl ⟨by rfl, ?_⟩) ?_ ?_
       rotate_left
       ·intro w'
        go_simp
        with_reducible rfl
       rotate_left
       ·simp only [Act.put, List.setIfInBounds_toArray, List.set_cons_zero, List.set_cons_succ, i64_w, i32_w]
        rfl
       refine pure_ (i := 3) (N := some 109) (v := ?_) (a' := ?_) #[true, false, true, true, false, false, false] rfl rfl (by kernel_rfl) (fun _ _ _ h => h) (Or.inl ⟨by rfl, ?_⟩) ?_ ?_
       rotate_left
       ·intro w'
        go_simp
        with_reducible rfl
       rotate_left
       ·simp only [Act.put, List.setIfInBounds_toArray, List.set_cons_zero, List.set_cons_succ, i64_w, i32_w]
        rfl
       refine pure_ (i := 4) (N := some 110) (v := ?_) (a' := ?_) #[true, false, true, true, true, false, false] rfl rfl (by kernel_rfl) (fun _ _ _ h => h) (Or.inl ⟨by rfl, ?_⟩) ?_ ?_
       rotate_left
       ·intro w'
        go_simp
        with_reducible rfl
       rotate_left
       ·simp only [Act.put, List.setIfInBounds_toArray, List.set_cons_zero, List.set_cons_succ, i64_w, i32_w]
        rfl
       refine take_ (i := 5) (N := some 111) (v := .int .i64 sets) (a' := ?_) #[true, false, true, true, true, true, false] rfl rfl (by kernel_rfl) (fun _ _ _ h => h) (Or.inl ⟨by rfl, ?_⟩) hHeld ?_ ?_
       ·intro w' s0
        exact y_cell (by rfl) (by rfl) oneI64' (s0.read (HF3.out.read HC1.out))
       rotate_left
       ·simp only [Act.put, List.setIfInBounds_toArray, List.set_cons_zero, List.set_cons_succ, i64_w, i32_w]
        rfl
       refine one_ (i := 1) (N := some 107) #[true, true, true, true, true, true, false] rfl rfl (by kernel_rfl) (by decide) (fun K hK => ?_)
       refine goes_ Tryd.func92 (by kernel_rfl) rfl #[.slice A3 h2.length c3] (by rfl) rfl rfl (by simp only [List.map_toArray, List.map_cons, List.map_nil]; rfl) ?_
       refine (HSETS.out h2 x A3 c3 _ HH2.out HNY.out (Kd.R_reads' (own_later HO3.out hHeld (by simp))).2.2 HC3.out).mono ?_
       rintro e w4 ⟨rfl, hb4⟩
       refine ⟨_, rfl, ?_⟩
       refine hK.out _ _ (hHeld.trans (FrB.below hb4)) (fun hHeld => ?_)
       clear hK K
       refine norm_ (a' := ?_) ?_ ?_
       rotate_left
       ·show Act.put _ (some 107) _ = _
        simp only [Act.put, List.setIfInBounds_toArray, List.set_cons_zero, List.set_cons_succ, i64_w, i32_w]
        rfl
       refine pure_ (i := 6) (N := some 112) (v := ?_) (a' := ?_) #[true, true, true, true, true, true, true] rfl rfl (by kernel_rfl) (fun _ _ _ h => h) (Or.inl ⟨by rfl, ?_⟩) ?_ ?_
       rotate_left
       ·intro w'
        go_simp
        with_reducible rfl
       rotate_left
       ·simp only [Act.put, List.setIfInBounds_toArray, List.set_cons_zero, List.set_cons_succ, i64_w, i32_w]
        rfl
       refine done_ (by kernel_rfl) ?_
       skip
       have HHD := Aside0.mk hHeld
       go_wp2_with (go_at_call 70; refine (HIH.out h2 x A3 c3 _ l2 HH2.out HNY.out (HAP.out _ (HF3.out.trans HHD.out)) (HSI.out _ (HF3.out.trans HHD.out)) (own_later (own_lower HO3.out (Nat.le_trans hsz (Nat.le_trans HFr.out.size HW0.out.size))) HHD.out (by simp)) HLL.out).mono ?_; rintro e w7 ⟨rfl, hI7, hf7⟩; have HI7 := Aside0.mk hI7; have HF7 := Aside0.mk hf7; clear hI7 hf7)
       go_roundw
       case rel => exact ⟨i + 1, l2 ++ leaves m subs (within sets) d (h ++ [x]) g, by omega, (by first | exact HNX.out | (rw [← HNX.out]; rfl)), ⟨by rw [← HL2.out, HRS.out, goesS_cons, within_sets, decide_eq_true HWF.out, if_pos rfl, List.append_assoc]⟩, ⟨by rw [← List.append_assoc]; exact HI7.out⟩, ⟨(HAP.out _ (HF3.out.trans HHD.out)).trans HF7.out⟩⟩
       case measure => first | exact HMS.out | (simp [intOf]; done)
      ·go_wp2_with (first
        | ((with_reducible refine gate_dst (N := 100) rfl ?_); refine Kd.R_lit (Kd.int .i8) _ 22 ?hg (N := 100) ?hd (xs := ([] : List Int)) (inner := []) (ok := fun _ => True) (okp := fun _ => True) ?hr ?hp (fun _ hk => hk) trivial (Below.refl _ _) (Nat.le_refl _) (by simp) ?_; (case hd => rfl); (case hg => rfl); (case hr => first | (go_simp; done) | (go_simp; rfl)); (case hp => exact (Reps.none _ _)); intro v1 w1 ho1 hb1 _ _; have HO1 := Aside0.mk ho1; have HF1 := Aside0.mk (FrB.below (B := []) hb1); clear ho1 hb1)
        | ((with_reducible refine gate_builtin (b := .append) (xs := #[.tmp 100, .tmp 101]) rfl ?_); at_builtin; refine Kd.R_append_rows (Kd.int .i8) (w0 := w1) _ rfl (.tmp 100) (.tmp 101) 58 22 (.int .i8 0) 1 rfl Tryd.underlying58 infoI8 rfl (by decide) (by omega) v1 [] h A h.length c (fun _ => True) (fun _ => False) rfl rfl HO1.out (Kd.R_reads' (own_later HOC.out HF1.out (by simp))).2.2 (fun _ _ h => h) (fun _ h => h.elim) (fun _ _ => trivial) (Below.refl _ _) HF1.out.size (by simp; omega) ?_; intro v2 w2 ho2 hb2 hg2 hat2; obtain ⟨A2, c2, rfl⟩ := Kd.R_slice ho2; have HO2 := Aside0.mk ho2; have HF2 := Aside0.mk (HF1.out.grown hg2 (fun k hk => Kd.R_base HO1.out k hk)); clear ho2 hb2 hg2 hat2)
        | ((with_reducible refine gate_builtin (b := .append) (xs := #[.tmp 102, .tmp 104]) rfl ?_); (try (refine gate_guard (by rfl) ?_; dsimp only)); at_builtin; refine Kd.R_append (Kd.int .i8) (w0 := w2) _ rfl (.tmp 102) (.tmp 104) 58 22 (.int .i8 0) 1 rfl Tryd.underlying58 infoI8 rfl (by decide) (by omega) (.slice A2 h.length c2) h x [.int .i8 x] (fun _ => True) (fun _ => False) rfl rfl rfl (fun _ hk => hk.elim) (fun _ _ => trivial) HO2.out (Below.refl _ _) HF2.out.size (by omega) ?_; intro v3 w3 ho3 hb3 hg3 hat3; generalize hH2 : h ++ [x] = h2 at ho3; have HH2 := Aside0.mk hH2; clear hH2; obtain ⟨A3, c3, rfl⟩ := Kd.R_slice ho3; have HO3 := Aside0.mk ho3; have HF3 := Aside0.mk (HF2.out.grown hg3 (fun k hk => Kd.R_base HO2.out k hk)); clear ho3 hb3 hg3 hat3))
       have hwf := HWF.out
       have hw2 : ¬ setsH h2 ≤ sets := by rw [← HH2.out]; omega
       clear hwf
       have hw3 := decide_eq_false hw2
       have hw4 := eq_false hw2
       have hw5 : sets < setsH h2 := by omega
       have HC3 := Aside0.mk (Kd.R_reads' HO3.out).2.1
       refine start_ (n := 7) (S := fun w' => FrB [] w3 w') (ds := []) #[false, false, false, false, false, false, false] (by kernel_rfl) rfl rfl (FrB.below (below_drew (Below.refl _ _))) (fun hHeld => ?_)
       refine pure_ (i := 0) (N := some 106) (v := ?_) (a' := ?_) #[true, false, false, false, false, false, false] rfl rfl (by kernel_rfl) (fun _ _ _ h => h) (Or.inl ⟨by rfl, ?_⟩) ?_ ?_
       rotate_left
       ·intro w'
        go_simp
        with_reducible rfl
       rotate_left
       ·simp only [Act.put, List.setIfInBounds_toArray, List.set_cons_zero, List.set_cons_succ, i64_w, i32_w]
        rfl
       refine pure_ (i := 2) (N := some 108) (v := ?_) (a' := ?_) #[true, false, true, false, false, false, false] rfl rfl (by kernel_rfl) (fun _ _ _ h => h) (Or.inl ⟨by rfl, ?_⟩) ?_ ?_
       rotate_left
       ·intro w'
        go_simp
        with_reducible rfl
       rotate_left
       ·simp only [Act.put, List.setIfInBounds_toArray, List.set_cons_zero, List.set_cons_succ, i64_w, i32_w]
        rfl
       refine pure_ (i := 3) (N := some 109) (v := ?_) (a' := ?_) #[true, false, true, true, false, false, false] rfl rfl (by kernel_rfl) (fun _ _ _ h => h) (Or.inl ⟨by rfl, ?_⟩) ?_ ?_
       rotate_left
       ·intro w'
        go_simp
        with_reducible rfl
       rotate_left
       ·simp only [Act.put, List.setIfInBounds_toArray, List.set_cons_zero, List.set_cons_succ, i64_w, i32_w]
        rfl
       refine pure_ (i := 4) (N := some 110) (v := ?_) (a' := ?_) #[true, false, true, true, true, false, false] rfl rfl (by kernel_rfl) (fun _ _ _ h => h) (Or.inl ⟨by rfl, ?_⟩) ?_ ?_
       rotate_left
       ·intro w'
        go_simp
        with_reducible rfl
       rotate_left
       ·simp only [Act.put, List.setIfInBounds_toArray, List.set_cons_zero, List.set_cons_succ, i64_w, i32_w]
        rfl
       refine take_ (i := 5) (N := some 111) (v := .int .i64 sets) (a' := ?_) #[true, false, true, true, true, true, false] rfl rfl (by kernel_rfl) (fun _ _ _ h => h) (Or.inl ⟨by rfl, ?_⟩) hHeld ?_ ?_
       ·intro w' s0
        exact y_cell (by rfl) (by rfl) oneI64' (s0.read (HF3.out.read HC1.out))
       rotate_left
       ·simp only [Act.put, List.setIfInBounds_toArray, List.set_cons_zero, List.set_cons_succ, i64_w, i32_w]
        rfl
       refine one_ (i := 1) (N := some 107) #[true, true, true, true, true, true, false] rfl rfl (by kernel_rfl) (by decide) (fun K hK => ?_)
       refine goes_ Tryd.func92 (by kernel_rfl) rfl #[.slice A3 h2.length c3] (by rfl) rfl rfl (by simp only [List.map_toArray, List.map_cons, List.map_nil]; rfl) ?_
       refine (HSETS.out h2 x A3 c3 _ HH2.out HNY.out (Kd.R_reads' (own_later HO3.out hHeld (by simp))).2.2 HC3.out).mono ?_
       rintro e w4 ⟨rfl, hb4⟩
       refine ⟨_, rfl, ?_⟩
       refine hK.out _ _ (hHeld.trans (FrB.below hb4)) (fun hHeld => ?_)
       clear hK K
       refine norm_ (a' := ?_) ?_ ?_
       rotate_left
       ·show Act.put _ (some 107) _ = _
        simp only [Act.put, List.setIfInBounds_toArray, List.set_cons_zero, List.set_cons_succ, i64_w, i32_w]
        rfl
       refine pure_ (i := 6) (N := some 112) (v := ?_) (a' := ?_) #[true, true, true, true, true, true, true] rfl rfl (by kernel_rfl) (fun _ _ _ h => h) (Or.inl ⟨by rfl, ?_⟩) ?_ ?_
       rotate_left
       ·intro w'
        go_simp
        with_reducible rfl
       rotate_left
       ·simp only [Act.put, List.setIfInBounds_toArray, List.set_cons_zero, List.set_cons_succ, i64_w, i32_w]
        rfl
       refine done_ (by kernel_rfl) ?_
       skip
       have HHD := Aside0.mk hHeld
       go_wp2_with fail
       go_roundw
       case rel => exact ⟨i + 1, l2, by omega, (by first | exact HNX.out | (rw [← HNX.out]; rfl)), ⟨by rw [← HL2.out, HRS.out, goesS_cons, within_sets, decide_eq_false (show ¬ setsH (h ++ [x]) ≤ sets by have := HWF.out; omega), if_neg (by simp), List.nil_append]⟩, ⟨HSI.out _ (HF3.out.trans HHD.out)⟩, ⟨HAP.out _ (HF3.out.trans HHD.out)⟩⟩
       case measure => first | exact HMS.out | (simp [intOf]; done)
     ·have hn1 : 1 ≤ (subs : Int) - i := by omega
      have hn4 : (subs : Int) - i ≤ 4 := by omega
      have HR0 := Aside0.mk (show restO m h.length g subs x i = (if subOk m h.length g (-((subs : Int) - i)) = true then [-((subs : Int) - i)] else []) ++ restO m h.length g subs x (i + 1) by
       unfold restO
       rw [if_pos (show i ≤ subs by omega), if_pos (show i + 1 ≤ subs by omega)]
       obtain ⟨t, ht⟩ : ∃ t, subs - i = t + 1 := ⟨subs - i - 1, by omega⟩
       rw [ht, show subs - (i + 1) = t by omega, subsTo, show -((t : Int) + 1) = -((subs : Int) - i) by omega, List.append_assoc])
      have HNX := Aside0.mk (HNX.out _ rfl)
      have HMS : Aside0 ((intOf (Value.int .i64 ((subs : Int) - i - 1)) + 1).toNat < (intOf (Value.int .i64 ((subs : Int) - i)) + 1).toNat) := ⟨by simp only [intOf]; omega⟩
      generalize (subs : Int) - i = n at *
      have hv1 : wrap64 (-n) = -n := w64 (by omega) (by omega)
      have hv2 : IntKind.i8.wrap (-n) = -n := i8w (by omega) (by omega)
      have hv3 : wrap64 (g + n) = g + n := w64 (by omega) (by omega)
      have hv4 : wrap64 (g + n - 1) = g + n - 1 := w64 (by omega) (by omega)
      have hv5 : (n == 0) = false := by rw [beq_eq_false_iff_ne]; omega
      have HNY := Aside0.mk (show NumH (-n) from Or.inr (Or.inr (by omega)))
      have hp0 : 1 ≤ g + n := by omega
      have HSO : Aside0 (subOk m h.length g (-n) = decide (g + n - 1 < (h.length : Int) ∧ rd m (g + n - 1) = x)) := ⟨by unfold subOk; rw [hxv, show g - -n - 1 = g + n - 1 by omega]⟩
      by_cases hat : g + n - 1 < (h.length : Int)
      ·have hca := Kd.at_int (HM.out _ (HF.out.trans HFr.out)) (g + n - 1) (by omega) (by omega)
       rw [show (g + n - 1).toNat = (g + n).toNat - 1 by omega] at hca
       obtain ⟨ad2, e2, hca⟩ := hca
       cases e2
       have hge1 : decide ((h.length : Int) ≤ g + n - 1) = false := decide_eq_false (by omega)
       have hge2 : decide ((h.length : Int) < g + n) = false := decide_eq_false (by omega)
       have hge3 : ¬ ((h.length : Int) < g + n) := by omega
       have hpm1 : g + n - 1 < (m.length : Int) := by omega
       have hpm2 : g + n ≤ (m.length : Int) := by omega
       generalize rd m (g + n - 1) = y at *
       by_cases heq : y = x
       ·subst heq
        have HRS := Aside0.mk (show restO m h.length g subs y i = -n :: restO m h.length g subs y (i + 1) by rw [HR0.out, if_pos (by rw [HSO.out]; exact decide_eq_true ⟨hat, rfl⟩)]; rfl)
        go_wp2_with fail
        refine start_ (n := 26) (S := fun w' => FrB [] wr w') (ds := []) #[false, false, false, false, false, false, false, false, false, false, false, false, false, false, false, false, false, false, false, false, false, false, false, false, false, false] (by kernel_rfl) rfl rfl (FrB.below (below_drew (Below.refl _ _))) (fun hHeld => ?_)
        refine pure_ (i := 0) (N := some 74) (v := ?_) (a' := ?_) #[true, false, false, false, false, false, false, false, false, false, false, false, false, false, false, false, false, false, false, false, false, false, false, false, false, false] rfl rfl (by kernel_rfl) (fun _ _ _ h => h) (Or.inl ⟨by rfl, ?_⟩) ?_ ?_
        rotate_left
        ·intro w'
         go_simp
         with_reducible rfl
        rotate_left
        ·simp only [Act.put, List.setIfInBounds_toArray, List.set_cons_zero, List.set_cons_succ, i64_w, i32_w]
         rfl
        refine pure_ (i := 1) (N := some 75) (v := ?_) (a' := ?_) #[true, true, false, false, false, false, false, false, false, false, false, false, false, false, false, false, false, false, false, false, false, false, false, false, false, false] rfl rfl (by kernel_rfl) (fun _ _ _ h => h) (Or.inl ⟨by rfl, ?_⟩) ?_ ?_
        rotate_left
        ·intro w'
         go_simp
         with_reducible rfl
        rotate_left
        ·simp only [Act.put, List.setIfInBounds_toArray, List.set_cons_zero, List.set_cons_succ, i64_w, i32_w]
         rfl
        refine pure_ (i := 2) (N := some 76) (v := ?_) (a' := ?_) #[true, true, true, false, false, false, false, false, false, false, false, false, false, false, false, false, false, false, false, false, false, false, false, false, false, false] rfl rfl (by kernel_rfl) (fun _ _ _ h => h) (Or.inl ⟨by rfl, ?_⟩) ?_ ?_
        rotate_left
        ·intro w'
         go_simp
         with_reducible rfl
        rotate_left
        ·simp only [Act.put, List.setIfInBounds_toArray, List.set_cons_zero, List.set_cons_succ, i64_w, i32_w]
         rfl
        refine pure_ (i := 3) (N := some 77) (v := ?_) (a' := ?_) #[true, true, true, true, false, false, false, false, false, false, false, false, false, false, false, false, false, false, false, false, false, false, false, false, false, false] rfl rfl (by kernel_rfl) (fun _ _ _ h => h) (Or.inl ⟨by rfl, ?_⟩) ?_ ?_
        rotate_left
        ·intro w'
         go_simp
         with_reducible rfl
        rotate_left
        ·simp only [Act.put, List.setIfInBounds_toArray, List.set_cons_zero, List.set_cons_succ, i64_w, i32_w]
         rfl
        refine pure_ (i := 4) (N := some 78) (v := ?_) (a' := ?_) #[true, true, true, true, true, false, false, false, false, false, false, false, false, false, false, false, false, false, false, false, false, false, false, false, false, false] rfl rfl (by kernel_rfl) (fun _ _ _ h => h) (Or.inl ⟨by rfl, ?_⟩) ?_ ?_
        rotate_left
        ·intro w'
         go_simp
         with_reducible rfl
        rotate_left
        ·simp only [Act.put, List.setIfInBounds_toArray, List.set_cons_zero, List.set_cons_succ, i64_w, i32_w]
         rfl
        refine pure_ (i := 5) (N := some 79) (v := ?_) (a' := ?_) #[true, true, true, true, true, true, false, false, false, false, false, false, false, false, false, false, false, false, false, false, false, false, false, false, false, false] rfl rfl (by kernel_rfl) (fun _ _ _ h => h) (Or.inl ⟨by rfl, ?_⟩) ?_ ?_
        rotate_left
        ·intro w'
         go_simp
         with_reducible rfl
        rotate_left
        ·simp only [Act.put, List.setIfInBounds_toArray, List.set_cons_zero, List.set_cons_succ, i64_w, i32_w]
         rfl
        refine pure_ (i := 6) (N := some 80) (v := ?_) (a' := ?_) #[true, true, true, true, true, true, true, false, false, false, false, false, false, false, false, false, false, false, false, false, false, false, false, false, false, false] rfl rfl (by kernel_rfl) (fun _ _ _ h => h) (Or.inl ⟨by rfl, ?_⟩) ?_ ?_
        rotate_left
        ·intro w'
         go_simp
         with_reducible rfl
        rotate_left
        ·simp only [Act.put, List.setIfInBounds_toArray, List.set_cons_zero, List.set_cons_succ, i64_w, i32_w]
         rfl
        refine pure_ (i := 7) (N := some 81) (v := ?_) (a' := ?_) #[true, true, true, true, true, true, true, true, false, false, false, false, false, false, false, false, false, false, false, false, false, false, false, false, false, false] rfl rfl (by kernel_rfl) (fun _ _ _ h => h) (Or.inl ⟨by rfl, ?_⟩) ?_ ?_
        rotate_left
        ·intro w'
         go_simp
         with_reducible rfl
        rotate_left
        ·simp only [Act.put, List.setIfInBounds_toArray, List.set_cons_zero, List.set_cons_succ, i64_w, i32_w]
         rfl
        refine pure_ (i := 8) (N := some 82) (v := ?_) (a' := ?_) #[true, true, true, true, true, true, true, true, true, false, false, false, false, false, false, false, false, false, false, false, false, false, false, false, false, false] rfl rfl (by kernel_rfl) (fun _ _ _ h => h) (Or.inl ⟨by rfl, ?_⟩) ?_ ?_
        rotate_left
        ·intro w'
         go_simp
         with_reducible rfl
        rotate_left
        ·simp only [Act.put, List.setIfInBounds_toArray, List.set_cons_zero, List.set_cons_succ, i64_w, i32_w]
         rfl
        refine pure_ (i := 9) (N := some 83) (v := ?_) (a' := ?_) #[true, true, true, true, true, true, true, true, true, true, false, false, false, false, false, false, false, false, false, false, false, false, false, false, false, false] rfl rfl (by kernel_rfl) (fun _ _ _ h => h) (Or.inl ⟨by rfl, ?_⟩) ?_ ?_
        rotate_left
        ·intro w'
         go_simp
         with_reducible rfl
        rotate_left
        ·simp only [Act.put, List.setIfInBounds_toArray, List.set_cons_zero, List.set_cons_succ, i64_w, i32_w]
         rfl
        refine pure_ (i := 11) (N := some 85) (v := ?_) (a' := ?_) #[true, true, true, true, true, true, true, true, true, true, false, true, false, false, false, false, false, false, false, false, false, false, false, false, false, false] rfl rfl (by kernel_rfl) (fun _ _ _ h => h) (Or.inl ⟨by rfl, ?_⟩) ?_ ?_
        rotate_left
        ·intro w'
         go_simp
         with_reducible rfl
        rotate_left
        ·simp only [Act.put, List.setIfInBounds_toArray, List.set_cons_zero, List.set_cons_succ, i64_w, i32_w]
         rfl
        refine pure_ (i := 12) (N := some 86) (v := ?_) (a' := ?_) #[true, true, true, true, true, true, true, true, true, true, false, true, true, false, false, false, false, false, false, false, false, false, false, false, false, false] rfl rfl (by kernel_rfl) (fun _ _ _ h => h) (Or.inl ⟨by rfl, ?_⟩) ?_ ?_
        rotate_left
        ·intro w'
         go_simp
         with_reducible rfl
        rotate_left
        ·simp only [Act.put, List.setIfInBounds_toArray, List.set_cons_zero, List.set_cons_succ, i64_w, i32_w]
         rfl
        refine pure_ (i := 13) (N := some 87) (v := ?_) (a' := ?_) #[true, true, true, true, true, true, true, true, true, true, false, true, true, true, false, false, false, false, false, false, false, false, false, false, false, false] rfl rfl (by kernel_rfl) (fun _ _ _ h => h) (Or.inl ⟨by rfl, ?_⟩) ?_ ?_
        rotate_left
        ·intro w'
         go_simp
         with_reducible rfl
        rotate_left
        ·simp only [Act.put, List.setIfInBounds_toArray, List.set_cons_zero, List.set_cons_succ, i64_w, i32_w]
         rfl
        refine pure_ (i := 14) (N := some 88) (v := ?_) (a' := ?_) #[true, true, true, true, true, true, true, true, true, true, false, true, true, true, true, false, false, false, false, false, false, false, false, false, false, false] rfl rfl (by kernel_rfl) (fun _ _ _ h => h) (Or.inl ⟨by rfl, ?_⟩) ?_ ?_
        rotate_left
        ·intro w'
         go_simp
         with_reducible rfl
        rotate_left
        ·simp only [Act.put, List.setIfInBounds_toArray, List.set_cons_zero, List.set_cons_succ, i64_w, i32_w]
         rfl
        refine pure_ (i := 17) (N := some 91) (v := ?_) (a' := ?_) #[true, true, true, true, true, true, true, true, true, true, false, true, true, true, true, false, false, true, false, false, false, false, false, false, false, false] rfl rfl (by kernel_rfl) (fun _ _ _ h => h) (Or.inl ⟨by rfl, ?_⟩) ?_ ?_
        rotate_left
        ·intro w'
         go_simp
         with_reducible rfl
        rotate_left
        ·simp only [Act.put, List.setIfInBounds_toArray, List.set_cons_zero, List.set_cons_succ, i64_w, i32_w]
         rfl
        refine pure_ (i := 18) (N := some 92) (v := ?_) (a' := ?_) #[true, true, true, true, true, true, true, true, true, true, false, true, true, true, true, false, false, true, true, false, false, false, false, false, false, false] rfl rfl (by kernel_rfl) (fun _ _ _ h => h) (Or.inl ⟨by rfl, ?_⟩) ?_ ?_
        rotate_left
        ·intro w'
         go_simp
         with_reducible rfl
        rotate_left
        ·simp only [Act.put, List.setIfInBounds_toArray, List.set_cons_zero, List.set_cons_succ, i64_w, i32_w]
         rfl
        refine pure_ (i := 19) (N := some 93) (v := ?_) (a' := ?_) #[true, true, true, true, true, true, true, true, true, true, false, true, true, true, true, false, false, true, true, true, false, false, false, false, false, false] rfl rfl (by kernel_rfl) (fun _ _ _ h => h) (Or.inl ⟨by rfl, ?_⟩) ?_ ?_
        rotate_left
        ·intro w'
         go_simp
         with_reducible rfl
        rotate_left
        ·simp only [Act.put, List.setIfInBounds_toArray, List.set_cons_zero, List.set_cons_succ, i64_w, i32_w]
         rfl
        refine pure_ (i := 21) (N := some 95) (v := ?_) (a' := ?_) #[true, true, true, true, true, true, true, true, true, true, false, true, true, true, true, false, false, true, true, true, false, true, false, false, false, false] rfl rfl (by kernel_rfl) (fun _ _ _ h => h) (Or.inl ⟨by rfl, ?_⟩) ?_ ?_
        rotate_left
        ·intro w'
         go_simp
         with_reducible rfl
        rotate_left
        ·simp only [Act.put, List.setIfInBounds_toArray, List.set_cons_zero, List.set_cons_succ, i64_w, i32_w]
         rfl
        refine take_ (i := 10) (N := some 84) (v := .slice (some ad) m.length cm) (a' := ?_) #[true, true, true, true, true, true, true, true, true, true, true, true, true, true, true, false, false, true, true, true, false, true, false, false, false, false] rfl rfl (by kernel_rfl) (fun _ _ _ h => h) (Or.inl ⟨by rfl, ?_⟩) hHeld ?_ ?_
        ·intro w' s0
         exact y_cell (by rfl) (by rfl) oneMean (s0.read c0r)
        rotate_left
        ·simp only [Act.put, List.setIfInBounds_toArray, List.set_cons_zero, List.set_cons_succ, i64_w, i32_w]
         rfl
        refine pure_ (i := 15) (N := some 89) (v := ?_) (a' := ?_) #[true, true, true, true, true, true, true, true, true, true, true, true, true, true, true, true, false, true, true, true, false, true, false, false, false, false] rfl rfl (by kernel_rfl) (fun _ _ _ h => h) (Or.inl ⟨by rfl, ?_⟩) ?_ ?_
        rotate_left
        ·intro w'
         go_simp
         with_reducible rfl
        rotate_left
        ·simp only [Act.put, List.setIfInBounds_toArray, List.set_cons_zero, List.set_cons_succ, i64_w, i32_w]
         rfl
        refine take_ (i := 16) (N := some 90) (v := .int .i8 y) (a' := ?_) #[true, true, true, true, true, true, true, true, true, true, true, true, true, true, true, true, true, true, true, true, false, true, false, false, false, false] rfl rfl (by kernel_rfl) (fun _ _ _ h => h) (Or.inl ⟨by rfl, ?_⟩) hHeld ?_ ?_
        ·intro w' s0
         exact y_cell (by rfl) (by rfl) oneI8 (s0.read hca)
        rotate_left
        ·simp only [Act.put, List.setIfInBounds_toArray, List.set_cons_zero, List.set_cons_succ, i64_w, i32_w]
         rfl
        refine take_ (i := 20) (N := some 94) (v := .slice (some ad) m.length cm) (a' := ?_) #[true, true, true, true, true, true, true, true, true, true, true, true, true, true, true, true, true, true, true, true, true, true, false, false, false, false] rfl rfl (by kernel_rfl) (fun _ _ _ h => h) (Or.inl ⟨by rfl, ?_⟩) hHeld ?_ ?_
        ·intro w' s0
         exact y_cell (by rfl) (by rfl) oneMean (s0.read c0r)
        rotate_left
        ·simp only [Act.put, List.setIfInBounds_toArray, List.set_cons_zero, List.set_cons_succ, i64_w, i32_w]
         rfl
        refine pure_ (i := 22) (N := some 96) (v := ?_) (a' := ?_) #[true, true, true, true, true, true, true, true, true, true, true, true, true, true, true, true, true, true, true, true, true, true, true, false, false, false] rfl rfl (by kernel_rfl) (fun _ _ _ h => h) (Or.inl ⟨by rfl, ?_⟩) ?_ ?_
        rotate_left
        ·intro w'
         go_simp
         with_reducible rfl
        rotate_left
        ·simp only [Act.put, List.setIfInBounds_toArray, List.set_cons_zero, List.set_cons_succ, i64_w, i32_w]
         rfl
        refine take_ (i := 23) (N := some 97) (v := .int .i8 y) (a' := ?_) #[true, true, true, true, true, true, true, true, true, true, true, true, true, true, true, true, true, true, true, true, true, true, true, true, false, false] rfl rfl (by kernel_rfl) (fun _ _ _ h => h) (Or.inl ⟨by rfl, ?_⟩) hHeld ?_ ?_
        ·intro w' s0
         exact y_cell (by rfl) (by rfl) oneI8 (s0.read hcxr)
        rotate_left
        ·simp only [Act.put, List.setIfInBounds_toArray, List.set_cons_zero, List.set_cons_succ, i64_w, i32_w]
         rfl
        refine pure_ (i := 24) (N := some 98) (v := ?_) (a' := ?_) #[true, true, true, true, true, true, true, true, true, true, true, true, true, true, true, true, true, true, true, true, true, true, true, true, true, false] rfl rfl (by kernel_rfl) (fun _ _ _ h => h) (Or.inl ⟨by rfl, ?_⟩) ?_ ?_
        rotate_left
        ·intro w'
         go_simp
         with_reducible rfl
        rotate_left
        ·simp only [Act.put, List.setIfInBounds_toArray, List.set_cons_zero, List.set_cons_succ, i64_w, i32_w]
         rfl
        refine pure_ (i := 25) (N := some 99) (v := ?_) (a' := ?_) #[true, true, true, true, true, true, true, true, true, true, true, true, true, true, true, true, true, true, true, true, true, true, true, true, true, true] rfl rfl (by kernel_rfl) (fun _ _ _ h => h) (Or.inl ⟨by rfl, ?_⟩) ?_ ?_
        rotate_left
        ·intro w'
         go_simp
         with_reducible rfl
        rotate_left
        ·simp only [Act.put, List.setIfInBounds_toArray, List.set_cons_zero, List.set_cons_succ, i64_w, i32_w]
         rfl
        refine done_ (by kernel_rfl) ?_
        skip
        have HW0 := Aside0.mk hHeld
        have HOC := Aside0.mk (own_later HOHr.out HW0.out (by simp))
        have HC1 := Aside0.mk (HW0.out.read c1r)
        clear hHeld
        generalize wr.drew = wd at *
        have HAP : Aside0 (∀ w3, FrB [] wd w3 → FrB [gs] w w3) := ⟨fun w3 h3 => HFr.out.trans ((HW0.out.trans h3).mono (by simp))⟩
        have HSI : Aside0 (∀ w3, FrB [] wd w3 → SI wS gs (some ad) cm m sets subs ts (l ++ l2) w3) := ⟨fun w3 h3 => HIr.out.later (HW0.out.trans h3)⟩
        by_cases hw : setsH (h ++ [(-n)]) ≤ sets <;> have HWF := Aside0.mk hw <;> clear hw
        ·go_wp2_with (first
          | ((with_reducible refine gate_dst (N := 100) rfl ?_); refine Kd.R_lit (Kd.int .i8) _ 22 ?hg (N := 100) ?hd (xs := ([] : List Int)) (inner := []) (ok := fun _ => True) (okp := fun _ => True) ?hr ?hp (fun _ hk => hk) trivial (Below.refl _ _) (Nat.le_refl _) (by simp) ?_; (case hd => rfl); (case hg => rfl); (case hr => first | (go_simp; done) | (go_simp; rfl)); (case hp => exact (Reps.none _ _)); intro v1 w1 ho1 hb1 _ _; have HO1 := Aside0.mk ho1; have HF1 := Aside0.mk (FrB.below (B := []) hb1); clear ho1 hb1)
          | ((with_reducible refine gate_builtin (b := .append) (xs := #[.tmp 100, .tmp 101]) rfl ?_); at_builtin; refine Kd.R_append_rows (Kd.int .i8) (w0 := w1) _ rfl (.tmp 100) (.tmp 101) 58 22 (.int .i8 0) 1 rfl Tryd.underlying58 infoI8 rfl (by decide) (by omega) v1 [] h A h.length c (fun _ => True) (fun _ => False) rfl rfl HO1.out (Kd.R_reads' (own_later HOC.out HF1.out (by simp))).2.2 (fun _ _ h => h) (fun _ h => h.elim) (fun _ _ => trivial) (Below.refl _ _) HF1.out.size (by simp; omega) ?_; intro v2 w2 ho2 hb2 hg2 hat2; obtain ⟨A2, c2, rfl⟩ := Kd.R_slice ho2; have HO2 := Aside0.mk ho2; have HF2 := Aside0.mk (HF1.out.grown hg2 (fun k hk => Kd.R_base HO1.out k hk)); clear ho2 hb2 hg2 hat2)
          | ((with_reducible refine gate_builtin (b := .append) (xs := #[.tmp 102, .tmp 104]) rfl ?_); (try (refine gate_guard (by rfl) ?_; dsimp only)); at_builtin; refine Kd.R_append (Kd.int .i8) (w0 := w2) _ rfl (.tmp 102) (.tmp 104) 58 22 (.int .i8 0) 1 rfl Tryd.underlying58 infoI8 rfl (by decide) (by omega) (.slice A2 h.length c2) h (-n) [.int .i8 (-n)] (fun _ => True) (fun _ => False) rfl rfl rfl (fun _ hk => hk.elim) (fun _ _ => trivial) HO2.out (Below.refl _ _) HF2.out.size (by omega) ?_; intro v3 w3 ho3 hb3 hg3 hat3; generalize hH2 : h ++ [(-n)] = h2 at ho3; have HH2 := Aside0.mk hH2; clear hH2; obtain ⟨A3, c3, rfl⟩ := Kd.R_slice ho3; have HO3 := Aside0.mk ho3; have HF3 := Aside0.mk (HF2.out.grown hg3 (fun k hk => Kd.R_base HO2.out k hk)); clear ho3 hb3 hg3 hat3))
         have hw2 : setsH h2 ≤ sets := by rw [← HH2.out]; exact HWF.out
         have hw3 := decide_eq_true hw2
         have HC3 := Aside0.mk (Kd.R_reads' HO3.out).2.1
         refine start_ (n := 7) (S := fun w' => FrB [] w3 w') (ds := []) #[false, false, false, false, false, false, false] (by kernel_rfl) rfl rfl (FrB.below (below_drew (Below.refl _ _))) (fun hHeld => ?_)
         refine pure_ (i := 0) (N := some 106) (v := ?_) (a' := ?_) #[true, false, false, false, false, false, false] rfl rfl (by kernel_rfl) (fun _ _ _ h => h) (Or.inl ⟨by rfl, ?_⟩) ?_ ?_
         rotate_left
         ·intro w'
          go_simp
          with_reducible rfl
         rotate_left
         ·simp only [Act.put, List.setIfInBounds_toArray, List.set_cons_zero, List.set_cons_succ, i64_w, i32_w]
          rfl
         refine pure_ (i := 2) (N := some 108) (v := ?_) (a' := ?_) #[true, false, true, false, false, false, false] rfl rfl (by kernel_rfl) (fun _ _ _ h => h) (Or.inl ⟨by rfl, ?_⟩) ?_ ?_
         rotate_left
         ·intro w'
          go_simp
          with_reducible rfl
         rotate_left
         ·simp only [Act.put, List.setIfInBounds_toArray, List.set_cons_zero, List.set_cons_succ, i64_w, i32_w]
          rfl
         refine pure_ (i := 3) (N := some 109) (v := ?_) (a' := ?_) #[true, false, true, true, false, false, false] rfl rfl (by kernel_rfl) (fun _ _ _ h => h) (Or.inl ⟨by rfl, ?_⟩) ?_ ?_
         rotate_left
         ·intro w'
          go_simp
          with_reducible rfl
         rotate_left
         ·simp only [Act.put, List.setIfInBounds_toArray, List.set_cons_zero, List.set_cons_succ, i64_w, i32_w]
          rfl
         refine pure_ (i := 4) (N := some 110) (v := ?_) (a' := ?_) #[true, false, true, true, true, false, false] rfl rfl (by kernel_rfl) (fun _ _ _ h => h) (Or.inl ⟨by rfl, ?_⟩) ?_ ?_
         rotate_left
         ·intro w'
          go_simp
          with_reducible rfl
         rotate_left
         ·simp only [Act.put, List.setIfInBounds_toArray, List.set_cons_zero, List.set_cons_succ, i64_w, i32_w]
          rfl
         refine take_ (i := 5) (N := some 111) (v := .int .i64 sets) (a' := ?_) #[true, false, true, true, true, true, false] rfl rfl (by kernel_rfl) (fun _ _ _ h => h) (Or.inl ⟨by rfl, ?_⟩) hHeld ?_ ?_
         ·intro w' s0
          exact y_cell (by rfl) (by rfl) oneI64' (s0.read (HF3.out.read HC1.out))
         rotate_left
         ·simp only [Act.put, List.setIfInBounds_toArray, List.set_cons_zero, List.set_cons_succ, i64_w, i32_w]
          rfl
         refine one_ (i := 1) (N := some 107) #[true, true, true, true, true, true, false] rfl rfl (by kernel_rfl) (by decide) (fun K hK => ?_)
         refine goes_ Tryd.func92 (by kernel_rfl) rfl #[.slice A3 h2.length c3] (by rfl) rfl rfl (by simp only [List.map_toArray, List.map_cons, List.map_nil]; rfl) ?_
         refine (HSETS.out h2 (-n) A3 c3 _ HH2.out HNY.out (Kd.R_reads' (own_later HO3.out hHeld (by simp))).2.2 HC3.out).mono ?_
         rintro e w4 ⟨rfl, hb4⟩
         refine ⟨_, rfl, ?_⟩
         refine hK.out _ _ (hHeld.trans (FrB.below hb4)) (fun hHeld => ?_)
         clear hK K
         refine norm_ (a' := ?_) ?_ ?_
         rotate_left
         ·show Act.put _ (some 107) _ = _
          simp only [Act.put, List.setIfInBounds_toArray, List.set_cons_zero, List.set_cons_succ, i64_w, i32_w]
          rfl
         refine pure_ (i := 6) (N := some 112) (v := ?_) (a' := ?_) #[true, true, true, true, true, true, true] rfl rfl (by kernel_rfl) (fun _ _ _ h => h) (Or.inl ⟨by rfl, ?_⟩) ?_ ?_
         rotate_left
         ·intro w'
          go_simp
          with_reducible rfl
         rotate_left
         ·simp only [Act.put, List.setIfInBounds_toArray, List.set_cons_zero, List.set_cons_succ, i64_w, i32_w]
          rfl
         refine done_ (by kernel_rfl) ?_
         skip
         have HHD := Aside0.mk hHeld
         go_wp2_with (go_at_call 70; refine (HIH.out h2 (-n) A3 c3 _ l2 HH2.out HNY.out (HAP.out _ (HF3.out.trans HHD.out)) (HSI.out _ (HF3.out.trans HHD.out)) (own_later (own_lower HO3.out (Nat.le_trans hsz (Nat.le_trans HFr.out.size HW0.out.size))) HHD.out (by simp)) HLL.out).mono ?_; rintro e w7 ⟨rfl, hI7, hf7⟩; have HI7 := Aside0.mk hI7; have HF7 := Aside0.mk hf7; clear hI7 hf7)
         go_roundw
         case rel => exact ⟨i + 1, l2 ++ leaves m subs (within sets) d (h ++ [(-n)]) g, by omega, (by first | exact HNX.out | (rw [← HNX.out]; rfl)), ⟨by rw [← HL2.out, HRS.out, goesS_cons, within_sets, decide_eq_true HWF.out, if_pos rfl, List.append_assoc]⟩, ⟨by rw [← List.append_assoc]; exact HI7.out⟩, ⟨(HAP.out _ (HF3.out.trans HHD.out)).trans HF7.out⟩⟩
         case measure => first | exact HMS.out | (simp [intOf]; done)
        ·go_wp2_with (first
          | ((with_reducible refine gate_dst (N := 100) rfl ?_); refine Kd.R_lit (Kd.int .i8) _ 22 ?hg (N := 100) ?hd (xs := ([] : List Int)) (inner := []) (ok := fun _ => True) (okp := fun _ => True) ?hr ?hp (fun _ hk => hk) trivial (Below.refl _ _) (Nat.le_refl _) (by simp) ?_; (case hd => rfl); (case hg => rfl); (case hr => first | (go_simp; done) | (go_simp; rfl)); (case hp => exact (Reps.none _ _)); intro v1 w1 ho1 hb1 _ _; have HO1 := Aside0.mk ho1; have HF1 := Aside0.mk (FrB.below (B := []) hb1); clear ho1 hb1)
          | ((with_reducible refine gate_builtin (b := .append) (xs := #[.tmp 100, .tmp 101]) rfl ?_); at_builtin; refine Kd.R_append_rows (Kd.int .i8) (w0 := w1) _ rfl (.tmp 100) (.tmp 101) 58 22 (.int .i8 0) 1 rfl Tryd.underlying58 infoI8 rfl (by decide) (by omega) v1 [] h A h.length c (fun _ => True) (fun _ => False) rfl rfl HO1.out (Kd.R_reads' (own_later HOC.out HF1.out (by simp))).2.2 (fun _ _ h => h) (fun _ h => h.elim) (fun _ _ => trivial) (Below.refl _ _) HF1.out.size (by simp; omega) ?_; intro v2 w2 ho2 hb2 hg2 hat2; obtain ⟨A2, c2, rfl⟩ := Kd.R_slice ho2; have HO2 := Aside0.mk ho2; have HF2 := Aside0.mk (HF1.out.grown hg2 (fun k hk => Kd.R_base HO1.out k hk)); clear ho2 hb2 hg2 hat2)
          | ((with_reducible refine gate_builtin (b := .append) (xs := #[.tmp 102, .tmp 104]) rfl ?_); (try (refine gate_guard (by rfl) ?_; dsimp only)); at_builtin; refine Kd.R_append (Kd.int .i8) (w0 := w2) _ rfl (.tmp 102) (.tmp 104) 58 22 (.int .i8 0) 1 rfl Tryd.underlying58 infoI8 rfl (by decide) (by omega) (.slice A2 h.length c2) h (-n) [.int .i8 (-n)] (fun _ => True) (fun _ => False) rfl rfl rfl (fun _ hk => hk.elim) (fun _ _ => trivial) HO2.out (Below.refl _ _) HF2.out.size (by omega) ?_; intro v3 w3 ho3 hb3 hg3 hat3; generalize hH2 : h ++ [(-n)] = h2 at ho3; have HH2 := Aside0.mk hH2; clear hH2; obtain ⟨A3, c3, rfl⟩ := Kd.R_slice ho3; have HO3 := Aside0.mk ho3; have HF3 := Aside0.mk (HF2.out.grown hg3 (fun k hk => Kd.R_base HO2.out k hk)); clear ho3 hb3 hg3 hat3))
         have hwf := HWF.out
         have hw2 : ¬ setsH h2 ≤ sets := by rw [← HH2.out]; omega
         clear hwf
         have hw3 := decide_eq_false hw2
         have hw4 := eq_false hw2
         have hw5 : sets < setsH h2 := by omega
         have HC3 := Aside0.mk (Kd.R_reads' HO3.out).2.1
         refine start_ (n := 7) (S := fun w' => FrB [] w3 w') (ds := []) #[false, false, false, false, false, false, false] (by kernel_rfl) rfl rfl (FrB.below (below_drew (Below.refl _ _))) (fun hHeld => ?_)
         refine pure_ (i := 0) (N := some 106) (v := ?_) (a' := ?_) #[true, false, false, false, false, false, false] rfl rfl (by kernel_rfl) (fun _ _ _ h => h) (Or.inl ⟨by rfl, ?_⟩) ?_ ?_
         rotate_left
         ·intro w'
          go_simp
          with_reducible rfl
         rotate_left
         ·simp only [Act.put, List.setIfInBounds_toArray, List.set_cons_zero, List.set_cons_succ, i64_w, i32_w]
          rfl
         refine pure_ (i := 2) (N := some 108) (v := ?_) (a' := ?_) #[true, false, true, false, false, false, false] rfl rfl (by kernel_rfl) (fun _ _ _ h => h) (Or.inl ⟨by rfl, ?_⟩) ?_ ?_
         rotate_left
         ·intro w'
          go_simp
          with_reducible rfl
         rotate_left
         ·simp only [Act.put, List.setIfInBounds_toArray, List.set_cons_zero, List.set_cons_succ, i64_w, i32_w]
          rfl
         refine pure_ (i := 3) (N := some 109) (v := ?_) (a' := ?_) #[true, false, true, true, false, false, false] rfl rfl (by kernel_rfl) (fun _ _ _ h => h) (Or.inl ⟨by rfl, ?_⟩) ?_ ?_
         rotate_left
         ·intro w'
          go_simp
          with_reducible rfl
         rotate_left
         ·simp only [Act.put, List.setIfInBounds_toArray, List.set_cons_zero, List.set_cons_succ, i64_w, i32_w]
          rfl
         refine pure_ (i := 4) (N := some 110) (v := ?_) (a' := ?_) #[true, false, true, true, true, false, false] rfl rfl (by kernel_rfl) (fun _ _ _ h => h) (Or.inl ⟨by rfl, ?_⟩) ?_ ?_
         rotate_left
         ·intro w'
          go_simp
          with_reducible rfl
         rotate_left
         ·simp only [Act.put, List.setIfInBounds_toArray, List.set_cons_zero, List.set_cons_succ, i64_w, i32_w]
          rfl
         refine take_ (i := 5) (N := some 111) (v := .int .i64 sets) (a' := ?_) #[true, false, true, true, true, true, false] rfl rfl (by kernel_rfl) (fun _ _ _ h => h) (Or.inl ⟨by rfl, ?_⟩) hHeld ?_ ?_
         ·intro w' s0
          exact y_cell (by rfl) (by rfl) oneI64' (s0.read (HF3.out.read HC1.out))
         rotate_left
         ·simp only [Act.put, List.setIfInBounds_toArray, List.set_cons_zero, List.set_cons_succ, i64_w, i32_w]
          rfl
         refine one_ (i := 1) (N := some 107) #[true, true, true, true, true, true, false] rfl rfl (by kernel_rfl) (by decide) (fun K hK => ?_)
         refine goes_ Tryd.func92 (by kernel_rfl) rfl #[.slice A3 h2.length c3] (by rfl) rfl rfl (by simp only [List.map_toArray, List.map_cons, List.map_nil]; rfl) ?_
         refine (HSETS.out h2 (-n) A3 c3 _ HH2.out HNY.out (Kd.R_reads' (own_later HO3.out hHeld (by simp))).2.2 HC3.out).mono ?_
         rintro e w4 ⟨rfl, hb4⟩
         refine ⟨_, rfl, ?_⟩
         refine hK.out _ _ (hHeld.trans (FrB.below hb4)) (fun hHeld => ?_)
         clear hK K
         refine norm_ (a' := ?_) ?_ ?_
         rotate_left
         ·show Act.put _ (some 107) _ = _
          simp only [Act.put, List.setIfInBounds_toArray, List.set_cons_zero, List.set_cons_succ, i64_w, i32_w]
          rfl
         refine pure_ (i := 6) (N := some 112) (v := ?_) (a' := ?_) #[true, true, true, true, true, true, true] rfl rfl (by kernel_rfl) (fun _ _ _ h => h) (Or.inl ⟨by rfl, ?_⟩) ?_ ?_
         rotate_left
         ·intro w'
          go_simp
          with_reducible rfl
         rotate_left
         ·simp only [Act.put, List.setIfInBounds_toArray, List.set_cons_zero, List.set_cons_succ, i64_w, i32_w]
          rfl
         refine done_ (by kernel_rfl) ?_
         skip
         have HHD := Aside0.mk hHeld
         go_wp2_with fail
         go_roundw
         case rel => exact ⟨i + 1, l2, by omega, (by first | exact HNX.out | (rw [← HNX.out]; rfl)), ⟨by rw [← HL2.out, HRS.out, goesS_cons, within_sets, decide_eq_false (show ¬ setsH (h ++ [(-n)]) ≤ sets by have := HWF.out; omega), if_neg (by simp), List.nil_append]⟩, ⟨HSI.out _ (HF3.out.trans HHD.out)⟩, ⟨HAP.out _ (HF3.out.trans HHD.out)⟩⟩
         case measure => first | exact HMS.out | (simp [intOf]; done)
       ·have hne1 : (y == x) = false := by simpa using heq
        have hne2 : (y != x) = true := by simpa using heq
        have HRK := Aside0.mk (show restO m h.length g subs x i = restO m h.length g subs x (i + 1) by rw [HR0.out, if_neg (by rw [HSO.out, decide_eq_false (fun e => heq e.2)]; simp)]; rfl)
        go_wp2_with fail
        refine start_ (n := 26) (S := fun w' => FrB [] wr w') (ds := []) #[false, false, false, false, false, false, false, false, false, false, false, false, false, false, false, false, false, false, false, false, false, false, false, false, false, false] (by kernel_rfl) rfl rfl (FrB.below (below_drew (Below.refl _ _))) (fun hHeld => ?_)
        refine pure_ (i := 0) (N := some 74) (v := ?_) (a' := ?_) #[true, false, false, false, false, false, false, false, false, false, false, false, false, false, false, false, false, false, false, false, false, false, false, false, false, false] rfl rfl (by kernel_rfl) (fun _ _ _ h => h) (Or.inl ⟨by rfl, ?_⟩) ?_ ?_
        rotate_left
        ·intro w'
         go_simp
         with_reducible rfl
        rotate_left
        ·simp only [Act.put, List.setIfInBounds_toArray, List.set_cons_zero, List.set_cons_succ, i64_w, i32_w]
         rfl
        refine pure_ (i := 1) (N := some 75) (v := ?_) (a' := ?_) #[true, true, false, false, false, false, false, false, false, false, false, false, false, false, false, false, false, false, false, false, false, false, false, false, false, false] rfl rfl (by kernel_rfl) (fun _ _ _ h => h) (Or.inl ⟨by rfl, ?_⟩) ?_ ?_
        rotate_left
        ·intro w'
         go_simp
         with_reducible rfl
        rotate_left
        ·simp only [Act.put, List.setIfInBounds_toArray, List.set_cons_zero, List.set_cons_succ, i64_w, i32_w]
         rfl
        refine pure_ (i := 2) (N := some 76) (v := ?_) (a' := ?_) #[true, true, true, false, false, false, false, false, false, false, false, false, false, false, false, false, false, false, false, false, false, false, false, false, false, false] rfl rfl (by kernel_rfl) (fun _ _ _ h => h) (Or.inl ⟨by rfl, ?_⟩) ?_ ?_
        rotate_left
        ·intro w'
         go_simp
         with_reducible rfl
        rotate_left
        ·simp only [Act.put, List.setIfInBounds_toArray, List.set_cons_zero, List.set_cons_succ, i64_w, i32_w]
         rfl
        refine pure_ (i := 3) (N := some 77) (v := ?_) (a' := ?_) #[true, true, true, true, false, false, false, false, false, false, false, false, false, false, false, false, false, false, false, false, false, false, false, false, false, false] rfl rfl (by kernel_rfl) (fun _ _ _ h => h) (Or.inl ⟨by rfl, ?_⟩) ?_ ?_
        rotate_left
        ·intro w'
         go_simp
         with_reducible rfl
        rotate_left
        ·simp only [Act.put, List.setIfInBounds_toArray, List.set_cons_zero, List.set_cons_succ, i64_w, i32_w]
         rfl
        refine pure_ (i := 4) (N := some 78) (v := ?_) (a' := ?_) #[true, true, true, true, true, false, false, false, false, false, false, false, false, false, false, false, false, false, false, false, false, false, false, false, false, false] rfl rfl (by kernel_rfl) (fun _ _ _ h => h) (Or.inl ⟨by rfl, ?_⟩) ?_ ?_
        rotate_left
        ·intro w'
         go_simp
         with_reducible rfl
        rotate_left
        ·simp only [Act.put, List.setIfInBounds_toArray, List.set_cons_zero, List.set_cons_succ, i64_w, i32_w]
         rfl
        refine pure_ (i := 5) (N := some 79) (v := ?_) (a' := ?_) #[true, true, true, true, true, true, false, false, false, false, false, false, false, false, false, false, false, false, false, false, false, false, false, false, false, false] rfl rfl (by kernel_rfl) (fun _ _ _ h => h) (Or.inl ⟨by rfl, ?_⟩) ?_ ?_
        rotate_left
        ·intro w'
         go_simp
         with_reducible rfl
        rotate_left
        ·simp only [Act.put, List.setIfInBounds_toArray, List.set_cons_zero, List.set_cons_succ, i64_w, i32_w]
         rfl
        refine pure_ (i := 6) (N := some 80) (v := ?_) (a' := ?_) #[true, true, true, true, true, true, true, false, false, false, false, false, false, false, false, false, false, false, false, false, false, false, false, false, false, false] rfl rfl (by kernel_rfl) (fun _ _ _ h => h) (Or.inl ⟨by rfl, ?_⟩) ?_ ?_
        rotate_left
        ·intro w'
         go_simp
         with_reducible rfl
        rotate_left
        ·simp only [Act.put, List.setIfInBounds_toArray, List.set_cons_zero, List.set_cons_succ, i64_w, i32_w]
         rfl
        refine pure_ (i := 7) (N := some 81) (v := ?_) (a' := ?_) #[true, true, true, true, true, true, true, true, false, false, false, false, false, false, false, false, false, false, false, false, false, false, false, false, false, false] rfl rfl (by kernel_rfl) (fun _ _ _ h => h) (Or.inl ⟨by rfl, ?_⟩) ?_ ?_
        rotate_left
        ·intro w'
         go_simp
         with_reducible rfl
        rotate_left
        ·simp only [Act.put, List.setIfInBounds_toArray, List.set_cons_zero, List.set_cons_succ, i64_w, i32_w]
         rfl
        refine pure_ (i := 8) (N := some 82) (v := ?_) (a' := ?_) #[true, true, true, true, true, true, true, true, true, false, false, false, false, false, false, false, false, false, false, false, false, false, false, false, false, false] rfl rfl (by kernel_rfl) (fun _ _ _ h => h) (Or.inl ⟨by rfl, ?_⟩) ?_ ?_
        rotate_left
        ·intro w'
         go_simp
         with_reducible rfl
        rotate_left
        ·simp only [Act.put, List.setIfInBounds_toArray, List.set_cons_zero, List.set_cons_succ, i64_w, i32_w]
         rfl
        refine pure_ (i := 9) (N := some 83) (v := ?_) (a' := ?_) #[true, true, true, true, true, true, true, true, true, true, false, false, false, false, false, false, false, false, false, false, false, false, false, false, false, false] rfl rfl (by kernel_rfl) (fun _ _ _ h => h) (Or.inl ⟨by rfl, ?_⟩) ?_ ?_
        rotate_left
        ·intro w'
         go_simp
         with_reducible rfl
        rotate_left
        ·simp only [Act.put, List.setIfInBounds_toArray, List.set_cons_zero, List.set_cons_succ, i64_w, i32_w]
         rfl
        refine pure_ (i := 11) (N := some 85) (v := ?_) (a' := ?_) #[true, true, true, true, true, true, true, true, true, true, false, true, false, false, false, false, false, false, false, false, false, false, false, false, false, false] rfl rfl (by kernel_rfl) (fun _ _ _ h => h) (Or.inl ⟨by rfl, ?_⟩) ?_ ?_
        rotate_left
        ·intro w'
         go_simp
         with_reducible rfl
        rotate_left
        ·simp only [Act.put, List.setIfInBounds_toArray, List.set_cons_zero, List.set_cons_succ, i64_w, i32_w]
         rfl
        refine pure_ (i := 12) (N := some 86) (v := ?_) (a' := ?_) #[true, true, true, true, true, true, true, true, true, true, false, true, true, false, false, false, false, false, false, false, false, false, false, false, false, false] rfl rfl (by kernel_rfl) (fun _ _ _ h => h) (Or.inl ⟨by rfl, ?_⟩) ?_ ?_
        rotate_left
        ·intro w'
         go_simp
         with_reducible rfl
        rotate_left
        ·simp only [Act.put, List.setIfInBounds_toArray, List.set_cons_zero, List.set_cons_succ, i64_w, i32_w]
         rfl
        refine pure_ (i := 13) (N := some 87) (v := ?_) (a' := ?_) #[true, true, true, true, true, true, true, true, true, true, false, true, true, true, false, false, false, false, false, false, false, false, false, false, false, false] rfl rfl (by kernel_rfl) (fun _ _ _ h => h) (Or.inl ⟨by rfl, ?_⟩) ?_ ?_
        rotate_left
        ·intro w'
         go_simp
         with_reducible rfl
        rotate_left
        ·simp only [Act.put, List.setIfInBounds_toArray, List.set_cons_zero, List.set_cons_succ, i64_w, i32_w]
         rfl
        refine pure_ (i := 14) (N := some 88) (v := ?_) (a' := ?_) #[true, true, true, true, true, true, true, true, true, true, false, true, true, true, true, false, false, false, false, false, false, false, false, false, false, false] rfl rfl (by kernel_rfl) (fun _ _ _ h => h) (Or.inl ⟨by rfl, ?_⟩) ?_ ?_
        rotate_left
        ·intro w'
         go_simp
         with_reducible rfl
        rotate_left
        ·simp only [Act.put, List.setIfInBounds_toArray, List.set_cons_zero, List.set_cons_succ, i64_w, i32_w]
         rfl
        refine pure_ (i := 17) (N := some 91) (v := ?_) (a' := ?_) #[true, true, true, true, true, true, true, true, true, true, false, true, true, true, true, false, false, true, false, false, false, false, false, false, false, false] rfl rfl (by kernel_rfl) (fun _ _ _ h => h) (Or.inl ⟨by rfl, ?_⟩) ?_ ?_
        rotate_left
        ·intro w'
         go_simp
         with_reducible rfl
        rotate_left
        ·simp only [Act.put, List.setIfInBounds_toArray, List.set_cons_zero, List.set_cons_succ, i64_w, i32_w]
         rfl
        refine pure_ (i := 18) (N := some 92) (v := ?_) (a' := ?_) #[true, true, true, true, true, true, true, true, true, true, false, true, true, true, true, false, false, true, true, false, false, false, false, false, false, false] rfl rfl (by kernel_rfl) (fun _ _ _ h => h) (Or.inl ⟨by rfl, ?_⟩) ?_ ?_
        rotate_left
        ·intro w'
         go_simp
         with_reducible rfl
        rotate_left
        ·simp only [Act.put, List.setIfInBounds_toArray, List.set_cons_zero, List.set_cons_succ, i64_w, i32_w]
         rfl
        refine pure_ (i := 19) (N := some 93) (v := ?_) (a' := ?_) #[true, true, true, true, true, true, true, true, true, true, false, true, true, true, true, false, false, true, true, true, false, false, false, false, false, false] rfl rfl (by kernel_rfl) (fun _ _ _ h => h) (Or.inl ⟨by rfl, ?_⟩) ?_ ?_
        rotate_left
        ·intro w'
         go_simp
         with_reducible rfl
        rotate_left
        ·simp only [Act.put, List.setIfInBounds_toArray, List.set_cons_zero, List.set_cons_succ, i64_w, i32_w]
         rfl
        refine pure_ (i := 21) (N := some 95) (v := ?_) (a' := ?_) #[true, true, true, true, true, true, true, true, true, true, false, true, true, true, true, false, false, true, true, true, false, true, false, false, false, false] rfl rfl (by kernel_rfl) (fun _ _ _ h => h) (Or.inl ⟨by rfl, ?_⟩) ?_ ?_
        rotate_left
        ·intro w'
         go_simp
         with_reducible rfl
        rotate_left
        ·simp only [Act.put, List.setIfInBounds_toArray, List.set_cons_zero, List.set_cons_succ, i64_w, i32_w]
         rfl
        refine take_ (i := 10) (N := some 84) (v := .slice (some ad) m.length cm) (a' := ?_) #[true, true, true, true, true, true, true, true, true, true, true, true, true, true, true, false, false, true, true, true, false, true, false, false, false, false] rfl rfl (by kernel_rfl) (fun _ _ _ h => h) (Or.inl ⟨by rfl, ?_⟩) hHeld ?_ ?_
        ·intro w' s0
         exact y_cell (by rfl) (by rfl) oneMean (s0.read c0r)
        rotate_left
        ·simp only [Act.put, List.setIfInBounds_toArray, List.set_cons_zero, List.set_cons_succ, i64_w, i32_w]
         rfl
        refine pure_ (i := 15) (N := some 89) (v := ?_) (a' := ?_) #[true, true, true, true, true, true, true, true, true, true, true, true, true, true, true, true, false, true, true, true, false, true, false, false, false, false] rfl rfl (by kernel_rfl) (fun _ _ _ h => h) (Or.inl ⟨by rfl, ?_⟩) ?_ ?_
        rotate_left
        ·intro w'
         go_simp
         with_reducible rfl
        rotate_left
        ·simp only [Act.put, List.setIfInBounds_toArray, List.set_cons_zero, List.set_cons_succ, i64_w, i32_w]
         rfl
        refine take_ (i := 16) (N := some 90) (v := .int .i8 y) (a' := ?_) #[true, true, true, true, true, true, true, true, true, true, true, true, true, true, true, true, true, true, true, true, false, true, false, false, false, false] rfl rfl (by kernel_rfl) (fun _ _ _ h => h) (Or.inl ⟨by rfl, ?_⟩) hHeld ?_ ?_
        ·intro w' s0
         exact y_cell (by rfl) (by rfl) oneI8 (s0.read hca)
        rotate_left
        ·simp only [Act.put, List.setIfInBounds_toArray, List.set_cons_zero, List.set_cons_succ, i64_w, i32_w]
         rfl
        refine take_ (i := 20) (N := some 94) (v := .slice (some ad) m.length cm) (a' := ?_) #[true, true, true, true, true, true, true, true, true, true, true, true, true, true, true, true, true, true, true, true, true, true, false, false, false, false] rfl rfl (by kernel_rfl) (fun _ _ _ h => h) (Or.inl ⟨by rfl, ?_⟩) hHeld ?_ ?_
        ·intro w' s0
         exact y_cell (by rfl) (by rfl) oneMean (s0.read c0r)
        rotate_left
        ·simp only [Act.put, List.setIfInBounds_toArray, List.set_cons_zero, List.set_cons_succ, i64_w, i32_w]
         rfl
        refine pure_ (i := 22) (N := some 96) (v := ?_) (a' := ?_) #[true, true, true, true, true, true, true, true, true, true, true, true, true, true, true, true, true, true, true, true, true, true, true, false, false, false] rfl rfl (by kernel_rfl) (fun _ _ _ h => h) (Or.inl ⟨by rfl, ?_⟩) ?_ ?_
        rotate_left
        ·intro w'
         go_simp
         with_reducible rfl
        rotate_left
        ·simp only [Act.put, List.setIfInBounds_toArray, List.set_cons_zero, List.set_cons_succ, i64_w, i32_w]
         rfl
        refine take_ (i := 23) (N := some 97) (v := .int .i8 x) (a' := ?_) #[true, true, true, true, true, true, true, true, true, true, true, true, true, true, true, true, true, true, true, true, true, true, true, true, false, false] rfl rfl (by kernel_rfl) (fun _ _ _ h => h) (Or.inl ⟨by rfl, ?_⟩) hHeld ?_ ?_
        ·intro w' s0
         exact y_cell (by rfl) (by rfl) oneI8 (s0.read hcxr)
        rotate_left
        ·simp only [Act.put, List.setIfInBounds_toArray, List.set_cons_zero, List.set_cons_succ, i64_w, i32_w]
         rfl
        refine pure_ (i := 24) (N := some 98) (v := ?_) (a' := ?_) #[true, true, true, true, true, true, true, true, true, true, true, true, true, true, true, true, true, true, true, true, true, true, true, true, true, false] rfl rfl (by kernel_rfl) (fun _ _ _ h => h) (Or.inl ⟨by rfl, ?_⟩) ?_ ?_
        rotate_left
        ·intro w'
         go_simp
         with_reducible rfl
        rotate_left
        ·simp only [Act.put, List.setIfInBounds_toArray, List.set_cons_zero, List.set_cons_succ, i64_w, i32_w]
         rfl
        refine pure_ (i := 25) (N := some 99) (v := ?_) (a' := ?_) #[true, true, true, true, true, true, true, true, true, true, true, true, true, true, true, true, true, true, true, true, true, true, true, true, true, true] rfl rfl (by kernel_rfl) (fun _ _ _ h => h) (Or.inl ⟨by rfl, ?_⟩) ?_ ?_
        rotate_left
        ·intro w'
         go_simp
         with_reducible rfl
        rotate_left
        ·simp only [Act.put, List.setIfInBounds_toArray, List.set_cons_zero, List.set_cons_succ, i64_w, i32_w]
         rfl
        refine done_ (by kernel_rfl) ?_
        skip
        have HW0 := Aside0.mk hHeld
        go_wp2_with fail
        go_roundw
        case rel => exact ⟨i + 1, l2, by omega, HNX.out, ⟨by rw [← HL2.out, HRK.out]⟩, ⟨HIr.out.later HW0.out⟩, ⟨HFr.out.trans (HW0.out.mono (by simp))⟩⟩
        case measure => first | exact HMS.out | (simp [intOf]; done)
      ·have hge1 : decide ((h.length : Int) ≤ g + n - 1) = true := decide_eq_true (by omega)
       have hge2 : decide ((h.length : Int) < g + n) = true := decide_eq_true (by omega)
       have hge3 : (h.length : Int) < g + n := by omega
       have HRK := Aside0.mk (show restO m h.length g subs x i = restO m h.length g subs x (i + 1) by rw [HR0.out, if_neg (by rw [HSO.out, decide_eq_false (fun e => hat e.1)]; simp)]; rfl)
       go_wp2_with fail
       refine start_ (n := 26) (S := fun w' => FrB [] wr w') (ds := []) #[false, false, false, false, false, false, false, false, false, false, false, false, false, false, false, false, false, false, false, false, false, false, false, false, false, false] (by kernel_rfl) rfl rfl (FrB.below (below_drew (Below.refl _ _))) (fun hHeld => ?_)
       refine pure_ (i := 0) (N := some 74) (v := ?_) (a' := ?_) #[true, false, false, false, false, false, false, false, false, false, false, false, false, false, false, false, false, false, false, false, false, false, false, false, false, false] rfl rfl (by kernel_rfl) (fun _ _ _ h => h) (Or.inl ⟨by rfl, ?_⟩) ?_ ?_
       rotate_left
       ·intro w'
        go_simp
        with_reducible rfl
       rotate_left
       ·simp only [Act.put, List.setIfInBounds_toArray, List.set_cons_zero, List.set_cons_succ, i64_w, i32_w]
        rfl
       refine pure_ (i := 1) (N := some 75) (v := ?_) (a' := ?_) #[true, true, false, false, false, false, false, false, false, false, false, false, false, false, false, false, false, false, false, false, false, false, false, false, false, false] rfl rfl (by kernel_rfl) (fun _ _ _ h => h) (Or.inl ⟨by rfl, ?_⟩) ?_ ?_
       rotate_left
       ·intro w'
        go_simp
        with_reducible rfl
       rotate_left
       ·simp only [Act.put, List.setIfInBounds_toArray, List.set_cons_zero, List.set_cons_succ, i64_w, i32_w]
        rfl
       refine pure_ (i := 2) (N := some 76) (v := ?_) (a' := ?_) #[true, true, true, false, false, false, false, false, false, false, false, false, false, false, false, false, false, false, false, false, false, false, false, false, false, false] rfl rfl (by kernel_rfl) (fun _ _ _ h => h) (Or.inl ⟨by rfl, ?_⟩) ?_ ?_
       rotate_left
       ·intro w'
        go_simp
        with_reducible rfl
       rotate_left
       ·simp only [Act.put, List.setIfInBounds_toArray, List.set_cons_zero, List.set_cons_succ, i64_w, i32_w]
        rfl
       refine pure_ (i := 3) (N := some 77) (v := ?_) (a' := ?_) #[true, true, true, true, false, false, false, false, false, false, false, false, false, false, false, false, false, false, false, false, false, false, false, false, false, false] rfl rfl (by kernel_rfl) (fun _ _ _ h => h) (Or.inl ⟨by rfl, ?_⟩) ?_ ?_
       rotate_left
       ·intro w'
        go_simp
        with_reducible rfl
       rotate_left
       ·simp only [Act.put, List.setIfInBounds_toArray, List.set_cons_zero, List.set_cons_succ, i64_w, i32_w]
        rfl
       refine pure_ (i := 4) (N := some 78) (v := ?_) (a' := ?_) #[true, true, true, true, true, false, false, false, false, false, false, false, false, false, false, false, false, false, false, false, false, false, false, false, false, false] rfl rfl (by kernel_rfl) (fun _ _ _ h => h) (Or.inl ⟨by rfl, ?_⟩) ?_ ?_
       rotate_left
       ·intro w'
        go_simp
        with_reducible rfl
       rotate_left
       ·simp only [Act.put, List.setIfInBounds_toArray, List.set_cons_zero, List.set_cons_succ, i64_w, i32_w]
        rfl
       refine pure_ (i := 5) (N := some 79) (v := ?_) (a' := ?_) #[true, true, true, true, true, true, false, false, false, false, false, false, false, false, false, false, false, false, false, false, false, false, false, false, false, false] rfl rfl (by kernel_rfl) (fun _ _ _ h => h) (Or.inl ⟨by rfl, ?_⟩) ?_ ?_
       rotate_left
       ·intro w'
        go_simp
        with_reducible rfl
       rotate_left
       ·simp only [Act.put, List.setIfInBounds_toArray, List.set_cons_zero, List.set_cons_succ, i64_w, i32_w]
        rfl
       refine pure_ (i := 6) (N := some 80) (v := ?_) (a' := ?_) #[true, true, true, true, true, true, true, false, false, false, false, false, false, false, false, false, false, false, false, false, false, false, false, false, false, false] rfl rfl (by kernel_rfl) (fun _ _ _ h => h) (Or.inl ⟨by rfl, ?_⟩) ?_ ?_
       rotate_left
       ·intro w'
        go_simp
        with_reducible rfl
       rotate_left
       ·simp only [Act.put, List.setIfInBounds_toArray, List.set_cons_zero, List.set_cons_succ, i64_w, i32_w]
        rfl
       refine pure_ (i := 7) (N := some 81) (v := undef) (a' := ?_) #[true, true, true, true, true, true, true, true, false, false, false, false, false, false, false, false, false, false, false, false, false, false, false, false, false, false] rfl rfl (by kernel_rfl) (fun _ _ _ h => h) (Or.inr ⟨by rfl, rfl⟩) ?_ ?_
       rotate_left
       ·simp only [Act.put, List.setIfInBounds_toArray, List.set_cons_zero, List.set_cons_succ, i64_w, i32_w]
        rfl
       refine pure_ (i := 8) (N := some 82) (v := undef) (a' := ?_) #[true, true, true, true, true, true, true, true, true, false, false, false, false, false, false, false, false, false, false, false, false, false, false, false, false, false] rfl rfl (by kernel_rfl) (fun _ _ _ h => h) (Or.inr ⟨by rfl, rfl⟩) ?_ ?_
       rotate_left
       ·simp only [Act.put, List.setIfInBounds_toArray, List.set_cons_zero, List.set_cons_succ, i64_w, i32_w]
        rfl
       refine pure_ (i := 9) (N := some 83) (v := undef) (a' := ?_) #[true, true, true, true, true, true, true, true, true, true, false, false, false, false, false, false, false, false, false, false, false, false, false, false, false, false] rfl rfl (by kernel_rfl) (fun _ _ _ h => h) (Or.inr ⟨by rfl, rfl⟩) ?_ ?_
       rotate_left
       ·simp only [Act.put, List.setIfInBounds_toArray, List.set_cons_zero, List.set_cons_succ, i64_w, i32_w]
        rfl
       refine pure_ (i := 10) (N := some 84) (v := undef) (a' := ?_) #[true, true, true, true, true, true, true, true, true, true, true, false, false, false, false, false, false, false, false, false, false, false, false, false, false, false] rfl rfl (by kernel_rfl) (fun _ _ _ h => h) (Or.inr ⟨by rfl, rfl⟩) ?_ ?_
       rotate_left
       ·simp only [Act.put, List.setIfInBounds_toArray, List.set_cons_zero, List.set_cons_succ, i64_w, i32_w]
        rfl
       refine pure_ (i := 11) (N := some 85) (v := undef) (a' := ?_) #[true, true, true, true, true, true, true, true, true, true, true, true, false, false, false, false, false, false, false, false, false, false, false, false, false, false] rfl rfl (by kernel_rfl) (fun _ _ _ h => h) (Or.inr ⟨by rfl, rfl⟩) ?_ ?_
       rotate_left
       ·simp only [Act.put, List.setIfInBounds_toArray, List.set_cons_zero, List.set_cons_succ, i64_w, i32_w]
        rfl
       refine pure_ (i := 12) (N := some 86) (v := undef) (a' := ?_) #[true, true, true, true, true, true, true, true, true, true, true, true, true, false, false, false, false, false, false, false, false, false, false, false, false, false] rfl rfl (by kernel_rfl) (fun _ _ _ h => h) (Or.inr ⟨by rfl, rfl⟩) ?_ ?_
       rotate_left
       ·simp only [Act.put, List.setIfInBounds_toArray, List.set_cons_zero, List.set_cons_succ, i64_w, i32_w]
        rfl
       refine pure_ (i := 13) (N := some 87) (v := undef) (a' := ?_) #[true, true, true, true, true, true, true, true, true, true, true, true, true, true, false, false, false, false, false, false, false, false, false, false, false, false] rfl rfl (by kernel_rfl) (fun _ _ _ h => h) (Or.inr ⟨by rfl, rfl⟩) ?_ ?_
       rotate_left
       ·simp only [Act.put, List.setIfInBounds_toArray, List.set_cons_zero, List.set_cons_succ, i64_w, i32_w]
        rfl
       refine pure_ (i := 14) (N := some 88) (v := undef) (a' := ?_) #[true, true, true, true, true, true, true, true, true, true, true, true, true, true, true, false, false, false, false, false, false, false, false, false, false, false] rfl rfl (by kernel_rfl) (fun _ _ _ h => h) (Or.inr ⟨by rfl, rfl⟩) ?_ ?_
       rotate_left
       ·simp only [Act.put, List.setIfInBounds_toArray, List.set_cons_zero, List.set_cons_succ, i64_w, i32_w]
        rfl
       refine pure_ (i := 15) (N := some 89) (v := undef) (a' := ?_) #[true, true, true, true, true, true, true, true, true, true, true, true, true, true, true, true, false, false, false, false, false, false, false, false, false, false] rfl rfl (by kernel_rfl) (fun _ _ _ h => h) (Or.inr ⟨by rfl, rfl⟩) ?_ ?_
       rotate_left
       ·simp only [Act.put, List.setIfInBounds_toArray, List.set_cons_zero, List.set_cons_succ, i64_w, i32_w]
        rfl
       refine pure_ (i := 16) (N := some 90) (v := undef) (a' := ?_) #[true, true, true, true, true, true, true, true, true, true, true, true, true, true, true, true, true, false, false, false, false, false, false, false, false, false] rfl rfl (by kernel_rfl) (fun _ _ _ h => h) (Or.inr ⟨by rfl, rfl⟩) ?_ ?_
       rotate_left
       ·simp only [Act.put, List.setIfInBounds_toArray, List.set_cons_zero, List.set_cons_succ, i64_w, i32_w]
        rfl
       refine pure_ (i := 17) (N := some 91) (v := undef) (a' := ?_) #[true, true, true, true, true, true, true, true, true, true, true, true, true, true, true, true, true, true, false, false, false, false, false, false, false, false] rfl rfl (by kernel_rfl) (fun _ _ _ h => h) (Or.inr ⟨by rfl, rfl⟩) ?_ ?_
       rotate_left
       ·simp only [Act.put, List.setIfInBounds_toArray, List.set_cons_zero, List.set_cons_succ, i64_w, i32_w]
        rfl
       refine pure_ (i := 18) (N := some 92) (v := undef) (a' := ?_) #[true, true, true, true, true, true, true, true, true, true, true, true, true, true, true, true, true, true, true, false, false, false, false, false, false, false] rfl rfl (by kernel_rfl) (fun _ _ _ h => h) (Or.inr ⟨by rfl, rfl⟩) ?_ ?_
       rotate_left
       ·simp only [Act.put, List.setIfInBounds_toArray, List.set_cons_zero, List.set_cons_succ, i64_w, i32_w]
        rfl
       refine pure_ (i := 19) (N := some 93) (v := undef) (a' := ?_) #[true, true, true, true, true, true, true, true, true, true, true, true, true, true, true, true, true, true, true, true, false, false, false, false, false, false] rfl rfl (by kernel_rfl) (fun _ _ _ h => h) (Or.inr ⟨by rfl, rfl⟩) ?_ ?_
       rotate_left
       ·simp only [Act.put, List.setIfInBounds_toArray, List.set_cons_zero, List.set_cons_succ, i64_w, i32_w]
        rfl
       refine pure_ (i := 20) (N := some 94) (v := undef) (a' := ?_) #[true, true, true, true, true, true, true, true, true, true, true, true, true, true, true, true, true, true, true, true, true, false, false, false, false, false] rfl rfl (by kernel_rfl) (fun _ _ _ h => h) (Or.inr ⟨by rfl, rfl⟩) ?_ ?_
       rotate_left
       ·simp only [Act.put, List.setIfInBounds_toArray, List.set_cons_zero, List.set_cons_succ, i64_w, i32_w]
        rfl
       refine pure_ (i := 21) (N := some 95) (v := undef) (a' := ?_) #[true, true, true, true, true, true, true, true, true, true, true, true, true, true, true, true, true, true, true, true, true, true, false, false, false, false] rfl rfl (by kernel_rfl) (fun _ _ _ h => h) (Or.inr ⟨by rfl, rfl⟩) ?_ ?_
       rotate_left
       ·simp only [Act.put, List.setIfInBounds_toArray, List.set_cons_zero, List.set_cons_succ, i64_w, i32_w]
        rfl
       refine pure_ (i := 22) (N := some 96) (v := undef) (a' := ?_) #[true, true, true, true, true, true, true, true, true, true, true, true, true, true, true, true, true, true, true, true, true, true, true, false, false, false] rfl rfl (by kernel_rfl) (fun _ _ _ h => h) (Or.inr ⟨by rfl, rfl⟩) ?_ ?_
       rotate_left
       ·simp only [Act.put, List.setIfInBounds_toArray, List.set_cons_zero, List.set_cons_succ, i64_w, i32_w]
        rfl
       refine pure_ (i := 23) (N := some 97) (v := undef) (a' := ?_) #[true, true, true, true, true, true, true, true, true, true, true, true, true, true, true, true, true, true, true, true, true, true, true, true, false, false] rfl rfl (by kernel_rfl) (fun _ _ _ h => h) (Or.inr ⟨by rfl, rfl⟩) ?_ ?_
       rotate_left
       ·simp only [Act.put, List.setIfInBounds_toArray, List.set_cons_zero, List.set_cons_succ, i64_w, i32_w]
        rfl
       refine pure_ (i := 24) (N := some 98) (v := undef) (a' := ?_) #[true, true, true, true, true, true, true, true, true, true, true, true, true, true, true, true, true, true, true, true, true, true, true, true, true, false] rfl rfl (by kernel_rfl) (fun _ _ _ h => h) (Or.inr ⟨by rfl, rfl⟩) ?_ ?_
       rotate_left
       ·simp only [Act.put, List.setIfInBounds_toArray, List.set_cons_zero, List.set_cons_succ, i64_w, i32_w]
        rfl
       refine pure_ (i := 25) (N := some 99) (v := ?_) (a' := ?_) #[true, true, true, true, true, true, true, true, true, true, true, true, true, true, true, true, true, true, true, true, true, true, true, true, true, true] rfl rfl (by kernel_rfl) (fun _ _ _ h => h) (Or.inl ⟨by rfl, ?_⟩) ?_ ?_
       rotate_left
       ·intro w'
        go_simp
        with_reducible rfl
       rotate_left
       ·simp only [Act.put, List.setIfInBounds_toArray, List.set_cons_zero, List.set_cons_succ, i64_w, i32_w]
        rfl
       refine done_ (by kernel_rfl) ?_
       skip
       have HW0 := Aside0.mk hHeld
       go_wp2_with fail
       go_roundw
       case rel => exact ⟨i + 1, l2, by omega, HNX.out, ⟨by rw [← HL2.out, HRK.out]⟩, ⟨HIr.out.later HW0.out⟩, ⟨HFr.out.trans (HW0.out.mono (by simp))⟩⟩
       case measure => first | exact HMS.out | (simp [intOf]; done)
    ·have hnn : (subs : Int) - i < 0 := by omega
     have HE := Aside0.mk (show l2 = goesS m sets subs d h g (opts m h.length g subs) by
      have h1 := HL2.out
      unfold restO at h1
      rw [if_neg hlt] at h1
      simpa [goesS] using h1)
     go_wp2_with fail
     refine bodyPost_end (results_none rfl _ _ _) rfl ?_
     exact ⟨rfl, by rw [← HE.out]; exact HIr.out, HFr.out⟩
end
end Go.Proofs.YtdgecgfgekmhcaaDoor.Arr
