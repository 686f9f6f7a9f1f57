/- The texts that the statement FnExactHoistsFrom needs, part 2: contracts of the program's functions and plain laws, without what it does not reach. No condition beyond what each theorem says. -/
import Derived.Below
import Derived.Deep.Draws
import Derived.Deep.AppendLies
import Derived.Maps.AppendAt
import Derived.OwnWalk
import Derived.Laws.BytesArg
import Derived.Laws.MakeOwn
import Derived.Laws.OwnMore
import Derived.Deep.OwnRows
import Derived.Tactics
import Derived.Lib.ConvBytes
import Derived.Laws.Slices
import Derived.WalkKit
import Derived.KernelRfl
import Derived.RowKit3
import Derived.Deep.LoopGhost
import Derived.Deep.QuietTactic
import Derived.BigQuiet
import Derived.WideLaws
import Derived.Deep.DeepCutAuto
import Derived.Deep.CutBlock
import Derived.Deep.RegionHeld3
import Derived.Laws.Rows
import Derived.Lib.AppendStr
import Derived.ArgAppend
import Derived.Laws.IdiomCopy
import Derived.RowKit
import Derived.Laws.Tables
import Derived.BigFrame
import Derived.Laws.CopyRow
import Derived.Laws.ResultCell
import Derived.OrdersHeld
import Derived.Laws.BitsLemmas
import Derived.Laws.StructEq
import Derived.Test.YtfgogdhhihbcjaaProg
import Derived.WalkSpells
import Derived.StillTailTactics
import Derived.Laws.CopyOwn
import Derived.ProofKit
import Derived.OpenShut
import Derived.Deep.Slices
import Derived.Lib.SmallJoins
import Derived.ChangeSame
import Derived.Test.YtfgogdhhihbcjaaRows
import Derived.ShutString
import Derived.ChangeOld
import Derived.SizedLaws
import Derived.Test.YtfgogdhhihbcjaaZFnExactHoistsFrom1
namespace Go.Proofs.Ytfgogdhhihbcjaa.Arr
open Go.RowKit Go.Proofs.Ytfgogdhhihbcjaa.H Go.Proofs.Ytfgogdhhihbcjaa.U Go.Proofs.YtfgogdhhihbcjaaW.PrintLast Go.Proofs.YtfgogdhhihbcjaaW.PrintMore Go.Proofs.YtfgogdhhihbcjaaW.PrintWords
set_option linter.unusedVariables false
set_option linter.unusedSimpArgs false
def NumH (x : Int) : Prop := x = -10 ∨ (0 ≤ x ∧ x ≤ 39) ∨ (-4 ≤ x ∧ x ≤ -1)
def slot (x : Int) : Nat := if 0 ≤ x then x.toNat else 40 + (-x - 1).toNat
theorem slot_lt {x : Int} (h : NumH x) (hx : x ≠ -10) : slot x < 44 := by
 unfold slot; rcases h with h | h | h <;> (try split) <;> omega
theorem slot_flag {x : Int} (h0 : 0 ≤ x) : slot x = x.toNat := if_pos h0
theorem slot_sub {x : Int} (h0 : x < 0) : slot x = 40 + (-x - 1).toNat := if_neg (by omega)
def bump (L : List Int) (x t : Int) : List Int := if x = -10 then L else L.set (slot x) (rd L (slot x : Nat) + t)
theorem bump_length (L : List Int) (x t : Int) : (bump L x t).length = L.length := by
 unfold bump; split <;> simp
theorem rd_set (L : List Int) (i j : Nat) (v : Int) (hj : j < L.length) : rd (L.set i v) (j : Int) = if j = i then v else rd L (j : Int) := by
 rw [rd_get _ j (by simpa using hj), rd_get L j hj, List.getElem_set]
 by_cases h : i = j
 ·rw [if_pos h, if_pos h.symm]
 ·rw [if_neg h, if_neg (fun e => h e.symm)]
theorem rd_bump (L : List Int) (x t : Int) (j : Nat) (hj : j < L.length) : rd (bump L x t) (j : Int) = rd L (j : Int) + if x ≠ -10 ∧ j = slot x then t else 0 := by
 unfold bump
 by_cases hx : x = -10
 ·rw [if_pos hx, if_neg (fun e => e.1 hx)]; omega
 ·rw [if_neg hx, rd_set L _ j _ hj]
  by_cases h : j = slot x
  ·rw [if_pos h, if_pos ⟨hx, h⟩, h]
  ·rw [if_neg h, if_neg (fun e => h e.2)]; omega
theorem rd_zs (n j : Nat) : rd (zs n) (j : Int) = 0 := by
 rcases Nat.lt_or_ge j n with h | h
 ·rw [rd_get (zs n) j (by rw [zs_length]; exact h)]; simp only [zs, List.getElem_replicate]
 ·unfold rd zs; simp only [List.getD_eq_getElem?_getD, Int.toNat_natCast]; rw [List.getElem?_eq_none (by simpa using h)]; rfl
def pile (L h : List Int) (t : Int) : Nat → List Int
 | 0 => L
 | i + 1 => bump (pile L h t i) (rd h (i : Int)) t
theorem pile_length (L h : List Int) (t : Int) : ∀ i, (pile L h t i).length = L.length
 | 0 => rfl
 | i + 1 => by rw [pile, bump_length, pile_length L h t i]
theorem pile_one (L h : List Int) (a b : Int) (i : Nat) (hb : ∀ j : Nat, j < L.length → a ≤ rd L (j : Int) ∧ rd L (j : Int) ≤ b) : ∀ j : Nat, j < L.length → a ≤ rd (pile L h 1 i) (j : Int) ∧ rd (pile L h 1 i) (j : Int) ≤ b + i := by
 induction i with
 | zero => intro j hj; have := hb j hj; simp only [pile]; omega
 | succ i ih =>
  intro j hj
  have := ih j hj
  rw [pile, rd_bump _ _ _ j (by rw [pile_length]; exact hj)]
  split <;> omega
theorem pile_small (h : List Int) (i : Nat) (j : Nat) (hj : j < 44) : 0 ≤ rd (pile (zs 44) h 1 i) (j : Int) ∧ rd (pile (zs 44) h 1 i) (j : Int) ≤ i := by
 have := pile_one (zs 44) h 0 0 i (fun j hj => by rw [rd_zs]; omega) j (by rw [zs_length]; exact hj)
 omega
theorem validHoist_calls (A0 : Option Addr) (c0 : Nat) (h : List Int) (w : World) (hr : Kd.C (Kd.int .i8) w A0 h.length h) (hc : h.length ≤ c0) (hn : h.length ≤ 100000000) (hb : ∀ x ∈ h, -128 ≤ x ∧ x ≤ 127) :
  Calls Try.prog 66 #[.slice A0 h.length c0] w fun e w' => e = .returned (.bool (okH h)) ∧ Below w.heap.size w w' := by
 obtain ⟨k, hk⟩ := (meaning_ev h hn hb).rounds
 refine impl_ValidHoist.calls k A0 c0 h (okH h) w hr hc ?_
 unfold impl_ValidHoist.f
 rw [hk, Option.bind_some, implRead_snd]
theorem i64w {x : Int} (h0 : -9223372036854775808 ≤ x) (h1 : x ≤ 9223372036854775807) : IntKind.i64.wrap x = x := by
 unfold IntKind.wrap
 simp only [IntKind.signed, IntKind.bits]
 simp
 omega
set_option maxHeartbeats 4000000 in
set_option maxRecDepth 100000 in
theorem add_calls (g : Nat) (L : List Int) (x t : Int) (w : World) (h0 : w.heap[g]? = some (.cells (vals .i64 L) 71 (0, 0))) (hl : L.length = 44) (hx : NumH x) (hb : ∀ j : Nat, j < 44 → -1000000000 ≤ rd L (j : Int) ∧ rd L (j : Int) ≤ 1000000000) (ht : -1000000000 ≤ t ∧ t ≤ 1000000000) :
  Calls Try.prog 58 #[.pointer (some ⟨g, 0, none⟩), .int .i8 x, .int .i64 t] w fun e w' => e = .returned (.tuple #[]) ∧ Fr1 g (vals .i64 (bump L x t)) 71 w w' := by
 have hm := Mem.given h0
 clear h0
 by_cases hx0 : 0 ≤ x
 ·have hx9 : x < 40 := by rcases hx with h | h | h <;> omega
  have hv := hm.get (n := 0) rfl x.toNat (by omega)
  have HB := Aside0.mk (show bump L x t = L.set x.toNat (rd L (x.toNat : Nat) + t) by unfold bump; rw [if_neg (by omega), slot_flag hx0])
  have h1 := hb x.toNat (by omega)
  generalize rd L (x.toNat : Nat) = y at *
  have HW := Aside0.mk (i64w (x := y + t) (by omega) (by omega))
  clear hx hb
  go_enter Try.func58, Try.ntmps58
  go_wp2_with (first | fail | ((with_reducible refine gt_field 71 0 ?_); refine st_field rfl 71 _ 0 rfl rfl field71_0 ?_) | ((with_reducible refine gt_elem 68 ?_); refine st_elem rfl 68 _ _ rfl rfl rfl arr68 (by first | omega | assumption | (simp only [lens]; first | omega | assumption) | (simp [lens]; done) | (simp [lens]; omega)) (by first | omega | assumption | (simp only [lens]; first | omega | assumption) | (simp [lens]; done) | (simp [lens]; omega)) ?_) | ((with_reducible refine gt_load 3 ?_); (first | (refine st_get rfl 3 _ rfl hm rfl 0 rfl one3 (by first | omega | assumption | (simp only [lens]; first | omega | assumption) | (simp [lens]; done) | (simp [lens]; omega)) ?_) | (refine st_get rfl 3 _ rfl hm rfl 1 rfl one3 (by first | omega | assumption | (simp only [lens]; first | omega | assumption) | (simp [lens]; done) | (simp [lens]; omega)) ?_))) | ((with_reducible refine gt_store 3 ?_); (first | (refine st_set rfl 3 _ _ rfl hm rfl rfl 0 rfl one3 (by first | omega | assumption | (simp only [lens]; first | omega | assumption) | (simp [lens]; done) | (simp [lens]; omega)) ?_) | (refine st_set rfl 3 _ _ rfl hm rfl rfl 1 rfl one3 (by first | omega | assumption | (simp only [lens]; first | omega | assumption) | (simp [lens]; done) | (simp [lens]; omega)) ?_)); clear hm; intro ws hm; simp only [List.set_cons_zero, List.set_cons_succ] at hm) | ((with_reducible refine gt_field 71 1 ?_); refine st_field rfl 71 _ 1 rfl rfl field71_1 ?_) | ((with_reducible refine gt_elem 69 ?_); refine st_elem rfl 69 _ _ rfl rfl rfl arr69 (by first | omega | assumption | (simp only [lens]; first | omega | assumption) | (simp [lens]; done) | (simp [lens]; omega)) (by first | omega | assumption | (simp only [lens]; first | omega | assumption) | (simp [lens]; done) | (simp [lens]; omega)) ?_))
  go_still_tail 11, (by kernel_rfl)
  replace hm := hm.drawn (w.drawn + 1)
  go_wp2_with (first | fail | ((with_reducible refine gt_field 71 0 ?_); refine st_field rfl 71 _ 0 rfl rfl field71_0 ?_) | ((with_reducible refine gt_elem 68 ?_); refine st_elem rfl 68 _ _ rfl rfl rfl arr68 (by first | omega | assumption | (simp only [lens]; first | omega | assumption) | (simp [lens]; done) | (simp [lens]; omega)) (by first | omega | assumption | (simp only [lens]; first | omega | assumption) | (simp [lens]; done) | (simp [lens]; omega)) ?_) | ((with_reducible refine gt_load 3 ?_); (first | (refine st_get rfl 3 _ rfl hm rfl 0 rfl one3 (by first | omega | assumption | (simp only [lens]; first | omega | assumption) | (simp [lens]; done) | (simp [lens]; omega)) ?_) | (refine st_get rfl 3 _ rfl hm rfl 1 rfl one3 (by first | omega | assumption | (simp only [lens]; first | omega | assumption) | (simp [lens]; done) | (simp [lens]; omega)) ?_))) | ((with_reducible refine gt_store 3 ?_); (first | (refine st_set rfl 3 _ _ rfl hm rfl rfl 0 rfl one3 (by first | omega | assumption | (simp only [lens]; first | omega | assumption) | (simp [lens]; done) | (simp [lens]; omega)) ?_) | (refine st_set rfl 3 _ _ rfl hm rfl rfl 1 rfl one3 (by first | omega | assumption | (simp only [lens]; first | omega | assumption) | (simp [lens]; done) | (simp [lens]; omega)) ?_)); clear hm; intro ws hm; simp only [List.set_cons_zero, List.set_cons_succ] at hm) | ((with_reducible refine gt_field 71 1 ?_); refine st_field rfl 71 _ 1 rfl rfl field71_1 ?_) | ((with_reducible refine gt_elem 69 ?_); refine st_elem rfl 69 _ _ rfl rfl rfl arr69 (by first | omega | assumption | (simp only [lens]; first | omega | assumption) | (simp [lens]; done) | (simp [lens]; omega)) (by first | omega | assumption | (simp only [lens]; first | omega | assumption) | (simp [lens]; done) | (simp [lens]; omega)) ?_))
  refine bodyPost_end (results_none rfl _ _ _) rfl ?_
  refine ⟨rfl, ?_⟩
  rw [HW.out] at hm
  rw [HB.out]
  exact hm.gives (M := []) rfl
 ·by_cases hx1 : x = -10
  ·have HB := Aside0.mk (show bump L x t = L by unfold bump; rw [if_pos hx1])
   subst hx1
   clear hx0 hx hb
   go_enter Try.func58, Try.ntmps58
   go_wp2_with (first | fail | ((with_reducible refine gt_field 71 0 ?_); refine st_field rfl 71 _ 0 rfl rfl field71_0 ?_) | ((with_reducible refine gt_elem 68 ?_); refine st_elem rfl 68 _ _ rfl rfl rfl arr68 (by first | omega | assumption | (simp only [lens]; first | omega | assumption) | (simp [lens]; done) | (simp [lens]; omega)) (by first | omega | assumption | (simp only [lens]; first | omega | assumption) | (simp [lens]; done) | (simp [lens]; omega)) ?_) | ((with_reducible refine gt_load 3 ?_); (first | (refine st_get rfl 3 _ rfl hm rfl 0 rfl one3 (by first | omega | assumption | (simp only [lens]; first | omega | assumption) | (simp [lens]; done) | (simp [lens]; omega)) ?_) | (refine st_get rfl 3 _ rfl hm rfl 1 rfl one3 (by first | omega | assumption | (simp only [lens]; first | omega | assumption) | (simp [lens]; done) | (simp [lens]; omega)) ?_))) | ((with_reducible refine gt_store 3 ?_); (first | (refine st_set rfl 3 _ _ rfl hm rfl rfl 0 rfl one3 (by first | omega | assumption | (simp only [lens]; first | omega | assumption) | (simp [lens]; done) | (simp [lens]; omega)) ?_) | (refine st_set rfl 3 _ _ rfl hm rfl rfl 1 rfl one3 (by first | omega | assumption | (simp only [lens]; first | omega | assumption) | (simp [lens]; done) | (simp [lens]; omega)) ?_)); clear hm; intro ws hm; simp only [List.set_cons_zero, List.set_cons_succ] at hm) | ((with_reducible refine gt_field 71 1 ?_); refine st_field rfl 71 _ 1 rfl rfl field71_1 ?_) | ((with_reducible refine gt_elem 69 ?_); refine st_elem rfl 69 _ _ rfl rfl rfl arr69 (by first | omega | assumption | (simp only [lens]; first | omega | assumption) | (simp [lens]; done) | (simp [lens]; omega)) (by first | omega | assumption | (simp only [lens]; first | omega | assumption) | (simp [lens]; done) | (simp [lens]; omega)) ?_))
   refine bodyPost_end (results_none rfl _ _ _) rfl ?_
   refine ⟨rfl, ?_⟩
   rw [HB.out]
   exact hm.gives (M := []) rfl
  ·have hx9 : x = -4 ∨ x = -3 ∨ x = -2 ∨ x = -1 := by rcases hx with h | h | h <;> omega
   have hv := hm.get (n := 0) rfl (slot x) (by have := slot_lt hx hx1; omega)
   have HB := Aside0.mk (show bump L x t = L.set (slot x) (rd L (slot x : Nat) + t) by unfold bump; rw [if_neg hx1])
   have h1 := hb (slot x) (slot_lt hx hx1)
   generalize rd L (slot x : Nat) = y at *
   have HW := Aside0.mk (i64w (x := y + t) (by omega) (by omega))
   clear hb hx hx0 hx1
   rcases hx9 with rfl | rfl | rfl | rfl
   all_goals
    simp only [slot] at hv
    simp at hv
    have k0 : IntKind.i8.wrap 0 = 0 := rfl
    have k1 : IntKind.i8.wrap 1 = 1 := rfl
    have k2 : IntKind.i8.wrap 2 = 2 := rfl
    have k3 : IntKind.i8.wrap 3 = 3 := rfl
    have k4 : IntKind.i8.wrap 4 = 4 := rfl
    go_enter Try.func58, Try.ntmps58
    go_wp2_with (first | fail | ((with_reducible refine gt_field 71 0 ?_); refine st_field rfl 71 _ 0 rfl rfl field71_0 ?_) | ((with_reducible refine gt_elem 68 ?_); refine st_elem rfl 68 _ _ rfl rfl rfl arr68 (by first | omega | assumption | (simp only [lens]; first | omega | assumption) | (simp [lens]; done) | (simp [lens]; omega)) (by first | omega | assumption | (simp only [lens]; first | omega | assumption) | (simp [lens]; done) | (simp [lens]; omega)) ?_) | ((with_reducible refine gt_load 3 ?_); (first | (refine st_get rfl 3 _ rfl hm rfl 0 rfl one3 (by first | omega | assumption | (simp only [lens]; first | omega | assumption) | (simp [lens]; done) | (simp [lens]; omega)) ?_) | (refine st_get rfl 3 _ rfl hm rfl 1 rfl one3 (by first | omega | assumption | (simp only [lens]; first | omega | assumption) | (simp [lens]; done) | (simp [lens]; omega)) ?_))) | ((with_reducible refine gt_store 3 ?_); (first | (refine st_set rfl 3 _ _ rfl hm rfl rfl 0 rfl one3 (by first | omega | assumption | (simp only [lens]; first | omega | assumption) | (simp [lens]; done) | (simp [lens]; omega)) ?_) | (refine st_set rfl 3 _ _ rfl hm rfl rfl 1 rfl one3 (by first | omega | assumption | (simp only [lens]; first | omega | assumption) | (simp [lens]; done) | (simp [lens]; omega)) ?_)); clear hm; intro ws hm; simp only [List.set_cons_zero, List.set_cons_succ] at hm) | ((with_reducible refine gt_field 71 1 ?_); refine st_field rfl 71 _ 1 rfl rfl field71_1 ?_) | ((with_reducible refine gt_elem 69 ?_); refine st_elem rfl 69 _ _ rfl rfl rfl arr69 (by first | omega | assumption | (simp only [lens]; first | omega | assumption) | (simp [lens]; done) | (simp [lens]; omega)) (by first | omega | assumption | (simp only [lens]; first | omega | assumption) | (simp [lens]; done) | (simp [lens]; omega)) ?_))
    go_still_tail 13, (by kernel_rfl)
    replace hm := hm.drawn (w.drawn + 1)
    go_wp2_with (first | fail | ((with_reducible refine gt_field 71 0 ?_); refine st_field rfl 71 _ 0 rfl rfl field71_0 ?_) | ((with_reducible refine gt_elem 68 ?_); refine st_elem rfl 68 _ _ rfl rfl rfl arr68 (by first | omega | assumption | (simp only [lens]; first | omega | assumption) | (simp [lens]; done) | (simp [lens]; omega)) (by first | omega | assumption | (simp only [lens]; first | omega | assumption) | (simp [lens]; done) | (simp [lens]; omega)) ?_) | ((with_reducible refine gt_load 3 ?_); (first | (refine st_get rfl 3 _ rfl hm rfl 0 rfl one3 (by first | omega | assumption | (simp only [lens]; first | omega | assumption) | (simp [lens]; done) | (simp [lens]; omega)) ?_) | (refine st_get rfl 3 _ rfl hm rfl 1 rfl one3 (by first | omega | assumption | (simp only [lens]; first | omega | assumption) | (simp [lens]; done) | (simp [lens]; omega)) ?_))) | ((with_reducible refine gt_store 3 ?_); (first | (refine st_set rfl 3 _ _ rfl hm rfl rfl 0 rfl one3 (by first | omega | assumption | (simp only [lens]; first | omega | assumption) | (simp [lens]; done) | (simp [lens]; omega)) ?_) | (refine st_set rfl 3 _ _ rfl hm rfl rfl 1 rfl one3 (by first | omega | assumption | (simp only [lens]; first | omega | assumption) | (simp [lens]; done) | (simp [lens]; omega)) ?_)); clear hm; intro ws hm; simp only [List.set_cons_zero, List.set_cons_succ] at hm) | ((with_reducible refine gt_field 71 1 ?_); refine st_field rfl 71 _ 1 rfl rfl field71_1 ?_) | ((with_reducible refine gt_elem 69 ?_); refine st_elem rfl 69 _ _ rfl rfl rfl arr69 (by first | omega | assumption | (simp only [lens]; first | omega | assumption) | (simp [lens]; done) | (simp [lens]; omega)) (by first | omega | assumption | (simp only [lens]; first | omega | assumption) | (simp [lens]; done) | (simp [lens]; omega)) ?_))
    refine bodyPost_end (results_none rfl _ _ _) rfl ?_
    refine ⟨rfl, ?_⟩
    rw [HW.out] at hm
    rw [HB.out]
    simpa [slot] using hm.gives (M := []) rfl
theorem NumH.at {h : List Int} (hh : ∀ x ∈ h, NumH x) (i : Nat) (hi : i < h.length) : NumH (rd h (i : Int)) := by
 rw [rd_get h i hi]; exact hh _ (List.getElem_mem hi)
set_option maxHeartbeats 4000000 in
set_option maxRecDepth 100000 in
theorem hoistPieces_calls (A0 : Option Addr) (c0 : Nat) (h : List Int) (w : World) (hr : Kd.C (Kd.int .i8) w A0 h.length h) (hc : h.length ≤ c0) (hh : ∀ x ∈ h, NumH x) (hn : h.length ≤ 1000) :
  Calls Try.prog 41 #[.slice A0 h.length c0] w fun e w' => e = .returned (.agg (vals .i64 (pile (zs 44) h 1 h.length))) ∧ Below w.heap.size w w' := by
 have hm := Mem.start w
 have HR := Aside0.mk hr
 have HH := Aside0.mk hh
 clear hr hh
 go_enter Try.func41, Try.ntmps41
 go_wp2_with (first | fail | ((with_reducible refine gt_alloc 2 71 ?_); refine st_alloc rfl 2 rfl 71 rfl hm zero71 ?_; clear hm; intro g2 w2 hm) | ((with_reducible refine gt_build 71 ?_); refine st_zero rfl 71 rfl built71 ?_) | ((with_reducible refine gt_alloc 3 71 ?_); refine st_alloc rfl 3 rfl 71 rfl hm zero71 ?_; clear hm; intro g3 w3 hm) | ((with_reducible refine gt_store 71 ?_); (first | (refine st_full rfl 71 _ _ rfl hm rfl rfl 0 rfl agg71 (by first | omega | assumption | (simp only [lens]; first | omega | assumption) | (simp [lens]; done) | (simp [lens]; omega)) (by first | omega | assumption | (simp only [lens]; first | omega | assumption) | (simp [lens]; done) | (simp [lens]; omega)) ?_) | (refine st_full rfl 71 _ _ rfl hm rfl rfl 1 rfl agg71 (by first | omega | assumption | (simp only [lens]; first | omega | assumption) | (simp [lens]; done) | (simp [lens]; omega)) (by first | omega | assumption | (simp only [lens]; first | omega | assumption) | (simp [lens]; done) | (simp [lens]; omega)) ?_) | (refine st_full rfl 71 _ _ rfl hm rfl rfl 2 rfl agg71 (by first | omega | assumption | (simp only [lens]; first | omega | assumption) | (simp [lens]; done) | (simp [lens]; omega)) (by first | omega | assumption | (simp only [lens]; first | omega | assumption) | (simp [lens]; done) | (simp [lens]; omega)) ?_) | (refine st_full rfl 71 _ _ rfl hm rfl rfl 3 rfl agg71 (by first | omega | assumption | (simp only [lens]; first | omega | assumption) | (simp [lens]; done) | (simp [lens]; omega)) (by first | omega | assumption | (simp only [lens]; first | omega | assumption) | (simp [lens]; done) | (simp [lens]; omega)) ?_)); clear hm; intro ws hm; simp only [List.set_cons_zero, List.set_cons_succ] at hm) | ((with_reducible refine gt_load 64 ?_); (first | (refine st_get rfl 64 _ rfl hm rfl 0 rfl one64 (by first | omega | assumption | (simp only [lens]; first | omega | assumption) | (simp [lens]; done) | (simp [lens]; omega)) ?_) | (refine st_get rfl 64 _ rfl hm rfl 1 rfl one64 (by first | omega | assumption | (simp only [lens]; first | omega | assumption) | (simp [lens]; done) | (simp [lens]; omega)) ?_) | (refine st_get rfl 64 _ rfl hm rfl 2 rfl one64 (by first | omega | assumption | (simp only [lens]; first | omega | assumption) | (simp [lens]; done) | (simp [lens]; omega)) ?_) | (refine st_get rfl 64 _ rfl hm rfl 3 rfl one64 (by first | omega | assumption | (simp only [lens]; first | omega | assumption) | (simp [lens]; done) | (simp [lens]; omega)) ?_))) | ((with_reducible refine gt_load 71 ?_); (first | (refine st_load rfl 71 _ rfl hm rfl 0 rfl agg71 (by first | omega | assumption | (simp only [lens]; first | omega | assumption) | (simp [lens]; done) | (simp [lens]; omega)) ?_) | (refine st_load rfl 71 _ rfl hm rfl 1 rfl agg71 (by first | omega | assumption | (simp only [lens]; first | omega | assumption) | (simp [lens]; done) | (simp [lens]; omega)) ?_) | (refine st_load rfl 71 _ rfl hm rfl 2 rfl agg71 (by first | omega | assumption | (simp only [lens]; first | omega | assumption) | (simp [lens]; done) | (simp [lens]; omega)) ?_) | (refine st_load rfl 71 _ rfl hm rfl 3 rfl agg71 (by first | omega | assumption | (simp only [lens]; first | omega | assumption) | (simp [lens]; done) | (simp [lens]; omega)) ?_))))
 go_loopw [9, 5] (fun v9 v5 wr => ∃ i : Nat, i ≤ h.length ∧ v9 = .int .i64 i ∧ Mem w wr [⟨g3, vals .i64 (pile (zs 44) h 1 i), 71, true⟩, ⟨g2, vals .i64 (zs 44), 71, true⟩]) (fun v9 _ _ => h.length - (intOf v9).toNat)
 case atStart => exact ⟨0, by omega, rfl, hm⟩
 case round =>
  obtain ⟨i, hi, rfl, hm⟩ := hrel
  have hl2 := (pile_length (zs 44) h 1 i).trans zs_length
  by_cases hlt : i < h.length
  ·obtain ⟨ad, rfl, hc1⟩ := Kd.at_int (Kd.C_below HR.out (hm.done rfl)) (i : Int) (by omega) (by omega)
   rw [Int.toNat_natCast] at hc1
   have HX := Aside0.mk (NumH.at HH.out i hlt)
   have HS : Aside0 (pile (zs 44) h 1 (i + 1) = bump (pile (zs 44) h 1 i) (rd h (i : Int)) 1) := ⟨rfl⟩
   have HP := Aside0.mk (fun j hj => pile_small h i j hj)
   generalize rd h (i : Int) = x at *
   generalize pile (zs 44) h 1 i = X at *
   go_wp2_with (first
    | (first | fail | ((with_reducible refine gt_alloc 2 71 ?_); refine st_alloc rfl 2 rfl 71 rfl hm zero71 ?_; clear hm; intro g2 w2 hm) | ((with_reducible refine gt_build 71 ?_); refine st_zero rfl 71 rfl built71 ?_) | ((with_reducible refine gt_alloc 3 71 ?_); refine st_alloc rfl 3 rfl 71 rfl hm zero71 ?_; clear hm; intro g3 w3 hm) | ((with_reducible refine gt_store 71 ?_); (first | (refine st_full rfl 71 _ _ rfl hm rfl rfl 0 rfl agg71 (by first | omega | assumption | (simp only [lens]; first | omega | assumption) | (simp [lens]; done) | (simp [lens]; omega)) (by first | omega | assumption | (simp only [lens]; first | omega | assumption) | (simp [lens]; done) | (simp [lens]; omega)) ?_) | (refine st_full rfl 71 _ _ rfl hm rfl rfl 1 rfl agg71 (by first | omega | assumption | (simp only [lens]; first | omega | assumption) | (simp [lens]; done) | (simp [lens]; omega)) (by first | omega | assumption | (simp only [lens]; first | omega | assumption) | (simp [lens]; done) | (simp [lens]; omega)) ?_) | (refine st_full rfl 71 _ _ rfl hm rfl rfl 2 rfl agg71 (by first | omega | assumption | (simp only [lens]; first | omega | assumption) | (simp [lens]; done) | (simp [lens]; omega)) (by first | omega | assumption | (simp only [lens]; first | omega | assumption) | (simp [lens]; done) | (simp [lens]; omega)) ?_) | (refine st_full rfl 71 _ _ rfl hm rfl rfl 3 rfl agg71 (by first | omega | assumption | (simp only [lens]; first | omega | assumption) | (simp [lens]; done) | (simp [lens]; omega)) (by first | omega | assumption | (simp only [lens]; first | omega | assumption) | (simp [lens]; done) | (simp [lens]; omega)) ?_)); clear hm; intro ws hm; simp only [List.set_cons_zero, List.set_cons_succ] at hm) | ((with_reducible refine gt_load 64 ?_); (first | (refine st_get rfl 64 _ rfl hm rfl 0 rfl one64 (by first | omega | assumption | (simp only [lens]; first | omega | assumption) | (simp [lens]; done) | (simp [lens]; omega)) ?_) | (refine st_get rfl 64 _ rfl hm rfl 1 rfl one64 (by first | omega | assumption | (simp only [lens]; first | omega | assumption) | (simp [lens]; done) | (simp [lens]; omega)) ?_) | (refine st_get rfl 64 _ rfl hm rfl 2 rfl one64 (by first | omega | assumption | (simp only [lens]; first | omega | assumption) | (simp [lens]; done) | (simp [lens]; omega)) ?_) | (refine st_get rfl 64 _ rfl hm rfl 3 rfl one64 (by first | omega | assumption | (simp only [lens]; first | omega | assumption) | (simp [lens]; done) | (simp [lens]; omega)) ?_))) | ((with_reducible refine gt_load 71 ?_); (first | (refine st_load rfl 71 _ rfl hm rfl 0 rfl agg71 (by first | omega | assumption | (simp only [lens]; first | omega | assumption) | (simp [lens]; done) | (simp [lens]; omega)) ?_) | (refine st_load rfl 71 _ rfl hm rfl 1 rfl agg71 (by first | omega | assumption | (simp only [lens]; first | omega | assumption) | (simp [lens]; done) | (simp [lens]; omega)) ?_) | (refine st_load rfl 71 _ rfl hm rfl 2 rfl agg71 (by first | omega | assumption | (simp only [lens]; first | omega | assumption) | (simp [lens]; done) | (simp [lens]; omega)) ?_) | (refine st_load rfl 71 _ rfl hm rfl 3 rfl agg71 (by first | omega | assumption | (simp only [lens]; first | omega | assumption) | (simp [lens]; done) | (simp [lens]; omega)) ?_))))
    | (go_at_call 58; refine (add_calls g3 X x 1 _ (hm.mem (n := 0) rfl) hl2 HX.out (fun j hj => by have := HP.out j hj; omega) (by omega)).mono ?_; rintro e wa ⟨rfl, hf⟩; replace hm := hm.fr1 (n := 0) rfl hf; simp only [List.set_cons_zero] at hm; clear hf))
   go_roundw
   case rel => exact ⟨i + 1, by omega, by go_num, by rw [HS.out]; exact hm⟩
   case measure => simp [intOf]; omega
  ·have HI := Aside0.mk (show i = h.length by omega)
   generalize hX : pile (zs 44) h 1 i = X at *
   have HX := Aside0.mk hX
   clear hX
   go_wp2_with (first | fail | ((with_reducible refine gt_alloc 2 71 ?_); refine st_alloc rfl 2 rfl 71 rfl hm zero71 ?_; clear hm; intro g2 w2 hm) | ((with_reducible refine gt_build 71 ?_); refine st_zero rfl 71 rfl built71 ?_) | ((with_reducible refine gt_alloc 3 71 ?_); refine st_alloc rfl 3 rfl 71 rfl hm zero71 ?_; clear hm; intro g3 w3 hm) | ((with_reducible refine gt_store 71 ?_); (first | (refine st_full rfl 71 _ _ rfl hm rfl rfl 0 rfl agg71 (by first | omega | assumption | (simp only [lens]; first | omega | assumption) | (simp [lens]; done) | (simp [lens]; omega)) (by first | omega | assumption | (simp only [lens]; first | omega | assumption) | (simp [lens]; done) | (simp [lens]; omega)) ?_) | (refine st_full rfl 71 _ _ rfl hm rfl rfl 1 rfl agg71 (by first | omega | assumption | (simp only [lens]; first | omega | assumption) | (simp [lens]; done) | (simp [lens]; omega)) (by first | omega | assumption | (simp only [lens]; first | omega | assumption) | (simp [lens]; done) | (simp [lens]; omega)) ?_) | (refine st_full rfl 71 _ _ rfl hm rfl rfl 2 rfl agg71 (by first | omega | assumption | (simp only [lens]; first | omega | assumption) | (simp [lens]; done) | (simp [lens]; omega)) (by first | omega | assumption | (simp only [lens]; first | omega | assumption) | (simp [lens]; done) | (simp [lens]; omega)) ?_) | (refine st_full rfl 71 _ _ rfl hm rfl rfl 3 rfl agg71 (by first | omega | assumption | (simp only [lens]; first | omega | assumption) | (simp [lens]; done) | (simp [lens]; omega)) (by first | omega | assumption | (simp only [lens]; first | omega | assumption) | (simp [lens]; done) | (simp [lens]; omega)) ?_)); clear hm; intro ws hm; simp only [List.set_cons_zero, List.set_cons_succ] at hm) | ((with_reducible refine gt_load 64 ?_); (first | (refine st_get rfl 64 _ rfl hm rfl 0 rfl one64 (by first | omega | assumption | (simp only [lens]; first | omega | assumption) | (simp [lens]; done) | (simp [lens]; omega)) ?_) | (refine st_get rfl 64 _ rfl hm rfl 1 rfl one64 (by first | omega | assumption | (simp only [lens]; first | omega | assumption) | (simp [lens]; done) | (simp [lens]; omega)) ?_) | (refine st_get rfl 64 _ rfl hm rfl 2 rfl one64 (by first | omega | assumption | (simp only [lens]; first | omega | assumption) | (simp [lens]; done) | (simp [lens]; omega)) ?_) | (refine st_get rfl 64 _ rfl hm rfl 3 rfl one64 (by first | omega | assumption | (simp only [lens]; first | omega | assumption) | (simp [lens]; done) | (simp [lens]; omega)) ?_))) | ((with_reducible refine gt_load 71 ?_); (first | (refine st_load rfl 71 _ rfl hm rfl 0 rfl agg71 (by first | omega | assumption | (simp only [lens]; first | omega | assumption) | (simp [lens]; done) | (simp [lens]; omega)) ?_) | (refine st_load rfl 71 _ rfl hm rfl 1 rfl agg71 (by first | omega | assumption | (simp only [lens]; first | omega | assumption) | (simp [lens]; done) | (simp [lens]; omega)) ?_) | (refine st_load rfl 71 _ rfl hm rfl 2 rfl agg71 (by first | omega | assumption | (simp only [lens]; first | omega | assumption) | (simp [lens]; done) | (simp [lens]; omega)) ?_) | (refine st_load rfl 71 _ rfl hm rfl 3 rfl agg71 (by first | omega | assumption | (simp only [lens]; first | omega | assumption) | (simp [lens]; done) | (simp [lens]; omega)) ?_))))
   ((try simp only [Exit.inBlock, Exit.then]); (first | (refine ret_cell hm rfl rfl 1 rfl agg71 (by first | omega | assumption | (simp only [lens]; first | omega | assumption) | (simp [lens]; done) | (simp [lens]; omega)) rfl ?_) | (refine ret_cell_tmp hm rfl rfl 1 rfl agg71 (by first | omega | assumption | (simp only [lens]; first | omega | assumption) | (simp [lens]; done) | (simp [lens]; omega)) rfl ?_)))
   exact ⟨by rw [← HX.out, HI.out], hm.done rfl⟩
theorem i16w {x : Int} (h0 : -32768 ≤ x) (h1 : x ≤ 32767) : IntKind.i16.wrap x = x := by
 unfold IntKind.wrap
 simp only [IntKind.signed, IntKind.bits]
 simp
 omega
def Small8 (h : List Int) : Prop := h.length ≤ 100000000 ∧ ∀ x ∈ h, -128 ≤ x ∧ x ≤ 127
end Go.Proofs.Ytfgogdhhihbcjaa.Arr
namespace Go.Proofs.Ytfgogdhhihbcjaa.Arr
open Go.RowKit Go.Proofs.Ytfgogdhhihbcjaa.H Go.Proofs.Ytfgogdhhihbcjaa.U Go.Proofs.YtfgogdhhihbcjaaW.PrintLast Go.Proofs.YtfgogdhhihbcjaaW.PrintMore Go.Proofs.YtfgogdhhihbcjaaW.PrintWords
set_option linter.unusedVariables false
set_option linter.unusedSimpArgs false
set_option maxHeartbeats 8000000 in
set_option maxRecDepth 100000 in
theorem l04Add_calls (g : Nat) (L : List Int) (A0 : Option Addr) (c0 : Nat) (h : List Int) (t : Int) (w : World) (h0 : w.heap[g]? = some (.cells (vals .i16 L) 31 (0, 0)))
  (hr : ∀ (W : World) (cs : Array Value), Fr1 g cs 31 w W → Kd.C (Kd.int .i8) W A0 h.length h) (hc : h.length ≤ c0) (hl : L.length = 44) (hh : ∀ x ∈ h, NumH x) (hn : h.length ≤ 1000)
  (hb : ∀ i : Nat, i ≤ h.length → ∀ j : Nat, j < 44 → -32768 ≤ rd (pile L h t i) (j : Int) ∧ rd (pile L h t i) (j : Int) ≤ 32767) :
  Calls Try.prog 39 #[.pointer (some ⟨g, 0, none⟩), .slice A0 h.length c0, .int .i16 t] w fun e w' => e = .returned (.tuple #[]) ∧ Fr1 g (vals .i16 (pile L h t h.length)) 31 w w' := by
 have hm := Mem.given h0
 have HR := Aside0.mk hr
 have HH := Aside0.mk hh
 have HB := Aside0.mk hb
 clear hr hh hb h0
 go_enter Try.func39, Try.ntmps39
 go_wp2_with (first | fail | ((with_reducible refine gt_load 64 ?_); (first | (refine st_get rfl 64 _ rfl hm rfl 0 rfl one64 (by first | omega | assumption | (simp only [lens]; first | omega | assumption) | (simp [lens]; done) | (simp [lens]; omega)) ?_) | (refine st_get rfl 64 _ rfl hm rfl 1 rfl one64 (by first | omega | assumption | (simp only [lens]; first | omega | assumption) | (simp [lens]; done) | (simp [lens]; omega)) ?_))) | ((with_reducible refine gt_field 31 1 ?_); refine st_field rfl 31 _ 1 rfl rfl field31_1 ?_) | ((with_reducible refine gt_elem 24 ?_); refine st_elem rfl 24 _ _ rfl rfl rfl arr24 (by first | omega | assumption | (simp only [lens]; first | omega | assumption) | (simp [lens]; done) | (simp [lens]; omega)) (by first | omega | assumption | (simp only [lens]; first | omega | assumption) | (simp [lens]; done) | (simp [lens]; omega)) ?_) | ((with_reducible refine gt_load 22 ?_); (first | (refine st_get rfl 22 _ rfl hm rfl 0 rfl one22 (by first | omega | assumption | (simp only [lens]; first | omega | assumption) | (simp [lens]; done) | (simp [lens]; omega)) ?_) | (refine st_get rfl 22 _ rfl hm rfl 1 rfl one22 (by first | omega | assumption | (simp only [lens]; first | omega | assumption) | (simp [lens]; done) | (simp [lens]; omega)) ?_))) | ((with_reducible refine gt_store 22 ?_); (first | (refine st_set rfl 22 _ _ rfl hm rfl rfl 0 rfl one22 (by first | omega | assumption | (simp only [lens]; first | omega | assumption) | (simp [lens]; done) | (simp [lens]; omega)) ?_) | (refine st_set rfl 22 _ _ rfl hm rfl rfl 1 rfl one22 (by first | omega | assumption | (simp only [lens]; first | omega | assumption) | (simp [lens]; done) | (simp [lens]; omega)) ?_)); clear hm; intro ws hm; simp only [List.set_cons_zero, List.set_cons_succ] at hm) | ((with_reducible refine gt_field 31 0 ?_); refine st_field rfl 31 _ 0 rfl rfl field31_0 ?_) | ((with_reducible refine gt_elem 23 ?_); refine st_elem rfl 23 _ _ rfl rfl rfl arr23 (by first | omega | assumption | (simp only [lens]; first | omega | assumption) | (simp [lens]; done) | (simp [lens]; omega)) (by first | omega | assumption | (simp only [lens]; first | omega | assumption) | (simp [lens]; done) | (simp [lens]; omega)) ?_))
 go_loopw [6] (fun v6 wr => ∃ i : Nat, i ≤ h.length ∧ v6 = .int .i64 i ∧ Mem w wr [⟨g, vals .i16 (pile L h t i), 31, false⟩]) (fun v6 _ => h.length - (intOf v6).toNat)
 case atStart => exact ⟨0, by omega, rfl, hm⟩
 case round =>
  obtain ⟨i, hi, rfl, hm⟩ := hrel
  have hl2 := (pile_length L h t i).trans hl
  by_cases hlt : i < h.length
  ·obtain ⟨ad, rfl, hc1⟩ := Kd.at_int (HR.out wr _ (hm.gives (M := []) rfl)) (i : Int) (by omega) (by omega)
   rw [Int.toNat_natCast] at hc1
   have hx := NumH.at HH.out i hlt
   have HS : Aside0 (pile L h t (i + 1) = bump (pile L h t i) (rd h (i : Int)) t) := ⟨rfl⟩
   have hb1 := HB.out (i + 1) (by omega)
   rw [HS.out] at hb1
   generalize rd h (i : Int) = x at *
   generalize pile L h t i = X at *
   by_cases hx1 : x = -10
   ·have HS2 := Aside0.mk (show pile L h t (i + 1) = X by rw [HS.out, bump, if_pos hx1])
    clear HS hb1 hx
    subst hx1
    go_wp2_with (first | fail | ((with_reducible refine gt_load 64 ?_); (first | (refine st_get rfl 64 _ rfl hm rfl 0 rfl one64 (by first | omega | assumption | (simp only [lens]; first | omega | assumption) | (simp [lens]; done) | (simp [lens]; omega)) ?_) | (refine st_get rfl 64 _ rfl hm rfl 1 rfl one64 (by first | omega | assumption | (simp only [lens]; first | omega | assumption) | (simp [lens]; done) | (simp [lens]; omega)) ?_))) | ((with_reducible refine gt_field 31 1 ?_); refine st_field rfl 31 _ 1 rfl rfl field31_1 ?_) | ((with_reducible refine gt_elem 24 ?_); refine st_elem rfl 24 _ _ rfl rfl rfl arr24 (by first | omega | assumption | (simp only [lens]; first | omega | assumption) | (simp [lens]; done) | (simp [lens]; omega)) (by first | omega | assumption | (simp only [lens]; first | omega | assumption) | (simp [lens]; done) | (simp [lens]; omega)) ?_) | ((with_reducible refine gt_load 22 ?_); (first | (refine st_get rfl 22 _ rfl hm rfl 0 rfl one22 (by first | omega | assumption | (simp only [lens]; first | omega | assumption) | (simp [lens]; done) | (simp [lens]; omega)) ?_) | (refine st_get rfl 22 _ rfl hm rfl 1 rfl one22 (by first | omega | assumption | (simp only [lens]; first | omega | assumption) | (simp [lens]; done) | (simp [lens]; omega)) ?_))) | ((with_reducible refine gt_store 22 ?_); (first | (refine st_set rfl 22 _ _ rfl hm rfl rfl 0 rfl one22 (by first | omega | assumption | (simp only [lens]; first | omega | assumption) | (simp [lens]; done) | (simp [lens]; omega)) ?_) | (refine st_set rfl 22 _ _ rfl hm rfl rfl 1 rfl one22 (by first | omega | assumption | (simp only [lens]; first | omega | assumption) | (simp [lens]; done) | (simp [lens]; omega)) ?_)); clear hm; intro ws hm; simp only [List.set_cons_zero, List.set_cons_succ] at hm) | ((with_reducible refine gt_field 31 0 ?_); refine st_field rfl 31 _ 0 rfl rfl field31_0 ?_) | ((with_reducible refine gt_elem 23 ?_); refine st_elem rfl 23 _ _ rfl rfl rfl arr23 (by first | omega | assumption | (simp only [lens]; first | omega | assumption) | (simp [lens]; done) | (simp [lens]; omega)) (by first | omega | assumption | (simp only [lens]; first | omega | assumption) | (simp [lens]; done) | (simp [lens]; omega)) ?_))
    go_roundw
    case rel => exact ⟨i + 1, by omega, by go_num, by rw [HS2.out]; exact hm⟩
    case measure => simp [intOf]; omega
   ·have hv := hm.get (n := 0) rfl (slot x) (by have := slot_lt hx hx1; omega)
    have hy := hb1 (slot x) (slot_lt hx hx1)
    rw [rd_bump X x t (slot x) (by have := slot_lt hx hx1; omega), if_pos ⟨hx1, rfl⟩] at hy
    have HS2 := Aside0.mk (show pile L h t (i + 1) = X.set (slot x) (rd X (slot x : Nat) + t) by rw [HS.out, bump, if_neg hx1])
    generalize rd X (slot x : Nat) = y at *
    have HW := Aside0.mk (i16w (x := y + t) (by omega) (by omega))
    clear HS hb1 hy
    by_cases hx0 : 0 ≤ x
    ·have hx9 : x < 40 := by rcases hx with h | h | h <;> omega
     have hn0 : ¬ x < 0 := by omega
     rw [slot_flag hx0] at hv HS2
     clear hx
     go_wp2_with (first | fail | ((with_reducible refine gt_load 64 ?_); (first | (refine st_get rfl 64 _ rfl hm rfl 0 rfl one64 (by first | omega | assumption | (simp only [lens]; first | omega | assumption) | (simp [lens]; done) | (simp [lens]; omega)) ?_) | (refine st_get rfl 64 _ rfl hm rfl 1 rfl one64 (by first | omega | assumption | (simp only [lens]; first | omega | assumption) | (simp [lens]; done) | (simp [lens]; omega)) ?_))) | ((with_reducible refine gt_field 31 1 ?_); refine st_field rfl 31 _ 1 rfl rfl field31_1 ?_) | ((with_reducible refine gt_elem 24 ?_); refine st_elem rfl 24 _ _ rfl rfl rfl arr24 (by first | omega | assumption | (simp only [lens]; first | omega | assumption) | (simp [lens]; done) | (simp [lens]; omega)) (by first | omega | assumption | (simp only [lens]; first | omega | assumption) | (simp [lens]; done) | (simp [lens]; omega)) ?_) | ((with_reducible refine gt_load 22 ?_); (first | (refine st_get rfl 22 _ rfl hm rfl 0 rfl one22 (by first | omega | assumption | (simp only [lens]; first | omega | assumption) | (simp [lens]; done) | (simp [lens]; omega)) ?_) | (refine st_get rfl 22 _ rfl hm rfl 1 rfl one22 (by first | omega | assumption | (simp only [lens]; first | omega | assumption) | (simp [lens]; done) | (simp [lens]; omega)) ?_))) | ((with_reducible refine gt_store 22 ?_); (first | (refine st_set rfl 22 _ _ rfl hm rfl rfl 0 rfl one22 (by first | omega | assumption | (simp only [lens]; first | omega | assumption) | (simp [lens]; done) | (simp [lens]; omega)) ?_) | (refine st_set rfl 22 _ _ rfl hm rfl rfl 1 rfl one22 (by first | omega | assumption | (simp only [lens]; first | omega | assumption) | (simp [lens]; done) | (simp [lens]; omega)) ?_)); clear hm; intro ws hm; simp only [List.set_cons_zero, List.set_cons_succ] at hm) | ((with_reducible refine gt_field 31 0 ?_); refine st_field rfl 31 _ 0 rfl rfl field31_0 ?_) | ((with_reducible refine gt_elem 23 ?_); refine st_elem rfl 23 _ _ rfl rfl rfl arr23 (by first | omega | assumption | (simp only [lens]; first | omega | assumption) | (simp [lens]; done) | (simp [lens]; omega)) (by first | omega | assumption | (simp only [lens]; first | omega | assumption) | (simp [lens]; done) | (simp [lens]; omega)) ?_))
     go_still_tail 14, (by kernel_rfl)
     replace hm := hm.drawn (wr.drawn + 1)
     go_wp2_with (first | fail | ((with_reducible refine gt_load 64 ?_); (first | (refine st_get rfl 64 _ rfl hm rfl 0 rfl one64 (by first | omega | assumption | (simp only [lens]; first | omega | assumption) | (simp [lens]; done) | (simp [lens]; omega)) ?_) | (refine st_get rfl 64 _ rfl hm rfl 1 rfl one64 (by first | omega | assumption | (simp only [lens]; first | omega | assumption) | (simp [lens]; done) | (simp [lens]; omega)) ?_))) | ((with_reducible refine gt_field 31 1 ?_); refine st_field rfl 31 _ 1 rfl rfl field31_1 ?_) | ((with_reducible refine gt_elem 24 ?_); refine st_elem rfl 24 _ _ rfl rfl rfl arr24 (by first | omega | assumption | (simp only [lens]; first | omega | assumption) | (simp [lens]; done) | (simp [lens]; omega)) (by first | omega | assumption | (simp only [lens]; first | omega | assumption) | (simp [lens]; done) | (simp [lens]; omega)) ?_) | ((with_reducible refine gt_load 22 ?_); (first | (refine st_get rfl 22 _ rfl hm rfl 0 rfl one22 (by first | omega | assumption | (simp only [lens]; first | omega | assumption) | (simp [lens]; done) | (simp [lens]; omega)) ?_) | (refine st_get rfl 22 _ rfl hm rfl 1 rfl one22 (by first | omega | assumption | (simp only [lens]; first | omega | assumption) | (simp [lens]; done) | (simp [lens]; omega)) ?_))) | ((with_reducible refine gt_store 22 ?_); (first | (refine st_set rfl 22 _ _ rfl hm rfl rfl 0 rfl one22 (by first | omega | assumption | (simp only [lens]; first | omega | assumption) | (simp [lens]; done) | (simp [lens]; omega)) ?_) | (refine st_set rfl 22 _ _ rfl hm rfl rfl 1 rfl one22 (by first | omega | assumption | (simp only [lens]; first | omega | assumption) | (simp [lens]; done) | (simp [lens]; omega)) ?_)); clear hm; intro ws hm; simp only [List.set_cons_zero, List.set_cons_succ] at hm) | ((with_reducible refine gt_field 31 0 ?_); refine st_field rfl 31 _ 0 rfl rfl field31_0 ?_) | ((with_reducible refine gt_elem 23 ?_); refine st_elem rfl 23 _ _ rfl rfl rfl arr23 (by first | omega | assumption | (simp only [lens]; first | omega | assumption) | (simp [lens]; done) | (simp [lens]; omega)) (by first | omega | assumption | (simp only [lens]; first | omega | assumption) | (simp [lens]; done) | (simp [lens]; omega)) ?_))
     go_roundw
     case rel => exact ⟨i + 1, by omega, by go_num, by rw [HW.out] at hm; rw [HS2.out]; exact hm⟩
     case measure => simp [intOf]; omega
    ·have hx9 : x = -4 ∨ x = -3 ∨ x = -2 ∨ x = -1 := by rcases hx with h | h | h <;> omega
     clear hx hx0 hx1
     have k0 : IntKind.i8.wrap 0 = 0 := rfl
     have k1 : IntKind.i8.wrap 1 = 1 := rfl
     have k2 : IntKind.i8.wrap 2 = 2 := rfl
     have k3 : IntKind.i8.wrap 3 = 3 := rfl
     have k4 : IntKind.i8.wrap 4 = 4 := rfl
     rcases hx9 with rfl | rfl | rfl | rfl
     all_goals
      simp [slot] at hv
      go_wp2_with (first | fail | ((with_reducible refine gt_load 64 ?_); (first | (refine st_get rfl 64 _ rfl hm rfl 0 rfl one64 (by first | omega | assumption | (simp only [lens]; first | omega | assumption) | (simp [lens]; done) | (simp [lens]; omega)) ?_) | (refine st_get rfl 64 _ rfl hm rfl 1 rfl one64 (by first | omega | assumption | (simp only [lens]; first | omega | assumption) | (simp [lens]; done) | (simp [lens]; omega)) ?_))) | ((with_reducible refine gt_field 31 1 ?_); refine st_field rfl 31 _ 1 rfl rfl field31_1 ?_) | ((with_reducible refine gt_elem 24 ?_); refine st_elem rfl 24 _ _ rfl rfl rfl arr24 (by first | omega | assumption | (simp only [lens]; first | omega | assumption) | (simp [lens]; done) | (simp [lens]; omega)) (by first | omega | assumption | (simp only [lens]; first | omega | assumption) | (simp [lens]; done) | (simp [lens]; omega)) ?_) | ((with_reducible refine gt_load 22 ?_); (first | (refine st_get rfl 22 _ rfl hm rfl 0 rfl one22 (by first | omega | assumption | (simp only [lens]; first | omega | assumption) | (simp [lens]; done) | (simp [lens]; omega)) ?_) | (refine st_get rfl 22 _ rfl hm rfl 1 rfl one22 (by first | omega | assumption | (simp only [lens]; first | omega | assumption) | (simp [lens]; done) | (simp [lens]; omega)) ?_))) | ((with_reducible refine gt_store 22 ?_); (first | (refine st_set rfl 22 _ _ rfl hm rfl rfl 0 rfl one22 (by first | omega | assumption | (simp only [lens]; first | omega | assumption) | (simp [lens]; done) | (simp [lens]; omega)) ?_) | (refine st_set rfl 22 _ _ rfl hm rfl rfl 1 rfl one22 (by first | omega | assumption | (simp only [lens]; first | omega | assumption) | (simp [lens]; done) | (simp [lens]; omega)) ?_)); clear hm; intro ws hm; simp only [List.set_cons_zero, List.set_cons_succ] at hm) | ((with_reducible refine gt_field 31 0 ?_); refine st_field rfl 31 _ 0 rfl rfl field31_0 ?_) | ((with_reducible refine gt_elem 23 ?_); refine st_elem rfl 23 _ _ rfl rfl rfl arr23 (by first | omega | assumption | (simp only [lens]; first | omega | assumption) | (simp [lens]; done) | (simp [lens]; omega)) (by first | omega | assumption | (simp only [lens]; first | omega | assumption) | (simp [lens]; done) | (simp [lens]; omega)) ?_))
      go_still_tail 16, (by kernel_rfl)
      replace hm := hm.drawn (wr.drawn + 1)
      go_wp2_with (first | fail | ((with_reducible refine gt_load 64 ?_); (first | (refine st_get rfl 64 _ rfl hm rfl 0 rfl one64 (by first | omega | assumption | (simp only [lens]; first | omega | assumption) | (simp [lens]; done) | (simp [lens]; omega)) ?_) | (refine st_get rfl 64 _ rfl hm rfl 1 rfl one64 (by first | omega | assumption | (simp only [lens]; first | omega | assumption) | (simp [lens]; done) | (simp [lens]; omega)) ?_))) | ((with_reducible refine gt_field 31 1 ?_); refine st_field rfl 31 _ 1 rfl rfl field31_1 ?_) | ((with_reducible refine gt_elem 24 ?_); refine st_elem rfl 24 _ _ rfl rfl rfl arr24 (by first | omega | assumption | (simp only [lens]; first | omega | assumption) | (simp [lens]; done) | (simp [lens]; omega)) (by first | omega | assumption | (simp only [lens]; first | omega | assumption) | (simp [lens]; done) | (simp [lens]; omega)) ?_) | ((with_reducible refine gt_load 22 ?_); (first | (refine st_get rfl 22 _ rfl hm rfl 0 rfl one22 (by first | omega | assumption | (simp only [lens]; first | omega | assumption) | (simp [lens]; done) | (simp [lens]; omega)) ?_) | (refine st_get rfl 22 _ rfl hm rfl 1 rfl one22 (by first | omega | assumption | (simp only [lens]; first | omega | assumption) | (simp [lens]; done) | (simp [lens]; omega)) ?_))) | ((with_reducible refine gt_store 22 ?_); (first | (refine st_set rfl 22 _ _ rfl hm rfl rfl 0 rfl one22 (by first | omega | assumption | (simp only [lens]; first | omega | assumption) | (simp [lens]; done) | (simp [lens]; omega)) ?_) | (refine st_set rfl 22 _ _ rfl hm rfl rfl 1 rfl one22 (by first | omega | assumption | (simp only [lens]; first | omega | assumption) | (simp [lens]; done) | (simp [lens]; omega)) ?_)); clear hm; intro ws hm; simp only [List.set_cons_zero, List.set_cons_succ] at hm) | ((with_reducible refine gt_field 31 0 ?_); refine st_field rfl 31 _ 0 rfl rfl field31_0 ?_) | ((with_reducible refine gt_elem 23 ?_); refine st_elem rfl 23 _ _ rfl rfl rfl arr23 (by first | omega | assumption | (simp only [lens]; first | omega | assumption) | (simp [lens]; done) | (simp [lens]; omega)) (by first | omega | assumption | (simp only [lens]; first | omega | assumption) | (simp [lens]; done) | (simp [lens]; omega)) ?_))
      go_roundw
      case rel => exact ⟨i + 1, by omega, by go_num, by rw [HW.out] at hm; rw [HS2.out]; simpa [slot] using hm⟩
      case measure => simp [intOf]; omega
  ·have HI := Aside0.mk (show i = h.length by omega)
   generalize hX : pile L h t i = X at *
   have HX := Aside0.mk hX
   clear hX
   go_wp2_with (first | fail | ((with_reducible refine gt_load 64 ?_); (first | (refine st_get rfl 64 _ rfl hm rfl 0 rfl one64 (by first | omega | assumption | (simp only [lens]; first | omega | assumption) | (simp [lens]; done) | (simp [lens]; omega)) ?_) | (refine st_get rfl 64 _ rfl hm rfl 1 rfl one64 (by first | omega | assumption | (simp only [lens]; first | omega | assumption) | (simp [lens]; done) | (simp [lens]; omega)) ?_))) | ((with_reducible refine gt_field 31 1 ?_); refine st_field rfl 31 _ 1 rfl rfl field31_1 ?_) | ((with_reducible refine gt_elem 24 ?_); refine st_elem rfl 24 _ _ rfl rfl rfl arr24 (by first | omega | assumption | (simp only [lens]; first | omega | assumption) | (simp [lens]; done) | (simp [lens]; omega)) (by first | omega | assumption | (simp only [lens]; first | omega | assumption) | (simp [lens]; done) | (simp [lens]; omega)) ?_) | ((with_reducible refine gt_load 22 ?_); (first | (refine st_get rfl 22 _ rfl hm rfl 0 rfl one22 (by first | omega | assumption | (simp only [lens]; first | omega | assumption) | (simp [lens]; done) | (simp [lens]; omega)) ?_) | (refine st_get rfl 22 _ rfl hm rfl 1 rfl one22 (by first | omega | assumption | (simp only [lens]; first | omega | assumption) | (simp [lens]; done) | (simp [lens]; omega)) ?_))) | ((with_reducible refine gt_store 22 ?_); (first | (refine st_set rfl 22 _ _ rfl hm rfl rfl 0 rfl one22 (by first | omega | assumption | (simp only [lens]; first | omega | assumption) | (simp [lens]; done) | (simp [lens]; omega)) ?_) | (refine st_set rfl 22 _ _ rfl hm rfl rfl 1 rfl one22 (by first | omega | assumption | (simp only [lens]; first | omega | assumption) | (simp [lens]; done) | (simp [lens]; omega)) ?_)); clear hm; intro ws hm; simp only [List.set_cons_zero, List.set_cons_succ] at hm) | ((with_reducible refine gt_field 31 0 ?_); refine st_field rfl 31 _ 0 rfl rfl field31_0 ?_) | ((with_reducible refine gt_elem 23 ?_); refine st_elem rfl 23 _ _ rfl rfl rfl arr23 (by first | omega | assumption | (simp only [lens]; first | omega | assumption) | (simp [lens]; done) | (simp [lens]; omega)) (by first | omega | assumption | (simp only [lens]; first | omega | assumption) | (simp [lens]; done) | (simp [lens]; omega)) ?_))
   refine bodyPost_end (results_none rfl _ _ _) rfl ?_
   refine ⟨rfl, ?_⟩
   rw [← HI.out, HX.out]
   exact hm.gives (M := []) rfl
end Go.Proofs.Ytfgogdhhihbcjaa.Arr
namespace Go.Proofs.Ytfgogdhhihbcjaa.Arr
open Go.RowKit Go.Proofs.YtfgogdhhihbcjaaW.PrintWords Go.Proofs.YtfgogdhhihbcjaaW.PrintLast Go.Proofs.YtfgogdhhihbcjaaW.PrintMore Go.Proofs.Ytfgogdhhihbcjaa.U Go.Proofs.Ytfgogdhhihbcjaa.H
set_option linter.unusedVariables false
set_option linter.unusedSimpArgs false
set_option maxHeartbeats 4000000 in
set_option maxRecDepth 100000 in
theorem toInt16A40_calls (L : List Int) (w : World) (hl : L.length = 40) : Calls Try.prog 32 #[.agg (vals .i16 L)] w fun e w' => e = .returned (.agg (vals .i16 L)) ∧ Below w.heap.size w w' := by
 have hm := Mem.start w
 go_enter Try.func32, Try.ntmps32
 go_wp2_with (first | fail | ((with_reducible refine gt_box 1 23 ?_); refine st_box rfl 1 rfl 23 _ rfl hm (v := .agg (vals _ _)) rfl (cs := vals _ _) rfl ?_; clear hm; intro g1 w1 hm) | ((with_reducible refine gt_alloc 2 23 ?_); refine st_alloc rfl 2 rfl 23 rfl hm zero23 ?_; clear hm; intro g2 w2 hm) | ((with_reducible refine gt_alloc 3 23 ?_); refine st_alloc rfl 3 rfl 23 rfl hm zero23 ?_; clear hm; intro g3 w3 hm) | ((with_reducible refine gt_elem 23 ?_); refine st_elem rfl 23 _ _ rfl rfl rfl arr23 (by first | omega | assumption | (simp only [lens]; first | omega | assumption) | (simp [lens]; done) | (simp [lens]; omega)) (by first | omega | assumption | (simp only [lens]; first | omega | assumption) | (simp [lens]; done) | (simp [lens]; omega)) ?_) | ((with_reducible refine gt_load 22 ?_); (first | (refine st_get rfl 22 _ rfl hm rfl 0 rfl one22 (by first | omega | assumption | (simp only [lens]; first | omega | assumption) | (simp [lens]; done) | (simp [lens]; omega)) ?_) | (refine st_get rfl 22 _ rfl hm rfl 1 rfl one22 (by first | omega | assumption | (simp only [lens]; first | omega | assumption) | (simp [lens]; done) | (simp [lens]; omega)) ?_) | (refine st_get rfl 22 _ rfl hm rfl 2 rfl one22 (by first | omega | assumption | (simp only [lens]; first | omega | assumption) | (simp [lens]; done) | (simp [lens]; omega)) ?_) | (refine st_get rfl 22 _ rfl hm rfl 3 rfl one22 (by first | omega | assumption | (simp only [lens]; first | omega | assumption) | (simp [lens]; done) | (simp [lens]; omega)) ?_) | (refine st_get rfl 22 _ rfl hm rfl 4 rfl one22 (by first | omega | assumption | (simp only [lens]; first | omega | assumption) | (simp [lens]; done) | (simp [lens]; omega)) ?_))) | ((with_reducible refine gt_store 22 ?_); (first | (refine st_set rfl 22 _ _ rfl hm rfl rfl 0 rfl one22 (by first | omega | assumption | (simp only [lens]; first | omega | assumption) | (simp [lens]; done) | (simp [lens]; omega)) ?_) | (refine st_set rfl 22 _ _ rfl hm rfl rfl 1 rfl one22 (by first | omega | assumption | (simp only [lens]; first | omega | assumption) | (simp [lens]; done) | (simp [lens]; omega)) ?_) | (refine st_set rfl 22 _ _ rfl hm rfl rfl 2 rfl one22 (by first | omega | assumption | (simp only [lens]; first | omega | assumption) | (simp [lens]; done) | (simp [lens]; omega)) ?_) | (refine st_set rfl 22 _ _ rfl hm rfl rfl 3 rfl one22 (by first | omega | assumption | (simp only [lens]; first | omega | assumption) | (simp [lens]; done) | (simp [lens]; omega)) ?_) | (refine st_set rfl 22 _ _ rfl hm rfl rfl 4 rfl one22 (by first | omega | assumption | (simp only [lens]; first | omega | assumption) | (simp [lens]; done) | (simp [lens]; omega)) ?_)); clear hm; intro ws hm; simp only [List.set_cons_zero, List.set_cons_succ] at hm) | ((with_reducible refine gt_load 23 ?_); (first | (refine st_load rfl 23 _ rfl hm rfl 0 rfl agg23 (by first | omega | assumption | (simp only [lens]; first | omega | assumption) | (simp [lens]; done) | (simp [lens]; omega)) ?_) | (refine st_load rfl 23 _ rfl hm rfl 1 rfl agg23 (by first | omega | assumption | (simp only [lens]; first | omega | assumption) | (simp [lens]; done) | (simp [lens]; omega)) ?_) | (refine st_load rfl 23 _ rfl hm rfl 2 rfl agg23 (by first | omega | assumption | (simp only [lens]; first | omega | assumption) | (simp [lens]; done) | (simp [lens]; omega)) ?_) | (refine st_load rfl 23 _ rfl hm rfl 3 rfl agg23 (by first | omega | assumption | (simp only [lens]; first | omega | assumption) | (simp [lens]; done) | (simp [lens]; omega)) ?_) | (refine st_load rfl 23 _ rfl hm rfl 4 rfl agg23 (by first | omega | assumption | (simp only [lens]; first | omega | assumption) | (simp [lens]; done) | (simp [lens]; omega)) ?_) | (refine st_part rfl 23 _ rfl hm rfl 0 rfl agg23 (by first | omega | assumption | (simp only [lens]; first | omega | assumption) | (simp [lens]; done) | (simp [lens]; omega)) ?_) | (refine st_part rfl 23 _ rfl hm rfl 1 rfl agg23 (by first | omega | assumption | (simp only [lens]; first | omega | assumption) | (simp [lens]; done) | (simp [lens]; omega)) ?_) | (refine st_part rfl 23 _ rfl hm rfl 2 rfl agg23 (by first | omega | assumption | (simp only [lens]; first | omega | assumption) | (simp [lens]; done) | (simp [lens]; omega)) ?_) | (refine st_part rfl 23 _ rfl hm rfl 3 rfl agg23 (by first | omega | assumption | (simp only [lens]; first | omega | assumption) | (simp [lens]; done) | (simp [lens]; omega)) ?_) | (refine st_part rfl 23 _ rfl hm rfl 4 rfl agg23 (by first | omega | assumption | (simp only [lens]; first | omega | assumption) | (simp [lens]; done) | (simp [lens]; omega)) ?_))) | ((with_reducible refine gt_store 23 ?_); (first | (refine st_full rfl 23 _ _ rfl hm rfl rfl 0 rfl agg23 (by first | omega | assumption | (simp only [lens]; first | omega | assumption) | (simp [lens]; done) | (simp [lens]; omega)) (by first | omega | assumption | (simp only [lens]; first | omega | assumption) | (simp [lens]; done) | (simp [lens]; omega)) ?_) | (refine st_full rfl 23 _ _ rfl hm rfl rfl 1 rfl agg23 (by first | omega | assumption | (simp only [lens]; first | omega | assumption) | (simp [lens]; done) | (simp [lens]; omega)) (by first | omega | assumption | (simp only [lens]; first | omega | assumption) | (simp [lens]; done) | (simp [lens]; omega)) ?_) | (refine st_full rfl 23 _ _ rfl hm rfl rfl 2 rfl agg23 (by first | omega | assumption | (simp only [lens]; first | omega | assumption) | (simp [lens]; done) | (simp [lens]; omega)) (by first | omega | assumption | (simp only [lens]; first | omega | assumption) | (simp [lens]; done) | (simp [lens]; omega)) ?_) | (refine st_full rfl 23 _ _ rfl hm rfl rfl 3 rfl agg23 (by first | omega | assumption | (simp only [lens]; first | omega | assumption) | (simp [lens]; done) | (simp [lens]; omega)) (by first | omega | assumption | (simp only [lens]; first | omega | assumption) | (simp [lens]; done) | (simp [lens]; omega)) ?_) | (refine st_full rfl 23 _ _ rfl hm rfl rfl 4 rfl agg23 (by first | omega | assumption | (simp only [lens]; first | omega | assumption) | (simp [lens]; done) | (simp [lens]; omega)) (by first | omega | assumption | (simp only [lens]; first | omega | assumption) | (simp [lens]; done) | (simp [lens]; omega)) ?_) | (refine st_put rfl 23 _ _ rfl hm rfl rfl 0 rfl agg23 (by first | omega | assumption | (simp only [lens]; first | omega | assumption) | (simp [lens]; done) | (simp [lens]; omega)) (by first | omega | assumption | (simp only [lens]; first | omega | assumption) | (simp [lens]; done) | (simp [lens]; omega)) ?_) | (refine st_put rfl 23 _ _ rfl hm rfl rfl 1 rfl agg23 (by first | omega | assumption | (simp only [lens]; first | omega | assumption) | (simp [lens]; done) | (simp [lens]; omega)) (by first | omega | assumption | (simp only [lens]; first | omega | assumption) | (simp [lens]; done) | (simp [lens]; omega)) ?_) | (refine st_put rfl 23 _ _ rfl hm rfl rfl 2 rfl agg23 (by first | omega | assumption | (simp only [lens]; first | omega | assumption) | (simp [lens]; done) | (simp [lens]; omega)) (by first | omega | assumption | (simp only [lens]; first | omega | assumption) | (simp [lens]; done) | (simp [lens]; omega)) ?_) | (refine st_put rfl 23 _ _ rfl hm rfl rfl 3 rfl agg23 (by first | omega | assumption | (simp only [lens]; first | omega | assumption) | (simp [lens]; done) | (simp [lens]; omega)) (by first | omega | assumption | (simp only [lens]; first | omega | assumption) | (simp [lens]; done) | (simp [lens]; omega)) ?_) | (refine st_put rfl 23 _ _ rfl hm rfl rfl 4 rfl agg23 (by first | omega | assumption | (simp only [lens]; first | omega | assumption) | (simp [lens]; done) | (simp [lens]; omega)) (by first | omega | assumption | (simp only [lens]; first | omega | assumption) | (simp [lens]; done) | (simp [lens]; omega)) ?_)); clear hm; intro ws hm; simp only [List.set_cons_zero, List.set_cons_succ] at hm))
 go_loopw [4] (fun v4 wr => ∃ i : Nat, i ≤ 40 ∧ v4 = .int .i64 i ∧ Mem w wr [⟨g3, vals .i16 (mixTo (zs 40) L 0 i), 23, true⟩, ⟨g2, vals .i16 (zs 40), 23, true⟩, ⟨g1, vals .i16 L, 23, true⟩]) (fun v4 _ => 40 - (intOf v4).toNat)
 case atStart => exact ⟨0, by omega, rfl, by rw [mixTo_zero]; exact hm⟩
 case round =>
  obtain ⟨i, hi, rfl, hm⟩ := hrel
  have hl2 := mixTo_length (zs 40) L 0 i (by rw [zs_length]; omega) (by omega)
  rw [zs_length] at hl2
  by_cases hlt : i < 40
  ·go_wp2_with (first | fail | ((with_reducible refine gt_box 1 23 ?_); refine st_box rfl 1 rfl 23 _ rfl hm (v := .agg (vals _ _)) rfl (cs := vals _ _) rfl ?_; clear hm; intro g1 w1 hm) | ((with_reducible refine gt_alloc 2 23 ?_); refine st_alloc rfl 2 rfl 23 rfl hm zero23 ?_; clear hm; intro g2 w2 hm) | ((with_reducible refine gt_alloc 3 23 ?_); refine st_alloc rfl 3 rfl 23 rfl hm zero23 ?_; clear hm; intro g3 w3 hm) | ((with_reducible refine gt_elem 23 ?_); refine st_elem rfl 23 _ _ rfl rfl rfl arr23 (by first | omega | assumption | (simp only [lens]; first | omega | assumption) | (simp [lens]; done) | (simp [lens]; omega)) (by first | omega | assumption | (simp only [lens]; first | omega | assumption) | (simp [lens]; done) | (simp [lens]; omega)) ?_) | ((with_reducible refine gt_load 22 ?_); (first | (refine st_get rfl 22 _ rfl hm rfl 0 rfl one22 (by first | omega | assumption | (simp only [lens]; first | omega | assumption) | (simp [lens]; done) | (simp [lens]; omega)) ?_) | (refine st_get rfl 22 _ rfl hm rfl 1 rfl one22 (by first | omega | assumption | (simp only [lens]; first | omega | assumption) | (simp [lens]; done) | (simp [lens]; omega)) ?_) | (refine st_get rfl 22 _ rfl hm rfl 2 rfl one22 (by first | omega | assumption | (simp only [lens]; first | omega | assumption) | (simp [lens]; done) | (simp [lens]; omega)) ?_) | (refine st_get rfl 22 _ rfl hm rfl 3 rfl one22 (by first | omega | assumption | (simp only [lens]; first | omega | assumption) | (simp [lens]; done) | (simp [lens]; omega)) ?_) | (refine st_get rfl 22 _ rfl hm rfl 4 rfl one22 (by first | omega | assumption | (simp only [lens]; first | omega | assumption) | (simp [lens]; done) | (simp [lens]; omega)) ?_))) | ((with_reducible refine gt_store 22 ?_); (first | (refine st_set rfl 22 _ _ rfl hm rfl rfl 0 rfl one22 (by first | omega | assumption | (simp only [lens]; first | omega | assumption) | (simp [lens]; done) | (simp [lens]; omega)) ?_) | (refine st_set rfl 22 _ _ rfl hm rfl rfl 1 rfl one22 (by first | omega | assumption | (simp only [lens]; first | omega | assumption) | (simp [lens]; done) | (simp [lens]; omega)) ?_) | (refine st_set rfl 22 _ _ rfl hm rfl rfl 2 rfl one22 (by first | omega | assumption | (simp only [lens]; first | omega | assumption) | (simp [lens]; done) | (simp [lens]; omega)) ?_) | (refine st_set rfl 22 _ _ rfl hm rfl rfl 3 rfl one22 (by first | omega | assumption | (simp only [lens]; first | omega | assumption) | (simp [lens]; done) | (simp [lens]; omega)) ?_) | (refine st_set rfl 22 _ _ rfl hm rfl rfl 4 rfl one22 (by first | omega | assumption | (simp only [lens]; first | omega | assumption) | (simp [lens]; done) | (simp [lens]; omega)) ?_)); clear hm; intro ws hm; simp only [List.set_cons_zero, List.set_cons_succ] at hm) | ((with_reducible refine gt_load 23 ?_); (first | (refine st_load rfl 23 _ rfl hm rfl 0 rfl agg23 (by first | omega | assumption | (simp only [lens]; first | omega | assumption) | (simp [lens]; done) | (simp [lens]; omega)) ?_) | (refine st_load rfl 23 _ rfl hm rfl 1 rfl agg23 (by first | omega | assumption | (simp only [lens]; first | omega | assumption) | (simp [lens]; done) | (simp [lens]; omega)) ?_) | (refine st_load rfl 23 _ rfl hm rfl 2 rfl agg23 (by first | omega | assumption | (simp only [lens]; first | omega | assumption) | (simp [lens]; done) | (simp [lens]; omega)) ?_) | (refine st_load rfl 23 _ rfl hm rfl 3 rfl agg23 (by first | omega | assumption | (simp only [lens]; first | omega | assumption) | (simp [lens]; done) | (simp [lens]; omega)) ?_) | (refine st_load rfl 23 _ rfl hm rfl 4 rfl agg23 (by first | omega | assumption | (simp only [lens]; first | omega | assumption) | (simp [lens]; done) | (simp [lens]; omega)) ?_) | (refine st_part rfl 23 _ rfl hm rfl 0 rfl agg23 (by first | omega | assumption | (simp only [lens]; first | omega | assumption) | (simp [lens]; done) | (simp [lens]; omega)) ?_) | (refine st_part rfl 23 _ rfl hm rfl 1 rfl agg23 (by first | omega | assumption | (simp only [lens]; first | omega | assumption) | (simp [lens]; done) | (simp [lens]; omega)) ?_) | (refine st_part rfl 23 _ rfl hm rfl 2 rfl agg23 (by first | omega | assumption | (simp only [lens]; first | omega | assumption) | (simp [lens]; done) | (simp [lens]; omega)) ?_) | (refine st_part rfl 23 _ rfl hm rfl 3 rfl agg23 (by first | omega | assumption | (simp only [lens]; first | omega | assumption) | (simp [lens]; done) | (simp [lens]; omega)) ?_) | (refine st_part rfl 23 _ rfl hm rfl 4 rfl agg23 (by first | omega | assumption | (simp only [lens]; first | omega | assumption) | (simp [lens]; done) | (simp [lens]; omega)) ?_))) | ((with_reducible refine gt_store 23 ?_); (first | (refine st_full rfl 23 _ _ rfl hm rfl rfl 0 rfl agg23 (by first | omega | assumption | (simp only [lens]; first | omega | assumption) | (simp [lens]; done) | (simp [lens]; omega)) (by first | omega | assumption | (simp only [lens]; first | omega | assumption) | (simp [lens]; done) | (simp [lens]; omega)) ?_) | (refine st_full rfl 23 _ _ rfl hm rfl rfl 1 rfl agg23 (by first | omega | assumption | (simp only [lens]; first | omega | assumption) | (simp [lens]; done) | (simp [lens]; omega)) (by first | omega | assumption | (simp only [lens]; first | omega | assumption) | (simp [lens]; done) | (simp [lens]; omega)) ?_) | (refine st_full rfl 23 _ _ rfl hm rfl rfl 2 rfl agg23 (by first | omega | assumption | (simp only [lens]; first | omega | assumption) | (simp [lens]; done) | (simp [lens]; omega)) (by first | omega | assumption | (simp only [lens]; first | omega | assumption) | (simp [lens]; done) | (simp [lens]; omega)) ?_) | (refine st_full rfl 23 _ _ rfl hm rfl rfl 3 rfl agg23 (by first | omega | assumption | (simp only [lens]; first | omega | assumption) | (simp [lens]; done) | (simp [lens]; omega)) (by first | omega | assumption | (simp only [lens]; first | omega | assumption) | (simp [lens]; done) | (simp [lens]; omega)) ?_) | (refine st_full rfl 23 _ _ rfl hm rfl rfl 4 rfl agg23 (by first | omega | assumption | (simp only [lens]; first | omega | assumption) | (simp [lens]; done) | (simp [lens]; omega)) (by first | omega | assumption | (simp only [lens]; first | omega | assumption) | (simp [lens]; done) | (simp [lens]; omega)) ?_) | (refine st_put rfl 23 _ _ rfl hm rfl rfl 0 rfl agg23 (by first | omega | assumption | (simp only [lens]; first | omega | assumption) | (simp [lens]; done) | (simp [lens]; omega)) (by first | omega | assumption | (simp only [lens]; first | omega | assumption) | (simp [lens]; done) | (simp [lens]; omega)) ?_) | (refine st_put rfl 23 _ _ rfl hm rfl rfl 1 rfl agg23 (by first | omega | assumption | (simp only [lens]; first | omega | assumption) | (simp [lens]; done) | (simp [lens]; omega)) (by first | omega | assumption | (simp only [lens]; first | omega | assumption) | (simp [lens]; done) | (simp [lens]; omega)) ?_) | (refine st_put rfl 23 _ _ rfl hm rfl rfl 2 rfl agg23 (by first | omega | assumption | (simp only [lens]; first | omega | assumption) | (simp [lens]; done) | (simp [lens]; omega)) (by first | omega | assumption | (simp only [lens]; first | omega | assumption) | (simp [lens]; done) | (simp [lens]; omega)) ?_) | (refine st_put rfl 23 _ _ rfl hm rfl rfl 3 rfl agg23 (by first | omega | assumption | (simp only [lens]; first | omega | assumption) | (simp [lens]; done) | (simp [lens]; omega)) (by first | omega | assumption | (simp only [lens]; first | omega | assumption) | (simp [lens]; done) | (simp [lens]; omega)) ?_) | (refine st_put rfl 23 _ _ rfl hm rfl rfl 4 rfl agg23 (by first | omega | assumption | (simp only [lens]; first | omega | assumption) | (simp [lens]; done) | (simp [lens]; omega)) (by first | omega | assumption | (simp only [lens]; first | omega | assumption) | (simp [lens]; done) | (simp [lens]; omega)) ?_)); clear hm; intro ws hm; simp only [List.set_cons_zero, List.set_cons_succ] at hm))
   go_roundw
   case rel =>
    refine ⟨i + 1, by omega, by go_num, ?_⟩
    rw [← mixTo_succ (zs 40) L 0 i (by rw [zs_length]; omega) (by omega)]
    simpa using hm
   case measure => simp [intOf]; omega
  ·have HI := Aside0.mk (show mixTo (zs 40) L 0 i = L by
    have : i = 40 := by omega
    subst this
    unfold mixTo
    rw [List.take_zero, List.nil_append, List.take_of_length_le (by omega), List.drop_of_length_le (by rw [zs_length]; omega), List.append_nil])
   go_wp2_with (first | fail | ((with_reducible refine gt_box 1 23 ?_); refine st_box rfl 1 rfl 23 _ rfl hm (v := .agg (vals _ _)) rfl (cs := vals _ _) rfl ?_; clear hm; intro g1 w1 hm) | ((with_reducible refine gt_alloc 2 23 ?_); refine st_alloc rfl 2 rfl 23 rfl hm zero23 ?_; clear hm; intro g2 w2 hm) | ((with_reducible refine gt_alloc 3 23 ?_); refine st_alloc rfl 3 rfl 23 rfl hm zero23 ?_; clear hm; intro g3 w3 hm) | ((with_reducible refine gt_elem 23 ?_); refine st_elem rfl 23 _ _ rfl rfl rfl arr23 (by first | omega | assumption | (simp only [lens]; first | omega | assumption) | (simp [lens]; done) | (simp [lens]; omega)) (by first | omega | assumption | (simp only [lens]; first | omega | assumption) | (simp [lens]; done) | (simp [lens]; omega)) ?_) | ((with_reducible refine gt_load 22 ?_); (first | (refine st_get rfl 22 _ rfl hm rfl 0 rfl one22 (by first | omega | assumption | (simp only [lens]; first | omega | assumption) | (simp [lens]; done) | (simp [lens]; omega)) ?_) | (refine st_get rfl 22 _ rfl hm rfl 1 rfl one22 (by first | omega | assumption | (simp only [lens]; first | omega | assumption) | (simp [lens]; done) | (simp [lens]; omega)) ?_) | (refine st_get rfl 22 _ rfl hm rfl 2 rfl one22 (by first | omega | assumption | (simp only [lens]; first | omega | assumption) | (simp [lens]; done) | (simp [lens]; omega)) ?_) | (refine st_get rfl 22 _ rfl hm rfl 3 rfl one22 (by first | omega | assumption | (simp only [lens]; first | omega | assumption) | (simp [lens]; done) | (simp [lens]; omega)) ?_) | (refine st_get rfl 22 _ rfl hm rfl 4 rfl one22 (by first | omega | assumption | (simp only [lens]; first | omega | assumption) | (simp [lens]; done) | (simp [lens]; omega)) ?_))) | ((with_reducible refine gt_store 22 ?_); (first | (refine st_set rfl 22 _ _ rfl hm rfl rfl 0 rfl one22 (by first | omega | assumption | (simp only [lens]; first | omega | assumption) | (simp [lens]; done) | (simp [lens]; omega)) ?_) | (refine st_set rfl 22 _ _ rfl hm rfl rfl 1 rfl one22 (by first | omega | assumption | (simp only [lens]; first | omega | assumption) | (simp [lens]; done) | (simp [lens]; omega)) ?_) | (refine st_set rfl 22 _ _ rfl hm rfl rfl 2 rfl one22 (by first | omega | assumption | (simp only [lens]; first | omega | assumption) | (simp [lens]; done) | (simp [lens]; omega)) ?_) | (refine st_set rfl 22 _ _ rfl hm rfl rfl 3 rfl one22 (by first | omega | assumption | (simp only [lens]; first | omega | assumption) | (simp [lens]; done) | (simp [lens]; omega)) ?_) | (refine st_set rfl 22 _ _ rfl hm rfl rfl 4 rfl one22 (by first | omega | assumption | (simp only [lens]; first | omega | assumption) | (simp [lens]; done) | (simp [lens]; omega)) ?_)); clear hm; intro ws hm; simp only [List.set_cons_zero, List.set_cons_succ] at hm) | ((with_reducible refine gt_load 23 ?_); (first | (refine st_load rfl 23 _ rfl hm rfl 0 rfl agg23 (by first | omega | assumption | (simp only [lens]; first | omega | assumption) | (simp [lens]; done) | (simp [lens]; omega)) ?_) | (refine st_load rfl 23 _ rfl hm rfl 1 rfl agg23 (by first | omega | assumption | (simp only [lens]; first | omega | assumption) | (simp [lens]; done) | (simp [lens]; omega)) ?_) | (refine st_load rfl 23 _ rfl hm rfl 2 rfl agg23 (by first | omega | assumption | (simp only [lens]; first | omega | assumption) | (simp [lens]; done) | (simp [lens]; omega)) ?_) | (refine st_load rfl 23 _ rfl hm rfl 3 rfl agg23 (by first | omega | assumption | (simp only [lens]; first | omega | assumption) | (simp [lens]; done) | (simp [lens]; omega)) ?_) | (refine st_load rfl 23 _ rfl hm rfl 4 rfl agg23 (by first | omega | assumption | (simp only [lens]; first | omega | assumption) | (simp [lens]; done) | (simp [lens]; omega)) ?_) | (refine st_part rfl 23 _ rfl hm rfl 0 rfl agg23 (by first | omega | assumption | (simp only [lens]; first | omega | assumption) | (simp [lens]; done) | (simp [lens]; omega)) ?_) | (refine st_part rfl 23 _ rfl hm rfl 1 rfl agg23 (by first | omega | assumption | (simp only [lens]; first | omega | assumption) | (simp [lens]; done) | (simp [lens]; omega)) ?_) | (refine st_part rfl 23 _ rfl hm rfl 2 rfl agg23 (by first | omega | assumption | (simp only [lens]; first | omega | assumption) | (simp [lens]; done) | (simp [lens]; omega)) ?_) | (refine st_part rfl 23 _ rfl hm rfl 3 rfl agg23 (by first | omega | assumption | (simp only [lens]; first | omega | assumption) | (simp [lens]; done) | (simp [lens]; omega)) ?_) | (refine st_part rfl 23 _ rfl hm rfl 4 rfl agg23 (by first | omega | assumption | (simp only [lens]; first | omega | assumption) | (simp [lens]; done) | (simp [lens]; omega)) ?_))) | ((with_reducible refine gt_store 23 ?_); (first | (refine st_full rfl 23 _ _ rfl hm rfl rfl 0 rfl agg23 (by first | omega | assumption | (simp only [lens]; first | omega | assumption) | (simp [lens]; done) | (simp [lens]; omega)) (by first | omega | assumption | (simp only [lens]; first | omega | assumption) | (simp [lens]; done) | (simp [lens]; omega)) ?_) | (refine st_full rfl 23 _ _ rfl hm rfl rfl 1 rfl agg23 (by first | omega | assumption | (simp only [lens]; first | omega | assumption) | (simp [lens]; done) | (simp [lens]; omega)) (by first | omega | assumption | (simp only [lens]; first | omega | assumption) | (simp [lens]; done) | (simp [lens]; omega)) ?_) | (refine st_full rfl 23 _ _ rfl hm rfl rfl 2 rfl agg23 (by first | omega | assumption | (simp only [lens]; first | omega | assumption) | (simp [lens]; done) | (simp [lens]; omega)) (by first | omega | assumption | (simp only [lens]; first | omega | assumption) | (simp [lens]; done) | (simp [lens]; omega)) ?_) | (refine st_full rfl 23 _ _ rfl hm rfl rfl 3 rfl agg23 (by first | omega | assumption | (simp only [lens]; first | omega | assumption) | (simp [lens]; done) | (simp [lens]; omega)) (by first | omega | assumption | (simp only [lens]; first | omega | assumption) | (simp [lens]; done) | (simp [lens]; omega)) ?_) | (refine st_full rfl 23 _ _ rfl hm rfl rfl 4 rfl agg23 (by first | omega | assumption | (simp only [lens]; first | omega | assumption) | (simp [lens]; done) | (simp [lens]; omega)) (by first | omega | assumption | (simp only [lens]; first | omega | assumption) | (simp [lens]; done) | (simp [lens]; omega)) ?_) | (refine st_put rfl 23 _ _ rfl hm rfl rfl 0 rfl agg23 (by first | omega | assumption | (simp only [lens]; first | omega | assumption) | (simp [lens]; done) | (simp [lens]; omega)) (by first | omega | assumption | (simp only [lens]; first | omega | assumption) | (simp [lens]; done) | (simp [lens]; omega)) ?_) | (refine st_put rfl 23 _ _ rfl hm rfl rfl 1 rfl agg23 (by first | omega | assumption | (simp only [lens]; first | omega | assumption) | (simp [lens]; done) | (simp [lens]; omega)) (by first | omega | assumption | (simp only [lens]; first | omega | assumption) | (simp [lens]; done) | (simp [lens]; omega)) ?_) | (refine st_put rfl 23 _ _ rfl hm rfl rfl 2 rfl agg23 (by first | omega | assumption | (simp only [lens]; first | omega | assumption) | (simp [lens]; done) | (simp [lens]; omega)) (by first | omega | assumption | (simp only [lens]; first | omega | assumption) | (simp [lens]; done) | (simp [lens]; omega)) ?_) | (refine st_put rfl 23 _ _ rfl hm rfl rfl 3 rfl agg23 (by first | omega | assumption | (simp only [lens]; first | omega | assumption) | (simp [lens]; done) | (simp [lens]; omega)) (by first | omega | assumption | (simp only [lens]; first | omega | assumption) | (simp [lens]; done) | (simp [lens]; omega)) ?_) | (refine st_put rfl 23 _ _ rfl hm rfl rfl 4 rfl agg23 (by first | omega | assumption | (simp only [lens]; first | omega | assumption) | (simp [lens]; done) | (simp [lens]; omega)) (by first | omega | assumption | (simp only [lens]; first | omega | assumption) | (simp [lens]; done) | (simp [lens]; omega)) ?_)); clear hm; intro ws hm; simp only [List.set_cons_zero, List.set_cons_succ] at hm))
   ((try simp only [Exit.inBlock, Exit.then]); (first | (refine ret_cell hm rfl rfl 1 rfl agg23 (by first | omega | assumption | (simp only [lens]; first | omega | assumption) | (simp [lens]; done) | (simp [lens]; omega)) rfl ?_) | (refine ret_cell_tmp hm rfl rfl 1 rfl agg23 (by first | omega | assumption | (simp only [lens]; first | omega | assumption) | (simp [lens]; done) | (simp [lens]; omega)) rfl ?_)))
   exact ⟨by rw [HI.out], hm.done rfl⟩
set_option maxHeartbeats 4000000 in
set_option maxRecDepth 100000 in
theorem toInt16A4_calls (L : List Int) (w : World) (hl : L.length = 4) : Calls Try.prog 33 #[.agg (vals .i16 L)] w fun e w' => e = .returned (.agg (vals .i16 L)) ∧ Below w.heap.size w w' := by
 have hm := Mem.start w
 go_enter Try.func33, Try.ntmps33
 go_wp2_with (first | fail | ((with_reducible refine gt_box 1 24 ?_); refine st_box rfl 1 rfl 24 _ rfl hm (v := .agg (vals _ _)) rfl (cs := vals _ _) rfl ?_; clear hm; intro g1 w1 hm) | ((with_reducible refine gt_alloc 2 24 ?_); refine st_alloc rfl 2 rfl 24 rfl hm zero24 ?_; clear hm; intro g2 w2 hm) | ((with_reducible refine gt_alloc 3 24 ?_); refine st_alloc rfl 3 rfl 24 rfl hm zero24 ?_; clear hm; intro g3 w3 hm) | ((with_reducible refine gt_elem 24 ?_); refine st_elem rfl 24 _ _ rfl rfl rfl arr24 (by first | omega | assumption | (simp only [lens]; first | omega | assumption) | (simp [lens]; done) | (simp [lens]; omega)) (by first | omega | assumption | (simp only [lens]; first | omega | assumption) | (simp [lens]; done) | (simp [lens]; omega)) ?_) | ((with_reducible refine gt_load 22 ?_); (first | (refine st_get rfl 22 _ rfl hm rfl 0 rfl one22 (by first | omega | assumption | (simp only [lens]; first | omega | assumption) | (simp [lens]; done) | (simp [lens]; omega)) ?_) | (refine st_get rfl 22 _ rfl hm rfl 1 rfl one22 (by first | omega | assumption | (simp only [lens]; first | omega | assumption) | (simp [lens]; done) | (simp [lens]; omega)) ?_) | (refine st_get rfl 22 _ rfl hm rfl 2 rfl one22 (by first | omega | assumption | (simp only [lens]; first | omega | assumption) | (simp [lens]; done) | (simp [lens]; omega)) ?_) | (refine st_get rfl 22 _ rfl hm rfl 3 rfl one22 (by first | omega | assumption | (simp only [lens]; first | omega | assumption) | (simp [lens]; done) | (simp [lens]; omega)) ?_) | (refine st_get rfl 22 _ rfl hm rfl 4 rfl one22 (by first | omega | assumption | (simp only [lens]; first | omega | assumption) | (simp [lens]; done) | (simp [lens]; omega)) ?_))) | ((with_reducible refine gt_store 22 ?_); (first | (refine st_set rfl 22 _ _ rfl hm rfl rfl 0 rfl one22 (by first | omega | assumption | (simp only [lens]; first | omega | assumption) | (simp [lens]; done) | (simp [lens]; omega)) ?_) | (refine st_set rfl 22 _ _ rfl hm rfl rfl 1 rfl one22 (by first | omega | assumption | (simp only [lens]; first | omega | assumption) | (simp [lens]; done) | (simp [lens]; omega)) ?_) | (refine st_set rfl 22 _ _ rfl hm rfl rfl 2 rfl one22 (by first | omega | assumption | (simp only [lens]; first | omega | assumption) | (simp [lens]; done) | (simp [lens]; omega)) ?_) | (refine st_set rfl 22 _ _ rfl hm rfl rfl 3 rfl one22 (by first | omega | assumption | (simp only [lens]; first | omega | assumption) | (simp [lens]; done) | (simp [lens]; omega)) ?_) | (refine st_set rfl 22 _ _ rfl hm rfl rfl 4 rfl one22 (by first | omega | assumption | (simp only [lens]; first | omega | assumption) | (simp [lens]; done) | (simp [lens]; omega)) ?_)); clear hm; intro ws hm; simp only [List.set_cons_zero, List.set_cons_succ] at hm) | ((with_reducible refine gt_load 24 ?_); (first | (refine st_load rfl 24 _ rfl hm rfl 0 rfl agg24 (by first | omega | assumption | (simp only [lens]; first | omega | assumption) | (simp [lens]; done) | (simp [lens]; omega)) ?_) | (refine st_load rfl 24 _ rfl hm rfl 1 rfl agg24 (by first | omega | assumption | (simp only [lens]; first | omega | assumption) | (simp [lens]; done) | (simp [lens]; omega)) ?_) | (refine st_load rfl 24 _ rfl hm rfl 2 rfl agg24 (by first | omega | assumption | (simp only [lens]; first | omega | assumption) | (simp [lens]; done) | (simp [lens]; omega)) ?_) | (refine st_load rfl 24 _ rfl hm rfl 3 rfl agg24 (by first | omega | assumption | (simp only [lens]; first | omega | assumption) | (simp [lens]; done) | (simp [lens]; omega)) ?_) | (refine st_load rfl 24 _ rfl hm rfl 4 rfl agg24 (by first | omega | assumption | (simp only [lens]; first | omega | assumption) | (simp [lens]; done) | (simp [lens]; omega)) ?_) | (refine st_part rfl 24 _ rfl hm rfl 0 rfl agg24 (by first | omega | assumption | (simp only [lens]; first | omega | assumption) | (simp [lens]; done) | (simp [lens]; omega)) ?_) | (refine st_part rfl 24 _ rfl hm rfl 1 rfl agg24 (by first | omega | assumption | (simp only [lens]; first | omega | assumption) | (simp [lens]; done) | (simp [lens]; omega)) ?_) | (refine st_part rfl 24 _ rfl hm rfl 2 rfl agg24 (by first | omega | assumption | (simp only [lens]; first | omega | assumption) | (simp [lens]; done) | (simp [lens]; omega)) ?_) | (refine st_part rfl 24 _ rfl hm rfl 3 rfl agg24 (by first | omega | assumption | (simp only [lens]; first | omega | assumption) | (simp [lens]; done) | (simp [lens]; omega)) ?_) | (refine st_part rfl 24 _ rfl hm rfl 4 rfl agg24 (by first | omega | assumption | (simp only [lens]; first | omega | assumption) | (simp [lens]; done) | (simp [lens]; omega)) ?_))) | ((with_reducible refine gt_store 24 ?_); (first | (refine st_full rfl 24 _ _ rfl hm rfl rfl 0 rfl agg24 (by first | omega | assumption | (simp only [lens]; first | omega | assumption) | (simp [lens]; done) | (simp [lens]; omega)) (by first | omega | assumption | (simp only [lens]; first | omega | assumption) | (simp [lens]; done) | (simp [lens]; omega)) ?_) | (refine st_full rfl 24 _ _ rfl hm rfl rfl 1 rfl agg24 (by first | omega | assumption | (simp only [lens]; first | omega | assumption) | (simp [lens]; done) | (simp [lens]; omega)) (by first | omega | assumption | (simp only [lens]; first | omega | assumption) | (simp [lens]; done) | (simp [lens]; omega)) ?_) | (refine st_full rfl 24 _ _ rfl hm rfl rfl 2 rfl agg24 (by first | omega | assumption | (simp only [lens]; first | omega | assumption) | (simp [lens]; done) | (simp [lens]; omega)) (by first | omega | assumption | (simp only [lens]; first | omega | assumption) | (simp [lens]; done) | (simp [lens]; omega)) ?_) | (refine st_full rfl 24 _ _ rfl hm rfl rfl 3 rfl agg24 (by first | omega | assumption | (simp only [lens]; first | omega | assumption) | (simp [lens]; done) | (simp [lens]; omega)) (by first | omega | assumption | (simp only [lens]; first | omega | assumption) | (simp [lens]; done) | (simp [lens]; omega)) ?_) | (refine st_full rfl 24 _ _ rfl hm rfl rfl 4 rfl agg24 (by first | omega | assumption | (simp only [lens]; first | omega | assumption) | (simp [lens]; done) | (simp [lens]; omega)) (by first | omega | assumption | (simp only [lens]; first | omega | assumption) | (simp [lens]; done) | (simp [lens]; omega)) ?_) | (refine st_put rfl 24 _ _ rfl hm rfl rfl 0 rfl agg24 (by first | omega | assumption | (simp only [lens]; first | omega | assumption) | (simp [lens]; done) | (simp [lens]; omega)) (by first | omega | assumption | (simp only [lens]; first | omega | assumption) | (simp [lens]; done) | (simp [lens]; omega)) ?_) | (refine st_put rfl 24 _ _ rfl hm rfl rfl 1 rfl agg24 (by first | omega | assumption | (simp only [lens]; first | omega | assumption) | (simp [lens]; done) | (simp [lens]; omega)) (by first | omega | assumption | (simp only [lens]; first | omega | assumption) | (simp [lens]; done) | (simp [lens]; omega)) ?_) | (refine st_put rfl 24 _ _ rfl hm rfl rfl 2 rfl agg24 (by first | omega | assumption | (simp only [lens]; first | omega | assumption) | (simp [lens]; done) | (simp [lens]; omega)) (by first | omega | assumption | (simp only [lens]; first | omega | assumption) | (simp [lens]; done) | (simp [lens]; omega)) ?_) | (refine st_put rfl 24 _ _ rfl hm rfl rfl 3 rfl agg24 (by first | omega | assumption | (simp only [lens]; first | omega | assumption) | (simp [lens]; done) | (simp [lens]; omega)) (by first | omega | assumption | (simp only [lens]; first | omega | assumption) | (simp [lens]; done) | (simp [lens]; omega)) ?_) | (refine st_put rfl 24 _ _ rfl hm rfl rfl 4 rfl agg24 (by first | omega | assumption | (simp only [lens]; first | omega | assumption) | (simp [lens]; done) | (simp [lens]; omega)) (by first | omega | assumption | (simp only [lens]; first | omega | assumption) | (simp [lens]; done) | (simp [lens]; omega)) ?_)); clear hm; intro ws hm; simp only [List.set_cons_zero, List.set_cons_succ] at hm))
 go_loopw [4] (fun v4 wr => ∃ i : Nat, i ≤ 4 ∧ v4 = .int .i64 i ∧ Mem w wr [⟨g3, vals .i16 (mixTo (zs 4) L 0 i), 24, true⟩, ⟨g2, vals .i16 (zs 4), 24, true⟩, ⟨g1, vals .i16 L, 24, true⟩]) (fun v4 _ => 4 - (intOf v4).toNat)
 case atStart => exact ⟨0, by omega, rfl, by rw [mixTo_zero]; exact hm⟩
 case round =>
  obtain ⟨i, hi, rfl, hm⟩ := hrel
  have hl2 := mixTo_length (zs 4) L 0 i (by rw [zs_length]; omega) (by omega)
  rw [zs_length] at hl2
  by_cases hlt : i < 4
  ·go_wp2_with (first | fail | ((with_reducible refine gt_box 1 24 ?_); refine st_box rfl 1 rfl 24 _ rfl hm (v := .agg (vals _ _)) rfl (cs := vals _ _) rfl ?_; clear hm; intro g1 w1 hm) | ((with_reducible refine gt_alloc 2 24 ?_); refine st_alloc rfl 2 rfl 24 rfl hm zero24 ?_; clear hm; intro g2 w2 hm) | ((with_reducible refine gt_alloc 3 24 ?_); refine st_alloc rfl 3 rfl 24 rfl hm zero24 ?_; clear hm; intro g3 w3 hm) | ((with_reducible refine gt_elem 24 ?_); refine st_elem rfl 24 _ _ rfl rfl rfl arr24 (by first | omega | assumption | (simp only [lens]; first | omega | assumption) | (simp [lens]; done) | (simp [lens]; omega)) (by first | omega | assumption | (simp only [lens]; first | omega | assumption) | (simp [lens]; done) | (simp [lens]; omega)) ?_) | ((with_reducible refine gt_load 22 ?_); (first | (refine st_get rfl 22 _ rfl hm rfl 0 rfl one22 (by first | omega | assumption | (simp only [lens]; first | omega | assumption) | (simp [lens]; done) | (simp [lens]; omega)) ?_) | (refine st_get rfl 22 _ rfl hm rfl 1 rfl one22 (by first | omega | assumption | (simp only [lens]; first | omega | assumption) | (simp [lens]; done) | (simp [lens]; omega)) ?_) | (refine st_get rfl 22 _ rfl hm rfl 2 rfl one22 (by first | omega | assumption | (simp only [lens]; first | omega | assumption) | (simp [lens]; done) | (simp [lens]; omega)) ?_) | (refine st_get rfl 22 _ rfl hm rfl 3 rfl one22 (by first | omega | assumption | (simp only [lens]; first | omega | assumption) | (simp [lens]; done) | (simp [lens]; omega)) ?_) | (refine st_get rfl 22 _ rfl hm rfl 4 rfl one22 (by first | omega | assumption | (simp only [lens]; first | omega | assumption) | (simp [lens]; done) | (simp [lens]; omega)) ?_))) | ((with_reducible refine gt_store 22 ?_); (first | (refine st_set rfl 22 _ _ rfl hm rfl rfl 0 rfl one22 (by first | omega | assumption | (simp only [lens]; first | omega | assumption) | (simp [lens]; done) | (simp [lens]; omega)) ?_) | (refine st_set rfl 22 _ _ rfl hm rfl rfl 1 rfl one22 (by first | omega | assumption | (simp only [lens]; first | omega | assumption) | (simp [lens]; done) | (simp [lens]; omega)) ?_) | (refine st_set rfl 22 _ _ rfl hm rfl rfl 2 rfl one22 (by first | omega | assumption | (simp only [lens]; first | omega | assumption) | (simp [lens]; done) | (simp [lens]; omega)) ?_) | (refine st_set rfl 22 _ _ rfl hm rfl rfl 3 rfl one22 (by first | omega | assumption | (simp only [lens]; first | omega | assumption) | (simp [lens]; done) | (simp [lens]; omega)) ?_) | (refine st_set rfl 22 _ _ rfl hm rfl rfl 4 rfl one22 (by first | omega | assumption | (simp only [lens]; first | omega | assumption) | (simp [lens]; done) | (simp [lens]; omega)) ?_)); clear hm; intro ws hm; simp only [List.set_cons_zero, List.set_cons_succ] at hm) | ((with_reducible refine gt_load 24 ?_); (first | (refine st_load rfl 24 _ rfl hm rfl 0 rfl agg24 (by first | omega | assumption | (simp only [lens]; first | omega | assumption) | (simp [lens]; done) | (simp [lens]; omega)) ?_) | (refine st_load rfl 24 _ rfl hm rfl 1 rfl agg24 (by first | omega | assumption | (simp only [lens]; first | omega | assumption) | (simp [lens]; done) | (simp [lens]; omega)) ?_) | (refine st_load rfl 24 _ rfl hm rfl 2 rfl agg24 (by first | omega | assumption | (simp only [lens]; first | omega | assumption) | (simp [lens]; done) | (simp [lens]; omega)) ?_) | (refine st_load rfl 24 _ rfl hm rfl 3 rfl agg24 (by first | omega | assumption | (simp only [lens]; first | omega | assumption) | (simp [lens]; done) | (simp [lens]; omega)) ?_) | (refine st_load rfl 24 _ rfl hm rfl 4 rfl agg24 (by first | omega | assumption | (simp only [lens]; first | omega | assumption) | (simp [lens]; done) | (simp [lens]; omega)) ?_) | (refine st_part rfl 24 _ rfl hm rfl 0 rfl agg24 (by first | omega | assumption | (simp only [lens]; first | omega | assumption) | (simp [lens]; done) | (simp [lens]; omega)) ?_) | (refine st_part rfl 24 _ rfl hm rfl 1 rfl agg24 (by first | omega | assumption | (simp only [lens]; first | omega | assumption) | (simp [lens]; done) | (simp [lens]; omega)) ?_) | (refine st_part rfl 24 _ rfl hm rfl 2 rfl agg24 (by first | omega | assumption | (simp only [lens]; first | omega | assumption) | (simp [lens]; done) | (simp [lens]; omega)) ?_) | (refine st_part rfl 24 _ rfl hm rfl 3 rfl agg24 (by first | omega | assumption | (simp only [lens]; first | omega | assumption) | (simp [lens]; done) | (simp [lens]; omega)) ?_) | (refine st_part rfl 24 _ rfl hm rfl 4 rfl agg24 (by first | omega | assumption | (simp only [lens]; first | omega | assumption) | (simp [lens]; done) | (simp [lens]; omega)) ?_))) | ((with_reducible refine gt_store 24 ?_); (first | (refine st_full rfl 24 _ _ rfl hm rfl rfl 0 rfl agg24 (by first | omega | assumption | (simp only [lens]; first | omega | assumption) | (simp [lens]; done) | (simp [lens]; omega)) (by first | omega | assumption | (simp only [lens]; first | omega | assumption) | (simp [lens]; done) | (simp [lens]; omega)) ?_) | (refine st_full rfl 24 _ _ rfl hm rfl rfl 1 rfl agg24 (by first | omega | assumption | (simp only [lens]; first | omega | assumption) | (simp [lens]; done) | (simp [lens]; omega)) (by first | omega | assumption | (simp only [lens]; first | omega | assumption) | (simp [lens]; done) | (simp [lens]; omega)) ?_) | (refine st_full rfl 24 _ _ rfl hm rfl rfl 2 rfl agg24 (by first | omega | assumption | (simp only [lens]; first | omega | assumption) | (simp [lens]; done) | (simp [lens]; omega)) (by first | omega | assumption | (simp only [lens]; first | omega | assumption) | (simp [lens]; done) | (simp [lens]; omega)) ?_) | (refine st_full rfl 24 _ _ rfl hm rfl rfl 3 rfl agg24 (by first | omega | assumption | (simp only [lens]; first | omega | assumption) | (simp [lens]; done) | (simp [lens]; omega)) (by first | omega | assumption | (simp only [lens]; first | omega | assumption) | (simp [lens]; done) | (simp [lens]; omega)) ?_) | (refine st_full rfl 24 _ _ rfl hm rfl rfl 4 rfl agg24 (by first | omega | assumption | (simp only [lens]; first | omega | assumption) | (simp [lens]; done) | (simp [lens]; omega)) (by first | omega | assumption | (simp only [lens]; first | omega | assumption) | (simp [lens]; done) | (simp [lens]; omega)) ?_) | (refine st_put rfl 24 _ _ rfl hm rfl rfl 0 rfl agg24 (by first | omega | assumption | (simp only [lens]; first | omega | assumption) | (simp [lens]; done) | (simp [lens]; omega)) (by first | omega | assumption | (simp only [lens]; first | omega | assumption) | (simp [lens]; done) | (simp [lens]; omega)) ?_) | (refine st_put rfl 24 _ _ rfl hm rfl rfl 1 rfl agg24 (by first | omega | assumption | (simp only [lens]; first | omega | assumption) | (simp [lens]; done) | (simp [lens]; omega)) (by first | omega | assumption | (simp only [lens]; first | omega | assumption) | (simp [lens]; done) | (simp [lens]; omega)) ?_) | (refine st_put rfl 24 _ _ rfl hm rfl rfl 2 rfl agg24 (by first | omega | assumption | (simp only [lens]; first | omega | assumption) | (simp [lens]; done) | (simp [lens]; omega)) (by first | omega | assumption | (simp only [lens]; first | omega | assumption) | (simp [lens]; done) | (simp [lens]; omega)) ?_) | (refine st_put rfl 24 _ _ rfl hm rfl rfl 3 rfl agg24 (by first | omega | assumption | (simp only [lens]; first | omega | assumption) | (simp [lens]; done) | (simp [lens]; omega)) (by first | omega | assumption | (simp only [lens]; first | omega | assumption) | (simp [lens]; done) | (simp [lens]; omega)) ?_) | (refine st_put rfl 24 _ _ rfl hm rfl rfl 4 rfl agg24 (by first | omega | assumption | (simp only [lens]; first | omega | assumption) | (simp [lens]; done) | (simp [lens]; omega)) (by first | omega | assumption | (simp only [lens]; first | omega | assumption) | (simp [lens]; done) | (simp [lens]; omega)) ?_)); clear hm; intro ws hm; simp only [List.set_cons_zero, List.set_cons_succ] at hm))
   go_roundw
   case rel =>
    refine ⟨i + 1, by omega, by go_num, ?_⟩
    rw [← mixTo_succ (zs 4) L 0 i (by rw [zs_length]; omega) (by omega)]
    simpa using hm
   case measure => simp [intOf]; omega
  ·have HI := Aside0.mk (show mixTo (zs 4) L 0 i = L by
    have : i = 4 := by omega
    subst this
    unfold mixTo
    rw [List.take_zero, List.nil_append, List.take_of_length_le (by omega), List.drop_of_length_le (by rw [zs_length]; omega), List.append_nil])
   go_wp2_with (first | fail | ((with_reducible refine gt_box 1 24 ?_); refine st_box rfl 1 rfl 24 _ rfl hm (v := .agg (vals _ _)) rfl (cs := vals _ _) rfl ?_; clear hm; intro g1 w1 hm) | ((with_reducible refine gt_alloc 2 24 ?_); refine st_alloc rfl 2 rfl 24 rfl hm zero24 ?_; clear hm; intro g2 w2 hm) | ((with_reducible refine gt_alloc 3 24 ?_); refine st_alloc rfl 3 rfl 24 rfl hm zero24 ?_; clear hm; intro g3 w3 hm) | ((with_reducible refine gt_elem 24 ?_); refine st_elem rfl 24 _ _ rfl rfl rfl arr24 (by first | omega | assumption | (simp only [lens]; first | omega | assumption) | (simp [lens]; done) | (simp [lens]; omega)) (by first | omega | assumption | (simp only [lens]; first | omega | assumption) | (simp [lens]; done) | (simp [lens]; omega)) ?_) | ((with_reducible refine gt_load 22 ?_); (first | (refine st_get rfl 22 _ rfl hm rfl 0 rfl one22 (by first | omega | assumption | (simp only [lens]; first | omega | assumption) | (simp [lens]; done) | (simp [lens]; omega)) ?_) | (refine st_get rfl 22 _ rfl hm rfl 1 rfl one22 (by first | omega | assumption | (simp only [lens]; first | omega | assumption) | (simp [lens]; done) | (simp [lens]; omega)) ?_) | (refine st_get rfl 22 _ rfl hm rfl 2 rfl one22 (by first | omega | assumption | (simp only [lens]; first | omega | assumption) | (simp [lens]; done) | (simp [lens]; omega)) ?_) | (refine st_get rfl 22 _ rfl hm rfl 3 rfl one22 (by first | omega | assumption | (simp only [lens]; first | omega | assumption) | (simp [lens]; done) | (simp [lens]; omega)) ?_) | (refine st_get rfl 22 _ rfl hm rfl 4 rfl one22 (by first | omega | assumption | (simp only [lens]; first | omega | assumption) | (simp [lens]; done) | (simp [lens]; omega)) ?_))) | ((with_reducible refine gt_store 22 ?_); (first | (refine st_set rfl 22 _ _ rfl hm rfl rfl 0 rfl one22 (by first | omega | assumption | (simp only [lens]; first | omega | assumption) | (simp [lens]; done) | (simp [lens]; omega)) ?_) | (refine st_set rfl 22 _ _ rfl hm rfl rfl 1 rfl one22 (by first | omega | assumption | (simp only [lens]; first | omega | assumption) | (simp [lens]; done) | (simp [lens]; omega)) ?_) | (refine st_set rfl 22 _ _ rfl hm rfl rfl 2 rfl one22 (by first | omega | assumption | (simp only [lens]; first | omega | assumption) | (simp [lens]; done) | (simp [lens]; omega)) ?_) | (refine st_set rfl 22 _ _ rfl hm rfl rfl 3 rfl one22 (by first | omega | assumption | (simp only [lens]; first | omega | assumption) | (simp [lens]; done) | (simp [lens]; omega)) ?_) | (refine st_set rfl 22 _ _ rfl hm rfl rfl 4 rfl one22 (by first | omega | assumption | (simp only [lens]; first | omega | assumption) | (simp [lens]; done) | (simp [lens]; omega)) ?_)); clear hm; intro ws hm; simp only [List.set_cons_zero, List.set_cons_succ] at hm) | ((with_reducible refine gt_load 24 ?_); (first | (refine st_load rfl 24 _ rfl hm rfl 0 rfl agg24 (by first | omega | assumption | (simp only [lens]; first | omega | assumption) | (simp [lens]; done) | (simp [lens]; omega)) ?_) | (refine st_load rfl 24 _ rfl hm rfl 1 rfl agg24 (by first | omega | assumption | (simp only [lens]; first | omega | assumption) | (simp [lens]; done) | (simp [lens]; omega)) ?_) | (refine st_load rfl 24 _ rfl hm rfl 2 rfl agg24 (by first | omega | assumption | (simp only [lens]; first | omega | assumption) | (simp [lens]; done) | (simp [lens]; omega)) ?_) | (refine st_load rfl 24 _ rfl hm rfl 3 rfl agg24 (by first | omega | assumption | (simp only [lens]; first | omega | assumption) | (simp [lens]; done) | (simp [lens]; omega)) ?_) | (refine st_load rfl 24 _ rfl hm rfl 4 rfl agg24 (by first | omega | assumption | (simp only [lens]; first | omega | assumption) | (simp [lens]; done) | (simp [lens]; omega)) ?_) | (refine st_part rfl 24 _ rfl hm rfl 0 rfl agg24 (by first | omega | assumption | (simp only [lens]; first | omega | assumption) | (simp [lens]; done) | (simp [lens]; omega)) ?_) | (refine st_part rfl 24 _ rfl hm rfl 1 rfl agg24 (by first | omega | assumption | (simp only [lens]; first | omega | assumption) | (simp [lens]; done) | (simp [lens]; omega)) ?_) | (refine st_part rfl 24 _ rfl hm rfl 2 rfl agg24 (by first | omega | assumption | (simp only [lens]; first | omega | assumption) | (simp [lens]; done) | (simp [lens]; omega)) ?_) | (refine st_part rfl 24 _ rfl hm rfl 3 rfl agg24 (by first | omega | assumption | (simp only [lens]; first | omega | assumption) | (simp [lens]; done) | (simp [lens]; omega)) ?_) | (refine st_part rfl 24 _ rfl hm rfl 4 rfl agg24 (by first | omega | assumption | (simp only [lens]; first | omega | assumption) | (simp [lens]; done) | (simp [lens]; omega)) ?_))) | ((with_reducible refine gt_store 24 ?_); (first | (refine st_full rfl 24 _ _ rfl hm rfl rfl 0 rfl agg24 (by first | omega | assumption | (simp only [lens]; first | omega | assumption) | (simp [lens]; done) | (simp [lens]; omega)) (by first | omega | assumption | (simp only [lens]; first | omega | assumption) | (simp [lens]; done) | (simp [lens]; omega)) ?_) | (refine st_full rfl 24 _ _ rfl hm rfl rfl 1 rfl agg24 (by first | omega | assumption | (simp only [lens]; first | omega | assumption) | (simp [lens]; done) | (simp [lens]; omega)) (by first | omega | assumption | (simp only [lens]; first | omega | assumption) | (simp [lens]; done) | (simp [lens]; omega)) ?_) | (refine st_full rfl 24 _ _ rfl hm rfl rfl 2 rfl agg24 (by first | omega | assumption | (simp only [lens]; first | omega | assumption) | (simp [lens]; done) | (simp [lens]; omega)) (by first | omega | assumption | (simp only [lens]; first | omega | assumption) | (simp [lens]; done) | (simp [lens]; omega)) ?_) | (refine st_full rfl 24 _ _ rfl hm rfl rfl 3 rfl agg24 (by first | omega | assumption | (simp only [lens]; first | omega | assumption) | (simp [lens]; done) | (simp [lens]; omega)) (by first | omega | assumption | (simp only [lens]; first | omega | assumption) | (simp [lens]; done) | (simp [lens]; omega)) ?_) | (refine st_full rfl 24 _ _ rfl hm rfl rfl 4 rfl agg24 (by first | omega | assumption | (simp only [lens]; first | omega | assumption) | (simp [lens]; done) | (simp [lens]; omega)) (by first | omega | assumption | (simp only [lens]; first | omega | assumption) | (simp [lens]; done) | (simp [lens]; omega)) ?_) | (refine st_put rfl 24 _ _ rfl hm rfl rfl 0 rfl agg24 (by first | omega | assumption | (simp only [lens]; first | omega | assumption) | (simp [lens]; done) | (simp [lens]; omega)) (by first | omega | assumption | (simp only [lens]; first | omega | assumption) | (simp [lens]; done) | (simp [lens]; omega)) ?_) | (refine st_put rfl 24 _ _ rfl hm rfl rfl 1 rfl agg24 (by first | omega | assumption | (simp only [lens]; first | omega | assumption) | (simp [lens]; done) | (simp [lens]; omega)) (by first | omega | assumption | (simp only [lens]; first | omega | assumption) | (simp [lens]; done) | (simp [lens]; omega)) ?_) | (refine st_put rfl 24 _ _ rfl hm rfl rfl 2 rfl agg24 (by first | omega | assumption | (simp only [lens]; first | omega | assumption) | (simp [lens]; done) | (simp [lens]; omega)) (by first | omega | assumption | (simp only [lens]; first | omega | assumption) | (simp [lens]; done) | (simp [lens]; omega)) ?_) | (refine st_put rfl 24 _ _ rfl hm rfl rfl 3 rfl agg24 (by first | omega | assumption | (simp only [lens]; first | omega | assumption) | (simp [lens]; done) | (simp [lens]; omega)) (by first | omega | assumption | (simp only [lens]; first | omega | assumption) | (simp [lens]; done) | (simp [lens]; omega)) ?_) | (refine st_put rfl 24 _ _ rfl hm rfl rfl 4 rfl agg24 (by first | omega | assumption | (simp only [lens]; first | omega | assumption) | (simp [lens]; done) | (simp [lens]; omega)) (by first | omega | assumption | (simp only [lens]; first | omega | assumption) | (simp [lens]; done) | (simp [lens]; omega)) ?_)); clear hm; intro ws hm; simp only [List.set_cons_zero, List.set_cons_succ] at hm))
   ((try simp only [Exit.inBlock, Exit.then]); (first | (refine ret_cell hm rfl rfl 1 rfl agg24 (by first | omega | assumption | (simp only [lens]; first | omega | assumption) | (simp [lens]; done) | (simp [lens]; omega)) rfl ?_) | (refine ret_cell_tmp hm rfl rfl 1 rfl agg24 (by first | omega | assumption | (simp only [lens]; first | omega | assumption) | (simp [lens]; done) | (simp [lens]; omega)) rfl ?_)))
   exact ⟨by rw [HI.out], hm.done rfl⟩
set_option maxHeartbeats 4000000 in
set_option maxRecDepth 100000 in
theorem toLocker_calls (L : List Int) (w : World) (hl : L.length = 44) : Calls Try.prog 7 #[.agg (vals .i16 L)] w fun e w' => e = .returned (.agg (vals .i16 L)) ∧ Below w.heap.size w w' := by
 have hm := Mem.start w
 have HL := Aside0.mk (halves L hl)
 go_enter Try.func7, Try.ntmps7
 go_wp2_with (first
  | (first | fail | ((with_reducible refine gt_box 1 26 ?_); refine st_box rfl 1 rfl 26 _ rfl hm (v := .agg (vals _ _)) rfl (cs := vals _ _) rfl ?_; clear hm; intro g1 w1 hm) | ((with_reducible refine gt_alloc 2 31 ?_); refine st_alloc rfl 2 rfl 31 rfl hm zero31 ?_; clear hm; intro g2 w2 hm) | ((with_reducible refine gt_alloc 3 31 ?_); refine st_alloc rfl 3 rfl 31 rfl hm zero31 ?_; clear hm; intro g3 w3 hm) | ((with_reducible refine gt_field 26 0 ?_); refine st_field rfl 26 _ 0 rfl rfl field26_0 ?_) | ((with_reducible refine gt_load 23 ?_); (first | (refine st_part rfl 23 _ rfl hm rfl 0 rfl agg23 (by first | omega | assumption | (simp only [lens]; first | omega | assumption) | (simp [lens]; done) | (simp [lens]; omega)) ?_) | (refine st_part rfl 23 _ rfl hm rfl 1 rfl agg23 (by first | omega | assumption | (simp only [lens]; first | omega | assumption) | (simp [lens]; done) | (simp [lens]; omega)) ?_) | (refine st_part rfl 23 _ rfl hm rfl 2 rfl agg23 (by first | omega | assumption | (simp only [lens]; first | omega | assumption) | (simp [lens]; done) | (simp [lens]; omega)) ?_) | (refine st_part rfl 23 _ rfl hm rfl 3 rfl agg23 (by first | omega | assumption | (simp only [lens]; first | omega | assumption) | (simp [lens]; done) | (simp [lens]; omega)) ?_) | (refine st_part rfl 23 _ rfl hm rfl 4 rfl agg23 (by first | omega | assumption | (simp only [lens]; first | omega | assumption) | (simp [lens]; done) | (simp [lens]; omega)) ?_))) | ((with_reducible refine gt_field 31 0 ?_); refine st_field rfl 31 _ 0 rfl rfl field31_0 ?_) | ((with_reducible refine gt_store 23 ?_); (first | (refine st_put rfl 23 _ _ rfl hm rfl rfl 0 rfl agg23 (by first | omega | assumption | (simp only [lens]; first | omega | assumption) | (simp [lens]; done) | (simp [lens]; omega)) (by first | omega | assumption | (simp only [lens]; first | omega | assumption) | (simp [lens]; done) | (simp [lens]; omega)) ?_) | (refine st_put rfl 23 _ _ rfl hm rfl rfl 1 rfl agg23 (by first | omega | assumption | (simp only [lens]; first | omega | assumption) | (simp [lens]; done) | (simp [lens]; omega)) (by first | omega | assumption | (simp only [lens]; first | omega | assumption) | (simp [lens]; done) | (simp [lens]; omega)) ?_) | (refine st_put rfl 23 _ _ rfl hm rfl rfl 2 rfl agg23 (by first | omega | assumption | (simp only [lens]; first | omega | assumption) | (simp [lens]; done) | (simp [lens]; omega)) (by first | omega | assumption | (simp only [lens]; first | omega | assumption) | (simp [lens]; done) | (simp [lens]; omega)) ?_) | (refine st_put rfl 23 _ _ rfl hm rfl rfl 3 rfl agg23 (by first | omega | assumption | (simp only [lens]; first | omega | assumption) | (simp [lens]; done) | (simp [lens]; omega)) (by first | omega | assumption | (simp only [lens]; first | omega | assumption) | (simp [lens]; done) | (simp [lens]; omega)) ?_) | (refine st_put rfl 23 _ _ rfl hm rfl rfl 4 rfl agg23 (by first | omega | assumption | (simp only [lens]; first | omega | assumption) | (simp [lens]; done) | (simp [lens]; omega)) (by first | omega | assumption | (simp only [lens]; first | omega | assumption) | (simp [lens]; done) | (simp [lens]; omega)) ?_)); clear hm; intro ws hm; simp only [List.set_cons_zero, List.set_cons_succ] at hm) | ((with_reducible refine gt_field 26 1 ?_); refine st_field rfl 26 _ 1 rfl rfl field26_1 ?_) | ((with_reducible refine gt_load 24 ?_); (first | (refine st_part rfl 24 _ rfl hm rfl 0 rfl agg24 (by first | omega | assumption | (simp only [lens]; first | omega | assumption) | (simp [lens]; done) | (simp [lens]; omega)) ?_) | (refine st_part rfl 24 _ rfl hm rfl 1 rfl agg24 (by first | omega | assumption | (simp only [lens]; first | omega | assumption) | (simp [lens]; done) | (simp [lens]; omega)) ?_) | (refine st_part rfl 24 _ rfl hm rfl 2 rfl agg24 (by first | omega | assumption | (simp only [lens]; first | omega | assumption) | (simp [lens]; done) | (simp [lens]; omega)) ?_) | (refine st_part rfl 24 _ rfl hm rfl 3 rfl agg24 (by first | omega | assumption | (simp only [lens]; first | omega | assumption) | (simp [lens]; done) | (simp [lens]; omega)) ?_) | (refine st_part rfl 24 _ rfl hm rfl 4 rfl agg24 (by first | omega | assumption | (simp only [lens]; first | omega | assumption) | (simp [lens]; done) | (simp [lens]; omega)) ?_))) | ((with_reducible refine gt_field 31 1 ?_); refine st_field rfl 31 _ 1 rfl rfl field31_1 ?_) | ((with_reducible refine gt_store 24 ?_); (first | (refine st_put rfl 24 _ _ rfl hm rfl rfl 0 rfl agg24 (by first | omega | assumption | (simp only [lens]; first | omega | assumption) | (simp [lens]; done) | (simp [lens]; omega)) (by first | omega | assumption | (simp only [lens]; first | omega | assumption) | (simp [lens]; done) | (simp [lens]; omega)) ?_) | (refine st_put rfl 24 _ _ rfl hm rfl rfl 1 rfl agg24 (by first | omega | assumption | (simp only [lens]; first | omega | assumption) | (simp [lens]; done) | (simp [lens]; omega)) (by first | omega | assumption | (simp only [lens]; first | omega | assumption) | (simp [lens]; done) | (simp [lens]; omega)) ?_) | (refine st_put rfl 24 _ _ rfl hm rfl rfl 2 rfl agg24 (by first | omega | assumption | (simp only [lens]; first | omega | assumption) | (simp [lens]; done) | (simp [lens]; omega)) (by first | omega | assumption | (simp only [lens]; first | omega | assumption) | (simp [lens]; done) | (simp [lens]; omega)) ?_) | (refine st_put rfl 24 _ _ rfl hm rfl rfl 3 rfl agg24 (by first | omega | assumption | (simp only [lens]; first | omega | assumption) | (simp [lens]; done) | (simp [lens]; omega)) (by first | omega | assumption | (simp only [lens]; first | omega | assumption) | (simp [lens]; done) | (simp [lens]; omega)) ?_) | (refine st_put rfl 24 _ _ rfl hm rfl rfl 4 rfl agg24 (by first | omega | assumption | (simp only [lens]; first | omega | assumption) | (simp [lens]; done) | (simp [lens]; omega)) (by first | omega | assumption | (simp only [lens]; first | omega | assumption) | (simp [lens]; done) | (simp [lens]; omega)) ?_)); clear hm; intro ws hm; simp only [List.set_cons_zero, List.set_cons_succ] at hm) | ((with_reducible refine gt_load 31 ?_); (first | (refine st_load rfl 31 _ rfl hm rfl 0 rfl agg31 (by first | omega | assumption | (simp only [lens]; first | omega | assumption) | (simp [lens]; done) | (simp [lens]; omega)) ?_) | (refine st_load rfl 31 _ rfl hm rfl 1 rfl agg31 (by first | omega | assumption | (simp only [lens]; first | omega | assumption) | (simp [lens]; done) | (simp [lens]; omega)) ?_) | (refine st_load rfl 31 _ rfl hm rfl 2 rfl agg31 (by first | omega | assumption | (simp only [lens]; first | omega | assumption) | (simp [lens]; done) | (simp [lens]; omega)) ?_) | (refine st_load rfl 31 _ rfl hm rfl 3 rfl agg31 (by first | omega | assumption | (simp only [lens]; first | omega | assumption) | (simp [lens]; done) | (simp [lens]; omega)) ?_) | (refine st_load rfl 31 _ rfl hm rfl 4 rfl agg31 (by first | omega | assumption | (simp only [lens]; first | omega | assumption) | (simp [lens]; done) | (simp [lens]; omega)) ?_))) | ((with_reducible refine gt_store 31 ?_); (first | (refine st_full rfl 31 _ _ rfl hm rfl rfl 0 rfl agg31 (by first | omega | assumption | (simp only [lens]; first | omega | assumption) | (simp [lens]; done) | (simp [lens]; omega)) (by first | omega | assumption | (simp only [lens]; first | omega | assumption) | (simp [lens]; done) | (simp [lens]; omega)) ?_) | (refine st_full rfl 31 _ _ rfl hm rfl rfl 1 rfl agg31 (by first | omega | assumption | (simp only [lens]; first | omega | assumption) | (simp [lens]; done) | (simp [lens]; omega)) (by first | omega | assumption | (simp only [lens]; first | omega | assumption) | (simp [lens]; done) | (simp [lens]; omega)) ?_) | (refine st_full rfl 31 _ _ rfl hm rfl rfl 2 rfl agg31 (by first | omega | assumption | (simp only [lens]; first | omega | assumption) | (simp [lens]; done) | (simp [lens]; omega)) (by first | omega | assumption | (simp only [lens]; first | omega | assumption) | (simp [lens]; done) | (simp [lens]; omega)) ?_) | (refine st_full rfl 31 _ _ rfl hm rfl rfl 3 rfl agg31 (by first | omega | assumption | (simp only [lens]; first | omega | assumption) | (simp [lens]; done) | (simp [lens]; omega)) (by first | omega | assumption | (simp only [lens]; first | omega | assumption) | (simp [lens]; done) | (simp [lens]; omega)) ?_) | (refine st_full rfl 31 _ _ rfl hm rfl rfl 4 rfl agg31 (by first | omega | assumption | (simp only [lens]; first | omega | assumption) | (simp [lens]; done) | (simp [lens]; omega)) (by first | omega | assumption | (simp only [lens]; first | omega | assumption) | (simp [lens]; done) | (simp [lens]; omega)) ?_)); clear hm; intro ws hm; simp only [List.set_cons_zero, List.set_cons_succ] at hm))
  | (go_at_call 32; refine (toInt16A40_calls _ _ (by first | omega | assumption | (simp only [lens]; first | omega | assumption) | (simp [lens]; done) | (simp [lens]; omega))).mono ?_; rintro e wa ⟨rfl, hb⟩; replace hm := hm.after hb; clear hb)
  | (go_at_call 33; refine (toInt16A4_calls _ _ (by first | omega | assumption | (simp only [lens]; first | omega | assumption) | (simp [lens]; done) | (simp [lens]; omega))).mono ?_; rintro e wa ⟨rfl, hb⟩; replace hm := hm.after hb; clear hb))
 ((try simp only [Exit.inBlock, Exit.then]); (first | (refine ret_cell hm rfl rfl 1 rfl agg31 (by first | omega | assumption | (simp only [lens]; first | omega | assumption) | (simp [lens]; done) | (simp [lens]; omega)) rfl ?_) | (refine ret_cell_tmp hm rfl rfl 1 rfl agg31 (by first | omega | assumption | (simp only [lens]; first | omega | assumption) | (simp [lens]; done) | (simp [lens]; omega)) rfl ?_)))
 refine ⟨?_, hm.done rfl⟩
 have e : ∀ A B : List Int, A.length = 40 → B.length = 4 → List.take (0 + 40) (List.take (0 + 0) (zs 44) ++ A ++ List.drop (0 + 0 + 40) (zs 44)) ++ B ++ List.drop (0 + 40 + 4) (List.take (0 + 0) (zs 44) ++ A ++ List.drop (0 + 0 + 40) (zs 44)) = A ++ B := by
  intro A B ha hb
  simp only [Nat.zero_add, List.take_zero, List.nil_append]
  rw [List.take_left' ha, List.drop_of_length_le (i := 44) (by simp only [lens]; omega), List.append_nil]
 rw [e _ _ (by simp only [lens]; omega) (by simp only [lens]; omega)]
 rw [show List.take 40 L ++ List.take 4 (List.drop 40 L) = L from (by simpa using HL.out.symm)]
def okx (x : Int) : Bool := decide (0 ≤ x ∧ x ≤ 20)
def okL (L : List Int) : Bool := L.all okx
theorem okL_true {L : List Int} {n : Nat} (hl : L.length = n) (h : ∀ j : Nat, j < n → okx (rd L (j : Int)) = true) : okL L = true := by
 unfold okL
 rw [List.all_eq_true]
 intro x hx
 obtain ⟨j, hj, rfl⟩ := List.getElem_of_mem hx
 have := h j (by omega)
 rwa [rd_get L j hj] at this
theorem rd_in (L : List Int) (i : Nat) (h : i < L.length) : rd L (i : Int) ∈ L := by rw [rd_get L i h]; exact List.getElem_mem h
theorem rd_inI (L : List Int) (i : Int) (h0 : 0 ≤ i) (h : i < L.length) : rd L i ∈ L := by
 have := rd_in L i.toNat (by omega)
 rwa [Int.toNat_of_nonneg h0] at this
theorem okL_falseI {L : List Int} (i : Int) (h0 : 0 ≤ i) (hi : i < L.length) (h : okx (rd L i) = false) : okL L = false := by
 unfold okL
 rw [List.all_eq_false]
 exact ⟨_, rd_inI L i h0 hi, by simp [h]⟩
theorem okL_false {L : List Int} (i : Nat) (hi : i < L.length) (h : okx (rd L (i : Int)) = false) : okL L = false := by
 unfold okL
 rw [List.all_eq_false]
 exact ⟨_, rd_in L i hi, by simp [h]⟩
def Fits (k : IntKind) (L : List Int) : Prop := ∀ z ∈ L, (Lit.int k z).wf = true
theorem fits16 {x : Int} (h : (Lit.int .i16 x).wf = true) : -32768 ≤ x ∧ x ≤ 32767 := by
 simp only [Lit.wf, IntKind.min, IntKind.max, IntKind.signed, IntKind.bits, Bool.and_eq_true, decide_eq_true_eq, if_true] at h
 omega
set_option maxHeartbeats 4000000 in
set_option maxRecDepth 100000 in
theorem l04Ok_calls (g : Nat) (L : List Int) (w : World) (hl : L.length = 44) (hw : Fits .i16 L) (hg : w.heap[g]? = some (.cells (vals .i16 L) 31 (0, 0))) :
  Calls Try.prog 29 #[.pointer (some ⟨g, 0, none⟩)] w fun e w' => e = .returned (.bool (okL L)) ∧ Below w.heap.size w w' := by
 have hm := Mem.given hg
 have HG := Aside0.mk hg
 have HW := Aside0.mk hw
 clear hg hw
 go_enter Try.func29, Try.ntmps29
 go_wp2_with (first | fail | ((with_reducible refine gt_field 31 0 ?_); refine st_field rfl 31 _ 0 rfl rfl field31_0 ?_) | ((with_reducible refine gt_elem 23 ?_); refine st_elem rfl 23 _ _ rfl rfl rfl arr23 (by first | omega | assumption | (simp only [lens]; first | omega | assumption) | (simp [lens]; done) | (simp [lens]; omega)) (by first | omega | assumption | (simp only [lens]; first | omega | assumption) | (simp [lens]; done) | (simp [lens]; omega)) ?_) | ((with_reducible refine gt_load 22 ?_); (first | (refine st_get rfl 22 _ rfl hm rfl 0 rfl one22 (by first | omega | assumption | (simp only [lens]; first | omega | assumption) | (simp [lens]; done) | (simp [lens]; omega)) ?_) | (refine st_get rfl 22 _ rfl hm rfl 1 rfl one22 (by first | omega | assumption | (simp only [lens]; first | omega | assumption) | (simp [lens]; done) | (simp [lens]; omega)) ?_))) | ((with_reducible refine gt_field 31 1 ?_); refine st_field rfl 31 _ 1 rfl rfl field31_1 ?_) | ((with_reducible refine gt_elem 24 ?_); refine st_elem rfl 24 _ _ rfl rfl rfl arr24 (by first | omega | assumption | (simp only [lens]; first | omega | assumption) | (simp [lens]; done) | (simp [lens]; omega)) (by first | omega | assumption | (simp only [lens]; first | omega | assumption) | (simp [lens]; done) | (simp [lens]; omega)) ?_))
 go_loopw [3] (fun v3 wr => ∃ i : Nat, i ≤ 40 ∧ v3 = .int .i64 i ∧ Aside0 (∀ j : Nat, j < i → okx (rd L (j : Int)) = true) ∧ Mem w wr [⟨g, vals .i16 L, 31, false⟩]) (fun v3 _ => 40 - (intOf v3).toNat)
 case atStart => exact ⟨0, by omega, rfl, ⟨fun j hj => absurd hj (by omega)⟩, hm⟩
 case round =>
  obtain ⟨i, hi, rfl, HJ, hm⟩ := hrel
  by_cases hlt : i < 40
  ·have hx16 := fits16 (HW.out _ (rd_in L i (by omega)))
   by_cases hx : 0 ≤ rd L (i : Int) ∧ rd L (i : Int) ≤ 20
   ·go_wp2_with (first
     | (first | fail | ((with_reducible refine gt_field 31 0 ?_); refine st_field rfl 31 _ 0 rfl rfl field31_0 ?_) | ((with_reducible refine gt_elem 23 ?_); refine st_elem rfl 23 _ _ rfl rfl rfl arr23 (by first | omega | assumption | (simp only [lens]; first | omega | assumption) | (simp [lens]; done) | (simp [lens]; omega)) (by first | omega | assumption | (simp only [lens]; first | omega | assumption) | (simp [lens]; done) | (simp [lens]; omega)) ?_) | ((with_reducible refine gt_load 22 ?_); (first | (refine st_get rfl 22 _ rfl hm rfl 0 rfl one22 (by first | omega | assumption | (simp only [lens]; first | omega | assumption) | (simp [lens]; done) | (simp [lens]; omega)) ?_) | (refine st_get rfl 22 _ rfl hm rfl 1 rfl one22 (by first | omega | assumption | (simp only [lens]; first | omega | assumption) | (simp [lens]; done) | (simp [lens]; omega)) ?_))) | ((with_reducible refine gt_field 31 1 ?_); refine st_field rfl 31 _ 1 rfl rfl field31_1 ?_) | ((with_reducible refine gt_elem 24 ?_); refine st_elem rfl 24 _ _ rfl rfl rfl arr24 (by first | omega | assumption | (simp only [lens]; first | omega | assumption) | (simp [lens]; done) | (simp [lens]; omega)) (by first | omega | assumption | (simp only [lens]; first | omega | assumption) | (simp [lens]; done) | (simp [lens]; omega)) ?_))
     | (go_at_call 42; refine (in_calls _ _ _ _).mono ?_; rintro e wa ⟨rfl, hb⟩; replace hm := hm.after hb; clear hb))
    go_roundw
    case rel =>
     have HX := hx
     exact ⟨i + 1, by omega, by go_num, ⟨fun j hj => by
      rcases Nat.lt_or_ge j i with h | h
      ·exact HJ.out j h
      ·obtain rfl : j = i := by omega
       simp [okx, HX]⟩, hm⟩
    case measure => simp [intOf]; omega
   ·have HX := Aside0.mk (okL_false (L := L) i (by omega) (by unfold okx; exact decide_eq_false hx))
    go_wp2_with (first
     | (first | fail | ((with_reducible refine gt_field 31 0 ?_); refine st_field rfl 31 _ 0 rfl rfl field31_0 ?_) | ((with_reducible refine gt_elem 23 ?_); refine st_elem rfl 23 _ _ rfl rfl rfl arr23 (by first | omega | assumption | (simp only [lens]; first | omega | assumption) | (simp [lens]; done) | (simp [lens]; omega)) (by first | omega | assumption | (simp only [lens]; first | omega | assumption) | (simp [lens]; done) | (simp [lens]; omega)) ?_) | ((with_reducible refine gt_load 22 ?_); (first | (refine st_get rfl 22 _ rfl hm rfl 0 rfl one22 (by first | omega | assumption | (simp only [lens]; first | omega | assumption) | (simp [lens]; done) | (simp [lens]; omega)) ?_) | (refine st_get rfl 22 _ rfl hm rfl 1 rfl one22 (by first | omega | assumption | (simp only [lens]; first | omega | assumption) | (simp [lens]; done) | (simp [lens]; omega)) ?_))) | ((with_reducible refine gt_field 31 1 ?_); refine st_field rfl 31 _ 1 rfl rfl field31_1 ?_) | ((with_reducible refine gt_elem 24 ?_); refine st_elem rfl 24 _ _ rfl rfl rfl arr24 (by first | omega | assumption | (simp only [lens]; first | omega | assumption) | (simp [lens]; done) | (simp [lens]; omega)) (by first | omega | assumption | (simp only [lens]; first | omega | assumption) | (simp [lens]; done) | (simp [lens]; omega)) ?_))
     | (go_at_call 42; refine (in_calls _ _ _ _).mono ?_; rintro e wa ⟨rfl, hb⟩; replace hm := hm.after hb; clear hb))
    go_ret
    exact ⟨by rw [HX.out]; rfl, (hm.gives (M := []) rfl).below HG.out⟩
  ·have HI := Aside0.mk (show i = 40 by omega)
   go_wp2_with (first | fail | ((with_reducible refine gt_field 31 0 ?_); refine st_field rfl 31 _ 0 rfl rfl field31_0 ?_) | ((with_reducible refine gt_elem 23 ?_); refine st_elem rfl 23 _ _ rfl rfl rfl arr23 (by first | omega | assumption | (simp only [lens]; first | omega | assumption) | (simp [lens]; done) | (simp [lens]; omega)) (by first | omega | assumption | (simp only [lens]; first | omega | assumption) | (simp [lens]; done) | (simp [lens]; omega)) ?_) | ((with_reducible refine gt_load 22 ?_); (first | (refine st_get rfl 22 _ rfl hm rfl 0 rfl one22 (by first | omega | assumption | (simp only [lens]; first | omega | assumption) | (simp [lens]; done) | (simp [lens]; omega)) ?_) | (refine st_get rfl 22 _ rfl hm rfl 1 rfl one22 (by first | omega | assumption | (simp only [lens]; first | omega | assumption) | (simp [lens]; done) | (simp [lens]; omega)) ?_))) | ((with_reducible refine gt_field 31 1 ?_); refine st_field rfl 31 _ 1 rfl rfl field31_1 ?_) | ((with_reducible refine gt_elem 24 ?_); refine st_elem rfl 24 _ _ rfl rfl rfl arr24 (by first | omega | assumption | (simp only [lens]; first | omega | assumption) | (simp [lens]; done) | (simp [lens]; omega)) (by first | omega | assumption | (simp only [lens]; first | omega | assumption) | (simp [lens]; done) | (simp [lens]; omega)) ?_))
   go_loopw [4] (fun v4 wr => ∃ i : Nat, i ≤ 4 ∧ v4 = .int .i64 i ∧ Aside0 (∀ j : Nat, j < 40 + i → okx (rd L (j : Int)) = true) ∧ Mem w wr [⟨g, vals .i16 L, 31, false⟩]) (fun v4 _ => 4 - (intOf v4).toNat)
   case atStart => exact ⟨0, by omega, rfl, ⟨fun j hj => HJ.out j (by rw [HI.out]; omega)⟩, hm⟩
   case round =>
    obtain ⟨i2, hi2, rfl, HJ2, hm⟩ := hrel
    by_cases hlt : i2 < 4
    ·have hx16 := fits16 (HW.out _ (rd_inI L (40 + (i2 : Int)) (by omega) (by omega)))
     by_cases hx : 0 ≤ rd L (40 + (i2 : Int)) ∧ rd L (40 + (i2 : Int)) ≤ 20
     ·go_wp2_with (first
       | (first | fail | ((with_reducible refine gt_field 31 0 ?_); refine st_field rfl 31 _ 0 rfl rfl field31_0 ?_) | ((with_reducible refine gt_elem 23 ?_); refine st_elem rfl 23 _ _ rfl rfl rfl arr23 (by first | omega | assumption | (simp only [lens]; first | omega | assumption) | (simp [lens]; done) | (simp [lens]; omega)) (by first | omega | assumption | (simp only [lens]; first | omega | assumption) | (simp [lens]; done) | (simp [lens]; omega)) ?_) | ((with_reducible refine gt_load 22 ?_); (first | (refine st_get rfl 22 _ rfl hm rfl 0 rfl one22 (by first | omega | assumption | (simp only [lens]; first | omega | assumption) | (simp [lens]; done) | (simp [lens]; omega)) ?_) | (refine st_get rfl 22 _ rfl hm rfl 1 rfl one22 (by first | omega | assumption | (simp only [lens]; first | omega | assumption) | (simp [lens]; done) | (simp [lens]; omega)) ?_))) | ((with_reducible refine gt_field 31 1 ?_); refine st_field rfl 31 _ 1 rfl rfl field31_1 ?_) | ((with_reducible refine gt_elem 24 ?_); refine st_elem rfl 24 _ _ rfl rfl rfl arr24 (by first | omega | assumption | (simp only [lens]; first | omega | assumption) | (simp [lens]; done) | (simp [lens]; omega)) (by first | omega | assumption | (simp only [lens]; first | omega | assumption) | (simp [lens]; done) | (simp [lens]; omega)) ?_))
       | (go_at_call 42; refine (in_calls _ _ _ _).mono ?_; rintro e wa ⟨rfl, hb⟩; replace hm := hm.after hb; clear hb))
      go_roundw
      case rel =>
       have HX := hx
       exact ⟨i2 + 1, by omega, by go_num, ⟨fun j hj => by
        rcases Nat.lt_or_ge j (40 + i2) with h | h
        ·exact HJ2.out j h
        ·obtain rfl : j = 40 + i2 := by omega
         rw [show ((40 + i2 : Nat) : Int) = 40 + (i2 : Int) by omega]
         simp [okx, HX]⟩, hm⟩
      case measure => simp [intOf]; omega
     ·have HX := Aside0.mk (okL_falseI (L := L) (40 + (i2 : Int)) (by omega) (by omega) (by unfold okx; exact decide_eq_false hx))
      go_wp2_with (first
       | (first | fail | ((with_reducible refine gt_field 31 0 ?_); refine st_field rfl 31 _ 0 rfl rfl field31_0 ?_) | ((with_reducible refine gt_elem 23 ?_); refine st_elem rfl 23 _ _ rfl rfl rfl arr23 (by first | omega | assumption | (simp only [lens]; first | omega | assumption) | (simp [lens]; done) | (simp [lens]; omega)) (by first | omega | assumption | (simp only [lens]; first | omega | assumption) | (simp [lens]; done) | (simp [lens]; omega)) ?_) | ((with_reducible refine gt_load 22 ?_); (first | (refine st_get rfl 22 _ rfl hm rfl 0 rfl one22 (by first | omega | assumption | (simp only [lens]; first | omega | assumption) | (simp [lens]; done) | (simp [lens]; omega)) ?_) | (refine st_get rfl 22 _ rfl hm rfl 1 rfl one22 (by first | omega | assumption | (simp only [lens]; first | omega | assumption) | (simp [lens]; done) | (simp [lens]; omega)) ?_))) | ((with_reducible refine gt_field 31 1 ?_); refine st_field rfl 31 _ 1 rfl rfl field31_1 ?_) | ((with_reducible refine gt_elem 24 ?_); refine st_elem rfl 24 _ _ rfl rfl rfl arr24 (by first | omega | assumption | (simp only [lens]; first | omega | assumption) | (simp [lens]; done) | (simp [lens]; omega)) (by first | omega | assumption | (simp only [lens]; first | omega | assumption) | (simp [lens]; done) | (simp [lens]; omega)) ?_))
       | (go_at_call 42; refine (in_calls _ _ _ _).mono ?_; rintro e wa ⟨rfl, hb⟩; replace hm := hm.after hb; clear hb))
      go_ret
      exact ⟨by rw [HX.out]; rfl, (hm.gives (M := []) rfl).below HG.out⟩
    ·have HX := Aside0.mk (okL_true hl (fun j hj => HJ2.out j (by omega)))
     go_wp2_with (first | fail | ((with_reducible refine gt_field 31 0 ?_); refine st_field rfl 31 _ 0 rfl rfl field31_0 ?_) | ((with_reducible refine gt_elem 23 ?_); refine st_elem rfl 23 _ _ rfl rfl rfl arr23 (by first | omega | assumption | (simp only [lens]; first | omega | assumption) | (simp [lens]; done) | (simp [lens]; omega)) (by first | omega | assumption | (simp only [lens]; first | omega | assumption) | (simp [lens]; done) | (simp [lens]; omega)) ?_) | ((with_reducible refine gt_load 22 ?_); (first | (refine st_get rfl 22 _ rfl hm rfl 0 rfl one22 (by first | omega | assumption | (simp only [lens]; first | omega | assumption) | (simp [lens]; done) | (simp [lens]; omega)) ?_) | (refine st_get rfl 22 _ rfl hm rfl 1 rfl one22 (by first | omega | assumption | (simp only [lens]; first | omega | assumption) | (simp [lens]; done) | (simp [lens]; omega)) ?_))) | ((with_reducible refine gt_field 31 1 ?_); refine st_field rfl 31 _ 1 rfl rfl field31_1 ?_) | ((with_reducible refine gt_elem 24 ?_); refine st_elem rfl 24 _ _ rfl rfl rfl arr24 (by first | omega | assumption | (simp only [lens]; first | omega | assumption) | (simp [lens]; done) | (simp [lens]; omega)) (by first | omega | assumption | (simp only [lens]; first | omega | assumption) | (simp [lens]; done) | (simp [lens]; omega)) ?_))
     go_ret
     exact ⟨by rw [HX.out]; rfl, (hm.gives (M := []) rfl).below HG.out⟩
theorem mix_all (L : List Int) (hl : L.length = 44) : mixTo (mixTo (zs 44) L 0 40) (L.drop 40) 40 4 = L := by
 have h1 : (L.take 40).length = 40 := by simp only [lens]; omega
 unfold mixTo
 simp only [Nat.zero_add, List.take_zero, List.nil_append]
 rw [List.take_left' h1, List.take_of_length_le (l := L.drop 40) (by simp only [lens]; omega), List.drop_of_length_le (i := 40 + 4) (by simp only [lens]; omega), List.append_nil, List.take_append_drop]
set_option maxHeartbeats 4000000 in
set_option maxRecDepth 100000 in
theorem pieces_calls (L : List Int) (w : World) (hl : L.length = 44) (hw : Fits .i16 L) : Calls Try.prog 36 #[.agg (vals .i16 L)] w fun e w' =>
  e = .returned (.agg (vals .i64 L)) ∧ Below w.heap.size w w' := by
 have hm := Mem.start w
 have HW := Aside0.mk hw
 have HL := Aside0.mk (halves L hl)
 clear hw
 go_enter Try.func36, Try.ntmps36
 go_wp2_with (first | fail | ((with_reducible refine gt_box 1 31 ?_); refine st_box rfl 1 rfl 31 _ rfl hm (v := .agg (vals _ _)) rfl (cs := vals _ _) rfl ?_; clear hm; intro g1 w1 hm) | ((with_reducible refine gt_alloc 2 71 ?_); refine st_alloc rfl 2 rfl 71 rfl hm zero71 ?_; clear hm; intro g2 w2 hm) | ((with_reducible refine gt_build 71 ?_); refine st_zero rfl 71 rfl built71 ?_) | ((with_reducible refine gt_alloc 3 71 ?_); refine st_alloc rfl 3 rfl 71 rfl hm zero71 ?_; clear hm; intro g3 w3 hm) | ((with_reducible refine gt_store 71 ?_); (first | (refine st_full rfl 71 _ _ rfl hm rfl rfl 0 rfl agg71 (by first | omega | assumption | (simp only [lens]; first | omega | assumption) | (simp [lens]; done) | (simp [lens]; omega)) (by first | omega | assumption | (simp only [lens]; first | omega | assumption) | (simp [lens]; done) | (simp [lens]; omega)) ?_) | (refine st_full rfl 71 _ _ rfl hm rfl rfl 1 rfl agg71 (by first | omega | assumption | (simp only [lens]; first | omega | assumption) | (simp [lens]; done) | (simp [lens]; omega)) (by first | omega | assumption | (simp only [lens]; first | omega | assumption) | (simp [lens]; done) | (simp [lens]; omega)) ?_) | (refine st_full rfl 71 _ _ rfl hm rfl rfl 2 rfl agg71 (by first | omega | assumption | (simp only [lens]; first | omega | assumption) | (simp [lens]; done) | (simp [lens]; omega)) (by first | omega | assumption | (simp only [lens]; first | omega | assumption) | (simp [lens]; done) | (simp [lens]; omega)) ?_) | (refine st_full rfl 71 _ _ rfl hm rfl rfl 3 rfl agg71 (by first | omega | assumption | (simp only [lens]; first | omega | assumption) | (simp [lens]; done) | (simp [lens]; omega)) (by first | omega | assumption | (simp only [lens]; first | omega | assumption) | (simp [lens]; done) | (simp [lens]; omega)) ?_) | (refine st_full rfl 71 _ _ rfl hm rfl rfl 4 rfl agg71 (by first | omega | assumption | (simp only [lens]; first | omega | assumption) | (simp [lens]; done) | (simp [lens]; omega)) (by first | omega | assumption | (simp only [lens]; first | omega | assumption) | (simp [lens]; done) | (simp [lens]; omega)) ?_)); clear hm; intro ws hm; simp only [List.set_cons_zero, List.set_cons_succ] at hm) | ((with_reducible refine gt_field 31 0 ?_); refine st_field rfl 31 _ 0 rfl rfl field31_0 ?_) | ((with_reducible refine gt_load 23 ?_); (first | (refine st_part rfl 23 _ rfl hm rfl 0 rfl agg23 (by first | omega | assumption | (simp only [lens]; first | omega | assumption) | (simp [lens]; done) | (simp [lens]; omega)) ?_) | (refine st_part rfl 23 _ rfl hm rfl 1 rfl agg23 (by first | omega | assumption | (simp only [lens]; first | omega | assumption) | (simp [lens]; done) | (simp [lens]; omega)) ?_) | (refine st_part rfl 23 _ rfl hm rfl 2 rfl agg23 (by first | omega | assumption | (simp only [lens]; first | omega | assumption) | (simp [lens]; done) | (simp [lens]; omega)) ?_) | (refine st_part rfl 23 _ rfl hm rfl 3 rfl agg23 (by first | omega | assumption | (simp only [lens]; first | omega | assumption) | (simp [lens]; done) | (simp [lens]; omega)) ?_) | (refine st_part rfl 23 _ rfl hm rfl 4 rfl agg23 (by first | omega | assumption | (simp only [lens]; first | omega | assumption) | (simp [lens]; done) | (simp [lens]; omega)) ?_))) | ((with_reducible refine gt_index 23 ?_); refine st_index rfl 23 _ _ rfl rfl rfl arr23 (by first | omega | assumption | (simp only [lens]; first | omega | assumption) | (simp [lens]; done) | (simp [lens]; omega)) (by first | omega | assumption | (simp only [lens]; first | omega | assumption) | (simp [lens]; done) | (simp [lens]; omega)) (by first | omega | assumption | (simp only [lens]; first | omega | assumption) | (simp [lens]; done) | (simp [lens]; omega)) ?_) | ((with_reducible refine gt_field 71 0 ?_); refine st_field rfl 71 _ 0 rfl rfl field71_0 ?_) | ((with_reducible refine gt_elem 68 ?_); refine st_elem rfl 68 _ _ rfl rfl rfl arr68 (by first | omega | assumption | (simp only [lens]; first | omega | assumption) | (simp [lens]; done) | (simp [lens]; omega)) (by first | omega | assumption | (simp only [lens]; first | omega | assumption) | (simp [lens]; done) | (simp [lens]; omega)) ?_) | ((with_reducible refine gt_store 3 ?_); (first | (refine st_set rfl 3 _ _ rfl hm rfl rfl 0 rfl one3 (by first | omega | assumption | (simp only [lens]; first | omega | assumption) | (simp [lens]; done) | (simp [lens]; omega)) ?_) | (refine st_set rfl 3 _ _ rfl hm rfl rfl 1 rfl one3 (by first | omega | assumption | (simp only [lens]; first | omega | assumption) | (simp [lens]; done) | (simp [lens]; omega)) ?_) | (refine st_set rfl 3 _ _ rfl hm rfl rfl 2 rfl one3 (by first | omega | assumption | (simp only [lens]; first | omega | assumption) | (simp [lens]; done) | (simp [lens]; omega)) ?_) | (refine st_set rfl 3 _ _ rfl hm rfl rfl 3 rfl one3 (by first | omega | assumption | (simp only [lens]; first | omega | assumption) | (simp [lens]; done) | (simp [lens]; omega)) ?_) | (refine st_set rfl 3 _ _ rfl hm rfl rfl 4 rfl one3 (by first | omega | assumption | (simp only [lens]; first | omega | assumption) | (simp [lens]; done) | (simp [lens]; omega)) ?_)); clear hm; intro ws hm; simp only [List.set_cons_zero, List.set_cons_succ] at hm) | ((with_reducible refine gt_field 31 1 ?_); refine st_field rfl 31 _ 1 rfl rfl field31_1 ?_) | ((with_reducible refine gt_load 24 ?_); (first | (refine st_part rfl 24 _ rfl hm rfl 0 rfl agg24 (by first | omega | assumption | (simp only [lens]; first | omega | assumption) | (simp [lens]; done) | (simp [lens]; omega)) ?_) | (refine st_part rfl 24 _ rfl hm rfl 1 rfl agg24 (by first | omega | assumption | (simp only [lens]; first | omega | assumption) | (simp [lens]; done) | (simp [lens]; omega)) ?_) | (refine st_part rfl 24 _ rfl hm rfl 2 rfl agg24 (by first | omega | assumption | (simp only [lens]; first | omega | assumption) | (simp [lens]; done) | (simp [lens]; omega)) ?_) | (refine st_part rfl 24 _ rfl hm rfl 3 rfl agg24 (by first | omega | assumption | (simp only [lens]; first | omega | assumption) | (simp [lens]; done) | (simp [lens]; omega)) ?_) | (refine st_part rfl 24 _ rfl hm rfl 4 rfl agg24 (by first | omega | assumption | (simp only [lens]; first | omega | assumption) | (simp [lens]; done) | (simp [lens]; omega)) ?_))) | ((with_reducible refine gt_index 24 ?_); refine st_index rfl 24 _ _ rfl rfl rfl arr24 (by first | omega | assumption | (simp only [lens]; first | omega | assumption) | (simp [lens]; done) | (simp [lens]; omega)) (by first | omega | assumption | (simp only [lens]; first | omega | assumption) | (simp [lens]; done) | (simp [lens]; omega)) (by first | omega | assumption | (simp only [lens]; first | omega | assumption) | (simp [lens]; done) | (simp [lens]; omega)) ?_) | ((with_reducible refine gt_field 71 1 ?_); refine st_field rfl 71 _ 1 rfl rfl field71_1 ?_) | ((with_reducible refine gt_elem 69 ?_); refine st_elem rfl 69 _ _ rfl rfl rfl arr69 (by first | omega | assumption | (simp only [lens]; first | omega | assumption) | (simp [lens]; done) | (simp [lens]; omega)) (by first | omega | assumption | (simp only [lens]; first | omega | assumption) | (simp [lens]; done) | (simp [lens]; omega)) ?_) | ((with_reducible refine gt_load 71 ?_); (first | (refine st_load rfl 71 _ rfl hm rfl 0 rfl agg71 (by first | omega | assumption | (simp only [lens]; first | omega | assumption) | (simp [lens]; done) | (simp [lens]; omega)) ?_) | (refine st_load rfl 71 _ rfl hm rfl 1 rfl agg71 (by first | omega | assumption | (simp only [lens]; first | omega | assumption) | (simp [lens]; done) | (simp [lens]; omega)) ?_) | (refine st_load rfl 71 _ rfl hm rfl 2 rfl agg71 (by first | omega | assumption | (simp only [lens]; first | omega | assumption) | (simp [lens]; done) | (simp [lens]; omega)) ?_) | (refine st_load rfl 71 _ rfl hm rfl 3 rfl agg71 (by first | omega | assumption | (simp only [lens]; first | omega | assumption) | (simp [lens]; done) | (simp [lens]; omega)) ?_) | (refine st_load rfl 71 _ rfl hm rfl 4 rfl agg71 (by first | omega | assumption | (simp only [lens]; first | omega | assumption) | (simp [lens]; done) | (simp [lens]; omega)) ?_))))
 go_loopw [11, 4, 5] (fun v11 v4 v5 wr => ∃ i : Nat, i ≤ 40 ∧ v11 = .int .i64 i ∧ Mem w wr [⟨g3, vals .i64 (mixTo (zs 44) L 0 i), 71, true⟩, ⟨g2, vals .i64 (zs 44), 71, true⟩, ⟨g1, vals .i16 L, 31, true⟩]) (fun v11 _ _ _ => 40 - (intOf v11).toNat)
 case atStart => exact ⟨0, by omega, rfl, by rw [mixTo_zero]; exact hm⟩
 case round =>
  obtain ⟨i, hi, rfl, hm⟩ := hrel
  have hl2 := mixTo_length (zs 44) L 0 i (by rw [zs_length]; omega) (by omega)
  rw [zs_length] at hl2
  by_cases hlt : i < 40
  ·have HR := Aside0.mk (rd_take L i 40 (by omega) (by omega))
   have hx16 := fits16 (HW.out _ (rd_in L i (by omega)))
   rw [← HR.out] at hx16
   go_wp2_with (first | fail | ((with_reducible refine gt_box 1 31 ?_); refine st_box rfl 1 rfl 31 _ rfl hm (v := .agg (vals _ _)) rfl (cs := vals _ _) rfl ?_; clear hm; intro g1 w1 hm) | ((with_reducible refine gt_alloc 2 71 ?_); refine st_alloc rfl 2 rfl 71 rfl hm zero71 ?_; clear hm; intro g2 w2 hm) | ((with_reducible refine gt_build 71 ?_); refine st_zero rfl 71 rfl built71 ?_) | ((with_reducible refine gt_alloc 3 71 ?_); refine st_alloc rfl 3 rfl 71 rfl hm zero71 ?_; clear hm; intro g3 w3 hm) | ((with_reducible refine gt_store 71 ?_); (first | (refine st_full rfl 71 _ _ rfl hm rfl rfl 0 rfl agg71 (by first | omega | assumption | (simp only [lens]; first | omega | assumption) | (simp [lens]; done) | (simp [lens]; omega)) (by first | omega | assumption | (simp only [lens]; first | omega | assumption) | (simp [lens]; done) | (simp [lens]; omega)) ?_) | (refine st_full rfl 71 _ _ rfl hm rfl rfl 1 rfl agg71 (by first | omega | assumption | (simp only [lens]; first | omega | assumption) | (simp [lens]; done) | (simp [lens]; omega)) (by first | omega | assumption | (simp only [lens]; first | omega | assumption) | (simp [lens]; done) | (simp [lens]; omega)) ?_) | (refine st_full rfl 71 _ _ rfl hm rfl rfl 2 rfl agg71 (by first | omega | assumption | (simp only [lens]; first | omega | assumption) | (simp [lens]; done) | (simp [lens]; omega)) (by first | omega | assumption | (simp only [lens]; first | omega | assumption) | (simp [lens]; done) | (simp [lens]; omega)) ?_) | (refine st_full rfl 71 _ _ rfl hm rfl rfl 3 rfl agg71 (by first | omega | assumption | (simp only [lens]; first | omega | assumption) | (simp [lens]; done) | (simp [lens]; omega)) (by first | omega | assumption | (simp only [lens]; first | omega | assumption) | (simp [lens]; done) | (simp [lens]; omega)) ?_) | (refine st_full rfl 71 _ _ rfl hm rfl rfl 4 rfl agg71 (by first | omega | assumption | (simp only [lens]; first | omega | assumption) | (simp [lens]; done) | (simp [lens]; omega)) (by first | omega | assumption | (simp only [lens]; first | omega | assumption) | (simp [lens]; done) | (simp [lens]; omega)) ?_)); clear hm; intro ws hm; simp only [List.set_cons_zero, List.set_cons_succ] at hm) | ((with_reducible refine gt_field 31 0 ?_); refine st_field rfl 31 _ 0 rfl rfl field31_0 ?_) | ((with_reducible refine gt_load 23 ?_); (first | (refine st_part rfl 23 _ rfl hm rfl 0 rfl agg23 (by first | omega | assumption | (simp only [lens]; first | omega | assumption) | (simp [lens]; done) | (simp [lens]; omega)) ?_) | (refine st_part rfl 23 _ rfl hm rfl 1 rfl agg23 (by first | omega | assumption | (simp only [lens]; first | omega | assumption) | (simp [lens]; done) | (simp [lens]; omega)) ?_) | (refine st_part rfl 23 _ rfl hm rfl 2 rfl agg23 (by first | omega | assumption | (simp only [lens]; first | omega | assumption) | (simp [lens]; done) | (simp [lens]; omega)) ?_) | (refine st_part rfl 23 _ rfl hm rfl 3 rfl agg23 (by first | omega | assumption | (simp only [lens]; first | omega | assumption) | (simp [lens]; done) | (simp [lens]; omega)) ?_) | (refine st_part rfl 23 _ rfl hm rfl 4 rfl agg23 (by first | omega | assumption | (simp only [lens]; first | omega | assumption) | (simp [lens]; done) | (simp [lens]; omega)) ?_))) | ((with_reducible refine gt_index 23 ?_); refine st_index rfl 23 _ _ rfl rfl rfl arr23 (by first | omega | assumption | (simp only [lens]; first | omega | assumption) | (simp [lens]; done) | (simp [lens]; omega)) (by first | omega | assumption | (simp only [lens]; first | omega | assumption) | (simp [lens]; done) | (simp [lens]; omega)) (by first | omega | assumption | (simp only [lens]; first | omega | assumption) | (simp [lens]; done) | (simp [lens]; omega)) ?_) | ((with_reducible refine gt_field 71 0 ?_); refine st_field rfl 71 _ 0 rfl rfl field71_0 ?_) | ((with_reducible refine gt_elem 68 ?_); refine st_elem rfl 68 _ _ rfl rfl rfl arr68 (by first | omega | assumption | (simp only [lens]; first | omega | assumption) | (simp [lens]; done) | (simp [lens]; omega)) (by first | omega | assumption | (simp only [lens]; first | omega | assumption) | (simp [lens]; done) | (simp [lens]; omega)) ?_) | ((with_reducible refine gt_store 3 ?_); (first | (refine st_set rfl 3 _ _ rfl hm rfl rfl 0 rfl one3 (by first | omega | assumption | (simp only [lens]; first | omega | assumption) | (simp [lens]; done) | (simp [lens]; omega)) ?_) | (refine st_set rfl 3 _ _ rfl hm rfl rfl 1 rfl one3 (by first | omega | assumption | (simp only [lens]; first | omega | assumption) | (simp [lens]; done) | (simp [lens]; omega)) ?_) | (refine st_set rfl 3 _ _ rfl hm rfl rfl 2 rfl one3 (by first | omega | assumption | (simp only [lens]; first | omega | assumption) | (simp [lens]; done) | (simp [lens]; omega)) ?_) | (refine st_set rfl 3 _ _ rfl hm rfl rfl 3 rfl one3 (by first | omega | assumption | (simp only [lens]; first | omega | assumption) | (simp [lens]; done) | (simp [lens]; omega)) ?_) | (refine st_set rfl 3 _ _ rfl hm rfl rfl 4 rfl one3 (by first | omega | assumption | (simp only [lens]; first | omega | assumption) | (simp [lens]; done) | (simp [lens]; omega)) ?_)); clear hm; intro ws hm; simp only [List.set_cons_zero, List.set_cons_succ] at hm) | ((with_reducible refine gt_field 31 1 ?_); refine st_field rfl 31 _ 1 rfl rfl field31_1 ?_) | ((with_reducible refine gt_load 24 ?_); (first | (refine st_part rfl 24 _ rfl hm rfl 0 rfl agg24 (by first | omega | assumption | (simp only [lens]; first | omega | assumption) | (simp [lens]; done) | (simp [lens]; omega)) ?_) | (refine st_part rfl 24 _ rfl hm rfl 1 rfl agg24 (by first | omega | assumption | (simp only [lens]; first | omega | assumption) | (simp [lens]; done) | (simp [lens]; omega)) ?_) | (refine st_part rfl 24 _ rfl hm rfl 2 rfl agg24 (by first | omega | assumption | (simp only [lens]; first | omega | assumption) | (simp [lens]; done) | (simp [lens]; omega)) ?_) | (refine st_part rfl 24 _ rfl hm rfl 3 rfl agg24 (by first | omega | assumption | (simp only [lens]; first | omega | assumption) | (simp [lens]; done) | (simp [lens]; omega)) ?_) | (refine st_part rfl 24 _ rfl hm rfl 4 rfl agg24 (by first | omega | assumption | (simp only [lens]; first | omega | assumption) | (simp [lens]; done) | (simp [lens]; omega)) ?_))) | ((with_reducible refine gt_index 24 ?_); refine st_index rfl 24 _ _ rfl rfl rfl arr24 (by first | omega | assumption | (simp only [lens]; first | omega | assumption) | (simp [lens]; done) | (simp [lens]; omega)) (by first | omega | assumption | (simp only [lens]; first | omega | assumption) | (simp [lens]; done) | (simp [lens]; omega)) (by first | omega | assumption | (simp only [lens]; first | omega | assumption) | (simp [lens]; done) | (simp [lens]; omega)) ?_) | ((with_reducible refine gt_field 71 1 ?_); refine st_field rfl 71 _ 1 rfl rfl field71_1 ?_) | ((with_reducible refine gt_elem 69 ?_); refine st_elem rfl 69 _ _ rfl rfl rfl arr69 (by first | omega | assumption | (simp only [lens]; first | omega | assumption) | (simp [lens]; done) | (simp [lens]; omega)) (by first | omega | assumption | (simp only [lens]; first | omega | assumption) | (simp [lens]; done) | (simp [lens]; omega)) ?_) | ((with_reducible refine gt_load 71 ?_); (first | (refine st_load rfl 71 _ rfl hm rfl 0 rfl agg71 (by first | omega | assumption | (simp only [lens]; first | omega | assumption) | (simp [lens]; done) | (simp [lens]; omega)) ?_) | (refine st_load rfl 71 _ rfl hm rfl 1 rfl agg71 (by first | omega | assumption | (simp only [lens]; first | omega | assumption) | (simp [lens]; done) | (simp [lens]; omega)) ?_) | (refine st_load rfl 71 _ rfl hm rfl 2 rfl agg71 (by first | omega | assumption | (simp only [lens]; first | omega | assumption) | (simp [lens]; done) | (simp [lens]; omega)) ?_) | (refine st_load rfl 71 _ rfl hm rfl 3 rfl agg71 (by first | omega | assumption | (simp only [lens]; first | omega | assumption) | (simp [lens]; done) | (simp [lens]; omega)) ?_) | (refine st_load rfl 71 _ rfl hm rfl 4 rfl agg71 (by first | omega | assumption | (simp only [lens]; first | omega | assumption) | (simp [lens]; done) | (simp [lens]; omega)) ?_))))
   go_roundw
   case rel =>
    refine ⟨i + 1, by omega, by go_num, ?_⟩
    rw [← mixTo_succ (zs 44) L 0 i (by rw [zs_length]; omega) (by omega), ← HR.out]
    simpa using hm
   case measure => simp [intOf]; omega
  ·have HI := Aside0.mk (show i = 40 by omega)
   generalize hF : mixTo (zs 44) L 0 i = F at *
   have HF := Aside0.mk hF
   clear hF
   go_wp2_with (first | fail | ((with_reducible refine gt_box 1 31 ?_); refine st_box rfl 1 rfl 31 _ rfl hm (v := .agg (vals _ _)) rfl (cs := vals _ _) rfl ?_; clear hm; intro g1 w1 hm) | ((with_reducible refine gt_alloc 2 71 ?_); refine st_alloc rfl 2 rfl 71 rfl hm zero71 ?_; clear hm; intro g2 w2 hm) | ((with_reducible refine gt_build 71 ?_); refine st_zero rfl 71 rfl built71 ?_) | ((with_reducible refine gt_alloc 3 71 ?_); refine st_alloc rfl 3 rfl 71 rfl hm zero71 ?_; clear hm; intro g3 w3 hm) | ((with_reducible refine gt_store 71 ?_); (first | (refine st_full rfl 71 _ _ rfl hm rfl rfl 0 rfl agg71 (by first | omega | assumption | (simp only [lens]; first | omega | assumption) | (simp [lens]; done) | (simp [lens]; omega)) (by first | omega | assumption | (simp only [lens]; first | omega | assumption) | (simp [lens]; done) | (simp [lens]; omega)) ?_) | (refine st_full rfl 71 _ _ rfl hm rfl rfl 1 rfl agg71 (by first | omega | assumption | (simp only [lens]; first | omega | assumption) | (simp [lens]; done) | (simp [lens]; omega)) (by first | omega | assumption | (simp only [lens]; first | omega | assumption) | (simp [lens]; done) | (simp [lens]; omega)) ?_) | (refine st_full rfl 71 _ _ rfl hm rfl rfl 2 rfl agg71 (by first | omega | assumption | (simp only [lens]; first | omega | assumption) | (simp [lens]; done) | (simp [lens]; omega)) (by first | omega | assumption | (simp only [lens]; first | omega | assumption) | (simp [lens]; done) | (simp [lens]; omega)) ?_) | (refine st_full rfl 71 _ _ rfl hm rfl rfl 3 rfl agg71 (by first | omega | assumption | (simp only [lens]; first | omega | assumption) | (simp [lens]; done) | (simp [lens]; omega)) (by first | omega | assumption | (simp only [lens]; first | omega | assumption) | (simp [lens]; done) | (simp [lens]; omega)) ?_) | (refine st_full rfl 71 _ _ rfl hm rfl rfl 4 rfl agg71 (by first | omega | assumption | (simp only [lens]; first | omega | assumption) | (simp [lens]; done) | (simp [lens]; omega)) (by first | omega | assumption | (simp only [lens]; first | omega | assumption) | (simp [lens]; done) | (simp [lens]; omega)) ?_)); clear hm; intro ws hm; simp only [List.set_cons_zero, List.set_cons_succ] at hm) | ((with_reducible refine gt_field 31 0 ?_); refine st_field rfl 31 _ 0 rfl rfl field31_0 ?_) | ((with_reducible refine gt_load 23 ?_); (first | (refine st_part rfl 23 _ rfl hm rfl 0 rfl agg23 (by first | omega | assumption | (simp only [lens]; first | omega | assumption) | (simp [lens]; done) | (simp [lens]; omega)) ?_) | (refine st_part rfl 23 _ rfl hm rfl 1 rfl agg23 (by first | omega | assumption | (simp only [lens]; first | omega | assumption) | (simp [lens]; done) | (simp [lens]; omega)) ?_) | (refine st_part rfl 23 _ rfl hm rfl 2 rfl agg23 (by first | omega | assumption | (simp only [lens]; first | omega | assumption) | (simp [lens]; done) | (simp [lens]; omega)) ?_) | (refine st_part rfl 23 _ rfl hm rfl 3 rfl agg23 (by first | omega | assumption | (simp only [lens]; first | omega | assumption) | (simp [lens]; done) | (simp [lens]; omega)) ?_) | (refine st_part rfl 23 _ rfl hm rfl 4 rfl agg23 (by first | omega | assumption | (simp only [lens]; first | omega | assumption) | (simp [lens]; done) | (simp [lens]; omega)) ?_))) | ((with_reducible refine gt_index 23 ?_); refine st_index rfl 23 _ _ rfl rfl rfl arr23 (by first | omega | assumption | (simp only [lens]; first | omega | assumption) | (simp [lens]; done) | (simp [lens]; omega)) (by first | omega | assumption | (simp only [lens]; first | omega | assumption) | (simp [lens]; done) | (simp [lens]; omega)) (by first | omega | assumption | (simp only [lens]; first | omega | assumption) | (simp [lens]; done) | (simp [lens]; omega)) ?_) | ((with_reducible refine gt_field 71 0 ?_); refine st_field rfl 71 _ 0 rfl rfl field71_0 ?_) | ((with_reducible refine gt_elem 68 ?_); refine st_elem rfl 68 _ _ rfl rfl rfl arr68 (by first | omega | assumption | (simp only [lens]; first | omega | assumption) | (simp [lens]; done) | (simp [lens]; omega)) (by first | omega | assumption | (simp only [lens]; first | omega | assumption) | (simp [lens]; done) | (simp [lens]; omega)) ?_) | ((with_reducible refine gt_store 3 ?_); (first | (refine st_set rfl 3 _ _ rfl hm rfl rfl 0 rfl one3 (by first | omega | assumption | (simp only [lens]; first | omega | assumption) | (simp [lens]; done) | (simp [lens]; omega)) ?_) | (refine st_set rfl 3 _ _ rfl hm rfl rfl 1 rfl one3 (by first | omega | assumption | (simp only [lens]; first | omega | assumption) | (simp [lens]; done) | (simp [lens]; omega)) ?_) | (refine st_set rfl 3 _ _ rfl hm rfl rfl 2 rfl one3 (by first | omega | assumption | (simp only [lens]; first | omega | assumption) | (simp [lens]; done) | (simp [lens]; omega)) ?_) | (refine st_set rfl 3 _ _ rfl hm rfl rfl 3 rfl one3 (by first | omega | assumption | (simp only [lens]; first | omega | assumption) | (simp [lens]; done) | (simp [lens]; omega)) ?_) | (refine st_set rfl 3 _ _ rfl hm rfl rfl 4 rfl one3 (by first | omega | assumption | (simp only [lens]; first | omega | assumption) | (simp [lens]; done) | (simp [lens]; omega)) ?_)); clear hm; intro ws hm; simp only [List.set_cons_zero, List.set_cons_succ] at hm) | ((with_reducible refine gt_field 31 1 ?_); refine st_field rfl 31 _ 1 rfl rfl field31_1 ?_) | ((with_reducible refine gt_load 24 ?_); (first | (refine st_part rfl 24 _ rfl hm rfl 0 rfl agg24 (by first | omega | assumption | (simp only [lens]; first | omega | assumption) | (simp [lens]; done) | (simp [lens]; omega)) ?_) | (refine st_part rfl 24 _ rfl hm rfl 1 rfl agg24 (by first | omega | assumption | (simp only [lens]; first | omega | assumption) | (simp [lens]; done) | (simp [lens]; omega)) ?_) | (refine st_part rfl 24 _ rfl hm rfl 2 rfl agg24 (by first | omega | assumption | (simp only [lens]; first | omega | assumption) | (simp [lens]; done) | (simp [lens]; omega)) ?_) | (refine st_part rfl 24 _ rfl hm rfl 3 rfl agg24 (by first | omega | assumption | (simp only [lens]; first | omega | assumption) | (simp [lens]; done) | (simp [lens]; omega)) ?_) | (refine st_part rfl 24 _ rfl hm rfl 4 rfl agg24 (by first | omega | assumption | (simp only [lens]; first | omega | assumption) | (simp [lens]; done) | (simp [lens]; omega)) ?_))) | ((with_reducible refine gt_index 24 ?_); refine st_index rfl 24 _ _ rfl rfl rfl arr24 (by first | omega | assumption | (simp only [lens]; first | omega | assumption) | (simp [lens]; done) | (simp [lens]; omega)) (by first | omega | assumption | (simp only [lens]; first | omega | assumption) | (simp [lens]; done) | (simp [lens]; omega)) (by first | omega | assumption | (simp only [lens]; first | omega | assumption) | (simp [lens]; done) | (simp [lens]; omega)) ?_) | ((with_reducible refine gt_field 71 1 ?_); refine st_field rfl 71 _ 1 rfl rfl field71_1 ?_) | ((with_reducible refine gt_elem 69 ?_); refine st_elem rfl 69 _ _ rfl rfl rfl arr69 (by first | omega | assumption | (simp only [lens]; first | omega | assumption) | (simp [lens]; done) | (simp [lens]; omega)) (by first | omega | assumption | (simp only [lens]; first | omega | assumption) | (simp [lens]; done) | (simp [lens]; omega)) ?_) | ((with_reducible refine gt_load 71 ?_); (first | (refine st_load rfl 71 _ rfl hm rfl 0 rfl agg71 (by first | omega | assumption | (simp only [lens]; first | omega | assumption) | (simp [lens]; done) | (simp [lens]; omega)) ?_) | (refine st_load rfl 71 _ rfl hm rfl 1 rfl agg71 (by first | omega | assumption | (simp only [lens]; first | omega | assumption) | (simp [lens]; done) | (simp [lens]; omega)) ?_) | (refine st_load rfl 71 _ rfl hm rfl 2 rfl agg71 (by first | omega | assumption | (simp only [lens]; first | omega | assumption) | (simp [lens]; done) | (simp [lens]; omega)) ?_) | (refine st_load rfl 71 _ rfl hm rfl 3 rfl agg71 (by first | omega | assumption | (simp only [lens]; first | omega | assumption) | (simp [lens]; done) | (simp [lens]; omega)) ?_) | (refine st_load rfl 71 _ rfl hm rfl 4 rfl agg71 (by first | omega | assumption | (simp only [lens]; first | omega | assumption) | (simp [lens]; done) | (simp [lens]; omega)) ?_))))
   go_loopw [23, 6, 7] (fun v23 v6 v7 wr => ∃ i : Nat, i ≤ 4 ∧ v23 = .int .i64 i ∧ Mem w wr [⟨g3, vals .i64 (mixTo F (L.drop 40) 40 i), 71, true⟩, ⟨g2, vals .i64 (zs 44), 71, true⟩, ⟨g1, vals .i16 L, 31, true⟩]) (fun v23 _ _ _ => 4 - (intOf v23).toNat)
   case atStart => exact ⟨0, by omega, rfl, by rw [mixTo_zero]; exact hm⟩
   case round =>
    obtain ⟨i2, hi2, rfl, hm⟩ := hrel
    have hl3 := mixTo_length F (L.drop 40) 40 i2 (by omega) (by simp; omega)
    by_cases hlt : i2 < 4
    ·have HR := Aside0.mk (rd_take (L.drop 40) i2 4 (by omega) (by simp; omega))
     have hx16 := fits16 (HW.out _ (List.mem_of_mem_drop (rd_in (L.drop 40) i2 (by simp; omega))))
     rw [← HR.out] at hx16
     go_wp2_with (first | fail | ((with_reducible refine gt_box 1 31 ?_); refine st_box rfl 1 rfl 31 _ rfl hm (v := .agg (vals _ _)) rfl (cs := vals _ _) rfl ?_; clear hm; intro g1 w1 hm) | ((with_reducible refine gt_alloc 2 71 ?_); refine st_alloc rfl 2 rfl 71 rfl hm zero71 ?_; clear hm; intro g2 w2 hm) | ((with_reducible refine gt_build 71 ?_); refine st_zero rfl 71 rfl built71 ?_) | ((with_reducible refine gt_alloc 3 71 ?_); refine st_alloc rfl 3 rfl 71 rfl hm zero71 ?_; clear hm; intro g3 w3 hm) | ((with_reducible refine gt_store 71 ?_); (first | (refine st_full rfl 71 _ _ rfl hm rfl rfl 0 rfl agg71 (by first | omega | assumption | (simp only [lens]; first | omega | assumption) | (simp [lens]; done) | (simp [lens]; omega)) (by first | omega | assumption | (simp only [lens]; first | omega | assumption) | (simp [lens]; done) | (simp [lens]; omega)) ?_) | (refine st_full rfl 71 _ _ rfl hm rfl rfl 1 rfl agg71 (by first | omega | assumption | (simp only [lens]; first | omega | assumption) | (simp [lens]; done) | (simp [lens]; omega)) (by first | omega | assumption | (simp only [lens]; first | omega | assumption) | (simp [lens]; done) | (simp [lens]; omega)) ?_) | (refine st_full rfl 71 _ _ rfl hm rfl rfl 2 rfl agg71 (by first | omega | assumption | (simp only [lens]; first | omega | assumption) | (simp [lens]; done) | (simp [lens]; omega)) (by first | omega | assumption | (simp only [lens]; first | omega | assumption) | (simp [lens]; done) | (simp [lens]; omega)) ?_) | (refine st_full rfl 71 _ _ rfl hm rfl rfl 3 rfl agg71 (by first | omega | assumption | (simp only [lens]; first | omega | assumption) | (simp [lens]; done) | (simp [lens]; omega)) (by first | omega | assumption | (simp only [lens]; first | omega | assumption) | (simp [lens]; done) | (simp [lens]; omega)) ?_) | (refine st_full rfl 71 _ _ rfl hm rfl rfl 4 rfl agg71 (by first | omega | assumption | (simp only [lens]; first | omega | assumption) | (simp [lens]; done) | (simp [lens]; omega)) (by first | omega | assumption | (simp only [lens]; first | omega | assumption) | (simp [lens]; done) | (simp [lens]; omega)) ?_)); clear hm; intro ws hm; simp only [List.set_cons_zero, List.set_cons_succ] at hm) | ((with_reducible refine gt_field 31 0 ?_); refine st_field rfl 31 _ 0 rfl rfl field31_0 ?_) | ((with_reducible refine gt_load 23 ?_); (first | (refine st_part rfl 23 _ rfl hm rfl 0 rfl agg23 (by first | omega | assumption | (simp only [lens]; first | omega | assumption) | (simp [lens]; done) | (simp [lens]; omega)) ?_) | (refine st_part rfl 23 _ rfl hm rfl 1 rfl agg23 (by first | omega | assumption | (simp only [lens]; first | omega | assumption) | (simp [lens]; done) | (simp [lens]; omega)) ?_) | (refine st_part rfl 23 _ rfl hm rfl 2 rfl agg23 (by first | omega | assumption | (simp only [lens]; first | omega | assumption) | (simp [lens]; done) | (simp [lens]; omega)) ?_) | (refine st_part rfl 23 _ rfl hm rfl 3 rfl agg23 (by first | omega | assumption | (simp only [lens]; first | omega | assumption) | (simp [lens]; done) | (simp [lens]; omega)) ?_) | (refine st_part rfl 23 _ rfl hm rfl 4 rfl agg23 (by first | omega | assumption | (simp only [lens]; first | omega | assumption) | (simp [lens]; done) | (simp [lens]; omega)) ?_))) | ((with_reducible refine gt_index 23 ?_); refine st_index rfl 23 _ _ rfl rfl rfl arr23 (by first | omega | assumption | (simp only [lens]; first | omega | assumption) | (simp [lens]; done) | (simp [lens]; omega)) (by first | omega | assumption | (simp only [lens]; first | omega | assumption) | (simp [lens]; done) | (simp [lens]; omega)) (by first | omega | assumption | (simp only [lens]; first | omega | assumption) | (simp [lens]; done) | (simp [lens]; omega)) ?_) | ((with_reducible refine gt_field 71 0 ?_); refine st_field rfl 71 _ 0 rfl rfl field71_0 ?_) | ((with_reducible refine gt_elem 68 ?_); refine st_elem rfl 68 _ _ rfl rfl rfl arr68 (by first | omega | assumption | (simp only [lens]; first | omega | assumption) | (simp [lens]; done) | (simp [lens]; omega)) (by first | omega | assumption | (simp only [lens]; first | omega | assumption) | (simp [lens]; done) | (simp [lens]; omega)) ?_) | ((with_reducible refine gt_store 3 ?_); (first | (refine st_set rfl 3 _ _ rfl hm rfl rfl 0 rfl one3 (by first | omega | assumption | (simp only [lens]; first | omega | assumption) | (simp [lens]; done) | (simp [lens]; omega)) ?_) | (refine st_set rfl 3 _ _ rfl hm rfl rfl 1 rfl one3 (by first | omega | assumption | (simp only [lens]; first | omega | assumption) | (simp [lens]; done) | (simp [lens]; omega)) ?_) | (refine st_set rfl 3 _ _ rfl hm rfl rfl 2 rfl one3 (by first | omega | assumption | (simp only [lens]; first | omega | assumption) | (simp [lens]; done) | (simp [lens]; omega)) ?_) | (refine st_set rfl 3 _ _ rfl hm rfl rfl 3 rfl one3 (by first | omega | assumption | (simp only [lens]; first | omega | assumption) | (simp [lens]; done) | (simp [lens]; omega)) ?_) | (refine st_set rfl 3 _ _ rfl hm rfl rfl 4 rfl one3 (by first | omega | assumption | (simp only [lens]; first | omega | assumption) | (simp [lens]; done) | (simp [lens]; omega)) ?_)); clear hm; intro ws hm; simp only [List.set_cons_zero, List.set_cons_succ] at hm) | ((with_reducible refine gt_field 31 1 ?_); refine st_field rfl 31 _ 1 rfl rfl field31_1 ?_) | ((with_reducible refine gt_load 24 ?_); (first | (refine st_part rfl 24 _ rfl hm rfl 0 rfl agg24 (by first | omega | assumption | (simp only [lens]; first | omega | assumption) | (simp [lens]; done) | (simp [lens]; omega)) ?_) | (refine st_part rfl 24 _ rfl hm rfl 1 rfl agg24 (by first | omega | assumption | (simp only [lens]; first | omega | assumption) | (simp [lens]; done) | (simp [lens]; omega)) ?_) | (refine st_part rfl 24 _ rfl hm rfl 2 rfl agg24 (by first | omega | assumption | (simp only [lens]; first | omega | assumption) | (simp [lens]; done) | (simp [lens]; omega)) ?_) | (refine st_part rfl 24 _ rfl hm rfl 3 rfl agg24 (by first | omega | assumption | (simp only [lens]; first | omega | assumption) | (simp [lens]; done) | (simp [lens]; omega)) ?_) | (refine st_part rfl 24 _ rfl hm rfl 4 rfl agg24 (by first | omega | assumption | (simp only [lens]; first | omega | assumption) | (simp [lens]; done) | (simp [lens]; omega)) ?_))) | ((with_reducible refine gt_index 24 ?_); refine st_index rfl 24 _ _ rfl rfl rfl arr24 (by first | omega | assumption | (simp only [lens]; first | omega | assumption) | (simp [lens]; done) | (simp [lens]; omega)) (by first | omega | assumption | (simp only [lens]; first | omega | assumption) | (simp [lens]; done) | (simp [lens]; omega)) (by first | omega | assumption | (simp only [lens]; first | omega | assumption) | (simp [lens]; done) | (simp [lens]; omega)) ?_) | ((with_reducible refine gt_field 71 1 ?_); refine st_field rfl 71 _ 1 rfl rfl field71_1 ?_) | ((with_reducible refine gt_elem 69 ?_); refine st_elem rfl 69 _ _ rfl rfl rfl arr69 (by first | omega | assumption | (simp only [lens]; first | omega | assumption) | (simp [lens]; done) | (simp [lens]; omega)) (by first | omega | assumption | (simp only [lens]; first | omega | assumption) | (simp [lens]; done) | (simp [lens]; omega)) ?_) | ((with_reducible refine gt_load 71 ?_); (first | (refine st_load rfl 71 _ rfl hm rfl 0 rfl agg71 (by first | omega | assumption | (simp only [lens]; first | omega | assumption) | (simp [lens]; done) | (simp [lens]; omega)) ?_) | (refine st_load rfl 71 _ rfl hm rfl 1 rfl agg71 (by first | omega | assumption | (simp only [lens]; first | omega | assumption) | (simp [lens]; done) | (simp [lens]; omega)) ?_) | (refine st_load rfl 71 _ rfl hm rfl 2 rfl agg71 (by first | omega | assumption | (simp only [lens]; first | omega | assumption) | (simp [lens]; done) | (simp [lens]; omega)) ?_) | (refine st_load rfl 71 _ rfl hm rfl 3 rfl agg71 (by first | omega | assumption | (simp only [lens]; first | omega | assumption) | (simp [lens]; done) | (simp [lens]; omega)) ?_) | (refine st_load rfl 71 _ rfl hm rfl 4 rfl agg71 (by first | omega | assumption | (simp only [lens]; first | omega | assumption) | (simp [lens]; done) | (simp [lens]; omega)) ?_))))
     go_roundw
     case rel =>
      refine ⟨i2 + 1, by omega, by go_num, ?_⟩
      rw [← mixTo_succ F (L.drop 40) 40 i2 (by omega) (by simp; omega), ← HR.out]
      simpa using hm
     case measure => simp [intOf]; omega
    ·have HI2 := Aside0.mk (show i2 = 4 by omega)
     have HFL := Aside0.mk hl3
     go_wp2_with (first | fail | ((with_reducible refine gt_box 1 31 ?_); refine st_box rfl 1 rfl 31 _ rfl hm (v := .agg (vals _ _)) rfl (cs := vals _ _) rfl ?_; clear hm; intro g1 w1 hm) | ((with_reducible refine gt_alloc 2 71 ?_); refine st_alloc rfl 2 rfl 71 rfl hm zero71 ?_; clear hm; intro g2 w2 hm) | ((with_reducible refine gt_build 71 ?_); refine st_zero rfl 71 rfl built71 ?_) | ((with_reducible refine gt_alloc 3 71 ?_); refine st_alloc rfl 3 rfl 71 rfl hm zero71 ?_; clear hm; intro g3 w3 hm) | ((with_reducible refine gt_store 71 ?_); (first | (refine st_full rfl 71 _ _ rfl hm rfl rfl 0 rfl agg71 (by first | omega | assumption | (simp only [lens]; first | omega | assumption) | (simp [lens]; done) | (simp [lens]; omega)) (by first | omega | assumption | (simp only [lens]; first | omega | assumption) | (simp [lens]; done) | (simp [lens]; omega)) ?_) | (refine st_full rfl 71 _ _ rfl hm rfl rfl 1 rfl agg71 (by first | omega | assumption | (simp only [lens]; first | omega | assumption) | (simp [lens]; done) | (simp [lens]; omega)) (by first | omega | assumption | (simp only [lens]; first | omega | assumption) | (simp [lens]; done) | (simp [lens]; omega)) ?_) | (refine st_full rfl 71 _ _ rfl hm rfl rfl 2 rfl agg71 (by first | omega | assumption | (simp only [lens]; first | omega | assumption) | (simp [lens]; done) | (simp [lens]; omega)) (by first | omega | assumption | (simp only [lens]; first | omega | assumption) | (simp [lens]; done) | (simp [lens]; omega)) ?_) | (refine st_full rfl 71 _ _ rfl hm rfl rfl 3 rfl agg71 (by first | omega | assumption | (simp only [lens]; first | omega | assumption) | (simp [lens]; done) | (simp [lens]; omega)) (by first | omega | assumption | (simp only [lens]; first | omega | assumption) | (simp [lens]; done) | (simp [lens]; omega)) ?_) | (refine st_full rfl 71 _ _ rfl hm rfl rfl 4 rfl agg71 (by first | omega | assumption | (simp only [lens]; first | omega | assumption) | (simp [lens]; done) | (simp [lens]; omega)) (by first | omega | assumption | (simp only [lens]; first | omega | assumption) | (simp [lens]; done) | (simp [lens]; omega)) ?_)); clear hm; intro ws hm; simp only [List.set_cons_zero, List.set_cons_succ] at hm) | ((with_reducible refine gt_field 31 0 ?_); refine st_field rfl 31 _ 0 rfl rfl field31_0 ?_) | ((with_reducible refine gt_load 23 ?_); (first | (refine st_part rfl 23 _ rfl hm rfl 0 rfl agg23 (by first | omega | assumption | (simp only [lens]; first | omega | assumption) | (simp [lens]; done) | (simp [lens]; omega)) ?_) | (refine st_part rfl 23 _ rfl hm rfl 1 rfl agg23 (by first | omega | assumption | (simp only [lens]; first | omega | assumption) | (simp [lens]; done) | (simp [lens]; omega)) ?_) | (refine st_part rfl 23 _ rfl hm rfl 2 rfl agg23 (by first | omega | assumption | (simp only [lens]; first | omega | assumption) | (simp [lens]; done) | (simp [lens]; omega)) ?_) | (refine st_part rfl 23 _ rfl hm rfl 3 rfl agg23 (by first | omega | assumption | (simp only [lens]; first | omega | assumption) | (simp [lens]; done) | (simp [lens]; omega)) ?_) | (refine st_part rfl 23 _ rfl hm rfl 4 rfl agg23 (by first | omega | assumption | (simp only [lens]; first | omega | assumption) | (simp [lens]; done) | (simp [lens]; omega)) ?_))) | ((with_reducible refine gt_index 23 ?_); refine st_index rfl 23 _ _ rfl rfl rfl arr23 (by first | omega | assumption | (simp only [lens]; first | omega | assumption) | (simp [lens]; done) | (simp [lens]; omega)) (by first | omega | assumption | (simp only [lens]; first | omega | assumption) | (simp [lens]; done) | (simp [lens]; omega)) (by first | omega | assumption | (simp only [lens]; first | omega | assumption) | (simp [lens]; done) | (simp [lens]; omega)) ?_) | ((with_reducible refine gt_field 71 0 ?_); refine st_field rfl 71 _ 0 rfl rfl field71_0 ?_) | ((with_reducible refine gt_elem 68 ?_); refine st_elem rfl 68 _ _ rfl rfl rfl arr68 (by first | omega | assumption | (simp only [lens]; first | omega | assumption) | (simp [lens]; done) | (simp [lens]; omega)) (by first | omega | assumption | (simp only [lens]; first | omega | assumption) | (simp [lens]; done) | (simp [lens]; omega)) ?_) | ((with_reducible refine gt_store 3 ?_); (first | (refine st_set rfl 3 _ _ rfl hm rfl rfl 0 rfl one3 (by first | omega | assumption | (simp only [lens]; first | omega | assumption) | (simp [lens]; done) | (simp [lens]; omega)) ?_) | (refine st_set rfl 3 _ _ rfl hm rfl rfl 1 rfl one3 (by first | omega | assumption | (simp only [lens]; first | omega | assumption) | (simp [lens]; done) | (simp [lens]; omega)) ?_) | (refine st_set rfl 3 _ _ rfl hm rfl rfl 2 rfl one3 (by first | omega | assumption | (simp only [lens]; first | omega | assumption) | (simp [lens]; done) | (simp [lens]; omega)) ?_) | (refine st_set rfl 3 _ _ rfl hm rfl rfl 3 rfl one3 (by first | omega | assumption | (simp only [lens]; first | omega | assumption) | (simp [lens]; done) | (simp [lens]; omega)) ?_) | (refine st_set rfl 3 _ _ rfl hm rfl rfl 4 rfl one3 (by first | omega | assumption | (simp only [lens]; first | omega | assumption) | (simp [lens]; done) | (simp [lens]; omega)) ?_)); clear hm; intro ws hm; simp only [List.set_cons_zero, List.set_cons_succ] at hm) | ((with_reducible refine gt_field 31 1 ?_); refine st_field rfl 31 _ 1 rfl rfl field31_1 ?_) | ((with_reducible refine gt_load 24 ?_); (first | (refine st_part rfl 24 _ rfl hm rfl 0 rfl agg24 (by first | omega | assumption | (simp only [lens]; first | omega | assumption) | (simp [lens]; done) | (simp [lens]; omega)) ?_) | (refine st_part rfl 24 _ rfl hm rfl 1 rfl agg24 (by first | omega | assumption | (simp only [lens]; first | omega | assumption) | (simp [lens]; done) | (simp [lens]; omega)) ?_) | (refine st_part rfl 24 _ rfl hm rfl 2 rfl agg24 (by first | omega | assumption | (simp only [lens]; first | omega | assumption) | (simp [lens]; done) | (simp [lens]; omega)) ?_) | (refine st_part rfl 24 _ rfl hm rfl 3 rfl agg24 (by first | omega | assumption | (simp only [lens]; first | omega | assumption) | (simp [lens]; done) | (simp [lens]; omega)) ?_) | (refine st_part rfl 24 _ rfl hm rfl 4 rfl agg24 (by first | omega | assumption | (simp only [lens]; first | omega | assumption) | (simp [lens]; done) | (simp [lens]; omega)) ?_))) | ((with_reducible refine gt_index 24 ?_); refine st_index rfl 24 _ _ rfl rfl rfl arr24 (by first | omega | assumption | (simp only [lens]; first | omega | assumption) | (simp [lens]; done) | (simp [lens]; omega)) (by first | omega | assumption | (simp only [lens]; first | omega | assumption) | (simp [lens]; done) | (simp [lens]; omega)) (by first | omega | assumption | (simp only [lens]; first | omega | assumption) | (simp [lens]; done) | (simp [lens]; omega)) ?_) | ((with_reducible refine gt_field 71 1 ?_); refine st_field rfl 71 _ 1 rfl rfl field71_1 ?_) | ((with_reducible refine gt_elem 69 ?_); refine st_elem rfl 69 _ _ rfl rfl rfl arr69 (by first | omega | assumption | (simp only [lens]; first | omega | assumption) | (simp [lens]; done) | (simp [lens]; omega)) (by first | omega | assumption | (simp only [lens]; first | omega | assumption) | (simp [lens]; done) | (simp [lens]; omega)) ?_) | ((with_reducible refine gt_load 71 ?_); (first | (refine st_load rfl 71 _ rfl hm rfl 0 rfl agg71 (by first | omega | assumption | (simp only [lens]; first | omega | assumption) | (simp [lens]; done) | (simp [lens]; omega)) ?_) | (refine st_load rfl 71 _ rfl hm rfl 1 rfl agg71 (by first | omega | assumption | (simp only [lens]; first | omega | assumption) | (simp [lens]; done) | (simp [lens]; omega)) ?_) | (refine st_load rfl 71 _ rfl hm rfl 2 rfl agg71 (by first | omega | assumption | (simp only [lens]; first | omega | assumption) | (simp [lens]; done) | (simp [lens]; omega)) ?_) | (refine st_load rfl 71 _ rfl hm rfl 3 rfl agg71 (by first | omega | assumption | (simp only [lens]; first | omega | assumption) | (simp [lens]; done) | (simp [lens]; omega)) ?_) | (refine st_load rfl 71 _ rfl hm rfl 4 rfl agg71 (by first | omega | assumption | (simp only [lens]; first | omega | assumption) | (simp [lens]; done) | (simp [lens]; omega)) ?_))))
     ((try simp only [Exit.inBlock, Exit.then]); (first | (refine ret_cell hm rfl rfl 1 rfl agg71 (by first | omega | assumption | (simp only [lens]; first | omega | assumption) | (simp [lens]; done) | (simp [lens]; omega)) rfl ?_) | (refine ret_cell_tmp hm rfl rfl 1 rfl agg71 (by first | omega | assumption | (simp only [lens]; first | omega | assumption) | (simp [lens]; done) | (simp [lens]; omega)) rfl ?_)))
     refine ⟨?_, hm.done rfl⟩
     rw [← HF.out, HI.out, HI2.out]
     rw [mix_all L hl]
theorem info111p : (Try.prog.info? 111).map (fun i => (i.zero, i.size, i.bytes)) = some (some (.pointer none), 1, 8) := by kernel_rfl
set_option maxHeartbeats 4000000 in
set_option maxRecDepth 100000 in
theorem all_calls (g : Nat) (w : World) : Calls Try.prog 72 #[.pointer (some ⟨g, 0, none⟩)] w fun e w' =>
  ∃ v, e = .returned v ∧ Kd.R (ptrk g) 111 w' w.heap.size (fun _ => True) v (List.range 44) ∧ Below w.heap.size w w' := by
 have HB := Aside0.mk (Below.refl w.heap.size w)
 go_enter Try.func72, Try.ntmps72
 go_wp2_with ((with_reducible refine gate_dst (N := 6) rfl ?_); refine Kd.R_lit (ptrk g) _ 111 ?hg (N := 6) ?hd (xs := ([] : List Nat)) (inner := []) (ok := fun _ => True) (okp := fun _ => True) ?hr ?hp (fun _ hk => hk) trivial (Below.refl _ _) (Nat.le_refl _) (by simp) ?_; (case hd => rfl); (case hg => rfl); (case hr => first | (go_simp; done) | (go_simp; rfl)); (case hp => exact (Reps.none _ _)); intro v6 w6 ho6 hb hg_ hnew_; clear hg_ hnew_; have HO := Aside0.mk ho6; have HB := Aside0.mk hb; clear ho6 hb)
 go_loopw [7, 3, 4] (fun v7 v3 v4 wr => ∃ i : Nat, i ≤ 40 ∧ v7 = .int .i64 i ∧ Aside0 (Kd.R (ptrk g) 111 wr w.heap.size (fun _ => True) v3 (List.range i)) ∧ Aside0 (Below w.heap.size w wr)) (fun v7 _ _ _ => 40 - (intOf v7).toNat)
 case atStart => exact ⟨0, by omega, rfl, HO, HB⟩
 case round =>
  obtain ⟨i, hi, rfl, HO, HB⟩ := hrel
  by_cases hlt : i < 40
  ·go_wp2_with (first | (first | fail | ((with_reducible refine gt_field 71 0 ?_); refine st_field rfl 71 _ 0 rfl rfl field71_0 ?_) | ((with_reducible refine gt_elem 68 ?_); refine st_elem rfl 68 _ _ rfl rfl rfl arr68 (by first | omega | assumption | (simp only [lens]; first | omega | assumption) | (simp [lens]; done) | (simp [lens]; omega)) (by first | omega | assumption | (simp only [lens]; first | omega | assumption) | (simp [lens]; done) | (simp [lens]; omega)) ?_) | ((with_reducible refine gt_field 71 1 ?_); refine st_field rfl 71 _ 1 rfl rfl field71_1 ?_) | ((with_reducible refine gt_elem 69 ?_); refine st_elem rfl 69 _ _ rfl rfl rfl arr69 (by first | omega | assumption | (simp only [lens]; first | omega | assumption) | (simp [lens]; done) | (simp [lens]; omega)) (by first | omega | assumption | (simp only [lens]; first | omega | assumption) | (simp [lens]; done) | (simp [lens]; omega)) ?_)) | ((with_reducible refine gate_builtin (b := .append) (xs := #[.tmp 10, .tmp 16]) rfl ?_); at_builtin; refine Kd.R_append (ptrk g) (w0 := w) w.heap.size rfl (.tmp 10) (.tmp 16) 109 111 (.pointer none) 8 rfl Try.underlying109 info111p rfl (Nat.lt_succ_self 0) (by omega) _ (List.range i) i [.pointer (some ⟨g, i, none⟩)] (fun _ => True) (fun _ => False) rfl rfl ?aP (fun _ hk => hk.elim) ?aF ?aO ?aB ?aS ?aL ?_; (case aP => exact rfl); (case aB => exact HB.out); (case aF => exact (fun _ _ => trivial)); (case aO => exact HO.out); (case aS => exact HB.out.size); (case aL => rw [List.length_range]; omega); intro v1 w1 ho hb hg hat; have HO := Aside0.mk ho; have HB := Aside0.mk hb; clear ho hb hg hat))
   go_roundw
   case rel => exact ⟨i + 1, by omega, by go_num, by rw [List.range_succ]; exact HO, HB⟩
   case measure => simp [intOf]; omega
  ·have HI := Aside0.mk (show i = 40 by omega)
   go_wp2_with fail
   go_loopw [19, 3, 5] (fun v19 v3 v5 wr => ∃ i : Nat, i ≤ 4 ∧ v19 = .int .i64 i ∧ Aside0 (Kd.R (ptrk g) 111 wr w.heap.size (fun _ => True) v3 (List.range (40 + i))) ∧ Aside0 (Below w.heap.size w wr)) (fun v19 _ _ _ => 4 - (intOf v19).toNat)
   case atStart => exact ⟨0, by omega, rfl, by rw [HI.out] at HO; exact HO, HB⟩
   case round =>
    obtain ⟨i2, hi2, rfl, HO, HB⟩ := hrel
    by_cases hlt : i2 < 4
    ·go_wp2_with (first | (first | fail | ((with_reducible refine gt_field 71 0 ?_); refine st_field rfl 71 _ 0 rfl rfl field71_0 ?_) | ((with_reducible refine gt_elem 68 ?_); refine st_elem rfl 68 _ _ rfl rfl rfl arr68 (by first | omega | assumption | (simp only [lens]; first | omega | assumption) | (simp [lens]; done) | (simp [lens]; omega)) (by first | omega | assumption | (simp only [lens]; first | omega | assumption) | (simp [lens]; done) | (simp [lens]; omega)) ?_) | ((with_reducible refine gt_field 71 1 ?_); refine st_field rfl 71 _ 1 rfl rfl field71_1 ?_) | ((with_reducible refine gt_elem 69 ?_); refine st_elem rfl 69 _ _ rfl rfl rfl arr69 (by first | omega | assumption | (simp only [lens]; first | omega | assumption) | (simp [lens]; done) | (simp [lens]; omega)) (by first | omega | assumption | (simp only [lens]; first | omega | assumption) | (simp [lens]; done) | (simp [lens]; omega)) ?_)) | ((with_reducible refine gate_builtin (b := .append) (xs := #[.tmp 22, .tmp 28]) rfl ?_); at_builtin; refine Kd.R_append (ptrk g) (w0 := w) w.heap.size rfl (.tmp 22) (.tmp 28) 109 111 (.pointer none) 8 rfl Try.underlying109 info111p rfl (Nat.lt_succ_self 0) (by omega) _ (List.range (40 + i2)) (40 + i2) [.pointer (some ⟨g, 40 + i2, none⟩)] (fun _ => True) (fun _ => False) rfl rfl ?aP (fun _ hk => hk.elim) ?aF ?aO ?aB ?aS ?aL ?_; (case aP => exact rfl); (case aB => exact HB.out); (case aF => exact (fun _ _ => trivial)); (case aO => exact HO.out); (case aS => exact HB.out.size); (case aL => rw [List.length_range]; omega); intro v1 w1 ho hb hg hat; have HO := Aside0.mk ho; have HB := Aside0.mk hb; clear ho hb hg hat))
     go_roundw
     case rel => exact ⟨i2 + 1, by omega, by go_num, by rw [show 40 + (i2 + 1) = 40 + i2 + 1 from rfl, List.range_succ]; exact HO, HB⟩
     case measure => simp [intOf]; omega
    ·have HI2 := Aside0.mk (show i2 = 4 by omega)
     go_wp2_with fail
     go_ret
     refine ⟨_, rfl, ?_, HB.out⟩
     have := HO.out
     rwa [HI2.out] at this
set_option maxHeartbeats 4000000 in
set_option maxRecDepth 100000 in
theorem valid1_calls (g i : Nat) (n : Int) (w : World) (hc : w.cell? ⟨g, i, none⟩ = some (.int .i64 n)) :
  Calls Try.prog 75 (#[.pointer (some ⟨g, i, none⟩)] ++ #[]) w fun e w' => e = .returned (.bool (!okx n)) ∧ Below w.heap.size w w' := by
 go_enter Try.func75, Try.ntmps75
 go_wp2_with (go_at_call 46; refine (within_calls _ _ _ _).mono ?_; rintro e wa ⟨rfl, hb⟩; have HB := Aside0.mk hb; clear hb)
 go_ret
 refine ⟨?_, HB.out⟩
 unfold okx
 congr 2
 by_cases h0 : 0 ≤ n <;> by_cases h1 : n ≤ 20 <;> simp [h0, h1]
theorem valid1_enters (a : Array Value) (W : World) : (callFunc 75 a).run Try.prog W = .ok (.enter 75 a) W := by kernel_rfl
theorem any_range (L : List Int) (hl : L.length = 44) : (List.range 44).any (fun i => !okx (rd L (i : Int))) = !okL L := by
 cases h : okL L with
 | true =>
  rw [List.any_eq_false.2]
  ·rfl
  ·intro i hi
   have := List.all_eq_true.1 h _ (rd_in L i (by rw [hl]; exact List.mem_range.1 hi))
   simp [this]
 | false =>
  obtain ⟨x, hx, hp⟩ := List.all_eq_false.1 h
  obtain ⟨j, hj, rfl⟩ := List.getElem_of_mem hx
  rw [List.any_eq_true.2]
  ·rfl
  ·exact ⟨j, List.mem_range.2 (by omega), by rw [rd_get L j hj]; simpa using hp⟩
set_option maxHeartbeats 4000000 in
set_option maxRecDepth 100000 in
theorem implValid_calls (L : List Int) (w : World) (hl : L.length = 44) (hw : Fits .i16 L) : Calls Try.prog 64 #[.agg (vals .i16 L)] w fun e w' => e = .returned (.bool (okL L)) ∧ Below w.heap.size w w' := by
 have hm := Mem.start w
 have HW := Aside0.mk hw
 have HA := Aside0.mk (any_range L hl)
 clear hw
 go_enter Try.func64, Try.ntmps64
 go_wp2_with (first
  | (first | fail | ((with_reducible refine gt_box 1 31 ?_); refine st_box rfl 1 rfl 31 _ rfl hm (v := .agg (vals _ _)) rfl (cs := vals _ _) rfl ?_; clear hm; intro g1 w1 hm) | ((with_reducible refine gt_load 31 ?_); (first | (refine st_load rfl 31 _ rfl hm rfl 0 rfl agg31 (by first | omega | assumption | (simp only [lens]; first | omega | assumption) | (simp [lens]; done) | (simp [lens]; omega)) ?_) | (refine st_load rfl 31 _ rfl hm rfl 1 rfl agg31 (by first | omega | assumption | (simp only [lens]; first | omega | assumption) | (simp [lens]; done) | (simp [lens]; omega)) ?_) | (refine st_load rfl 31 _ rfl hm rfl 2 rfl agg31 (by first | omega | assumption | (simp only [lens]; first | omega | assumption) | (simp [lens]; done) | (simp [lens]; omega)) ?_) | (refine st_load rfl 31 _ rfl hm rfl 3 rfl agg31 (by first | omega | assumption | (simp only [lens]; first | omega | assumption) | (simp [lens]; done) | (simp [lens]; omega)) ?_))) | ((with_reducible refine gt_alloc 3 71 ?_); refine st_alloc rfl 3 rfl 71 rfl hm zero71 ?_; clear hm; intro g3 w3 hm) | ((with_reducible refine gt_store 71 ?_); (first | (refine st_full rfl 71 _ _ rfl hm rfl rfl 0 rfl agg71 (by first | omega | assumption | (simp only [lens]; first | omega | assumption) | (simp [lens]; done) | (simp [lens]; omega)) (by first | omega | assumption | (simp only [lens]; first | omega | assumption) | (simp [lens]; done) | (simp [lens]; omega)) ?_) | (refine st_full rfl 71 _ _ rfl hm rfl rfl 1 rfl agg71 (by first | omega | assumption | (simp only [lens]; first | omega | assumption) | (simp [lens]; done) | (simp [lens]; omega)) (by first | omega | assumption | (simp only [lens]; first | omega | assumption) | (simp [lens]; done) | (simp [lens]; omega)) ?_) | (refine st_full rfl 71 _ _ rfl hm rfl rfl 2 rfl agg71 (by first | omega | assumption | (simp only [lens]; first | omega | assumption) | (simp [lens]; done) | (simp [lens]; omega)) (by first | omega | assumption | (simp only [lens]; first | omega | assumption) | (simp [lens]; done) | (simp [lens]; omega)) ?_) | (refine st_full rfl 71 _ _ rfl hm rfl rfl 3 rfl agg71 (by first | omega | assumption | (simp only [lens]; first | omega | assumption) | (simp [lens]; done) | (simp [lens]; omega)) (by first | omega | assumption | (simp only [lens]; first | omega | assumption) | (simp [lens]; done) | (simp [lens]; omega)) ?_)); clear hm; intro ws hm; simp only [List.set_cons_zero, List.set_cons_succ] at hm))
  | (go_at_call 36; refine (pieces_calls _ _ hl HW.out).mono ?_; rintro e wa ⟨rfl, hb⟩; replace hm := hm.after hb; clear hb)
  | (go_at_call 72; refine (all_calls _ _).mono ?_; rintro e wa ⟨v, rfl, hR, hb⟩; replace hm := hm.after hb; clear hb; obtain ⟨A, c, rfl, hc, hC⟩ := Kd.R_reads hR; have HC := Aside0.mk hC; have Hc := Aside0.mk hc; clear hC hc hR)
  | (go_at_call 74; refine (containsFunc_ptr 75 valid1_enters #[] _ (fun i => !okx (rd L (i : Int))) _ _ _ _ HC.out Hc.out (fun x hx W hB => valid1_calls _ _ _ _ (((hm.after hB).get (n := 0) rfl x (by rw [hl]; exact List.mem_range.1 hx))))).mono ?_; rintro e wa ⟨rfl, hb⟩; replace hm := hm.after hb; clear hb; rw [HA.out]))
 go_ret
 exact ⟨by simp, hm.done rfl⟩
end Go.Proofs.Ytfgogdhhihbcjaa.Arr
namespace Go.Proofs.Ytfgogdhhihbcjaa.Arr
open Go.RowKit Go.Proofs.YtfgogdhhihbcjaaW.PrintWords Go.Proofs.Ytfgogdhhihbcjaa.U
set_option linter.unusedVariables false
set_option linter.unusedSimpArgs false
theorem fold_put (off : Nat) : ∀ (vs : List Value) (n : Nat) (cells : Array Value), off + n + vs.length ≤ cells.size →
  (vs.zipIdx n).foldl (fun cs (p : Value × Nat) => cs.setIfInBounds (off + p.2) p.1) cells = (cells.toList.take (off + n) ++ vs ++ cells.toList.drop (off + n + vs.length)).toArray
 | [], n, cells, h => by simp
 | v :: vs, n, cells, h => by
  rw [List.zipIdx_cons, List.foldl_cons, fold_put off vs (n + 1) _ (by simp at h ⊢; omega)]
  apply Array.ext'
  apply List.ext_getElem?
  intro j
  simp only [Array.toList_setIfInBounds, List.getElem?_append, List.length_append, List.length_take, List.length_set, List.getElem?_take, List.getElem?_drop, List.getElem?_set, List.length_cons, Array.length_toList, List.getElem?_cons]
  simp only [List.length_cons] at h
  repeat' split
  all_goals first | rfl | omega | (congr 1; omega) | (exfalso; omega) | (symm; apply List.getElem?_eq_none; simp; omega)
theorem fill_one {k : IntKind} {L : List Int} {cells : Array Value} {off : Nat} {place : Nat → Option (Nat × Nat)} {i : Nat} {rest : List (Nat × Value)} {m : Nat} (hp : place i = some (off, m)) (hl : L.length = m) (hc : off + m ≤ cells.size) :
  Instr.fill place cells ((i, .agg (vals k L)) :: rest) = Instr.fill place (cells.toList.take off ++ L.map (Value.int k) ++ cells.toList.drop (off + m)).toArray rest := by
 rw [Instr.fill, hp]
 have hs : (Value.agg (vals k L)).cells.size = m := by show (vals k L).size = m; rw [vals_size, hl]
 simp only [hs]
 rw [if_neg (by simp; omega)]
 congr 1
 have h := fold_put off (L.map (Value.int k)) 0 cells (by simp [hl]; omega)
 simp only [Nat.add_zero, List.length_map, hl] at h
 rw [← h]
 show Array.foldl _ cells (Array.zipIdx (vals k L)) = _
 rw [← Array.foldl_toList, Array.toList_zipIdx]
 rfl
section
variable {P : Program} {ops : Array Oper} {rest : List Oper} {o : Oper} {a : Act} {w0 w : World} {M : List Ent} {Q : Exit → Act → World → Prop}
theorem st_lit1 (hgd : o.guard = none) (d : Nat) (hdst : o.dst = some d) (t : TypeId) (x : Operand) (ho : o.op = .buildSlice t 1 #[(0, x)]) (hm : Mem w0 w M) {k : IntKind} {L : List Int} {m : Nat} {e : TypeId} (hx : a.eval x = .agg (vals k L)) (hu : P.underlying t = some (.slice e))
  (he : AggTy P e m) {zc : Array Value} (hz : ZeroTy P e zc) (hl : L.length = m) (hm0 : 0 < m) (hm1 : m ≤ 1000)
  (h : ∀ g w1, Mem w0 w1 (⟨g, vals k L, e, true⟩ :: M) → wpList P ops Q rest (a.put (some d) (.slice (some ⟨g, 0, none⟩) 1 1)) w1) : wpList P ops Q (o :: rest) a w := by
 obtain ⟨z, hz, rfl⟩ := hz
 obtain ⟨_, hi⟩ := he
 refine wpList_plain hgd fun K hK => ?_
 rw [← hdst] at h
 unfold Oper.wp execOp
 cases hq : P.info? e with
 | none => simp [hq] at hi
 | some i =>
  have hs : i.size = m := by simpa [hq] using hi
  have hz' : i.zero = some z := by simpa [hq] using hz
  have hf := fill_one (k := k) (L := L) (cells := (Array.range (1 * m)).map (z.cells[· % z.cells.size]!)) (off := 0) (place := fun i => some (i * m, m)) (i := 0) (rest := []) (m := m) (by simp) hl (by simp)
  have hc : ((List.take 0 ((Array.range (1 * m)).map (z.cells[· % z.cells.size]!)).toList ++ L.map (Value.int k) ++ List.drop (0 + m) ((Array.range (1 * m)).map (z.cells[· % z.cells.size]!)).toList).toArray) = vals k L := by
   rw [List.drop_of_length_le (by simp)]
   simp [vals]
  rw [hc] at hf
  have hrun : (Instr.buildSlice t 1 #[(0, .agg (vals k L))]).run P w = .ok (.slice (some ⟨w.heap.size, 0, none⟩) 1 1) (w.alloc (.cells (vals k L) e)) := by
   simp only [Instr.buildSlice, Sem.run_bind, run_underlying hu w, Result.andThen_ok, sizeOf, typeInfo, run_program, hq, Sem.run_pure, hs, zeroValue, hz']
   rw [if_neg (by omega), if_neg (by omega)]
   simp only [Sem.run_bind, Sem.run_pure, Result.andThen_ok, hq, hz', hf, run_program]
   simp [Instr.fill, newRow, Sem.run_bind]
  simp only [ho, List.map_toArray, List.map_cons, List.map_nil, hx, Sem.run_bind, hrun, Sem.run_pure, Result.andThen_ok]
  exact hK _ _ (h _ _ (hm.new _ _))
theorem st_selem (hgd : o.guard = none) (ty : TypeId) (x y : Operand) (ho : o.op = .indexAddr ty x y) {g n c : Nat} {ki : IntKind} {i m : Nat} {e : TypeId} (hx : a.eval x = .slice (some ⟨g, 0, none⟩) n c) (hy : a.eval y = .int ki (i : Int))
  (hu : P.underlying ty = some (.slice e)) (he : (P.info? e).map (·.size) = some m) (h1 : i < n)
  (h : wpList P ops Q rest (a.put o.dst (.pointer (some ⟨g, i * m, none⟩))) w) : wpList P ops Q (o :: rest) a w := by
 refine wpList_plain hgd fun K hK => ?_
 unfold Oper.wp execOp
 have hsz : (sizeOf e).run P w = .ok m w := by
  cases hq : P.info? e with
  | none => simp [hq] at he
  | some i => simp [sizeOf, typeInfo, hq, Sem.run_bind]; simpa [hq] using he
 have hadd : (⟨g, 0, none⟩ : Addr).add (i * m) = ⟨g, i * m, none⟩ := by unfold Addr.add; split <;> simp_all
 simp [ho, hx, hy, Instr.indexAt, asIntOf, Sem.run_bind, run_underlying hu w, hsz, h1, hadd]
 exact hK _ _ h
theorem st_loadc (hgd : o.guard = none) (ty : TypeId) (x : Operand) (ho : o.op = .load ty x) {g i m : Nat} {k : IntKind} (hx : a.eval x = .pointer (some ⟨g, i, none⟩)) {L : List Int} (hl : L.length = m)
  (hc : ∀ j, j < m → w.cell? ⟨g, i + j, none⟩ = some (.int k (rd L (j : Int)))) (hi2 : AggTy P ty m)
  (h : wpList P ops Q rest (a.put o.dst (.agg (vals k L))) w) : wpList P ops Q (o :: rest) a w := by
 obtain ⟨hd, hi⟩ := hi2
 refine wpList_plain hgd fun K hK => ?_
 unfold Oper.wp execOp
 have hagg : (isAgg ty).run P w = .ok true w := by
  unfold isAgg
  cases hu : P.underlying ty with
  | none => simp [hu] at hd
  | some d =>
   rw [Sem.run_bind, run_underlying hu w]
   cases d <;> simp_all
 have hsz : (sizeOf ty).run P w = .ok m w := by
  cases hq : P.info? ty with
  | none => simp [hq] at hi
  | some i => simp [sizeOf, typeInfo, hq, Sem.run_bind]; simpa [hq] using hi
 have hl2 : (loadCells ⟨g, i, none⟩ (vals k L).toList.length).run P w = .ok (vals k L).toList.toArray w :=
  run_loadCells_list (P := P) w ⟨g, i, none⟩ _ (fun j v hv => by
   have hjm : j < m := by
    have := (List.getElem?_eq_some_iff.1 hv).1
    simp [vals] at this; omega
   have hadd : (⟨g, i, none⟩ : Addr).add j = ⟨g, i + j, none⟩ := by unfold Addr.add; split <;> simp_all
   rw [hadd, hc j hjm]
   rw [Array.getElem?_toList, vals_get (by omega)] at hv
   exact hv)
 have hlen : (vals k L).toList.length = m := by simp [vals]; omega
 rw [hlen, Array.toArray_toList] at hl2
 simp only [ho, hx, Instr.loadAt, Instr.sureAddr, Sem.run_bind, Sem.run_pure, Result.andThen_ok, loadVar, hagg, hsz, hl2, if_true]
 exact hK _ _ h
end
end Go.Proofs.Ytfgogdhhihbcjaa.Arr
namespace Go.Proofs.Ytfgogdhhihbcjaa.Arr
open Go.RowKit Go.Proofs.YtfgogdhhihbcjaaW.PrintWords Go.Proofs.YtfgogdhhihbcjaaW.PrintLast Go.Proofs.YtfgogdhhihbcjaaW.PrintMore Go.Proofs.Ytfgogdhhihbcjaa.U Go.Proofs.Ytfgogdhhihbcjaa.H
set_option linter.unusedVariables false
set_option linter.unusedSimpArgs false
def Lks (w : World) (g : Nat) (l : List (List Int)) : Prop := ∀ (i : Nat) (L : List Int), l[i]? = some L → L.length = 44 ∧ Fits .i16 L ∧ ∀ j, j < 44 → w.cell? ⟨g, i * 44 + j, none⟩ = some (.int .i16 (rd L (j : Int)))
theorem Lks.below {w w' : World} {g : Nat} {l : List (List Int)} (h : Lks w g l) (hb : Below w.heap.size w w') : Lks w' g l := fun i L hi => by
 obtain ⟨h1, h2, h3⟩ := h i L hi
 exact ⟨h1, h2, fun j hj => (hb.cell (World.block_lt_of_cell? w _ (h3 j hj))).trans (h3 j hj)⟩
set_option maxHeartbeats 4000000 in
set_option maxRecDepth 100000 in
theorem indexFunc_lk (f : FuncId) (hg : ∀ (a : Array Value) (W : World), (callFunc f a).run Try.prog W = .ok (.enter f a) W) (cap : Array Value) (g : Nat) (p : List Int → Bool) (l0 : List (List Int)) (w : World) (hr0 : Lks w g l0) (hmx : l0.length ≤ 1000)
  (hf : ∀ x ∈ l0, ∀ W, Below w.heap.size w W → Calls Try.prog f (#[.agg (vals .i16 x)] ++ cap) W fun e W' => e = .returned (.bool (p x)) ∧ Below W.heap.size W W') :
  Calls Try.prog 73 #[.slice (some ⟨g, 0, none⟩) l0.length l0.length, .func (.func f) #[] cap] w fun e w' => e = .returned (.int .i64 (ixa p l0)) ∧ Below w.heap.size w w' := by
 have HF := Aside0.mk hf
 have HR0 := Aside0.mk hr0
 clear hf hr0
 go_enter Try.func73, Try.ntmps73
 go_wp2_with fail
 go_loopw [8, 5] (fun v8 v5 wr => ∃ i : Nat, i ≤ l0.length ∧ v8 = .int .i64 i ∧ Aside0 (Below w.heap.size w wr) ∧ Aside0 (∀ j, j < i → ∀ y, l0[j]? = some y → p y = false)) (fun v8 _ _ => l0.length - (intOf v8).toNat)
 case atStart => exact ⟨0, Nat.zero_le _, rfl, ⟨Below.refl _ _⟩, ⟨fun j hj => absurd hj (by omega)⟩⟩
 case round =>
  obtain ⟨i, hi, rfl, HB, HP⟩ := hrel
  by_cases hlt : i < l0.length
  ·obtain ⟨x, hx⟩ : ∃ x, l0[i]? = some x := ⟨_, List.getElem?_eq_getElem hlt⟩
   obtain ⟨hl44, _, hcl⟩ := (HR0.out.below HB.out) i x hx
   have HM := Aside0.mk (HF.out x (List.mem_of_getElem? hx) _ HB.out)
   have HX := Aside0.mk hx
   have HCL := Aside0.mk hcl
   clear hx hcl
   cases hp : p x with
   | true =>
    have HPX := Aside0.mk hp
    rw [hp] at HM
    clear hp
    go_wp2_with (first
     | ((with_reducible refine gt_elem 100 ?_); refine st_selem rfl _ _ _ rfl rfl rfl Try.underlying100 agg31.2 hlt ?_)
     | ((with_reducible refine gt_load 31 ?_); refine st_loadc rfl _ _ rfl rfl hl44 HCL.out agg31 ?_)
     | (refine HM.out.mono ?_; rintro e w1 ⟨rfl, hb1⟩; have HB1 := Aside0.mk hb1; clear hb1))
    go_ret
    exact ⟨by rw [ixa_found p l0 i x HX.out HP.out HPX.out]; rfl, below_then HB.out HB1.out⟩
   | false =>
    have HPX := Aside0.mk hp
    rw [hp] at HM
    clear hp
    go_wp2_with (first
     | ((with_reducible refine gt_elem 100 ?_); refine st_selem rfl _ _ _ rfl rfl rfl Try.underlying100 agg31.2 hlt ?_)
     | ((with_reducible refine gt_load 31 ?_); refine st_loadc rfl _ _ rfl rfl hl44 HCL.out agg31 ?_)
     | (refine HM.out.mono ?_; rintro e w1 ⟨rfl, hb1⟩; have HB1 := Aside0.mk hb1; clear hb1))
    go_roundw
    case rel => exact ⟨i + 1, by omega, by go_num, ⟨below_then HB.out HB1.out⟩, ⟨fun j hj y hy => by
     rcases Nat.lt_or_ge j i with h | h
     ·exact HP.out j h y hy
     ·obtain rfl : j = i := by omega
      rw [HX.out] at hy
      rw [← Option.some.inj hy]; exact HPX.out⟩⟩
    case measure => simp [intOf]; omega
  ·have HI := Aside0.mk (show i = l0.length by omega)
   go_wp2_with fail
   go_ret
   exact ⟨by rw [ixa_none p l0 (fun j hj => HP.out j (by rw [HI.out]; exact hj))]; rfl, HB.out⟩
set_option maxHeartbeats 4000000 in
set_option maxRecDepth 100000 in
theorem containsFunc_lk (f : FuncId) (hg : ∀ (a : Array Value) (W : World), (callFunc f a).run Try.prog W = .ok (.enter f a) W) (cap : Array Value) (g : Nat) (p : List Int → Bool) (l0 : List (List Int)) (w : World) (hr0 : Lks w g l0) (hmx : l0.length ≤ 1000)
  (hf : ∀ x ∈ l0, ∀ W, Below w.heap.size w W → Calls Try.prog f (#[.agg (vals .i16 x)] ++ cap) W fun e W' => e = .returned (.bool (p x)) ∧ Below W.heap.size W W') :
  Calls Try.prog 62 #[.slice (some ⟨g, 0, none⟩) l0.length l0.length, .func (.func f) #[] cap] w fun e w' => e = .returned (.bool (l0.any p)) ∧ Below w.heap.size w w' := by
 have HM := Aside0.mk (indexFunc_lk f hg cap g p l0 w hr0 hmx hf)
 have HA := Aside0.mk (ixa_any p l0)
 clear hf hr0 hg
 generalize ixa p l0 = n at *
 generalize l0.any p = b at *
 go_enter Try.func62, Try.ntmps62
 go_wp2_with (go_at_call 73; refine HM.out.mono ?_; rintro e w1 ⟨rfl, hb1⟩; have HB1 := Aside0.mk hb1; clear hb1)
 go_ret
 exact ⟨by rw [← HA.out]; rfl, HB1.out⟩
set_option maxHeartbeats 4000000 in
set_option maxRecDepth 100000 in
theorem lockerCode1_calls (L : List Int) (w : World) (hl : L.length = 44) (hw : Fits .i16 L) : Calls Try.prog 63 (#[.agg (vals .i16 L)] ++ #[]) w fun e w' => e = .returned (.bool (!okL L)) ∧ Below w.heap.size w w' := by
 have hm := Mem.start w
 have HW := Aside0.mk hw
 clear hw
 go_enter Try.func63, Try.ntmps63
 go_wp2_with (first
  | (first | fail | ((with_reducible refine gt_box 1 31 ?_); refine st_box rfl 1 rfl 31 _ rfl hm (v := .agg (vals _ _)) rfl (cs := vals _ _) rfl ?_; clear hm; intro g1 w1 hm) | ((with_reducible refine gt_load 31 ?_); (first | (refine st_load rfl 31 _ rfl hm rfl 0 rfl agg31 (by first | omega | assumption | (simp only [lens]; first | omega | assumption) | (simp [lens]; done) | (simp [lens]; omega)) ?_) | (refine st_load rfl 31 _ rfl hm rfl 1 rfl agg31 (by first | omega | assumption | (simp only [lens]; first | omega | assumption) | (simp [lens]; done) | (simp [lens]; omega)) ?_) | (refine st_load rfl 31 _ rfl hm rfl 2 rfl agg31 (by first | omega | assumption | (simp only [lens]; first | omega | assumption) | (simp [lens]; done) | (simp [lens]; omega)) ?_))))
  | (go_at_call 64; refine (implValid_calls _ _ hl HW.out).mono ?_; rintro e wa ⟨rfl, hb⟩; replace hm := hm.after hb; clear hb))
 go_ret
 exact ⟨rfl, hm.done rfl⟩
theorem lockerCode1_enters (a : Array Value) (W : World) : (callFunc 63 a).run Try.prog W = .ok (.enter 63 a) W := by kernel_rfl
set_option maxHeartbeats 4000000 in
set_option maxRecDepth 100000 in
theorem lockerCode_calls (g : Nat) (l : List (List Int)) (w : World) (h : Lks w g l) (hmx : l.length ≤ 1000) : Calls Try.prog 50 #[.slice (some ⟨g, 0, none⟩) l.length l.length] w fun e w' =>
  e = .returned (.int .i64 (if l.all okL = true then 0 else 1)) ∧ Below w.heap.size w w' := by
 have HM := Aside0.mk (containsFunc_lk 63 lockerCode1_enters #[] g (fun L => !okL L) l w h hmx (fun x hx W _ => by
  obtain ⟨i, hi, rfl⟩ := List.getElem_of_mem hx
  obtain ⟨h1, h2, _⟩ := h i _ (List.getElem?_eq_getElem hi)
  exact lockerCode1_calls _ W h1 h2))
 have HA := Aside0.mk (show (!l.any fun L => !okL L) = l.all okL by simp [List.all_eq_not_any_not])
 clear h
 rw [← HA.out]
 clear HA
 generalize (l.any fun L => !okL L) = c at *
 cases c
 all_goals
  go_enter Try.func50, Try.ntmps50
  go_wp2_with (first
   | (go_at_call 62; refine HM.out.mono ?_; rintro e wa ⟨rfl, hb⟩; have HB := Aside0.mk hb; clear hb)
   | (go_at_call 45; refine (impl_unless.calls _ _ _ _ rfl).mono ?_; rintro e wa ⟨rfl, hb2⟩; have HB2 := Aside0.mk hb2.below; clear hb2))
  go_ret
  exact ⟨rfl, below_then HB.out HB2.out⟩
theorem lks1 {w0 w : World} {M : List Ent} {n g : Nat} {L : List Int} {t : TypeId} {o : Bool} (hm : Mem w0 w M) (hn : M[n]? = some ⟨g, vals .i16 L, t, o⟩) (hl : L.length = 44) (hw : Fits .i16 L) : Lks w g [L] := fun i L' hi => by
 rcases i with _ | i
 ·rw [List.getElem?_cons_zero] at hi
  cases hi
  exact ⟨hl, hw, fun j hj => by rw [Nat.zero_mul, Nat.zero_add]; exact hm.get hn j (by omega)⟩
 ·simp at hi
theorem okL_in {L : List Int} (h : okL L = true) : ∀ x ∈ L, 0 ≤ x ∧ x ≤ 20 := fun x hx => by
 have := List.all_eq_true.1 h x hx
 simpa [okx] using this
end Go.Proofs.Ytfgogdhhihbcjaa.Arr
namespace Go.Proofs.Ytfgogdhhihbcjaa.Arr
open Go.RowKit Go.Proofs.YtfgogdhhihbcjaaW.PrintWords Go.Proofs.YtfgogdhhihbcjaaW.PrintLast Go.Proofs.YtfgogdhhihbcjaaW.PrintMore Go.Proofs.Ytfgogdhhihbcjaa.U Go.Proofs.Ytfgogdhhihbcjaa.H
set_option linter.unusedVariables false
set_option linter.unusedSimpArgs false
theorem Mem.add {w0 w : World} {M : List Ent} {g : Nat} {cs : Array Value} {t : TypeId} (h : Mem w0 w M) (hg : w.heap[g]? = some (.cells cs t (0, 0))) (hb : w0.heap.size ≤ g) (hne : ∀ e ∈ M, e.g ≠ g) : Mem w0 w (⟨g, cs, t, true⟩ :: M) := by
 refine ⟨h.os, h.tape, h.output, h.size, fun k hk hn => h.block k hk fun e he => hn e (List.mem_cons_of_mem _ he), fun e he => ?_, fun m n e f hm hn hef => ?_⟩
 ·rcases List.mem_cons.1 he with rfl | he
  ·exact ⟨hg, fun _ => hb⟩
  ·exact h.ent e he
 ·rcases m with _ | m <;> rcases n with _ | n
  ·rfl
  ·simp only [List.getElem?_cons_zero, Option.some.injEq, List.getElem?_cons_succ] at hm hn
   subst hm
   exact absurd hef.symm (hne f (List.mem_of_getElem? hn))
  ·simp only [List.getElem?_cons_zero, Option.some.injEq, List.getElem?_cons_succ] at hm hn
   subst hn
   exact absurd hef (hne e (List.mem_of_getElem? hm))
  ·simp only [List.getElem?_cons_succ] at hm hn
   rw [h.apart m n e f hm hn hef]
theorem Mem.lt {w0 w : World} {M : List Ent} (h : Mem w0 w M) : ∀ e ∈ M, e.g < w.heap.size := fun e he => lt_of_some (h.ent e he).1
theorem all_row (g : Nat) (w : World) : Calls Try.prog 72 #[.pointer (some ⟨g, 0, none⟩)] w fun e w' =>
  ∃ b cur c, e = .returned (.slice (some ⟨b, 0, none⟩) 44 c) ∧ w.heap.size ≤ b ∧ w'.heap[b]? = some (.cells cur 111 (0, 0)) ∧ (∀ j, j < 44 → cur[j]? = some (.pointer (some ⟨g, j, none⟩))) ∧ Below w.heap.size w w' := by
 refine (all_calls g w).mono ?_
 rintro e w' ⟨v, rfl, ⟨_, inner, ⟨hlen, ho⟩, hr⟩, hb⟩
 have hin : inner = encs (fun i : Nat => Value.pointer (some ⟨g, i, none⟩)) (List.range 44) := Kd.reps_encs hr
 rcases ho with ⟨_, h0⟩ | ⟨b, cap, cur, rfl, hbb, hheap, _, _, _, htake⟩
 ·rw [List.length_range] at h0; omega
 ·refine ⟨b, cur, cap, by rw [List.length_range], hbb, hheap, fun j hj => ?_, hb⟩
  rw [hin] at htake
  have h1 := congrArg (fun l => l[j]?) htake
  simp only [List.getElem?_take, List.length_range, encs] at h1
  rw [if_pos (by show j < 44 * 1; omega), Array.getElem?_toList] at h1
  rw [h1]
  simp [List.getElem?_range hj]
theorem zip_length (op : Int → Int → Int) (L L' : List Int) (hl : L.length = 44) (hl' : L'.length = 44) : (List.zipWith op L L').length = 44 := by simp [hl, hl']
theorem rd_zip (op : Int → Int → Int) (L L' : List Int) (i : Nat) (h : i < L.length) (h' : i < L'.length) : rd (List.zipWith op L L') (i : Int) = op (rd L (i : Int)) (rd L' (i : Int)) := by
 rw [rd_get L i h, rd_get L' i h', rd_get _ i (by simp; omega)]
 simp
theorem rd_mix (L S : List Int) (i : Nat) (h : i < L.length) (hs : i ≤ S.length) : rd (mixTo L S 0 i) (i : Int) = rd L (i : Int) := by
 have hl := mixTo_length L S 0 i (by omega) hs
 rw [rd_get L i h, rd_get _ i (by omega)]
 unfold mixTo
 simp only [Nat.zero_add, List.take_zero, List.nil_append]
 rw [List.getElem_append_right (by simp; omega)]
 simp [Nat.min_eq_left hs]
set_option maxHeartbeats 4000000 in
set_option maxRecDepth 100000 in
theorem with_calls (f : FuncId) (op : Int → Int → Int) (hf : ∀ (a b : Int) (W : World), Calls Try.prog f #[.int .i64 a, .int .i64 b] W fun e W' => e = .returned (.int .i64 (op a b)) ∧ W' = W) (L L' : List Int) (w : World) (hl : L.length = 44) (hl' : L'.length = 44)
  (hg : ∀ (a : Array Value) (W : World), (callFunc f a).run Try.prog W = .ok (.enter f a) W) :
  Calls Try.prog 56 #[.agg (vals .i64 L), .agg (vals .i64 L'), .func (.func f) #[] #[]] w fun e w' => e = .returned (.agg (vals .i64 (List.zipWith op L L'))) ∧ Below w.heap.size w w' := by
 have hm := Mem.start w
 have HF := Aside0.mk hf
 clear hf
 go_enter Try.func56, Try.ntmps56
 go_wp2_with (first
  | (first | fail | ((with_reducible refine gt_box 3 71 ?_); refine st_box rfl 3 rfl 71 _ rfl hm (v := .agg (vals _ _)) rfl (cs := vals _ _) rfl ?_; clear hm; intro g3 w3 hm) | ((with_reducible refine gt_box 4 71 ?_); refine st_box rfl 4 rfl 71 _ rfl hm (v := .agg (vals _ _)) rfl (cs := vals _ _) rfl ?_; clear hm; intro g4 w4 hm) | ((with_reducible refine gt_alloc 6 71 ?_); refine st_alloc rfl 6 rfl 71 rfl hm zero71 ?_; clear hm; intro g6 w6 hm) | ((with_reducible refine gt_load 3 ?_); (first | (refine st_get rfl 3 _ rfl hm rfl 0 rfl one3 (by first | omega | assumption | (simp only [lens]; first | omega | assumption) | (simp [lens]; done) | (simp [lens]; omega)) ?_) | (refine st_get rfl 3 _ rfl hm rfl 1 rfl one3 (by first | omega | assumption | (simp only [lens]; first | omega | assumption) | (simp [lens]; done) | (simp [lens]; omega)) ?_) | (refine st_get rfl 3 _ rfl hm rfl 2 rfl one3 (by first | omega | assumption | (simp only [lens]; first | omega | assumption) | (simp [lens]; done) | (simp [lens]; omega)) ?_) | (refine st_get rfl 3 _ rfl hm rfl 3 rfl one3 (by first | omega | assumption | (simp only [lens]; first | omega | assumption) | (simp [lens]; done) | (simp [lens]; omega)) ?_) | (refine st_get rfl 3 _ rfl hm rfl 4 rfl one3 (by first | omega | assumption | (simp only [lens]; first | omega | assumption) | (simp [lens]; done) | (simp [lens]; omega)) ?_))) | ((with_reducible refine gt_store 3 ?_); (first | (refine st_set rfl 3 _ _ rfl hm rfl rfl 0 rfl one3 (by first | omega | assumption | (simp only [lens]; first | omega | assumption) | (simp [lens]; done) | (simp [lens]; omega)) ?_) | (refine st_set rfl 3 _ _ rfl hm rfl rfl 1 rfl one3 (by first | omega | assumption | (simp only [lens]; first | omega | assumption) | (simp [lens]; done) | (simp [lens]; omega)) ?_) | (refine st_set rfl 3 _ _ rfl hm rfl rfl 2 rfl one3 (by first | omega | assumption | (simp only [lens]; first | omega | assumption) | (simp [lens]; done) | (simp [lens]; omega)) ?_) | (refine st_set rfl 3 _ _ rfl hm rfl rfl 3 rfl one3 (by first | omega | assumption | (simp only [lens]; first | omega | assumption) | (simp [lens]; done) | (simp [lens]; omega)) ?_) | (refine st_set rfl 3 _ _ rfl hm rfl rfl 4 rfl one3 (by first | omega | assumption | (simp only [lens]; first | omega | assumption) | (simp [lens]; done) | (simp [lens]; omega)) ?_)); clear hm; intro ws hm; simp only [List.set_cons_zero, List.set_cons_succ] at hm) | ((with_reducible refine gt_load 71 ?_); (first | (refine st_load rfl 71 _ rfl hm rfl 0 rfl agg71 (by first | omega | assumption | (simp only [lens]; first | omega | assumption) | (simp [lens]; done) | (simp [lens]; omega)) ?_) | (refine st_load rfl 71 _ rfl hm rfl 1 rfl agg71 (by first | omega | assumption | (simp only [lens]; first | omega | assumption) | (simp [lens]; done) | (simp [lens]; omega)) ?_) | (refine st_load rfl 71 _ rfl hm rfl 2 rfl agg71 (by first | omega | assumption | (simp only [lens]; first | omega | assumption) | (simp [lens]; done) | (simp [lens]; omega)) ?_) | (refine st_load rfl 71 _ rfl hm rfl 3 rfl agg71 (by first | omega | assumption | (simp only [lens]; first | omega | assumption) | (simp [lens]; done) | (simp [lens]; omega)) ?_) | (refine st_load rfl 71 _ rfl hm rfl 4 rfl agg71 (by first | omega | assumption | (simp only [lens]; first | omega | assumption) | (simp [lens]; done) | (simp [lens]; omega)) ?_))) | ((with_reducible refine gt_store 71 ?_); (first | (refine st_full rfl 71 _ _ rfl hm rfl rfl 0 rfl agg71 (by first | omega | assumption | (simp only [lens]; first | omega | assumption) | (simp [lens]; done) | (simp [lens]; omega)) (by first | omega | assumption | (simp only [lens]; first | omega | assumption) | (simp [lens]; done) | (simp [lens]; omega)) ?_) | (refine st_full rfl 71 _ _ rfl hm rfl rfl 1 rfl agg71 (by first | omega | assumption | (simp only [lens]; first | omega | assumption) | (simp [lens]; done) | (simp [lens]; omega)) (by first | omega | assumption | (simp only [lens]; first | omega | assumption) | (simp [lens]; done) | (simp [lens]; omega)) ?_) | (refine st_full rfl 71 _ _ rfl hm rfl rfl 2 rfl agg71 (by first | omega | assumption | (simp only [lens]; first | omega | assumption) | (simp [lens]; done) | (simp [lens]; omega)) (by first | omega | assumption | (simp only [lens]; first | omega | assumption) | (simp [lens]; done) | (simp [lens]; omega)) ?_) | (refine st_full rfl 71 _ _ rfl hm rfl rfl 3 rfl agg71 (by first | omega | assumption | (simp only [lens]; first | omega | assumption) | (simp [lens]; done) | (simp [lens]; omega)) (by first | omega | assumption | (simp only [lens]; first | omega | assumption) | (simp [lens]; done) | (simp [lens]; omega)) ?_) | (refine st_full rfl 71 _ _ rfl hm rfl rfl 4 rfl agg71 (by first | omega | assumption | (simp only [lens]; first | omega | assumption) | (simp [lens]; done) | (simp [lens]; omega)) (by first | omega | assumption | (simp only [lens]; first | omega | assumption) | (simp [lens]; done) | (simp [lens]; omega)) ?_)); clear hm; intro ws hm; simp only [List.set_cons_zero, List.set_cons_succ] at hm))
  | (go_at_call 72; with_reducible refine (all_row g4 _).mono ?_; rintro e wa ⟨b4, cur4, c4, rfl, hb1, hb2, hb3, hb⟩; have hlt := hm.lt; replace hm := (hm.after hb).add hb2 (Nat.le_trans hm.size hb1) (fun e he => by have := hlt e he; omega); have HC4 := Aside0.mk hb3; clear hb hb1 hb2 hb3 hlt)
  | (go_at_call 72; with_reducible refine (all_row g3 _).mono ?_; rintro e wa ⟨b3, cur3, c3, rfl, hb1, hb2, hb3, hb⟩; have hlt := hm.lt; replace hm := (hm.after hb).add hb2 (Nat.le_trans hm.size hb1) (fun e he => by have := hlt e he; omega); have HC3 := Aside0.mk hb3; clear hb hb1 hb2 hb3 hlt))
 go_loopw [13, 8, 9] (fun v13 v8 v9 wr => ∃ i : Nat, i ≤ 44 ∧ v13 = .int .i64 i ∧ Mem w wr [⟨b3, cur3, 111, true⟩, ⟨b4, cur4, 111, true⟩, ⟨g6, vals .i64 (zs 44), 71, true⟩, ⟨g4, vals .i64 L', 71, true⟩, ⟨g3, vals .i64 (mixTo L (List.zipWith op L L') 0 i), 71, true⟩]) (fun v13 _ _ _ => 44 - (intOf v13).toNat)
 case atStart => exact ⟨0, by omega, rfl, by rw [mixTo_zero]; exact hm⟩
 case round =>
  obtain ⟨i, hi, rfl, hm⟩ := hrel
  have hz := zip_length op L L' hl hl'
  have hl2 := (mixTo_length L (List.zipWith op L L') 0 i (by omega) (by omega)).trans hl
  by_cases hlt : i < 44
  ·have hp3 := (hm.cell (n := 0) rfl i).trans (HC3.out i hlt)
   have hp4 := (hm.cell (n := 1) rfl i).trans (HC4.out i hlt)
   have hv4 := hm.get (n := 3) rfl i (by omega)
   have hv3 := hm.get (n := 4) rfl i (by omega)
   rw [rd_mix L _ i (by omega) (by omega)] at hv3
   have HZ := Aside0.mk (rd_zip op L L' i (by omega) (by omega))
   generalize rd L (i : Int) = x at *
   generalize rd L' (i : Int) = y at *
   go_wp2_with (first | fail | ((with_reducible refine gt_box 3 71 ?_); refine st_box rfl 3 rfl 71 _ rfl hm (v := .agg (vals _ _)) rfl (cs := vals _ _) rfl ?_; clear hm; intro g3 w3 hm) | ((with_reducible refine gt_box 4 71 ?_); refine st_box rfl 4 rfl 71 _ rfl hm (v := .agg (vals _ _)) rfl (cs := vals _ _) rfl ?_; clear hm; intro g4 w4 hm) | ((with_reducible refine gt_alloc 6 71 ?_); refine st_alloc rfl 6 rfl 71 rfl hm zero71 ?_; clear hm; intro g6 w6 hm) | ((with_reducible refine gt_load 3 ?_); (first | (refine st_get rfl 3 _ rfl hm rfl 0 rfl one3 (by first | omega | assumption | (simp only [lens]; first | omega | assumption) | (simp [lens]; done) | (simp [lens]; omega)) ?_) | (refine st_get rfl 3 _ rfl hm rfl 1 rfl one3 (by first | omega | assumption | (simp only [lens]; first | omega | assumption) | (simp [lens]; done) | (simp [lens]; omega)) ?_) | (refine st_get rfl 3 _ rfl hm rfl 2 rfl one3 (by first | omega | assumption | (simp only [lens]; first | omega | assumption) | (simp [lens]; done) | (simp [lens]; omega)) ?_) | (refine st_get rfl 3 _ rfl hm rfl 3 rfl one3 (by first | omega | assumption | (simp only [lens]; first | omega | assumption) | (simp [lens]; done) | (simp [lens]; omega)) ?_) | (refine st_get rfl 3 _ rfl hm rfl 4 rfl one3 (by first | omega | assumption | (simp only [lens]; first | omega | assumption) | (simp [lens]; done) | (simp [lens]; omega)) ?_))) | ((with_reducible refine gt_store 3 ?_); (first | (refine st_set rfl 3 _ _ rfl hm rfl rfl 0 rfl one3 (by first | omega | assumption | (simp only [lens]; first | omega | assumption) | (simp [lens]; done) | (simp [lens]; omega)) ?_) | (refine st_set rfl 3 _ _ rfl hm rfl rfl 1 rfl one3 (by first | omega | assumption | (simp only [lens]; first | omega | assumption) | (simp [lens]; done) | (simp [lens]; omega)) ?_) | (refine st_set rfl 3 _ _ rfl hm rfl rfl 2 rfl one3 (by first | omega | assumption | (simp only [lens]; first | omega | assumption) | (simp [lens]; done) | (simp [lens]; omega)) ?_) | (refine st_set rfl 3 _ _ rfl hm rfl rfl 3 rfl one3 (by first | omega | assumption | (simp only [lens]; first | omega | assumption) | (simp [lens]; done) | (simp [lens]; omega)) ?_) | (refine st_set rfl 3 _ _ rfl hm rfl rfl 4 rfl one3 (by first | omega | assumption | (simp only [lens]; first | omega | assumption) | (simp [lens]; done) | (simp [lens]; omega)) ?_)); clear hm; intro ws hm; simp only [List.set_cons_zero, List.set_cons_succ] at hm) | ((with_reducible refine gt_load 71 ?_); (first | (refine st_load rfl 71 _ rfl hm rfl 0 rfl agg71 (by first | omega | assumption | (simp only [lens]; first | omega | assumption) | (simp [lens]; done) | (simp [lens]; omega)) ?_) | (refine st_load rfl 71 _ rfl hm rfl 1 rfl agg71 (by first | omega | assumption | (simp only [lens]; first | omega | assumption) | (simp [lens]; done) | (simp [lens]; omega)) ?_) | (refine st_load rfl 71 _ rfl hm rfl 2 rfl agg71 (by first | omega | assumption | (simp only [lens]; first | omega | assumption) | (simp [lens]; done) | (simp [lens]; omega)) ?_) | (refine st_load rfl 71 _ rfl hm rfl 3 rfl agg71 (by first | omega | assumption | (simp only [lens]; first | omega | assumption) | (simp [lens]; done) | (simp [lens]; omega)) ?_) | (refine st_load rfl 71 _ rfl hm rfl 4 rfl agg71 (by first | omega | assumption | (simp only [lens]; first | omega | assumption) | (simp [lens]; done) | (simp [lens]; omega)) ?_))) | ((with_reducible refine gt_store 71 ?_); (first | (refine st_full rfl 71 _ _ rfl hm rfl rfl 0 rfl agg71 (by first | omega | assumption | (simp only [lens]; first | omega | assumption) | (simp [lens]; done) | (simp [lens]; omega)) (by first | omega | assumption | (simp only [lens]; first | omega | assumption) | (simp [lens]; done) | (simp [lens]; omega)) ?_) | (refine st_full rfl 71 _ _ rfl hm rfl rfl 1 rfl agg71 (by first | omega | assumption | (simp only [lens]; first | omega | assumption) | (simp [lens]; done) | (simp [lens]; omega)) (by first | omega | assumption | (simp only [lens]; first | omega | assumption) | (simp [lens]; done) | (simp [lens]; omega)) ?_) | (refine st_full rfl 71 _ _ rfl hm rfl rfl 2 rfl agg71 (by first | omega | assumption | (simp only [lens]; first | omega | assumption) | (simp [lens]; done) | (simp [lens]; omega)) (by first | omega | assumption | (simp only [lens]; first | omega | assumption) | (simp [lens]; done) | (simp [lens]; omega)) ?_) | (refine st_full rfl 71 _ _ rfl hm rfl rfl 3 rfl agg71 (by first | omega | assumption | (simp only [lens]; first | omega | assumption) | (simp [lens]; done) | (simp [lens]; omega)) (by first | omega | assumption | (simp only [lens]; first | omega | assumption) | (simp [lens]; done) | (simp [lens]; omega)) ?_) | (refine st_full rfl 71 _ _ rfl hm rfl rfl 4 rfl agg71 (by first | omega | assumption | (simp only [lens]; first | omega | assumption) | (simp [lens]; done) | (simp [lens]; omega)) (by first | omega | assumption | (simp only [lens]; first | omega | assumption) | (simp [lens]; done) | (simp [lens]; omega)) ?_)); clear hm; intro ws hm; simp only [List.set_cons_zero, List.set_cons_succ] at hm))
   go_still_tail 13, (by kernel_rfl)
   still_call (HF.out _ _ _)
   repeat still_step
   refine wpStill_nil ?_
   replace hm := hm.drawn (wr.drawn + 1)
   go_wp2_with (first | fail | ((with_reducible refine gt_box 3 71 ?_); refine st_box rfl 3 rfl 71 _ rfl hm (v := .agg (vals _ _)) rfl (cs := vals _ _) rfl ?_; clear hm; intro g3 w3 hm) | ((with_reducible refine gt_box 4 71 ?_); refine st_box rfl 4 rfl 71 _ rfl hm (v := .agg (vals _ _)) rfl (cs := vals _ _) rfl ?_; clear hm; intro g4 w4 hm) | ((with_reducible refine gt_alloc 6 71 ?_); refine st_alloc rfl 6 rfl 71 rfl hm zero71 ?_; clear hm; intro g6 w6 hm) | ((with_reducible refine gt_load 3 ?_); (first | (refine st_get rfl 3 _ rfl hm rfl 0 rfl one3 (by first | omega | assumption | (simp only [lens]; first | omega | assumption) | (simp [lens]; done) | (simp [lens]; omega)) ?_) | (refine st_get rfl 3 _ rfl hm rfl 1 rfl one3 (by first | omega | assumption | (simp only [lens]; first | omega | assumption) | (simp [lens]; done) | (simp [lens]; omega)) ?_) | (refine st_get rfl 3 _ rfl hm rfl 2 rfl one3 (by first | omega | assumption | (simp only [lens]; first | omega | assumption) | (simp [lens]; done) | (simp [lens]; omega)) ?_) | (refine st_get rfl 3 _ rfl hm rfl 3 rfl one3 (by first | omega | assumption | (simp only [lens]; first | omega | assumption) | (simp [lens]; done) | (simp [lens]; omega)) ?_) | (refine st_get rfl 3 _ rfl hm rfl 4 rfl one3 (by first | omega | assumption | (simp only [lens]; first | omega | assumption) | (simp [lens]; done) | (simp [lens]; omega)) ?_))) | ((with_reducible refine gt_store 3 ?_); (first | (refine st_set rfl 3 _ _ rfl hm rfl rfl 0 rfl one3 (by first | omega | assumption | (simp only [lens]; first | omega | assumption) | (simp [lens]; done) | (simp [lens]; omega)) ?_) | (refine st_set rfl 3 _ _ rfl hm rfl rfl 1 rfl one3 (by first | omega | assumption | (simp only [lens]; first | omega | assumption) | (simp [lens]; done) | (simp [lens]; omega)) ?_) | (refine st_set rfl 3 _ _ rfl hm rfl rfl 2 rfl one3 (by first | omega | assumption | (simp only [lens]; first | omega | assumption) | (simp [lens]; done) | (simp [lens]; omega)) ?_) | (refine st_set rfl 3 _ _ rfl hm rfl rfl 3 rfl one3 (by first | omega | assumption | (simp only [lens]; first | omega | assumption) | (simp [lens]; done) | (simp [lens]; omega)) ?_) | (refine st_set rfl 3 _ _ rfl hm rfl rfl 4 rfl one3 (by first | omega | assumption | (simp only [lens]; first | omega | assumption) | (simp [lens]; done) | (simp [lens]; omega)) ?_)); clear hm; intro ws hm; simp only [List.set_cons_zero, List.set_cons_succ] at hm) | ((with_reducible refine gt_load 71 ?_); (first | (refine st_load rfl 71 _ rfl hm rfl 0 rfl agg71 (by first | omega | assumption | (simp only [lens]; first | omega | assumption) | (simp [lens]; done) | (simp [lens]; omega)) ?_) | (refine st_load rfl 71 _ rfl hm rfl 1 rfl agg71 (by first | omega | assumption | (simp only [lens]; first | omega | assumption) | (simp [lens]; done) | (simp [lens]; omega)) ?_) | (refine st_load rfl 71 _ rfl hm rfl 2 rfl agg71 (by first | omega | assumption | (simp only [lens]; first | omega | assumption) | (simp [lens]; done) | (simp [lens]; omega)) ?_) | (refine st_load rfl 71 _ rfl hm rfl 3 rfl agg71 (by first | omega | assumption | (simp only [lens]; first | omega | assumption) | (simp [lens]; done) | (simp [lens]; omega)) ?_) | (refine st_load rfl 71 _ rfl hm rfl 4 rfl agg71 (by first | omega | assumption | (simp only [lens]; first | omega | assumption) | (simp [lens]; done) | (simp [lens]; omega)) ?_))) | ((with_reducible refine gt_store 71 ?_); (first | (refine st_full rfl 71 _ _ rfl hm rfl rfl 0 rfl agg71 (by first | omega | assumption | (simp only [lens]; first | omega | assumption) | (simp [lens]; done) | (simp [lens]; omega)) (by first | omega | assumption | (simp only [lens]; first | omega | assumption) | (simp [lens]; done) | (simp [lens]; omega)) ?_) | (refine st_full rfl 71 _ _ rfl hm rfl rfl 1 rfl agg71 (by first | omega | assumption | (simp only [lens]; first | omega | assumption) | (simp [lens]; done) | (simp [lens]; omega)) (by first | omega | assumption | (simp only [lens]; first | omega | assumption) | (simp [lens]; done) | (simp [lens]; omega)) ?_) | (refine st_full rfl 71 _ _ rfl hm rfl rfl 2 rfl agg71 (by first | omega | assumption | (simp only [lens]; first | omega | assumption) | (simp [lens]; done) | (simp [lens]; omega)) (by first | omega | assumption | (simp only [lens]; first | omega | assumption) | (simp [lens]; done) | (simp [lens]; omega)) ?_) | (refine st_full rfl 71 _ _ rfl hm rfl rfl 3 rfl agg71 (by first | omega | assumption | (simp only [lens]; first | omega | assumption) | (simp [lens]; done) | (simp [lens]; omega)) (by first | omega | assumption | (simp only [lens]; first | omega | assumption) | (simp [lens]; done) | (simp [lens]; omega)) ?_) | (refine st_full rfl 71 _ _ rfl hm rfl rfl 4 rfl agg71 (by first | omega | assumption | (simp only [lens]; first | omega | assumption) | (simp [lens]; done) | (simp [lens]; omega)) (by first | omega | assumption | (simp only [lens]; first | omega | assumption) | (simp [lens]; done) | (simp [lens]; omega)) ?_)); clear hm; intro ws hm; simp only [List.set_cons_zero, List.set_cons_succ] at hm))
   go_roundw
   case rel =>
    refine ⟨i + 1, by omega, by go_num, ?_⟩
    rw [← mixTo_succ L (List.zipWith op L L') 0 i (by omega) (by omega), HZ.out]
    simpa using hm
   case measure => simp [intOf]; omega
  ·have HI := Aside0.mk (show mixTo L (List.zipWith op L L') 0 i = List.zipWith op L L' by
    have : i = 44 := by omega
    subst this
    unfold mixTo
    rw [List.take_zero, List.nil_append, List.take_of_length_le (by omega), List.drop_of_length_le (by omega), List.append_nil])
   go_wp2_with (first | fail | ((with_reducible refine gt_box 3 71 ?_); refine st_box rfl 3 rfl 71 _ rfl hm (v := .agg (vals _ _)) rfl (cs := vals _ _) rfl ?_; clear hm; intro g3 w3 hm) | ((with_reducible refine gt_box 4 71 ?_); refine st_box rfl 4 rfl 71 _ rfl hm (v := .agg (vals _ _)) rfl (cs := vals _ _) rfl ?_; clear hm; intro g4 w4 hm) | ((with_reducible refine gt_alloc 6 71 ?_); refine st_alloc rfl 6 rfl 71 rfl hm zero71 ?_; clear hm; intro g6 w6 hm) | ((with_reducible refine gt_load 3 ?_); (first | (refine st_get rfl 3 _ rfl hm rfl 0 rfl one3 (by first | omega | assumption | (simp only [lens]; first | omega | assumption) | (simp [lens]; done) | (simp [lens]; omega)) ?_) | (refine st_get rfl 3 _ rfl hm rfl 1 rfl one3 (by first | omega | assumption | (simp only [lens]; first | omega | assumption) | (simp [lens]; done) | (simp [lens]; omega)) ?_) | (refine st_get rfl 3 _ rfl hm rfl 2 rfl one3 (by first | omega | assumption | (simp only [lens]; first | omega | assumption) | (simp [lens]; done) | (simp [lens]; omega)) ?_) | (refine st_get rfl 3 _ rfl hm rfl 3 rfl one3 (by first | omega | assumption | (simp only [lens]; first | omega | assumption) | (simp [lens]; done) | (simp [lens]; omega)) ?_) | (refine st_get rfl 3 _ rfl hm rfl 4 rfl one3 (by first | omega | assumption | (simp only [lens]; first | omega | assumption) | (simp [lens]; done) | (simp [lens]; omega)) ?_))) | ((with_reducible refine gt_store 3 ?_); (first | (refine st_set rfl 3 _ _ rfl hm rfl rfl 0 rfl one3 (by first | omega | assumption | (simp only [lens]; first | omega | assumption) | (simp [lens]; done) | (simp [lens]; omega)) ?_) | (refine st_set rfl 3 _ _ rfl hm rfl rfl 1 rfl one3 (by first | omega | assumption | (simp only [lens]; first | omega | assumption) | (simp [lens]; done) | (simp [lens]; omega)) ?_) | (refine st_set rfl 3 _ _ rfl hm rfl rfl 2 rfl one3 (by first | omega | assumption | (simp only [lens]; first | omega | assumption) | (simp [lens]; done) | (simp [lens]; omega)) ?_) | (refine st_set rfl 3 _ _ rfl hm rfl rfl 3 rfl one3 (by first | omega | assumption | (simp only [lens]; first | omega | assumption) | (simp [lens]; done) | (simp [lens]; omega)) ?_) | (refine st_set rfl 3 _ _ rfl hm rfl rfl 4 rfl one3 (by first | omega | assumption | (simp only [lens]; first | omega | assumption) | (simp [lens]; done) | (simp [lens]; omega)) ?_)); clear hm; intro ws hm; simp only [List.set_cons_zero, List.set_cons_succ] at hm) | ((with_reducible refine gt_load 71 ?_); (first | (refine st_load rfl 71 _ rfl hm rfl 0 rfl agg71 (by first | omega | assumption | (simp only [lens]; first | omega | assumption) | (simp [lens]; done) | (simp [lens]; omega)) ?_) | (refine st_load rfl 71 _ rfl hm rfl 1 rfl agg71 (by first | omega | assumption | (simp only [lens]; first | omega | assumption) | (simp [lens]; done) | (simp [lens]; omega)) ?_) | (refine st_load rfl 71 _ rfl hm rfl 2 rfl agg71 (by first | omega | assumption | (simp only [lens]; first | omega | assumption) | (simp [lens]; done) | (simp [lens]; omega)) ?_) | (refine st_load rfl 71 _ rfl hm rfl 3 rfl agg71 (by first | omega | assumption | (simp only [lens]; first | omega | assumption) | (simp [lens]; done) | (simp [lens]; omega)) ?_) | (refine st_load rfl 71 _ rfl hm rfl 4 rfl agg71 (by first | omega | assumption | (simp only [lens]; first | omega | assumption) | (simp [lens]; done) | (simp [lens]; omega)) ?_))) | ((with_reducible refine gt_store 71 ?_); (first | (refine st_full rfl 71 _ _ rfl hm rfl rfl 0 rfl agg71 (by first | omega | assumption | (simp only [lens]; first | omega | assumption) | (simp [lens]; done) | (simp [lens]; omega)) (by first | omega | assumption | (simp only [lens]; first | omega | assumption) | (simp [lens]; done) | (simp [lens]; omega)) ?_) | (refine st_full rfl 71 _ _ rfl hm rfl rfl 1 rfl agg71 (by first | omega | assumption | (simp only [lens]; first | omega | assumption) | (simp [lens]; done) | (simp [lens]; omega)) (by first | omega | assumption | (simp only [lens]; first | omega | assumption) | (simp [lens]; done) | (simp [lens]; omega)) ?_) | (refine st_full rfl 71 _ _ rfl hm rfl rfl 2 rfl agg71 (by first | omega | assumption | (simp only [lens]; first | omega | assumption) | (simp [lens]; done) | (simp [lens]; omega)) (by first | omega | assumption | (simp only [lens]; first | omega | assumption) | (simp [lens]; done) | (simp [lens]; omega)) ?_) | (refine st_full rfl 71 _ _ rfl hm rfl rfl 3 rfl agg71 (by first | omega | assumption | (simp only [lens]; first | omega | assumption) | (simp [lens]; done) | (simp [lens]; omega)) (by first | omega | assumption | (simp only [lens]; first | omega | assumption) | (simp [lens]; done) | (simp [lens]; omega)) ?_) | (refine st_full rfl 71 _ _ rfl hm rfl rfl 4 rfl agg71 (by first | omega | assumption | (simp only [lens]; first | omega | assumption) | (simp [lens]; done) | (simp [lens]; omega)) (by first | omega | assumption | (simp only [lens]; first | omega | assumption) | (simp [lens]; done) | (simp [lens]; omega)) ?_)); clear hm; intro ws hm; simp only [List.set_cons_zero, List.set_cons_succ] at hm))
   ((try simp only [Exit.inBlock, Exit.then]); (first | (refine ret_cell hm rfl rfl 2 rfl agg71 (by first | omega | assumption | (simp only [lens]; first | omega | assumption) | (simp [lens]; done) | (simp [lens]; omega)) rfl ?_) | (refine ret_cell_tmp hm rfl rfl 2 rfl agg71 (by first | omega | assumption | (simp only [lens]; first | omega | assumption) | (simp [lens]; done) | (simp [lens]; omega)) rfl ?_)))
   exact ⟨by rw [HI.out], hm.done rfl⟩
set_option maxHeartbeats 4000000 in
set_option maxRecDepth 100000 in
theorem less1_calls (a b : Int) (W : World) : Calls Try.prog 57 #[.int .i64 a, .int .i64 b] W fun e W' => e = .returned (.int .i64 (wrap64 (a - b))) ∧ W' = W := by
 go_enter Try.func57, Try.ntmps57
 go_wp2_with fail
 all_goals
  go_ret
  refine ⟨?_, rfl⟩
  first
   | rfl
   | (unfold mx; rw [if_pos (by omega)]; rfl)
   | (unfold mx; rw [if_neg (by omega)]; rfl)
theorem less1_enters (a : Array Value) (W : World) : (callFunc 57 a).run Try.prog W = .ok (.enter 57 a) W := by kernel_rfl
set_option maxHeartbeats 4000000 in
set_option maxRecDepth 100000 in
theorem less_calls (L L' : List Int) (w : World) (hl : L.length = 44) (hl' : L'.length = 44) : Calls Try.prog 40 #[.agg (vals .i64 L), .agg (vals .i64 L')] w fun e w' =>
  e = .returned (.agg (vals .i64 (List.zipWith (fun a b => wrap64 (a - b)) L L'))) ∧ Below w.heap.size w w' := by
 have hm := Mem.start w
 have hz := zip_length (fun a b => wrap64 (a - b)) L L' hl hl'
 go_enter Try.func40, Try.ntmps40
 go_wp2_with (first
  | (first | fail | ((with_reducible refine gt_box 2 71 ?_); refine st_box rfl 2 rfl 71 _ rfl hm (v := .agg (vals _ _)) rfl (cs := vals _ _) rfl ?_; clear hm; intro g2 w2 hm) | ((with_reducible refine gt_box 3 71 ?_); refine st_box rfl 3 rfl 71 _ rfl hm (v := .agg (vals _ _)) rfl (cs := vals _ _) rfl ?_; clear hm; intro g3 w3 hm) | ((with_reducible refine gt_alloc 4 71 ?_); refine st_alloc rfl 4 rfl 71 rfl hm zero71 ?_; clear hm; intro g4 w4 hm) | ((with_reducible refine gt_load 71 ?_); (first | (refine st_load rfl 71 _ rfl hm rfl 0 rfl agg71 (by first | omega | assumption | (simp only [lens]; first | omega | assumption) | (simp [lens]; done) | (simp [lens]; omega)) ?_) | (refine st_load rfl 71 _ rfl hm rfl 1 rfl agg71 (by first | omega | assumption | (simp only [lens]; first | omega | assumption) | (simp [lens]; done) | (simp [lens]; omega)) ?_) | (refine st_load rfl 71 _ rfl hm rfl 2 rfl agg71 (by first | omega | assumption | (simp only [lens]; first | omega | assumption) | (simp [lens]; done) | (simp [lens]; omega)) ?_) | (refine st_load rfl 71 _ rfl hm rfl 3 rfl agg71 (by first | omega | assumption | (simp only [lens]; first | omega | assumption) | (simp [lens]; done) | (simp [lens]; omega)) ?_) | (refine st_load rfl 71 _ rfl hm rfl 4 rfl agg71 (by first | omega | assumption | (simp only [lens]; first | omega | assumption) | (simp [lens]; done) | (simp [lens]; omega)) ?_))) | ((with_reducible refine gt_store 71 ?_); (first | (refine st_full rfl 71 _ _ rfl hm rfl rfl 0 rfl agg71 (by first | omega | assumption | (simp only [lens]; first | omega | assumption) | (simp [lens]; done) | (simp [lens]; omega)) (by first | omega | assumption | (simp only [lens]; first | omega | assumption) | (simp [lens]; done) | (simp [lens]; omega)) ?_) | (refine st_full rfl 71 _ _ rfl hm rfl rfl 1 rfl agg71 (by first | omega | assumption | (simp only [lens]; first | omega | assumption) | (simp [lens]; done) | (simp [lens]; omega)) (by first | omega | assumption | (simp only [lens]; first | omega | assumption) | (simp [lens]; done) | (simp [lens]; omega)) ?_) | (refine st_full rfl 71 _ _ rfl hm rfl rfl 2 rfl agg71 (by first | omega | assumption | (simp only [lens]; first | omega | assumption) | (simp [lens]; done) | (simp [lens]; omega)) (by first | omega | assumption | (simp only [lens]; first | omega | assumption) | (simp [lens]; done) | (simp [lens]; omega)) ?_) | (refine st_full rfl 71 _ _ rfl hm rfl rfl 3 rfl agg71 (by first | omega | assumption | (simp only [lens]; first | omega | assumption) | (simp [lens]; done) | (simp [lens]; omega)) (by first | omega | assumption | (simp only [lens]; first | omega | assumption) | (simp [lens]; done) | (simp [lens]; omega)) ?_) | (refine st_full rfl 71 _ _ rfl hm rfl rfl 4 rfl agg71 (by first | omega | assumption | (simp only [lens]; first | omega | assumption) | (simp [lens]; done) | (simp [lens]; omega)) (by first | omega | assumption | (simp only [lens]; first | omega | assumption) | (simp [lens]; done) | (simp [lens]; omega)) ?_)); clear hm; intro ws hm; simp only [List.set_cons_zero, List.set_cons_succ] at hm))
  | (go_at_call 56; refine (with_calls 57 (fun a b => wrap64 (a - b)) less1_calls L L' _ hl hl' less1_enters).mono ?_; rintro e wa ⟨rfl, hb⟩; replace hm := hm.after hb; clear hb))
 ((try simp only [Exit.inBlock, Exit.then]); (first | (refine ret_cell hm rfl rfl 0 rfl agg71 (by first | omega | assumption | (simp only [lens]; first | omega | assumption) | (simp [lens]; done) | (simp [lens]; omega)) rfl ?_) | (refine ret_cell_tmp hm rfl rfl 0 rfl agg71 (by first | omega | assumption | (simp only [lens]; first | omega | assumption) | (simp [lens]; done) | (simp [lens]; omega)) rfl ?_)))
 exact ⟨rfl, hm.done rfl⟩
end Go.Proofs.Ytfgogdhhihbcjaa.Arr
namespace Go.Proofs.Ytfgogdhhihbcjaa.Arr
open Go.RowKit Go.Proofs.YtfgogdhhihbcjaaW.PrintWords Go.Proofs.YtfgogdhhihbcjaaW.PrintLast Go.Proofs.Ytfgogdhhihbcjaa.U Go.Proofs.Ytfgogdhhihbcjaa.H
set_option linter.unusedVariables false
set_option linter.unusedSimpArgs false
def subOk (m : List Int) (k : Nat) (g : Int) (s : Int) : Bool := decide (g - s - 1 < k ∧ rd m (g - s - 1) = rd m (k : Int))
def subsTo (m : List Int) (k : Nat) (g : Int) : Nat → List Int
 | 0 => []
 | t + 1 => (if subOk m k g (-((t : Int) + 1)) = true then [-((t : Int) + 1)] else []) ++ subsTo m k g t
def opts (m : List Int) (k : Nat) (g : Int) (top : Nat) : List Int := subsTo m k g top ++ [rd m (k : Int)]
def leaves (m : List Int) (top : Nat) (ok : List Int → Int → Bool) : Nat → List Int → Int → List (List Int)
 | 0, h, g => [h]
 | d + 1, h, g =>
  if rd m (h.length : Int) = -10 then leaves m top ok d (h ++ [-10]) ((h.length : Int) + 1)
  else (opts m h.length g top).flatMap fun n => if ok h n = true then leaves m top ok d (h ++ [n]) g else []
def enough (H : List Int) (h : List Int) (n : Int) : Bool := decide (rd (pile H h (-1) h.length) (slot n : Nat) ≠ 0)
def within (sets : Int) (h : List Int) (n : Int) : Bool := decide (∀ j : Nat, j < 44 → rd (pile (zs 44) (h ++ [n]) 1 (h ++ [n]).length) (j : Int) ≤ sets)
def PlainN (x : Int) : Prop := x = -10 ∨ (0 ≤ x ∧ x ≤ 39)
theorem subsTo_in {m : List Int} {k : Nat} {g : Int} : ∀ {t : Nat} {n : Int}, n ∈ subsTo m k g t → -(t : Int) ≤ n ∧ n ≤ -1 ∧ subOk m k g n = true
 | 0, n, h => by simp [subsTo] at h
 | t + 1, n, h => by
  rw [subsTo, List.mem_append] at h
  rcases h with h | h
  ·split at h
   ·rw [List.mem_singleton] at h
    subst h
    exact ⟨by omega, by omega, by assumption⟩
   ·cases h
  ·have := subsTo_in h
   exact ⟨by omega, this.2.1, this.2.2⟩
theorem rd_left (l r : List Int) (i : Nat) (h : i < l.length) : rd (l ++ r) (i : Int) = rd l (i : Int) := by
 rw [rd_get l i h, rd_get _ i (by simp; omega), List.getElem_append_left h]
theorem pile_left (L h : List Int) (n t : Int) : ∀ i, i ≤ h.length → pile L (h ++ [n]) t i = pile L h t i
 | 0, _ => rfl
 | i + 1, hi => by rw [pile, pile, pile_left L h n t i (by omega), rd_left h [n] i (by omega)]
theorem pile_snoc (L h : List Int) (n t : Int) : pile L (h ++ [n]) t (h ++ [n]).length = bump (pile L h t h.length) n t := by
 rw [show (h ++ [n]).length = h.length + 1 by simp, pile, pile_left L h n t h.length (Nat.le_refl _)]
 congr 1
 rw [rd_get _ h.length (by simp)]
 simp
theorem rd_pile_neg (L h : List Int) (j : Nat) (hj : j < 44) (hL : L.length = 44) : ∀ i, rd (pile L h (-1) i) (j : Int) = rd L (j : Int) - rd (pile (zs 44) h 1 i) (j : Int)
 | 0 => by simp only [pile]; rw [rd_zs]; omega
 | i + 1 => by
  rw [pile, pile, rd_bump _ _ _ j (by rw [pile_length]; omega), rd_bump _ _ _ j (by rw [pile_length, zs_length]; omega), rd_pile_neg L h j hj hL i]
  split <;> omega
structure Far (sets : Int) (subs : Nat) (h : List Int) : Prop where
 num : ∀ x ∈ h, NumH x ∧ -(subs : Int) ≤ (if x = -10 then 0 else x)
 few : ∀ j : Nat, j < 44 → rd (pile (zs 44) h 1 h.length) (j : Int) ≤ sets
theorem Far.snoc {sets : Int} {subs : Nat} {h : List Int} (hf : Far sets subs h) (n : Int) (hn : NumH n) (hs : -(subs : Int) ≤ (if n = -10 then 0 else n)) (hw : n = -10 ∨ within sets h n = true) : Far sets subs (h ++ [n]) := by
 refine ⟨fun x hx => ?_, fun j hj => ?_⟩
 ·rcases List.mem_append.1 hx with hx | hx
  ·exact hf.num x hx
  ·rw [List.mem_singleton] at hx; subst hx; exact ⟨hn, hs⟩
 ·rcases hw with hw | hw
  ·subst hw
   rw [pile_snoc, bump, if_pos rfl]
   exact hf.few j hj
  ·exact of_decide_eq_true hw j hj
end Go.Proofs.Ytfgogdhhihbcjaa.Arr
namespace Go.Proofs.Ytfgogdhhihbcjaa.Arr
open Go.RowKit Go.Proofs.YtfgogdhhihbcjaaW.PrintWords Go.Proofs.YtfgogdhhihbcjaaW.PrintLast Go.Proofs.Ytfgogdhhihbcjaa.U Go.Proofs.Ytfgogdhhihbcjaa.H
set_option linter.unusedVariables false
set_option linter.unusedSimpArgs false
def runL {σ : Type} (step : σ → List Int → σ × Bool) : σ → List (List Int) → σ × Bool
 | s, [] => (s, true)
 | s, h :: r => if (step s h).2 = true then runL step (step s h).1 r else ((step s h).1, false)
theorem runL_append {σ : Type} (step : σ → List Int → σ × Bool) (b : List (List Int)) : ∀ (a : List (List Int)) (s : σ), runL step s (a ++ b) = if (runL step s a).2 = true then runL step (runL step s a).1 b else ((runL step s a).1, false)
 | [], s => rfl
 | h :: r, s => by
  rw [List.cons_append, runL, runL]
  by_cases hk : (step s h).2 = true
  ·rw [if_pos hk, if_pos hk]; exact runL_append step b r _
  ·rw [if_neg hk, if_neg hk, if_neg (by simp)]
def goes (m : List Int) (ok : List Int → Int → Bool) (d : Nat) (h : List Int) (g : Int) (l : List Int) : List (List Int) := l.flatMap fun n => if ok h n = true then leaves m 4 ok d (h ++ [n]) g else []
theorem goes_snoc (m : List Int) (ok : List Int → Int → Bool) (d : Nat) (h : List Int) (g : Int) (l : List Int) (n : Int) : goes m ok d h g (l ++ [n]) = goes m ok d h g l ++ (if ok h n = true then leaves m 4 ok d (h ++ [n]) g else []) := by
 unfold goes; rw [List.flatMap_append]; simp
theorem leaves_stop (m : List Int) (ok : List Int → Int → Bool) (d : Nat) (h : List Int) (g : Int) (hb : rd m (h.length : Int) = -10) : leaves m 4 ok (d + 1) h g = leaves m 4 ok d (h ++ [-10]) ((h.length : Int) + 1) := by rw [leaves, if_pos hb]
theorem leaves_go (m : List Int) (ok : List Int → Int → Bool) (d : Nat) (h : List Int) (g : Int) (hb : rd m (h.length : Int) ≠ -10) : leaves m 4 ok (d + 1) h g = goes m ok d h g (opts m h.length g 4) := by rw [leaves, if_neg hb]; rfl
theorem run_skip {σ : Type} {step : σ → List Int → σ × Bool} {s s0 : σ} {m : List Int} {ok : List Int → Int → Bool} {d : Nat} {h : List Int} {g : Int} {l : List Int} {n : Int} (hr : runL step s0 (goes m ok d h g l) = (s, true)) (hk : ok h n = false) : runL step s0 (goes m ok d h g (l ++ [n])) = (s, true) := by
 rw [goes_snoc, runL_append, hr, if_pos rfl, hk]; rfl
theorem run_more {σ : Type} {step : σ → List Int → σ × Bool} {s s0 : σ} {m : List Int} {ok : List Int → Int → Bool} {d : Nat} {h : List Int} {g : Int} {l : List Int} {n : Int} (hr : runL step s0 (goes m ok d h g l) = (s, true)) (hk : ok h n = true) : runL step s0 (goes m ok d h g (l ++ [n])) = runL step s (leaves m 4 ok d (h ++ [n]) g) := by
 rw [goes_snoc, runL_append, hr, if_pos rfl, hk, if_pos rfl]
theorem run_end {σ : Type} {step : σ → List Int → σ × Bool} {s s0 : σ} {m : List Int} {ok : List Int → Int → Bool} {d : Nat} {h : List Int} {g : Int} {l r : List Int} (hr : runL step s0 (goes m ok d h g l) = (s, false)) : runL step s0 (goes m ok d h g (l ++ r)) = (s, false) := by
 have : goes m ok d h g (l ++ r) = goes m ok d h g l ++ goes m ok d h g r := by unfold goes; rw [List.flatMap_append]
 rw [this, runL_append, hr, if_neg (by simp)]
theorem bump_back (L : List Int) (n : Int) (hL : L.length = 44) : bump (bump L n (-1)) n 1 = L := by
 refine list_eq (n := 44) (by rw [bump_length, bump_length, hL]) hL fun j hj => ?_
 rw [rd_bump _ _ _ j (by rw [bump_length]; omega), rd_bump _ _ _ j (by omega)]
 split <;> omega
theorem subsTo_len (m : List Int) (k : Nat) (g : Int) : ∀ t, (subsTo m k g t).length ≤ t
 | 0 => Nat.le_refl _
 | t + 1 => by
  rw [subsTo, List.length_append]
  have := subsTo_len m k g t
  split <;> simp <;> omega
theorem opts_num {m : List Int} (hm : ∀ x ∈ m, PlainN x) {k : Nat} {g : Int} (hk : k < m.length) (hb : rd m (k : Int) ≠ -10) : ∀ n ∈ opts m k g 4, n ≠ -10 ∧ NumH n := by
 intro n hn
 rcases List.mem_append.1 hn with hn | hn
 ·have := subsTo_in hn
  exact ⟨by omega, Or.inr (Or.inr (by omega))⟩
 ·rw [List.mem_singleton] at hn
  subst hn
  refine ⟨hb, ?_⟩
  have hx := hm _ (by rw [rd_get m k hk]; exact List.getElem_mem hk : rd m (k : Int) ∈ m)
  rcases hx with h | h
  ·exact absurd h hb
  ·exact Or.inr (Or.inl h)
theorem pile_b (H h : List Int) (hL : H.length = 44) (b : Int) (hb : ∀ j : Nat, j < 44 → 0 ≤ rd H (j : Int) ∧ rd H (j : Int) ≤ b) (i : Nat) : ∀ j : Nat, j < 44 → -(i : Int) ≤ rd (pile H h (-1) i) (j : Int) ∧ rd (pile H h (-1) i) (j : Int) ≤ b := fun j hj => by
 rw [rd_pile_neg H h j hj hL i]
 have h1 := hb j hj
 have h2 := pile_small h i j hj
 omega
theorem subsTo_step (m : List Int) (k : Nat) (g : Int) (i : Nat) (hi : i < 4) : subsTo m k g (4 - i) = (if subOk m k g ((i : Int) - 4) = true then [(i : Int) - 4] else []) ++ subsTo m k g (4 - (i + 1)) := by
 obtain ⟨t, ht⟩ : ∃ t, 4 - i = t + 1 := ⟨3 - i, by omega⟩
 rw [ht, show 4 - (i + 1) = t by omega, subsTo, show -((t : Int) + 1) = (i : Int) - 4 by omega]
end Go.Proofs.Ytfgogdhhihbcjaa.Arr
namespace Go.Proofs.Ytfgogdhhihbcjaa.Arr
open Go.RowKit Go.Proofs.YtfgogdhhihbcjaaW.PrintWords Go.Proofs.Ytfgogdhhihbcjaa.U
set_option linter.unusedVariables false
set_option linter.unusedSimpArgs false
structure FrB (B : List Nat) (w w' : World) : Prop where
 os : w'.os = w.os
 tape : w'.tape = w.tape
 output : w'.output = w.output
 size : w.heap.size ≤ w'.heap.size
 other : ∀ k, k < w.heap.size → k ∉ B → w'.heap[k]? = w.heap[k]?
namespace FrB
variable {B B' : List Nat} {w w1 w2 : World}
theorem refl (B : List Nat) (w : World) : FrB B w w := ⟨rfl, rfl, rfl, Nat.le_refl _, fun _ _ _ => rfl⟩
theorem trans (h : FrB B w w1) (h2 : FrB B w1 w2) : FrB B w w2 :=
 ⟨h2.os.trans h.os, h2.tape.trans h.tape, h2.output.trans h.output, Nat.le_trans h.size h2.size, fun k hk hn => (h2.other k (Nat.lt_of_lt_of_le hk h.size) hn).trans (h.other k hk hn)⟩
theorem mono (h : FrB B w w1) (hs : ∀ k ∈ B, k ∈ B') : FrB B' w w1 := ⟨h.os, h.tape, h.output, h.size, fun k hk hn => h.other k hk fun hb => hn (hs k hb)⟩
theorem below (h : Below w.heap.size w w1) : FrB B w w1 := ⟨h.os, h.tape, h.output, h.size, fun k hk _ => h.block k hk⟩
theorem to_below (h : FrB [] w w1) : Below w.heap.size w w1 := ⟨h.os, h.tape, h.output, h.size, fun k hk => h.other k hk (by simp)⟩
theorem fr1 {g : Nat} {cs : Array Value} {t : TypeId} (h : Fr1 g cs t w w1) (hg : g ∈ B) : FrB B w w1 := ⟨h.os, h.tape, h.output, h.size, fun k hk hn => h.other k hk fun e => hn (e ▸ hg)⟩
theorem alloc (h : FrB B w w1) (o : Obj) : FrB B w (w1.alloc o) := h.trans (below (below_alloc (Below.refl _ _) o))
theorem drewN (h : FrB B w w1) (n : Nat) : FrB B w (w1.drewN n) := h.trans (below (pw_below_drewN (Below.refl _ _) n))
theorem grown (h : FrB B w w1) {row : Option Nat} (hg : w1.grownBy w2 row) (hr : ∀ k, row = some k → w.heap.size ≤ k) : FrB B w w2 :=
 ⟨hg.os.trans h.os, hg.tape.trans h.tape, hg.output.trans h.output, Nat.le_trans h.size hg.size, fun k hk hn => (hg.block k (Nat.lt_of_lt_of_le hk h.size) (fun e => by have := hr k e.symm; omega)).trans (h.other k hk hn)⟩
theorem set (h : FrB B w w1) (p : Addr) (u : Value) (hp : p.block ∈ B ∨ w.heap.size ≤ p.block) : FrB B w (w1.setCell p u) :=
 ⟨h.os, h.tape, h.output, by have := h.size; simpa [World.setCell] using this, fun k hk hn => (Below.heap_setCell w1 p u k (fun e => by subst e; rcases hp with hp | hp; exact hn hp; omega)).trans (h.other k hk hn)⟩
theorem row (h : FrB B w w1) {g : Nat} {cs : Array Value} {t : TypeId} (hg : w.heap[g]? = some (.cells cs t (0, 0))) (hn : g ∉ B) : w1.heap[g]? = some (.cells cs t (0, 0)) :=
 (h.other g (lt_of_some hg) hn).trans hg
theorem cell (h : FrB B w w1) {p : Addr} (hp : p.block < w.heap.size) (hn : p.block ∉ B) : w1.cell? p = w.cell? p := World.cell?_of_block (w := w) (h.other p.block hp hn)
theorem read (h : FrB [] w w1) {p : Addr} {v : Value} (hc : w.cell? p = some v) : w1.cell? p = some v := (h.cell (World.block_lt_of_cell? w _ hc) (by simp)).trans hc
theorem same {g : Nat} (h : FrB (g :: B) w w1) (hg : w1.heap[g]? = w.heap[g]?) : FrB B w w1 := ⟨h.os, h.tape, h.output, h.size, fun k hk hn => by
 by_cases e : k = g
 ·subst e; exact hg
 ·exact h.other k hk fun hm => by
   rcases List.mem_cons.1 hm with h1 | h1
   ·exact e h1
   ·exact hn h1⟩
end FrB
def Row (base : Nat) (w : World) (A : Option Addr) (xs : List Int) : Prop := ∀ W : World, (∀ k, base ≤ k → k < w.heap.size → W.heap[k]? = w.heap[k]?) → Kd.C (Kd.int .i8) W A xs.length xs
namespace Row
variable {base : Nat} {w w1 : World} {A : Option Addr} {xs : List Int}
theorem now (h : Row base w A xs) : Kd.C (Kd.int .i8) w A xs.length xs := h w fun _ _ _ => rfl
theorem mono {b : Nat} (h : Row base w A xs) (hb : b ≤ base) : Row b w A xs := fun W hW => h W fun k hk hl => hW k (Nat.le_trans hb hk) hl
theorem nil : Row base w none [] := fun W _ => Kd.C_nil _ W
end Row
theorem fill_int {k : IntKind} {z : Int} {cells : Array Value} {i : Nat} {place : Nat → Option (Nat × Nat)} {off : Nat} {rest : List (Nat × Value)} (hp : place i = some (off, 1)) (hc : off + 1 ≤ cells.size) :
  Instr.fill place cells ((i, .int k z) :: rest) = Instr.fill place (cells.setIfInBounds off (.int k z)) rest := by
 rw [Instr.fill, hp]
 have hs : (Value.int k z).cells.size = 1 := rfl
 simp only [hs]
 rw [if_neg (by simp; omega)]
 congr 1
end Go.Proofs.Ytfgogdhhihbcjaa.Arr
namespace Go.Proofs.Ytfgogdhhihbcjaa.Arr
open Go.RowKit Go.Proofs.YtfgogdhhihbcjaaW.PrintWords Go.Proofs.YtfgogdhhihbcjaaW.PrintLast Go.Proofs.YtfgogdhhihbcjaaW.PrintMore Go.Proofs.Ytfgogdhhihbcjaa.U Go.Proofs.Ytfgogdhhihbcjaa.H
set_option linter.unusedVariables false
set_option linter.unusedSimpArgs false
abbrev Own (base : Nat) (w : World) (v : Value) (h : List Int) : Prop := Kd.R (Kd.int .i8) 64 w base (fun _ => True) v h
theorem own_later {base : Nat} {w w1 : World} {v : Value} {h : List Int} {B : List Nat} (ho : Own base w v h) (hf : FrB B w w1) (hB : ∀ b ∈ B, b < base) : Own base w1 v h :=
 Kd.R_mono (Kd.R_move (Kd.R_bound ho) fun k hk => hf.other k hk.2.2.1 fun hb => by have := hB k hb; omega) fun _ _ => trivial
theorem own_lower {base b : Nat} {w : World} {v : Value} {h : List Int} (ho : Own base w v h) (hb : b ≤ base) : Own b w v h := Kd.R_lower ho hb
theorem cell1 {w : World} {g : Nat} {v : Value} {t : TypeId} (h : w.heap[g]? = some (.cells #[v] t (0, 0))) : w.cell? ⟨g, 0, none⟩ = some v := by
 rw [cell_of_row w g 0 _ t (0, 0) h]; rfl
section
variable {P : Program} {o : Oper} {a : Act} {w : World}
theorem y_cell {ty : TypeId} {x : Operand} {p : Addr} {v : Value} (ho : o.op = .load ty x) (hx : a.eval x = .pointer (some p)) (h1 : OneTy P ty) (hc : w.cell? p = some v) : (execOp a.eval o).run P w = .ok (.value v) w := by
 have hd := h1.1
 unfold execOp
 have hagg : (isAgg ty).run P w = .ok false w := by
  unfold isAgg
  cases hu : P.underlying ty with
  | none => simp [hu] at hd
  | some d =>
   rw [Sem.run_bind, run_underlying hu w]
   cases d <;> simp_all
 simp only [ho, hx, Instr.loadAt, Instr.sureAddr, Sem.run_bind, Sem.run_pure, Result.andThen_ok, loadVar, hagg]
 simp [run_load, hc]
theorem run_lit1 {t e : TypeId} {x : Operand} {k : IntKind} {z : Int} (ho : o.op = .buildSlice t 1 #[(0, x)]) (hx : a.eval x = .int k z) (hu : P.underlying t = some (.slice e)) (he : OneTy P e) (hz : ZeroTy P e (vals k [0])) :
  (execOp a.eval o).run P w = .ok (.value (.slice (some ⟨w.heap.size, 0, none⟩) 1 1)) (w.alloc (.cells (vals k [z]) e)) := by
 obtain ⟨zz, hz, hzc⟩ := hz
 obtain ⟨_, hi⟩ := he
 unfold execOp
 cases hq : P.info? e with
 | none => simp [hq] at hi
 | some i =>
  have hs : i.size = 1 := by simpa [hq] using hi
  have hz' : i.zero = some zz := by simpa [hq] using hz
  have hf := fill_int (k := k) (z := z) (cells := (Array.range (1 * 1)).map (zz.cells[· % zz.cells.size]!)) (off := 0) (place := fun i => some (i * 1, 1)) (i := 0) (rest := []) (by simp) (by simp)
  have hc : ((Array.range (1 * 1)).map (zz.cells[· % zz.cells.size]!)).setIfInBounds 0 (.int k z) = vals k [z] := by
   rw [show Array.range (1 * 1) = #[0] from rfl]
   generalize (fun x => zz.cells[x % zz.cells.size]!) = f
   simp [vals]
  rw [hc] at hf
  have hrun : (Instr.buildSlice t 1 #[(0, .int k z)]).run P w = .ok (.slice (some ⟨w.heap.size, 0, none⟩) 1 1) (w.alloc (.cells (vals k [z]) e)) := by
   simp only [Instr.buildSlice, Sem.run_bind, run_underlying hu w, Result.andThen_ok, sizeOf, typeInfo, run_program, hq, Sem.run_pure, hs, zeroValue, hz']
   rw [if_neg (by omega), if_neg (by omega)]
   simp only [Sem.run_bind, Sem.run_pure, Result.andThen_ok, hq, hz', hf, run_program]
   simp [Instr.fill, newRow, Sem.run_bind]
  simp only [ho, List.map_toArray, List.map_cons, List.map_nil, hx, Sem.run_bind, hrun, Sem.run_pure, Result.andThen_ok]
theorem enterC {x : Operand} {bs : Array Operand} {ts : Array TypeId} {f : FuncId} {caps args : Array Value} (ho : o.op = .call { callee := .value x, args := bs, argTypes := ts }) (hx : a.eval x = .func (.func f) #[] caps) (hargs : bs.map a.eval = args)
  (hg : (callFunc f (args ++ caps)).run P w = .ok (.enter f (args ++ caps)) w) : (execOp a.eval o).run P w = .ok (.enter f (args ++ caps)) w := by
 unfold execOp
 simp [ho, resolve, Deferred.ofValue, invoke, hx, hargs, hg]
end
theorem oneMean : OneTy Try.prog 33 := ⟨by kernel_rfl, by kernel_rfl⟩
theorem oneI8 : OneTy Try.prog 64 := ⟨by kernel_rfl, by kernel_rfl⟩
theorem zeroI8 : ZeroTy Try.prog 64 (vals .i8 [0]) := ⟨.int .i8 0, by kernel_rfl, rfl⟩
theorem infoI8 : (Try.prog.info? 64).map (fun i => (i.zero, i.size, i.bytes)) = some (some (.int .i8 0), 1, 1) := by kernel_rfl
theorem row1 {w : World} {g : Nat} {z : Int} (h : w.heap[g]? = some (.cells (vals .i8 [z]) 64 (0, 0))) : ReadsRow (fun (x : Int) cs => cs = [Value.int .i8 x]) 1 w (some ⟨g, 0, none⟩) 1 [z] := by
 refine ⟨rfl, by omega, fun _ => ⟨_, rfl, fun j y hj => ?_⟩⟩
 have hj0 : j = 0 := by
  have := (List.getElem?_eq_some_iff.1 hj).1
  simp at this; omega
 subst hj0
 cases hj
 refine ⟨_, rfl, rfl, fun i u hu => ?_⟩
 rcases i with _ | i
 ·cases hu
  exact cell1 h
 ·simp at hu
set_option maxHeartbeats 4000000 in
set_option maxRecDepth 100000 in
theorem of_calls (g : Nat) (L : List Int) (x : Int) (w : World) (h0 : w.heap[g]? = some (.cells (vals .i64 L) 71 (0, 0))) (hl : L.length = 44) (hx : NumH x) (hx1 : x ≠ -10) :
  Calls Try.prog 71 #[.pointer (some ⟨g, 0, none⟩), .int .i8 x] w fun e w' => e = .returned (.int .i64 (rd L (slot x : Nat))) ∧ w' = w := by
 have hm := Mem.given h0
 have hv := hm.get (n := 0) rfl (slot x) (by have := slot_lt hx hx1; omega)
 clear h0
 by_cases hx0 : 0 ≤ x
 ·have hx9 : x < 40 := by rcases hx with h | h | h <;> omega
  rw [slot_flag hx0] at hv ⊢
  generalize rd L (x.toNat : Nat) = y at *
  clear hx hx1
  go_enter Try.func71, Try.ntmps71
  go_wp2
  go_ret
  exact ⟨rfl, rfl⟩
 ·have hx9 : x = -4 ∨ x = -3 ∨ x = -2 ∨ x = -1 := by rcases hx with h | h | h <;> omega
  generalize rd L (slot x : Nat) = y at *
  clear hx hx0 hx1
  have k0 : IntKind.i8.wrap 0 = 0 := rfl
  have k1 : IntKind.i8.wrap 1 = 1 := rfl
  have k2 : IntKind.i8.wrap 2 = 2 := rfl
  have k3 : IntKind.i8.wrap 3 = 3 := rfl
  have k4 : IntKind.i8.wrap 4 = 4 := rfl
  rcases hx9 with rfl | rfl | rfl | rfl
  all_goals
   simp [slot] at hv
   go_enter Try.func71, Try.ntmps71
   go_wp2
   go_ret
   exact ⟨rfl, rfl⟩
set_option maxHeartbeats 1000000 in
set_option maxRecDepth 100000 in
theorem cloneH_calls (A0 : Option Addr) (c0 : Nat) (l0 : List Int) (w : World) (hr0 : Kd.C (Kd.int .i8) w A0 l0.length l0) (hc0 : l0.length ≤ c0) (hl : l0.length < 140737488355328) :
  Calls Try.prog 70 #[.slice A0 l0.length c0] w fun e w' => ∃ v0 : Value, e = .returned v0 ∧ Own w.heap.size w' v0 l0 ∧ Below w.heap.size w w' := by
 have HR0 := Aside0.mk hr0
 have hm := Kd.C_max hr0
 have HL := Aside0.mk hl
 clear hr0 hl
 have heq := fun (W : World) (n c : Nat) => Lib.run_eql_slice_nil (P := Try.prog) W 28 64 A0 n c 0 0 Try.underlying28
 cases A0 with
 | none =>
  have h0 : l0 = [] := by
   rcases Nat.eq_zero_or_pos l0.length with h | h
   ·exact List.eq_nil_of_length_eq_zero h
   ·obtain ⟨ad, e, _⟩ := HR0.out.2.2 h; cases e
  go_enter Try.func70, Try.ntmps70
  go_wp2_with fail
  go_ret
  exact ⟨_, rfl, by rw [h0]; exact Kd.R_nil _ _ _ _ _, Below.refl _ _⟩
 | some ad =>
  go_enter Try.func70, Try.ntmps70
  go_wp2_with (first
   | ((with_reducible refine gate_dst (N := 5) rfl ?_); refine Kd.R_lit (Kd.int .i8) _ 64 ?hg (N := 5) ?hd (xs := ([] : List Int)) (inner := []) (ok := fun _ => True) (okp := fun _ => True) ?hr ?hp (fun _ hk => hk) trivial (Below.refl _ _) (Nat.le_refl _) (by simp) ?_; (case hd => rfl); (case hg => rfl); (case hr => first | (go_simp; done) | (go_simp; rfl)); (case hp => exact (Reps.none _ _)); intro v1 w1 ho hb _ _; have HO := Aside0.mk ho; have HB := Aside0.mk hb; clear ho hb)
   | ((with_reducible refine gate_builtin (b := .append) (xs := #[.tmp 5, .tmp 6]) rfl ?_); at_builtin; refine Kd.R_append_rows (Kd.int .i8) (w0 := w) w.heap.size rfl (.tmp 5) (.tmp 6) 28 64 (.int .i8 0) 1 rfl Try.underlying28 infoI8 rfl (by decide) (by omega) v1 [] l0 _ _ _ (fun _ => True) (fun _ => False) rfl rfl ?aO ?aR (fun _ _ h => h) (fun _ h => h.elim) (fun _ _ => trivial) ?aB ?aS ?aL ?_; (case aR => exact Kd.C_below HR0.out HB.out); (case aB => exact HB.out); (case aO => exact HO.out); (case aS => exact HB.out.size); (case aL => have := HL.out; simp; omega); intro v2 w2 ho hb _ _; have HO2 := Aside0.mk ho; have HB2 := Aside0.mk hb; clear ho hb))
  go_ret
  exact ⟨_, rfl, HO2.out, HB2.out⟩
end Go.Proofs.Ytfgogdhhihbcjaa.Arr
