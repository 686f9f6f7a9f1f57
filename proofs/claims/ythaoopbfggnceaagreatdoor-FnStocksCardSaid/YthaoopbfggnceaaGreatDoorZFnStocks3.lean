/- The texts that the statement FnStocks needs, part 3: contracts of the program's functions and plain laws, without what it does not reach. No condition beyond what each theorem says. -/
import Derived.Below
import Derived.Deep.Draws
import Derived.Deep.AppendLies
import Derived.Maps.AppendAt
import Derived.OwnWalk
import Derived.Laws.BytesArg
import Derived.Laws.MakeOwn
import Derived.Laws.OwnMore
import Derived.Deep.OwnRows
import Derived.Tactics
import Derived.Lib.ConvBytes
import Derived.Laws.Slices
import Derived.WalkKit
import Derived.KernelRfl
import Derived.RowKit3
import Derived.Deep.LoopGhost
import Derived.Deep.QuietTactic
import Derived.BigQuiet
import Derived.WideLaws
import Derived.Deep.DeepCutAuto
import Derived.Deep.CutBlock
import Derived.Deep.RegionHeld3
import Derived.Laws.Rows
import Derived.Lib.AppendStr
import Derived.ArgAppend
import Derived.Laws.IdiomCopy
import Derived.RowKit
import Derived.Laws.Tables
import Derived.BigFrame
import Derived.Laws.CopyRow
import Derived.Laws.ResultCell
import Derived.OrdersHeld
import Derived.Laws.BitsLemmas
import Derived.Laws.StructEq
import Derived.Test.YthaoopbfggnceaaGreatDoorProg
import Derived.WalkSpells
import Derived.StillTailTactics
import Derived.Laws.BitsAllLaws
import Derived.ProofKit
import Derived.OpenShut
import Derived.ChangeSame
import Derived.Shelf.Strconv.Itoa4
import Derived.Shelf.Strings.OnBuilder
import Derived.Lib.SplitLaws
import Derived.Lib.ParseIntB
import Derived.Lib.CountLaws
import Derived.Shelf.Strings.SplitShaped
import Derived.Shelf.Strings.Shaped
import Derived.Shelf.Small.Wraps
import Derived.Shelf.Strconv.ErrVarParseInt
import Derived.Lib.SmallJoins
import Derived.Lib.AppendIntMem
import Derived.Lib.ParseIntBTie
import Derived.Deep.Slices
import Derived.Test.YthaoopbfggnceaaGreatDoorRows
import Derived.ShutString
import Derived.ChangeOld
import Derived.SizedLaws
import Derived.HandedShaped
import Derived.LaidMore
import Derived.Lay
import Derived.Stop.Joined
import Derived.Stop.LaidErr
import Derived.Lib.LaidTab
import Derived.Test.YthaoopbfggnceaaGreatDoorCards
import Derived.Test.YthaoopbfggnceaaGreatDoorTie
import Derived.SevenTiedAt
import Derived.Test.YthaoopbfggnceaaGreatDoorZFnStocks2
namespace Go.Proofs.YthaoopbfggnceaaGreatDoor.Arr
open Go.RowKit Go.Proofs.YthaoopbfggnceaaGreatDoorW.PrintWords Go.Proofs.YthaoopbfggnceaaGreatDoorW.PrintLast Go.Proofs.YthaoopbfggnceaaGreatDoorW.PrintMore Go.Proofs.YthaoopbfggnceaaGreatDoor.U Go.Proofs.YthaoopbfggnceaaGreatDoor.L
set_option linter.unusedVariables false
set_option linter.unusedSimpArgs false
def lack (a b : Int) : Int := if a < b then b - a else 0
theorem set_same (L : List Int) (i : Nat) (hi : i < L.length) {v : Int} (h : L[i] = v) : L.set i v = L := by
 apply List.ext_getElem?
 intro j
 by_cases e : i = j
 ·subst e
  rw [List.getElem?_set_self hi, List.getElem?_eq_getElem hi, h]
 ·rw [List.getElem?_set_ne e]
theorem lens2 : ∀ (n : Nat) (L : List Int), (L.drop n).length = L.length - n := by simp
theorem mix_far (L S : List Int) (off i k : Nat) (h : off + i ≤ k) (hk : k < L.length) (hs : i ≤ S.length) : (mixTo L S off i)[k]? = L[k]? := by
 unfold mixTo
 rw [List.getElem?_append_right (by simp; omega)]
 simp [Nat.min_eq_left hs, Nat.min_eq_left (show off ≤ L.length by omega)]
 congr 1
 omega
theorem Mem.keeps {w0 w : World} {M : List Ent} (h : Mem w0 w M) (hk : ∀ e ∈ M, e.own = true ∨ w0.heap[e.g]? = some (.cells e.cs e.t (0, 0))) : Below w0.heap.size w0 w :=
 ⟨h.os, h.tape, h.output, h.size, fun k hkl => by
  by_cases he : ∃ e ∈ M, e.g = k
  ·obtain ⟨e, he, rfl⟩ := he
   rcases hk e he with ho | ho
   ·have := (h.ent e he).2 ho; omega
   ·rw [(h.ent e he).1, ho]
  ·exact h.block k hkl fun e hm hg => he ⟨e, hm, hg⟩⟩
theorem mix_at (L S : List Int) (off i : Nat) (h : off + i < L.length) (hs : i ≤ S.length) (h0 : ∀ k (hk : k < L.length), off ≤ k → L[k] = 0) (hk : off + i < (mixTo L S off i).length) : (mixTo L S off i)[off + i] = 0 := by
 have e : (mixTo L S off i)[off + i]? = L[off + i]? := by
  unfold mixTo
  rw [List.getElem?_append_right (by simp; omega)]
  simp [Nat.min_eq_left hs, Nat.min_eq_left (show off ≤ L.length by omega)]
 rw [List.getElem?_eq_getElem hk, List.getElem?_eq_getElem h] at e
 rw [Option.some.inj e, h0 _ h (by omega)]
theorem lack_pos {x y : Int} (h : x < y) : lack x y = y - x := if_pos h
theorem lack_neg {x y : Int} (h : ¬ x < y) : lack x y = 0 := if_neg h
set_option maxHeartbeats 8000000 in
set_option maxRecDepth 100000 in
theorem l04Missing_calls (g g' : Nat) (L L' : List Int) (w : World) (hl : L.length = 44) (hl' : L'.length = 44) (hb : ∀ x ∈ L, 0 ≤ x ∧ x ≤ 1000) (hb' : ∀ x ∈ L', 0 ≤ x ∧ x ≤ 1000) (hg : w.heap[g]? = some (.cells (vals .i16 L) 28 (0, 0))) (hg' : w.heap[g']? = some (.cells (vals .i16 L') 28 (0, 0))) (hne : g ≠ g') :
  Calls Tryz.prog 46 #[.pointer (some ⟨g, 0, none⟩), .pointer (some ⟨g', 0, none⟩)] w fun e w' => e = .returned (.agg (vals .i16 (List.zipWith lack L L'))) ∧ Below w.heap.size w w' := by
 have hm := Mem.given2 hg hg' hne
 have HB := Aside0.mk hb
 have HB' := Aside0.mk hb'
 have HG := Aside0.mk hg
 have HG' := Aside0.mk hg'
 have hz := zip_length lack L L' hl hl'
 clear hb hb' hg hg'
 go_enter Tryz.func46, Tryz.ntmps46
 go_wp2_with (first | fail | ((with_reducible refine gt_alloc 4 28 ?_); refine st_alloc rfl 4 rfl 28 rfl hm zero28 ?_; clear hm; intro g4 w4 hm) | ((with_reducible refine gt_build 28 ?_); refine st_zero rfl 28 rfl built28 ?_) | ((with_reducible refine gt_alloc 5 28 ?_); refine st_alloc rfl 5 rfl 28 rfl hm zero28 ?_; clear hm; intro g5 w5 hm) | ((with_reducible refine gt_store 28 ?_); (first | (refine st_full rfl 28 _ _ rfl hm rfl rfl 0 rfl agg28 (by first | omega | assumption | (simp only [lens]; first | omega | assumption) | (simp [lens]; done) | (simp [lens]; omega)) (by first | omega | assumption | (simp only [lens]; first | omega | assumption) | (simp [lens]; done) | (simp [lens]; omega)) ?_) | (refine st_full rfl 28 _ _ rfl hm rfl rfl 1 rfl agg28 (by first | omega | assumption | (simp only [lens]; first | omega | assumption) | (simp [lens]; done) | (simp [lens]; omega)) (by first | omega | assumption | (simp only [lens]; first | omega | assumption) | (simp [lens]; done) | (simp [lens]; omega)) ?_) | (refine st_full rfl 28 _ _ rfl hm rfl rfl 2 rfl agg28 (by first | omega | assumption | (simp only [lens]; first | omega | assumption) | (simp [lens]; done) | (simp [lens]; omega)) (by first | omega | assumption | (simp only [lens]; first | omega | assumption) | (simp [lens]; done) | (simp [lens]; omega)) ?_) | (refine st_full rfl 28 _ _ rfl hm rfl rfl 3 rfl agg28 (by first | omega | assumption | (simp only [lens]; first | omega | assumption) | (simp [lens]; done) | (simp [lens]; omega)) (by first | omega | assumption | (simp only [lens]; first | omega | assumption) | (simp [lens]; done) | (simp [lens]; omega)) ?_)); clear hm; intro ws hm; simp only [List.set_cons_zero, List.set_cons_succ] at hm) | ((with_reducible refine gt_field 28 0 ?_); refine st_field rfl 28 _ 0 rfl rfl field28_0 ?_) | ((with_reducible refine gt_elem 25 ?_); refine st_elem rfl 25 _ _ rfl rfl rfl arr25 (by first | omega | assumption | (simp only [lens]; first | omega | assumption) | (simp [lens]; done) | (simp [lens]; omega)) (by first | omega | assumption | (simp only [lens]; first | omega | assumption) | (simp [lens]; done) | (simp [lens]; omega)) ?_) | ((with_reducible refine gt_load 24 ?_); (first | (refine st_get rfl 24 _ rfl hm rfl 0 rfl one24 (by first | omega | assumption | (simp only [lens]; first | omega | assumption) | (simp [lens]; done) | (simp [lens]; omega)) ?_) | (refine st_get rfl 24 _ rfl hm rfl 1 rfl one24 (by first | omega | assumption | (simp only [lens]; first | omega | assumption) | (simp [lens]; done) | (simp [lens]; omega)) ?_) | (refine st_get rfl 24 _ rfl hm rfl 2 rfl one24 (by first | omega | assumption | (simp only [lens]; first | omega | assumption) | (simp [lens]; done) | (simp [lens]; omega)) ?_) | (refine st_get rfl 24 _ rfl hm rfl 3 rfl one24 (by first | omega | assumption | (simp only [lens]; first | omega | assumption) | (simp [lens]; done) | (simp [lens]; omega)) ?_))) | ((with_reducible refine gt_store 24 ?_); (first | (refine st_set rfl 24 _ _ rfl hm rfl rfl 0 rfl one24 (by first | omega | assumption | (simp only [lens]; first | omega | assumption) | (simp [lens]; done) | (simp [lens]; omega)) ?_) | (refine st_set rfl 24 _ _ rfl hm rfl rfl 1 rfl one24 (by first | omega | assumption | (simp only [lens]; first | omega | assumption) | (simp [lens]; done) | (simp [lens]; omega)) ?_) | (refine st_set rfl 24 _ _ rfl hm rfl rfl 2 rfl one24 (by first | omega | assumption | (simp only [lens]; first | omega | assumption) | (simp [lens]; done) | (simp [lens]; omega)) ?_) | (refine st_set rfl 24 _ _ rfl hm rfl rfl 3 rfl one24 (by first | omega | assumption | (simp only [lens]; first | omega | assumption) | (simp [lens]; done) | (simp [lens]; omega)) ?_)); clear hm; intro ws hm; simp only [List.set_cons_zero, List.set_cons_succ] at hm) | ((with_reducible refine gt_field 28 1 ?_); refine st_field rfl 28 _ 1 rfl rfl field28_1 ?_) | ((with_reducible refine gt_elem 26 ?_); refine st_elem rfl 26 _ _ rfl rfl rfl arr26 (by first | omega | assumption | (simp only [lens]; first | omega | assumption) | (simp [lens]; done) | (simp [lens]; omega)) (by first | omega | assumption | (simp only [lens]; first | omega | assumption) | (simp [lens]; done) | (simp [lens]; omega)) ?_) | ((with_reducible refine gt_load 28 ?_); (first | (refine st_load rfl 28 _ rfl hm rfl 0 rfl agg28 (by first | omega | assumption | (simp only [lens]; first | omega | assumption) | (simp [lens]; done) | (simp [lens]; omega)) ?_) | (refine st_load rfl 28 _ rfl hm rfl 1 rfl agg28 (by first | omega | assumption | (simp only [lens]; first | omega | assumption) | (simp [lens]; done) | (simp [lens]; omega)) ?_) | (refine st_load rfl 28 _ rfl hm rfl 2 rfl agg28 (by first | omega | assumption | (simp only [lens]; first | omega | assumption) | (simp [lens]; done) | (simp [lens]; omega)) ?_) | (refine st_load rfl 28 _ rfl hm rfl 3 rfl agg28 (by first | omega | assumption | (simp only [lens]; first | omega | assumption) | (simp [lens]; done) | (simp [lens]; omega)) ?_))))
 go_loopw [6] (fun v6 wr => ∃ i : Nat, i ≤ 40 ∧ v6 = .int .i64 i ∧ Mem w wr [⟨g5, vals .i16 (mixTo (zs 44) (List.zipWith lack L L') 0 i), 28, true⟩, ⟨g4, vals .i16 (zs 44), 28, true⟩, ⟨g, vals .i16 L, 28, false⟩, ⟨g', vals .i16 L', 28, false⟩]) (fun v6 _ => 40 - (intOf v6).toNat)
 case atStart => exact ⟨0, by omega, rfl, by rw [mixTo_zero]; exact hm⟩
 case round =>
  obtain ⟨i, hi, rfl, hm⟩ := hrel
  have hl2 := mixTo_length (zs 44) (List.zipWith lack L L') 0 i (by rw [zs_length]; omega) (by omega)
  rw [zs_length] at hl2
  by_cases hlt : i < 40
  ·have hc1 := hm.get (n := 2) rfl (i) (by omega)
   have hc2 := hm.get (n := 3) rfl (i) (by omega)
   have HZ := Aside0.mk (rd_zip lack L L' i (by omega) (by omega))
   have hx := HB.out _ (rd_in L (i) (by omega))
   have hy := HB'.out _ (rd_in L' (i) (by omega))
   generalize hX : rd L (i : Int) = x at *
   generalize hY : rd L' (i : Int) = y at *
   have HX := Aside0.mk hX
   have HY := Aside0.mk hY
   have HW := Aside0.mk (show IntKind.i16.wrap (max (y - x) 0) = max (y - x) 0 from w16_small (by omega) (by omega))
   clear hX hY
   by_cases hxy : x < y
   ·have hd := decide_eq_true hxy
    have HW2 := Aside0.mk (show IntKind.i16.wrap (y - x) = y - x from w16_small (by omega) (by omega))
    have HM := Aside0.mk hm
    clear hm
    go_wp2
    go_quiet (fail)
    have hm := HM.out.drawn (wr.drawn + nq)
    replace hm : Mem w (wr.drewN nq) _ := hm
    have hd1 := hm.get (n := 2) rfl (i) (by omega)
    have hd2 := hm.get (n := 3) rfl (i) (by omega)
    rw [HX.out] at hd1
    rw [HY.out] at hd2
    clear HM hc1 hc2
    generalize wr.drewN nq = w2 at *
    have HM := Aside0.mk hm
    clear hm
    go_wp2
    go_still_tail 16, (by kernel_rfl)
    have hm := HM.out.drawn (w2.drawn + 1)
    go_wp2_with (first | fail | ((with_reducible refine gt_alloc 4 28 ?_); refine st_alloc rfl 4 rfl 28 rfl hm zero28 ?_; clear hm; intro g4 w4 hm) | ((with_reducible refine gt_build 28 ?_); refine st_zero rfl 28 rfl built28 ?_) | ((with_reducible refine gt_alloc 5 28 ?_); refine st_alloc rfl 5 rfl 28 rfl hm zero28 ?_; clear hm; intro g5 w5 hm) | ((with_reducible refine gt_store 28 ?_); (first | (refine st_full rfl 28 _ _ rfl hm rfl rfl 0 rfl agg28 (by first | omega | assumption | (simp only [lens]; first | omega | assumption) | (simp [lens]; done) | (simp [lens]; omega)) (by first | omega | assumption | (simp only [lens]; first | omega | assumption) | (simp [lens]; done) | (simp [lens]; omega)) ?_) | (refine st_full rfl 28 _ _ rfl hm rfl rfl 1 rfl agg28 (by first | omega | assumption | (simp only [lens]; first | omega | assumption) | (simp [lens]; done) | (simp [lens]; omega)) (by first | omega | assumption | (simp only [lens]; first | omega | assumption) | (simp [lens]; done) | (simp [lens]; omega)) ?_) | (refine st_full rfl 28 _ _ rfl hm rfl rfl 2 rfl agg28 (by first | omega | assumption | (simp only [lens]; first | omega | assumption) | (simp [lens]; done) | (simp [lens]; omega)) (by first | omega | assumption | (simp only [lens]; first | omega | assumption) | (simp [lens]; done) | (simp [lens]; omega)) ?_) | (refine st_full rfl 28 _ _ rfl hm rfl rfl 3 rfl agg28 (by first | omega | assumption | (simp only [lens]; first | omega | assumption) | (simp [lens]; done) | (simp [lens]; omega)) (by first | omega | assumption | (simp only [lens]; first | omega | assumption) | (simp [lens]; done) | (simp [lens]; omega)) ?_)); clear hm; intro ws hm; simp only [List.set_cons_zero, List.set_cons_succ] at hm) | ((with_reducible refine gt_field 28 0 ?_); refine st_field rfl 28 _ 0 rfl rfl field28_0 ?_) | ((with_reducible refine gt_elem 25 ?_); refine st_elem rfl 25 _ _ rfl rfl rfl arr25 (by first | omega | assumption | (simp only [lens]; first | omega | assumption) | (simp [lens]; done) | (simp [lens]; omega)) (by first | omega | assumption | (simp only [lens]; first | omega | assumption) | (simp [lens]; done) | (simp [lens]; omega)) ?_) | ((with_reducible refine gt_load 24 ?_); (first | (refine st_get rfl 24 _ rfl hm rfl 0 rfl one24 (by first | omega | assumption | (simp only [lens]; first | omega | assumption) | (simp [lens]; done) | (simp [lens]; omega)) ?_) | (refine st_get rfl 24 _ rfl hm rfl 1 rfl one24 (by first | omega | assumption | (simp only [lens]; first | omega | assumption) | (simp [lens]; done) | (simp [lens]; omega)) ?_) | (refine st_get rfl 24 _ rfl hm rfl 2 rfl one24 (by first | omega | assumption | (simp only [lens]; first | omega | assumption) | (simp [lens]; done) | (simp [lens]; omega)) ?_) | (refine st_get rfl 24 _ rfl hm rfl 3 rfl one24 (by first | omega | assumption | (simp only [lens]; first | omega | assumption) | (simp [lens]; done) | (simp [lens]; omega)) ?_))) | ((with_reducible refine gt_store 24 ?_); (first | (refine st_set rfl 24 _ _ rfl hm rfl rfl 0 rfl one24 (by first | omega | assumption | (simp only [lens]; first | omega | assumption) | (simp [lens]; done) | (simp [lens]; omega)) ?_) | (refine st_set rfl 24 _ _ rfl hm rfl rfl 1 rfl one24 (by first | omega | assumption | (simp only [lens]; first | omega | assumption) | (simp [lens]; done) | (simp [lens]; omega)) ?_) | (refine st_set rfl 24 _ _ rfl hm rfl rfl 2 rfl one24 (by first | omega | assumption | (simp only [lens]; first | omega | assumption) | (simp [lens]; done) | (simp [lens]; omega)) ?_) | (refine st_set rfl 24 _ _ rfl hm rfl rfl 3 rfl one24 (by first | omega | assumption | (simp only [lens]; first | omega | assumption) | (simp [lens]; done) | (simp [lens]; omega)) ?_)); clear hm; intro ws hm; simp only [List.set_cons_zero, List.set_cons_succ] at hm) | ((with_reducible refine gt_field 28 1 ?_); refine st_field rfl 28 _ 1 rfl rfl field28_1 ?_) | ((with_reducible refine gt_elem 26 ?_); refine st_elem rfl 26 _ _ rfl rfl rfl arr26 (by first | omega | assumption | (simp only [lens]; first | omega | assumption) | (simp [lens]; done) | (simp [lens]; omega)) (by first | omega | assumption | (simp only [lens]; first | omega | assumption) | (simp [lens]; done) | (simp [lens]; omega)) ?_) | ((with_reducible refine gt_load 28 ?_); (first | (refine st_load rfl 28 _ rfl hm rfl 0 rfl agg28 (by first | omega | assumption | (simp only [lens]; first | omega | assumption) | (simp [lens]; done) | (simp [lens]; omega)) ?_) | (refine st_load rfl 28 _ rfl hm rfl 1 rfl agg28 (by first | omega | assumption | (simp only [lens]; first | omega | assumption) | (simp [lens]; done) | (simp [lens]; omega)) ?_) | (refine st_load rfl 28 _ rfl hm rfl 2 rfl agg28 (by first | omega | assumption | (simp only [lens]; first | omega | assumption) | (simp [lens]; done) | (simp [lens]; omega)) ?_) | (refine st_load rfl 28 _ rfl hm rfl 3 rfl agg28 (by first | omega | assumption | (simp only [lens]; first | omega | assumption) | (simp [lens]; done) | (simp [lens]; omega)) ?_))))
    go_roundw
    case rel =>
     refine ⟨i + 1, by omega, by go_num, ?_⟩
     rw [HW2.out] at hm
     rw [← mixTo_succ (zs 44) (List.zipWith lack L L') 0 i (by rw [zs_length]; omega) (by omega), HZ.out, lack_pos hxy]
     simpa using hm
    case measure => simp [intOf]; omega
   ·have hd := decide_eq_false hxy
    have HM := Aside0.mk hm
    have HS := Aside0.mk (show mixTo (zs 44) (List.zipWith lack L L') 0 i = mixTo (zs 44) (List.zipWith lack L L') 0 (i + 1) by
     have e := mixTo_succ (zs 44) (List.zipWith lack L L') 0 i (by rw [zs_length]; omega) (by omega)
     rw [HZ.out, lack_neg hxy] at e
     rw [← e]
     exact (set_same _ _ (by omega) (mix_at (zs 44) (List.zipWith lack L L') 0 i (by rw [zs_length]; omega) (by omega) (fun k hk _ => List.getElem_replicate _) _)).symm)
    clear hm
    go_wp2
    go_quiet (fail)
    go_wp2
    go_roundw
    case rel => exact ⟨i + 1, by omega, by go_num, by rw [← HS.out]; exact HM.out.drawn (wr.drawn + nq)⟩
    case measure => simp [intOf]; omega
  ·have HI := Aside0.mk (show i = 40 by omega)
   have HF0 : Aside0 (∀ k (hk : k < (mixTo (zs 44) (List.zipWith lack L L') 0 i).length), 40 ≤ k → (mixTo (zs 44) (List.zipWith lack L L') 0 i)[k] = 0) := ⟨fun k hk h40 => by
    have e := mix_far (zs 44) (List.zipWith lack L L') 0 i k (by omega) (by rw [zs_length]; omega) (by omega)
    rw [List.getElem?_eq_getElem hk, List.getElem?_eq_getElem (by rw [zs_length]; omega)] at e
    rw [Option.some.inj e]
    exact List.getElem_replicate _⟩
   generalize hF : mixTo (zs 44) (List.zipWith lack L L') 0 i = F at *
   have HF := Aside0.mk hF
   clear hF
   go_wp2_with (first | fail | ((with_reducible refine gt_alloc 4 28 ?_); refine st_alloc rfl 4 rfl 28 rfl hm zero28 ?_; clear hm; intro g4 w4 hm) | ((with_reducible refine gt_build 28 ?_); refine st_zero rfl 28 rfl built28 ?_) | ((with_reducible refine gt_alloc 5 28 ?_); refine st_alloc rfl 5 rfl 28 rfl hm zero28 ?_; clear hm; intro g5 w5 hm) | ((with_reducible refine gt_store 28 ?_); (first | (refine st_full rfl 28 _ _ rfl hm rfl rfl 0 rfl agg28 (by first | omega | assumption | (simp only [lens]; first | omega | assumption) | (simp [lens]; done) | (simp [lens]; omega)) (by first | omega | assumption | (simp only [lens]; first | omega | assumption) | (simp [lens]; done) | (simp [lens]; omega)) ?_) | (refine st_full rfl 28 _ _ rfl hm rfl rfl 1 rfl agg28 (by first | omega | assumption | (simp only [lens]; first | omega | assumption) | (simp [lens]; done) | (simp [lens]; omega)) (by first | omega | assumption | (simp only [lens]; first | omega | assumption) | (simp [lens]; done) | (simp [lens]; omega)) ?_) | (refine st_full rfl 28 _ _ rfl hm rfl rfl 2 rfl agg28 (by first | omega | assumption | (simp only [lens]; first | omega | assumption) | (simp [lens]; done) | (simp [lens]; omega)) (by first | omega | assumption | (simp only [lens]; first | omega | assumption) | (simp [lens]; done) | (simp [lens]; omega)) ?_) | (refine st_full rfl 28 _ _ rfl hm rfl rfl 3 rfl agg28 (by first | omega | assumption | (simp only [lens]; first | omega | assumption) | (simp [lens]; done) | (simp [lens]; omega)) (by first | omega | assumption | (simp only [lens]; first | omega | assumption) | (simp [lens]; done) | (simp [lens]; omega)) ?_)); clear hm; intro ws hm; simp only [List.set_cons_zero, List.set_cons_succ] at hm) | ((with_reducible refine gt_field 28 0 ?_); refine st_field rfl 28 _ 0 rfl rfl field28_0 ?_) | ((with_reducible refine gt_elem 25 ?_); refine st_elem rfl 25 _ _ rfl rfl rfl arr25 (by first | omega | assumption | (simp only [lens]; first | omega | assumption) | (simp [lens]; done) | (simp [lens]; omega)) (by first | omega | assumption | (simp only [lens]; first | omega | assumption) | (simp [lens]; done) | (simp [lens]; omega)) ?_) | ((with_reducible refine gt_load 24 ?_); (first | (refine st_get rfl 24 _ rfl hm rfl 0 rfl one24 (by first | omega | assumption | (simp only [lens]; first | omega | assumption) | (simp [lens]; done) | (simp [lens]; omega)) ?_) | (refine st_get rfl 24 _ rfl hm rfl 1 rfl one24 (by first | omega | assumption | (simp only [lens]; first | omega | assumption) | (simp [lens]; done) | (simp [lens]; omega)) ?_) | (refine st_get rfl 24 _ rfl hm rfl 2 rfl one24 (by first | omega | assumption | (simp only [lens]; first | omega | assumption) | (simp [lens]; done) | (simp [lens]; omega)) ?_) | (refine st_get rfl 24 _ rfl hm rfl 3 rfl one24 (by first | omega | assumption | (simp only [lens]; first | omega | assumption) | (simp [lens]; done) | (simp [lens]; omega)) ?_))) | ((with_reducible refine gt_store 24 ?_); (first | (refine st_set rfl 24 _ _ rfl hm rfl rfl 0 rfl one24 (by first | omega | assumption | (simp only [lens]; first | omega | assumption) | (simp [lens]; done) | (simp [lens]; omega)) ?_) | (refine st_set rfl 24 _ _ rfl hm rfl rfl 1 rfl one24 (by first | omega | assumption | (simp only [lens]; first | omega | assumption) | (simp [lens]; done) | (simp [lens]; omega)) ?_) | (refine st_set rfl 24 _ _ rfl hm rfl rfl 2 rfl one24 (by first | omega | assumption | (simp only [lens]; first | omega | assumption) | (simp [lens]; done) | (simp [lens]; omega)) ?_) | (refine st_set rfl 24 _ _ rfl hm rfl rfl 3 rfl one24 (by first | omega | assumption | (simp only [lens]; first | omega | assumption) | (simp [lens]; done) | (simp [lens]; omega)) ?_)); clear hm; intro ws hm; simp only [List.set_cons_zero, List.set_cons_succ] at hm) | ((with_reducible refine gt_field 28 1 ?_); refine st_field rfl 28 _ 1 rfl rfl field28_1 ?_) | ((with_reducible refine gt_elem 26 ?_); refine st_elem rfl 26 _ _ rfl rfl rfl arr26 (by first | omega | assumption | (simp only [lens]; first | omega | assumption) | (simp [lens]; done) | (simp [lens]; omega)) (by first | omega | assumption | (simp only [lens]; first | omega | assumption) | (simp [lens]; done) | (simp [lens]; omega)) ?_) | ((with_reducible refine gt_load 28 ?_); (first | (refine st_load rfl 28 _ rfl hm rfl 0 rfl agg28 (by first | omega | assumption | (simp only [lens]; first | omega | assumption) | (simp [lens]; done) | (simp [lens]; omega)) ?_) | (refine st_load rfl 28 _ rfl hm rfl 1 rfl agg28 (by first | omega | assumption | (simp only [lens]; first | omega | assumption) | (simp [lens]; done) | (simp [lens]; omega)) ?_) | (refine st_load rfl 28 _ rfl hm rfl 2 rfl agg28 (by first | omega | assumption | (simp only [lens]; first | omega | assumption) | (simp [lens]; done) | (simp [lens]; omega)) ?_) | (refine st_load rfl 28 _ rfl hm rfl 3 rfl agg28 (by first | omega | assumption | (simp only [lens]; first | omega | assumption) | (simp [lens]; done) | (simp [lens]; omega)) ?_))))
   go_loopw [7] (fun v7 wr => ∃ i : Nat, i ≤ 4 ∧ v7 = .int .i64 i ∧ Mem w wr [⟨g5, vals .i16 (mixTo F ((List.zipWith lack L L').drop 40) 40 i), 28, true⟩, ⟨g4, vals .i16 (zs 44), 28, true⟩, ⟨g, vals .i16 L, 28, false⟩, ⟨g', vals .i16 L', 28, false⟩]) (fun v7 _ => 4 - (intOf v7).toNat)
   case atStart => exact ⟨0, by omega, rfl, by rw [mixTo_zero]; exact hm⟩
   case round =>
    obtain ⟨i2, hi2, rfl, hm⟩ := hrel
    have hl3 := mixTo_length F ((List.zipWith lack L L').drop 40) 40 i2 (by omega) (by simp only [lens2]; omega)
    by_cases hlt : i2 < 4
    ·have hc1 := hm.get (n := 2) rfl (40 + i2) (by omega)
     have hc2 := hm.get (n := 3) rfl (40 + i2) (by omega)
     have HZ := Aside0.mk ((rd_drop (List.zipWith lack L L') i2 40 (by omega)).trans (rd_zip lack L L' (40 + i2) (by omega) (by omega)))
     have hx := HB.out _ (rd_in L (40 + i2) (by omega))
     have hy := HB'.out _ (rd_in L' (40 + i2) (by omega))
     generalize hX : rd L ((40 + i2 : Nat) : Int) = x at *
     generalize hY : rd L' ((40 + i2 : Nat) : Int) = y at *
     have HX := Aside0.mk hX
     have HY := Aside0.mk hY
     have HW := Aside0.mk (show IntKind.i16.wrap (max (y - x) 0) = max (y - x) 0 from w16_small (by omega) (by omega))
     clear hX hY
     by_cases hxy : x < y
     ·have hd := decide_eq_true hxy
      have HW2 := Aside0.mk (show IntKind.i16.wrap (y - x) = y - x from w16_small (by omega) (by omega))
      have HM := Aside0.mk hm
      clear hm
      go_wp2
      go_quiet (fail)
      have hm := HM.out.drawn (wr.drawn + nq)
      replace hm : Mem w (wr.drewN nq) _ := hm
      have hd1 := hm.get (n := 2) rfl (40 + i2) (by omega)
      have hd2 := hm.get (n := 3) rfl (40 + i2) (by omega)
      rw [HX.out] at hd1
      rw [HY.out] at hd2
      clear HM hc1 hc2
      generalize wr.drewN nq = w2 at *
      have HM := Aside0.mk hm
      clear hm
      go_wp2
      go_still_tail 16, (by kernel_rfl)
      have hm := HM.out.drawn (w2.drawn + 1)
      go_wp2_with (first | fail | ((with_reducible refine gt_alloc 4 28 ?_); refine st_alloc rfl 4 rfl 28 rfl hm zero28 ?_; clear hm; intro g4 w4 hm) | ((with_reducible refine gt_build 28 ?_); refine st_zero rfl 28 rfl built28 ?_) | ((with_reducible refine gt_alloc 5 28 ?_); refine st_alloc rfl 5 rfl 28 rfl hm zero28 ?_; clear hm; intro g5 w5 hm) | ((with_reducible refine gt_store 28 ?_); (first | (refine st_full rfl 28 _ _ rfl hm rfl rfl 0 rfl agg28 (by first | omega | assumption | (simp only [lens]; first | omega | assumption) | (simp [lens]; done) | (simp [lens]; omega)) (by first | omega | assumption | (simp only [lens]; first | omega | assumption) | (simp [lens]; done) | (simp [lens]; omega)) ?_) | (refine st_full rfl 28 _ _ rfl hm rfl rfl 1 rfl agg28 (by first | omega | assumption | (simp only [lens]; first | omega | assumption) | (simp [lens]; done) | (simp [lens]; omega)) (by first | omega | assumption | (simp only [lens]; first | omega | assumption) | (simp [lens]; done) | (simp [lens]; omega)) ?_) | (refine st_full rfl 28 _ _ rfl hm rfl rfl 2 rfl agg28 (by first | omega | assumption | (simp only [lens]; first | omega | assumption) | (simp [lens]; done) | (simp [lens]; omega)) (by first | omega | assumption | (simp only [lens]; first | omega | assumption) | (simp [lens]; done) | (simp [lens]; omega)) ?_) | (refine st_full rfl 28 _ _ rfl hm rfl rfl 3 rfl agg28 (by first | omega | assumption | (simp only [lens]; first | omega | assumption) | (simp [lens]; done) | (simp [lens]; omega)) (by first | omega | assumption | (simp only [lens]; first | omega | assumption) | (simp [lens]; done) | (simp [lens]; omega)) ?_)); clear hm; intro ws hm; simp only [List.set_cons_zero, List.set_cons_succ] at hm) | ((with_reducible refine gt_field 28 0 ?_); refine st_field rfl 28 _ 0 rfl rfl field28_0 ?_) | ((with_reducible refine gt_elem 25 ?_); refine st_elem rfl 25 _ _ rfl rfl rfl arr25 (by first | omega | assumption | (simp only [lens]; first | omega | assumption) | (simp [lens]; done) | (simp [lens]; omega)) (by first | omega | assumption | (simp only [lens]; first | omega | assumption) | (simp [lens]; done) | (simp [lens]; omega)) ?_) | ((with_reducible refine gt_load 24 ?_); (first | (refine st_get rfl 24 _ rfl hm rfl 0 rfl one24 (by first | omega | assumption | (simp only [lens]; first | omega | assumption) | (simp [lens]; done) | (simp [lens]; omega)) ?_) | (refine st_get rfl 24 _ rfl hm rfl 1 rfl one24 (by first | omega | assumption | (simp only [lens]; first | omega | assumption) | (simp [lens]; done) | (simp [lens]; omega)) ?_) | (refine st_get rfl 24 _ rfl hm rfl 2 rfl one24 (by first | omega | assumption | (simp only [lens]; first | omega | assumption) | (simp [lens]; done) | (simp [lens]; omega)) ?_) | (refine st_get rfl 24 _ rfl hm rfl 3 rfl one24 (by first | omega | assumption | (simp only [lens]; first | omega | assumption) | (simp [lens]; done) | (simp [lens]; omega)) ?_))) | ((with_reducible refine gt_store 24 ?_); (first | (refine st_set rfl 24 _ _ rfl hm rfl rfl 0 rfl one24 (by first | omega | assumption | (simp only [lens]; first | omega | assumption) | (simp [lens]; done) | (simp [lens]; omega)) ?_) | (refine st_set rfl 24 _ _ rfl hm rfl rfl 1 rfl one24 (by first | omega | assumption | (simp only [lens]; first | omega | assumption) | (simp [lens]; done) | (simp [lens]; omega)) ?_) | (refine st_set rfl 24 _ _ rfl hm rfl rfl 2 rfl one24 (by first | omega | assumption | (simp only [lens]; first | omega | assumption) | (simp [lens]; done) | (simp [lens]; omega)) ?_) | (refine st_set rfl 24 _ _ rfl hm rfl rfl 3 rfl one24 (by first | omega | assumption | (simp only [lens]; first | omega | assumption) | (simp [lens]; done) | (simp [lens]; omega)) ?_)); clear hm; intro ws hm; simp only [List.set_cons_zero, List.set_cons_succ] at hm) | ((with_reducible refine gt_field 28 1 ?_); refine st_field rfl 28 _ 1 rfl rfl field28_1 ?_) | ((with_reducible refine gt_elem 26 ?_); refine st_elem rfl 26 _ _ rfl rfl rfl arr26 (by first | omega | assumption | (simp only [lens]; first | omega | assumption) | (simp [lens]; done) | (simp [lens]; omega)) (by first | omega | assumption | (simp only [lens]; first | omega | assumption) | (simp [lens]; done) | (simp [lens]; omega)) ?_) | ((with_reducible refine gt_load 28 ?_); (first | (refine st_load rfl 28 _ rfl hm rfl 0 rfl agg28 (by first | omega | assumption | (simp only [lens]; first | omega | assumption) | (simp [lens]; done) | (simp [lens]; omega)) ?_) | (refine st_load rfl 28 _ rfl hm rfl 1 rfl agg28 (by first | omega | assumption | (simp only [lens]; first | omega | assumption) | (simp [lens]; done) | (simp [lens]; omega)) ?_) | (refine st_load rfl 28 _ rfl hm rfl 2 rfl agg28 (by first | omega | assumption | (simp only [lens]; first | omega | assumption) | (simp [lens]; done) | (simp [lens]; omega)) ?_) | (refine st_load rfl 28 _ rfl hm rfl 3 rfl agg28 (by first | omega | assumption | (simp only [lens]; first | omega | assumption) | (simp [lens]; done) | (simp [lens]; omega)) ?_))))
      go_roundw
      case rel =>
       refine ⟨i2 + 1, by omega, by go_num, ?_⟩
       rw [HW2.out] at hm
       rw [← mixTo_succ F ((List.zipWith lack L L').drop 40) 40 i2 (by omega) (by simp only [lens2]; omega), HZ.out, lack_pos hxy]
       simpa using hm
      case measure => simp [intOf]; omega
     ·have hd := decide_eq_false hxy
      have HM := Aside0.mk hm
      have HS := Aside0.mk (show mixTo F ((List.zipWith lack L L').drop 40) 40 i2 = mixTo F ((List.zipWith lack L L').drop 40) 40 (i2 + 1) by
       have e := mixTo_succ F ((List.zipWith lack L L').drop 40) 40 i2 (by omega) (by simp only [lens2]; omega)
       rw [HZ.out, lack_neg hxy] at e
       rw [← e]
       exact (set_same _ _ (by omega) (mix_at F ((List.zipWith lack L L').drop 40) 40 i2 (by omega) (by simp only [lens2]; omega) HF0.out _)).symm)
      clear hm
      go_wp2
      go_quiet (fail)
      go_wp2
      go_roundw
      case rel => exact ⟨i2 + 1, by omega, by go_num, by rw [← HS.out]; exact HM.out.drawn (wr.drawn + nq)⟩
      case measure => simp [intOf]; omega
    ·have HI2 := Aside0.mk (show i2 = 4 by omega)
     go_wp2_with (first | fail | ((with_reducible refine gt_alloc 4 28 ?_); refine st_alloc rfl 4 rfl 28 rfl hm zero28 ?_; clear hm; intro g4 w4 hm) | ((with_reducible refine gt_build 28 ?_); refine st_zero rfl 28 rfl built28 ?_) | ((with_reducible refine gt_alloc 5 28 ?_); refine st_alloc rfl 5 rfl 28 rfl hm zero28 ?_; clear hm; intro g5 w5 hm) | ((with_reducible refine gt_store 28 ?_); (first | (refine st_full rfl 28 _ _ rfl hm rfl rfl 0 rfl agg28 (by first | omega | assumption | (simp only [lens]; first | omega | assumption) | (simp [lens]; done) | (simp [lens]; omega)) (by first | omega | assumption | (simp only [lens]; first | omega | assumption) | (simp [lens]; done) | (simp [lens]; omega)) ?_) | (refine st_full rfl 28 _ _ rfl hm rfl rfl 1 rfl agg28 (by first | omega | assumption | (simp only [lens]; first | omega | assumption) | (simp [lens]; done) | (simp [lens]; omega)) (by first | omega | assumption | (simp only [lens]; first | omega | assumption) | (simp [lens]; done) | (simp [lens]; omega)) ?_) | (refine st_full rfl 28 _ _ rfl hm rfl rfl 2 rfl agg28 (by first | omega | assumption | (simp only [lens]; first | omega | assumption) | (simp [lens]; done) | (simp [lens]; omega)) (by first | omega | assumption | (simp only [lens]; first | omega | assumption) | (simp [lens]; done) | (simp [lens]; omega)) ?_) | (refine st_full rfl 28 _ _ rfl hm rfl rfl 3 rfl agg28 (by first | omega | assumption | (simp only [lens]; first | omega | assumption) | (simp [lens]; done) | (simp [lens]; omega)) (by first | omega | assumption | (simp only [lens]; first | omega | assumption) | (simp [lens]; done) | (simp [lens]; omega)) ?_)); clear hm; intro ws hm; simp only [List.set_cons_zero, List.set_cons_succ] at hm) | ((with_reducible refine gt_field 28 0 ?_); refine st_field rfl 28 _ 0 rfl rfl field28_0 ?_) | ((with_reducible refine gt_elem 25 ?_); refine st_elem rfl 25 _ _ rfl rfl rfl arr25 (by first | omega | assumption | (simp only [lens]; first | omega | assumption) | (simp [lens]; done) | (simp [lens]; omega)) (by first | omega | assumption | (simp only [lens]; first | omega | assumption) | (simp [lens]; done) | (simp [lens]; omega)) ?_) | ((with_reducible refine gt_load 24 ?_); (first | (refine st_get rfl 24 _ rfl hm rfl 0 rfl one24 (by first | omega | assumption | (simp only [lens]; first | omega | assumption) | (simp [lens]; done) | (simp [lens]; omega)) ?_) | (refine st_get rfl 24 _ rfl hm rfl 1 rfl one24 (by first | omega | assumption | (simp only [lens]; first | omega | assumption) | (simp [lens]; done) | (simp [lens]; omega)) ?_) | (refine st_get rfl 24 _ rfl hm rfl 2 rfl one24 (by first | omega | assumption | (simp only [lens]; first | omega | assumption) | (simp [lens]; done) | (simp [lens]; omega)) ?_) | (refine st_get rfl 24 _ rfl hm rfl 3 rfl one24 (by first | omega | assumption | (simp only [lens]; first | omega | assumption) | (simp [lens]; done) | (simp [lens]; omega)) ?_))) | ((with_reducible refine gt_store 24 ?_); (first | (refine st_set rfl 24 _ _ rfl hm rfl rfl 0 rfl one24 (by first | omega | assumption | (simp only [lens]; first | omega | assumption) | (simp [lens]; done) | (simp [lens]; omega)) ?_) | (refine st_set rfl 24 _ _ rfl hm rfl rfl 1 rfl one24 (by first | omega | assumption | (simp only [lens]; first | omega | assumption) | (simp [lens]; done) | (simp [lens]; omega)) ?_) | (refine st_set rfl 24 _ _ rfl hm rfl rfl 2 rfl one24 (by first | omega | assumption | (simp only [lens]; first | omega | assumption) | (simp [lens]; done) | (simp [lens]; omega)) ?_) | (refine st_set rfl 24 _ _ rfl hm rfl rfl 3 rfl one24 (by first | omega | assumption | (simp only [lens]; first | omega | assumption) | (simp [lens]; done) | (simp [lens]; omega)) ?_)); clear hm; intro ws hm; simp only [List.set_cons_zero, List.set_cons_succ] at hm) | ((with_reducible refine gt_field 28 1 ?_); refine st_field rfl 28 _ 1 rfl rfl field28_1 ?_) | ((with_reducible refine gt_elem 26 ?_); refine st_elem rfl 26 _ _ rfl rfl rfl arr26 (by first | omega | assumption | (simp only [lens]; first | omega | assumption) | (simp [lens]; done) | (simp [lens]; omega)) (by first | omega | assumption | (simp only [lens]; first | omega | assumption) | (simp [lens]; done) | (simp [lens]; omega)) ?_) | ((with_reducible refine gt_load 28 ?_); (first | (refine st_load rfl 28 _ rfl hm rfl 0 rfl agg28 (by first | omega | assumption | (simp only [lens]; first | omega | assumption) | (simp [lens]; done) | (simp [lens]; omega)) ?_) | (refine st_load rfl 28 _ rfl hm rfl 1 rfl agg28 (by first | omega | assumption | (simp only [lens]; first | omega | assumption) | (simp [lens]; done) | (simp [lens]; omega)) ?_) | (refine st_load rfl 28 _ rfl hm rfl 2 rfl agg28 (by first | omega | assumption | (simp only [lens]; first | omega | assumption) | (simp [lens]; done) | (simp [lens]; omega)) ?_) | (refine st_load rfl 28 _ rfl hm rfl 3 rfl agg28 (by first | omega | assumption | (simp only [lens]; first | omega | assumption) | (simp [lens]; done) | (simp [lens]; omega)) ?_))))
     ((try simp only [Exit.inBlock, Exit.then]); (first | (refine ret_cell hm rfl rfl 1 rfl agg28 (by first | omega | assumption | (simp only [lens]; first | omega | assumption) | (simp [lens]; done) | (simp [lens]; omega)) rfl ?_) | (refine ret_cell_tmp hm rfl rfl 1 rfl agg28 (by first | omega | assumption | (simp only [lens]; first | omega | assumption) | (simp [lens]; done) | (simp [lens]; omega)) rfl ?_)))
     refine ⟨by rw [← HF.out, HI.out, HI2.out, mix_all _ hz], ?_⟩
     refine hm.keeps fun e he => ?_
     simp only [List.mem_cons, List.not_mem_nil, or_false] at he
     rcases he with rfl | rfl | rfl | rfl
     ·exact Or.inl rfl
     ·exact Or.inl rfl
     ·exact Or.inr HG.out
     ·exact Or.inr HG'.out
theorem okL_k {L : List Int} (h : okL L = true) : ∀ x ∈ L, 0 ≤ x ∧ x ≤ 1000 := fun x hx => by have := okL_in h x hx; omega
theorem lacks_small {L L' : List Int} (hl : L.length = 44) (hl' : L'.length = 44) (hb : ∀ x ∈ L, 0 ≤ x ∧ x ≤ 1000) (hb' : ∀ x ∈ L', 0 ≤ x ∧ x ≤ 1000) :
  (List.zipWith (fun a b => mx (wrap64 (b - a)) 0) L L').map w16 = List.zipWith lack L L' := by
 refine list_eq (n := 44) (by rw [List.length_map]; exact zip_length _ _ _ hl hl') (zip_length _ _ _ hl hl') fun j hj => ?_
 have h1 := hb _ (rd_in L j (by omega))
 have h2 := hb' _ (rd_in L' j (by omega))
 rw [rd_map _ _ _ (by rw [zip_length _ _ _ hl hl']; exact hj), rd_zip _ L L' j (by omega) (by omega), rd_zip _ L L' j (by omega) (by omega), w64 (by omega) (by omega)]
 unfold mx lack
 split <;> split <;> first | (exact w16_small (by omega) (by omega)) | omega | (rw [w16_small (by omega) (by omega)]; omega)
set_option maxHeartbeats 4000000 in
set_option maxRecDepth 100000 in
theorem specMissing_calls (L L' : List Int) (w : World) (hl : L.length = 44) (hw : Fits .i16 L) (hl' : L'.length = 44) (hw' : Fits .i16 L') : Calls Tryz.prog 17 #[.agg (vals .i16 L), .agg (vals .i16 L')] w fun e w' =>
  e = .returned (if okL L = true ∧ okL L' = true then .tuple #[.agg (vals .i16 (List.zipWith lack L L')), .int .i64 0] else .tuple #[.agg (vals .i16 (zs 44)), .int .i64 1]) ∧ Below w.heap.size w w' := by
 have hm := Mem.start w
 have HW := Aside0.mk hw
 have HW' := Aside0.mk hw'
 have hz := zip_length lack L L' hl hl'
 clear hw hw'
 have HK : Aside0 (okL L = okL L) := ⟨rfl⟩
 have HK' : Aside0 (okL L' = okL L') := ⟨rfl⟩
 generalize hb : okL L = b at HK ⊢
 generalize hb' : okL L' = b' at HK' ⊢
 have HB := Aside0.mk hb
 have HB' := Aside0.mk hb'
 clear hb hb' HK HK'
 cases b <;> cases b'
 all_goals
  go_enter Tryz.func17, Tryz.ntmps17
  go_wp2_with (first
   | (first | fail | ((with_reducible refine gt_box 2 28 ?_); refine st_box rfl 2 rfl 28 _ rfl hm (v := .agg (vals _ _)) rfl (cs := vals _ _) rfl ?_; clear hm; intro g2 w2 hm) | ((with_reducible refine gt_box 3 28 ?_); refine st_box rfl 3 rfl 28 _ rfl hm (v := .agg (vals _ _)) rfl (cs := vals _ _) rfl ?_; clear hm; intro g3 w3 hm) | ((with_reducible refine gt_alloc 4 28 ?_); refine st_alloc rfl 4 rfl 28 rfl hm zero28 ?_; clear hm; intro g4 w4 hm) | ((with_reducible refine gt_build 28 ?_); refine st_zero rfl 28 rfl built28 ?_) | ((with_reducible refine gt_store 28 ?_); (first | (refine st_full rfl 28 _ _ rfl hm rfl rfl 0 rfl agg28 (by first | omega | assumption | (simp only [lens]; first | omega | assumption) | (simp [lens]; done) | (simp [lens]; omega)) (by first | omega | assumption | (simp only [lens]; first | omega | assumption) | (simp [lens]; done) | (simp [lens]; omega)) ?_) | (refine st_full rfl 28 _ _ rfl hm rfl rfl 1 rfl agg28 (by first | omega | assumption | (simp only [lens]; first | omega | assumption) | (simp [lens]; done) | (simp [lens]; omega)) (by first | omega | assumption | (simp only [lens]; first | omega | assumption) | (simp [lens]; done) | (simp [lens]; omega)) ?_) | (refine st_full rfl 28 _ _ rfl hm rfl rfl 2 rfl agg28 (by first | omega | assumption | (simp only [lens]; first | omega | assumption) | (simp [lens]; done) | (simp [lens]; omega)) (by first | omega | assumption | (simp only [lens]; first | omega | assumption) | (simp [lens]; done) | (simp [lens]; omega)) ?_) | (refine st_full rfl 28 _ _ rfl hm rfl rfl 3 rfl agg28 (by first | omega | assumption | (simp only [lens]; first | omega | assumption) | (simp [lens]; done) | (simp [lens]; omega)) (by first | omega | assumption | (simp only [lens]; first | omega | assumption) | (simp [lens]; done) | (simp [lens]; omega)) ?_) | (refine st_full rfl 28 _ _ rfl hm rfl rfl 4 rfl agg28 (by first | omega | assumption | (simp only [lens]; first | omega | assumption) | (simp [lens]; done) | (simp [lens]; omega)) (by first | omega | assumption | (simp only [lens]; first | omega | assumption) | (simp [lens]; done) | (simp [lens]; omega)) ?_)); clear hm; intro ws hm; simp only [List.set_cons_zero, List.set_cons_succ] at hm))
   | (go_at_call 28; first
     | (with_reducible refine (l04Ok_calls g2 L _ hl HW.out (hm.mem (n := 2) rfl)).mono ?_; rintro e wa ⟨rfl, hb⟩; replace hm := hm.after hb; clear hb; rw [HB.out])
     | (with_reducible refine (l04Ok_calls g3 L' _ hl' HW'.out (hm.mem (n := 1) rfl)).mono ?_; rintro e wa ⟨rfl, hb⟩; replace hm := hm.after hb; clear hb; rw [HB'.out]))
   | (go_at_call 46; refine (l04Missing_calls g2 g3 L L' _ hl hl' (okL_k HB.out) (okL_k HB'.out) (hm.mem (n := 2) rfl) (hm.mem (n := 1) rfl) (fun e => by have := hm.apart 2 1 _ _ rfl rfl e; omega)).mono ?_; rintro e wa ⟨rfl, hb⟩; replace hm := hm.after hb; clear hb))
  ((try simp only [Exit.inBlock, Exit.then]); (first | (refine ret_cell hm rfl rfl 0 rfl agg28 (by first | omega | assumption | (simp only [lens]; first | omega | assumption) | (simp [lens]; done) | (simp [lens]; omega)) rfl ?_) | (refine ret_cell_tmp hm rfl rfl 0 rfl agg28 (by first | omega | assumption | (simp only [lens]; first | omega | assumption) | (simp [lens]; done) | (simp [lens]; omega)) rfl ?_)))
  exact ⟨rfl, hm.done rfl⟩
set_option maxHeartbeats 4000000 in
set_option maxRecDepth 100000 in
theorem implMissing_calls (L L' : List Int) (w : World) (hl : L.length = 44) (hw : Fits .i16 L) (hl' : L'.length = 44) (hw' : Fits .i16 L') : Calls Tryz.prog 16 #[.agg (vals .i16 L), .agg (vals .i16 L')] w fun e w' =>
  e = .returned (if okL L = true ∧ okL L' = true then .tuple #[.agg (vals .i16 (List.zipWith lack L L')), .int .i64 0] else .tuple #[.agg (vals .i16 (zs 44)), .int .i64 1]) ∧ Below w.heap.size w w' := by
 have hm := Mem.start w
 have HW := Aside0.mk hw
 have HW' := Aside0.mk hw'
 clear hw hw'
 by_cases hok : okL L = true ∧ okL L' = true
 ·rw [if_pos hok]
  have HK := Aside0.mk (show (if [L, L'].all okL = true then (0 : Int) else 1) = 0 by simp [hok])
  have HS := Aside0.mk (lacks_small hl hl' (okL_k hok.1) (okL_k hok.2))
  have hz := zip_length (fun a b => mx (wrap64 (b - a)) 0) L L' hl hl'
  clear hok
  go_enter Tryz.func16, Tryz.ntmps16
  go_wp2_with (first
   | (first | fail | ((with_reducible refine gt_box 2 28 ?_); refine st_box rfl 2 rfl 28 _ rfl hm (v := .agg (vals _ _)) rfl (cs := vals _ _) rfl ?_; clear hm; intro g2 w2 hm) | ((with_reducible refine gt_box 3 28 ?_); refine st_box rfl 3 rfl 28 _ rfl hm (v := .agg (vals _ _)) rfl (cs := vals _ _) rfl ?_; clear hm; intro g3 w3 hm) | ((with_reducible refine gt_alloc 4 28 ?_); refine st_alloc rfl 4 rfl 28 rfl hm zero28 ?_; clear hm; intro g4 w4 hm) | ((with_reducible refine gt_load 28 ?_); (first | (refine st_load rfl 28 _ rfl hm rfl 0 rfl agg28 (by first | omega | assumption | (simp only [lens]; first | omega | assumption) | (simp [lens]; done) | (simp [lens]; omega)) ?_) | (refine st_load rfl 28 _ rfl hm rfl 1 rfl agg28 (by first | omega | assumption | (simp only [lens]; first | omega | assumption) | (simp [lens]; done) | (simp [lens]; omega)) ?_) | (refine st_load rfl 28 _ rfl hm rfl 2 rfl agg28 (by first | omega | assumption | (simp only [lens]; first | omega | assumption) | (simp [lens]; done) | (simp [lens]; omega)) ?_) | (refine st_load rfl 28 _ rfl hm rfl 3 rfl agg28 (by first | omega | assumption | (simp only [lens]; first | omega | assumption) | (simp [lens]; done) | (simp [lens]; omega)) ?_) | (refine st_load rfl 28 _ rfl hm rfl 4 rfl agg28 (by first | omega | assumption | (simp only [lens]; first | omega | assumption) | (simp [lens]; done) | (simp [lens]; omega)) ?_))) | ((with_reducible refine gt_build 28 ?_); refine st_zero rfl 28 rfl built28 ?_) | ((with_reducible refine gt_store 28 ?_); (first | (refine st_full rfl 28 _ _ rfl hm rfl rfl 0 rfl agg28 (by first | omega | assumption | (simp only [lens]; first | omega | assumption) | (simp [lens]; done) | (simp [lens]; omega)) (by first | omega | assumption | (simp only [lens]; first | omega | assumption) | (simp [lens]; done) | (simp [lens]; omega)) ?_) | (refine st_full rfl 28 _ _ rfl hm rfl rfl 1 rfl agg28 (by first | omega | assumption | (simp only [lens]; first | omega | assumption) | (simp [lens]; done) | (simp [lens]; omega)) (by first | omega | assumption | (simp only [lens]; first | omega | assumption) | (simp [lens]; done) | (simp [lens]; omega)) ?_) | (refine st_full rfl 28 _ _ rfl hm rfl rfl 2 rfl agg28 (by first | omega | assumption | (simp only [lens]; first | omega | assumption) | (simp [lens]; done) | (simp [lens]; omega)) (by first | omega | assumption | (simp only [lens]; first | omega | assumption) | (simp [lens]; done) | (simp [lens]; omega)) ?_) | (refine st_full rfl 28 _ _ rfl hm rfl rfl 3 rfl agg28 (by first | omega | assumption | (simp only [lens]; first | omega | assumption) | (simp [lens]; done) | (simp [lens]; omega)) (by first | omega | assumption | (simp only [lens]; first | omega | assumption) | (simp [lens]; done) | (simp [lens]; omega)) ?_) | (refine st_full rfl 28 _ _ rfl hm rfl rfl 4 rfl agg28 (by first | omega | assumption | (simp only [lens]; first | omega | assumption) | (simp [lens]; done) | (simp [lens]; omega)) (by first | omega | assumption | (simp only [lens]; first | omega | assumption) | (simp [lens]; done) | (simp [lens]; omega)) ?_)); clear hm; intro ws hm; simp only [List.set_cons_zero, List.set_cons_succ] at hm) | (refine st_lit2 rfl 9 rfl 111 _ _ rfl hm rfl rfl Tryz.underlying111 agg28 zero28 (by first | omega | assumption | (simp only [lens]; first | omega | assumption) | (simp [lens]; done) | (simp [lens]; omega)) (by first | omega | assumption | (simp only [lens]; first | omega | assumption) | (simp [lens]; done) | (simp [lens]; omega)) (by decide) (by decide) ?_; clear hm; intro g9 w9 hm))
   | (go_at_call 40; refine (lockerCode_calls _ [L, L'] _ (lks2 hm (n := 0) rfl hl HW.out hl' HW'.out) (by simp)).mono ?_; rintro e wa ⟨rfl, hb⟩; replace hm := hm.after hb; clear hb; rw [HK.out]))
  refine start_ (n := 8) (S := fun w' => Mem w w' [⟨g9, vals .i16 (L ++ L'), 28, true⟩, ⟨g4, vals .i16 (zs 44), 28, true⟩, ⟨g3, vals .i16 L', 28, true⟩, ⟨g2, vals .i16 L, 28, true⟩]) (ds := [6]) #[false, false, false, false, false, false, false, false] (by kernel_rfl) rfl rfl (hm.drawn _) (fun hHeld => ?_)
  refine take_ (i := 0) (N := some 15) (v := .agg (vals .i16 L)) (a' := ?_) #[true, false, false, false, false, false, false, false] rfl rfl (by kernel_rfl) (fun _ _ _ h => h) (Or.inl ⟨by rfl, ?_⟩) hHeld ?_ ?_
  ·intro w' s0
   exact y_load (by rfl) (by rfl) 3 (by rfl) agg28 (by first | omega | assumption | (simp only [lens]; first | omega | assumption) | (simp [lens]; done) | (simp [lens]; omega)) w' s0
  rotate_left
  ·simp only [Act.put, List.setIfInBounds_toArray, List.set_cons_zero, List.set_cons_succ, i64_w, i32_w]
   rfl
  refine take_ (i := 2) (N := some 17) (v := .agg (vals .i16 L')) (a' := ?_) #[true, false, true, false, false, false, false, false] rfl rfl (by kernel_rfl) (fun _ _ _ h => h) (Or.inl ⟨by rfl, ?_⟩) hHeld ?_ ?_
  ·intro w' s0
   exact y_load (by rfl) (by rfl) 2 (by rfl) agg28 (by first | omega | assumption | (simp only [lens]; first | omega | assumption) | (simp [lens]; done) | (simp [lens]; omega)) w' s0
  rotate_left
  ·simp only [Act.put, List.setIfInBounds_toArray, List.set_cons_zero, List.set_cons_succ, i64_w, i32_w]
   rfl
  refine one_ (i := 1) (N := some 16) #[true, true, true, false, false, false, false, false] rfl rfl (by kernel_rfl) (by decide) (fun K hK => ?_)
  refine goes_ Tryz.func36 (by kernel_rfl) rfl #[.agg (vals .i16 L)] (by rfl) rfl rfl (by simp only [List.map_toArray, List.map_cons, List.map_nil]; rfl) ?_
  refine (pieces_calls L _ hl HW.out).mono ?_
  rintro e w3 ⟨rfl, hb⟩
  refine ⟨_, rfl, ?_⟩
  refine hK.out _ _ (hHeld.after hb) (fun hHeld => ?_)
  clear hK K
  refine norm_ (a' := ?_) ?_ ?_
  rotate_left
  ·show Act.put _ (some 16) _ = _
   simp only [Act.put, List.setIfInBounds_toArray, List.set_cons_zero, List.set_cons_succ, i64_w, i32_w]
   rfl
  refine one_ (i := 3) (N := some 18) #[true, true, true, true, false, false, false, false] rfl rfl (by kernel_rfl) (by decide) (fun K hK => ?_)
  refine goes_ Tryz.func36 (by kernel_rfl) rfl #[.agg (vals .i16 L')] (by rfl) rfl rfl (by simp only [List.map_toArray, List.map_cons, List.map_nil]; rfl) ?_
  refine (pieces_calls L' _ hl' HW'.out).mono ?_
  rintro e w3 ⟨rfl, hb⟩
  refine ⟨_, rfl, ?_⟩
  refine hK.out _ _ (hHeld.after hb) (fun hHeld => ?_)
  clear hK K
  refine norm_ (a' := ?_) ?_ ?_
  rotate_left
  ·show Act.put _ (some 18) _ = _
   simp only [Act.put, List.setIfInBounds_toArray, List.set_cons_zero, List.set_cons_succ, i64_w, i32_w]
   rfl
  refine one_ (i := 4) (N := some 19) #[true, true, true, true, true, false, false, false] rfl rfl (by kernel_rfl) (by decide) (fun K hK => ?_)
  refine goes_ Tryz.func45 (by kernel_rfl) rfl #[.agg (vals .i64 L), .agg (vals .i64 L')] (by rfl) rfl rfl (by simp only [List.map_toArray, List.map_cons, List.map_nil]; rfl) ?_
  refine (lacks_calls L L' _ hl hl').mono ?_
  rintro e w3 ⟨rfl, hb⟩
  refine ⟨_, rfl, ?_⟩
  refine hK.out _ _ (hHeld.after hb) (fun hHeld => ?_)
  clear hK K
  refine norm_ (a' := ?_) ?_ ?_
  rotate_left
  ·show Act.put _ (some 19) _ = _
   simp only [Act.put, List.setIfInBounds_toArray, List.set_cons_zero, List.set_cons_succ, i64_w, i32_w]
   rfl
  refine one_ (i := 5) (N := some 20) #[true, true, true, true, true, true, false, false] rfl rfl (by kernel_rfl) (by decide) (fun K hK => ?_)
  refine goes_ Tryz.func25 (by kernel_rfl) rfl #[.agg (vals .i64 (List.zipWith (fun a b => mx (wrap64 (b - a)) 0) L L'))] (by rfl) rfl rfl (by simp only [List.map_toArray, List.map_cons, List.map_nil]; rfl) ?_
  refine (locker_calls _ _ hz).mono ?_
  rintro e w3 ⟨rfl, hb⟩
  refine ⟨_, rfl, ?_⟩
  refine hK.out _ _ (hHeld.after hb) (fun hHeld => ?_)
  clear hK K
  refine norm_ (a' := ?_) ?_ ?_
  rotate_left
  ·show Act.put _ (some 20) _ = _
   simp only [Act.put, List.setIfInBounds_toArray, List.set_cons_zero, List.set_cons_succ, i64_w, i32_w]
   rfl
  refine last_ (i := 6) (N := none) #[true, true, true, true, true, true, true, false] rfl rfl (by kernel_rfl) (by decide) (fun K hK => ?_)
  refine skip_ (by rfl) rfl (y_store (by rfl) (by rfl) (by rfl) 1 hHeld (by rfl) agg28 (by first | omega | assumption | (simp only [lens]; first | omega | assumption) | (simp [lens]; done) | (simp [lens]; omega)) (by first | omega | assumption | (simp only [lens]; first | omega | assumption) | (simp [lens]; done) | (simp [lens]; omega))) ?_
  have hm := hHeld.row (n := 1) rfl (vals .i16 (List.map w16 (List.zipWith (fun a b => mx (wrap64 (b - a)) 0) L L')))
  refine hK.out _ _ ?_
  clear hK K
  refine norm_ (a' := ?_) ?_ ?_
  rotate_left
  ·rfl
  refine pure_ (i := 7) (N := some 5) (v := ?_) (a' := ?_) #[true, true, true, true, true, true, true, true] rfl rfl (by kernel_rfl) (fun _ _ _ h => h) (Or.inl ⟨by rfl, ?_⟩) ?_ ?_
  rotate_left
  ·intro w'
   go_simp
   with_reducible rfl
  rotate_left
  ·simp only [Act.put, List.setIfInBounds_toArray, List.set_cons_zero, List.set_cons_succ, i64_w, i32_w]
   rfl
  refine done_ (by kernel_rfl) ?_
  simp only [List.set_cons_zero, List.set_cons_succ] at hm
  go_wp2_with fail
  ((try simp only [Exit.inBlock, Exit.then]); (first | (refine ret_cell hm rfl rfl 1 rfl agg28 (by first | omega | assumption | (simp only [lens]; first | omega | assumption) | (simp [lens]; done) | (simp [lens]; omega)) rfl ?_) | (refine ret_cell_tmp hm rfl rfl 1 rfl agg28 (by first | omega | assumption | (simp only [lens]; first | omega | assumption) | (simp [lens]; done) | (simp [lens]; omega)) rfl ?_)))
  exact ⟨by rw [HS.out]; rfl, hm.done rfl⟩
 ·rw [if_neg hok]
  have HK := Aside0.mk (show (if [L, L'].all okL = true then (0 : Int) else 1) = 1 by rw [if_neg]; simpa using hok)
  clear hok
  go_enter Tryz.func16, Tryz.ntmps16
  go_wp2_with (first
   | (first | fail | ((with_reducible refine gt_box 2 28 ?_); refine st_box rfl 2 rfl 28 _ rfl hm (v := .agg (vals _ _)) rfl (cs := vals _ _) rfl ?_; clear hm; intro g2 w2 hm) | ((with_reducible refine gt_box 3 28 ?_); refine st_box rfl 3 rfl 28 _ rfl hm (v := .agg (vals _ _)) rfl (cs := vals _ _) rfl ?_; clear hm; intro g3 w3 hm) | ((with_reducible refine gt_alloc 4 28 ?_); refine st_alloc rfl 4 rfl 28 rfl hm zero28 ?_; clear hm; intro g4 w4 hm) | ((with_reducible refine gt_load 28 ?_); (first | (refine st_load rfl 28 _ rfl hm rfl 0 rfl agg28 (by first | omega | assumption | (simp only [lens]; first | omega | assumption) | (simp [lens]; done) | (simp [lens]; omega)) ?_) | (refine st_load rfl 28 _ rfl hm rfl 1 rfl agg28 (by first | omega | assumption | (simp only [lens]; first | omega | assumption) | (simp [lens]; done) | (simp [lens]; omega)) ?_) | (refine st_load rfl 28 _ rfl hm rfl 2 rfl agg28 (by first | omega | assumption | (simp only [lens]; first | omega | assumption) | (simp [lens]; done) | (simp [lens]; omega)) ?_) | (refine st_load rfl 28 _ rfl hm rfl 3 rfl agg28 (by first | omega | assumption | (simp only [lens]; first | omega | assumption) | (simp [lens]; done) | (simp [lens]; omega)) ?_) | (refine st_load rfl 28 _ rfl hm rfl 4 rfl agg28 (by first | omega | assumption | (simp only [lens]; first | omega | assumption) | (simp [lens]; done) | (simp [lens]; omega)) ?_))) | ((with_reducible refine gt_build 28 ?_); refine st_zero rfl 28 rfl built28 ?_) | ((with_reducible refine gt_store 28 ?_); (first | (refine st_full rfl 28 _ _ rfl hm rfl rfl 0 rfl agg28 (by first | omega | assumption | (simp only [lens]; first | omega | assumption) | (simp [lens]; done) | (simp [lens]; omega)) (by first | omega | assumption | (simp only [lens]; first | omega | assumption) | (simp [lens]; done) | (simp [lens]; omega)) ?_) | (refine st_full rfl 28 _ _ rfl hm rfl rfl 1 rfl agg28 (by first | omega | assumption | (simp only [lens]; first | omega | assumption) | (simp [lens]; done) | (simp [lens]; omega)) (by first | omega | assumption | (simp only [lens]; first | omega | assumption) | (simp [lens]; done) | (simp [lens]; omega)) ?_) | (refine st_full rfl 28 _ _ rfl hm rfl rfl 2 rfl agg28 (by first | omega | assumption | (simp only [lens]; first | omega | assumption) | (simp [lens]; done) | (simp [lens]; omega)) (by first | omega | assumption | (simp only [lens]; first | omega | assumption) | (simp [lens]; done) | (simp [lens]; omega)) ?_) | (refine st_full rfl 28 _ _ rfl hm rfl rfl 3 rfl agg28 (by first | omega | assumption | (simp only [lens]; first | omega | assumption) | (simp [lens]; done) | (simp [lens]; omega)) (by first | omega | assumption | (simp only [lens]; first | omega | assumption) | (simp [lens]; done) | (simp [lens]; omega)) ?_) | (refine st_full rfl 28 _ _ rfl hm rfl rfl 4 rfl agg28 (by first | omega | assumption | (simp only [lens]; first | omega | assumption) | (simp [lens]; done) | (simp [lens]; omega)) (by first | omega | assumption | (simp only [lens]; first | omega | assumption) | (simp [lens]; done) | (simp [lens]; omega)) ?_)); clear hm; intro ws hm; simp only [List.set_cons_zero, List.set_cons_succ] at hm) | (refine st_lit2 rfl 9 rfl 111 _ _ rfl hm rfl rfl Tryz.underlying111 agg28 zero28 (by first | omega | assumption | (simp only [lens]; first | omega | assumption) | (simp [lens]; done) | (simp [lens]; omega)) (by first | omega | assumption | (simp only [lens]; first | omega | assumption) | (simp [lens]; done) | (simp [lens]; omega)) (by decide) (by decide) ?_; clear hm; intro g9 w9 hm))
   | (go_at_call 40; refine (lockerCode_calls _ [L, L'] _ (lks2 hm (n := 0) rfl hl HW.out hl' HW'.out) (by simp)).mono ?_; rintro e wa ⟨rfl, hb⟩; replace hm := hm.after hb; clear hb; rw [HK.out]))
  ((try simp only [Exit.inBlock, Exit.then]); (first | (refine ret_cell hm rfl rfl 1 rfl agg28 (by first | omega | assumption | (simp only [lens]; first | omega | assumption) | (simp [lens]; done) | (simp [lens]; omega)) rfl ?_) | (refine ret_cell_tmp hm rfl rfl 1 rfl agg28 (by first | omega | assumption | (simp only [lens]; first | omega | assumption) | (simp [lens]; done) | (simp [lens]; omega)) rfl ?_)))
  exact ⟨rfl, hm.done rfl⟩
end Go.Proofs.YthaoopbfggnceaaGreatDoor.Arr
namespace Go.Proofs.YthaoopbfggnceaaGreatDoor.Arr
open Go.RowKit Go.Proofs.YthaoopbfggnceaaGreatDoorW.PrintWords Go.Proofs.YthaoopbfggnceaaGreatDoorW.PrintLast Go.Proofs.YthaoopbfggnceaaGreatDoorW.PrintMore Go.Proofs.YthaoopbfggnceaaGreatDoor.U Go.Proofs.YthaoopbfggnceaaGreatDoor.L
set_option linter.unusedVariables false
set_option linter.unusedSimpArgs false
def left2 (a b : Int) : Int := a - b
def leftRes (L L' : List Int) : Value :=
 if okL L = true ∧ okL L' = true then (if covB L L' = true then .tuple #[.agg (vals .i16 (List.zipWith left2 L L')), .int .i64 0] else .tuple #[.agg (vals .i16 (zs 44)), .int .i64 4]) else .tuple #[.agg (vals .i16 (zs 44)), .int .i64 1]
theorem w16_in {x : Int} (h0 : -32768 ≤ x) (h1 : x ≤ 32767) : IntKind.i16.wrap x = x := by
 unfold IntKind.wrap
 simp only [IntKind.signed, IntKind.bits]
 simp
 omega
theorem rd_mixfar (L S : List Int) (off i k : Nat) (h : off + i ≤ k) (hk : k < L.length) (hs : i ≤ S.length) : rd (mixTo L S off i) (k : Int) = rd L (k : Int) := by
 have e := mix_far L S off i k h hk hs
 unfold rd
 rw [List.getD_eq_getElem?_getD, List.getD_eq_getElem?_getD, Int.toNat_natCast, e]
theorem mix_allL (L S : List Int) (hl : L.length = 44) (hs : S.length = 44) : mixTo (mixTo L S 0 40) (S.drop 40) 40 4 = S := by
 have h1 : (S.take 40).length = 40 := by simp only [lens]; omega
 unfold mixTo
 simp only [Nat.zero_add, List.take_zero, List.nil_append]
 rw [List.take_left' h1, List.take_of_length_le (l := S.drop 40) (by simp only [lens]; omega), List.drop_of_length_le (i := 40 + 4) (by simp only [lens]; omega), List.append_nil, List.take_append_drop]
set_option maxHeartbeats 8000000 in
set_option maxRecDepth 100000 in
theorem specLeft_calls (L L' : List Int) (w : World) (hl : L.length = 44) (hw : Fits .i16 L) (hl' : L'.length = 44) (hw' : Fits .i16 L') : Calls Tryz.prog 15 #[.agg (vals .i16 L), .agg (vals .i16 L')] w fun e w' =>
  e = .returned (leftRes L L') ∧ Below w.heap.size w w' := by
 have hm := Mem.start w
 have HW := Aside0.mk hw
 have HW' := Aside0.mk hw'
 have hz := zip_length left2 L L' hl hl'
 clear hw hw'
 have HK : Aside0 (okL L = okL L) := ⟨rfl⟩
 unfold leftRes
 generalize hb : okL L = b at HK ⊢
 generalize hb' : okL L' = b' at *
 generalize hb2 : covB L L' = b2 at *
 have HK1 := Aside0.mk hb
 have HK2 := Aside0.mk hb'
 have HK3 := Aside0.mk hb2
 clear hb hb' hb2 HK
 cases b <;> cases b' <;> cases b2
 all_goals
  go_enter Tryz.func15, Tryz.ntmps15
  go_wp2_with (first
   | (first | fail | ((with_reducible refine gt_box 2 28 ?_); refine st_box rfl 2 rfl 28 _ rfl hm (v := .agg (vals _ _)) rfl (cs := vals _ _) rfl ?_; clear hm; intro g2 w2 hm) | ((with_reducible refine gt_box 3 28 ?_); refine st_box rfl 3 rfl 28 _ rfl hm (v := .agg (vals _ _)) rfl (cs := vals _ _) rfl ?_; clear hm; intro g3 w3 hm) | ((with_reducible refine gt_alloc 4 28 ?_); refine st_alloc rfl 4 rfl 28 rfl hm zero28 ?_; clear hm; intro g4 w4 hm) | ((with_reducible refine gt_build 28 ?_); refine st_zero rfl 28 rfl built28 ?_) | ((with_reducible refine gt_store 28 ?_); (first | (refine st_full rfl 28 _ _ rfl hm rfl rfl 0 rfl agg28 (by first | omega | assumption | (simp only [lens]; first | omega | assumption) | (simp [lens]; done) | (simp [lens]; omega)) (by first | omega | assumption | (simp only [lens]; first | omega | assumption) | (simp [lens]; done) | (simp [lens]; omega)) ?_) | (refine st_full rfl 28 _ _ rfl hm rfl rfl 1 rfl agg28 (by first | omega | assumption | (simp only [lens]; first | omega | assumption) | (simp [lens]; done) | (simp [lens]; omega)) (by first | omega | assumption | (simp only [lens]; first | omega | assumption) | (simp [lens]; done) | (simp [lens]; omega)) ?_) | (refine st_full rfl 28 _ _ rfl hm rfl rfl 2 rfl agg28 (by first | omega | assumption | (simp only [lens]; first | omega | assumption) | (simp [lens]; done) | (simp [lens]; omega)) (by first | omega | assumption | (simp only [lens]; first | omega | assumption) | (simp [lens]; done) | (simp [lens]; omega)) ?_) | (refine st_full rfl 28 _ _ rfl hm rfl rfl 3 rfl agg28 (by first | omega | assumption | (simp only [lens]; first | omega | assumption) | (simp [lens]; done) | (simp [lens]; omega)) (by first | omega | assumption | (simp only [lens]; first | omega | assumption) | (simp [lens]; done) | (simp [lens]; omega)) ?_) | (refine st_full rfl 28 _ _ rfl hm rfl rfl 4 rfl agg28 (by first | omega | assumption | (simp only [lens]; first | omega | assumption) | (simp [lens]; done) | (simp [lens]; omega)) (by first | omega | assumption | (simp only [lens]; first | omega | assumption) | (simp [lens]; done) | (simp [lens]; omega)) ?_)); clear hm; intro ws hm; simp only [List.set_cons_zero, List.set_cons_succ] at hm) | ((with_reducible refine gt_field 28 0 ?_); refine st_field rfl 28 _ 0 rfl rfl field28_0 ?_) | ((with_reducible refine gt_elem 25 ?_); refine st_elem rfl 25 _ _ rfl rfl rfl arr25 (by first | omega | assumption | (simp only [lens]; first | omega | assumption) | (simp [lens]; done) | (simp [lens]; omega)) (by first | omega | assumption | (simp only [lens]; first | omega | assumption) | (simp [lens]; done) | (simp [lens]; omega)) ?_) | ((with_reducible refine gt_load 24 ?_); (first | (refine st_get rfl 24 _ rfl hm rfl 0 rfl one24 (by first | omega | assumption | (simp only [lens]; first | omega | assumption) | (simp [lens]; done) | (simp [lens]; omega)) ?_) | (refine st_get rfl 24 _ rfl hm rfl 1 rfl one24 (by first | omega | assumption | (simp only [lens]; first | omega | assumption) | (simp [lens]; done) | (simp [lens]; omega)) ?_) | (refine st_get rfl 24 _ rfl hm rfl 2 rfl one24 (by first | omega | assumption | (simp only [lens]; first | omega | assumption) | (simp [lens]; done) | (simp [lens]; omega)) ?_) | (refine st_get rfl 24 _ rfl hm rfl 3 rfl one24 (by first | omega | assumption | (simp only [lens]; first | omega | assumption) | (simp [lens]; done) | (simp [lens]; omega)) ?_) | (refine st_get rfl 24 _ rfl hm rfl 4 rfl one24 (by first | omega | assumption | (simp only [lens]; first | omega | assumption) | (simp [lens]; done) | (simp [lens]; omega)) ?_))) | ((with_reducible refine gt_store 24 ?_); (first | (refine st_set rfl 24 _ _ rfl hm rfl rfl 0 rfl one24 (by first | omega | assumption | (simp only [lens]; first | omega | assumption) | (simp [lens]; done) | (simp [lens]; omega)) ?_) | (refine st_set rfl 24 _ _ rfl hm rfl rfl 1 rfl one24 (by first | omega | assumption | (simp only [lens]; first | omega | assumption) | (simp [lens]; done) | (simp [lens]; omega)) ?_) | (refine st_set rfl 24 _ _ rfl hm rfl rfl 2 rfl one24 (by first | omega | assumption | (simp only [lens]; first | omega | assumption) | (simp [lens]; done) | (simp [lens]; omega)) ?_) | (refine st_set rfl 24 _ _ rfl hm rfl rfl 3 rfl one24 (by first | omega | assumption | (simp only [lens]; first | omega | assumption) | (simp [lens]; done) | (simp [lens]; omega)) ?_) | (refine st_set rfl 24 _ _ rfl hm rfl rfl 4 rfl one24 (by first | omega | assumption | (simp only [lens]; first | omega | assumption) | (simp [lens]; done) | (simp [lens]; omega)) ?_)); clear hm; intro ws hm; simp only [List.set_cons_zero, List.set_cons_succ] at hm) | ((with_reducible refine gt_field 28 1 ?_); refine st_field rfl 28 _ 1 rfl rfl field28_1 ?_) | ((with_reducible refine gt_elem 26 ?_); refine st_elem rfl 26 _ _ rfl rfl rfl arr26 (by first | omega | assumption | (simp only [lens]; first | omega | assumption) | (simp [lens]; done) | (simp [lens]; omega)) (by first | omega | assumption | (simp only [lens]; first | omega | assumption) | (simp [lens]; done) | (simp [lens]; omega)) ?_) | ((with_reducible refine gt_load 28 ?_); (first | (refine st_load rfl 28 _ rfl hm rfl 0 rfl agg28 (by first | omega | assumption | (simp only [lens]; first | omega | assumption) | (simp [lens]; done) | (simp [lens]; omega)) ?_) | (refine st_load rfl 28 _ rfl hm rfl 1 rfl agg28 (by first | omega | assumption | (simp only [lens]; first | omega | assumption) | (simp [lens]; done) | (simp [lens]; omega)) ?_) | (refine st_load rfl 28 _ rfl hm rfl 2 rfl agg28 (by first | omega | assumption | (simp only [lens]; first | omega | assumption) | (simp [lens]; done) | (simp [lens]; omega)) ?_) | (refine st_load rfl 28 _ rfl hm rfl 3 rfl agg28 (by first | omega | assumption | (simp only [lens]; first | omega | assumption) | (simp [lens]; done) | (simp [lens]; omega)) ?_) | (refine st_load rfl 28 _ rfl hm rfl 4 rfl agg28 (by first | omega | assumption | (simp only [lens]; first | omega | assumption) | (simp [lens]; done) | (simp [lens]; omega)) ?_))))
   | (go_at_call 28; first
     | (with_reducible refine (l04Ok_calls g2 L _ hl HW.out (hm.mem (n := 2) rfl)).mono ?_; rintro e wa ⟨rfl, hb⟩; replace hm := hm.after hb; clear hb; rw [HK1.out])
     | (with_reducible refine (l04Ok_calls g3 L' _ hl' HW'.out (hm.mem (n := 1) rfl)).mono ?_; rintro e wa ⟨rfl, hb⟩; replace hm := hm.after hb; clear hb; rw [HK2.out]))
   | (go_at_call 44; refine (l04Covers_calls g2 g3 L L' _ hl hl' (hm.mem (n := 2) rfl) (hm.mem (n := 1) rfl)).mono ?_; rintro e wa ⟨rfl, hb⟩; replace hm := hm.after hb; clear hb; rw [HK3.out]))
 all_goals try (((try simp only [Exit.inBlock, Exit.then]); (first | (refine ret_cell hm rfl rfl 0 rfl agg28 (by first | omega | assumption | (simp only [lens]; first | omega | assumption) | (simp [lens]; done) | (simp [lens]; omega)) rfl ?_) | (refine ret_cell_tmp hm rfl rfl 0 rfl agg28 (by first | omega | assumption | (simp only [lens]; first | omega | assumption) | (simp [lens]; done) | (simp [lens]; omega)) rfl ?_))); exact ⟨rfl, hm.done rfl⟩)
 have HB := Aside0.mk (okL_k HK1.out)
 have HB' := Aside0.mk (okL_k HK2.out)
 go_loopw [6] (fun v6 wr => ∃ i : Nat, i ≤ 40 ∧ v6 = .int .i64 i ∧ Mem w wr [⟨g4, vals .i16 (zs 44), 28, true⟩, ⟨g3, vals .i16 L', 28, true⟩, ⟨g2, vals .i16 (mixTo L (List.zipWith left2 L L') 0 i), 28, true⟩]) (fun v6 _ => 40 - (intOf v6).toNat)
 case atStart => exact ⟨0, by omega, rfl, by rw [mixTo_zero]; exact hm⟩
 case round =>
  obtain ⟨i, hi, rfl, hm⟩ := hrel
  have hl2 := (mixTo_length L (List.zipWith left2 L L') 0 i (by omega) (by omega)).trans hl
  by_cases hlt : i < 40
  ·have hc1 := hm.get (n := 2) rfl (i) (by omega)
   have hc2 := hm.get (n := 1) rfl (i) (by omega)
   have HZ := Aside0.mk (rd_zip left2 L L' i (by omega) (by omega))
   have hx := HB.out _ (rd_in L (i) (by omega))
   have hy := HB'.out _ (rd_in L' (i) (by omega))
   rw [rd_mix L (List.zipWith left2 L L') i (by omega) (by omega)] at hc1
   generalize hX : rd L (i : Int) = x at *
   generalize hY : rd L' (i : Int) = y at *
   have HW2 := Aside0.mk (show IntKind.i16.wrap (x - y) = x - y from w16_in (by omega) (by omega))
   go_wp2
   go_still_tail 11, (by kernel_rfl)
   replace hm := hm.drawn (wr.drawn + 1)
   go_wp2_with (first | fail | ((with_reducible refine gt_box 2 28 ?_); refine st_box rfl 2 rfl 28 _ rfl hm (v := .agg (vals _ _)) rfl (cs := vals _ _) rfl ?_; clear hm; intro g2 w2 hm) | ((with_reducible refine gt_box 3 28 ?_); refine st_box rfl 3 rfl 28 _ rfl hm (v := .agg (vals _ _)) rfl (cs := vals _ _) rfl ?_; clear hm; intro g3 w3 hm) | ((with_reducible refine gt_alloc 4 28 ?_); refine st_alloc rfl 4 rfl 28 rfl hm zero28 ?_; clear hm; intro g4 w4 hm) | ((with_reducible refine gt_build 28 ?_); refine st_zero rfl 28 rfl built28 ?_) | ((with_reducible refine gt_store 28 ?_); (first | (refine st_full rfl 28 _ _ rfl hm rfl rfl 0 rfl agg28 (by first | omega | assumption | (simp only [lens]; first | omega | assumption) | (simp [lens]; done) | (simp [lens]; omega)) (by first | omega | assumption | (simp only [lens]; first | omega | assumption) | (simp [lens]; done) | (simp [lens]; omega)) ?_) | (refine st_full rfl 28 _ _ rfl hm rfl rfl 1 rfl agg28 (by first | omega | assumption | (simp only [lens]; first | omega | assumption) | (simp [lens]; done) | (simp [lens]; omega)) (by first | omega | assumption | (simp only [lens]; first | omega | assumption) | (simp [lens]; done) | (simp [lens]; omega)) ?_) | (refine st_full rfl 28 _ _ rfl hm rfl rfl 2 rfl agg28 (by first | omega | assumption | (simp only [lens]; first | omega | assumption) | (simp [lens]; done) | (simp [lens]; omega)) (by first | omega | assumption | (simp only [lens]; first | omega | assumption) | (simp [lens]; done) | (simp [lens]; omega)) ?_) | (refine st_full rfl 28 _ _ rfl hm rfl rfl 3 rfl agg28 (by first | omega | assumption | (simp only [lens]; first | omega | assumption) | (simp [lens]; done) | (simp [lens]; omega)) (by first | omega | assumption | (simp only [lens]; first | omega | assumption) | (simp [lens]; done) | (simp [lens]; omega)) ?_) | (refine st_full rfl 28 _ _ rfl hm rfl rfl 4 rfl agg28 (by first | omega | assumption | (simp only [lens]; first | omega | assumption) | (simp [lens]; done) | (simp [lens]; omega)) (by first | omega | assumption | (simp only [lens]; first | omega | assumption) | (simp [lens]; done) | (simp [lens]; omega)) ?_)); clear hm; intro ws hm; simp only [List.set_cons_zero, List.set_cons_succ] at hm) | ((with_reducible refine gt_field 28 0 ?_); refine st_field rfl 28 _ 0 rfl rfl field28_0 ?_) | ((with_reducible refine gt_elem 25 ?_); refine st_elem rfl 25 _ _ rfl rfl rfl arr25 (by first | omega | assumption | (simp only [lens]; first | omega | assumption) | (simp [lens]; done) | (simp [lens]; omega)) (by first | omega | assumption | (simp only [lens]; first | omega | assumption) | (simp [lens]; done) | (simp [lens]; omega)) ?_) | ((with_reducible refine gt_load 24 ?_); (first | (refine st_get rfl 24 _ rfl hm rfl 0 rfl one24 (by first | omega | assumption | (simp only [lens]; first | omega | assumption) | (simp [lens]; done) | (simp [lens]; omega)) ?_) | (refine st_get rfl 24 _ rfl hm rfl 1 rfl one24 (by first | omega | assumption | (simp only [lens]; first | omega | assumption) | (simp [lens]; done) | (simp [lens]; omega)) ?_) | (refine st_get rfl 24 _ rfl hm rfl 2 rfl one24 (by first | omega | assumption | (simp only [lens]; first | omega | assumption) | (simp [lens]; done) | (simp [lens]; omega)) ?_) | (refine st_get rfl 24 _ rfl hm rfl 3 rfl one24 (by first | omega | assumption | (simp only [lens]; first | omega | assumption) | (simp [lens]; done) | (simp [lens]; omega)) ?_) | (refine st_get rfl 24 _ rfl hm rfl 4 rfl one24 (by first | omega | assumption | (simp only [lens]; first | omega | assumption) | (simp [lens]; done) | (simp [lens]; omega)) ?_))) | ((with_reducible refine gt_store 24 ?_); (first | (refine st_set rfl 24 _ _ rfl hm rfl rfl 0 rfl one24 (by first | omega | assumption | (simp only [lens]; first | omega | assumption) | (simp [lens]; done) | (simp [lens]; omega)) ?_) | (refine st_set rfl 24 _ _ rfl hm rfl rfl 1 rfl one24 (by first | omega | assumption | (simp only [lens]; first | omega | assumption) | (simp [lens]; done) | (simp [lens]; omega)) ?_) | (refine st_set rfl 24 _ _ rfl hm rfl rfl 2 rfl one24 (by first | omega | assumption | (simp only [lens]; first | omega | assumption) | (simp [lens]; done) | (simp [lens]; omega)) ?_) | (refine st_set rfl 24 _ _ rfl hm rfl rfl 3 rfl one24 (by first | omega | assumption | (simp only [lens]; first | omega | assumption) | (simp [lens]; done) | (simp [lens]; omega)) ?_) | (refine st_set rfl 24 _ _ rfl hm rfl rfl 4 rfl one24 (by first | omega | assumption | (simp only [lens]; first | omega | assumption) | (simp [lens]; done) | (simp [lens]; omega)) ?_)); clear hm; intro ws hm; simp only [List.set_cons_zero, List.set_cons_succ] at hm) | ((with_reducible refine gt_field 28 1 ?_); refine st_field rfl 28 _ 1 rfl rfl field28_1 ?_) | ((with_reducible refine gt_elem 26 ?_); refine st_elem rfl 26 _ _ rfl rfl rfl arr26 (by first | omega | assumption | (simp only [lens]; first | omega | assumption) | (simp [lens]; done) | (simp [lens]; omega)) (by first | omega | assumption | (simp only [lens]; first | omega | assumption) | (simp [lens]; done) | (simp [lens]; omega)) ?_) | ((with_reducible refine gt_load 28 ?_); (first | (refine st_load rfl 28 _ rfl hm rfl 0 rfl agg28 (by first | omega | assumption | (simp only [lens]; first | omega | assumption) | (simp [lens]; done) | (simp [lens]; omega)) ?_) | (refine st_load rfl 28 _ rfl hm rfl 1 rfl agg28 (by first | omega | assumption | (simp only [lens]; first | omega | assumption) | (simp [lens]; done) | (simp [lens]; omega)) ?_) | (refine st_load rfl 28 _ rfl hm rfl 2 rfl agg28 (by first | omega | assumption | (simp only [lens]; first | omega | assumption) | (simp [lens]; done) | (simp [lens]; omega)) ?_) | (refine st_load rfl 28 _ rfl hm rfl 3 rfl agg28 (by first | omega | assumption | (simp only [lens]; first | omega | assumption) | (simp [lens]; done) | (simp [lens]; omega)) ?_) | (refine st_load rfl 28 _ rfl hm rfl 4 rfl agg28 (by first | omega | assumption | (simp only [lens]; first | omega | assumption) | (simp [lens]; done) | (simp [lens]; omega)) ?_))))
   go_roundw
   case rel =>
    refine ⟨i + 1, by omega, by go_num, ?_⟩
    rw [HW2.out] at hm
    rw [← mixTo_succ L (List.zipWith left2 L L') 0 i (by omega) (by omega), HZ.out, left2]
    simpa using hm
   case measure => simp [intOf]; omega
  ·have HI := Aside0.mk (show i = 40 by omega)
   have HF0 : Aside0 (∀ i2 : Nat, i2 < 4 → rd (mixTo (mixTo L (List.zipWith left2 L L') 0 i) ((List.zipWith left2 L L').drop 40) 40 i2) ((40 + i2 : Nat) : Int) = rd L ((40 + i2 : Nat) : Int)) := ⟨fun i2 h4 => by
    rw [rd_mixfar _ _ 40 i2 (40 + i2) (Nat.le_refl _) (by omega) (by simp only [lens2]; omega), rd_mixfar _ _ 0 i (40 + i2) (by omega) (by omega) (by omega)]⟩
   generalize hF : mixTo L (List.zipWith left2 L L') 0 i = F at *
   have HF := Aside0.mk hF
   clear hF
   go_wp2_with (first | fail | ((with_reducible refine gt_box 2 28 ?_); refine st_box rfl 2 rfl 28 _ rfl hm (v := .agg (vals _ _)) rfl (cs := vals _ _) rfl ?_; clear hm; intro g2 w2 hm) | ((with_reducible refine gt_box 3 28 ?_); refine st_box rfl 3 rfl 28 _ rfl hm (v := .agg (vals _ _)) rfl (cs := vals _ _) rfl ?_; clear hm; intro g3 w3 hm) | ((with_reducible refine gt_alloc 4 28 ?_); refine st_alloc rfl 4 rfl 28 rfl hm zero28 ?_; clear hm; intro g4 w4 hm) | ((with_reducible refine gt_build 28 ?_); refine st_zero rfl 28 rfl built28 ?_) | ((with_reducible refine gt_store 28 ?_); (first | (refine st_full rfl 28 _ _ rfl hm rfl rfl 0 rfl agg28 (by first | omega | assumption | (simp only [lens]; first | omega | assumption) | (simp [lens]; done) | (simp [lens]; omega)) (by first | omega | assumption | (simp only [lens]; first | omega | assumption) | (simp [lens]; done) | (simp [lens]; omega)) ?_) | (refine st_full rfl 28 _ _ rfl hm rfl rfl 1 rfl agg28 (by first | omega | assumption | (simp only [lens]; first | omega | assumption) | (simp [lens]; done) | (simp [lens]; omega)) (by first | omega | assumption | (simp only [lens]; first | omega | assumption) | (simp [lens]; done) | (simp [lens]; omega)) ?_) | (refine st_full rfl 28 _ _ rfl hm rfl rfl 2 rfl agg28 (by first | omega | assumption | (simp only [lens]; first | omega | assumption) | (simp [lens]; done) | (simp [lens]; omega)) (by first | omega | assumption | (simp only [lens]; first | omega | assumption) | (simp [lens]; done) | (simp [lens]; omega)) ?_) | (refine st_full rfl 28 _ _ rfl hm rfl rfl 3 rfl agg28 (by first | omega | assumption | (simp only [lens]; first | omega | assumption) | (simp [lens]; done) | (simp [lens]; omega)) (by first | omega | assumption | (simp only [lens]; first | omega | assumption) | (simp [lens]; done) | (simp [lens]; omega)) ?_) | (refine st_full rfl 28 _ _ rfl hm rfl rfl 4 rfl agg28 (by first | omega | assumption | (simp only [lens]; first | omega | assumption) | (simp [lens]; done) | (simp [lens]; omega)) (by first | omega | assumption | (simp only [lens]; first | omega | assumption) | (simp [lens]; done) | (simp [lens]; omega)) ?_)); clear hm; intro ws hm; simp only [List.set_cons_zero, List.set_cons_succ] at hm) | ((with_reducible refine gt_field 28 0 ?_); refine st_field rfl 28 _ 0 rfl rfl field28_0 ?_) | ((with_reducible refine gt_elem 25 ?_); refine st_elem rfl 25 _ _ rfl rfl rfl arr25 (by first | omega | assumption | (simp only [lens]; first | omega | assumption) | (simp [lens]; done) | (simp [lens]; omega)) (by first | omega | assumption | (simp only [lens]; first | omega | assumption) | (simp [lens]; done) | (simp [lens]; omega)) ?_) | ((with_reducible refine gt_load 24 ?_); (first | (refine st_get rfl 24 _ rfl hm rfl 0 rfl one24 (by first | omega | assumption | (simp only [lens]; first | omega | assumption) | (simp [lens]; done) | (simp [lens]; omega)) ?_) | (refine st_get rfl 24 _ rfl hm rfl 1 rfl one24 (by first | omega | assumption | (simp only [lens]; first | omega | assumption) | (simp [lens]; done) | (simp [lens]; omega)) ?_) | (refine st_get rfl 24 _ rfl hm rfl 2 rfl one24 (by first | omega | assumption | (simp only [lens]; first | omega | assumption) | (simp [lens]; done) | (simp [lens]; omega)) ?_) | (refine st_get rfl 24 _ rfl hm rfl 3 rfl one24 (by first | omega | assumption | (simp only [lens]; first | omega | assumption) | (simp [lens]; done) | (simp [lens]; omega)) ?_) | (refine st_get rfl 24 _ rfl hm rfl 4 rfl one24 (by first | omega | assumption | (simp only [lens]; first | omega | assumption) | (simp [lens]; done) | (simp [lens]; omega)) ?_))) | ((with_reducible refine gt_store 24 ?_); (first | (refine st_set rfl 24 _ _ rfl hm rfl rfl 0 rfl one24 (by first | omega | assumption | (simp only [lens]; first | omega | assumption) | (simp [lens]; done) | (simp [lens]; omega)) ?_) | (refine st_set rfl 24 _ _ rfl hm rfl rfl 1 rfl one24 (by first | omega | assumption | (simp only [lens]; first | omega | assumption) | (simp [lens]; done) | (simp [lens]; omega)) ?_) | (refine st_set rfl 24 _ _ rfl hm rfl rfl 2 rfl one24 (by first | omega | assumption | (simp only [lens]; first | omega | assumption) | (simp [lens]; done) | (simp [lens]; omega)) ?_) | (refine st_set rfl 24 _ _ rfl hm rfl rfl 3 rfl one24 (by first | omega | assumption | (simp only [lens]; first | omega | assumption) | (simp [lens]; done) | (simp [lens]; omega)) ?_) | (refine st_set rfl 24 _ _ rfl hm rfl rfl 4 rfl one24 (by first | omega | assumption | (simp only [lens]; first | omega | assumption) | (simp [lens]; done) | (simp [lens]; omega)) ?_)); clear hm; intro ws hm; simp only [List.set_cons_zero, List.set_cons_succ] at hm) | ((with_reducible refine gt_field 28 1 ?_); refine st_field rfl 28 _ 1 rfl rfl field28_1 ?_) | ((with_reducible refine gt_elem 26 ?_); refine st_elem rfl 26 _ _ rfl rfl rfl arr26 (by first | omega | assumption | (simp only [lens]; first | omega | assumption) | (simp [lens]; done) | (simp [lens]; omega)) (by first | omega | assumption | (simp only [lens]; first | omega | assumption) | (simp [lens]; done) | (simp [lens]; omega)) ?_) | ((with_reducible refine gt_load 28 ?_); (first | (refine st_load rfl 28 _ rfl hm rfl 0 rfl agg28 (by first | omega | assumption | (simp only [lens]; first | omega | assumption) | (simp [lens]; done) | (simp [lens]; omega)) ?_) | (refine st_load rfl 28 _ rfl hm rfl 1 rfl agg28 (by first | omega | assumption | (simp only [lens]; first | omega | assumption) | (simp [lens]; done) | (simp [lens]; omega)) ?_) | (refine st_load rfl 28 _ rfl hm rfl 2 rfl agg28 (by first | omega | assumption | (simp only [lens]; first | omega | assumption) | (simp [lens]; done) | (simp [lens]; omega)) ?_) | (refine st_load rfl 28 _ rfl hm rfl 3 rfl agg28 (by first | omega | assumption | (simp only [lens]; first | omega | assumption) | (simp [lens]; done) | (simp [lens]; omega)) ?_) | (refine st_load rfl 28 _ rfl hm rfl 4 rfl agg28 (by first | omega | assumption | (simp only [lens]; first | omega | assumption) | (simp [lens]; done) | (simp [lens]; omega)) ?_))))
   go_loopw [7] (fun v7 wr => ∃ i : Nat, i ≤ 4 ∧ v7 = .int .i64 i ∧ Mem w wr [⟨g4, vals .i16 (zs 44), 28, true⟩, ⟨g3, vals .i16 L', 28, true⟩, ⟨g2, vals .i16 (mixTo F ((List.zipWith left2 L L').drop 40) 40 i), 28, true⟩]) (fun v7 _ => 4 - (intOf v7).toNat)
   case atStart => exact ⟨0, by omega, rfl, by rw [mixTo_zero]; exact hm⟩
   case round =>
    obtain ⟨i2, hi2, rfl, hm⟩ := hrel
    have hl3 := (mixTo_length F ((List.zipWith left2 L L').drop 40) 40 i2 (by omega) (by simp only [lens2]; omega)).trans hl2
    by_cases hlt : i2 < 4
    ·have hc1 := hm.get (n := 2) rfl (40 + i2) (by omega)
     have hc2 := hm.get (n := 1) rfl (40 + i2) (by omega)
     have HZ := Aside0.mk ((rd_drop (List.zipWith left2 L L') i2 40 (by omega)).trans (rd_zip left2 L L' (40 + i2) (by omega) (by omega)))
     have hx := HB.out _ (rd_in L (40 + i2) (by omega))
     have hy := HB'.out _ (rd_in L' (40 + i2) (by omega))
     rw [HF0.out i2 hlt] at hc1
     generalize hX : rd L ((40 + i2 : Nat) : Int) = x at *
     generalize hY : rd L' ((40 + i2 : Nat) : Int) = y at *
     have HW2 := Aside0.mk (show IntKind.i16.wrap (x - y) = x - y from w16_in (by omega) (by omega))
     go_wp2
     go_still_tail 11, (by kernel_rfl)
     replace hm := hm.drawn (wr.drawn + 1)
     go_wp2_with (first | fail | ((with_reducible refine gt_box 2 28 ?_); refine st_box rfl 2 rfl 28 _ rfl hm (v := .agg (vals _ _)) rfl (cs := vals _ _) rfl ?_; clear hm; intro g2 w2 hm) | ((with_reducible refine gt_box 3 28 ?_); refine st_box rfl 3 rfl 28 _ rfl hm (v := .agg (vals _ _)) rfl (cs := vals _ _) rfl ?_; clear hm; intro g3 w3 hm) | ((with_reducible refine gt_alloc 4 28 ?_); refine st_alloc rfl 4 rfl 28 rfl hm zero28 ?_; clear hm; intro g4 w4 hm) | ((with_reducible refine gt_build 28 ?_); refine st_zero rfl 28 rfl built28 ?_) | ((with_reducible refine gt_store 28 ?_); (first | (refine st_full rfl 28 _ _ rfl hm rfl rfl 0 rfl agg28 (by first | omega | assumption | (simp only [lens]; first | omega | assumption) | (simp [lens]; done) | (simp [lens]; omega)) (by first | omega | assumption | (simp only [lens]; first | omega | assumption) | (simp [lens]; done) | (simp [lens]; omega)) ?_) | (refine st_full rfl 28 _ _ rfl hm rfl rfl 1 rfl agg28 (by first | omega | assumption | (simp only [lens]; first | omega | assumption) | (simp [lens]; done) | (simp [lens]; omega)) (by first | omega | assumption | (simp only [lens]; first | omega | assumption) | (simp [lens]; done) | (simp [lens]; omega)) ?_) | (refine st_full rfl 28 _ _ rfl hm rfl rfl 2 rfl agg28 (by first | omega | assumption | (simp only [lens]; first | omega | assumption) | (simp [lens]; done) | (simp [lens]; omega)) (by first | omega | assumption | (simp only [lens]; first | omega | assumption) | (simp [lens]; done) | (simp [lens]; omega)) ?_) | (refine st_full rfl 28 _ _ rfl hm rfl rfl 3 rfl agg28 (by first | omega | assumption | (simp only [lens]; first | omega | assumption) | (simp [lens]; done) | (simp [lens]; omega)) (by first | omega | assumption | (simp only [lens]; first | omega | assumption) | (simp [lens]; done) | (simp [lens]; omega)) ?_) | (refine st_full rfl 28 _ _ rfl hm rfl rfl 4 rfl agg28 (by first | omega | assumption | (simp only [lens]; first | omega | assumption) | (simp [lens]; done) | (simp [lens]; omega)) (by first | omega | assumption | (simp only [lens]; first | omega | assumption) | (simp [lens]; done) | (simp [lens]; omega)) ?_)); clear hm; intro ws hm; simp only [List.set_cons_zero, List.set_cons_succ] at hm) | ((with_reducible refine gt_field 28 0 ?_); refine st_field rfl 28 _ 0 rfl rfl field28_0 ?_) | ((with_reducible refine gt_elem 25 ?_); refine st_elem rfl 25 _ _ rfl rfl rfl arr25 (by first | omega | assumption | (simp only [lens]; first | omega | assumption) | (simp [lens]; done) | (simp [lens]; omega)) (by first | omega | assumption | (simp only [lens]; first | omega | assumption) | (simp [lens]; done) | (simp [lens]; omega)) ?_) | ((with_reducible refine gt_load 24 ?_); (first | (refine st_get rfl 24 _ rfl hm rfl 0 rfl one24 (by first | omega | assumption | (simp only [lens]; first | omega | assumption) | (simp [lens]; done) | (simp [lens]; omega)) ?_) | (refine st_get rfl 24 _ rfl hm rfl 1 rfl one24 (by first | omega | assumption | (simp only [lens]; first | omega | assumption) | (simp [lens]; done) | (simp [lens]; omega)) ?_) | (refine st_get rfl 24 _ rfl hm rfl 2 rfl one24 (by first | omega | assumption | (simp only [lens]; first | omega | assumption) | (simp [lens]; done) | (simp [lens]; omega)) ?_) | (refine st_get rfl 24 _ rfl hm rfl 3 rfl one24 (by first | omega | assumption | (simp only [lens]; first | omega | assumption) | (simp [lens]; done) | (simp [lens]; omega)) ?_) | (refine st_get rfl 24 _ rfl hm rfl 4 rfl one24 (by first | omega | assumption | (simp only [lens]; first | omega | assumption) | (simp [lens]; done) | (simp [lens]; omega)) ?_))) | ((with_reducible refine gt_store 24 ?_); (first | (refine st_set rfl 24 _ _ rfl hm rfl rfl 0 rfl one24 (by first | omega | assumption | (simp only [lens]; first | omega | assumption) | (simp [lens]; done) | (simp [lens]; omega)) ?_) | (refine st_set rfl 24 _ _ rfl hm rfl rfl 1 rfl one24 (by first | omega | assumption | (simp only [lens]; first | omega | assumption) | (simp [lens]; done) | (simp [lens]; omega)) ?_) | (refine st_set rfl 24 _ _ rfl hm rfl rfl 2 rfl one24 (by first | omega | assumption | (simp only [lens]; first | omega | assumption) | (simp [lens]; done) | (simp [lens]; omega)) ?_) | (refine st_set rfl 24 _ _ rfl hm rfl rfl 3 rfl one24 (by first | omega | assumption | (simp only [lens]; first | omega | assumption) | (simp [lens]; done) | (simp [lens]; omega)) ?_) | (refine st_set rfl 24 _ _ rfl hm rfl rfl 4 rfl one24 (by first | omega | assumption | (simp only [lens]; first | omega | assumption) | (simp [lens]; done) | (simp [lens]; omega)) ?_)); clear hm; intro ws hm; simp only [List.set_cons_zero, List.set_cons_succ] at hm) | ((with_reducible refine gt_field 28 1 ?_); refine st_field rfl 28 _ 1 rfl rfl field28_1 ?_) | ((with_reducible refine gt_elem 26 ?_); refine st_elem rfl 26 _ _ rfl rfl rfl arr26 (by first | omega | assumption | (simp only [lens]; first | omega | assumption) | (simp [lens]; done) | (simp [lens]; omega)) (by first | omega | assumption | (simp only [lens]; first | omega | assumption) | (simp [lens]; done) | (simp [lens]; omega)) ?_) | ((with_reducible refine gt_load 28 ?_); (first | (refine st_load rfl 28 _ rfl hm rfl 0 rfl agg28 (by first | omega | assumption | (simp only [lens]; first | omega | assumption) | (simp [lens]; done) | (simp [lens]; omega)) ?_) | (refine st_load rfl 28 _ rfl hm rfl 1 rfl agg28 (by first | omega | assumption | (simp only [lens]; first | omega | assumption) | (simp [lens]; done) | (simp [lens]; omega)) ?_) | (refine st_load rfl 28 _ rfl hm rfl 2 rfl agg28 (by first | omega | assumption | (simp only [lens]; first | omega | assumption) | (simp [lens]; done) | (simp [lens]; omega)) ?_) | (refine st_load rfl 28 _ rfl hm rfl 3 rfl agg28 (by first | omega | assumption | (simp only [lens]; first | omega | assumption) | (simp [lens]; done) | (simp [lens]; omega)) ?_) | (refine st_load rfl 28 _ rfl hm rfl 4 rfl agg28 (by first | omega | assumption | (simp only [lens]; first | omega | assumption) | (simp [lens]; done) | (simp [lens]; omega)) ?_))))
     go_roundw
     case rel =>
      refine ⟨i2 + 1, by omega, by go_num, ?_⟩
      rw [HW2.out] at hm
      rw [← mixTo_succ F ((List.zipWith left2 L L').drop 40) 40 i2 (by omega) (by simp only [lens2]; omega), HZ.out, left2]
      simpa using hm
     case measure => simp [intOf]; omega
    ·have HI2 := Aside0.mk (show i2 = 4 by omega)
     go_wp2_with (first | fail | ((with_reducible refine gt_box 2 28 ?_); refine st_box rfl 2 rfl 28 _ rfl hm (v := .agg (vals _ _)) rfl (cs := vals _ _) rfl ?_; clear hm; intro g2 w2 hm) | ((with_reducible refine gt_box 3 28 ?_); refine st_box rfl 3 rfl 28 _ rfl hm (v := .agg (vals _ _)) rfl (cs := vals _ _) rfl ?_; clear hm; intro g3 w3 hm) | ((with_reducible refine gt_alloc 4 28 ?_); refine st_alloc rfl 4 rfl 28 rfl hm zero28 ?_; clear hm; intro g4 w4 hm) | ((with_reducible refine gt_build 28 ?_); refine st_zero rfl 28 rfl built28 ?_) | ((with_reducible refine gt_store 28 ?_); (first | (refine st_full rfl 28 _ _ rfl hm rfl rfl 0 rfl agg28 (by first | omega | assumption | (simp only [lens]; first | omega | assumption) | (simp [lens]; done) | (simp [lens]; omega)) (by first | omega | assumption | (simp only [lens]; first | omega | assumption) | (simp [lens]; done) | (simp [lens]; omega)) ?_) | (refine st_full rfl 28 _ _ rfl hm rfl rfl 1 rfl agg28 (by first | omega | assumption | (simp only [lens]; first | omega | assumption) | (simp [lens]; done) | (simp [lens]; omega)) (by first | omega | assumption | (simp only [lens]; first | omega | assumption) | (simp [lens]; done) | (simp [lens]; omega)) ?_) | (refine st_full rfl 28 _ _ rfl hm rfl rfl 2 rfl agg28 (by first | omega | assumption | (simp only [lens]; first | omega | assumption) | (simp [lens]; done) | (simp [lens]; omega)) (by first | omega | assumption | (simp only [lens]; first | omega | assumption) | (simp [lens]; done) | (simp [lens]; omega)) ?_) | (refine st_full rfl 28 _ _ rfl hm rfl rfl 3 rfl agg28 (by first | omega | assumption | (simp only [lens]; first | omega | assumption) | (simp [lens]; done) | (simp [lens]; omega)) (by first | omega | assumption | (simp only [lens]; first | omega | assumption) | (simp [lens]; done) | (simp [lens]; omega)) ?_) | (refine st_full rfl 28 _ _ rfl hm rfl rfl 4 rfl agg28 (by first | omega | assumption | (simp only [lens]; first | omega | assumption) | (simp [lens]; done) | (simp [lens]; omega)) (by first | omega | assumption | (simp only [lens]; first | omega | assumption) | (simp [lens]; done) | (simp [lens]; omega)) ?_)); clear hm; intro ws hm; simp only [List.set_cons_zero, List.set_cons_succ] at hm) | ((with_reducible refine gt_field 28 0 ?_); refine st_field rfl 28 _ 0 rfl rfl field28_0 ?_) | ((with_reducible refine gt_elem 25 ?_); refine st_elem rfl 25 _ _ rfl rfl rfl arr25 (by first | omega | assumption | (simp only [lens]; first | omega | assumption) | (simp [lens]; done) | (simp [lens]; omega)) (by first | omega | assumption | (simp only [lens]; first | omega | assumption) | (simp [lens]; done) | (simp [lens]; omega)) ?_) | ((with_reducible refine gt_load 24 ?_); (first | (refine st_get rfl 24 _ rfl hm rfl 0 rfl one24 (by first | omega | assumption | (simp only [lens]; first | omega | assumption) | (simp [lens]; done) | (simp [lens]; omega)) ?_) | (refine st_get rfl 24 _ rfl hm rfl 1 rfl one24 (by first | omega | assumption | (simp only [lens]; first | omega | assumption) | (simp [lens]; done) | (simp [lens]; omega)) ?_) | (refine st_get rfl 24 _ rfl hm rfl 2 rfl one24 (by first | omega | assumption | (simp only [lens]; first | omega | assumption) | (simp [lens]; done) | (simp [lens]; omega)) ?_) | (refine st_get rfl 24 _ rfl hm rfl 3 rfl one24 (by first | omega | assumption | (simp only [lens]; first | omega | assumption) | (simp [lens]; done) | (simp [lens]; omega)) ?_) | (refine st_get rfl 24 _ rfl hm rfl 4 rfl one24 (by first | omega | assumption | (simp only [lens]; first | omega | assumption) | (simp [lens]; done) | (simp [lens]; omega)) ?_))) | ((with_reducible refine gt_store 24 ?_); (first | (refine st_set rfl 24 _ _ rfl hm rfl rfl 0 rfl one24 (by first | omega | assumption | (simp only [lens]; first | omega | assumption) | (simp [lens]; done) | (simp [lens]; omega)) ?_) | (refine st_set rfl 24 _ _ rfl hm rfl rfl 1 rfl one24 (by first | omega | assumption | (simp only [lens]; first | omega | assumption) | (simp [lens]; done) | (simp [lens]; omega)) ?_) | (refine st_set rfl 24 _ _ rfl hm rfl rfl 2 rfl one24 (by first | omega | assumption | (simp only [lens]; first | omega | assumption) | (simp [lens]; done) | (simp [lens]; omega)) ?_) | (refine st_set rfl 24 _ _ rfl hm rfl rfl 3 rfl one24 (by first | omega | assumption | (simp only [lens]; first | omega | assumption) | (simp [lens]; done) | (simp [lens]; omega)) ?_) | (refine st_set rfl 24 _ _ rfl hm rfl rfl 4 rfl one24 (by first | omega | assumption | (simp only [lens]; first | omega | assumption) | (simp [lens]; done) | (simp [lens]; omega)) ?_)); clear hm; intro ws hm; simp only [List.set_cons_zero, List.set_cons_succ] at hm) | ((with_reducible refine gt_field 28 1 ?_); refine st_field rfl 28 _ 1 rfl rfl field28_1 ?_) | ((with_reducible refine gt_elem 26 ?_); refine st_elem rfl 26 _ _ rfl rfl rfl arr26 (by first | omega | assumption | (simp only [lens]; first | omega | assumption) | (simp [lens]; done) | (simp [lens]; omega)) (by first | omega | assumption | (simp only [lens]; first | omega | assumption) | (simp [lens]; done) | (simp [lens]; omega)) ?_) | ((with_reducible refine gt_load 28 ?_); (first | (refine st_load rfl 28 _ rfl hm rfl 0 rfl agg28 (by first | omega | assumption | (simp only [lens]; first | omega | assumption) | (simp [lens]; done) | (simp [lens]; omega)) ?_) | (refine st_load rfl 28 _ rfl hm rfl 1 rfl agg28 (by first | omega | assumption | (simp only [lens]; first | omega | assumption) | (simp [lens]; done) | (simp [lens]; omega)) ?_) | (refine st_load rfl 28 _ rfl hm rfl 2 rfl agg28 (by first | omega | assumption | (simp only [lens]; first | omega | assumption) | (simp [lens]; done) | (simp [lens]; omega)) ?_) | (refine st_load rfl 28 _ rfl hm rfl 3 rfl agg28 (by first | omega | assumption | (simp only [lens]; first | omega | assumption) | (simp [lens]; done) | (simp [lens]; omega)) ?_) | (refine st_load rfl 28 _ rfl hm rfl 4 rfl agg28 (by first | omega | assumption | (simp only [lens]; first | omega | assumption) | (simp [lens]; done) | (simp [lens]; omega)) ?_))))
     ((try simp only [Exit.inBlock, Exit.then]); (first | (refine ret_cell hm rfl rfl 0 rfl agg28 (by first | omega | assumption | (simp only [lens]; first | omega | assumption) | (simp [lens]; done) | (simp [lens]; omega)) rfl ?_) | (refine ret_cell_tmp hm rfl rfl 0 rfl agg28 (by first | omega | assumption | (simp only [lens]; first | omega | assumption) | (simp [lens]; done) | (simp [lens]; omega)) rfl ?_)))
     refine ⟨?_, hm.done rfl⟩
     rw [← HF.out, HI.out, HI2.out, mix_allL L _ hl hz]
     rfl
theorem left_small {L L' : List Int} (hl : L.length = 44) (hl' : L'.length = 44) (hb : ∀ x ∈ L, 0 ≤ x ∧ x ≤ 1000) (hb' : ∀ x ∈ L', 0 ≤ x ∧ x ≤ 1000) :
  (List.zipWith (fun a b => wrap64 (a - b)) L L').map w16 = List.zipWith left2 L L' := by
 refine list_eq (n := 44) (by rw [List.length_map]; exact zip_length _ _ _ hl hl') (zip_length _ _ _ hl hl') fun j hj => ?_
 have h1 := hb _ (rd_in L j (by omega))
 have h2 := hb' _ (rd_in L' j (by omega))
 rw [rd_map _ _ _ (by rw [zip_length _ _ _ hl hl']; exact hj), rd_zip _ L L' j (by omega) (by omega), rd_zip _ L L' j (by omega) (by omega), w64 (by omega) (by omega)]
 exact w16_in (by omega) (by omega)
set_option maxHeartbeats 8000000 in
set_option maxRecDepth 100000 in
theorem implLeft_calls (L L' : List Int) (w : World) (hl : L.length = 44) (hw : Fits .i16 L) (hl' : L'.length = 44) (hw' : Fits .i16 L') : Calls Tryz.prog 14 #[.agg (vals .i16 L), .agg (vals .i16 L')] w fun e w' =>
  e = .returned (leftRes L L') ∧ Below w.heap.size w w' := by
 have hm := Mem.start w
 have hC := fun W => implCovers_calls L L' W hl hw hl' hw'
 have HW := Aside0.mk hw
 have HW' := Aside0.mk hw'
 clear hw hw'
 unfold leftRes
 by_cases hok : okL L = true ∧ okL L' = true
 ·rw [if_pos hok]
  rw [if_pos hok] at hC
  have HS := Aside0.mk (left_small hl hl' (okL_k hok.1) (okL_k hok.2))
  have hz := zip_length (fun a b => wrap64 (a - b)) L L' hl hl'
  have hz2 := zip_length left2 L L' hl hl'
  have hLK := fun W => locker_calls _ W hz
  have hLS := fun W => less_calls L L' W hl hl'
  rw [HS.out] at hLK
  clear hok HS
  generalize List.zipWith (fun a b => wrap64 (a - b)) L L' = X at *
  have HLK := Aside0.mk hLK
  have HLS := Aside0.mk hLS
  clear hLK hLS
  generalize covB L L' = c at *
  have HC := Aside0.mk hC
  clear hC
  cases c
  ·go_enter Tryz.func14, Tryz.ntmps14
   go_wp2_with (first
    | (first | fail | ((with_reducible refine gt_box 2 28 ?_); refine st_box rfl 2 rfl 28 _ rfl hm (v := .agg (vals _ _)) rfl (cs := vals _ _) rfl ?_; clear hm; intro g2 w2 hm) | ((with_reducible refine gt_box 3 28 ?_); refine st_box rfl 3 rfl 28 _ rfl hm (v := .agg (vals _ _)) rfl (cs := vals _ _) rfl ?_; clear hm; intro g3 w3 hm) | ((with_reducible refine gt_alloc 4 28 ?_); refine st_alloc rfl 4 rfl 28 rfl hm zero28 ?_; clear hm; intro g4 w4 hm) | ((with_reducible refine gt_load 28 ?_); (first | (refine st_load rfl 28 _ rfl hm rfl 0 rfl agg28 (by first | omega | assumption | (simp only [lens]; first | omega | assumption) | (simp [lens]; done) | (simp [lens]; omega)) ?_) | (refine st_load rfl 28 _ rfl hm rfl 1 rfl agg28 (by first | omega | assumption | (simp only [lens]; first | omega | assumption) | (simp [lens]; done) | (simp [lens]; omega)) ?_) | (refine st_load rfl 28 _ rfl hm rfl 2 rfl agg28 (by first | omega | assumption | (simp only [lens]; first | omega | assumption) | (simp [lens]; done) | (simp [lens]; omega)) ?_) | (refine st_load rfl 28 _ rfl hm rfl 3 rfl agg28 (by first | omega | assumption | (simp only [lens]; first | omega | assumption) | (simp [lens]; done) | (simp [lens]; omega)) ?_) | (refine st_load rfl 28 _ rfl hm rfl 4 rfl agg28 (by first | omega | assumption | (simp only [lens]; first | omega | assumption) | (simp [lens]; done) | (simp [lens]; omega)) ?_))) | ((with_reducible refine gt_build 28 ?_); refine st_zero rfl 28 rfl built28 ?_) | ((with_reducible refine gt_store 28 ?_); (first | (refine st_full rfl 28 _ _ rfl hm rfl rfl 0 rfl agg28 (by first | omega | assumption | (simp only [lens]; first | omega | assumption) | (simp [lens]; done) | (simp [lens]; omega)) (by first | omega | assumption | (simp only [lens]; first | omega | assumption) | (simp [lens]; done) | (simp [lens]; omega)) ?_) | (refine st_full rfl 28 _ _ rfl hm rfl rfl 1 rfl agg28 (by first | omega | assumption | (simp only [lens]; first | omega | assumption) | (simp [lens]; done) | (simp [lens]; omega)) (by first | omega | assumption | (simp only [lens]; first | omega | assumption) | (simp [lens]; done) | (simp [lens]; omega)) ?_) | (refine st_full rfl 28 _ _ rfl hm rfl rfl 2 rfl agg28 (by first | omega | assumption | (simp only [lens]; first | omega | assumption) | (simp [lens]; done) | (simp [lens]; omega)) (by first | omega | assumption | (simp only [lens]; first | omega | assumption) | (simp [lens]; done) | (simp [lens]; omega)) ?_) | (refine st_full rfl 28 _ _ rfl hm rfl rfl 3 rfl agg28 (by first | omega | assumption | (simp only [lens]; first | omega | assumption) | (simp [lens]; done) | (simp [lens]; omega)) (by first | omega | assumption | (simp only [lens]; first | omega | assumption) | (simp [lens]; done) | (simp [lens]; omega)) ?_) | (refine st_full rfl 28 _ _ rfl hm rfl rfl 4 rfl agg28 (by first | omega | assumption | (simp only [lens]; first | omega | assumption) | (simp [lens]; done) | (simp [lens]; omega)) (by first | omega | assumption | (simp only [lens]; first | omega | assumption) | (simp [lens]; done) | (simp [lens]; omega)) ?_)); clear hm; intro ws hm; simp only [List.set_cons_zero, List.set_cons_succ] at hm))
    | (go_at_call 12; refine (HC.out _).mono ?_; rintro e wa ⟨rfl, hb⟩; replace hm := hm.after hb; clear hb))
   ((try simp only [Exit.inBlock, Exit.then]); (first | (refine ret_cell hm rfl rfl 0 rfl agg28 (by first | omega | assumption | (simp only [lens]; first | omega | assumption) | (simp [lens]; done) | (simp [lens]; omega)) rfl ?_) | (refine ret_cell_tmp hm rfl rfl 0 rfl agg28 (by first | omega | assumption | (simp only [lens]; first | omega | assumption) | (simp [lens]; done) | (simp [lens]; omega)) rfl ?_)))
   exact ⟨rfl, hm.done rfl⟩
  ·go_enter Tryz.func14, Tryz.ntmps14
   go_wp2_with (first
    | (first | fail | ((with_reducible refine gt_box 2 28 ?_); refine st_box rfl 2 rfl 28 _ rfl hm (v := .agg (vals _ _)) rfl (cs := vals _ _) rfl ?_; clear hm; intro g2 w2 hm) | ((with_reducible refine gt_box 3 28 ?_); refine st_box rfl 3 rfl 28 _ rfl hm (v := .agg (vals _ _)) rfl (cs := vals _ _) rfl ?_; clear hm; intro g3 w3 hm) | ((with_reducible refine gt_alloc 4 28 ?_); refine st_alloc rfl 4 rfl 28 rfl hm zero28 ?_; clear hm; intro g4 w4 hm) | ((with_reducible refine gt_load 28 ?_); (first | (refine st_load rfl 28 _ rfl hm rfl 0 rfl agg28 (by first | omega | assumption | (simp only [lens]; first | omega | assumption) | (simp [lens]; done) | (simp [lens]; omega)) ?_) | (refine st_load rfl 28 _ rfl hm rfl 1 rfl agg28 (by first | omega | assumption | (simp only [lens]; first | omega | assumption) | (simp [lens]; done) | (simp [lens]; omega)) ?_) | (refine st_load rfl 28 _ rfl hm rfl 2 rfl agg28 (by first | omega | assumption | (simp only [lens]; first | omega | assumption) | (simp [lens]; done) | (simp [lens]; omega)) ?_) | (refine st_load rfl 28 _ rfl hm rfl 3 rfl agg28 (by first | omega | assumption | (simp only [lens]; first | omega | assumption) | (simp [lens]; done) | (simp [lens]; omega)) ?_) | (refine st_load rfl 28 _ rfl hm rfl 4 rfl agg28 (by first | omega | assumption | (simp only [lens]; first | omega | assumption) | (simp [lens]; done) | (simp [lens]; omega)) ?_))) | ((with_reducible refine gt_build 28 ?_); refine st_zero rfl 28 rfl built28 ?_) | ((with_reducible refine gt_store 28 ?_); (first | (refine st_full rfl 28 _ _ rfl hm rfl rfl 0 rfl agg28 (by first | omega | assumption | (simp only [lens]; first | omega | assumption) | (simp [lens]; done) | (simp [lens]; omega)) (by first | omega | assumption | (simp only [lens]; first | omega | assumption) | (simp [lens]; done) | (simp [lens]; omega)) ?_) | (refine st_full rfl 28 _ _ rfl hm rfl rfl 1 rfl agg28 (by first | omega | assumption | (simp only [lens]; first | omega | assumption) | (simp [lens]; done) | (simp [lens]; omega)) (by first | omega | assumption | (simp only [lens]; first | omega | assumption) | (simp [lens]; done) | (simp [lens]; omega)) ?_) | (refine st_full rfl 28 _ _ rfl hm rfl rfl 2 rfl agg28 (by first | omega | assumption | (simp only [lens]; first | omega | assumption) | (simp [lens]; done) | (simp [lens]; omega)) (by first | omega | assumption | (simp only [lens]; first | omega | assumption) | (simp [lens]; done) | (simp [lens]; omega)) ?_) | (refine st_full rfl 28 _ _ rfl hm rfl rfl 3 rfl agg28 (by first | omega | assumption | (simp only [lens]; first | omega | assumption) | (simp [lens]; done) | (simp [lens]; omega)) (by first | omega | assumption | (simp only [lens]; first | omega | assumption) | (simp [lens]; done) | (simp [lens]; omega)) ?_) | (refine st_full rfl 28 _ _ rfl hm rfl rfl 4 rfl agg28 (by first | omega | assumption | (simp only [lens]; first | omega | assumption) | (simp [lens]; done) | (simp [lens]; omega)) (by first | omega | assumption | (simp only [lens]; first | omega | assumption) | (simp [lens]; done) | (simp [lens]; omega)) ?_)); clear hm; intro ws hm; simp only [List.set_cons_zero, List.set_cons_succ] at hm))
    | (go_at_call 12; refine (HC.out _).mono ?_; rintro e wa ⟨rfl, hb⟩; replace hm := hm.after hb; clear hb))
   refine start_ (n := 8) (S := fun w' => Mem w w' [⟨g4, vals .i16 (zs 44), 28, true⟩, ⟨g3, vals .i16 L', 28, true⟩, ⟨g2, vals .i16 L, 28, true⟩]) (ds := [6]) #[false, false, false, false, false, false, false, false] (by kernel_rfl) rfl rfl (hm.drawn _) (fun hHeld => ?_)
   refine take_ (i := 0) (N := some 24) (v := .agg (vals .i16 L)) (a' := ?_) #[true, false, false, false, false, false, false, false] rfl rfl (by kernel_rfl) (fun _ _ _ h => h) (Or.inl ⟨by rfl, ?_⟩) hHeld ?_ ?_
   ·intro w' s0
    exact y_load (by rfl) (by rfl) 2 (by rfl) agg28 (by first | omega | assumption | (simp only [lens]; first | omega | assumption) | (simp [lens]; done) | (simp [lens]; omega)) w' s0
   rotate_left
   ·simp only [Act.put, List.setIfInBounds_toArray, List.set_cons_zero, List.set_cons_succ, i64_w, i32_w]
    rfl
   refine take_ (i := 2) (N := some 26) (v := .agg (vals .i16 L')) (a' := ?_) #[true, false, true, false, false, false, false, false] rfl rfl (by kernel_rfl) (fun _ _ _ h => h) (Or.inl ⟨by rfl, ?_⟩) hHeld ?_ ?_
   ·intro w' s0
    exact y_load (by rfl) (by rfl) 1 (by rfl) agg28 (by first | omega | assumption | (simp only [lens]; first | omega | assumption) | (simp [lens]; done) | (simp [lens]; omega)) w' s0
   rotate_left
   ·simp only [Act.put, List.setIfInBounds_toArray, List.set_cons_zero, List.set_cons_succ, i64_w, i32_w]
    rfl
   refine one_ (i := 1) (N := some 25) #[true, true, true, false, false, false, false, false] rfl rfl (by kernel_rfl) (by decide) (fun K hK => ?_)
   refine goes_ Tryz.func36 (by kernel_rfl) rfl #[.agg (vals .i16 L)] (by rfl) rfl rfl (by simp only [List.map_toArray, List.map_cons, List.map_nil]; rfl) ?_
   refine (pieces_calls L _ hl HW.out).mono ?_
   rintro e w3 ⟨rfl, hb⟩
   refine ⟨_, rfl, ?_⟩
   refine hK.out _ _ (hHeld.after hb) (fun hHeld => ?_)
   clear hK K
   refine norm_ (a' := ?_) ?_ ?_
   rotate_left
   ·show Act.put _ (some 25) _ = _
    simp only [Act.put, List.setIfInBounds_toArray, List.set_cons_zero, List.set_cons_succ, i64_w, i32_w]
    rfl
   refine one_ (i := 3) (N := some 27) #[true, true, true, true, false, false, false, false] rfl rfl (by kernel_rfl) (by decide) (fun K hK => ?_)
   refine goes_ Tryz.func36 (by kernel_rfl) rfl #[.agg (vals .i16 L')] (by rfl) rfl rfl (by simp only [List.map_toArray, List.map_cons, List.map_nil]; rfl) ?_
   refine (pieces_calls L' _ hl' HW'.out).mono ?_
   rintro e w3 ⟨rfl, hb⟩
   refine ⟨_, rfl, ?_⟩
   refine hK.out _ _ (hHeld.after hb) (fun hHeld => ?_)
   clear hK K
   refine norm_ (a' := ?_) ?_ ?_
   rotate_left
   ·show Act.put _ (some 27) _ = _
    simp only [Act.put, List.setIfInBounds_toArray, List.set_cons_zero, List.set_cons_succ, i64_w, i32_w]
    rfl
   refine one_ (i := 4) (N := some 28) #[true, true, true, true, true, false, false, false] rfl rfl (by kernel_rfl) (by decide) (fun K hK => ?_)
   refine goes_ Tryz.func43 (by kernel_rfl) rfl #[.agg (vals .i64 L), .agg (vals .i64 L')] (by rfl) rfl rfl (by simp only [List.map_toArray, List.map_cons, List.map_nil]; rfl) ?_
   refine (HLS.out _).mono ?_
   rintro e w3 ⟨rfl, hb⟩
   refine ⟨_, rfl, ?_⟩
   refine hK.out _ _ (hHeld.after hb) (fun hHeld => ?_)
   clear hK K
   refine norm_ (a' := ?_) ?_ ?_
   rotate_left
   ·show Act.put _ (some 28) _ = _
    simp only [Act.put, List.setIfInBounds_toArray, List.set_cons_zero, List.set_cons_succ, i64_w, i32_w]
    rfl
   refine one_ (i := 5) (N := some 29) #[true, true, true, true, true, true, false, false] rfl rfl (by kernel_rfl) (by decide) (fun K hK => ?_)
   refine goes_ Tryz.func25 (by kernel_rfl) rfl #[.agg (vals .i64 X)] (by rfl) rfl rfl (by simp only [List.map_toArray, List.map_cons, List.map_nil]; rfl) ?_
   refine (HLK.out _).mono ?_
   rintro e w3 ⟨rfl, hb⟩
   refine ⟨_, rfl, ?_⟩
   refine hK.out _ _ (hHeld.after hb) (fun hHeld => ?_)
   clear hK K
   refine norm_ (a' := ?_) ?_ ?_
   rotate_left
   ·show Act.put _ (some 29) _ = _
    simp only [Act.put, List.setIfInBounds_toArray, List.set_cons_zero, List.set_cons_succ, i64_w, i32_w]
    rfl
   refine last_ (i := 6) (N := none) #[true, true, true, true, true, true, true, false] rfl rfl (by kernel_rfl) (by decide) (fun K hK => ?_)
   refine skip_ (by rfl) rfl (y_store (by rfl) (by rfl) (by rfl) 0 hHeld (by rfl) agg28 (by first | omega | assumption | (simp only [lens]; first | omega | assumption) | (simp [lens]; done) | (simp [lens]; omega)) (by first | omega | assumption | (simp only [lens]; first | omega | assumption) | (simp [lens]; done) | (simp [lens]; omega))) ?_
   have hm := hHeld.row (n := 0) rfl (vals .i16 (List.zipWith left2 L L'))
   refine hK.out _ _ ?_
   clear hK K
   refine norm_ (a' := ?_) ?_ ?_
   rotate_left
   ·rfl
   refine pure_ (i := 7) (N := some 5) (v := ?_) (a' := ?_) #[true, true, true, true, true, true, true, true] rfl rfl (by kernel_rfl) (fun _ _ _ h => h) (Or.inl ⟨by rfl, ?_⟩) ?_ ?_
   rotate_left
   ·intro w'
    go_simp
    with_reducible rfl
   rotate_left
   ·simp only [Act.put, List.setIfInBounds_toArray, List.set_cons_zero, List.set_cons_succ, i64_w, i32_w]
    rfl
   refine done_ (by kernel_rfl) ?_
   simp only [List.set_cons_zero, List.set_cons_succ] at hm
   go_wp2_with fail
   refine ret_cell_tmp hm rfl rfl 0 rfl agg28 hz2 rfl ?_
   exact ⟨rfl, hm.done rfl⟩
 ·rw [if_neg hok]
  rw [if_neg hok] at hC
  have HC := Aside0.mk hC
  clear hC hok
  go_enter Tryz.func14, Tryz.ntmps14
  go_wp2_with (first
   | (first | fail | ((with_reducible refine gt_box 2 28 ?_); refine st_box rfl 2 rfl 28 _ rfl hm (v := .agg (vals _ _)) rfl (cs := vals _ _) rfl ?_; clear hm; intro g2 w2 hm) | ((with_reducible refine gt_box 3 28 ?_); refine st_box rfl 3 rfl 28 _ rfl hm (v := .agg (vals _ _)) rfl (cs := vals _ _) rfl ?_; clear hm; intro g3 w3 hm) | ((with_reducible refine gt_alloc 4 28 ?_); refine st_alloc rfl 4 rfl 28 rfl hm zero28 ?_; clear hm; intro g4 w4 hm) | ((with_reducible refine gt_load 28 ?_); (first | (refine st_load rfl 28 _ rfl hm rfl 0 rfl agg28 (by first | omega | assumption | (simp only [lens]; first | omega | assumption) | (simp [lens]; done) | (simp [lens]; omega)) ?_) | (refine st_load rfl 28 _ rfl hm rfl 1 rfl agg28 (by first | omega | assumption | (simp only [lens]; first | omega | assumption) | (simp [lens]; done) | (simp [lens]; omega)) ?_) | (refine st_load rfl 28 _ rfl hm rfl 2 rfl agg28 (by first | omega | assumption | (simp only [lens]; first | omega | assumption) | (simp [lens]; done) | (simp [lens]; omega)) ?_) | (refine st_load rfl 28 _ rfl hm rfl 3 rfl agg28 (by first | omega | assumption | (simp only [lens]; first | omega | assumption) | (simp [lens]; done) | (simp [lens]; omega)) ?_) | (refine st_load rfl 28 _ rfl hm rfl 4 rfl agg28 (by first | omega | assumption | (simp only [lens]; first | omega | assumption) | (simp [lens]; done) | (simp [lens]; omega)) ?_))) | ((with_reducible refine gt_build 28 ?_); refine st_zero rfl 28 rfl built28 ?_) | ((with_reducible refine gt_store 28 ?_); (first | (refine st_full rfl 28 _ _ rfl hm rfl rfl 0 rfl agg28 (by first | omega | assumption | (simp only [lens]; first | omega | assumption) | (simp [lens]; done) | (simp [lens]; omega)) (by first | omega | assumption | (simp only [lens]; first | omega | assumption) | (simp [lens]; done) | (simp [lens]; omega)) ?_) | (refine st_full rfl 28 _ _ rfl hm rfl rfl 1 rfl agg28 (by first | omega | assumption | (simp only [lens]; first | omega | assumption) | (simp [lens]; done) | (simp [lens]; omega)) (by first | omega | assumption | (simp only [lens]; first | omega | assumption) | (simp [lens]; done) | (simp [lens]; omega)) ?_) | (refine st_full rfl 28 _ _ rfl hm rfl rfl 2 rfl agg28 (by first | omega | assumption | (simp only [lens]; first | omega | assumption) | (simp [lens]; done) | (simp [lens]; omega)) (by first | omega | assumption | (simp only [lens]; first | omega | assumption) | (simp [lens]; done) | (simp [lens]; omega)) ?_) | (refine st_full rfl 28 _ _ rfl hm rfl rfl 3 rfl agg28 (by first | omega | assumption | (simp only [lens]; first | omega | assumption) | (simp [lens]; done) | (simp [lens]; omega)) (by first | omega | assumption | (simp only [lens]; first | omega | assumption) | (simp [lens]; done) | (simp [lens]; omega)) ?_) | (refine st_full rfl 28 _ _ rfl hm rfl rfl 4 rfl agg28 (by first | omega | assumption | (simp only [lens]; first | omega | assumption) | (simp [lens]; done) | (simp [lens]; omega)) (by first | omega | assumption | (simp only [lens]; first | omega | assumption) | (simp [lens]; done) | (simp [lens]; omega)) ?_)); clear hm; intro ws hm; simp only [List.set_cons_zero, List.set_cons_succ] at hm))
   | (go_at_call 12; refine (HC.out _).mono ?_; rintro e wa ⟨rfl, hb⟩; replace hm := hm.after hb; clear hb))
  ((try simp only [Exit.inBlock, Exit.then]); (first | (refine ret_cell hm rfl rfl 0 rfl agg28 (by first | omega | assumption | (simp only [lens]; first | omega | assumption) | (simp [lens]; done) | (simp [lens]; omega)) rfl ?_) | (refine ret_cell_tmp hm rfl rfl 0 rfl agg28 (by first | omega | assumption | (simp only [lens]; first | omega | assumption) | (simp [lens]; done) | (simp [lens]; omega)) rfl ?_)))
  exact ⟨rfl, hm.done rfl⟩
end Go.Proofs.YthaoopbfggnceaaGreatDoor.Arr
namespace Go.Proofs.YthaoopbfggnceaaGreatDoor.Arr
open Go.RowKit Go.Proofs.YthaoopbfggnceaaGreatDoorW.PrintWords Go.Proofs.YthaoopbfggnceaaGreatDoorW.PrintLast Go.Proofs.YthaoopbfggnceaaGreatDoorW.PrintMore Go.Proofs.YthaoopbfggnceaaGreatDoor.U Go.Proofs.YthaoopbfggnceaaGreatDoor.L
set_option linter.unusedVariables false
set_option linter.unusedSimpArgs false
def cn (h : List Int) : Nat → Int
 | 0 => 0
 | k + 1 => cn h k + if rd h (k : Int) = -10 then 0 else 1
def cns (hs : List (List Int)) : Nat → Int
 | 0 => 0
 | n + 1 => cns hs n + cn (hs.getD n []) (hs.getD n []).length
theorem psum_set (L : List Int) (i : Nat) (v : Int) : ∀ n, n ≤ L.length → psum (L.set i v) n = psum L n + if i < n then v - rd L (i : Int) else 0
 | 0, _ => by simp [psum]
 | n + 1, hn => by
  rw [psum, psum, psum_set L i v n (by omega), rd_set L i n v (by omega)]
  by_cases h1 : n = i
  ·subst h1
   rw [if_pos rfl, if_neg (by omega), if_pos (by omega)]; omega
  ·rw [if_neg h1]
   by_cases h2 : i < n
   ·rw [if_pos h2, if_pos (by omega)]; omega
   ·rw [if_neg h2, if_neg (by omega)]; omega
theorem psum_bump (L : List Int) (hl : L.length = 44) (x : Int) (hx : NumH x) : psum (bump L x 1) 44 = psum L 44 + if x = -10 then 0 else 1 := by
 unfold bump
 by_cases h : x = -10
 ·rw [if_pos h, if_pos h]; omega
 ·have := slot_lt hx h
  rw [if_neg h, if_neg h, psum_set L _ _ 44 (by omega), if_pos this]; omega
theorem psum_pile (L h : List Int) (hl : L.length = 44) (hN : ∀ x ∈ h, NumH x) : ∀ n, n ≤ h.length → psum (pile L h 1 n) 44 = psum L 44 + cn h n
 | 0, _ => by simp [pile, cn]
 | n + 1, hn => by
  rw [pile, cn, psum_bump _ (by rw [pile_length]; exact hl) _ (hN _ (rd_in h n (by omega))), psum_pile L h hl hN n (by omega)]
  omega
theorem psum_zs : ∀ n m, psum (zs m) n = 0
 | 0, _ => rfl
 | n + 1, m => by rw [psum, psum_zs n m, rd_zs]; rfl
theorem getD_mem {hs : List (List Int)} {n : Nat} (h : n < hs.length) : hs.getD n [] ∈ hs := by
 rw [List.getD_eq_getElem?_getD, List.getElem?_eq_getElem h]
 exact List.getElem_mem h
theorem psum_needs (hs : List (List Int)) (hk : ∀ h ∈ hs, okH h = true) : ∀ n, n ≤ hs.length → psum (needs (zs 44) hs n) 44 = cns hs n
 | 0, _ => by rw [needs, psum_zs]; rfl
 | n + 1, hn => by
  rw [needs, cns, psum_pile _ _ (by rw [needs_length, zs_length]) (okH_num (hk _ (getD_mem (by omega)))) _ (Nat.le_refl _), psum_needs hs hk n (by omega)]
theorem needs_takeD (hs : List (List Int)) (k : Nat) : ∀ n, n ≤ k → needs (zs 44) (hs.take k) n = needs (zs 44) hs n
 | 0, _ => rfl
 | n + 1, hn => by
  rw [needs, needs, needs_takeD hs k n (by omega)]
  have : (hs.take k).getD n [] = hs.getD n [] := by
   rw [List.getD_eq_getElem?_getD, List.getD_eq_getElem?_getD, List.getElem?_take, if_pos (by omega)]
  rw [this]
theorem lack_zs {L N : List Int} (hl : L.length = 44) (hn : N.length = 44) : decide (List.zipWith lack L N = zs 44) = covB L N := by
 by_cases h : covB L N = true
 ·rw [h, decide_eq_true]
  refine list_eq (n := 44) (by simp [hl, hn]) zs_length fun j hj => ?_
  rw [rd_zip lack L N j (by omega) (by omega), rd_zs]
  have := covB_get h j hj
  unfold lack; rw [if_neg (by omega)]
 ·have hf : covB L N = false := by simpa using h
  rw [hf, decide_eq_false]
  intro e
  refine h (covB_true fun j hj => ?_)
  have h1 := rd_zip lack L N j (by omega) (by omega)
  rw [e, rd_zs] at h1
  unfold lack at h1
  split at h1 <;> omega
theorem ground_cases (L : List Int) (hs : List (List Int)) : (ground L hs = -1 ∧ ∀ j, j < hs.length → covB L (needs (zs 44) hs (j + 1)) = true) ∨
  ∃ i : Nat, i < hs.length ∧ ground L hs = (i : Int) ∧ (∀ j, j < i → covB L (needs (zs 44) hs (j + 1)) = true) ∧ covB L (needs (zs 44) hs (i + 1)) = false := by
 have key : ∀ n, n ≤ hs.length → (∀ j, j < n → covB L (needs (zs 44) hs (j + 1)) = true) ∨ ∃ i : Nat, i < n ∧ (∀ j, j < i → covB L (needs (zs 44) hs (j + 1)) = true) ∧ covB L (needs (zs 44) hs (i + 1)) = false := by
  intro n
  induction n with
  | zero => intro _; exact .inl fun j hj => absurd hj (by omega)
  | succ n ih =>
   intro hn
   rcases ih (by omega) with h | ⟨i, h1, h2, h3⟩
   ·cases hc : covB L (needs (zs 44) hs (n + 1)) with
    | true =>
     refine .inl fun j hj => ?_
     rcases Nat.lt_or_ge j n with h4 | h4
     ·exact h j h4
     ·obtain rfl : j = n := by omega
      exact hc
    | false => exact .inr ⟨n, by omega, h, hc⟩
   ·exact .inr ⟨i, by omega, h2, h3⟩
 rcases key hs.length (Nat.le_refl _) with h | ⟨i, h1, h2, h3⟩
 ·exact .inl ⟨ground_none h, h⟩
 ·exact .inr ⟨i, h1, ground_found i h1 h2 h3, h2, h3⟩
theorem covB_zs {L : List Int} (h : ∀ x ∈ L, 0 ≤ x ∧ x ≤ 20) (hl : L.length = 44) : covB L (zs 44) = true := covB_true fun j hj => by
 rw [rd_zs]
 exact (h _ (rd_in L j (by omega))).1
theorem codeH_ok {hs : List (List Int)} (hk : ∀ h ∈ hs, okH h = true) (hl : hs.length ≤ 6) : codeH hs = 0 := by
 unfold codeH
 rw [if_pos (List.all_eq_true.2 hk), if_pos (by omega)]
theorem ground_facts {L : List Int} (hL : ∀ x ∈ L, 0 ≤ x ∧ x ≤ 20) (hl : L.length = 44) (hok : okL L = true) {hs : List (List Int)} (hk : ∀ h ∈ hs, okH h = true) (hn : hs.length ≤ 6) {i : Nat} (hi : i < hs.length)
  (h2 : ∀ j, j < i → covB L (needs (zs 44) hs (j + 1)) = true) (h3 : covB L (needs (zs 44) hs (i + 1)) = false) :
  canRes L (hs.take i) = .tuple #[.bool true, .int .i64 0] ∧ canRes L (hs.take (i + 1)) = .tuple #[.bool false, .int .i64 0] := by
 have hf : ∀ k, flown L (hs.take k) = 0 := fun k => by
  unfold flown
  rw [if_pos hok]
  exact codeH_ok (fun h hh => hk h (List.mem_of_mem_take hh)) (by rw [List.length_take]; omega)
 constructor
 ·unfold canRes
  rw [if_pos (hf i), List.length_take, Nat.min_eq_left (by omega), needs_takeD hs i i (Nat.le_refl _)]
  have : covB L (needs (zs 44) hs i) = true := by
   cases i with
   | zero => exact covB_zs hL hl
   | succ i => exact h2 i (by omega)
  rw [this]
 ·unfold canRes
  rw [if_pos (hf (i + 1)), List.length_take, Nat.min_eq_left (by omega), needs_takeD hs (i + 1) (i + 1) (Nat.le_refl _), h3]
end Go.Proofs.YthaoopbfggnceaaGreatDoor.Arr
namespace Go.Proofs.YthaoopbfggnceaaGreatDoor.Arr
open Go.RowKit Go.Proofs.YthaoopbfggnceaaGreatDoorW.PrintWords Go.Proofs.YthaoopbfggnceaaGreatDoorW.PrintLast Go.Proofs.YthaoopbfggnceaaGreatDoorW.PrintMore Go.Proofs.YthaoopbfggnceaaGreatDoor.U Go.Proofs.YthaoopbfggnceaaGreatDoor.L
set_option linter.unusedVariables false
set_option linter.unusedSimpArgs false
def PlainN (x : Int) : Prop := x = -10 ∨ (0 ≤ x ∧ x ≤ 39)
def oddM (n : Int) : Bool := decide (n < 0) && decide (n ≠ -10)
def plainM (m : List Int) : Bool := okH m && !m.any oddM
theorem plainM_N {m : List Int} (h : plainM m = true) : (∀ x ∈ m, PlainN x) ∧ 1 ≤ m.length ∧ m.length ≤ 8 := by
 unfold plainM at h
 rw [Bool.and_eq_true, Bool.not_eq_true', List.any_eq_false] at h
 refine ⟨fun x hx => ?_, (okH_len h.1).1, (okH_len h.1).2⟩
 have h1 := okH_num h.1 x hx
 have h2 := h.2 x hx
 unfold oddM at h2
 rw [Bool.and_eq_true, decide_eq_true_eq, decide_eq_true_eq] at h2
 unfold PlainN
 omega
theorem runH_left (h : List Int) (x : Int) : ∀ i, i ≤ h.length → runH (h ++ [x]) i = runH h i
 | 0, _ => rfl
 | i + 1, hi => by
  rw [runH, runH, runH_left h x i (by omega), rd_app_left h [x] i (by omega)]
theorem runH_snoc (h : List Int) (x : Int) : runH (h ++ [x]) (h ++ [x]).length = (runH h h.length).bind fun st => stepH st x := by
 rw [List.length_append, List.length_singleton, runH, runH_left h x h.length (Nat.le_refl _), rd_app_end]
theorem rd_takeH (m : List Int) (k j : Nat) (hj : j < k) (hk : k ≤ m.length) : rd (m.take k) (j : Int) = rd m (j : Int) := by
 rw [rd_get _ j (by rw [List.length_take]; omega), rd_get m j (by omega), List.getElem_take]
theorem take_step (m : List Int) (k : Nat) (hk : k < m.length) : m.take (k + 1) = m.take k ++ [rd m (k : Int)] := by
 rw [rd_get m k hk, List.take_succ_eq_append_getElem hk]
theorem runH_plain {m : List Int} (hp : ∀ x ∈ m, PlainN x) (ho : okH m = true) : ∀ i, i ≤ m.length → ∃ s, runH m i = some (m.take i, s) ∧ s ≤ i
 | 0, _ => ⟨0, by simp [runH], Nat.le_refl _⟩
 | i + 1, hi => by
  obtain ⟨s, hs, hle⟩ := runH_plain hp ho i (by omega)
  have hnn : runH m (i + 1) ≠ none := fun e => by
   rw [okH_none (i := i + 1) hi e] at ho
   cases ho
  have hx := hp (rd m (i : Int)) (by rw [rd_get m i (by omega)]; exact List.getElem_mem _)
  have hl : (m.take i).length = i := by rw [List.length_take]; omega
  rw [runH, hs, Option.bind_some] at hnn ⊢
  rw [take_step m i (by omega)]
  unfold stepH at hnn ⊢
  dsimp only at hnn ⊢
  by_cases h10 : rd m (i : Int) = -10
  ·rw [if_pos h10] at hnn ⊢
   rw [hl] at hnn ⊢
   by_cases he : s = i
   ·rw [if_pos he] at hnn; exact absurd rfl hnn
   ·rw [if_neg he]; exact ⟨i + 1, rfl, Nat.le_refl _⟩
  ·rw [if_neg h10, if_pos (by rcases hx with hx | hx; exact absurd hx h10; exact hx)]
   exact ⟨s, rfl, by omega⟩
theorem plainM_read {m : List Int} (hp : plainM m = true) : ∃ s, runH m m.length = some (m, s) ∧ s < m.length ∧ readH m = some m := by
 obtain ⟨hN, h1, h8⟩ := plainM_N hp
 have ho : okH m = true := by
  unfold plainM at hp
  rw [Bool.and_eq_true] at hp
  exact hp.1
 obtain ⟨s, hs, hle⟩ := runH_plain hN ho m.length (Nat.le_refl _)
 rw [List.take_length] at hs
 have ho2 := ho
 unfold okH readH at ho2
 rw [if_pos ⟨h1, h8⟩, hs] at ho2
 dsimp only at ho2
 by_cases h : s < m.length
 ·refine ⟨s, hs, h, ?_⟩
  unfold readH
  rw [if_pos ⟨h1, h8⟩, hs]
  dsimp only
  rw [if_pos h]
 ·rw [if_neg h] at ho2
  cases ho2
end Go.Proofs.YthaoopbfggnceaaGreatDoor.Arr
namespace Go.Proofs.YthaoopbfggnceaaGreatDoor.L
open Go.RowKit Go.Proofs.YthaoopbfggnceaaGreatDoorW.PrintWords Go.Proofs.YthaoopbfggnceaaGreatDoorW.PrintLast Go.Proofs.YthaoopbfggnceaaGreatDoorW.PrintMore
attribute [local go_sem] max2_int min2_int max_two min_two max_three min_three max_four min_four
set_option linter.unusedVariables false
set_option linter.unusedSimpArgs false
def spec_l00Src_next.f (s0_0 : List Int) (s0_1 : Int) (s0_2 : Int) : Option (Int × Int × Int) := if s0_1 < (s0_0.length : Int) then (if 0 ≤ s0_1 then (if (wrap64 (s0_1 + 1)) ≤ (s0_0.length : Int) then (some (wrap64 (rd s0_0 s0_1), wrap64 (s0_1 + 1), IntKind.u64.wrap ((IntKind.u64.wrap ((IntKind.u64.wrap (s0_2 * 6364136223846793005)) + (IntKind.u64.wrap (wrap64 (rd s0_0 s0_1))))) + 1442695040888963407))) else (some (wrap64 (Go.bits .and .u64 ((IntKind.u64.wrap ((IntKind.u64.wrap ((IntKind.u64.wrap (s0_2 * 6364136223846793005)) + (IntKind.u64.wrap (wrap64 (rd s0_0 s0_1))))) + 1442695040888963407)) / 1099511627776) 255), wrap64 (s0_1 + 1), IntKind.u64.wrap ((IntKind.u64.wrap ((IntKind.u64.wrap (s0_2 * 6364136223846793005)) + (IntKind.u64.wrap (wrap64 (rd s0_0 s0_1))))) + 1442695040888963407)))) else (none)) else (if (wrap64 (s0_1 + 1)) ≤ (s0_0.length : Int) then (some (0, wrap64 (s0_1 + 1), IntKind.u64.wrap ((IntKind.u64.wrap ((IntKind.u64.wrap (s0_2 * 6364136223846793005)) + 0)) + 1442695040888963407))) else (some (wrap64 (Go.bits .and .u64 ((IntKind.u64.wrap ((IntKind.u64.wrap ((IntKind.u64.wrap (s0_2 * 6364136223846793005)) + 0)) + 1442695040888963407)) / 1099511627776) 255), wrap64 (s0_1 + 1), IntKind.u64.wrap ((IntKind.u64.wrap ((IntKind.u64.wrap (s0_2 * 6364136223846793005)) + 0)) + 1442695040888963407))))
set_option maxHeartbeats 8000000 in
set_option maxRecDepth 100000 in
theorem spec_l00Src_next.calls (g : Nat) (s0_0 : List Int) (s0_1 : Int) (s0_2 : Int) (r1 : Int) (r2 : Int) (r3 : Int) (w0 w : World) (hI : IsS89 w0 w g s0_0 s0_1 s0_2) (hB : Below w0.heap.size w0 w) (h : spec_l00Src_next.f s0_0 s0_1 s0_2 = some (r1, r2, r3)) :
  Calls Tryz.prog 73 #[.pointer (some ⟨g, 0, none⟩)] w fun e w' => e = .returned (.int .i64 r1) ∧ IsS89 w0 w' g s0_0 r2 r3 ∧ Below w0.heap.size w0 w' ∧ KeepBut w w' g none := by
 have HI0 := Aside0.mk hI
 have HK := Aside0.mk (KeepBut.refl w g none)
 have HL := Aside0.mk hB.size
 clear hI
 have HW0 := Aside0.mk hB.size
 have HB := Aside0.mk hB
 clear hB
 have H : (if s0_1 < (s0_0.length : Int) then (if 0 ≤ s0_1 then (if (wrap64 (s0_1 + 1)) ≤ (s0_0.length : Int) then (some (wrap64 (rd s0_0 s0_1), wrap64 (s0_1 + 1), IntKind.u64.wrap ((IntKind.u64.wrap ((IntKind.u64.wrap (s0_2 * 6364136223846793005)) + (IntKind.u64.wrap (wrap64 (rd s0_0 s0_1))))) + 1442695040888963407))) else (some (wrap64 (Go.bits .and .u64 ((IntKind.u64.wrap ((IntKind.u64.wrap ((IntKind.u64.wrap (s0_2 * 6364136223846793005)) + (IntKind.u64.wrap (wrap64 (rd s0_0 s0_1))))) + 1442695040888963407)) / 1099511627776) 255), wrap64 (s0_1 + 1), IntKind.u64.wrap ((IntKind.u64.wrap ((IntKind.u64.wrap (s0_2 * 6364136223846793005)) + (IntKind.u64.wrap (wrap64 (rd s0_0 s0_1))))) + 1442695040888963407)))) else (none)) else (if (wrap64 (s0_1 + 1)) ≤ (s0_0.length : Int) then (some (0, wrap64 (s0_1 + 1), IntKind.u64.wrap ((IntKind.u64.wrap ((IntKind.u64.wrap (s0_2 * 6364136223846793005)) + 0)) + 1442695040888963407))) else (some (wrap64 (Go.bits .and .u64 ((IntKind.u64.wrap ((IntKind.u64.wrap ((IntKind.u64.wrap (s0_2 * 6364136223846793005)) + 0)) + 1442695040888963407)) / 1099511627776) 255), wrap64 (s0_1 + 1), IntKind.u64.wrap ((IntKind.u64.wrap ((IntKind.u64.wrap (s0_2 * 6364136223846793005)) + 0)) + 1442695040888963407))))) = some (r1, r2, r3) := h
 clear h
 by_cases c2 : s0_1 < (s0_0.length : Int)
 ·rw [if_pos c2] at H
  have c2b0 : decide (s0_1 < (s0_0.length : Int)) = true := decide_eq_true c2
  clear c2
  by_cases c3 : 0 ≤ s0_1
  ·rw [if_pos c3] at H
   have c3b0 : decide (0 ≤ s0_1) = true := decide_eq_true c3
   clear c3
   by_cases c4 : (wrap64 (s0_1 + 1)) ≤ (s0_0.length : Int)
   ·rw [if_pos c4] at H
    have c4b0 : decide ((wrap64 (s0_1 + 1)) ≤ (s0_0.length : Int)) = true := decide_eq_true c4
    clear c4
    simp only [Option.some.injEq, Prod.mk.injEq] at H
    obtain ⟨rfl, rfl, rfl⟩ := H
    obtain ⟨ASz5_0, cSz5_0, HGz5, hgz5, HSz5_0⟩ := HI0.out
    have hcz5_0 := cellS89_0 HGz5
    have hcz5_1 := cellS89_1 HGz5
    have hcz5_2 := cellS89_2 HGz5
    have hfz5_1 := blk_frozen HGz5 1
    have hfz5_2 := blk_frozen HGz5 2
    clear HGz5 hgz5
    have p163 : 0 ≤ (s0_1 : Int) := of_decide_eq_true (by first | (with_reducible assumption) | assumption)
    have q163 : s0_1 < (s0_0.length : Int) := of_decide_eq_true (by first | (with_reducible assumption) | assumption)
    obtain ⟨ad163, e163, hx163_0⟩ := Kd.at_int HSz5_0 s0_1 p163 q163
    cases e163
    replace hx163_0 := pw_cell_below HB.out hx163_0
    replace p163 := eq_true p163
    replace q163 := eq_true q163
    go_enter Tryz.func73, Tryz.ntmps73
    go_wp2
    repeat (go_quiet (fail); try go_wp2)
    go_ret
    exact ⟨by first | rfl | (simp [errW_none, errW_some] <;> rfl) | (simp [*, errW_none, errW_some] <;> rfl), by (try simp only [Int.add_zero]); repeat (first | (with_reducible first | exact HI0.out | apply IsS89.alloc | apply IsS89.drewN | apply IsS89.drew | apply IsS89.set_1 | apply IsS89.set_2) | exact HI0.out), by repeat (first | (with_reducible first | exact HB.out | apply below_alloc | apply pw_below_drewN | apply below_drew1 | refine below_set ?_ (IsS89.ge HI0.out)) | exact HB.out), by repeat (first | (with_reducible first | exact HK.out | apply KeepBut.set_ | apply keep_drewN | apply keep_drew | apply keep_alloc) | exact HK.out)⟩
   ·rw [if_neg c4] at H
    have c4b0 : decide ((wrap64 (s0_1 + 1)) ≤ (s0_0.length : Int)) = false := decide_eq_false c4
    clear c4
    simp only [Option.some.injEq, Prod.mk.injEq] at H
    obtain ⟨rfl, rfl, rfl⟩ := H
    obtain ⟨ASz6_0, cSz6_0, HGz6, hgz6, HSz6_0⟩ := HI0.out
    have hcz6_0 := cellS89_0 HGz6
    have hcz6_1 := cellS89_1 HGz6
    have hcz6_2 := cellS89_2 HGz6
    have hfz6_1 := blk_frozen HGz6 1
    have hfz6_2 := blk_frozen HGz6 2
    clear HGz6 hgz6
    have p163 : 0 ≤ (s0_1 : Int) := of_decide_eq_true (by first | (with_reducible assumption) | assumption)
    have q163 : s0_1 < (s0_0.length : Int) := of_decide_eq_true (by first | (with_reducible assumption) | assumption)
    obtain ⟨ad163, e163, hx163_0⟩ := Kd.at_int HSz6_0 s0_1 p163 q163
    cases e163
    replace hx163_0 := pw_cell_below HB.out hx163_0
    replace p163 := eq_true p163
    replace q163 := eq_true q163
    go_enter Tryz.func73, Tryz.ntmps73
    go_wp2
    repeat (go_quiet (fail); try go_wp2)
    go_ret
    exact ⟨by first | rfl | (simp [errW_none, errW_some] <;> rfl) | (simp [*, errW_none, errW_some] <;> rfl), by (try simp only [Int.add_zero]); repeat (first | (with_reducible first | exact HI0.out | apply IsS89.alloc | apply IsS89.drewN | apply IsS89.drew | apply IsS89.set_1 | apply IsS89.set_2) | exact HI0.out), by repeat (first | (with_reducible first | exact HB.out | apply below_alloc | apply pw_below_drewN | apply below_drew1 | refine below_set ?_ (IsS89.ge HI0.out)) | exact HB.out), by repeat (first | (with_reducible first | exact HK.out | apply KeepBut.set_ | apply keep_drewN | apply keep_drew | apply keep_alloc) | exact HK.out)⟩
  ·rw [if_neg c3] at H
   exact absurd H (by simp)
 ·rw [if_neg c2] at H
  have c2b0 : decide (s0_1 < (s0_0.length : Int)) = false := decide_eq_false c2
  clear c2
  by_cases c7 : (wrap64 (s0_1 + 1)) ≤ (s0_0.length : Int)
  ·rw [if_pos c7] at H
   have c7b0 : decide ((wrap64 (s0_1 + 1)) ≤ (s0_0.length : Int)) = true := decide_eq_true c7
   clear c7
   simp only [Option.some.injEq, Prod.mk.injEq] at H
   obtain ⟨rfl, rfl, rfl⟩ := H
   obtain ⟨ASz8_0, cSz8_0, HGz8, hgz8, HSz8_0⟩ := HI0.out
   have hcz8_0 := cellS89_0 HGz8
   have hcz8_1 := cellS89_1 HGz8
   have hcz8_2 := cellS89_2 HGz8
   have hfz8_1 := blk_frozen HGz8 1
   have hfz8_2 := blk_frozen HGz8 2
   clear HGz8 hgz8
   go_enter Tryz.func73, Tryz.ntmps73
   go_wp2
   repeat (go_quiet (fail); try go_wp2)
   go_ret
   exact ⟨by first | rfl | (simp [errW_none, errW_some] <;> rfl) | (simp [*, errW_none, errW_some] <;> rfl), by (try simp only [Int.add_zero]); repeat (first | (with_reducible first | exact HI0.out | apply IsS89.alloc | apply IsS89.drewN | apply IsS89.drew | apply IsS89.set_1 | apply IsS89.set_2) | exact HI0.out), by repeat (first | (with_reducible first | exact HB.out | apply below_alloc | apply pw_below_drewN | apply below_drew1 | refine below_set ?_ (IsS89.ge HI0.out)) | exact HB.out), by repeat (first | (with_reducible first | exact HK.out | apply KeepBut.set_ | apply keep_drewN | apply keep_drew | apply keep_alloc) | exact HK.out)⟩
  ·rw [if_neg c7] at H
   have c7b0 : decide ((wrap64 (s0_1 + 1)) ≤ (s0_0.length : Int)) = false := decide_eq_false c7
   clear c7
   simp only [Option.some.injEq, Prod.mk.injEq] at H
   obtain ⟨rfl, rfl, rfl⟩ := H
   obtain ⟨ASz9_0, cSz9_0, HGz9, hgz9, HSz9_0⟩ := HI0.out
   have hcz9_0 := cellS89_0 HGz9
   have hcz9_1 := cellS89_1 HGz9
   have hcz9_2 := cellS89_2 HGz9
   have hfz9_1 := blk_frozen HGz9 1
   have hfz9_2 := blk_frozen HGz9 2
   clear HGz9 hgz9
   go_enter Tryz.func73, Tryz.ntmps73
   go_wp2
   repeat (go_quiet (fail); try go_wp2)
   go_ret
   exact ⟨by first | rfl | (simp [errW_none, errW_some] <;> rfl) | (simp [*, errW_none, errW_some] <;> rfl), by (try simp only [Int.add_zero]); repeat (first | (with_reducible first | exact HI0.out | apply IsS89.alloc | apply IsS89.drewN | apply IsS89.drew | apply IsS89.set_1 | apply IsS89.set_2) | exact HI0.out), by repeat (first | (with_reducible first | exact HB.out | apply below_alloc | apply pw_below_drewN | apply below_drew1 | refine below_set ?_ (IsS89.ge HI0.out)) | exact HB.out), by repeat (first | (with_reducible first | exact HK.out | apply KeepBut.set_ | apply keep_drewN | apply keep_drew | apply keep_alloc) | exact HK.out)⟩
def spec_l00Src_pick.f (s0_0 : List Int) (s0_1 : Int) (s0_2 : Int) (a1 : Int) : Option (Int × Int × Int) := if a1 ≤ 1 then (some (0, s0_1, s0_2)) else ((spec_l00Src_next.f s0_0 s0_1 s0_2).bind fun bt164 => (if a1 > 200 then ((spec_l00Src_next.f s0_0 bt164.2.1 bt164.2.2).bind fun bt167 => (if a1 = 0 then (none) else (some (Int.tmod (wrap64 ((wrap64 (bt164.1 * 256)) + bt167.1)) a1, bt167.2.1, bt167.2.2)))) else (if a1 = 0 then (none) else (some (Int.tmod bt164.1 a1, bt164.2.1, bt164.2.2)))))
set_option maxHeartbeats 8000000 in
set_option maxRecDepth 100000 in
theorem spec_l00Src_pick.calls (g : Nat) (s0_0 : List Int) (s0_1 : Int) (s0_2 : Int) (a1 : Int) (r1 : Int) (r2 : Int) (r3 : Int) (w0 w : World) (hI : IsS89 w0 w g s0_0 s0_1 s0_2) (hB : Below w0.heap.size w0 w) (h : spec_l00Src_pick.f s0_0 s0_1 s0_2 a1 = some (r1, r2, r3)) :
  Calls Tryz.prog 48 #[.pointer (some ⟨g, 0, none⟩), .int .i64 a1] w fun e w' => e = .returned (.int .i64 r1) ∧ IsS89 w0 w' g s0_0 r2 r3 ∧ Below w0.heap.size w0 w' ∧ KeepBut w w' g none := by
 have HI0 := Aside0.mk hI
 have HK := Aside0.mk (KeepBut.refl w g none)
 have HL := Aside0.mk hB.size
 clear hI
 have HW0 := Aside0.mk hB.size
 have HB := Aside0.mk hB
 clear hB
 have H : (if a1 ≤ 1 then (some (0, s0_1, s0_2)) else ((spec_l00Src_next.f s0_0 s0_1 s0_2).bind fun bt164 => (if a1 > 200 then ((spec_l00Src_next.f s0_0 bt164.2.1 bt164.2.2).bind fun bt167 => (if a1 = 0 then (none) else (some (Int.tmod (wrap64 ((wrap64 (bt164.1 * 256)) + bt167.1)) a1, bt167.2.1, bt167.2.2)))) else (if a1 = 0 then (none) else (some (Int.tmod bt164.1 a1, bt164.2.1, bt164.2.2)))))) = some (r1, r2, r3) := h
 clear h
 by_cases c3 : a1 ≤ 1
 ·rw [if_pos c3] at H
  have c3b0 : decide (a1 ≤ 1) = true := decide_eq_true c3
  clear c3
  simp only [Option.some.injEq, Prod.mk.injEq] at H
  obtain ⟨rfl, rfl, rfl⟩ := H
  go_enter Tryz.func48, Tryz.ntmps48
  go_wp2
  go_ret
  exact ⟨by first | rfl | (simp [errW_none, errW_some] <;> rfl) | (simp [*, errW_none, errW_some] <;> rfl), by repeat (first | (with_reducible first | exact HI0.out | apply IsS89.alloc | apply IsS89.drewN | apply IsS89.drew | apply IsS89.set_1 | apply IsS89.set_2) | exact HI0.out), by repeat (first | (with_reducible first | exact HB.out | apply below_alloc | apply pw_below_drewN | apply below_drew1 | refine below_set ?_ (IsS89.ge HI0.out)) | exact HB.out), by repeat (first | (with_reducible first | exact HK.out | apply KeepBut.set_ | apply keep_drewN | apply keep_drew | apply keep_alloc) | exact HK.out)⟩
 ·rw [if_neg c3] at H
  have c3b0 : decide (a1 ≤ 1) = false := decide_eq_false c3
  clear c3
  replace H := Option.bind_eq_some_iff.mp H
  obtain ⟨⟨t164, t165, t166⟩, A40, H⟩ := H
  replace H : (if a1 > 200 then ((spec_l00Src_next.f s0_0 t165 t166).bind fun bt167 => (if a1 = 0 then (none) else (some (Int.tmod (wrap64 ((wrap64 (t164 * 256)) + bt167.1)) a1, bt167.2.1, bt167.2.2)))) else (if a1 = 0 then (none) else (some (Int.tmod t164 a1, t165, t166)))) = some (r1, r2, r3) := H
  have A4 := Aside0.mk A40
  clear A40
  by_cases c5 : a1 > 200
  ·rw [if_pos c5] at H
   have c5b0 : decide (200 < a1) = true := decide_eq_true c5
   clear c5
   replace H := Option.bind_eq_some_iff.mp H
   obtain ⟨⟨t167, t168, t169⟩, A60, H⟩ := H
   replace H : (if a1 = 0 then (none) else (some (Int.tmod (wrap64 ((wrap64 (t164 * 256)) + t167)) a1, t168, t169))) = some (r1, r2, r3) := H
   have A6 := Aside0.mk A60
   clear A60
   by_cases c7 : a1 = 0
   ·rw [if_pos c7] at H
    exact absurd H (by simp)
   ·rw [if_neg c7] at H
    have c7b0 : (a1 == 0) = false := beq_eq_false_iff_ne.mpr c7
    have c7b1 : (a1 != 0) = true := bne_iff_ne.mpr c7
    simp only [Option.some.injEq, Prod.mk.injEq] at H
    obtain ⟨rfl, rfl, rfl⟩ := H
    go_enter Tryz.func48, Tryz.ntmps48
    go_wp2_with (first | ((with_reducible refine gate_callee (f := 73) rfl ?_); refine goesL_ (some 9) rfl rfl Tryz.func73 (by kernel_rfl) rfl #[.pointer (some ⟨g, 0, none⟩)] rfl (by (try simp only [List.map_toArray, List.map_cons, List.map_nil]); first | done | rfl | (simp only [List.length_drop, List.length_take]; rfl)) ?_; (with_reducible refine (spec_l00Src_next.calls g s0_0 s0_1 s0_2 t164 t165 t166 w0 _ ?side1 ?side2 A4.out).mono ?_); (case side1 => repeat (first | (with_reducible first | exact HI0.out | apply IsS89.alloc | apply IsS89.drewN | apply IsS89.drew | apply IsS89.set_1 | apply IsS89.set_2) | exact HI0.out)); (case side2 => repeat (first | (with_reducible first | exact HB.out | apply below_alloc | apply pw_below_drewN | apply below_drew1 | refine below_set ?_ (IsS89.ge HI0.out)) | exact HB.out)); rintro e w8 ⟨rfl, hi, hb, hk⟩; refine ⟨_, rfl, ?_⟩; have n0_ := Aside0.mk (KeepBut.trans (by repeat (first | (with_reducible first | exact HK.out | apply KeepBut.set_ | apply keep_drewN | apply keep_drew | apply keep_alloc) | exact HK.out)) hk (.inl rfl)); have n1_ := Aside0.mk (hb); have n2_ := Aside0.mk (hi); clear HK; clear HB; clear HI0; have HK := n0_; have HB := n1_; have HI0 := n2_; clear n0_ n1_ n2_; (try clear hb); (try clear hb2); (try clear hk); (try clear hi)) | ((with_reducible refine gate_callee (f := 73) rfl ?_); refine goesL_ (some 15) rfl rfl Tryz.func73 (by kernel_rfl) rfl #[.pointer (some ⟨g, 0, none⟩)] rfl (by (try simp only [List.map_toArray, List.map_cons, List.map_nil]); first | done | rfl | (simp only [List.length_drop, List.length_take]; rfl)) ?_; (with_reducible refine (spec_l00Src_next.calls g s0_0 t165 t166 t167 t168 t169 w0 _ ?side1 ?side2 A6.out).mono ?_); (case side1 => repeat (first | (with_reducible first | exact HI0.out | apply IsS89.alloc | apply IsS89.drewN | apply IsS89.drew | apply IsS89.set_1 | apply IsS89.set_2) | exact HI0.out)); (case side2 => repeat (first | (with_reducible first | exact HB.out | apply below_alloc | apply pw_below_drewN | apply below_drew1 | refine below_set ?_ (IsS89.ge HI0.out)) | exact HB.out)); rintro e w9 ⟨rfl, hi, hb, hk⟩; refine ⟨_, rfl, ?_⟩; have n0_ := Aside0.mk (KeepBut.trans (by repeat (first | (with_reducible first | exact HK.out | apply KeepBut.set_ | apply keep_drewN | apply keep_drew | apply keep_alloc) | exact HK.out)) hk (.inl rfl)); have n1_ := Aside0.mk (hb); have n2_ := Aside0.mk (hi); clear HK; clear HB; clear HI0; have HK := n0_; have HB := n1_; have HI0 := n2_; clear n0_ n1_ n2_; (try clear hb); (try clear hb2); (try clear hk); (try clear hi)))
    go_ret
    exact ⟨by first | rfl | (simp [errW_none, errW_some] <;> rfl) | (simp [*, errW_none, errW_some] <;> rfl), by repeat (first | (with_reducible first | exact HI0.out | apply IsS89.alloc | apply IsS89.drewN | apply IsS89.drew | apply IsS89.set_1 | apply IsS89.set_2) | exact HI0.out), by repeat (first | (with_reducible first | exact HB.out | apply below_alloc | apply pw_below_drewN | apply below_drew1 | refine below_set ?_ (IsS89.ge HI0.out)) | exact HB.out), by repeat (first | (with_reducible first | exact HK.out | apply KeepBut.set_ | apply keep_drewN | apply keep_drew | apply keep_alloc) | exact HK.out)⟩
  ·rw [if_neg c5] at H
   have c5b0 : decide (200 < a1) = false := decide_eq_false c5
   clear c5
   by_cases c10 : a1 = 0
   ·rw [if_pos c10] at H
    exact absurd H (by simp)
   ·rw [if_neg c10] at H
    have c10b0 : (a1 == 0) = false := beq_eq_false_iff_ne.mpr c10
    have c10b1 : (a1 != 0) = true := bne_iff_ne.mpr c10
    simp only [Option.some.injEq, Prod.mk.injEq] at H
    obtain ⟨rfl, rfl, rfl⟩ := H
    go_enter Tryz.func48, Tryz.ntmps48
    go_wp2_with (first | ((with_reducible refine gate_callee (f := 73) rfl ?_); refine goesL_ (some 9) rfl rfl Tryz.func73 (by kernel_rfl) rfl #[.pointer (some ⟨g, 0, none⟩)] rfl (by (try simp only [List.map_toArray, List.map_cons, List.map_nil]); first | done | rfl | (simp only [List.length_drop, List.length_take]; rfl)) ?_; (with_reducible refine (spec_l00Src_next.calls g s0_0 s0_1 s0_2 t164 t165 t166 w0 _ ?side1 ?side2 A4.out).mono ?_); (case side1 => repeat (first | (with_reducible first | exact HI0.out | apply IsS89.alloc | apply IsS89.drewN | apply IsS89.drew | apply IsS89.set_1 | apply IsS89.set_2) | exact HI0.out)); (case side2 => repeat (first | (with_reducible first | exact HB.out | apply below_alloc | apply pw_below_drewN | apply below_drew1 | refine below_set ?_ (IsS89.ge HI0.out)) | exact HB.out)); rintro e w11 ⟨rfl, hi, hb, hk⟩; refine ⟨_, rfl, ?_⟩; have n0_ := Aside0.mk (KeepBut.trans (by repeat (first | (with_reducible first | exact HK.out | apply KeepBut.set_ | apply keep_drewN | apply keep_drew | apply keep_alloc) | exact HK.out)) hk (.inl rfl)); have n1_ := Aside0.mk (hb); have n2_ := Aside0.mk (hi); clear HK; clear HB; clear HI0; have HK := n0_; have HB := n1_; have HI0 := n2_; clear n0_ n1_ n2_; (try clear hb); (try clear hb2); (try clear hk); (try clear hi)))
    go_ret
    exact ⟨by first | rfl | (simp [errW_none, errW_some] <;> rfl) | (simp [*, errW_none, errW_some] <;> rfl), by repeat (first | (with_reducible first | exact HI0.out | apply IsS89.alloc | apply IsS89.drewN | apply IsS89.drew | apply IsS89.set_1 | apply IsS89.set_2) | exact HI0.out), by repeat (first | (with_reducible first | exact HB.out | apply below_alloc | apply pw_below_drewN | apply below_drew1 | refine below_set ?_ (IsS89.ge HI0.out)) | exact HB.out), by repeat (first | (with_reducible first | exact HK.out | apply KeepBut.set_ | apply keep_drewN | apply keep_drew | apply keep_alloc) | exact HK.out)⟩
def spec_l00Src_among.f (s0_0 : List Int) (s0_1 : Int) (s0_2 : Int) (l1 : List Int) : Option (Int × Int × Int) := (spec_l00Src_pick.f s0_0 s0_1 s0_2 (l1.length : Int)).bind fun bt170 => (if 0 ≤ bt170.1 then (if bt170.1 < (l1.length : Int) then (some (rd l1 bt170.1, bt170.2.1, bt170.2.2)) else (none)) else (none))
set_option maxHeartbeats 8000000 in
set_option maxRecDepth 100000 in
theorem spec_l00Src_among.calls (g : Nat) (s0_0 : List Int) (s0_1 : Int) (s0_2 : Int) (A1 : Option Addr) (c1 : Nat) (l1 : List Int) (r1 : Int) (r2 : Int) (r3 : Int) (w0 w : World) (hI : IsS89 w0 w g s0_0 s0_1 s0_2) (hB : Below w0.heap.size w0 w) (hr1 : Kd.C (Kd.int .i64) w A1 l1.length l1) (hc1 : l1.length ≤ c1) (hf1 : ∀ ad, A1 = some ad → 0 < l1.length → ad.block ≠ g) (h : spec_l00Src_among.f s0_0 s0_1 s0_2 l1 = some (r1, r2, r3)) :
  Calls Tryz.prog 74 #[.pointer (some ⟨g, 0, none⟩), .slice A1 l1.length c1] w fun e w' => e = .returned (.int .i64 r1) ∧ IsS89 w0 w' g s0_0 r2 r3 ∧ Below w0.heap.size w0 w' ∧ KeepBut w w' g none := by
 have HR1 := Aside0.mk hr1
 have HC1 := Aside0.mk hc1
 clear hr1 hc1
 have HI0 := Aside0.mk hI
 have HK := Aside0.mk (KeepBut.refl w g none)
 have HL := Aside0.mk hB.size
 clear hI
 have HW0 := Aside0.mk hB.size
 have HB := Aside0.mk hB
 clear hB
 have H : ((spec_l00Src_pick.f s0_0 s0_1 s0_2 (l1.length : Int)).bind fun bt170 => (if 0 ≤ bt170.1 then (if bt170.1 < (l1.length : Int) then (some (rd l1 bt170.1, bt170.2.1, bt170.2.2)) else (none)) else (none))) = some (r1, r2, r3) := h
 clear h
 replace H := Option.bind_eq_some_iff.mp H
 obtain ⟨⟨t170, t171, t172⟩, A30, H⟩ := H
 replace H : (if 0 ≤ t170 then (if t170 < (l1.length : Int) then (some (rd l1 t170, t171, t172)) else (none)) else (none)) = some (r1, r2, r3) := H
 have A3 := Aside0.mk A30
 clear A30
 by_cases c4 : 0 ≤ t170
 ·rw [if_pos c4] at H
  have c4b0 : decide (0 ≤ t170) = true := decide_eq_true c4
  clear c4
  by_cases c5 : t170 < (l1.length : Int)
  ·rw [if_pos c5] at H
   have c5b0 : decide (t170 < (l1.length : Int)) = true := decide_eq_true c5
   clear c5
   simp only [Option.some.injEq, Prod.mk.injEq] at H
   obtain ⟨rfl, rfl, rfl⟩ := H
   go_enter Tryz.func74, Tryz.ntmps74
   go_wp2_with (first | ((with_reducible refine gate_callee (f := 48) rfl ?_); refine goesL_ (some 9) rfl rfl Tryz.func48 (by kernel_rfl) rfl #[.pointer (some ⟨g, 0, none⟩), .int .i64 (l1.length : Int)] rfl (by (try simp only [List.map_toArray, List.map_cons, List.map_nil]); first | done | rfl | (simp only [List.length_drop, List.length_take]; rfl)) ?_; (with_reducible refine (spec_l00Src_pick.calls g s0_0 s0_1 s0_2 (l1.length : Int) t170 t171 t172 w0 _ ?side1 ?side2 A3.out).mono ?_); (case side1 => repeat (first | (with_reducible first | exact HI0.out | apply IsS89.alloc | apply IsS89.drewN | apply IsS89.drew | apply IsS89.set_1 | apply IsS89.set_2) | exact HI0.out)); (case side2 => repeat (first | (with_reducible first | exact HB.out | apply below_alloc | apply pw_below_drewN | apply below_drew1 | refine below_set ?_ (IsS89.ge HI0.out)) | exact HB.out)); rintro e w6 ⟨rfl, hi, hb, hk⟩; refine ⟨_, rfl, ?_⟩; have n0_ := Aside0.mk (KeepBut.trans (by repeat (first | (with_reducible first | exact HK.out | apply KeepBut.set_ | apply keep_drewN | apply keep_drew | apply keep_alloc) | exact HK.out)) hk (.inl rfl)); have n1_ := Aside0.mk (hb); have n2_ := Aside0.mk (hi); clear HK; clear HB; clear HI0; have HK := n0_; have HB := n1_; have HI0 := n2_; clear n0_ n1_ n2_; (try clear hb); (try clear hb2); (try clear hk); (try clear hi); have p173 : 0 ≤ (t170 : Int) := of_decide_eq_true (by first | (with_reducible assumption) | assumption); have q173 : t170 < (l1.length : Int) := of_decide_eq_true (by first | (with_reducible assumption) | assumption); obtain ⟨ad173, e173, hx173_0⟩ := Kd.at_int HR1.out t170 p173 q173; cases e173; replace hx173_0 := keep_cell HK.out hx173_0 (by first | (rw [add_block]; exact hf1 _ rfl (by omega)) | exact hf1 _ rfl (by omega) | exact hf1 ad173 rfl (by omega)); replace p173 := eq_true p173; replace q173 := eq_true q173))
   go_ret
   exact ⟨by first | rfl | (simp [errW_none, errW_some] <;> rfl) | (simp [*, errW_none, errW_some] <;> rfl), by repeat (first | (with_reducible first | exact HI0.out | apply IsS89.alloc | apply IsS89.drewN | apply IsS89.drew | apply IsS89.set_1 | apply IsS89.set_2) | exact HI0.out), by repeat (first | (with_reducible first | exact HB.out | apply below_alloc | apply pw_below_drewN | apply below_drew1 | refine below_set ?_ (IsS89.ge HI0.out)) | exact HB.out), by repeat (first | (with_reducible first | exact HK.out | apply KeepBut.set_ | apply keep_drewN | apply keep_drew | apply keep_alloc) | exact HK.out)⟩
  ·rw [if_neg c5] at H
   exact absurd H (by simp)
 ·rw [if_neg c4] at H
  exact absurd H (by simp)
def spec_l00Src_one.f (s0_0 : List Int) (s0_1 : Int) (s0_2 : Int) (a1 : Int) : Option (Bool × Int × Int) := (spec_l00Src_pick.f s0_0 s0_1 s0_2 a1).bind fun bt174 => (some ((bt174.1 == 0), bt174.2.1, bt174.2.2))
set_option maxHeartbeats 8000000 in
set_option maxRecDepth 100000 in
theorem spec_l00Src_one.calls (g : Nat) (s0_0 : List Int) (s0_1 : Int) (s0_2 : Int) (a1 : Int) (r1 : Bool) (r2 : Int) (r3 : Int) (w0 w : World) (hI : IsS89 w0 w g s0_0 s0_1 s0_2) (hB : Below w0.heap.size w0 w) (h : spec_l00Src_one.f s0_0 s0_1 s0_2 a1 = some (r1, r2, r3)) :
  Calls Tryz.prog 75 #[.pointer (some ⟨g, 0, none⟩), .int .i64 a1] w fun e w' => e = .returned (.bool r1) ∧ IsS89 w0 w' g s0_0 r2 r3 ∧ Below w0.heap.size w0 w' ∧ KeepBut w w' g none := by
 have HI0 := Aside0.mk hI
 have HK := Aside0.mk (KeepBut.refl w g none)
 have HL := Aside0.mk hB.size
 clear hI
 have HW0 := Aside0.mk hB.size
 have HB := Aside0.mk hB
 clear hB
 have H : ((spec_l00Src_pick.f s0_0 s0_1 s0_2 a1).bind fun bt174 => (some ((bt174.1 == 0), bt174.2.1, bt174.2.2))) = some (r1, r2, r3) := h
 clear h
 replace H := Option.bind_eq_some_iff.mp H
 obtain ⟨⟨t174, t175, t176⟩, A30, H⟩ := H
 replace H : (some ((t174 == 0), t175, t176)) = some (r1, r2, r3) := H
 have A3 := Aside0.mk A30
 clear A30
 simp only [Option.some.injEq, Prod.mk.injEq] at H
 obtain ⟨rfl, rfl, rfl⟩ := H
 go_enter Tryz.func75, Tryz.ntmps75
 go_wp2_with (first | ((with_reducible refine gate_callee (f := 48) rfl ?_); refine goesL_ (some 7) rfl rfl Tryz.func48 (by kernel_rfl) rfl #[.pointer (some ⟨g, 0, none⟩), .int .i64 a1] rfl (by (try simp only [List.map_toArray, List.map_cons, List.map_nil]); first | done | rfl | (simp only [List.length_drop, List.length_take]; rfl)) ?_; (with_reducible refine (spec_l00Src_pick.calls g s0_0 s0_1 s0_2 a1 t174 t175 t176 w0 _ ?side1 ?side2 A3.out).mono ?_); (case side1 => repeat (first | (with_reducible first | exact HI0.out | apply IsS89.alloc | apply IsS89.drewN | apply IsS89.drew | apply IsS89.set_1 | apply IsS89.set_2) | exact HI0.out)); (case side2 => repeat (first | (with_reducible first | exact HB.out | apply below_alloc | apply pw_below_drewN | apply below_drew1 | refine below_set ?_ (IsS89.ge HI0.out)) | exact HB.out)); rintro e w4 ⟨rfl, hi, hb, hk⟩; refine ⟨_, rfl, ?_⟩; have n0_ := Aside0.mk (KeepBut.trans (by repeat (first | (with_reducible first | exact HK.out | apply KeepBut.set_ | apply keep_drewN | apply keep_drew | apply keep_alloc) | exact HK.out)) hk (.inl rfl)); have n1_ := Aside0.mk (hb); have n2_ := Aside0.mk (hi); clear HK; clear HB; clear HI0; have HK := n0_; have HB := n1_; have HI0 := n2_; clear n0_ n1_ n2_; (try clear hb); (try clear hb2); (try clear hk); (try clear hi)))
 go_ret
 exact ⟨by first | rfl | (simp [errW_none, errW_some] <;> rfl) | (simp [*, errW_none, errW_some] <;> rfl), by repeat (first | (with_reducible first | exact HI0.out | apply IsS89.alloc | apply IsS89.drewN | apply IsS89.drew | apply IsS89.set_1 | apply IsS89.set_2) | exact HI0.out), by repeat (first | (with_reducible first | exact HB.out | apply below_alloc | apply pw_below_drewN | apply below_drew1 | refine below_set ?_ (IsS89.ge HI0.out)) | exact HB.out), by repeat (first | (with_reducible first | exact HK.out | apply KeepBut.set_ | apply keep_drewN | apply keep_drew | apply keep_alloc) | exact HK.out)⟩
def spec_l02Meant.l0 : Nat → List Int → Int → List Int → Int → Int → Option (List Int × Int × Int)
 | 0, _, _, _, _, _ => none
 | k + 1, x3, x4, x1000, x1001, x1002 => if x4 > 0 then ((spec_l00Src_among.f x1000 x1001 x1002 (([0, 1, 2, 3, 25, 39] : List Int))).bind fun bt186 => (if x3.length < 140737488355328 then ((some (x3 ++ [IntKind.i8.wrap (bt186.1)] : List Int)).bind fun y189 => ((spec_l00Src_one.f x1000 bt186.2.1 bt186.2.2 6).bind fun bt192 => (if bt192.1 = true then (if x4 > 1 then (if (y189.length : Int) < 6 then (if y189.length < 140737488355328 then (spec_l02Meant.l0 k (y189 ++ [(-10)]) (wrap64 (x4 - 1)) x1000 bt192.2.1 bt192.2.2) else (none)) else (spec_l02Meant.l0 k y189 (wrap64 (x4 - 1)) x1000 bt192.2.1 bt192.2.2)) else (spec_l02Meant.l0 k y189 (wrap64 (x4 - 1)) x1000 bt192.2.1 bt192.2.2)) else (spec_l02Meant.l0 k y189 (wrap64 (x4 - 1)) x1000 bt192.2.1 bt192.2.2)))) else (none))) else (if (x3.length : Int) > 8 then (if 8 ≤ (x3.length : Int) then ((some (x3.take (8 : Int).toNat : List Int)).bind fun y198 => (if 0 ≤ (wrap64 ((y198.length : Int) - 1)) then (if (wrap64 ((y198.length : Int) - 1)) < (y198.length : Int) then (if (rd y198 (wrap64 ((y198.length : Int) - 1))) = (-10) then (if (wrap64 ((y198.length : Int) - 1)) ≤ (y198.length : Int) then (some ((y198.take ((wrap64 ((y198.length : Int) - 1)) : Int).toNat), x1001, x1002)) else (none)) else (some (y198, x1001, x1002))) else (none)) else (none))) else (none)) else (if 0 ≤ (wrap64 ((x3.length : Int) - 1)) then (if (wrap64 ((x3.length : Int) - 1)) < (x3.length : Int) then (if (rd x3 (wrap64 ((x3.length : Int) - 1))) = (-10) then (if (wrap64 ((x3.length : Int) - 1)) ≤ (x3.length : Int) then (some ((x3.take ((wrap64 ((x3.length : Int) - 1)) : Int).toNat), x1001, x1002)) else (none)) else (some (x3, x1001, x1002))) else (none)) else (none)))
def spec_l02Meant.f (k : Nat) (s0_0 : List Int) (s0_1 : Int) (s0_2 : Int) : Option (List Int × Int × Int) := (spec_l00Src_pick.f s0_0 s0_1 s0_2 6).bind fun bt180 => (spec_l02Meant.l0 k (([] : List Int)) (wrap64 (1 + bt180.1)) s0_0 bt180.2.1 bt180.2.2)
set_option maxHeartbeats 8000000 in
set_option maxRecDepth 100000 in
theorem spec_l02Meant.calls (k : Nat) (g : Nat) (s0_0 : List Int) (s0_1 : Int) (s0_2 : Int) (r1 : List Int) (r2 : Int) (r3 : Int) (w0 w : World) (hI : IsS89 w0 w g s0_0 s0_1 s0_2) (hB : Below w0.heap.size w0 w) (h : spec_l02Meant.f k s0_0 s0_1 s0_2 = some (r1, r2, r3)) :
  Calls Tryz.prog 49 #[.pointer (some ⟨g, 0, none⟩)] w fun e w' => ∃ v0_ : Value, e = .returned (v0_) ∧ Kd.R (Kd.int .i8) 45 w' w.heap.size (fun _ => True) v0_ r1 ∧ IsS89 w0 w' g s0_0 r2 r3 ∧ Below w0.heap.size w0 w' ∧ KeepBut w w' g none := by
 have HI0 := Aside0.mk hI
 have HK := Aside0.mk (KeepBut.refl w g none)
 have HL := Aside0.mk hB.size
 clear hI
 have HW0 := Aside0.mk hB.size
 have HB := Aside0.mk hB
 clear hB
 have H : ((spec_l00Src_pick.f s0_0 s0_1 s0_2 6).bind fun bt180 => (spec_l02Meant.l0 k (([] : List Int)) (wrap64 (1 + bt180.1)) s0_0 bt180.2.1 bt180.2.2)) = some (r1, r2, r3) := h
 clear h
 obtain ⟨y177, hy177⟩ : ∃ y_ : List Int, y_ = (([] : List Int)) := ⟨_, rfl⟩
 replace H : ((spec_l00Src_pick.f s0_0 s0_1 s0_2 6).bind fun bt180 => (spec_l02Meant.l0 k y177 (wrap64 (1 + bt180.1)) s0_0 bt180.2.1 bt180.2.2)) = some (r1, r2, r3) := by first | (rw [hy177]; with_reducible exact H) | (have H2_ := (Option.bind_some _ _).symm.trans H; rw [hy177]; with_reducible exact H2_) | (have H2_ := (Option.bind_some _ _).symm.trans H; with_reducible exact H2_) | with_reducible exact H | (rw [hy177]; exact H) | exact H
 have Ny177 := Aside0.mk hy177
 clear hy177
 replace H := Option.bind_eq_some_iff.mp H
 obtain ⟨⟨t180, t181, t182⟩, A20, H⟩ := H
 replace H : (spec_l02Meant.l0 k y177 (wrap64 (1 + t180)) s0_0 t181 t182) = some (r1, r2, r3) := H
 have A2 := Aside0.mk A20
 clear A20
 have H' := Aside0.mk H
 clear H
 go_enter Tryz.func49, Tryz.ntmps49
 go_wp2_with (first | ((with_reducible refine gate_dst (N := 5) rfl ?_); (try (refine gate_guard (by rfl) ?_; dsimp only)); refine Kd.R_lit (Kd.int .i8) _ 45 ?hg (N := 5) ?hd (xs := ([] : List Int)) (inner := []) (ok := fun _ => True) (okp := fun _ => True) ?hr ?hp (fun _ hk => hk) trivial (Below.refl _ _) (Nat.le_refl _) (by simp) ?_; (case hd => rfl); (case hg => rfl); (case hr => first | (go_simp; done) | (go_simp; rfl)); (case hp => exact (Reps.none _ _)); intro v178 w3 ho4 hb hg_ hnew_; clear hg_ hnew_; (first | rw [← Ny177.out] at ho4 | (simp only [Int.reduceToNat] at ho4; rw [← Ny177.out] at ho4)); have n0_ := Aside0.mk (Kd.R_lower ho4 (keep_size (w := w) (g := g) (row := none) (by repeat (first | (with_reducible first | exact HK.out | apply KeepBut.set_ | apply keep_drewN | apply keep_drew | apply keep_alloc) | exact HK.out)))); have n1_ := Aside0.mk (IsS89.below (by repeat (first | (with_reducible first | exact HI0.out | apply IsS89.alloc | apply IsS89.drewN | apply IsS89.drew | apply IsS89.set_1 | apply IsS89.set_2) | exact HI0.out)) hb); have n2_ := Aside0.mk (KeepBut.trans (by repeat (first | (with_reducible first | exact HK.out | apply KeepBut.set_ | apply keep_drewN | apply keep_drew | apply keep_alloc) | exact HK.out)) (KeepBut.of_below hb g none) (.inl rfl)); have n3_ := Aside0.mk (below_step (by repeat (first | (with_reducible first | exact HB.out | apply below_alloc | apply pw_below_drewN | apply below_drew1 | refine below_set ?_ (IsS89.ge HI0.out)) | exact HB.out)) hb); clear HI0; clear HK; clear HB; have HO179 := n0_; have HI0 := n1_; have HK := n2_; have HB := n3_; clear n0_ n1_ n2_ n3_; clear hb ho4) | ((with_reducible refine gate_callee (f := 48) rfl ?_); refine goesL_ (some 7) rfl rfl Tryz.func48 (by kernel_rfl) rfl #[.pointer (some ⟨g, 0, none⟩), .int .i64 6] rfl (by (try simp only [List.map_toArray, List.map_cons, List.map_nil]); first | done | rfl | (simp only [List.length_drop, List.length_take]; rfl)) ?_; (with_reducible refine (spec_l00Src_pick.calls g s0_0 s0_1 s0_2 6 t180 t181 t182 w0 _ ?side1 ?side2 A2.out).mono ?_); (case side1 => repeat (first | (with_reducible first | exact HI0.out | apply IsS89.alloc | apply IsS89.drewN | apply IsS89.drew | apply IsS89.set_1 | apply IsS89.set_2) | exact HI0.out)); (case side2 => repeat (first | (with_reducible first | exact HB.out | apply below_alloc | apply pw_below_drewN | apply below_drew1 | refine below_set ?_ (IsS89.ge HI0.out)) | exact HB.out)); rintro e w5 ⟨rfl, hi, hb, hk⟩; refine ⟨_, rfl, ?_⟩; have n0_ := Aside0.mk (Kd.R_mono (Kd.R_keep (IsS89.apart (show IsS89 w0 _ g s0_0 s0_1 s0_2 from by repeat (first | (with_reducible first | exact HI0.out | apply IsS89.alloc | apply IsS89.drewN | apply IsS89.drew | apply IsS89.set_1 | apply IsS89.set_2) | exact HI0.out)) (by (with_reducible repeat (first | apply Kd.R_alloc | apply Kd.R_drewN | apply Kd.R_drew)); exact HO179.out) (by decide)) hk (fun _ h => h.2)) (fun _ h => h.1)); have n1_ := Aside0.mk (KeepBut.trans (by repeat (first | (with_reducible first | exact HK.out | apply KeepBut.set_ | apply keep_drewN | apply keep_drew | apply keep_alloc) | exact HK.out)) hk (.inl rfl)); have n2_ := Aside0.mk (hb); have n3_ := Aside0.mk (hi); clear HO179; clear HK; clear HB; clear HI0; have HO179 := n0_; have HK := n1_; have HB := n2_; have HI0 := n3_; clear n0_ n1_ n2_ n3_; (try clear hb); (try clear hb2); (try clear hk); (try clear hi)))
 go_loopg [3, 4] k (fun kq v3 v4 w' => ∃ (x3_1 : List Int) (x4_1 : Int) (x1001_1 : Int) (x1002_1 : Int), v4 = .int .i64 x4_1 ∧ Aside0 (spec_l02Meant.l0 kq x3_1 x4_1 s0_0 x1001_1 x1002_1 = some (r1, r2, r3)) ∧ Aside0 (kq ≤ k) ∧ Aside0 (Kd.R (Kd.int .i8) 45 w' w.heap.size (fun _ => True) v3 x3_1) ∧ Aside0 (IsS89 w0 w' g s0_0 x1001_1 x1002_1) ∧ Aside0 (KeepBut w w' g none) ∧ Aside0 (Below w0.heap.size w0 w'))
 case atStart => exact ⟨(y177), (wrap64 (1 + t180)), (t181), (t182), (by first | rfl | (simp; done) | (simp [*]; done)), H', ⟨Nat.le_refl _⟩, ⟨by (with_reducible repeat (first | apply Kd.R_alloc | apply Kd.R_drewN | apply Kd.R_drew)); exact HO179.out⟩, ⟨by repeat (first | (with_reducible first | exact HI0.out | apply IsS89.alloc | apply IsS89.drewN | apply IsS89.drew | apply IsS89.set_1 | apply IsS89.set_2) | exact HI0.out)⟩, ⟨by repeat (first | (with_reducible first | exact HK.out | apply KeepBut.set_ | apply keep_drewN | apply keep_drew | apply keep_alloc) | exact HK.out)⟩, ⟨by repeat (first | (with_reducible first | exact HB.out | apply below_alloc | apply pw_below_drewN | apply below_drew1 | refine below_set ?_ (IsS89.ge HI0.out)) | exact HB.out)⟩⟩
 case round =>
  clear H'
  try clear p2
  try clear c4
  obtain ⟨x3_1, x4_1, x1001_1, x1002_1, rfl, HA, HK1, HO_3, HI0, HK, HB⟩ := hrel
  cases gk with
  | zero => exact absurd HA.out (by simp [spec_l02Meant.l0])
  | succ k1 =>
   have H := HA.out
   clear HA
   simp only [spec_l02Meant.l0] at H
   by_cases c6 : x4_1 > 0
   ·rw [if_pos c6] at H
    have c6b0 : decide (0 < x4_1) = true := decide_eq_true c6
    clear c6
    obtain ⟨y183, hy183⟩ : ∃ y_ : List Int, y_ = (([0, 1, 2, 3, 25, 39] : List Int)) := ⟨_, rfl⟩
    replace H : ((spec_l00Src_among.f s0_0 x1001_1 x1002_1 y183).bind fun bt186 => (if x3_1.length < 140737488355328 then ((some (x3_1 ++ [IntKind.i8.wrap (bt186.1)] : List Int)).bind fun y189 => ((spec_l00Src_one.f s0_0 bt186.2.1 bt186.2.2 6).bind fun bt192 => (if bt192.1 = true then (if x4_1 > 1 then (if (y189.length : Int) < 6 then (if y189.length < 140737488355328 then (spec_l02Meant.l0 k1 (y189 ++ [(-10)]) (wrap64 (x4_1 - 1)) s0_0 bt192.2.1 bt192.2.2) else (none)) else (spec_l02Meant.l0 k1 y189 (wrap64 (x4_1 - 1)) s0_0 bt192.2.1 bt192.2.2)) else (spec_l02Meant.l0 k1 y189 (wrap64 (x4_1 - 1)) s0_0 bt192.2.1 bt192.2.2)) else (spec_l02Meant.l0 k1 y189 (wrap64 (x4_1 - 1)) s0_0 bt192.2.1 bt192.2.2)))) else (none))) = some (r1, r2, r3) := by first | (rw [hy183]; with_reducible exact H) | (have H2_ := (Option.bind_some _ _).symm.trans H; rw [hy183]; with_reducible exact H2_) | (have H2_ := (Option.bind_some _ _).symm.trans H; with_reducible exact H2_) | with_reducible exact H | (rw [hy183]; exact H) | exact H
    have Ny183 := Aside0.mk hy183
    clear hy183
    replace H := Option.bind_eq_some_iff.mp H
    obtain ⟨⟨t186, t187, t188⟩, A70, H⟩ := H
    replace H : (if x3_1.length < 140737488355328 then ((some (x3_1 ++ [IntKind.i8.wrap (t186)] : List Int)).bind fun y189 => ((spec_l00Src_one.f s0_0 t187 t188 6).bind fun bt192 => (if bt192.1 = true then (if x4_1 > 1 then (if (y189.length : Int) < 6 then (if y189.length < 140737488355328 then (spec_l02Meant.l0 k1 (y189 ++ [(-10)]) (wrap64 (x4_1 - 1)) s0_0 bt192.2.1 bt192.2.2) else (none)) else (spec_l02Meant.l0 k1 y189 (wrap64 (x4_1 - 1)) s0_0 bt192.2.1 bt192.2.2)) else (spec_l02Meant.l0 k1 y189 (wrap64 (x4_1 - 1)) s0_0 bt192.2.1 bt192.2.2)) else (spec_l02Meant.l0 k1 y189 (wrap64 (x4_1 - 1)) s0_0 bt192.2.1 bt192.2.2)))) else (none)) = some (r1, r2, r3) := H
    have A7 := Aside0.mk A70
    clear A70
    by_cases c8 : x3_1.length < 140737488355328
    ·rw [if_pos c8] at H
     have LMc8 := Aside0.mk c8
     clear c8
     obtain ⟨y189, hy189⟩ : ∃ y_ : List Int, y_ = (x3_1 ++ [IntKind.i8.wrap (t186)]) := ⟨_, rfl⟩
     replace H : ((spec_l00Src_one.f s0_0 t187 t188 6).bind fun bt192 => (if bt192.1 = true then (if x4_1 > 1 then (if (y189.length : Int) < 6 then (if y189.length < 140737488355328 then (spec_l02Meant.l0 k1 (y189 ++ [(-10)]) (wrap64 (x4_1 - 1)) s0_0 bt192.2.1 bt192.2.2) else (none)) else (spec_l02Meant.l0 k1 y189 (wrap64 (x4_1 - 1)) s0_0 bt192.2.1 bt192.2.2)) else (spec_l02Meant.l0 k1 y189 (wrap64 (x4_1 - 1)) s0_0 bt192.2.1 bt192.2.2)) else (spec_l02Meant.l0 k1 y189 (wrap64 (x4_1 - 1)) s0_0 bt192.2.1 bt192.2.2))) = some (r1, r2, r3) := by first | (rw [hy189]; with_reducible exact H) | (have H2_ := (Option.bind_some _ _).symm.trans H; rw [hy189]; with_reducible exact H2_) | (have H2_ := (Option.bind_some _ _).symm.trans H; with_reducible exact H2_) | with_reducible exact H | (rw [hy189]; exact H) | exact H
     have Ny189 := Aside0.mk hy189
     clear hy189
     replace H := Option.bind_eq_some_iff.mp H
     obtain ⟨⟨t192, t193, t194⟩, A90, H⟩ := H
     replace H : (if t192 = true then (if x4_1 > 1 then (if (y189.length : Int) < 6 then (if y189.length < 140737488355328 then (spec_l02Meant.l0 k1 (y189 ++ [(-10)]) (wrap64 (x4_1 - 1)) s0_0 t193 t194) else (none)) else (spec_l02Meant.l0 k1 y189 (wrap64 (x4_1 - 1)) s0_0 t193 t194)) else (spec_l02Meant.l0 k1 y189 (wrap64 (x4_1 - 1)) s0_0 t193 t194)) else (spec_l02Meant.l0 k1 y189 (wrap64 (x4_1 - 1)) s0_0 t193 t194)) = some (r1, r2, r3) := H
     have A9 := Aside0.mk A90
     clear A90
     by_cases c10 : t192 = true
     ·subst c10
      have H1 : (if x4_1 > 1 then (if (y189.length : Int) < 6 then (if y189.length < 140737488355328 then (spec_l02Meant.l0 k1 (y189 ++ [(-10)]) (wrap64 (x4_1 - 1)) s0_0 t193 t194) else (none)) else (spec_l02Meant.l0 k1 y189 (wrap64 (x4_1 - 1)) s0_0 t193 t194)) else (spec_l02Meant.l0 k1 y189 (wrap64 (x4_1 - 1)) s0_0 t193 t194)) = some (r1, r2, r3) := by rw [if_pos rfl] at H; exact H
      clear H
      have H := H1
      clear H1
      by_cases c11 : x4_1 > 1
      ·rw [if_pos c11] at H
       have c11b0 : decide (1 < x4_1) = true := decide_eq_true c11
       clear c11
       by_cases c12 : (y189.length : Int) < 6
       ·rw [if_pos c12] at H
        have c12b0 : decide ((y189.length : Int) < 6) = true := decide_eq_true c12
        have c12b1 : decide (y189.length < 6) = true := decide_eq_true (by omega)
        clear c12
        by_cases c13 : y189.length < 140737488355328
        ·rw [if_pos c13] at H
         have LMc13 := Aside0.mk c13
         clear c13
         obtain ⟨y195, hy195⟩ : ∃ y_ : List Int, y_ = (y189 ++ [(-10)]) := ⟨_, rfl⟩
         replace H : (spec_l02Meant.l0 k1 y195 (wrap64 (x4_1 - 1)) s0_0 t193 t194) = some (r1, r2, r3) := by first | (rw [hy195]; with_reducible exact H) | (have H2_ := (Option.bind_some _ _).symm.trans H; rw [hy195]; with_reducible exact H2_) | (have H2_ := (Option.bind_some _ _).symm.trans H; with_reducible exact H2_) | with_reducible exact H | (rw [hy195]; exact H) | exact H
         have Ny195 := Aside0.mk hy195
         clear hy195
         have H' := Aside0.mk H
         clear H
         go_wp2_with (first | ((with_reducible refine gate_dst (N := 15) rfl ?_); (try (refine gate_guard (by rfl) ?_; dsimp only)); refine Kd.R_lit (Kd.int .i64) _ 2 ?hg (N := 15) ?hd (xs := ([0, 1, 2, 3, 25, 39] : List Int)) (inner := [.int .i64 0, .int .i64 1, .int .i64 2, .int .i64 3, .int .i64 25, .int .i64 39]) (ok := fun _ => True) (okp := fun _ => True) ?hr ?hp (fun _ hk => hk) trivial (Below.refl _ _) (Nat.le_refl _) (by simp) ?_; (case hd => rfl); (case hg => rfl); (case hr => first | (go_simp; done) | (go_simp; rfl)); (case hp => exact (Reps.one (show Kd.M (Kd.int .i64) _ _ _ 0 [.int .i64 0] from rfl) (Reps.one (show Kd.M (Kd.int .i64) _ _ _ 1 [.int .i64 1] from rfl) (Reps.one (show Kd.M (Kd.int .i64) _ _ _ 2 [.int .i64 2] from rfl) (Reps.one (show Kd.M (Kd.int .i64) _ _ _ 3 [.int .i64 3] from rfl) (Reps.one (show Kd.M (Kd.int .i64) _ _ _ 25 [.int .i64 25] from rfl) (Reps.one (show Kd.M (Kd.int .i64) _ _ _ 39 [.int .i64 39] from rfl) (Reps.none _ _)))))))); intro v184 w14 ho15 hb hg_ hnew_; clear hg_ hnew_; (first | rw [← Ny183.out] at ho15 | (simp only [Int.reduceToNat] at ho15; rw [← Ny183.out] at ho15)); have n0_ := Aside0.mk (Kd.R_below (by (with_reducible repeat (first | apply Kd.R_alloc | apply Kd.R_drewN | apply Kd.R_drew)); exact HO_3.out) hb); have n1_ := Aside0.mk (Kd.R_lower ho15 (keep_size (w := w) (g := g) (row := none) (by repeat (first | (with_reducible first | exact HK.out | apply KeepBut.set_ | apply keep_drewN | apply keep_drew | apply keep_alloc) | exact HK.out)))); have n2_ := Aside0.mk (IsS89.below (by repeat (first | (with_reducible first | exact HI0.out | apply IsS89.alloc | apply IsS89.drewN | apply IsS89.drew | apply IsS89.set_1 | apply IsS89.set_2) | exact HI0.out)) hb); have n3_ := Aside0.mk (KeepBut.trans (by repeat (first | (with_reducible first | exact HK.out | apply KeepBut.set_ | apply keep_drewN | apply keep_drew | apply keep_alloc) | exact HK.out)) (KeepBut.of_below hb g none) (.inl rfl)); have n4_ := Aside0.mk (below_step (by repeat (first | (with_reducible first | exact HB.out | apply below_alloc | apply pw_below_drewN | apply below_drew1 | refine below_set ?_ (IsS89.ge HI0.out)) | exact HB.out)) hb); clear HO_3; clear HI0; clear HK; clear HB; have HO_3 := n0_; have HO185 := n1_; have HI0 := n2_; have HK := n3_; have HB := n4_; clear n0_ n1_ n2_ n3_ n4_; clear hb ho15; obtain ⟨Ao16, co16, eo16⟩ := Kd.R_slice HO185.out; subst eo16) | ((with_reducible refine gate_callee (f := 74) rfl ?_); refine goesL_ (some 16) rfl rfl Tryz.func74 (by kernel_rfl) rfl #[.pointer (some ⟨g, 0, none⟩), .slice Ao16 y183.length co16] rfl (by (try simp only [List.map_toArray, List.map_cons, List.map_nil]); first | done | rfl | (simp only [List.length_drop, List.length_take]; rfl)) ?_; (with_reducible refine (spec_l00Src_among.calls g s0_0 x1001_1 x1002_1 _ _ y183 t186 t187 t188 w0 _ ?side1 ?side2 ?side3 ?side4 ?side5 A7.out).mono ?_); (case side1 => repeat (first | (with_reducible first | exact HI0.out | apply IsS89.alloc | apply IsS89.drewN | apply IsS89.drew | apply IsS89.set_1 | apply IsS89.set_2) | exact HI0.out)); (case side2 => repeat (first | (with_reducible first | exact HB.out | apply below_alloc | apply pw_below_drewN | apply below_drew1 | refine below_set ?_ (IsS89.ge HI0.out)) | exact HB.out)); (case side3 => repeat (first | exact (Kd.R_reads' HO185.out).2.2 | (with_reducible refine Kd.C_alloc ?_ _) | (with_reducible refine Kd.C_drewN ?_ _) | (with_reducible refine Kd.C_drew ?_))); (case side4 => exact (Kd.R_reads' HO185.out).2.1); (case side5 => exact far_slice (IsS89.own_ne HI0.out HO185.out (by decide))); rintro e w17 ⟨rfl, hi, hb, hk⟩; refine ⟨_, rfl, ?_⟩; have n0_ := Aside0.mk (Kd.R_mono (Kd.R_keep (IsS89.apart (show IsS89 w0 _ g s0_0 x1001_1 x1002_1 from by repeat (first | (with_reducible first | exact HI0.out | apply IsS89.alloc | apply IsS89.drewN | apply IsS89.drew | apply IsS89.set_1 | apply IsS89.set_2) | exact HI0.out)) (by (with_reducible repeat (first | apply Kd.R_alloc | apply Kd.R_drewN | apply Kd.R_drew)); exact HO_3.out) (by decide)) hk (fun _ h => h.2)) (fun _ h => h.1)); have n1_ := Aside0.mk (Kd.R_mono (Kd.R_keep (IsS89.apart (show IsS89 w0 _ g s0_0 x1001_1 x1002_1 from by repeat (first | (with_reducible first | exact HI0.out | apply IsS89.alloc | apply IsS89.drewN | apply IsS89.drew | apply IsS89.set_1 | apply IsS89.set_2) | exact HI0.out)) (by (with_reducible repeat (first | apply Kd.R_alloc | apply Kd.R_drewN | apply Kd.R_drew)); exact HO185.out) (by decide)) hk (fun _ h => h.2)) (fun _ h => h.1)); have n2_ := Aside0.mk (KeepBut.trans (by repeat (first | (with_reducible first | exact HK.out | apply KeepBut.set_ | apply keep_drewN | apply keep_drew | apply keep_alloc) | exact HK.out)) hk (.inl rfl)); have n3_ := Aside0.mk (hb); have n4_ := Aside0.mk (hi); clear HO_3; clear HO185; clear HK; clear HB; clear HI0; have HO_3 := n0_; have HO185 := n1_; have HK := n2_; have HB := n3_; have HI0 := n4_; clear n0_ n1_ n2_ n3_ n4_; (try clear hb); (try clear hb2); (try clear hk); (try clear hi)) | ((with_reducible refine gate_builtin (b := .append) (xs := #[.tmp 13, .tmp 18]) rfl ?_); (try (refine gate_guard (by rfl) ?_; dsimp only)); at_builtin; refine Kd.R_append (Kd.int .i8) w.heap.size rfl (.tmp 13) (.tmp 18) 90 45 (.int .i8 0) 1 rfl Tryz.underlying90 info45 rfl (by decide) (by omega) u3 x3_1 (IntKind.i8.wrap (t186)) [.int .i8 (IntKind.i8.wrap (t186))] (fun _ => True) (fun _ => False) rfl rfl ?aP (fun _ hk => hk.elim) ?aF ?aO (Below.refl _ _) ?aS ?aL ?_; (case aP => exact rfl); (case aF => exact (fun _ _ => trivial)); (case aO => exact (by (with_reducible repeat (first | apply Kd.R_alloc | apply Kd.R_drewN | apply Kd.R_drew)); exact HO_3.out)); (case aS => exact (keep_size (w := w) (g := g) (row := none) (by repeat (first | (with_reducible first | exact HK.out | apply KeepBut.set_ | apply keep_drewN | apply keep_drew | apply keep_alloc) | exact HK.out)))); (case aL => have := LMc8.out; omega); intro v190 w18 ho hb hg hat; rw [← Ny189.out] at ho; have n0_ := Aside0.mk (IsS89.grown (by repeat (first | (with_reducible first | exact HI0.out | apply IsS89.alloc | apply IsS89.drewN | apply IsS89.drew | apply IsS89.set_1 | apply IsS89.set_2) | exact HI0.out)) hg (IsS89.own_ne HI0.out HO_3.out (by decide))); have n1_ := Aside0.mk (Kd.R_over' (by (with_reducible repeat (first | apply Kd.R_alloc | apply Kd.R_drewN | apply Kd.R_drew)); exact HO185.out) (Kd.R_typed (by (with_reducible repeat (first | apply Kd.R_alloc | apply Kd.R_drewN | apply Kd.R_drew)); exact HO_3.out)) (by decide) hg); have n2_ := Aside0.mk (below_weaken (by repeat (first | (with_reducible first | exact HB.out | apply below_alloc | apply pw_below_drewN | apply below_drew1 | refine below_set ?_ (IsS89.ge HI0.out)) | exact HB.out)) HL.out hb); have n3_ := Aside0.mk (KeepBut.trans (by repeat (first | (with_reducible first | exact HK.out | apply KeepBut.set_ | apply keep_drewN | apply keep_drew | apply keep_alloc) | exact HK.out)) (KeepBut.of_grown hg g) (Kd.R_base2 HO_3.out)); have n4_ := Aside0.mk (ho); clear HI0; clear HO185; clear HB; clear HK; clear HO_3; have HI0 := n0_; have HO185 := n1_; have HB := n2_; have HK := n3_; have HO191 := n4_; clear n0_ n1_ n2_ n3_ n4_; clear ho hb hg hat) | ((with_reducible refine gate_callee (f := 75) rfl ?_); refine goesL_ (some 21) rfl rfl Tryz.func75 (by kernel_rfl) rfl #[.pointer (some ⟨g, 0, none⟩), .int .i64 6] rfl (by (try simp only [List.map_toArray, List.map_cons, List.map_nil]); first | done | rfl | (simp only [List.length_drop, List.length_take]; rfl)) ?_; (with_reducible refine (spec_l00Src_one.calls g s0_0 t187 t188 6 true t193 t194 w0 _ ?side1 ?side2 A9.out).mono ?_); (case side1 => repeat (first | (with_reducible first | exact HI0.out | apply IsS89.alloc | apply IsS89.drewN | apply IsS89.drew | apply IsS89.set_1 | apply IsS89.set_2) | exact HI0.out)); (case side2 => repeat (first | (with_reducible first | exact HB.out | apply below_alloc | apply pw_below_drewN | apply below_drew1 | refine below_set ?_ (IsS89.ge HI0.out)) | exact HB.out)); rintro e w19 ⟨rfl, hi, hb, hk⟩; refine ⟨_, rfl, ?_⟩; have n0_ := Aside0.mk (Kd.R_mono (Kd.R_keep (IsS89.apart (show IsS89 w0 _ g s0_0 t187 t188 from by repeat (first | (with_reducible first | exact HI0.out | apply IsS89.alloc | apply IsS89.drewN | apply IsS89.drew | apply IsS89.set_1 | apply IsS89.set_2) | exact HI0.out)) (by (with_reducible repeat (first | apply Kd.R_alloc | apply Kd.R_drewN | apply Kd.R_drew)); exact HO185.out) (by decide)) hk (fun _ h => h.2)) (fun _ h => h.1)); have n1_ := Aside0.mk (Kd.R_mono (Kd.R_keep (IsS89.apart (show IsS89 w0 _ g s0_0 t187 t188 from by repeat (first | (with_reducible first | exact HI0.out | apply IsS89.alloc | apply IsS89.drewN | apply IsS89.drew | apply IsS89.set_1 | apply IsS89.set_2) | exact HI0.out)) (by (with_reducible repeat (first | apply Kd.R_alloc | apply Kd.R_drewN | apply Kd.R_drew)); exact HO191.out) (by decide)) hk (fun _ h => h.2)) (fun _ h => h.1)); have n2_ := Aside0.mk (KeepBut.trans (by repeat (first | (with_reducible first | exact HK.out | apply KeepBut.set_ | apply keep_drewN | apply keep_drew | apply keep_alloc) | exact HK.out)) hk (.inl rfl)); have n3_ := Aside0.mk (hb); have n4_ := Aside0.mk (hi); clear HO185; clear HO191; clear HK; clear HB; clear HI0; have HO185 := n0_; have HO191 := n1_; have HK := n2_; have HB := n3_; have HI0 := n4_; clear n0_ n1_ n2_ n3_ n4_; (try clear hb); (try clear hb2); (try clear hk); (try clear hi); obtain ⟨Ao20, co20, eo20⟩ := Kd.R_slice HO191.out; subst eo20) | ((with_reducible refine gate_builtin (b := .append) (xs := #[.tmp 31, .tmp 32]) rfl ?_); (try (refine gate_guard (by rfl) ?_; dsimp only)); at_builtin; refine Kd.R_append (Kd.int .i8) w.heap.size rfl (.tmp 31) (.tmp 32) 90 45 (.int .i8 0) 1 rfl Tryz.underlying90 info45 rfl (by decide) (by omega) (.slice Ao20 y189.length co20) y189 (-10) [.int .i8 (-10)] (fun _ => True) (fun _ => False) rfl rfl ?aP (fun _ hk => hk.elim) ?aF ?aO (Below.refl _ _) ?aS ?aL ?_; (case aP => exact rfl); (case aF => exact (fun _ _ => trivial)); (case aO => exact (by (with_reducible repeat (first | apply Kd.R_alloc | apply Kd.R_drewN | apply Kd.R_drew)); exact HO191.out)); (case aS => exact (keep_size (w := w) (g := g) (row := none) (by repeat (first | (with_reducible first | exact HK.out | apply KeepBut.set_ | apply keep_drewN | apply keep_drew | apply keep_alloc) | exact HK.out)))); (case aL => have := LMc13.out; omega); intro v196 w21 ho hb hg hat; rw [← Ny195.out] at ho; have n0_ := Aside0.mk (IsS89.grown (by repeat (first | (with_reducible first | exact HI0.out | apply IsS89.alloc | apply IsS89.drewN | apply IsS89.drew | apply IsS89.set_1 | apply IsS89.set_2) | exact HI0.out)) hg (IsS89.own_ne HI0.out HO191.out (by decide))); have n1_ := Aside0.mk (Kd.R_over' (by (with_reducible repeat (first | apply Kd.R_alloc | apply Kd.R_drewN | apply Kd.R_drew)); exact HO185.out) (Kd.R_typed (by (with_reducible repeat (first | apply Kd.R_alloc | apply Kd.R_drewN | apply Kd.R_drew)); exact HO191.out)) (by decide) hg); have n2_ := Aside0.mk (below_weaken (by repeat (first | (with_reducible first | exact HB.out | apply below_alloc | apply pw_below_drewN | apply below_drew1 | refine below_set ?_ (IsS89.ge HI0.out)) | exact HB.out)) HL.out hb); have n3_ := Aside0.mk (KeepBut.trans (by repeat (first | (with_reducible first | exact HK.out | apply KeepBut.set_ | apply keep_drewN | apply keep_drew | apply keep_alloc) | exact HK.out)) (KeepBut.of_grown hg g) (Kd.R_base2 HO191.out)); have n4_ := Aside0.mk (ho); clear HI0; clear HO185; clear HB; clear HK; clear HO191; have HI0 := n0_; have HO185 := n1_; have HB := n2_; have HK := n3_; have HO197 := n4_; clear n0_ n1_ n2_ n3_ n4_; clear ho hb hg hat))
         go_roundg k1
         case measure => have := HK1.out; omega
         case rel => exact ⟨(y195), (wrap64 (x4_1 - 1)), (t193), (t194), (by first | rfl | (simp; done) | (simp [*]; done)), H', ⟨by have := HK1.out; omega⟩, ⟨by (with_reducible repeat (first | apply Kd.R_alloc | apply Kd.R_drewN | apply Kd.R_drew)); exact HO197.out⟩, ⟨by repeat (first | (with_reducible first | exact HI0.out | apply IsS89.alloc | apply IsS89.drewN | apply IsS89.drew | apply IsS89.set_1 | apply IsS89.set_2) | exact HI0.out)⟩, ⟨by repeat (first | (with_reducible first | exact HK.out | apply KeepBut.set_ | apply keep_drewN | apply keep_drew | apply keep_alloc) | exact HK.out)⟩, ⟨by repeat (first | (with_reducible first | exact HB.out | apply below_alloc | apply pw_below_drewN | apply below_drew1 | refine below_set ?_ (IsS89.ge HI0.out)) | exact HB.out)⟩⟩
        ·rw [if_neg c13] at H
         exact absurd H (by simp)
       ·rw [if_neg c12] at H
        have c12b0 : decide ((y189.length : Int) < 6) = false := decide_eq_false c12
        have c12b1 : decide (y189.length < 6) = false := decide_eq_false (by omega)
        clear c12
        have H' := Aside0.mk H
        clear H
        go_wp2_with (first | ((with_reducible refine gate_dst (N := 15) rfl ?_); (try (refine gate_guard (by rfl) ?_; dsimp only)); refine Kd.R_lit (Kd.int .i64) _ 2 ?hg (N := 15) ?hd (xs := ([0, 1, 2, 3, 25, 39] : List Int)) (inner := [.int .i64 0, .int .i64 1, .int .i64 2, .int .i64 3, .int .i64 25, .int .i64 39]) (ok := fun _ => True) (okp := fun _ => True) ?hr ?hp (fun _ hk => hk) trivial (Below.refl _ _) (Nat.le_refl _) (by simp) ?_; (case hd => rfl); (case hg => rfl); (case hr => first | (go_simp; done) | (go_simp; rfl)); (case hp => exact (Reps.one (show Kd.M (Kd.int .i64) _ _ _ 0 [.int .i64 0] from rfl) (Reps.one (show Kd.M (Kd.int .i64) _ _ _ 1 [.int .i64 1] from rfl) (Reps.one (show Kd.M (Kd.int .i64) _ _ _ 2 [.int .i64 2] from rfl) (Reps.one (show Kd.M (Kd.int .i64) _ _ _ 3 [.int .i64 3] from rfl) (Reps.one (show Kd.M (Kd.int .i64) _ _ _ 25 [.int .i64 25] from rfl) (Reps.one (show Kd.M (Kd.int .i64) _ _ _ 39 [.int .i64 39] from rfl) (Reps.none _ _)))))))); intro v184 w22 ho23 hb hg_ hnew_; clear hg_ hnew_; (first | rw [← Ny183.out] at ho23 | (simp only [Int.reduceToNat] at ho23; rw [← Ny183.out] at ho23)); have n0_ := Aside0.mk (Kd.R_below (by (with_reducible repeat (first | apply Kd.R_alloc | apply Kd.R_drewN | apply Kd.R_drew)); exact HO_3.out) hb); have n1_ := Aside0.mk (Kd.R_lower ho23 (keep_size (w := w) (g := g) (row := none) (by repeat (first | (with_reducible first | exact HK.out | apply KeepBut.set_ | apply keep_drewN | apply keep_drew | apply keep_alloc) | exact HK.out)))); have n2_ := Aside0.mk (IsS89.below (by repeat (first | (with_reducible first | exact HI0.out | apply IsS89.alloc | apply IsS89.drewN | apply IsS89.drew | apply IsS89.set_1 | apply IsS89.set_2) | exact HI0.out)) hb); have n3_ := Aside0.mk (KeepBut.trans (by repeat (first | (with_reducible first | exact HK.out | apply KeepBut.set_ | apply keep_drewN | apply keep_drew | apply keep_alloc) | exact HK.out)) (KeepBut.of_below hb g none) (.inl rfl)); have n4_ := Aside0.mk (below_step (by repeat (first | (with_reducible first | exact HB.out | apply below_alloc | apply pw_below_drewN | apply below_drew1 | refine below_set ?_ (IsS89.ge HI0.out)) | exact HB.out)) hb); clear HO_3; clear HI0; clear HK; clear HB; have HO_3 := n0_; have HO185 := n1_; have HI0 := n2_; have HK := n3_; have HB := n4_; clear n0_ n1_ n2_ n3_ n4_; clear hb ho23; obtain ⟨Ao24, co24, eo24⟩ := Kd.R_slice HO185.out; subst eo24) | ((with_reducible refine gate_callee (f := 74) rfl ?_); refine goesL_ (some 16) rfl rfl Tryz.func74 (by kernel_rfl) rfl #[.pointer (some ⟨g, 0, none⟩), .slice Ao24 y183.length co24] rfl (by (try simp only [List.map_toArray, List.map_cons, List.map_nil]); first | done | rfl | (simp only [List.length_drop, List.length_take]; rfl)) ?_; (with_reducible refine (spec_l00Src_among.calls g s0_0 x1001_1 x1002_1 _ _ y183 t186 t187 t188 w0 _ ?side1 ?side2 ?side3 ?side4 ?side5 A7.out).mono ?_); (case side1 => repeat (first | (with_reducible first | exact HI0.out | apply IsS89.alloc | apply IsS89.drewN | apply IsS89.drew | apply IsS89.set_1 | apply IsS89.set_2) | exact HI0.out)); (case side2 => repeat (first | (with_reducible first | exact HB.out | apply below_alloc | apply pw_below_drewN | apply below_drew1 | refine below_set ?_ (IsS89.ge HI0.out)) | exact HB.out)); (case side3 => repeat (first | exact (Kd.R_reads' HO185.out).2.2 | (with_reducible refine Kd.C_alloc ?_ _) | (with_reducible refine Kd.C_drewN ?_ _) | (with_reducible refine Kd.C_drew ?_))); (case side4 => exact (Kd.R_reads' HO185.out).2.1); (case side5 => exact far_slice (IsS89.own_ne HI0.out HO185.out (by decide))); rintro e w25 ⟨rfl, hi, hb, hk⟩; refine ⟨_, rfl, ?_⟩; have n0_ := Aside0.mk (Kd.R_mono (Kd.R_keep (IsS89.apart (show IsS89 w0 _ g s0_0 x1001_1 x1002_1 from by repeat (first | (with_reducible first | exact HI0.out | apply IsS89.alloc | apply IsS89.drewN | apply IsS89.drew | apply IsS89.set_1 | apply IsS89.set_2) | exact HI0.out)) (by (with_reducible repeat (first | apply Kd.R_alloc | apply Kd.R_drewN | apply Kd.R_drew)); exact HO_3.out) (by decide)) hk (fun _ h => h.2)) (fun _ h => h.1)); have n1_ := Aside0.mk (Kd.R_mono (Kd.R_keep (IsS89.apart (show IsS89 w0 _ g s0_0 x1001_1 x1002_1 from by repeat (first | (with_reducible first | exact HI0.out | apply IsS89.alloc | apply IsS89.drewN | apply IsS89.drew | apply IsS89.set_1 | apply IsS89.set_2) | exact HI0.out)) (by (with_reducible repeat (first | apply Kd.R_alloc | apply Kd.R_drewN | apply Kd.R_drew)); exact HO185.out) (by decide)) hk (fun _ h => h.2)) (fun _ h => h.1)); have n2_ := Aside0.mk (KeepBut.trans (by repeat (first | (with_reducible first | exact HK.out | apply KeepBut.set_ | apply keep_drewN | apply keep_drew | apply keep_alloc) | exact HK.out)) hk (.inl rfl)); have n3_ := Aside0.mk (hb); have n4_ := Aside0.mk (hi); clear HO_3; clear HO185; clear HK; clear HB; clear HI0; have HO_3 := n0_; have HO185 := n1_; have HK := n2_; have HB := n3_; have HI0 := n4_; clear n0_ n1_ n2_ n3_ n4_; (try clear hb); (try clear hb2); (try clear hk); (try clear hi)) | ((with_reducible refine gate_builtin (b := .append) (xs := #[.tmp 13, .tmp 18]) rfl ?_); (try (refine gate_guard (by rfl) ?_; dsimp only)); at_builtin; refine Kd.R_append (Kd.int .i8) w.heap.size rfl (.tmp 13) (.tmp 18) 90 45 (.int .i8 0) 1 rfl Tryz.underlying90 info45 rfl (by decide) (by omega) u3 x3_1 (IntKind.i8.wrap (t186)) [.int .i8 (IntKind.i8.wrap (t186))] (fun _ => True) (fun _ => False) rfl rfl ?aP (fun _ hk => hk.elim) ?aF ?aO (Below.refl _ _) ?aS ?aL ?_; (case aP => exact rfl); (case aF => exact (fun _ _ => trivial)); (case aO => exact (by (with_reducible repeat (first | apply Kd.R_alloc | apply Kd.R_drewN | apply Kd.R_drew)); exact HO_3.out)); (case aS => exact (keep_size (w := w) (g := g) (row := none) (by repeat (first | (with_reducible first | exact HK.out | apply KeepBut.set_ | apply keep_drewN | apply keep_drew | apply keep_alloc) | exact HK.out)))); (case aL => have := LMc8.out; omega); intro v190 w26 ho hb hg hat; rw [← Ny189.out] at ho; have n0_ := Aside0.mk (IsS89.grown (by repeat (first | (with_reducible first | exact HI0.out | apply IsS89.alloc | apply IsS89.drewN | apply IsS89.drew | apply IsS89.set_1 | apply IsS89.set_2) | exact HI0.out)) hg (IsS89.own_ne HI0.out HO_3.out (by decide))); have n1_ := Aside0.mk (Kd.R_over' (by (with_reducible repeat (first | apply Kd.R_alloc | apply Kd.R_drewN | apply Kd.R_drew)); exact HO185.out) (Kd.R_typed (by (with_reducible repeat (first | apply Kd.R_alloc | apply Kd.R_drewN | apply Kd.R_drew)); exact HO_3.out)) (by decide) hg); have n2_ := Aside0.mk (below_weaken (by repeat (first | (with_reducible first | exact HB.out | apply below_alloc | apply pw_below_drewN | apply below_drew1 | refine below_set ?_ (IsS89.ge HI0.out)) | exact HB.out)) HL.out hb); have n3_ := Aside0.mk (KeepBut.trans (by repeat (first | (with_reducible first | exact HK.out | apply KeepBut.set_ | apply keep_drewN | apply keep_drew | apply keep_alloc) | exact HK.out)) (KeepBut.of_grown hg g) (Kd.R_base2 HO_3.out)); have n4_ := Aside0.mk (ho); clear HI0; clear HO185; clear HB; clear HK; clear HO_3; have HI0 := n0_; have HO185 := n1_; have HB := n2_; have HK := n3_; have HO191 := n4_; clear n0_ n1_ n2_ n3_ n4_; clear ho hb hg hat) | ((with_reducible refine gate_callee (f := 75) rfl ?_); refine goesL_ (some 21) rfl rfl Tryz.func75 (by kernel_rfl) rfl #[.pointer (some ⟨g, 0, none⟩), .int .i64 6] rfl (by (try simp only [List.map_toArray, List.map_cons, List.map_nil]); first | done | rfl | (simp only [List.length_drop, List.length_take]; rfl)) ?_; (with_reducible refine (spec_l00Src_one.calls g s0_0 t187 t188 6 true t193 t194 w0 _ ?side1 ?side2 A9.out).mono ?_); (case side1 => repeat (first | (with_reducible first | exact HI0.out | apply IsS89.alloc | apply IsS89.drewN | apply IsS89.drew | apply IsS89.set_1 | apply IsS89.set_2) | exact HI0.out)); (case side2 => repeat (first | (with_reducible first | exact HB.out | apply below_alloc | apply pw_below_drewN | apply below_drew1 | refine below_set ?_ (IsS89.ge HI0.out)) | exact HB.out)); rintro e w27 ⟨rfl, hi, hb, hk⟩; refine ⟨_, rfl, ?_⟩; have n0_ := Aside0.mk (Kd.R_mono (Kd.R_keep (IsS89.apart (show IsS89 w0 _ g s0_0 t187 t188 from by repeat (first | (with_reducible first | exact HI0.out | apply IsS89.alloc | apply IsS89.drewN | apply IsS89.drew | apply IsS89.set_1 | apply IsS89.set_2) | exact HI0.out)) (by (with_reducible repeat (first | apply Kd.R_alloc | apply Kd.R_drewN | apply Kd.R_drew)); exact HO185.out) (by decide)) hk (fun _ h => h.2)) (fun _ h => h.1)); have n1_ := Aside0.mk (Kd.R_mono (Kd.R_keep (IsS89.apart (show IsS89 w0 _ g s0_0 t187 t188 from by repeat (first | (with_reducible first | exact HI0.out | apply IsS89.alloc | apply IsS89.drewN | apply IsS89.drew | apply IsS89.set_1 | apply IsS89.set_2) | exact HI0.out)) (by (with_reducible repeat (first | apply Kd.R_alloc | apply Kd.R_drewN | apply Kd.R_drew)); exact HO191.out) (by decide)) hk (fun _ h => h.2)) (fun _ h => h.1)); have n2_ := Aside0.mk (KeepBut.trans (by repeat (first | (with_reducible first | exact HK.out | apply KeepBut.set_ | apply keep_drewN | apply keep_drew | apply keep_alloc) | exact HK.out)) hk (.inl rfl)); have n3_ := Aside0.mk (hb); have n4_ := Aside0.mk (hi); clear HO185; clear HO191; clear HK; clear HB; clear HI0; have HO185 := n0_; have HO191 := n1_; have HK := n2_; have HB := n3_; have HI0 := n4_; clear n0_ n1_ n2_ n3_ n4_; (try clear hb); (try clear hb2); (try clear hk); (try clear hi); obtain ⟨Ao28, co28, eo28⟩ := Kd.R_slice HO191.out; subst eo28))
        go_roundg k1
        case measure => have := HK1.out; omega
        case rel => exact ⟨(y189), (wrap64 (x4_1 - 1)), (t193), (t194), (by first | rfl | (simp; done) | (simp [*]; done)), H', ⟨by have := HK1.out; omega⟩, ⟨by (with_reducible repeat (first | apply Kd.R_alloc | apply Kd.R_drewN | apply Kd.R_drew)); exact HO191.out⟩, ⟨by repeat (first | (with_reducible first | exact HI0.out | apply IsS89.alloc | apply IsS89.drewN | apply IsS89.drew | apply IsS89.set_1 | apply IsS89.set_2) | exact HI0.out)⟩, ⟨by repeat (first | (with_reducible first | exact HK.out | apply KeepBut.set_ | apply keep_drewN | apply keep_drew | apply keep_alloc) | exact HK.out)⟩, ⟨by repeat (first | (with_reducible first | exact HB.out | apply below_alloc | apply pw_below_drewN | apply below_drew1 | refine below_set ?_ (IsS89.ge HI0.out)) | exact HB.out)⟩⟩
      ·rw [if_neg c11] at H
       have c11b0 : decide (1 < x4_1) = false := decide_eq_false c11
       clear c11
       have H' := Aside0.mk H
       clear H
       go_wp2_with (first | ((with_reducible refine gate_dst (N := 15) rfl ?_); (try (refine gate_guard (by rfl) ?_; dsimp only)); refine Kd.R_lit (Kd.int .i64) _ 2 ?hg (N := 15) ?hd (xs := ([0, 1, 2, 3, 25, 39] : List Int)) (inner := [.int .i64 0, .int .i64 1, .int .i64 2, .int .i64 3, .int .i64 25, .int .i64 39]) (ok := fun _ => True) (okp := fun _ => True) ?hr ?hp (fun _ hk => hk) trivial (Below.refl _ _) (Nat.le_refl _) (by simp) ?_; (case hd => rfl); (case hg => rfl); (case hr => first | (go_simp; done) | (go_simp; rfl)); (case hp => exact (Reps.one (show Kd.M (Kd.int .i64) _ _ _ 0 [.int .i64 0] from rfl) (Reps.one (show Kd.M (Kd.int .i64) _ _ _ 1 [.int .i64 1] from rfl) (Reps.one (show Kd.M (Kd.int .i64) _ _ _ 2 [.int .i64 2] from rfl) (Reps.one (show Kd.M (Kd.int .i64) _ _ _ 3 [.int .i64 3] from rfl) (Reps.one (show Kd.M (Kd.int .i64) _ _ _ 25 [.int .i64 25] from rfl) (Reps.one (show Kd.M (Kd.int .i64) _ _ _ 39 [.int .i64 39] from rfl) (Reps.none _ _)))))))); intro v184 w29 ho30 hb hg_ hnew_; clear hg_ hnew_; (first | rw [← Ny183.out] at ho30 | (simp only [Int.reduceToNat] at ho30; rw [← Ny183.out] at ho30)); have n0_ := Aside0.mk (Kd.R_below (by (with_reducible repeat (first | apply Kd.R_alloc | apply Kd.R_drewN | apply Kd.R_drew)); exact HO_3.out) hb); have n1_ := Aside0.mk (Kd.R_lower ho30 (keep_size (w := w) (g := g) (row := none) (by repeat (first | (with_reducible first | exact HK.out | apply KeepBut.set_ | apply keep_drewN | apply keep_drew | apply keep_alloc) | exact HK.out)))); have n2_ := Aside0.mk (IsS89.below (by repeat (first | (with_reducible first | exact HI0.out | apply IsS89.alloc | apply IsS89.drewN | apply IsS89.drew | apply IsS89.set_1 | apply IsS89.set_2) | exact HI0.out)) hb); have n3_ := Aside0.mk (KeepBut.trans (by repeat (first | (with_reducible first | exact HK.out | apply KeepBut.set_ | apply keep_drewN | apply keep_drew | apply keep_alloc) | exact HK.out)) (KeepBut.of_below hb g none) (.inl rfl)); have n4_ := Aside0.mk (below_step (by repeat (first | (with_reducible first | exact HB.out | apply below_alloc | apply pw_below_drewN | apply below_drew1 | refine below_set ?_ (IsS89.ge HI0.out)) | exact HB.out)) hb); clear HO_3; clear HI0; clear HK; clear HB; have HO_3 := n0_; have HO185 := n1_; have HI0 := n2_; have HK := n3_; have HB := n4_; clear n0_ n1_ n2_ n3_ n4_; clear hb ho30; obtain ⟨Ao31, co31, eo31⟩ := Kd.R_slice HO185.out; subst eo31) | ((with_reducible refine gate_callee (f := 74) rfl ?_); refine goesL_ (some 16) rfl rfl Tryz.func74 (by kernel_rfl) rfl #[.pointer (some ⟨g, 0, none⟩), .slice Ao31 y183.length co31] rfl (by (try simp only [List.map_toArray, List.map_cons, List.map_nil]); first | done | rfl | (simp only [List.length_drop, List.length_take]; rfl)) ?_; (with_reducible refine (spec_l00Src_among.calls g s0_0 x1001_1 x1002_1 _ _ y183 t186 t187 t188 w0 _ ?side1 ?side2 ?side3 ?side4 ?side5 A7.out).mono ?_); (case side1 => repeat (first | (with_reducible first | exact HI0.out | apply IsS89.alloc | apply IsS89.drewN | apply IsS89.drew | apply IsS89.set_1 | apply IsS89.set_2) | exact HI0.out)); (case side2 => repeat (first | (with_reducible first | exact HB.out | apply below_alloc | apply pw_below_drewN | apply below_drew1 | refine below_set ?_ (IsS89.ge HI0.out)) | exact HB.out)); (case side3 => repeat (first | exact (Kd.R_reads' HO185.out).2.2 | (with_reducible refine Kd.C_alloc ?_ _) | (with_reducible refine Kd.C_drewN ?_ _) | (with_reducible refine Kd.C_drew ?_))); (case side4 => exact (Kd.R_reads' HO185.out).2.1); (case side5 => exact far_slice (IsS89.own_ne HI0.out HO185.out (by decide))); rintro e w32 ⟨rfl, hi, hb, hk⟩; refine ⟨_, rfl, ?_⟩; have n0_ := Aside0.mk (Kd.R_mono (Kd.R_keep (IsS89.apart (show IsS89 w0 _ g s0_0 x1001_1 x1002_1 from by repeat (first | (with_reducible first | exact HI0.out | apply IsS89.alloc | apply IsS89.drewN | apply IsS89.drew | apply IsS89.set_1 | apply IsS89.set_2) | exact HI0.out)) (by (with_reducible repeat (first | apply Kd.R_alloc | apply Kd.R_drewN | apply Kd.R_drew)); exact HO_3.out) (by decide)) hk (fun _ h => h.2)) (fun _ h => h.1)); have n1_ := Aside0.mk (Kd.R_mono (Kd.R_keep (IsS89.apart (show IsS89 w0 _ g s0_0 x1001_1 x1002_1 from by repeat (first | (with_reducible first | exact HI0.out | apply IsS89.alloc | apply IsS89.drewN | apply IsS89.drew | apply IsS89.set_1 | apply IsS89.set_2) | exact HI0.out)) (by (with_reducible repeat (first | apply Kd.R_alloc | apply Kd.R_drewN | apply Kd.R_drew)); exact HO185.out) (by decide)) hk (fun _ h => h.2)) (fun _ h => h.1)); have n2_ := Aside0.mk (KeepBut.trans (by repeat (first | (with_reducible first | exact HK.out | apply KeepBut.set_ | apply keep_drewN | apply keep_drew | apply keep_alloc) | exact HK.out)) hk (.inl rfl)); have n3_ := Aside0.mk (hb); have n4_ := Aside0.mk (hi); clear HO_3; clear HO185; clear HK; clear HB; clear HI0; have HO_3 := n0_; have HO185 := n1_; have HK := n2_; have HB := n3_; have HI0 := n4_; clear n0_ n1_ n2_ n3_ n4_; (try clear hb); (try clear hb2); (try clear hk); (try clear hi)) | ((with_reducible refine gate_builtin (b := .append) (xs := #[.tmp 13, .tmp 18]) rfl ?_); (try (refine gate_guard (by rfl) ?_; dsimp only)); at_builtin; refine Kd.R_append (Kd.int .i8) w.heap.size rfl (.tmp 13) (.tmp 18) 90 45 (.int .i8 0) 1 rfl Tryz.underlying90 info45 rfl (by decide) (by omega) u3 x3_1 (IntKind.i8.wrap (t186)) [.int .i8 (IntKind.i8.wrap (t186))] (fun _ => True) (fun _ => False) rfl rfl ?aP (fun _ hk => hk.elim) ?aF ?aO (Below.refl _ _) ?aS ?aL ?_; (case aP => exact rfl); (case aF => exact (fun _ _ => trivial)); (case aO => exact (by (with_reducible repeat (first | apply Kd.R_alloc | apply Kd.R_drewN | apply Kd.R_drew)); exact HO_3.out)); (case aS => exact (keep_size (w := w) (g := g) (row := none) (by repeat (first | (with_reducible first | exact HK.out | apply KeepBut.set_ | apply keep_drewN | apply keep_drew | apply keep_alloc) | exact HK.out)))); (case aL => have := LMc8.out; omega); intro v190 w33 ho hb hg hat; rw [← Ny189.out] at ho; have n0_ := Aside0.mk (IsS89.grown (by repeat (first | (with_reducible first | exact HI0.out | apply IsS89.alloc | apply IsS89.drewN | apply IsS89.drew | apply IsS89.set_1 | apply IsS89.set_2) | exact HI0.out)) hg (IsS89.own_ne HI0.out HO_3.out (by decide))); have n1_ := Aside0.mk (Kd.R_over' (by (with_reducible repeat (first | apply Kd.R_alloc | apply Kd.R_drewN | apply Kd.R_drew)); exact HO185.out) (Kd.R_typed (by (with_reducible repeat (first | apply Kd.R_alloc | apply Kd.R_drewN | apply Kd.R_drew)); exact HO_3.out)) (by decide) hg); have n2_ := Aside0.mk (below_weaken (by repeat (first | (with_reducible first | exact HB.out | apply below_alloc | apply pw_below_drewN | apply below_drew1 | refine below_set ?_ (IsS89.ge HI0.out)) | exact HB.out)) HL.out hb); have n3_ := Aside0.mk (KeepBut.trans (by repeat (first | (with_reducible first | exact HK.out | apply KeepBut.set_ | apply keep_drewN | apply keep_drew | apply keep_alloc) | exact HK.out)) (KeepBut.of_grown hg g) (Kd.R_base2 HO_3.out)); have n4_ := Aside0.mk (ho); clear HI0; clear HO185; clear HB; clear HK; clear HO_3; have HI0 := n0_; have HO185 := n1_; have HB := n2_; have HK := n3_; have HO191 := n4_; clear n0_ n1_ n2_ n3_ n4_; clear ho hb hg hat) | ((with_reducible refine gate_callee (f := 75) rfl ?_); refine goesL_ (some 21) rfl rfl Tryz.func75 (by kernel_rfl) rfl #[.pointer (some ⟨g, 0, none⟩), .int .i64 6] rfl (by (try simp only [List.map_toArray, List.map_cons, List.map_nil]); first | done | rfl | (simp only [List.length_drop, List.length_take]; rfl)) ?_; (with_reducible refine (spec_l00Src_one.calls g s0_0 t187 t188 6 true t193 t194 w0 _ ?side1 ?side2 A9.out).mono ?_); (case side1 => repeat (first | (with_reducible first | exact HI0.out | apply IsS89.alloc | apply IsS89.drewN | apply IsS89.drew | apply IsS89.set_1 | apply IsS89.set_2) | exact HI0.out)); (case side2 => repeat (first | (with_reducible first | exact HB.out | apply below_alloc | apply pw_below_drewN | apply below_drew1 | refine below_set ?_ (IsS89.ge HI0.out)) | exact HB.out)); rintro e w34 ⟨rfl, hi, hb, hk⟩; refine ⟨_, rfl, ?_⟩; have n0_ := Aside0.mk (Kd.R_mono (Kd.R_keep (IsS89.apart (show IsS89 w0 _ g s0_0 t187 t188 from by repeat (first | (with_reducible first | exact HI0.out | apply IsS89.alloc | apply IsS89.drewN | apply IsS89.drew | apply IsS89.set_1 | apply IsS89.set_2) | exact HI0.out)) (by (with_reducible repeat (first | apply Kd.R_alloc | apply Kd.R_drewN | apply Kd.R_drew)); exact HO185.out) (by decide)) hk (fun _ h => h.2)) (fun _ h => h.1)); have n1_ := Aside0.mk (Kd.R_mono (Kd.R_keep (IsS89.apart (show IsS89 w0 _ g s0_0 t187 t188 from by repeat (first | (with_reducible first | exact HI0.out | apply IsS89.alloc | apply IsS89.drewN | apply IsS89.drew | apply IsS89.set_1 | apply IsS89.set_2) | exact HI0.out)) (by (with_reducible repeat (first | apply Kd.R_alloc | apply Kd.R_drewN | apply Kd.R_drew)); exact HO191.out) (by decide)) hk (fun _ h => h.2)) (fun _ h => h.1)); have n2_ := Aside0.mk (KeepBut.trans (by repeat (first | (with_reducible first | exact HK.out | apply KeepBut.set_ | apply keep_drewN | apply keep_drew | apply keep_alloc) | exact HK.out)) hk (.inl rfl)); have n3_ := Aside0.mk (hb); have n4_ := Aside0.mk (hi); clear HO185; clear HO191; clear HK; clear HB; clear HI0; have HO185 := n0_; have HO191 := n1_; have HK := n2_; have HB := n3_; have HI0 := n4_; clear n0_ n1_ n2_ n3_ n4_; (try clear hb); (try clear hb2); (try clear hk); (try clear hi)))
       go_roundg k1
       case measure => have := HK1.out; omega
       case rel => exact ⟨(y189), (wrap64 (x4_1 - 1)), (t193), (t194), (by first | rfl | (simp; done) | (simp [*]; done)), H', ⟨by have := HK1.out; omega⟩, ⟨by (with_reducible repeat (first | apply Kd.R_alloc | apply Kd.R_drewN | apply Kd.R_drew)); exact HO191.out⟩, ⟨by repeat (first | (with_reducible first | exact HI0.out | apply IsS89.alloc | apply IsS89.drewN | apply IsS89.drew | apply IsS89.set_1 | apply IsS89.set_2) | exact HI0.out)⟩, ⟨by repeat (first | (with_reducible first | exact HK.out | apply KeepBut.set_ | apply keep_drewN | apply keep_drew | apply keep_alloc) | exact HK.out)⟩, ⟨by repeat (first | (with_reducible first | exact HB.out | apply below_alloc | apply pw_below_drewN | apply below_drew1 | refine below_set ?_ (IsS89.ge HI0.out)) | exact HB.out)⟩⟩
     ·replace c10 := Bool.eq_false_iff.mpr c10
      subst c10
      have H1 : (spec_l02Meant.l0 k1 y189 (wrap64 (x4_1 - 1)) s0_0 t193 t194) = some (r1, r2, r3) := by rw [if_neg (show ¬ (false = true) by decide)] at H; exact H
      clear H
      have H := H1
      clear H1
      have H' := Aside0.mk H
      clear H
      go_wp2_with (first | ((with_reducible refine gate_dst (N := 15) rfl ?_); (try (refine gate_guard (by rfl) ?_; dsimp only)); refine Kd.R_lit (Kd.int .i64) _ 2 ?hg (N := 15) ?hd (xs := ([0, 1, 2, 3, 25, 39] : List Int)) (inner := [.int .i64 0, .int .i64 1, .int .i64 2, .int .i64 3, .int .i64 25, .int .i64 39]) (ok := fun _ => True) (okp := fun _ => True) ?hr ?hp (fun _ hk => hk) trivial (Below.refl _ _) (Nat.le_refl _) (by simp) ?_; (case hd => rfl); (case hg => rfl); (case hr => first | (go_simp; done) | (go_simp; rfl)); (case hp => exact (Reps.one (show Kd.M (Kd.int .i64) _ _ _ 0 [.int .i64 0] from rfl) (Reps.one (show Kd.M (Kd.int .i64) _ _ _ 1 [.int .i64 1] from rfl) (Reps.one (show Kd.M (Kd.int .i64) _ _ _ 2 [.int .i64 2] from rfl) (Reps.one (show Kd.M (Kd.int .i64) _ _ _ 3 [.int .i64 3] from rfl) (Reps.one (show Kd.M (Kd.int .i64) _ _ _ 25 [.int .i64 25] from rfl) (Reps.one (show Kd.M (Kd.int .i64) _ _ _ 39 [.int .i64 39] from rfl) (Reps.none _ _)))))))); intro v184 w35 ho36 hb hg_ hnew_; clear hg_ hnew_; (first | rw [← Ny183.out] at ho36 | (simp only [Int.reduceToNat] at ho36; rw [← Ny183.out] at ho36)); have n0_ := Aside0.mk (Kd.R_below (by (with_reducible repeat (first | apply Kd.R_alloc | apply Kd.R_drewN | apply Kd.R_drew)); exact HO_3.out) hb); have n1_ := Aside0.mk (Kd.R_lower ho36 (keep_size (w := w) (g := g) (row := none) (by repeat (first | (with_reducible first | exact HK.out | apply KeepBut.set_ | apply keep_drewN | apply keep_drew | apply keep_alloc) | exact HK.out)))); have n2_ := Aside0.mk (IsS89.below (by repeat (first | (with_reducible first | exact HI0.out | apply IsS89.alloc | apply IsS89.drewN | apply IsS89.drew | apply IsS89.set_1 | apply IsS89.set_2) | exact HI0.out)) hb); have n3_ := Aside0.mk (KeepBut.trans (by repeat (first | (with_reducible first | exact HK.out | apply KeepBut.set_ | apply keep_drewN | apply keep_drew | apply keep_alloc) | exact HK.out)) (KeepBut.of_below hb g none) (.inl rfl)); have n4_ := Aside0.mk (below_step (by repeat (first | (with_reducible first | exact HB.out | apply below_alloc | apply pw_below_drewN | apply below_drew1 | refine below_set ?_ (IsS89.ge HI0.out)) | exact HB.out)) hb); clear HO_3; clear HI0; clear HK; clear HB; have HO_3 := n0_; have HO185 := n1_; have HI0 := n2_; have HK := n3_; have HB := n4_; clear n0_ n1_ n2_ n3_ n4_; clear hb ho36; obtain ⟨Ao37, co37, eo37⟩ := Kd.R_slice HO185.out; subst eo37) | ((with_reducible refine gate_callee (f := 74) rfl ?_); refine goesL_ (some 16) rfl rfl Tryz.func74 (by kernel_rfl) rfl #[.pointer (some ⟨g, 0, none⟩), .slice Ao37 y183.length co37] rfl (by (try simp only [List.map_toArray, List.map_cons, List.map_nil]); first | done | rfl | (simp only [List.length_drop, List.length_take]; rfl)) ?_; (with_reducible refine (spec_l00Src_among.calls g s0_0 x1001_1 x1002_1 _ _ y183 t186 t187 t188 w0 _ ?side1 ?side2 ?side3 ?side4 ?side5 A7.out).mono ?_); (case side1 => repeat (first | (with_reducible first | exact HI0.out | apply IsS89.alloc | apply IsS89.drewN | apply IsS89.drew | apply IsS89.set_1 | apply IsS89.set_2) | exact HI0.out)); (case side2 => repeat (first | (with_reducible first | exact HB.out | apply below_alloc | apply pw_below_drewN | apply below_drew1 | refine below_set ?_ (IsS89.ge HI0.out)) | exact HB.out)); (case side3 => repeat (first | exact (Kd.R_reads' HO185.out).2.2 | (with_reducible refine Kd.C_alloc ?_ _) | (with_reducible refine Kd.C_drewN ?_ _) | (with_reducible refine Kd.C_drew ?_))); (case side4 => exact (Kd.R_reads' HO185.out).2.1); (case side5 => exact far_slice (IsS89.own_ne HI0.out HO185.out (by decide))); rintro e w38 ⟨rfl, hi, hb, hk⟩; refine ⟨_, rfl, ?_⟩; have n0_ := Aside0.mk (Kd.R_mono (Kd.R_keep (IsS89.apart (show IsS89 w0 _ g s0_0 x1001_1 x1002_1 from by repeat (first | (with_reducible first | exact HI0.out | apply IsS89.alloc | apply IsS89.drewN | apply IsS89.drew | apply IsS89.set_1 | apply IsS89.set_2) | exact HI0.out)) (by (with_reducible repeat (first | apply Kd.R_alloc | apply Kd.R_drewN | apply Kd.R_drew)); exact HO_3.out) (by decide)) hk (fun _ h => h.2)) (fun _ h => h.1)); have n1_ := Aside0.mk (Kd.R_mono (Kd.R_keep (IsS89.apart (show IsS89 w0 _ g s0_0 x1001_1 x1002_1 from by repeat (first | (with_reducible first | exact HI0.out | apply IsS89.alloc | apply IsS89.drewN | apply IsS89.drew | apply IsS89.set_1 | apply IsS89.set_2) | exact HI0.out)) (by (with_reducible repeat (first | apply Kd.R_alloc | apply Kd.R_drewN | apply Kd.R_drew)); exact HO185.out) (by decide)) hk (fun _ h => h.2)) (fun _ h => h.1)); have n2_ := Aside0.mk (KeepBut.trans (by repeat (first | (with_reducible first | exact HK.out | apply KeepBut.set_ | apply keep_drewN | apply keep_drew | apply keep_alloc) | exact HK.out)) hk (.inl rfl)); have n3_ := Aside0.mk (hb); have n4_ := Aside0.mk (hi); clear HO_3; clear HO185; clear HK; clear HB; clear HI0; have HO_3 := n0_; have HO185 := n1_; have HK := n2_; have HB := n3_; have HI0 := n4_; clear n0_ n1_ n2_ n3_ n4_; (try clear hb); (try clear hb2); (try clear hk); (try clear hi)) | ((with_reducible refine gate_builtin (b := .append) (xs := #[.tmp 13, .tmp 18]) rfl ?_); (try (refine gate_guard (by rfl) ?_; dsimp only)); at_builtin; refine Kd.R_append (Kd.int .i8) w.heap.size rfl (.tmp 13) (.tmp 18) 90 45 (.int .i8 0) 1 rfl Tryz.underlying90 info45 rfl (by decide) (by omega) u3 x3_1 (IntKind.i8.wrap (t186)) [.int .i8 (IntKind.i8.wrap (t186))] (fun _ => True) (fun _ => False) rfl rfl ?aP (fun _ hk => hk.elim) ?aF ?aO (Below.refl _ _) ?aS ?aL ?_; (case aP => exact rfl); (case aF => exact (fun _ _ => trivial)); (case aO => exact (by (with_reducible repeat (first | apply Kd.R_alloc | apply Kd.R_drewN | apply Kd.R_drew)); exact HO_3.out)); (case aS => exact (keep_size (w := w) (g := g) (row := none) (by repeat (first | (with_reducible first | exact HK.out | apply KeepBut.set_ | apply keep_drewN | apply keep_drew | apply keep_alloc) | exact HK.out)))); (case aL => have := LMc8.out; omega); intro v190 w39 ho hb hg hat; rw [← Ny189.out] at ho; have n0_ := Aside0.mk (IsS89.grown (by repeat (first | (with_reducible first | exact HI0.out | apply IsS89.alloc | apply IsS89.drewN | apply IsS89.drew | apply IsS89.set_1 | apply IsS89.set_2) | exact HI0.out)) hg (IsS89.own_ne HI0.out HO_3.out (by decide))); have n1_ := Aside0.mk (Kd.R_over' (by (with_reducible repeat (first | apply Kd.R_alloc | apply Kd.R_drewN | apply Kd.R_drew)); exact HO185.out) (Kd.R_typed (by (with_reducible repeat (first | apply Kd.R_alloc | apply Kd.R_drewN | apply Kd.R_drew)); exact HO_3.out)) (by decide) hg); have n2_ := Aside0.mk (below_weaken (by repeat (first | (with_reducible first | exact HB.out | apply below_alloc | apply pw_below_drewN | apply below_drew1 | refine below_set ?_ (IsS89.ge HI0.out)) | exact HB.out)) HL.out hb); have n3_ := Aside0.mk (KeepBut.trans (by repeat (first | (with_reducible first | exact HK.out | apply KeepBut.set_ | apply keep_drewN | apply keep_drew | apply keep_alloc) | exact HK.out)) (KeepBut.of_grown hg g) (Kd.R_base2 HO_3.out)); have n4_ := Aside0.mk (ho); clear HI0; clear HO185; clear HB; clear HK; clear HO_3; have HI0 := n0_; have HO185 := n1_; have HB := n2_; have HK := n3_; have HO191 := n4_; clear n0_ n1_ n2_ n3_ n4_; clear ho hb hg hat) | ((with_reducible refine gate_callee (f := 75) rfl ?_); refine goesL_ (some 21) rfl rfl Tryz.func75 (by kernel_rfl) rfl #[.pointer (some ⟨g, 0, none⟩), .int .i64 6] rfl (by (try simp only [List.map_toArray, List.map_cons, List.map_nil]); first | done | rfl | (simp only [List.length_drop, List.length_take]; rfl)) ?_; (with_reducible refine (spec_l00Src_one.calls g s0_0 t187 t188 6 false t193 t194 w0 _ ?side1 ?side2 A9.out).mono ?_); (case side1 => repeat (first | (with_reducible first | exact HI0.out | apply IsS89.alloc | apply IsS89.drewN | apply IsS89.drew | apply IsS89.set_1 | apply IsS89.set_2) | exact HI0.out)); (case side2 => repeat (first | (with_reducible first | exact HB.out | apply below_alloc | apply pw_below_drewN | apply below_drew1 | refine below_set ?_ (IsS89.ge HI0.out)) | exact HB.out)); rintro e w40 ⟨rfl, hi, hb, hk⟩; refine ⟨_, rfl, ?_⟩; have n0_ := Aside0.mk (Kd.R_mono (Kd.R_keep (IsS89.apart (show IsS89 w0 _ g s0_0 t187 t188 from by repeat (first | (with_reducible first | exact HI0.out | apply IsS89.alloc | apply IsS89.drewN | apply IsS89.drew | apply IsS89.set_1 | apply IsS89.set_2) | exact HI0.out)) (by (with_reducible repeat (first | apply Kd.R_alloc | apply Kd.R_drewN | apply Kd.R_drew)); exact HO185.out) (by decide)) hk (fun _ h => h.2)) (fun _ h => h.1)); have n1_ := Aside0.mk (Kd.R_mono (Kd.R_keep (IsS89.apart (show IsS89 w0 _ g s0_0 t187 t188 from by repeat (first | (with_reducible first | exact HI0.out | apply IsS89.alloc | apply IsS89.drewN | apply IsS89.drew | apply IsS89.set_1 | apply IsS89.set_2) | exact HI0.out)) (by (with_reducible repeat (first | apply Kd.R_alloc | apply Kd.R_drewN | apply Kd.R_drew)); exact HO191.out) (by decide)) hk (fun _ h => h.2)) (fun _ h => h.1)); have n2_ := Aside0.mk (KeepBut.trans (by repeat (first | (with_reducible first | exact HK.out | apply KeepBut.set_ | apply keep_drewN | apply keep_drew | apply keep_alloc) | exact HK.out)) hk (.inl rfl)); have n3_ := Aside0.mk (hb); have n4_ := Aside0.mk (hi); clear HO185; clear HO191; clear HK; clear HB; clear HI0; have HO185 := n0_; have HO191 := n1_; have HK := n2_; have HB := n3_; have HI0 := n4_; clear n0_ n1_ n2_ n3_ n4_; (try clear hb); (try clear hb2); (try clear hk); (try clear hi)))
      go_roundg k1
      case measure => have := HK1.out; omega
      case rel => exact ⟨(y189), (wrap64 (x4_1 - 1)), (t193), (t194), (by first | rfl | (simp; done) | (simp [*]; done)), H', ⟨by have := HK1.out; omega⟩, ⟨by (with_reducible repeat (first | apply Kd.R_alloc | apply Kd.R_drewN | apply Kd.R_drew)); exact HO191.out⟩, ⟨by repeat (first | (with_reducible first | exact HI0.out | apply IsS89.alloc | apply IsS89.drewN | apply IsS89.drew | apply IsS89.set_1 | apply IsS89.set_2) | exact HI0.out)⟩, ⟨by repeat (first | (with_reducible first | exact HK.out | apply KeepBut.set_ | apply keep_drewN | apply keep_drew | apply keep_alloc) | exact HK.out)⟩, ⟨by repeat (first | (with_reducible first | exact HB.out | apply below_alloc | apply pw_below_drewN | apply below_drew1 | refine below_set ?_ (IsS89.ge HI0.out)) | exact HB.out)⟩⟩
    ·rw [if_neg c8] at H
     exact absurd H (by simp)
   ·rw [if_neg c6] at H
    have c6b0 : decide (0 < x4_1) = false := decide_eq_false c6
    clear c6
    by_cases c41 : (x3_1.length : Int) > 8
    ·rw [if_pos c41] at H
     have c41b0 : decide (8 < (x3_1.length : Int)) = true := decide_eq_true c41
     have c41b1 : decide (8 < x3_1.length) = true := decide_eq_true (by omega)
     clear c41
     by_cases c42 : 8 ≤ (x3_1.length : Int)
     ·rw [if_pos c42] at H
      have c42b0 := eq_true c42
      have c42b1 : decide (8 ≤ (x3_1.length : Int)) = true := decide_eq_true c42
      clear c42
      obtain ⟨y198, hy198⟩ : ∃ y_ : List Int, y_ = (x3_1.take (8 : Int).toNat) := ⟨_, rfl⟩
      replace H : (if 0 ≤ (wrap64 ((y198.length : Int) - 1)) then (if (wrap64 ((y198.length : Int) - 1)) < (y198.length : Int) then (if (rd y198 (wrap64 ((y198.length : Int) - 1))) = (-10) then (if (wrap64 ((y198.length : Int) - 1)) ≤ (y198.length : Int) then (some ((y198.take ((wrap64 ((y198.length : Int) - 1)) : Int).toNat), x1001_1, x1002_1)) else (none)) else (some (y198, x1001_1, x1002_1))) else (none)) else (none)) = some (r1, r2, r3) := by first | (rw [hy198]; with_reducible exact H) | (have H2_ := (Option.bind_some _ _).symm.trans H; rw [hy198]; with_reducible exact H2_) | (have H2_ := (Option.bind_some _ _).symm.trans H; with_reducible exact H2_) | with_reducible exact H | (rw [hy198]; exact H) | exact H
      have Ny198 := Aside0.mk hy198
      clear hy198
      obtain ⟨ji43, hji43⟩ : ∃ j_ : Int, (wrap64 ((y198.length : Int) - 1)) = j_ := ⟨_, rfl⟩
      replace H : (if 0 ≤ (ji43) then (if (ji43) < (y198.length : Int) then (if (rd y198 (ji43)) = (-10) then (if (ji43) ≤ (y198.length : Int) then (some ((y198.take ((ji43) : Int).toNat), x1001_1, x1002_1)) else (none)) else (some (y198, x1001_1, x1002_1))) else (none)) else (none)) = some (r1, r2, r3) := by first | (rw [hji43] at H; exact H) | (simp only [hji43] at H ⊢; exact H)
      have hji43w : (IntKind.i64.wrap ((y198.length : Int) - 1)) = ji43 := (i64_w _).trans hji43
      by_cases c44 : 0 ≤ (ji43)
      ·rw [if_pos c44] at H
       have c44b0 : decide (0 ≤ (ji43)) = true := decide_eq_true c44
       clear c44
       by_cases c45 : (ji43) < (y198.length : Int)
       ·rw [if_pos c45] at H
        have c45b0 : decide ((ji43) < (y198.length : Int)) = true := decide_eq_true c45
        clear c45
        by_cases c46 : (rd y198 (ji43)) = (-10)
        ·rw [if_pos c46] at H
         have c46b0 : ((rd y198 (ji43)) == (-10)) = true := beq_iff_eq.mpr c46
         have c46b1 : ((rd y198 (ji43)) != (-10)) = false := bne_eq_false_iff_eq.mpr c46
         clear c46
         by_cases c47 : (ji43) ≤ (y198.length : Int)
         ·rw [if_pos c47] at H
          have c47b0 := eq_true c47
          have c47b1 : decide ((ji43) ≤ (y198.length : Int)) = true := decide_eq_true c47
          clear c47
          obtain ⟨y202, hy202⟩ : ∃ y_ : List Int, y_ = (y198.take ((ji43) : Int).toNat) := ⟨_, rfl⟩
          replace H : (some (y202, x1001_1, x1002_1)) = some (r1, r2, r3) := by first | (rw [hy202]; with_reducible exact H) | (have H2_ := (Option.bind_some _ _).symm.trans H; rw [hy202]; with_reducible exact H2_) | (have H2_ := (Option.bind_some _ _).symm.trans H; with_reducible exact H2_) | with_reducible exact H | (rw [hy202]; exact H) | exact H
          have Ny202 := Aside0.mk hy202
          clear hy202
          simp only [Option.some.injEq, Prod.mk.injEq] at H
          obtain ⟨rfl, rfl, rfl⟩ := H
          obtain ⟨Ao48, co48, eo48⟩ := Kd.R_slice HO_3.out
          subst eo48
          have q49 : (8 : Int) ≤ ((x3_1.length : Int) : Int) := of_decide_eq_true (by first | (with_reducible assumption) | assumption)
          obtain ⟨i049, hi049, _, hsz49, _⟩ := info_parts info45
          have hcut49 := cut_to (P := Tryz.prog) 90 45 .i64 Tryz.underlying90 hi049 Ao48 x3_1.length co48 8 (by omega) q49 (Kd.R_reads' HO_3.out).2.1
          have hr49 := Kd.R_take (m := (8 : Int).toNat) HO_3.out (by omega)
          have hy49 : y198.length = (8 : Int).toNat := (by rw [Ny198.out, List.length_take]; omega)
          rw [← Ny198.out] at hr49
          rw [← hy49] at hr49 hcut49
          clear hy49 hi049 hsz49 HO_3
          have HO200 := Aside0.mk hr49
          clear hr49
          replace q49 := eq_true q49
          have p201 : 0 ≤ ((ji43) : Int) := of_decide_eq_true (by first | (with_reducible assumption) | assumption)
          have q201 : (ji43) < (y198.length : Int) := of_decide_eq_true (by first | (with_reducible assumption) | assumption)
          obtain ⟨ad201, e201, hx201_0⟩ := Kd.at_int (Kd.R_reads' HO200.out).2.2 (ji43) p201 q201
          cases e201
          replace p201 := eq_true p201
          replace q201 := eq_true q201
          have q50 : ((ji43) : Int) ≤ ((y198.length : Int) : Int) := of_decide_eq_true (by first | (with_reducible assumption) | assumption)
          obtain ⟨i050, hi050, _, hsz50, _⟩ := info_parts info45
          have hcut50 := cut_to (P := Tryz.prog) 90 45 .i64 Tryz.underlying90 hi050 (some ad201) y198.length co48 (ji43) (of_decide_eq_true (by first | (with_reducible assumption) | assumption)) q50 (Kd.R_reads' HO200.out).2.1
          have hr50 := Kd.R_take (m := ((ji43) : Int).toNat) HO200.out (by omega)
          have hy50 : y202.length = ((ji43) : Int).toNat := (by rw [Ny202.out, List.length_take]; omega)
          rw [← Ny202.out] at hr50
          rw [← hy50] at hr50 hcut50
          clear hy50 hi050 hsz50 HO200
          have HO204 := Aside0.mk hr50
          clear hr50
          replace q50 := eq_true q50
          go_wp2
          go_ret
          exact ⟨_, by first | rfl | (simp [errW_none, errW_some] <;> rfl) | (simp only [← hji43]; first | rfl | (simp [errW_none, errW_some] <;> rfl)) | (simp [*, errW_none, errW_some] <;> rfl), by (with_reducible repeat (first | apply Kd.R_alloc | apply Kd.R_drewN | apply Kd.R_drew)); exact HO204.out, by repeat (first | (with_reducible first | exact HI0.out | apply IsS89.alloc | apply IsS89.drewN | apply IsS89.drew | apply IsS89.set_1 | apply IsS89.set_2) | exact HI0.out), by repeat (first | (with_reducible first | exact HB.out | apply below_alloc | apply pw_below_drewN | apply below_drew1 | refine below_set ?_ (IsS89.ge HI0.out)) | exact HB.out), by repeat (first | (with_reducible first | exact HK.out | apply KeepBut.set_ | apply keep_drewN | apply keep_drew | apply keep_alloc) | exact HK.out)⟩
         ·rw [if_neg c47] at H
          exact absurd H (by simp)
        ·rw [if_neg c46] at H
         have c46b0 : ((rd y198 (ji43)) == (-10)) = false := beq_eq_false_iff_ne.mpr c46
         have c46b1 : ((rd y198 (ji43)) != (-10)) = true := bne_iff_ne.mpr c46
         simp only [Option.some.injEq, Prod.mk.injEq] at H
         obtain ⟨rfl, rfl, rfl⟩ := H
         obtain ⟨Ao51, co51, eo51⟩ := Kd.R_slice HO_3.out
         subst eo51
         have q52 : (8 : Int) ≤ ((x3_1.length : Int) : Int) := of_decide_eq_true (by first | (with_reducible assumption) | assumption)
         obtain ⟨i052, hi052, _, hsz52, _⟩ := info_parts info45
         have hcut52 := cut_to (P := Tryz.prog) 90 45 .i64 Tryz.underlying90 hi052 Ao51 x3_1.length co51 8 (by omega) q52 (Kd.R_reads' HO_3.out).2.1
         have hr52 := Kd.R_take (m := (8 : Int).toNat) HO_3.out (by omega)
         have hy52 : y198.length = (8 : Int).toNat := (by rw [Ny198.out, List.length_take]; omega)
         rw [← Ny198.out] at hr52
         rw [← hy52] at hr52 hcut52
         clear hy52 hi052 hsz52 HO_3
         have HO200 := Aside0.mk hr52
         clear hr52
         replace q52 := eq_true q52
         have p201 : 0 ≤ ((ji43) : Int) := of_decide_eq_true (by first | (with_reducible assumption) | assumption)
         have q201 : (ji43) < (y198.length : Int) := of_decide_eq_true (by first | (with_reducible assumption) | assumption)
         obtain ⟨ad201, e201, hx201_0⟩ := Kd.at_int (Kd.R_reads' HO200.out).2.2 (ji43) p201 q201
         cases e201
         replace p201 := eq_true p201
         replace q201 := eq_true q201
         go_wp2
         go_ret
         exact ⟨_, by first | rfl | (simp [errW_none, errW_some] <;> rfl) | (simp only [← hji43]; first | rfl | (simp [errW_none, errW_some] <;> rfl)) | (simp [*, errW_none, errW_some] <;> rfl), by (with_reducible repeat (first | apply Kd.R_alloc | apply Kd.R_drewN | apply Kd.R_drew)); exact HO200.out, by repeat (first | (with_reducible first | exact HI0.out | apply IsS89.alloc | apply IsS89.drewN | apply IsS89.drew | apply IsS89.set_1 | apply IsS89.set_2) | exact HI0.out), by repeat (first | (with_reducible first | exact HB.out | apply below_alloc | apply pw_below_drewN | apply below_drew1 | refine below_set ?_ (IsS89.ge HI0.out)) | exact HB.out), by repeat (first | (with_reducible first | exact HK.out | apply KeepBut.set_ | apply keep_drewN | apply keep_drew | apply keep_alloc) | exact HK.out)⟩
       ·rw [if_neg c45] at H
        exact absurd H (by simp)
      ·rw [if_neg c44] at H
       exact absurd H (by simp)
     ·rw [if_neg c42] at H
      exact absurd H (by simp)
    ·rw [if_neg c41] at H
     have c41b0 : decide (8 < (x3_1.length : Int)) = false := decide_eq_false c41
     have c41b1 : decide (8 < x3_1.length) = false := decide_eq_false (by omega)
     clear c41
     obtain ⟨ji53, hji53⟩ : ∃ j_ : Int, (wrap64 ((x3_1.length : Int) - 1)) = j_ := ⟨_, rfl⟩
     replace H : (if 0 ≤ (ji53) then (if (ji53) < (x3_1.length : Int) then (if (rd x3_1 (ji53)) = (-10) then (if (ji53) ≤ (x3_1.length : Int) then (some ((x3_1.take ((ji53) : Int).toNat), x1001_1, x1002_1)) else (none)) else (some (x3_1, x1001_1, x1002_1))) else (none)) else (none)) = some (r1, r2, r3) := by first | (rw [hji53] at H; exact H) | (simp only [hji53] at H ⊢; exact H)
     have hji53w : (IntKind.i64.wrap ((x3_1.length : Int) - 1)) = ji53 := (i64_w _).trans hji53
     by_cases c54 : 0 ≤ (ji53)
     ·rw [if_pos c54] at H
      have c54b0 : decide (0 ≤ (ji53)) = true := decide_eq_true c54
      clear c54
      by_cases c55 : (ji53) < (x3_1.length : Int)
      ·rw [if_pos c55] at H
       have c55b0 : decide ((ji53) < (x3_1.length : Int)) = true := decide_eq_true c55
       clear c55
       by_cases c56 : (rd x3_1 (ji53)) = (-10)
       ·rw [if_pos c56] at H
        have c56b0 : ((rd x3_1 (ji53)) == (-10)) = true := beq_iff_eq.mpr c56
        have c56b1 : ((rd x3_1 (ji53)) != (-10)) = false := bne_eq_false_iff_eq.mpr c56
        clear c56
        by_cases c57 : (ji53) ≤ (x3_1.length : Int)
        ·rw [if_pos c57] at H
         have c57b0 := eq_true c57
         have c57b1 : decide ((ji53) ≤ (x3_1.length : Int)) = true := decide_eq_true c57
         clear c57
         obtain ⟨y206, hy206⟩ : ∃ y_ : List Int, y_ = (x3_1.take ((ji53) : Int).toNat) := ⟨_, rfl⟩
         replace H : (some (y206, x1001_1, x1002_1)) = some (r1, r2, r3) := by first | (rw [hy206]; with_reducible exact H) | (have H2_ := (Option.bind_some _ _).symm.trans H; rw [hy206]; with_reducible exact H2_) | (have H2_ := (Option.bind_some _ _).symm.trans H; with_reducible exact H2_) | with_reducible exact H | (rw [hy206]; exact H) | exact H
         have Ny206 := Aside0.mk hy206
         clear hy206
         simp only [Option.some.injEq, Prod.mk.injEq] at H
         obtain ⟨rfl, rfl, rfl⟩ := H
         obtain ⟨Ao58, co58, eo58⟩ := Kd.R_slice HO_3.out
         subst eo58
         have p205 : 0 ≤ ((ji53) : Int) := of_decide_eq_true (by first | (with_reducible assumption) | assumption)
         have q205 : (ji53) < (x3_1.length : Int) := of_decide_eq_true (by first | (with_reducible assumption) | assumption)
         obtain ⟨ad205, e205, hx205_0⟩ := Kd.at_int (Kd.R_reads' HO_3.out).2.2 (ji53) p205 q205
         cases e205
         replace p205 := eq_true p205
         replace q205 := eq_true q205
         have q59 : ((ji53) : Int) ≤ ((x3_1.length : Int) : Int) := of_decide_eq_true (by first | (with_reducible assumption) | assumption)
         obtain ⟨i059, hi059, _, hsz59, _⟩ := info_parts info45
         have hcut59 := cut_to (P := Tryz.prog) 90 45 .i64 Tryz.underlying90 hi059 (some ad205) x3_1.length co58 (ji53) (of_decide_eq_true (by first | (with_reducible assumption) | assumption)) q59 (Kd.R_reads' HO_3.out).2.1
         have hr59 := Kd.R_take (m := ((ji53) : Int).toNat) HO_3.out (by omega)
         have hy59 : y206.length = ((ji53) : Int).toNat := (by rw [Ny206.out, List.length_take]; omega)
         rw [← Ny206.out] at hr59
         rw [← hy59] at hr59 hcut59
         clear hy59 hi059 hsz59 HO_3
         have HO208 := Aside0.mk hr59
         clear hr59
         replace q59 := eq_true q59
         go_wp2
         go_ret
         exact ⟨_, by first | rfl | (simp [errW_none, errW_some] <;> rfl) | (simp only [← hji53]; first | rfl | (simp [errW_none, errW_some] <;> rfl)) | (simp [*, errW_none, errW_some] <;> rfl), by (with_reducible repeat (first | apply Kd.R_alloc | apply Kd.R_drewN | apply Kd.R_drew)); exact HO208.out, by repeat (first | (with_reducible first | exact HI0.out | apply IsS89.alloc | apply IsS89.drewN | apply IsS89.drew | apply IsS89.set_1 | apply IsS89.set_2) | exact HI0.out), by repeat (first | (with_reducible first | exact HB.out | apply below_alloc | apply pw_below_drewN | apply below_drew1 | refine below_set ?_ (IsS89.ge HI0.out)) | exact HB.out), by repeat (first | (with_reducible first | exact HK.out | apply KeepBut.set_ | apply keep_drewN | apply keep_drew | apply keep_alloc) | exact HK.out)⟩
        ·rw [if_neg c57] at H
         exact absurd H (by simp)
       ·rw [if_neg c56] at H
        have c56b0 : ((rd x3_1 (ji53)) == (-10)) = false := beq_eq_false_iff_ne.mpr c56
        have c56b1 : ((rd x3_1 (ji53)) != (-10)) = true := bne_iff_ne.mpr c56
        simp only [Option.some.injEq, Prod.mk.injEq] at H
        obtain ⟨rfl, rfl, rfl⟩ := H
        obtain ⟨Ao60, co60, eo60⟩ := Kd.R_slice HO_3.out
        subst eo60
        have p205 : 0 ≤ ((ji53) : Int) := of_decide_eq_true (by first | (with_reducible assumption) | assumption)
        have q205 : (ji53) < (x3_1.length : Int) := of_decide_eq_true (by first | (with_reducible assumption) | assumption)
        obtain ⟨ad205, e205, hx205_0⟩ := Kd.at_int (Kd.R_reads' HO_3.out).2.2 (ji53) p205 q205
        cases e205
        replace p205 := eq_true p205
        replace q205 := eq_true q205
        go_wp2
        go_ret
        exact ⟨_, by first | rfl | (simp [errW_none, errW_some] <;> rfl) | (simp only [← hji53]; first | rfl | (simp [errW_none, errW_some] <;> rfl)) | (simp [*, errW_none, errW_some] <;> rfl), by (with_reducible repeat (first | apply Kd.R_alloc | apply Kd.R_drewN | apply Kd.R_drew)); exact HO_3.out, by repeat (first | (with_reducible first | exact HI0.out | apply IsS89.alloc | apply IsS89.drewN | apply IsS89.drew | apply IsS89.set_1 | apply IsS89.set_2) | exact HI0.out), by repeat (first | (with_reducible first | exact HB.out | apply below_alloc | apply pw_below_drewN | apply below_drew1 | refine below_set ?_ (IsS89.ge HI0.out)) | exact HB.out), by repeat (first | (with_reducible first | exact HK.out | apply KeepBut.set_ | apply keep_drewN | apply keep_drew | apply keep_alloc) | exact HK.out)⟩
      ·rw [if_neg c55] at H
       exact absurd H (by simp)
     ·rw [if_neg c54] at H
      exact absurd H (by simp)
def spec_l02Drawn.l0 : Nat → List Int → List Int → Int → Int → List Int → Int → Int → Option (List Int × Int × Int)
 | 0, _, _, _, _, _, _, _ => none
 | k + 1, x3, x4, x5, x6, x1000, x1001, x1002 => if x6 < (x3.length : Int) then (if 0 ≤ x6 then (if x4.length < 140737488355328 then ((some (x4 ++ [rd x3 x6] : List Int)).bind fun y218 => (if (rd x3 x6) = (-10) then (spec_l02Drawn.l0 k x3 y218 (wrap64 (x6 + 1)) (wrap64 (x6 + 1)) x1000 x1001 x1002) else ((spec_l00Src_pick.f x1000 x1001 x1002 5).bind fun bt222 => (if bt222.1 > 0 then (if (wrap64 ((wrap64 (x5 + bt222.1)) - 1)) < x6 then (if x6 < (y218.length : Int) then (spec_l02Drawn.l0 k x3 (y218.set (x6 : Int).toNat (IntKind.i8.wrap (wrap64 (-bt222.1)))) x5 (wrap64 (x6 + 1)) x1000 bt222.2.1 bt222.2.2) else (none)) else (spec_l02Drawn.l0 k x3 y218 x5 (wrap64 (x6 + 1)) x1000 bt222.2.1 bt222.2.2)) else (spec_l02Drawn.l0 k x3 y218 x5 (wrap64 (x6 + 1)) x1000 bt222.2.1 bt222.2.2))))) else (none)) else (none)) else (some (x4, x1001, x1002))
def spec_l02Drawn.f (k : Nat) (s0_0 : List Int) (s0_1 : Int) (s0_2 : Int) : Option (List Int × Int × Int) := (spec_l02Meant.f k s0_0 s0_1 s0_2).bind fun bt209 => (spec_l02Drawn.l0 k bt209.1 (([] : List Int)) 0 0 s0_0 bt209.2.1 bt209.2.2)
set_option maxHeartbeats 8000000 in
set_option maxRecDepth 100000 in
theorem spec_l02Drawn.calls (k : Nat) (g : Nat) (s0_0 : List Int) (s0_1 : Int) (s0_2 : Int) (r1 : List Int) (r2 : Int) (r3 : Int) (w0 w : World) (hI : IsS89 w0 w g s0_0 s0_1 s0_2) (hB : Below w0.heap.size w0 w) (h : spec_l02Drawn.f k s0_0 s0_1 s0_2 = some (r1, r2, r3)) :
  Calls Tryz.prog 22 #[.pointer (some ⟨g, 0, none⟩)] w fun e w' => ∃ v0_ : Value, e = .returned (v0_) ∧ Kd.R (Kd.int .i8) 45 w' w.heap.size (fun _ => True) v0_ r1 ∧ IsS89 w0 w' g s0_0 r2 r3 ∧ Below w0.heap.size w0 w' ∧ KeepBut w w' g none := by
 have HI0 := Aside0.mk hI
 have HK := Aside0.mk (KeepBut.refl w g none)
 have HL := Aside0.mk hB.size
 clear hI
 have HW0 := Aside0.mk hB.size
 have HB := Aside0.mk hB
 clear hB
 have H : ((spec_l02Meant.f k s0_0 s0_1 s0_2).bind fun bt209 => (spec_l02Drawn.l0 k bt209.1 (([] : List Int)) 0 0 s0_0 bt209.2.1 bt209.2.2)) = some (r1, r2, r3) := h
 clear h
 replace H := Option.bind_eq_some_iff.mp H
 obtain ⟨⟨t209, t212, t213⟩, A20, H⟩ := H
 replace H : (spec_l02Drawn.l0 k t209 (([] : List Int)) 0 0 s0_0 t212 t213) = some (r1, r2, r3) := H
 have A2 := Aside0.mk A20
 clear A20
 obtain ⟨y214, hy214⟩ : ∃ y_ : List Int, y_ = (([] : List Int)) := ⟨_, rfl⟩
 replace H : (spec_l02Drawn.l0 k t209 y214 0 0 s0_0 t212 t213) = some (r1, r2, r3) := by first | (rw [hy214]; with_reducible exact H) | (have H2_ := (Option.bind_some _ _).symm.trans H; rw [hy214]; with_reducible exact H2_) | (have H2_ := (Option.bind_some _ _).symm.trans H; with_reducible exact H2_) | with_reducible exact H | (rw [hy214]; exact H) | exact H
 have Ny214 := Aside0.mk hy214
 clear hy214
 have H' := Aside0.mk H
 clear H
 go_enter Tryz.func22, Tryz.ntmps22
 go_wp2_with (first | ((with_reducible refine gate_callee (f := 49) rfl ?_); refine goesL_ (some 9) rfl rfl Tryz.func49 (by kernel_rfl) rfl #[.pointer (some ⟨g, 0, none⟩)] rfl (by (try simp only [List.map_toArray, List.map_cons, List.map_nil]); first | done | rfl | (simp only [List.length_drop, List.length_take]; rfl)) ?_; (with_reducible refine (spec_l02Meant.calls k g s0_0 s0_1 s0_2 t209 t212 t213 w0 _ ?side1 ?side2 A2.out).mono ?_); (case side1 => repeat (first | (with_reducible first | exact HI0.out | apply IsS89.alloc | apply IsS89.drewN | apply IsS89.drew | apply IsS89.set_1 | apply IsS89.set_2) | exact HI0.out)); (case side2 => repeat (first | (with_reducible first | exact HB.out | apply below_alloc | apply pw_below_drewN | apply below_drew1 | refine below_set ?_ (IsS89.ge HI0.out)) | exact HB.out)); rintro e w3 ⟨v210, rfl, ho0, hi, hb, hk⟩; refine ⟨_, rfl, ?_⟩; have n0_ := Aside0.mk (Kd.R_lower ho0 (keep_size (w := w) (g := g) (row := none) (by repeat (first | (with_reducible first | exact HK.out | apply KeepBut.set_ | apply keep_drewN | apply keep_drew | apply keep_alloc) | exact HK.out)))); have n1_ := Aside0.mk (KeepBut.trans (by repeat (first | (with_reducible first | exact HK.out | apply KeepBut.set_ | apply keep_drewN | apply keep_drew | apply keep_alloc) | exact HK.out)) hk (.inl rfl)); have n2_ := Aside0.mk (hb); have n3_ := Aside0.mk (hi); clear HK; clear HB; clear HI0; have HO211 := n0_; have HK := n1_; have HB := n2_; have HI0 := n3_; clear n0_ n1_ n2_ n3_; (try clear hb); (try clear hb2); (try clear hk); (try clear hi); (try clear ho0)) | ((with_reducible refine gate_dst (N := 10) rfl ?_); refine Kd.R_lit (Kd.int .i8) _ 45 ?hg (N := 10) ?hd (xs := ([] : List Int)) (inner := []) (ok := fun _ => True) (okp := fun _ => True) ?hr ?hp (fun _ hk => hk) trivial (Below.refl _ _) (Nat.le_refl _) (by simp) ?_; (case hd => rfl); (case hg => rfl); (case hr => first | (go_simp; done) | (go_simp; rfl)); (case hp => exact (Reps.none _ _)); intro v215 w4 ho5 hb hg_ hnew_; clear hg_ hnew_; (first | rw [← Ny214.out] at ho5 | (simp only [Int.reduceToNat] at ho5; rw [← Ny214.out] at ho5)); have n0_ := Aside0.mk (Kd.R_elder' (by (with_reducible repeat (first | apply Kd.R_alloc | apply Kd.R_drewN | apply Kd.R_drew)); exact HO211.out) (Kd.R_base ho5) hb); have n1_ := Aside0.mk (Kd.R_lower (Kd.R_new' ho5 (Kd.R_lt (by (with_reducible repeat (first | apply Kd.R_alloc | apply Kd.R_drewN | apply Kd.R_drew)); exact HO211.out))) (keep_size (w := w) (g := g) (row := none) (by repeat (first | (with_reducible first | exact HK.out | apply KeepBut.set_ | apply keep_drewN | apply keep_drew | apply keep_alloc) | exact HK.out)))); have n2_ := Aside0.mk (IsS89.below (by repeat (first | (with_reducible first | exact HI0.out | apply IsS89.alloc | apply IsS89.drewN | apply IsS89.drew | apply IsS89.set_1 | apply IsS89.set_2) | exact HI0.out)) hb); have n3_ := Aside0.mk (KeepBut.trans (by repeat (first | (with_reducible first | exact HK.out | apply KeepBut.set_ | apply keep_drewN | apply keep_drew | apply keep_alloc) | exact HK.out)) (KeepBut.of_below hb g none) (.inl rfl)); have n4_ := Aside0.mk (below_step (by repeat (first | (with_reducible first | exact HB.out | apply below_alloc | apply pw_below_drewN | apply below_drew1 | refine below_set ?_ (IsS89.ge HI0.out)) | exact HB.out)) hb); clear HO211; clear HI0; clear HK; clear HB; have HO211 := n0_; have HO216 := n1_; have HI0 := n2_; have HK := n3_; have HB := n4_; clear n0_ n1_ n2_ n3_ n4_; clear hb ho5))
 go_loopg [4, 5, 6] k (fun kq v4 v5 v6 w' => ∃ (x3_1 : List Int) (x4_1 : List Int) (x5_1 : Int) (x6_1 : Int) (x1001_1 : Int) (x1002_1 : Int), v5 = .int .i64 x5_1 ∧ v6 = .int .i64 x6_1 ∧ Aside0 (spec_l02Drawn.l0 kq x3_1 x4_1 x5_1 x6_1 s0_0 x1001_1 x1002_1 = some (r1, r2, r3)) ∧ Aside0 (kq ≤ k) ∧ Aside0 (Kd.R (Kd.int .i8) 45 w' w.heap.size (fun k_ => some k_ ≠ (v4 : Value).ownBlock) v210 x3_1) ∧ Aside0 (Kd.R (Kd.int .i8) 45 w' w.heap.size (fun k_ => some k_ ≠ (v210 : Value).ownBlock) v4 x4_1) ∧ Aside0 (IsS89 w0 w' g s0_0 x1001_1 x1002_1) ∧ Aside0 (KeepBut w w' g none) ∧ Aside0 (Below w0.heap.size w0 w'))
 case atStart => exact ⟨(t209), (y214), (0), (0), (t212), (t213), (by first | rfl | (simp; done) | (simp [*]; done)), (by first | rfl | (simp; done) | (simp [*]; done)), H', ⟨Nat.le_refl _⟩, ⟨by (with_reducible repeat (first | apply Kd.R_alloc | apply Kd.R_drewN | apply Kd.R_drew)); exact Kd.R_mono HO211.out (fun _ hk => hk.2)⟩, ⟨by (with_reducible repeat (first | apply Kd.R_alloc | apply Kd.R_drewN | apply Kd.R_drew)); exact Kd.R_mono HO216.out (fun _ hk => hk.2)⟩, ⟨by repeat (first | (with_reducible first | exact HI0.out | apply IsS89.alloc | apply IsS89.drewN | apply IsS89.drew | apply IsS89.set_1 | apply IsS89.set_2) | exact HI0.out)⟩, ⟨by repeat (first | (with_reducible first | exact HK.out | apply KeepBut.set_ | apply keep_drewN | apply keep_drew | apply keep_alloc) | exact HK.out)⟩, ⟨by repeat (first | (with_reducible first | exact HB.out | apply below_alloc | apply pw_below_drewN | apply below_drew1 | refine below_set ?_ (IsS89.ge HI0.out)) | exact HB.out)⟩⟩
 case round =>
  clear H'
  try clear c2
  try clear p2
  try clear c4
  obtain ⟨x3_1, x4_1, x5_1, x6_1, x1001_1, x1002_1, rfl, rfl, HA, HK1, HO_3, HO_4, HI0, HK, HB⟩ := hrel
  cases gk with
  | zero => exact absurd HA.out (by simp [spec_l02Drawn.l0])
  | succ k1 =>
   have H := HA.out
   clear HA
   simp only [spec_l02Drawn.l0] at H
   by_cases c6 : x6_1 < (x3_1.length : Int)
   ·rw [if_pos c6] at H
    have c6b0 : decide (x6_1 < (x3_1.length : Int)) = true := decide_eq_true c6
    clear c6
    by_cases c7 : 0 ≤ x6_1
    ·rw [if_pos c7] at H
     have c7b0 : decide (0 ≤ x6_1) = true := decide_eq_true c7
     clear c7
     by_cases c8 : x4_1.length < 140737488355328
     ·rw [if_pos c8] at H
      have LMc8 := Aside0.mk c8
      clear c8
      obtain ⟨y218, hy218⟩ : ∃ y_ : List Int, y_ = (x4_1 ++ [rd x3_1 x6_1]) := ⟨_, rfl⟩
      replace H : (if (rd x3_1 x6_1) = (-10) then (spec_l02Drawn.l0 k1 x3_1 y218 (wrap64 (x6_1 + 1)) (wrap64 (x6_1 + 1)) s0_0 x1001_1 x1002_1) else ((spec_l00Src_pick.f s0_0 x1001_1 x1002_1 5).bind fun bt222 => (if bt222.1 > 0 then (if (wrap64 ((wrap64 (x5_1 + bt222.1)) - 1)) < x6_1 then (if x6_1 < (y218.length : Int) then (spec_l02Drawn.l0 k1 x3_1 (y218.set (x6_1 : Int).toNat (IntKind.i8.wrap (wrap64 (-bt222.1)))) x5_1 (wrap64 (x6_1 + 1)) s0_0 bt222.2.1 bt222.2.2) else (none)) else (spec_l02Drawn.l0 k1 x3_1 y218 x5_1 (wrap64 (x6_1 + 1)) s0_0 bt222.2.1 bt222.2.2)) else (spec_l02Drawn.l0 k1 x3_1 y218 x5_1 (wrap64 (x6_1 + 1)) s0_0 bt222.2.1 bt222.2.2)))) = some (r1, r2, r3) := by first | (rw [hy218]; with_reducible exact H) | (have H2_ := (Option.bind_some _ _).symm.trans H; rw [hy218]; with_reducible exact H2_) | (have H2_ := (Option.bind_some _ _).symm.trans H; with_reducible exact H2_) | with_reducible exact H | (rw [hy218]; exact H) | exact H
      have Ny218 := Aside0.mk hy218
      clear hy218
      by_cases c9 : (rd x3_1 x6_1) = (-10)
      ·rw [if_pos c9] at H
       have c9b0 : ((rd x3_1 x6_1) == (-10)) = true := beq_iff_eq.mpr c9
       have c9b1 : ((rd x3_1 x6_1) != (-10)) = false := bne_eq_false_iff_eq.mpr c9
       clear c9
       have H' := Aside0.mk H
       clear H
       obtain ⟨Ao10, co10, eo10⟩ := Kd.R_slice HO_3.out
       subst eo10
       have p217 : 0 ≤ (x6_1 : Int) := of_decide_eq_true (by first | (with_reducible assumption) | assumption)
       have q217 : x6_1 < (x3_1.length : Int) := of_decide_eq_true (by first | (with_reducible assumption) | assumption)
       obtain ⟨ad217, e217, hx217_0⟩ := Kd.at_int (Kd.R_reads' HO_3.out).2.2 x6_1 p217 q217
       cases e217
       replace p217 := eq_true p217
       replace q217 := eq_true q217
       go_wp2_with (first | ((with_reducible refine gate_builtin (b := .append) (xs := #[.tmp 17, .tmp 22]) rfl ?_); at_builtin; refine Kd.R_append (Kd.int .i8) w.heap.size rfl (.tmp 17) (.tmp 22) 31 45 (.int .i8 0) 1 rfl Tryz.underlying31 info45 rfl (by decide) (by omega) u4 x4_1 (rd x3_1 x6_1) [.int .i8 (rd x3_1 x6_1)] (fun k_ => some k_ ≠ (.slice (some ad217) x3_1.length co10 : Value).ownBlock) (fun _ => False) rfl rfl ?aP (fun _ hk => hk.elim) ?aF ?aO (Below.refl _ _) ?aS ?aL ?_; (case aP => exact rfl); (case aF => exact (fun k_ hk => Kd.fresh' (Kd.R_lt (by (with_reducible repeat (first | apply Kd.R_alloc | apply Kd.R_drewN | apply Kd.R_drew)); exact HO_3.out)) k_ hk)); (case aO => exact (by (with_reducible repeat (first | apply Kd.R_alloc | apply Kd.R_drewN | apply Kd.R_drew)); exact HO_4.out)); (case aS => exact (keep_size (w := w) (g := g) (row := none) (by repeat (first | (with_reducible first | exact HK.out | apply KeepBut.set_ | apply keep_drewN | apply keep_drew | apply keep_alloc) | exact HK.out)))); (case aL => have := LMc8.out; omega); intro v219 w11 ho hb hg hat; rw [← Ny218.out] at ho; have n0_ := Aside0.mk (Kd.R_after (ok := (fun _ => True)) (by (with_reducible repeat (first | apply Kd.R_alloc | apply Kd.R_drewN | apply Kd.R_drew)); exact Kd.R_mono HO_3.out (fun _ hk => ⟨trivial, hk⟩)) hg hat); have n1_ := Aside0.mk (IsS89.grown (by repeat (first | (with_reducible first | exact HI0.out | apply IsS89.alloc | apply IsS89.drewN | apply IsS89.drew | apply IsS89.set_1 | apply IsS89.set_2) | exact HI0.out)) hg (IsS89.own_ne HI0.out HO_4.out (by decide))); have n2_ := Aside0.mk (below_weaken (by repeat (first | (with_reducible first | exact HB.out | apply below_alloc | apply pw_below_drewN | apply below_drew1 | refine below_set ?_ (IsS89.ge HI0.out)) | exact HB.out)) HL.out hb); have n3_ := Aside0.mk (KeepBut.trans (by repeat (first | (with_reducible first | exact HK.out | apply KeepBut.set_ | apply keep_drewN | apply keep_drew | apply keep_alloc) | exact HK.out)) (KeepBut.of_grown hg g) (Kd.R_base2 HO_4.out)); have n4_ := Aside0.mk (ho); clear HO_3; clear HI0; clear HB; clear HK; clear HO_4; have HO_3 := n0_; have HI0 := n1_; have HB := n2_; have HK := n3_; have HO220 := n4_; clear n0_ n1_ n2_ n3_ n4_; clear ho hb hg hat; have p221 : 0 ≤ (x6_1 : Int) := of_decide_eq_true (by first | (with_reducible assumption) | assumption); have q221 : x6_1 < (x3_1.length : Int) := of_decide_eq_true (by first | (with_reducible assumption) | assumption); obtain ⟨ad221, e221, hx221_0⟩ := Kd.at_int (Kd.R_reads' HO_3.out).2.2 x6_1 p221 q221; obtain rfl : ad217 = ad221 := (by injection e221); replace p221 := eq_true p221; replace q221 := eq_true q221))
       go_roundg k1
       case measure => have := HK1.out; omega
       case rel => exact ⟨(x3_1), (y218), (wrap64 (x6_1 + 1)), (wrap64 (x6_1 + 1)), (x1001_1), (x1002_1), (by first | rfl | (simp; done) | (simp [*]; done)), (by first | rfl | (simp; done) | (simp [*]; done)), H', ⟨by have := HK1.out; omega⟩, ⟨by (with_reducible repeat (first | apply Kd.R_alloc | apply Kd.R_drewN | apply Kd.R_drew)); exact Kd.R_mono HO_3.out (fun _ hk => hk.2)⟩, ⟨by (with_reducible repeat (first | apply Kd.R_alloc | apply Kd.R_drewN | apply Kd.R_drew)); exact HO220.out⟩, ⟨by repeat (first | (with_reducible first | exact HI0.out | apply IsS89.alloc | apply IsS89.drewN | apply IsS89.drew | apply IsS89.set_1 | apply IsS89.set_2) | exact HI0.out)⟩, ⟨by repeat (first | (with_reducible first | exact HK.out | apply KeepBut.set_ | apply keep_drewN | apply keep_drew | apply keep_alloc) | exact HK.out)⟩, ⟨by repeat (first | (with_reducible first | exact HB.out | apply below_alloc | apply pw_below_drewN | apply below_drew1 | refine below_set ?_ (IsS89.ge HI0.out)) | exact HB.out)⟩⟩
      ·rw [if_neg c9] at H
       have c9b0 : ((rd x3_1 x6_1) == (-10)) = false := beq_eq_false_iff_ne.mpr c9
       have c9b1 : ((rd x3_1 x6_1) != (-10)) = true := bne_iff_ne.mpr c9
       replace H := Option.bind_eq_some_iff.mp H
       obtain ⟨⟨t222, t223, t224⟩, A120, H⟩ := H
       replace H : (if t222 > 0 then (if (wrap64 ((wrap64 (x5_1 + t222)) - 1)) < x6_1 then (if x6_1 < (y218.length : Int) then (spec_l02Drawn.l0 k1 x3_1 (y218.set (x6_1 : Int).toNat (IntKind.i8.wrap (wrap64 (-t222)))) x5_1 (wrap64 (x6_1 + 1)) s0_0 t223 t224) else (none)) else (spec_l02Drawn.l0 k1 x3_1 y218 x5_1 (wrap64 (x6_1 + 1)) s0_0 t223 t224)) else (spec_l02Drawn.l0 k1 x3_1 y218 x5_1 (wrap64 (x6_1 + 1)) s0_0 t223 t224)) = some (r1, r2, r3) := H
       have A12 := Aside0.mk A120
       clear A120
       by_cases c13 : t222 > 0
       ·rw [if_pos c13] at H
        have c13b0 : decide (0 < t222) = true := decide_eq_true c13
        clear c13
        by_cases c14 : (wrap64 ((wrap64 (x5_1 + t222)) - 1)) < x6_1
        ·rw [if_pos c14] at H
         have c14b0 : decide ((wrap64 ((wrap64 (x5_1 + t222)) - 1)) < x6_1) = true := decide_eq_true c14
         clear c14
         by_cases c15 : x6_1 < (y218.length : Int)
         ·rw [if_pos c15] at H
          have c15b0 : decide (x6_1 < (y218.length : Int)) = true := decide_eq_true c15
          clear c15
          obtain ⟨y225, hy225⟩ : ∃ y_ : List Int, y_ = (y218.set (x6_1 : Int).toNat (IntKind.i8.wrap (wrap64 (-t222)))) := ⟨_, rfl⟩
          replace H : (spec_l02Drawn.l0 k1 x3_1 y225 x5_1 (wrap64 (x6_1 + 1)) s0_0 t223 t224) = some (r1, r2, r3) := by first | (rw [hy225]; with_reducible exact H) | (have H2_ := (Option.bind_some _ _).symm.trans H; rw [hy225]; with_reducible exact H2_) | (have H2_ := (Option.bind_some _ _).symm.trans H; with_reducible exact H2_) | with_reducible exact H | (rw [hy225]; exact H) | exact H
          have Ny225 := Aside0.mk hy225
          clear hy225
          have H' := Aside0.mk H
          clear H
          obtain ⟨Ao17, co17, eo17⟩ := Kd.R_slice HO_3.out
          subst eo17
          have p217 : 0 ≤ (x6_1 : Int) := of_decide_eq_true (by first | (with_reducible assumption) | assumption)
          have q217 : x6_1 < (x3_1.length : Int) := of_decide_eq_true (by first | (with_reducible assumption) | assumption)
          obtain ⟨ad217, e217, hx217_0⟩ := Kd.at_int (Kd.R_reads' HO_3.out).2.2 x6_1 p217 q217
          cases e217
          replace p217 := eq_true p217
          replace q217 := eq_true q217
          go_wp2_with (first | ((with_reducible refine gate_builtin (b := .append) (xs := #[.tmp 17, .tmp 22]) rfl ?_); at_builtin; refine Kd.R_append (Kd.int .i8) w.heap.size rfl (.tmp 17) (.tmp 22) 31 45 (.int .i8 0) 1 rfl Tryz.underlying31 info45 rfl (by decide) (by omega) u4 x4_1 (rd x3_1 x6_1) [.int .i8 (rd x3_1 x6_1)] (fun k_ => some k_ ≠ (.slice (some ad217) x3_1.length co17 : Value).ownBlock) (fun _ => False) rfl rfl ?aP (fun _ hk => hk.elim) ?aF ?aO (Below.refl _ _) ?aS ?aL ?_; (case aP => exact rfl); (case aF => exact (fun k_ hk => Kd.fresh' (Kd.R_lt (by (with_reducible repeat (first | apply Kd.R_alloc | apply Kd.R_drewN | apply Kd.R_drew)); exact HO_3.out)) k_ hk)); (case aO => exact (by (with_reducible repeat (first | apply Kd.R_alloc | apply Kd.R_drewN | apply Kd.R_drew)); exact HO_4.out)); (case aS => exact (keep_size (w := w) (g := g) (row := none) (by repeat (first | (with_reducible first | exact HK.out | apply KeepBut.set_ | apply keep_drewN | apply keep_drew | apply keep_alloc) | exact HK.out)))); (case aL => have := LMc8.out; omega); intro v219 w18 ho hb hg hat; rw [← Ny218.out] at ho; have n0_ := Aside0.mk (Kd.R_after (ok := (fun _ => True)) (by (with_reducible repeat (first | apply Kd.R_alloc | apply Kd.R_drewN | apply Kd.R_drew)); exact Kd.R_mono HO_3.out (fun _ hk => ⟨trivial, hk⟩)) hg hat); have n1_ := Aside0.mk (IsS89.grown (by repeat (first | (with_reducible first | exact HI0.out | apply IsS89.alloc | apply IsS89.drewN | apply IsS89.drew | apply IsS89.set_1 | apply IsS89.set_2) | exact HI0.out)) hg (IsS89.own_ne HI0.out HO_4.out (by decide))); have n2_ := Aside0.mk (below_weaken (by repeat (first | (with_reducible first | exact HB.out | apply below_alloc | apply pw_below_drewN | apply below_drew1 | refine below_set ?_ (IsS89.ge HI0.out)) | exact HB.out)) HL.out hb); have n3_ := Aside0.mk (KeepBut.trans (by repeat (first | (with_reducible first | exact HK.out | apply KeepBut.set_ | apply keep_drewN | apply keep_drew | apply keep_alloc) | exact HK.out)) (KeepBut.of_grown hg g) (Kd.R_base2 HO_4.out)); have n4_ := Aside0.mk (ho); clear HO_3; clear HI0; clear HB; clear HK; clear HO_4; have HO_3 := n0_; have HI0 := n1_; have HB := n2_; have HK := n3_; have HO220 := n4_; clear n0_ n1_ n2_ n3_ n4_; clear ho hb hg hat; have p221 : 0 ≤ (x6_1 : Int) := of_decide_eq_true (by first | (with_reducible assumption) | assumption); have q221 : x6_1 < (x3_1.length : Int) := of_decide_eq_true (by first | (with_reducible assumption) | assumption); obtain ⟨ad221, e221, hx221_0⟩ := Kd.at_int (Kd.R_reads' HO_3.out).2.2 x6_1 p221 q221; obtain rfl : ad217 = ad221 := (by injection e221); replace p221 := eq_true p221; replace q221 := eq_true q221) | ((with_reducible refine gate_callee (f := 48) rfl ?_); refine goesL_ (some 32) rfl rfl Tryz.func48 (by kernel_rfl) rfl #[.pointer (some ⟨g, 0, none⟩), .int .i64 5] rfl (by (try simp only [List.map_toArray, List.map_cons, List.map_nil]); first | done | rfl | (simp only [List.length_drop, List.length_take]; rfl)) ?_; (with_reducible refine (spec_l00Src_pick.calls g s0_0 x1001_1 x1002_1 5 t222 t223 t224 w0 _ ?side1 ?side2 A12.out).mono ?_); (case side1 => repeat (first | (with_reducible first | exact HI0.out | apply IsS89.alloc | apply IsS89.drewN | apply IsS89.drew | apply IsS89.set_1 | apply IsS89.set_2) | exact HI0.out)); (case side2 => repeat (first | (with_reducible first | exact HB.out | apply below_alloc | apply pw_below_drewN | apply below_drew1 | refine below_set ?_ (IsS89.ge HI0.out)) | exact HB.out)); rintro e w19 ⟨rfl, hi, hb, hk⟩; refine ⟨_, rfl, ?_⟩; have n0_ := Aside0.mk (Kd.R_mono (Kd.R_keep (IsS89.apart (show IsS89 w0 _ g s0_0 x1001_1 x1002_1 from by repeat (first | (with_reducible first | exact HI0.out | apply IsS89.alloc | apply IsS89.drewN | apply IsS89.drew | apply IsS89.set_1 | apply IsS89.set_2) | exact HI0.out)) (by (with_reducible repeat (first | apply Kd.R_alloc | apply Kd.R_drewN | apply Kd.R_drew)); exact HO_3.out) (by decide)) hk (fun _ h => h.2)) (fun _ h => h.1)); have n1_ := Aside0.mk (Kd.R_mono (Kd.R_keep (IsS89.apart (show IsS89 w0 _ g s0_0 x1001_1 x1002_1 from by repeat (first | (with_reducible first | exact HI0.out | apply IsS89.alloc | apply IsS89.drewN | apply IsS89.drew | apply IsS89.set_1 | apply IsS89.set_2) | exact HI0.out)) (by (with_reducible repeat (first | apply Kd.R_alloc | apply Kd.R_drewN | apply Kd.R_drew)); exact HO220.out) (by decide)) hk (fun _ h => h.2)) (fun _ h => h.1)); have n2_ := Aside0.mk (KeepBut.trans (by repeat (first | (with_reducible first | exact HK.out | apply KeepBut.set_ | apply keep_drewN | apply keep_drew | apply keep_alloc) | exact HK.out)) hk (.inl rfl)); have n3_ := Aside0.mk (hb); have n4_ := Aside0.mk (hi); clear HO_3; clear HO220; clear HK; clear HB; clear HI0; have HO_3 := n0_; have HO220 := n1_; have HK := n2_; have HB := n3_; have HI0 := n4_; clear n0_ n1_ n2_ n3_ n4_; (try clear hb); (try clear hb2); (try clear hk); (try clear hi); have p16 : 0 ≤ (x6_1 : Int) := of_decide_eq_true (by first | (with_reducible assumption) | assumption); have q16 : (x6_1 : Int) < ((y218.length : Int) : Int) := of_decide_eq_true (by first | (with_reducible assumption) | assumption); obtain ⟨go16, co16, eo16, gb16, gl16, cl16, HG16⟩ := Kd.R_form HO220.out (by omega); (first | cases eo16 | (injection eo16 with ea_ en_ ec_; (first | subst ea_ | (injection ea_ with ea_; subst ea_)); subst ec_; clear en_)); have GB16 := Aside0.mk gb16; have GG16 := Aside0.mk HG16; clear gb16 gl16 HG16; obtain ⟨hx16_0, hf16_0⟩ := Kd.R_celln 0 HO220.out (x6_1 : Int) p16 q16; replace p16 := eq_true p16; replace q16 := eq_true q16; obtain ⟨hy20_, hz20_⟩ := Kd.R_celln 0 HO220.out (x6_1 : Int) (of_decide_eq_true (by first | (with_reducible assumption) | assumption)) (of_decide_eq_true (by first | (with_reducible assumption) | assumption)); have HP20 := Kd.R_putg HO220.out (x6_1 : Int) (IntKind.i8.wrap (wrap64 (-t222)))) | ((with_reducible refine gate_store (t := 45) (p := 48) rfl ?_); refine store_event (t := 45) (p := 48) (v := ?vo_w21) (w1 := (w19.setCell ⟨go16, (x6_1 : Int).toNat, none⟩ (.int .i8 (IntKind.i8.wrap (wrap64 (-t222)))))) ?hg ?ho ?hn ?hr ?_; (case ho => rfl); (case hg => rfl); (case hn => rfl); (case hr => first | (go_simp; done) | (go_simp; rfl)); intro w21 hw; have hg : w19.grownBy w21 (some go16) := (by rw [hw]; exact HP20.2); have hp_ : Kd.R (Kd.int .i8) 45 w21 w.heap.size (fun k_ => some k_ ≠ (.slice (some ad217) x3_1.length co17 : Value).ownBlock) (.slice (some ⟨go16, 0, none⟩) y218.length co16) y225 := (by rw [hw, Ny225.out]; exact HP20.1); clear HP20; have n0_ := Aside0.mk (Kd.R_after (v := (.slice (some ⟨go16, 0, none⟩) y218.length co16)) (v1 := (.slice (some ⟨go16, 0, none⟩) y218.length co16)) (ok := (fun _ => True)) (by (with_reducible repeat (first | apply Kd.R_alloc | apply Kd.R_drewN | apply Kd.R_drew)); exact HO_3.out) hg (.inl rfl)); have n1_ := Aside0.mk (IsS89.grown (by repeat (first | (with_reducible first | exact HI0.out | apply IsS89.alloc | apply IsS89.drewN | apply IsS89.drew | apply IsS89.set_1 | apply IsS89.set_2) | exact HI0.out)) hg (IsS89.own_ne HI0.out HO220.out (by decide))); have n2_ := Aside0.mk (hp_); have n3_ := Aside0.mk ((by rw [hw]; exact below_set (HB.out) (Nat.le_trans HL.out GB16.out) : Below w0.heap.size w0 w21)); have n4_ := Aside0.mk (KeepBut.trans (by repeat (first | (with_reducible first | exact HK.out | apply KeepBut.set_ | apply keep_drewN | apply keep_drew | apply keep_alloc) | exact HK.out)) (KeepBut.of_grown hg g) (Kd.R_base2 HO220.out)); clear HO_3; clear HI0; clear HO220; clear HB; clear HK; have HO_3 := n0_; have HI0 := n1_; have HO220 := n2_; have HB := n3_; have HK := n4_; clear n0_ n1_ n2_ n3_ n4_; clear hg hw hp_))
          go_roundg k1
          case measure => have := HK1.out; omega
          case rel => exact ⟨(x3_1), (y225), (x5_1), (wrap64 (x6_1 + 1)), (t223), (t224), (by first | rfl | (simp; done) | (simp [*]; done)), (by first | rfl | (simp; done) | (simp [*]; done)), H', ⟨by have := HK1.out; omega⟩, ⟨by (with_reducible repeat (first | apply Kd.R_alloc | apply Kd.R_drewN | apply Kd.R_drew)); exact Kd.R_mono HO_3.out (fun _ hk => hk.2)⟩, ⟨by (with_reducible repeat (first | apply Kd.R_alloc | apply Kd.R_drewN | apply Kd.R_drew)); exact HO220.out⟩, ⟨by repeat (first | (with_reducible first | exact HI0.out | apply IsS89.alloc | apply IsS89.drewN | apply IsS89.drew | apply IsS89.set_1 | apply IsS89.set_2) | exact HI0.out)⟩, ⟨by repeat (first | (with_reducible first | exact HK.out | apply KeepBut.set_ | apply keep_drewN | apply keep_drew | apply keep_alloc) | exact HK.out)⟩, ⟨by repeat (first | (with_reducible first | exact HB.out | apply below_alloc | apply pw_below_drewN | apply below_drew1 | refine below_set ?_ (IsS89.ge HI0.out)) | exact HB.out)⟩⟩
         ·rw [if_neg c15] at H
          exact absurd H (by simp)
        ·rw [if_neg c14] at H
         have c14b0 : decide ((wrap64 ((wrap64 (x5_1 + t222)) - 1)) < x6_1) = false := decide_eq_false c14
         clear c14
         have H' := Aside0.mk H
         clear H
         obtain ⟨Ao22, co22, eo22⟩ := Kd.R_slice HO_3.out
         subst eo22
         have p217 : 0 ≤ (x6_1 : Int) := of_decide_eq_true (by first | (with_reducible assumption) | assumption)
         have q217 : x6_1 < (x3_1.length : Int) := of_decide_eq_true (by first | (with_reducible assumption) | assumption)
         obtain ⟨ad217, e217, hx217_0⟩ := Kd.at_int (Kd.R_reads' HO_3.out).2.2 x6_1 p217 q217
         cases e217
         replace p217 := eq_true p217
         replace q217 := eq_true q217
         go_wp2_with (first | ((with_reducible refine gate_builtin (b := .append) (xs := #[.tmp 17, .tmp 22]) rfl ?_); at_builtin; refine Kd.R_append (Kd.int .i8) w.heap.size rfl (.tmp 17) (.tmp 22) 31 45 (.int .i8 0) 1 rfl Tryz.underlying31 info45 rfl (by decide) (by omega) u4 x4_1 (rd x3_1 x6_1) [.int .i8 (rd x3_1 x6_1)] (fun k_ => some k_ ≠ (.slice (some ad217) x3_1.length co22 : Value).ownBlock) (fun _ => False) rfl rfl ?aP (fun _ hk => hk.elim) ?aF ?aO (Below.refl _ _) ?aS ?aL ?_; (case aP => exact rfl); (case aF => exact (fun k_ hk => Kd.fresh' (Kd.R_lt (by (with_reducible repeat (first | apply Kd.R_alloc | apply Kd.R_drewN | apply Kd.R_drew)); exact HO_3.out)) k_ hk)); (case aO => exact (by (with_reducible repeat (first | apply Kd.R_alloc | apply Kd.R_drewN | apply Kd.R_drew)); exact HO_4.out)); (case aS => exact (keep_size (w := w) (g := g) (row := none) (by repeat (first | (with_reducible first | exact HK.out | apply KeepBut.set_ | apply keep_drewN | apply keep_drew | apply keep_alloc) | exact HK.out)))); (case aL => have := LMc8.out; omega); intro v219 w23 ho hb hg hat; rw [← Ny218.out] at ho; have n0_ := Aside0.mk (Kd.R_after (ok := (fun _ => True)) (by (with_reducible repeat (first | apply Kd.R_alloc | apply Kd.R_drewN | apply Kd.R_drew)); exact Kd.R_mono HO_3.out (fun _ hk => ⟨trivial, hk⟩)) hg hat); have n1_ := Aside0.mk (IsS89.grown (by repeat (first | (with_reducible first | exact HI0.out | apply IsS89.alloc | apply IsS89.drewN | apply IsS89.drew | apply IsS89.set_1 | apply IsS89.set_2) | exact HI0.out)) hg (IsS89.own_ne HI0.out HO_4.out (by decide))); have n2_ := Aside0.mk (below_weaken (by repeat (first | (with_reducible first | exact HB.out | apply below_alloc | apply pw_below_drewN | apply below_drew1 | refine below_set ?_ (IsS89.ge HI0.out)) | exact HB.out)) HL.out hb); have n3_ := Aside0.mk (KeepBut.trans (by repeat (first | (with_reducible first | exact HK.out | apply KeepBut.set_ | apply keep_drewN | apply keep_drew | apply keep_alloc) | exact HK.out)) (KeepBut.of_grown hg g) (Kd.R_base2 HO_4.out)); have n4_ := Aside0.mk (ho); clear HO_3; clear HI0; clear HB; clear HK; clear HO_4; have HO_3 := n0_; have HI0 := n1_; have HB := n2_; have HK := n3_; have HO220 := n4_; clear n0_ n1_ n2_ n3_ n4_; clear ho hb hg hat; have p221 : 0 ≤ (x6_1 : Int) := of_decide_eq_true (by first | (with_reducible assumption) | assumption); have q221 : x6_1 < (x3_1.length : Int) := of_decide_eq_true (by first | (with_reducible assumption) | assumption); obtain ⟨ad221, e221, hx221_0⟩ := Kd.at_int (Kd.R_reads' HO_3.out).2.2 x6_1 p221 q221; obtain rfl : ad217 = ad221 := (by injection e221); replace p221 := eq_true p221; replace q221 := eq_true q221) | ((with_reducible refine gate_callee (f := 48) rfl ?_); refine goesL_ (some 32) rfl rfl Tryz.func48 (by kernel_rfl) rfl #[.pointer (some ⟨g, 0, none⟩), .int .i64 5] rfl (by (try simp only [List.map_toArray, List.map_cons, List.map_nil]); first | done | rfl | (simp only [List.length_drop, List.length_take]; rfl)) ?_; (with_reducible refine (spec_l00Src_pick.calls g s0_0 x1001_1 x1002_1 5 t222 t223 t224 w0 _ ?side1 ?side2 A12.out).mono ?_); (case side1 => repeat (first | (with_reducible first | exact HI0.out | apply IsS89.alloc | apply IsS89.drewN | apply IsS89.drew | apply IsS89.set_1 | apply IsS89.set_2) | exact HI0.out)); (case side2 => repeat (first | (with_reducible first | exact HB.out | apply below_alloc | apply pw_below_drewN | apply below_drew1 | refine below_set ?_ (IsS89.ge HI0.out)) | exact HB.out)); rintro e w24 ⟨rfl, hi, hb, hk⟩; refine ⟨_, rfl, ?_⟩; have n0_ := Aside0.mk (Kd.R_mono (Kd.R_keep (IsS89.apart (show IsS89 w0 _ g s0_0 x1001_1 x1002_1 from by repeat (first | (with_reducible first | exact HI0.out | apply IsS89.alloc | apply IsS89.drewN | apply IsS89.drew | apply IsS89.set_1 | apply IsS89.set_2) | exact HI0.out)) (by (with_reducible repeat (first | apply Kd.R_alloc | apply Kd.R_drewN | apply Kd.R_drew)); exact HO_3.out) (by decide)) hk (fun _ h => h.2)) (fun _ h => h.1)); have n1_ := Aside0.mk (Kd.R_mono (Kd.R_keep (IsS89.apart (show IsS89 w0 _ g s0_0 x1001_1 x1002_1 from by repeat (first | (with_reducible first | exact HI0.out | apply IsS89.alloc | apply IsS89.drewN | apply IsS89.drew | apply IsS89.set_1 | apply IsS89.set_2) | exact HI0.out)) (by (with_reducible repeat (first | apply Kd.R_alloc | apply Kd.R_drewN | apply Kd.R_drew)); exact HO220.out) (by decide)) hk (fun _ h => h.2)) (fun _ h => h.1)); have n2_ := Aside0.mk (KeepBut.trans (by repeat (first | (with_reducible first | exact HK.out | apply KeepBut.set_ | apply keep_drewN | apply keep_drew | apply keep_alloc) | exact HK.out)) hk (.inl rfl)); have n3_ := Aside0.mk (hb); have n4_ := Aside0.mk (hi); clear HO_3; clear HO220; clear HK; clear HB; clear HI0; have HO_3 := n0_; have HO220 := n1_; have HK := n2_; have HB := n3_; have HI0 := n4_; clear n0_ n1_ n2_ n3_ n4_; (try clear hb); (try clear hb2); (try clear hk); (try clear hi)))
         go_roundg k1
         case measure => have := HK1.out; omega
         case rel => exact ⟨(x3_1), (y218), (x5_1), (wrap64 (x6_1 + 1)), (t223), (t224), (by first | rfl | (simp; done) | (simp [*]; done)), (by first | rfl | (simp; done) | (simp [*]; done)), H', ⟨by have := HK1.out; omega⟩, ⟨by (with_reducible repeat (first | apply Kd.R_alloc | apply Kd.R_drewN | apply Kd.R_drew)); exact Kd.R_mono HO_3.out (fun _ hk => hk.2)⟩, ⟨by (with_reducible repeat (first | apply Kd.R_alloc | apply Kd.R_drewN | apply Kd.R_drew)); exact HO220.out⟩, ⟨by repeat (first | (with_reducible first | exact HI0.out | apply IsS89.alloc | apply IsS89.drewN | apply IsS89.drew | apply IsS89.set_1 | apply IsS89.set_2) | exact HI0.out)⟩, ⟨by repeat (first | (with_reducible first | exact HK.out | apply KeepBut.set_ | apply keep_drewN | apply keep_drew | apply keep_alloc) | exact HK.out)⟩, ⟨by repeat (first | (with_reducible first | exact HB.out | apply below_alloc | apply pw_below_drewN | apply below_drew1 | refine below_set ?_ (IsS89.ge HI0.out)) | exact HB.out)⟩⟩
       ·rw [if_neg c13] at H
        have c13b0 : decide (0 < t222) = false := decide_eq_false c13
        clear c13
        have H' := Aside0.mk H
        clear H
        obtain ⟨Ao25, co25, eo25⟩ := Kd.R_slice HO_3.out
        subst eo25
        have p217 : 0 ≤ (x6_1 : Int) := of_decide_eq_true (by first | (with_reducible assumption) | assumption)
        have q217 : x6_1 < (x3_1.length : Int) := of_decide_eq_true (by first | (with_reducible assumption) | assumption)
        obtain ⟨ad217, e217, hx217_0⟩ := Kd.at_int (Kd.R_reads' HO_3.out).2.2 x6_1 p217 q217
        cases e217
        replace p217 := eq_true p217
        replace q217 := eq_true q217
        go_wp2_with (first | ((with_reducible refine gate_builtin (b := .append) (xs := #[.tmp 17, .tmp 22]) rfl ?_); at_builtin; refine Kd.R_append (Kd.int .i8) w.heap.size rfl (.tmp 17) (.tmp 22) 31 45 (.int .i8 0) 1 rfl Tryz.underlying31 info45 rfl (by decide) (by omega) u4 x4_1 (rd x3_1 x6_1) [.int .i8 (rd x3_1 x6_1)] (fun k_ => some k_ ≠ (.slice (some ad217) x3_1.length co25 : Value).ownBlock) (fun _ => False) rfl rfl ?aP (fun _ hk => hk.elim) ?aF ?aO (Below.refl _ _) ?aS ?aL ?_; (case aP => exact rfl); (case aF => exact (fun k_ hk => Kd.fresh' (Kd.R_lt (by (with_reducible repeat (first | apply Kd.R_alloc | apply Kd.R_drewN | apply Kd.R_drew)); exact HO_3.out)) k_ hk)); (case aO => exact (by (with_reducible repeat (first | apply Kd.R_alloc | apply Kd.R_drewN | apply Kd.R_drew)); exact HO_4.out)); (case aS => exact (keep_size (w := w) (g := g) (row := none) (by repeat (first | (with_reducible first | exact HK.out | apply KeepBut.set_ | apply keep_drewN | apply keep_drew | apply keep_alloc) | exact HK.out)))); (case aL => have := LMc8.out; omega); intro v219 w26 ho hb hg hat; rw [← Ny218.out] at ho; have n0_ := Aside0.mk (Kd.R_after (ok := (fun _ => True)) (by (with_reducible repeat (first | apply Kd.R_alloc | apply Kd.R_drewN | apply Kd.R_drew)); exact Kd.R_mono HO_3.out (fun _ hk => ⟨trivial, hk⟩)) hg hat); have n1_ := Aside0.mk (IsS89.grown (by repeat (first | (with_reducible first | exact HI0.out | apply IsS89.alloc | apply IsS89.drewN | apply IsS89.drew | apply IsS89.set_1 | apply IsS89.set_2) | exact HI0.out)) hg (IsS89.own_ne HI0.out HO_4.out (by decide))); have n2_ := Aside0.mk (below_weaken (by repeat (first | (with_reducible first | exact HB.out | apply below_alloc | apply pw_below_drewN | apply below_drew1 | refine below_set ?_ (IsS89.ge HI0.out)) | exact HB.out)) HL.out hb); have n3_ := Aside0.mk (KeepBut.trans (by repeat (first | (with_reducible first | exact HK.out | apply KeepBut.set_ | apply keep_drewN | apply keep_drew | apply keep_alloc) | exact HK.out)) (KeepBut.of_grown hg g) (Kd.R_base2 HO_4.out)); have n4_ := Aside0.mk (ho); clear HO_3; clear HI0; clear HB; clear HK; clear HO_4; have HO_3 := n0_; have HI0 := n1_; have HB := n2_; have HK := n3_; have HO220 := n4_; clear n0_ n1_ n2_ n3_ n4_; clear ho hb hg hat; have p221 : 0 ≤ (x6_1 : Int) := of_decide_eq_true (by first | (with_reducible assumption) | assumption); have q221 : x6_1 < (x3_1.length : Int) := of_decide_eq_true (by first | (with_reducible assumption) | assumption); obtain ⟨ad221, e221, hx221_0⟩ := Kd.at_int (Kd.R_reads' HO_3.out).2.2 x6_1 p221 q221; obtain rfl : ad217 = ad221 := (by injection e221); replace p221 := eq_true p221; replace q221 := eq_true q221) | ((with_reducible refine gate_callee (f := 48) rfl ?_); refine goesL_ (some 32) rfl rfl Tryz.func48 (by kernel_rfl) rfl #[.pointer (some ⟨g, 0, none⟩), .int .i64 5] rfl (by (try simp only [List.map_toArray, List.map_cons, List.map_nil]); first | done | rfl | (simp only [List.length_drop, List.length_take]; rfl)) ?_; (with_reducible refine (spec_l00Src_pick.calls g s0_0 x1001_1 x1002_1 5 t222 t223 t224 w0 _ ?side1 ?side2 A12.out).mono ?_); (case side1 => repeat (first | (with_reducible first | exact HI0.out | apply IsS89.alloc | apply IsS89.drewN | apply IsS89.drew | apply IsS89.set_1 | apply IsS89.set_2) | exact HI0.out)); (case side2 => repeat (first | (with_reducible first | exact HB.out | apply below_alloc | apply pw_below_drewN | apply below_drew1 | refine below_set ?_ (IsS89.ge HI0.out)) | exact HB.out)); rintro e w27 ⟨rfl, hi, hb, hk⟩; refine ⟨_, rfl, ?_⟩; have n0_ := Aside0.mk (Kd.R_mono (Kd.R_keep (IsS89.apart (show IsS89 w0 _ g s0_0 x1001_1 x1002_1 from by repeat (first | (with_reducible first | exact HI0.out | apply IsS89.alloc | apply IsS89.drewN | apply IsS89.drew | apply IsS89.set_1 | apply IsS89.set_2) | exact HI0.out)) (by (with_reducible repeat (first | apply Kd.R_alloc | apply Kd.R_drewN | apply Kd.R_drew)); exact HO_3.out) (by decide)) hk (fun _ h => h.2)) (fun _ h => h.1)); have n1_ := Aside0.mk (Kd.R_mono (Kd.R_keep (IsS89.apart (show IsS89 w0 _ g s0_0 x1001_1 x1002_1 from by repeat (first | (with_reducible first | exact HI0.out | apply IsS89.alloc | apply IsS89.drewN | apply IsS89.drew | apply IsS89.set_1 | apply IsS89.set_2) | exact HI0.out)) (by (with_reducible repeat (first | apply Kd.R_alloc | apply Kd.R_drewN | apply Kd.R_drew)); exact HO220.out) (by decide)) hk (fun _ h => h.2)) (fun _ h => h.1)); have n2_ := Aside0.mk (KeepBut.trans (by repeat (first | (with_reducible first | exact HK.out | apply KeepBut.set_ | apply keep_drewN | apply keep_drew | apply keep_alloc) | exact HK.out)) hk (.inl rfl)); have n3_ := Aside0.mk (hb); have n4_ := Aside0.mk (hi); clear HO_3; clear HO220; clear HK; clear HB; clear HI0; have HO_3 := n0_; have HO220 := n1_; have HK := n2_; have HB := n3_; have HI0 := n4_; clear n0_ n1_ n2_ n3_ n4_; (try clear hb); (try clear hb2); (try clear hk); (try clear hi)))
        go_roundg k1
        case measure => have := HK1.out; omega
        case rel => exact ⟨(x3_1), (y218), (x5_1), (wrap64 (x6_1 + 1)), (t223), (t224), (by first | rfl | (simp; done) | (simp [*]; done)), (by first | rfl | (simp; done) | (simp [*]; done)), H', ⟨by have := HK1.out; omega⟩, ⟨by (with_reducible repeat (first | apply Kd.R_alloc | apply Kd.R_drewN | apply Kd.R_drew)); exact Kd.R_mono HO_3.out (fun _ hk => hk.2)⟩, ⟨by (with_reducible repeat (first | apply Kd.R_alloc | apply Kd.R_drewN | apply Kd.R_drew)); exact HO220.out⟩, ⟨by repeat (first | (with_reducible first | exact HI0.out | apply IsS89.alloc | apply IsS89.drewN | apply IsS89.drew | apply IsS89.set_1 | apply IsS89.set_2) | exact HI0.out)⟩, ⟨by repeat (first | (with_reducible first | exact HK.out | apply KeepBut.set_ | apply keep_drewN | apply keep_drew | apply keep_alloc) | exact HK.out)⟩, ⟨by repeat (first | (with_reducible first | exact HB.out | apply below_alloc | apply pw_below_drewN | apply below_drew1 | refine below_set ?_ (IsS89.ge HI0.out)) | exact HB.out)⟩⟩
     ·rw [if_neg c8] at H
      exact absurd H (by simp)
    ·rw [if_neg c7] at H
     exact absurd H (by simp)
   ·rw [if_neg c6] at H
    have c6b0 : decide (x6_1 < (x3_1.length : Int)) = false := decide_eq_false c6
    clear c6
    simp only [Option.some.injEq, Prod.mk.injEq] at H
    obtain ⟨rfl, rfl, rfl⟩ := H
    obtain ⟨Ao28, co28, eo28⟩ := Kd.R_slice HO_3.out
    subst eo28
    go_wp2
    go_ret
    exact ⟨_, by first | rfl | (simp [errW_none, errW_some] <;> rfl) | (simp [*, errW_none, errW_some] <;> rfl), by (with_reducible repeat (first | apply Kd.R_alloc | apply Kd.R_drewN | apply Kd.R_drew)); exact Kd.R_mono HO_4.out (fun _ hk => trivial), by repeat (first | (with_reducible first | exact HI0.out | apply IsS89.alloc | apply IsS89.drewN | apply IsS89.drew | apply IsS89.set_1 | apply IsS89.set_2) | exact HI0.out), by repeat (first | (with_reducible first | exact HB.out | apply below_alloc | apply pw_below_drewN | apply below_drew1 | refine below_set ?_ (IsS89.ge HI0.out)) | exact HB.out), by repeat (first | (with_reducible first | exact HK.out | apply KeepBut.set_ | apply keep_drewN | apply keep_drew | apply keep_alloc) | exact HK.out)⟩
def spec_A2Hoist.f (k : Nat) (l0 : List Int) : Option (List Int) := (spec_l00From.f l0).bind fun bt226 => ((spec_l02Drawn.f k bt226.1 bt226.2.1 bt226.2.2).bind fun bt230 => (some bt230.1))
set_option maxHeartbeats 8000000 in
set_option maxRecDepth 100000 in
theorem spec_A2Hoist.calls (k : Nat) (A0 : Option Addr) (c0 : Nat) (l0 : List Int) (r : List Int) (w : World) (hr0 : Kd.C (Kd.int .u8) w A0 l0.length l0) (hc0 : l0.length ≤ c0) (h : spec_A2Hoist.f k l0 = some r) :
  Calls Tryz.prog 6 #[.slice A0 l0.length c0] w fun e w' => ∃ v0_ : Value, e = .returned (v0_) ∧ Kd.R (Kd.int .i8) 45 w' w.heap.size (fun _ => True) v0_ r ∧ Below w.heap.size w w' := by
 have HR0 := Aside0.mk hr0
 have HC0 := Aside0.mk hc0
 clear hr0 hc0
 have HB := Aside0.mk (Below.refl w.heap.size w)
 have H : ((spec_l00From.f l0).bind fun bt226 => ((spec_l02Drawn.f k bt226.1 bt226.2.1 bt226.2.2).bind fun bt230 => (some bt230.1))) = some r := h
 clear h
 replace H := Option.bind_eq_some_iff.mp H
 obtain ⟨⟨t226, t227, t228⟩, A20, H⟩ := H
 replace H : ((spec_l02Drawn.f k t226 t227 t228).bind fun bt230 => (some bt230.1)) = some r := H
 have A2 := Aside0.mk A20
 clear A20
 replace H := Option.bind_eq_some_iff.mp H
 obtain ⟨⟨t230, t233, t234⟩, A30, H⟩ := H
 replace H : (some t230) = some r := H
 have A3 := Aside0.mk A30
 clear A30
 obtain rfl := Option.some.inj H
 go_enter Tryz.func6, Tryz.ntmps6
 go_wp2_with (first | ((with_reducible refine gate_callee (f := 21) rfl ?_); refine goesL_ (some 4) rfl rfl Tryz.func21 (by kernel_rfl) rfl #[.slice A0 l0.length c0] rfl (by (try simp only [List.map_toArray, List.map_cons, List.map_nil]); first | done | rfl | (simp only [List.length_drop, List.length_take]; rfl)) ?_; (with_reducible refine (spec_l00From.calls _ _ l0 t226 t227 t228 w _ ?side1 ?side2 ?side3 A2.out).mono ?_); (case side1 => repeat (first | (with_reducible first | exact HB.out | apply below_alloc | apply pw_below_drewN | apply below_drew1) | exact HB.out)); (case side2 => exact HR0.out); (case side3 => exact HC0.out); rintro e w4 ⟨g229, rfl, hi, hb, hb2⟩; refine ⟨_, rfl, ?_⟩; have n0_ := Aside0.mk (hb); have n1_ := Aside0.mk (hi); clear HB; have HB := n0_; have HI229 := n1_; clear n0_ n1_; (try clear hb); (try clear hb2); (try clear hk); (try clear hi)) | ((with_reducible refine gate_callee (f := 22) rfl ?_); refine goesL_ (some 5) rfl rfl Tryz.func22 (by kernel_rfl) rfl #[.pointer (some ⟨g229, 0, none⟩)] rfl (by (try simp only [List.map_toArray, List.map_cons, List.map_nil]); first | done | rfl | (simp only [List.length_drop, List.length_take]; rfl)) ?_; (with_reducible refine (spec_l02Drawn.calls k g229 t226 t227 t228 t230 t233 t234 w _ ?side1 ?side2 A3.out).mono ?_); (case side1 => repeat (first | (with_reducible first | exact HI229.out | apply IsS89.alloc | apply IsS89.drewN | apply IsS89.drew | apply IsS89.set_1 | apply IsS89.set_2) | exact HI229.out)); (case side2 => repeat (first | (with_reducible first | exact HB.out | apply below_alloc | apply pw_below_drewN | apply below_drew1 | refine below_set ?_ (IsS89.ge HI229.out)) | exact HB.out)); rintro e w5 ⟨v231, rfl, ho0, hi, hb, hk⟩; refine ⟨_, rfl, ?_⟩; have n0_ := Aside0.mk (Kd.R_lower ho0 (below_size (by repeat (first | (with_reducible first | exact HB.out | apply below_alloc | apply pw_below_drewN | apply below_drew1 | refine below_set ?_ (IsS89.ge HI229.out)) | exact HB.out)))); have n1_ := Aside0.mk (hb); have n2_ := Aside0.mk (hi); clear HB; clear HI229; have HO232 := n0_; have HB := n1_; have HI229 := n2_; clear n0_ n1_ n2_; (try clear hb); (try clear hb2); (try clear hk); (try clear hi); (try clear ho0)))
 go_ret
 exact ⟨_, by first | rfl | (simp [errW_none, errW_some] <;> rfl) | (simp [*, errW_none, errW_some] <;> rfl), by (with_reducible repeat (first | apply Kd.R_alloc | apply Kd.R_drewN | apply Kd.R_drew)); exact HO232.out, by repeat (first | (with_reducible first | exact HB.out | apply below_alloc | apply pw_below_drewN | apply below_drew1 | refine below_set ?_ (IsS89.ge HI229.out)) | exact HB.out)⟩
def laws_a2Long.f (l0 : List Int) (l1 : List Int) : Option (Bool) := if (l0.length : Int) > 3000 then (some true) else (some (decide ((l1.length : Int) > 3000)))
set_option maxHeartbeats 8000000 in
set_option maxRecDepth 100000 in
theorem laws_a2Long.calls (A0 : Option Addr) (c0 : Nat) (l0 : List Int) (A1 : Option Addr) (c1 : Nat) (l1 : List Int) (r : Bool) (w : World) (hr0 : Kd.C (Kd.int .u8) w A0 l0.length l0) (hc0 : l0.length ≤ c0) (hr1 : Kd.C (Kd.int .u8) w A1 l1.length l1) (hc1 : l1.length ≤ c1) (h : laws_a2Long.f l0 l1 = some r) :
  Calls Tryz.prog 4 #[.slice A0 l0.length c0, .slice A1 l1.length c1] w fun e w' => e = .returned (.bool r) ∧ Drawn0 w w' := by
 have HR0 := Aside0.mk hr0
 have HC0 := Aside0.mk hc0
 clear hr0 hc0
 have HR1 := Aside0.mk hr1
 have HC1 := Aside0.mk hc1
 clear hr1 hc1
 have H : (if (l0.length : Int) > 3000 then (some true) else (some (decide ((l1.length : Int) > 3000)))) = some r := h
 clear h
 by_cases c3 : (l0.length : Int) > 3000
 ·rw [if_pos c3] at H
  have c3b0 : decide (3000 < (l0.length : Int)) = true := decide_eq_true c3
  have c3b1 : decide (3000 < l0.length) = true := decide_eq_true (by omega)
  clear c3
  obtain rfl := Option.some.inj H
  go_enter Tryz.func4, Tryz.ntmps4
  go_wp2
  go_ret
  exact ⟨by first | rfl | (simp; done) | (simp [*]; done), by repeat (first | exact Drawn0.refl _ | apply Drawn0.step)⟩
 ·rw [if_neg c3] at H
  have c3b0 : decide (3000 < (l0.length : Int)) = false := decide_eq_false c3
  have c3b1 : decide (3000 < l0.length) = false := decide_eq_false (by omega)
  clear c3
  obtain rfl := Option.some.inj H
  go_enter Tryz.func4, Tryz.ntmps4
  go_wp2
  go_ret
  exact ⟨by first | rfl | (simp; done) | (simp [*]; done), by repeat (first | exact Drawn0.refl _ | apply Drawn0.step)⟩
end Go.Proofs.YthaoopbfggnceaaGreatDoor.L
namespace Go.Proofs.YthaoopbfggnceaaGreatDoor.Arr
open Go.RowKit Go.Proofs.YthaoopbfggnceaaGreatDoorW.PrintWords Go.Proofs.YthaoopbfggnceaaGreatDoorW.PrintLast Go.Proofs.YthaoopbfggnceaaGreatDoorW.PrintMore Go.Proofs.YthaoopbfggnceaaGreatDoor.U Go.Proofs.YthaoopbfggnceaaGreatDoor.L
set_option linter.unusedVariables false
set_option linter.unusedSimpArgs false
def Byt (c : List Int) : Prop := c.length ≤ 1000000 ∧ ∀ x ∈ c, 0 ≤ x ∧ x < 256
theorem and255 (y : Int) : 0 ≤ wrap64 (Go.bits .and .u64 (IntKind.u64.wrap y / 1099511627776) 255) ∧ wrap64 (Go.bits .and .u64 (IntKind.u64.wrap y / 1099511627776) 255) < 256 := by
 have h : 0 ≤ IntKind.u64.wrap y ∧ IntKind.u64.wrap y < 18446744073709551616 := by
  unfold IntKind.wrap; simp [IntKind.signed, IntKind.bits]; omega
 generalize IntKind.u64.wrap y = z at *
 rw [Go.u64_and (z / 1099511627776) 255 (by omega) (by omega) (by omega) (by omega)]
 have h2 : (z / 1099511627776).toNat &&& (255 : Int).toNat ≤ 255 := Nat.and_le_right
 generalize (z / 1099511627776).toNat &&& (255 : Int).toNat = q at *
 unfold wrap64
 omega
theorem next_some {c : List Int} (hc : Byt c) (p sd : Int) (h0 : 0 ≤ p) (h1 : p ≤ 1000000000) : ∃ x sd', spec_l00Src_next.f c p sd = some (x, p + 1, sd') ∧ 0 ≤ x ∧ x < 256 := by
 have hw : wrap64 (p + 1) = p + 1 := by unfold wrap64; omega
 have hl := hc.1
 unfold spec_l00Src_next.f
 rw [hw]
 by_cases h : p < (c.length : Int)
 ·have hx : 0 ≤ rd c p ∧ rd c p < 256 := by
   obtain ⟨n, rfl⟩ := Int.eq_ofNat_of_zero_le h0
   rw [rd_get c n (by omega)]
   exact hc.2 _ (List.getElem_mem _)
  rw [if_pos h, if_pos h0, if_pos (by omega)]
  refine ⟨_, _, rfl, ?_⟩
  unfold wrap64
  omega
 ·rw [if_neg h, if_neg (by omega)]
  exact ⟨_, _, rfl, and255 _⟩
theorem tmod_in (x n : Int) (h0 : 0 ≤ x) (hn : 0 < n) : 0 ≤ Int.tmod x n ∧ Int.tmod x n < n := by
 rw [Int.tmod_eq_emod_of_nonneg h0]
 exact ⟨Int.emod_nonneg _ (by omega), Int.emod_lt_of_pos _ hn⟩
theorem pick_some {c : List Int} (hc : Byt c) (p sd n : Int) (h0 : 0 ≤ p) (h1 : p ≤ 1000000000) (hn : 2 ≤ n) (hn2 : n ≤ 200) : ∃ x sd', spec_l00Src_pick.f c p sd n = some (x, p + 1, sd') ∧ 0 ≤ x ∧ x < n := by
 obtain ⟨x, s, e, hx0, hx1⟩ := next_some hc p sd h0 h1
 unfold spec_l00Src_pick.f
 rw [if_neg (by omega), e, Option.bind_some, if_neg (by omega), if_neg (by omega)]
 exact ⟨_, _, rfl, tmod_in x n hx0 (by omega)⟩
theorem among_some {c : List Int} (hc : Byt c) (p sd : Int) (l : List Int) (h0 : 0 ≤ p) (h1 : p ≤ 1000000000) (hn : 2 ≤ l.length) (hn2 : l.length ≤ 200) : ∃ x sd', spec_l00Src_among.f c p sd l = some (x, p + 1, sd') ∧ x ∈ l := by
 obtain ⟨x, s, e, hx0, hx1⟩ := pick_some hc p sd (l.length : Int) h0 h1 (by omega) (by omega)
 unfold spec_l00Src_among.f
 rw [e, Option.bind_some, if_pos hx0, if_pos hx1]
 refine ⟨_, _, rfl, ?_⟩
 obtain ⟨n, rfl⟩ := Int.eq_ofNat_of_zero_le hx0
 rw [rd_get l n (by omega)]
 exact List.getElem_mem _
theorem one_some {c : List Int} (hc : Byt c) (p sd n : Int) (h0 : 0 ≤ p) (h1 : p ≤ 1000000000) (hn : 2 ≤ n) (hn2 : n ≤ 200) : ∃ b sd', spec_l00Src_one.f c p sd n = some (b, p + 1, sd') := by
 obtain ⟨x, s, e, hx0, hx1⟩ := pick_some hc p sd n h0 h1 hn hn2
 unfold spec_l00Src_one.f
 rw [e, Option.bind_some]
 exact ⟨_, _, rfl⟩
def Alt (m : List Int) : Prop := ∀ i : Nat, i < m.length → rd m (i : Int) = -10 → 0 < i ∧ rd m ((i : Int) - 1) ≠ -10
theorem runAlt {m : List Int} (hp : ∀ x ∈ m, PlainN x) (ha : Alt m) : ∀ i, i ≤ m.length → ∃ s, runH m i = some (m.take i, s) ∧ s ≤ i ∧ (s = i → i = 0 ∨ rd m ((i : Int) - 1) = -10)
 | 0, _ => ⟨0, by simp [runH], Nat.le_refl _, fun _ => .inl rfl⟩
 | i + 1, hi => by
  obtain ⟨s, hs, hle, hs2⟩ := runAlt hp ha i (by omega)
  have hx := hp (rd m (i : Int)) (by rw [rd_get m i (by omega)]; exact List.getElem_mem _)
  have hl : (m.take i).length = i := by rw [List.length_take]; omega
  rw [runH, hs, Option.bind_some, take_step m i (by omega)]
  unfold stepH
  dsimp only
  by_cases h10 : rd m (i : Int) = -10
  ·obtain ⟨h1, h2⟩ := ha i (by omega) h10
   rw [if_pos h10, hl, if_neg (fun e => by rcases hs2 e with h | h; omega; exact h2 h)]
   exact ⟨i + 1, rfl, Nat.le_refl _, fun _ => .inr (by rw [show ((i + 1 : Nat) : Int) - 1 = (i : Int) by omega]; exact h10)⟩
  ·rw [if_neg h10, if_pos (by rcases hx with hx | hx; exact absurd hx h10; exact hx)]
   exact ⟨s, rfl, by omega, fun e => by omega⟩
theorem plainM_alt {m : List Int} (hp : ∀ x ∈ m, PlainN x) (ha : Alt m) (h1 : 1 ≤ m.length) (h8 : m.length ≤ 8) (hl : rd m ((m.length : Int) - 1) ≠ -10) : plainM m = true := by
 obtain ⟨s, hs, hle, hs2⟩ := runAlt hp ha m.length (Nat.le_refl _)
 rw [List.take_length] at hs
 unfold plainM okH readH
 rw [if_pos ⟨h1, h8⟩, hs]
 dsimp only
 rw [if_pos (by
  rcases Nat.lt_or_ge s m.length with h | h
  ·exact h
  ·rcases hs2 (by omega) with h | h
   ·omega
   ·exact absurd h hl)]
 rw [Option.isSome_some, Bool.true_and, Bool.not_eq_true', List.any_eq_false]
 intro x hx
 unfold oddM
 rcases hp x hx with h | h
 ·simp [h]
 ·simp; omega
theorem alt_take {m : List Int} (ha : Alt m) (k : Nat) (hk : k ≤ m.length) : Alt (m.take k) := by
 intro i hi h
 rw [List.length_take] at hi
 rw [rd_takeH m k i (by omega) hk] at h
 obtain ⟨h1, h2⟩ := ha i (by omega) h
 refine ⟨h1, ?_⟩
 rw [show (i : Int) - 1 = ((i - 1 : Nat) : Int) by omega] at h2 ⊢
 rw [rd_takeH m k (i - 1) (by omega) hk]
 exact h2
theorem alt_snoc {m : List Int} (ha : Alt m) (x : Int) (hx : x = -10 → 1 ≤ m.length ∧ rd m ((m.length : Int) - 1) ≠ -10) : Alt (m ++ [x]) := by
 intro i hi h
 rw [List.length_append, List.length_singleton] at hi
 rcases Nat.lt_or_ge i m.length with h1 | h1
 ·rw [rd_app_left m [x] i h1] at h
  obtain ⟨h2, h3⟩ := ha i h1 h
  refine ⟨h2, ?_⟩
  rw [show (i : Int) - 1 = ((i - 1 : Nat) : Int) by omega] at h3 ⊢
  rw [rd_app_left m [x] (i - 1) (by omega)]
  exact h3
 ·obtain rfl : i = m.length := by omega
  rw [rd_app_end] at h
  obtain ⟨h2, h3⟩ := hx h
  refine ⟨h2, ?_⟩
  rw [show (m.length : Int) - 1 = ((m.length - 1 : Nat) : Int) by omega] at h3 ⊢
  rw [rd_app_left m [x] _ (by omega)]
  exact h3
theorem cut_plain {m : List Int} (hp : ∀ x ∈ m, PlainN x) (ha : Alt m) (h1 : 1 ≤ m.length) (h8 : m.length ≤ 8) : plainM (if rd m ((m.length : Int) - 1) = -10 then m.take (m.length - 1) else m) = true := by
 by_cases h : rd m ((m.length : Int) - 1) = -10
 ·rw [if_pos h]
  obtain ⟨h2, h3⟩ := ha (m.length - 1) (by omega) (by rw [show ((m.length - 1 : Nat) : Int) = (m.length : Int) - 1 by omega]; exact h)
  refine plainM_alt (fun x hx => hp x (List.mem_of_mem_take hx)) (alt_take ha _ (by omega)) (by rw [List.length_take]; omega) (by rw [List.length_take]; omega) ?_
  rw [List.length_take, Nat.min_eq_left (by omega), show ((m.length - 1 : Nat) : Int) - 1 = ((m.length - 2 : Nat) : Int) by omega, rd_takeH m _ _ (by omega) (by omega)]
  rw [show ((m.length - 1 : Nat) : Int) - 1 = ((m.length - 2 : Nat) : Int) by omega] at h3
  exact h3
 ·rw [if_neg h]
  exact plainM_alt hp ha h1 h8 h
end Go.Proofs.YthaoopbfggnceaaGreatDoor.Arr
