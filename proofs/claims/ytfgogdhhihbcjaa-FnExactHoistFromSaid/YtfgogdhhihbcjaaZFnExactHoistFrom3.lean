/- The texts that the statement FnExactHoistFrom needs, part 3: contracts of the program's functions and plain laws, without what it does not reach. No condition beyond what each theorem says. -/
import Derived.Below
import Derived.Deep.Draws
import Derived.Deep.AppendLies
import Derived.Maps.AppendAt
import Derived.OwnWalk
import Derived.Laws.BytesArg
import Derived.Laws.MakeOwn
import Derived.Laws.OwnMore
import Derived.Deep.OwnRows
import Derived.Tactics
import Derived.Lib.ConvBytes
import Derived.Laws.Slices
import Derived.WalkKit
import Derived.KernelRfl
import Derived.RowKit3
import Derived.Deep.LoopGhost
import Derived.Deep.QuietTactic
import Derived.BigQuiet
import Derived.WideLaws
import Derived.Deep.DeepCutAuto
import Derived.Deep.CutBlock
import Derived.Deep.RegionHeld3
import Derived.Laws.Rows
import Derived.Lib.AppendStr
import Derived.ArgAppend
import Derived.Laws.IdiomCopy
import Derived.RowKit
import Derived.Laws.Tables
import Derived.BigFrame
import Derived.Laws.CopyRow
import Derived.Laws.ResultCell
import Derived.OrdersHeld
import Derived.Laws.BitsLemmas
import Derived.Laws.StructEq
import Derived.Test.YtfgogdhhihbcjaaProg
import Derived.WalkSpells
import Derived.StillTailTactics
import Derived.ProofKit
import Derived.OpenShut
import Derived.Deep.Slices
import Derived.Lib.SmallJoins
import Derived.ChangeSame
import Derived.Test.YtfgogdhhihbcjaaRows
import Derived.ShutString
import Derived.ChangeOld
import Derived.SizedLaws
import Derived.Test.YtfgogdhhihbcjaaZFnExactHoistFrom2
namespace Go.Proofs.Ytfgogdhhihbcjaa.Arr
open Go.RowKit Go.Proofs.YtfgogdhhihbcjaaW.PrintWords Go.Proofs.YtfgogdhhihbcjaaW.PrintLast Go.Proofs.YtfgogdhhihbcjaaW.PrintMore Go.Proofs.Ytfgogdhhihbcjaa.U Go.Proofs.Ytfgogdhhihbcjaa.H
set_option linter.unusedVariables false
set_option linter.unusedSimpArgs false
set_option maxHeartbeats 4000000 in
set_option maxRecDepth 100000 in
theorem toInt16A40_calls (L : List Int) (w : World) (hl : L.length = 40) : Calls Try.prog 32 #[.agg (vals .i16 L)] w fun e w' => e = .returned (.agg (vals .i16 L)) ∧ Below w.heap.size w w' := by
 have hm := Mem.start w
 go_enter Try.func32, Try.ntmps32
 go_wp2_with (first | fail | ((with_reducible refine gt_box 1 23 ?_); refine st_box rfl 1 rfl 23 _ rfl hm (v := .agg (vals _ _)) rfl (cs := vals _ _) rfl ?_; clear hm; intro g1 w1 hm) | ((with_reducible refine gt_alloc 2 23 ?_); refine st_alloc rfl 2 rfl 23 rfl hm zero23 ?_; clear hm; intro g2 w2 hm) | ((with_reducible refine gt_alloc 3 23 ?_); refine st_alloc rfl 3 rfl 23 rfl hm zero23 ?_; clear hm; intro g3 w3 hm) | ((with_reducible refine gt_elem 23 ?_); refine st_elem rfl 23 _ _ rfl rfl rfl arr23 (by first | omega | assumption | (simp only [lens]; first | omega | assumption) | (simp [lens]; done) | (simp [lens]; omega)) (by first | omega | assumption | (simp only [lens]; first | omega | assumption) | (simp [lens]; done) | (simp [lens]; omega)) ?_) | ((with_reducible refine gt_load 22 ?_); (first | (refine st_get rfl 22 _ rfl hm rfl 0 rfl one22 (by first | omega | assumption | (simp only [lens]; first | omega | assumption) | (simp [lens]; done) | (simp [lens]; omega)) ?_) | (refine st_get rfl 22 _ rfl hm rfl 1 rfl one22 (by first | omega | assumption | (simp only [lens]; first | omega | assumption) | (simp [lens]; done) | (simp [lens]; omega)) ?_) | (refine st_get rfl 22 _ rfl hm rfl 2 rfl one22 (by first | omega | assumption | (simp only [lens]; first | omega | assumption) | (simp [lens]; done) | (simp [lens]; omega)) ?_) | (refine st_get rfl 22 _ rfl hm rfl 3 rfl one22 (by first | omega | assumption | (simp only [lens]; first | omega | assumption) | (simp [lens]; done) | (simp [lens]; omega)) ?_) | (refine st_get rfl 22 _ rfl hm rfl 4 rfl one22 (by first | omega | assumption | (simp only [lens]; first | omega | assumption) | (simp [lens]; done) | (simp [lens]; omega)) ?_))) | ((with_reducible refine gt_store 22 ?_); (first | (refine st_set rfl 22 _ _ rfl hm rfl rfl 0 rfl one22 (by first | omega | assumption | (simp only [lens]; first | omega | assumption) | (simp [lens]; done) | (simp [lens]; omega)) ?_) | (refine st_set rfl 22 _ _ rfl hm rfl rfl 1 rfl one22 (by first | omega | assumption | (simp only [lens]; first | omega | assumption) | (simp [lens]; done) | (simp [lens]; omega)) ?_) | (refine st_set rfl 22 _ _ rfl hm rfl rfl 2 rfl one22 (by first | omega | assumption | (simp only [lens]; first | omega | assumption) | (simp [lens]; done) | (simp [lens]; omega)) ?_) | (refine st_set rfl 22 _ _ rfl hm rfl rfl 3 rfl one22 (by first | omega | assumption | (simp only [lens]; first | omega | assumption) | (simp [lens]; done) | (simp [lens]; omega)) ?_) | (refine st_set rfl 22 _ _ rfl hm rfl rfl 4 rfl one22 (by first | omega | assumption | (simp only [lens]; first | omega | assumption) | (simp [lens]; done) | (simp [lens]; omega)) ?_)); clear hm; intro ws hm; simp only [List.set_cons_zero, List.set_cons_succ] at hm) | ((with_reducible refine gt_load 23 ?_); (first | (refine st_load rfl 23 _ rfl hm rfl 0 rfl agg23 (by first | omega | assumption | (simp only [lens]; first | omega | assumption) | (simp [lens]; done) | (simp [lens]; omega)) ?_) | (refine st_load rfl 23 _ rfl hm rfl 1 rfl agg23 (by first | omega | assumption | (simp only [lens]; first | omega | assumption) | (simp [lens]; done) | (simp [lens]; omega)) ?_) | (refine st_load rfl 23 _ rfl hm rfl 2 rfl agg23 (by first | omega | assumption | (simp only [lens]; first | omega | assumption) | (simp [lens]; done) | (simp [lens]; omega)) ?_) | (refine st_load rfl 23 _ rfl hm rfl 3 rfl agg23 (by first | omega | assumption | (simp only [lens]; first | omega | assumption) | (simp [lens]; done) | (simp [lens]; omega)) ?_) | (refine st_load rfl 23 _ rfl hm rfl 4 rfl agg23 (by first | omega | assumption | (simp only [lens]; first | omega | assumption) | (simp [lens]; done) | (simp [lens]; omega)) ?_) | (refine st_part rfl 23 _ rfl hm rfl 0 rfl agg23 (by first | omega | assumption | (simp only [lens]; first | omega | assumption) | (simp [lens]; done) | (simp [lens]; omega)) ?_) | (refine st_part rfl 23 _ rfl hm rfl 1 rfl agg23 (by first | omega | assumption | (simp only [lens]; first | omega | assumption) | (simp [lens]; done) | (simp [lens]; omega)) ?_) | (refine st_part rfl 23 _ rfl hm rfl 2 rfl agg23 (by first | omega | assumption | (simp only [lens]; first | omega | assumption) | (simp [lens]; done) | (simp [lens]; omega)) ?_) | (refine st_part rfl 23 _ rfl hm rfl 3 rfl agg23 (by first | omega | assumption | (simp only [lens]; first | omega | assumption) | (simp [lens]; done) | (simp [lens]; omega)) ?_) | (refine st_part rfl 23 _ rfl hm rfl 4 rfl agg23 (by first | omega | assumption | (simp only [lens]; first | omega | assumption) | (simp [lens]; done) | (simp [lens]; omega)) ?_))) | ((with_reducible refine gt_store 23 ?_); (first | (refine st_full rfl 23 _ _ rfl hm rfl rfl 0 rfl agg23 (by first | omega | assumption | (simp only [lens]; first | omega | assumption) | (simp [lens]; done) | (simp [lens]; omega)) (by first | omega | assumption | (simp only [lens]; first | omega | assumption) | (simp [lens]; done) | (simp [lens]; omega)) ?_) | (refine st_full rfl 23 _ _ rfl hm rfl rfl 1 rfl agg23 (by first | omega | assumption | (simp only [lens]; first | omega | assumption) | (simp [lens]; done) | (simp [lens]; omega)) (by first | omega | assumption | (simp only [lens]; first | omega | assumption) | (simp [lens]; done) | (simp [lens]; omega)) ?_) | (refine st_full rfl 23 _ _ rfl hm rfl rfl 2 rfl agg23 (by first | omega | assumption | (simp only [lens]; first | omega | assumption) | (simp [lens]; done) | (simp [lens]; omega)) (by first | omega | assumption | (simp only [lens]; first | omega | assumption) | (simp [lens]; done) | (simp [lens]; omega)) ?_) | (refine st_full rfl 23 _ _ rfl hm rfl rfl 3 rfl agg23 (by first | omega | assumption | (simp only [lens]; first | omega | assumption) | (simp [lens]; done) | (simp [lens]; omega)) (by first | omega | assumption | (simp only [lens]; first | omega | assumption) | (simp [lens]; done) | (simp [lens]; omega)) ?_) | (refine st_full rfl 23 _ _ rfl hm rfl rfl 4 rfl agg23 (by first | omega | assumption | (simp only [lens]; first | omega | assumption) | (simp [lens]; done) | (simp [lens]; omega)) (by first | omega | assumption | (simp only [lens]; first | omega | assumption) | (simp [lens]; done) | (simp [lens]; omega)) ?_) | (refine st_put rfl 23 _ _ rfl hm rfl rfl 0 rfl agg23 (by first | omega | assumption | (simp only [lens]; first | omega | assumption) | (simp [lens]; done) | (simp [lens]; omega)) (by first | omega | assumption | (simp only [lens]; first | omega | assumption) | (simp [lens]; done) | (simp [lens]; omega)) ?_) | (refine st_put rfl 23 _ _ rfl hm rfl rfl 1 rfl agg23 (by first | omega | assumption | (simp only [lens]; first | omega | assumption) | (simp [lens]; done) | (simp [lens]; omega)) (by first | omega | assumption | (simp only [lens]; first | omega | assumption) | (simp [lens]; done) | (simp [lens]; omega)) ?_) | (refine st_put rfl 23 _ _ rfl hm rfl rfl 2 rfl agg23 (by first | omega | assumption | (simp only [lens]; first | omega | assumption) | (simp [lens]; done) | (simp [lens]; omega)) (by first | omega | assumption | (simp only [lens]; first | omega | assumption) | (simp [lens]; done) | (simp [lens]; omega)) ?_) | (refine st_put rfl 23 _ _ rfl hm rfl rfl 3 rfl agg23 (by first | omega | assumption | (simp only [lens]; first | omega | assumption) | (simp [lens]; done) | (simp [lens]; omega)) (by first | omega | assumption | (simp only [lens]; first | omega | assumption) | (simp [lens]; done) | (simp [lens]; omega)) ?_) | (refine st_put rfl 23 _ _ rfl hm rfl rfl 4 rfl agg23 (by first | omega | assumption | (simp only [lens]; first | omega | assumption) | (simp [lens]; done) | (simp [lens]; omega)) (by first | omega | assumption | (simp only [lens]; first | omega | assumption) | (simp [lens]; done) | (simp [lens]; omega)) ?_)); clear hm; intro ws hm; simp only [List.set_cons_zero, List.set_cons_succ] at hm))
 go_loopw [4] (fun v4 wr => ∃ i : Nat, i ≤ 40 ∧ v4 = .int .i64 i ∧ Mem w wr [⟨g3, vals .i16 (mixTo (zs 40) L 0 i), 23, true⟩, ⟨g2, vals .i16 (zs 40), 23, true⟩, ⟨g1, vals .i16 L, 23, true⟩]) (fun v4 _ => 40 - (intOf v4).toNat)
 case atStart => exact ⟨0, by omega, rfl, by rw [mixTo_zero]; exact hm⟩
 case round =>
  obtain ⟨i, hi, rfl, hm⟩ := hrel
  have hl2 := mixTo_length (zs 40) L 0 i (by rw [zs_length]; omega) (by omega)
  rw [zs_length] at hl2
  by_cases hlt : i < 40
  ·go_wp2_with (first | fail | ((with_reducible refine gt_box 1 23 ?_); refine st_box rfl 1 rfl 23 _ rfl hm (v := .agg (vals _ _)) rfl (cs := vals _ _) rfl ?_; clear hm; intro g1 w1 hm) | ((with_reducible refine gt_alloc 2 23 ?_); refine st_alloc rfl 2 rfl 23 rfl hm zero23 ?_; clear hm; intro g2 w2 hm) | ((with_reducible refine gt_alloc 3 23 ?_); refine st_alloc rfl 3 rfl 23 rfl hm zero23 ?_; clear hm; intro g3 w3 hm) | ((with_reducible refine gt_elem 23 ?_); refine st_elem rfl 23 _ _ rfl rfl rfl arr23 (by first | omega | assumption | (simp only [lens]; first | omega | assumption) | (simp [lens]; done) | (simp [lens]; omega)) (by first | omega | assumption | (simp only [lens]; first | omega | assumption) | (simp [lens]; done) | (simp [lens]; omega)) ?_) | ((with_reducible refine gt_load 22 ?_); (first | (refine st_get rfl 22 _ rfl hm rfl 0 rfl one22 (by first | omega | assumption | (simp only [lens]; first | omega | assumption) | (simp [lens]; done) | (simp [lens]; omega)) ?_) | (refine st_get rfl 22 _ rfl hm rfl 1 rfl one22 (by first | omega | assumption | (simp only [lens]; first | omega | assumption) | (simp [lens]; done) | (simp [lens]; omega)) ?_) | (refine st_get rfl 22 _ rfl hm rfl 2 rfl one22 (by first | omega | assumption | (simp only [lens]; first | omega | assumption) | (simp [lens]; done) | (simp [lens]; omega)) ?_) | (refine st_get rfl 22 _ rfl hm rfl 3 rfl one22 (by first | omega | assumption | (simp only [lens]; first | omega | assumption) | (simp [lens]; done) | (simp [lens]; omega)) ?_) | (refine st_get rfl 22 _ rfl hm rfl 4 rfl one22 (by first | omega | assumption | (simp only [lens]; first | omega | assumption) | (simp [lens]; done) | (simp [lens]; omega)) ?_))) | ((with_reducible refine gt_store 22 ?_); (first | (refine st_set rfl 22 _ _ rfl hm rfl rfl 0 rfl one22 (by first | omega | assumption | (simp only [lens]; first | omega | assumption) | (simp [lens]; done) | (simp [lens]; omega)) ?_) | (refine st_set rfl 22 _ _ rfl hm rfl rfl 1 rfl one22 (by first | omega | assumption | (simp only [lens]; first | omega | assumption) | (simp [lens]; done) | (simp [lens]; omega)) ?_) | (refine st_set rfl 22 _ _ rfl hm rfl rfl 2 rfl one22 (by first | omega | assumption | (simp only [lens]; first | omega | assumption) | (simp [lens]; done) | (simp [lens]; omega)) ?_) | (refine st_set rfl 22 _ _ rfl hm rfl rfl 3 rfl one22 (by first | omega | assumption | (simp only [lens]; first | omega | assumption) | (simp [lens]; done) | (simp [lens]; omega)) ?_) | (refine st_set rfl 22 _ _ rfl hm rfl rfl 4 rfl one22 (by first | omega | assumption | (simp only [lens]; first | omega | assumption) | (simp [lens]; done) | (simp [lens]; omega)) ?_)); clear hm; intro ws hm; simp only [List.set_cons_zero, List.set_cons_succ] at hm) | ((with_reducible refine gt_load 23 ?_); (first | (refine st_load rfl 23 _ rfl hm rfl 0 rfl agg23 (by first | omega | assumption | (simp only [lens]; first | omega | assumption) | (simp [lens]; done) | (simp [lens]; omega)) ?_) | (refine st_load rfl 23 _ rfl hm rfl 1 rfl agg23 (by first | omega | assumption | (simp only [lens]; first | omega | assumption) | (simp [lens]; done) | (simp [lens]; omega)) ?_) | (refine st_load rfl 23 _ rfl hm rfl 2 rfl agg23 (by first | omega | assumption | (simp only [lens]; first | omega | assumption) | (simp [lens]; done) | (simp [lens]; omega)) ?_) | (refine st_load rfl 23 _ rfl hm rfl 3 rfl agg23 (by first | omega | assumption | (simp only [lens]; first | omega | assumption) | (simp [lens]; done) | (simp [lens]; omega)) ?_) | (refine st_load rfl 23 _ rfl hm rfl 4 rfl agg23 (by first | omega | assumption | (simp only [lens]; first | omega | assumption) | (simp [lens]; done) | (simp [lens]; omega)) ?_) | (refine st_part rfl 23 _ rfl hm rfl 0 rfl agg23 (by first | omega | assumption | (simp only [lens]; first | omega | assumption) | (simp [lens]; done) | (simp [lens]; omega)) ?_) | (refine st_part rfl 23 _ rfl hm rfl 1 rfl agg23 (by first | omega | assumption | (simp only [lens]; first | omega | assumption) | (simp [lens]; done) | (simp [lens]; omega)) ?_) | (refine st_part rfl 23 _ rfl hm rfl 2 rfl agg23 (by first | omega | assumption | (simp only [lens]; first | omega | assumption) | (simp [lens]; done) | (simp [lens]; omega)) ?_) | (refine st_part rfl 23 _ rfl hm rfl 3 rfl agg23 (by first | omega | assumption | (simp only [lens]; first | omega | assumption) | (simp [lens]; done) | (simp [lens]; omega)) ?_) | (refine st_part rfl 23 _ rfl hm rfl 4 rfl agg23 (by first | omega | assumption | (simp only [lens]; first | omega | assumption) | (simp [lens]; done) | (simp [lens]; omega)) ?_))) | ((with_reducible refine gt_store 23 ?_); (first | (refine st_full rfl 23 _ _ rfl hm rfl rfl 0 rfl agg23 (by first | omega | assumption | (simp only [lens]; first | omega | assumption) | (simp [lens]; done) | (simp [lens]; omega)) (by first | omega | assumption | (simp only [lens]; first | omega | assumption) | (simp [lens]; done) | (simp [lens]; omega)) ?_) | (refine st_full rfl 23 _ _ rfl hm rfl rfl 1 rfl agg23 (by first | omega | assumption | (simp only [lens]; first | omega | assumption) | (simp [lens]; done) | (simp [lens]; omega)) (by first | omega | assumption | (simp only [lens]; first | omega | assumption) | (simp [lens]; done) | (simp [lens]; omega)) ?_) | (refine st_full rfl 23 _ _ rfl hm rfl rfl 2 rfl agg23 (by first | omega | assumption | (simp only [lens]; first | omega | assumption) | (simp [lens]; done) | (simp [lens]; omega)) (by first | omega | assumption | (simp only [lens]; first | omega | assumption) | (simp [lens]; done) | (simp [lens]; omega)) ?_) | (refine st_full rfl 23 _ _ rfl hm rfl rfl 3 rfl agg23 (by first | omega | assumption | (simp only [lens]; first | omega | assumption) | (simp [lens]; done) | (simp [lens]; omega)) (by first | omega | assumption | (simp only [lens]; first | omega | assumption) | (simp [lens]; done) | (simp [lens]; omega)) ?_) | (refine st_full rfl 23 _ _ rfl hm rfl rfl 4 rfl agg23 (by first | omega | assumption | (simp only [lens]; first | omega | assumption) | (simp [lens]; done) | (simp [lens]; omega)) (by first | omega | assumption | (simp only [lens]; first | omega | assumption) | (simp [lens]; done) | (simp [lens]; omega)) ?_) | (refine st_put rfl 23 _ _ rfl hm rfl rfl 0 rfl agg23 (by first | omega | assumption | (simp only [lens]; first | omega | assumption) | (simp [lens]; done) | (simp [lens]; omega)) (by first | omega | assumption | (simp only [lens]; first | omega | assumption) | (simp [lens]; done) | (simp [lens]; omega)) ?_) | (refine st_put rfl 23 _ _ rfl hm rfl rfl 1 rfl agg23 (by first | omega | assumption | (simp only [lens]; first | omega | assumption) | (simp [lens]; done) | (simp [lens]; omega)) (by first | omega | assumption | (simp only [lens]; first | omega | assumption) | (simp [lens]; done) | (simp [lens]; omega)) ?_) | (refine st_put rfl 23 _ _ rfl hm rfl rfl 2 rfl agg23 (by first | omega | assumption | (simp only [lens]; first | omega | assumption) | (simp [lens]; done) | (simp [lens]; omega)) (by first | omega | assumption | (simp only [lens]; first | omega | assumption) | (simp [lens]; done) | (simp [lens]; omega)) ?_) | (refine st_put rfl 23 _ _ rfl hm rfl rfl 3 rfl agg23 (by first | omega | assumption | (simp only [lens]; first | omega | assumption) | (simp [lens]; done) | (simp [lens]; omega)) (by first | omega | assumption | (simp only [lens]; first | omega | assumption) | (simp [lens]; done) | (simp [lens]; omega)) ?_) | (refine st_put rfl 23 _ _ rfl hm rfl rfl 4 rfl agg23 (by first | omega | assumption | (simp only [lens]; first | omega | assumption) | (simp [lens]; done) | (simp [lens]; omega)) (by first | omega | assumption | (simp only [lens]; first | omega | assumption) | (simp [lens]; done) | (simp [lens]; omega)) ?_)); clear hm; intro ws hm; simp only [List.set_cons_zero, List.set_cons_succ] at hm))
   go_roundw
   case rel =>
    refine ⟨i + 1, by omega, by go_num, ?_⟩
    rw [← mixTo_succ (zs 40) L 0 i (by rw [zs_length]; omega) (by omega)]
    simpa using hm
   case measure => simp [intOf]; omega
  ·have HI := Aside0.mk (show mixTo (zs 40) L 0 i = L by
    have : i = 40 := by omega
    subst this
    unfold mixTo
    rw [List.take_zero, List.nil_append, List.take_of_length_le (by omega), List.drop_of_length_le (by rw [zs_length]; omega), List.append_nil])
   go_wp2_with (first | fail | ((with_reducible refine gt_box 1 23 ?_); refine st_box rfl 1 rfl 23 _ rfl hm (v := .agg (vals _ _)) rfl (cs := vals _ _) rfl ?_; clear hm; intro g1 w1 hm) | ((with_reducible refine gt_alloc 2 23 ?_); refine st_alloc rfl 2 rfl 23 rfl hm zero23 ?_; clear hm; intro g2 w2 hm) | ((with_reducible refine gt_alloc 3 23 ?_); refine st_alloc rfl 3 rfl 23 rfl hm zero23 ?_; clear hm; intro g3 w3 hm) | ((with_reducible refine gt_elem 23 ?_); refine st_elem rfl 23 _ _ rfl rfl rfl arr23 (by first | omega | assumption | (simp only [lens]; first | omega | assumption) | (simp [lens]; done) | (simp [lens]; omega)) (by first | omega | assumption | (simp only [lens]; first | omega | assumption) | (simp [lens]; done) | (simp [lens]; omega)) ?_) | ((with_reducible refine gt_load 22 ?_); (first | (refine st_get rfl 22 _ rfl hm rfl 0 rfl one22 (by first | omega | assumption | (simp only [lens]; first | omega | assumption) | (simp [lens]; done) | (simp [lens]; omega)) ?_) | (refine st_get rfl 22 _ rfl hm rfl 1 rfl one22 (by first | omega | assumption | (simp only [lens]; first | omega | assumption) | (simp [lens]; done) | (simp [lens]; omega)) ?_) | (refine st_get rfl 22 _ rfl hm rfl 2 rfl one22 (by first | omega | assumption | (simp only [lens]; first | omega | assumption) | (simp [lens]; done) | (simp [lens]; omega)) ?_) | (refine st_get rfl 22 _ rfl hm rfl 3 rfl one22 (by first | omega | assumption | (simp only [lens]; first | omega | assumption) | (simp [lens]; done) | (simp [lens]; omega)) ?_) | (refine st_get rfl 22 _ rfl hm rfl 4 rfl one22 (by first | omega | assumption | (simp only [lens]; first | omega | assumption) | (simp [lens]; done) | (simp [lens]; omega)) ?_))) | ((with_reducible refine gt_store 22 ?_); (first | (refine st_set rfl 22 _ _ rfl hm rfl rfl 0 rfl one22 (by first | omega | assumption | (simp only [lens]; first | omega | assumption) | (simp [lens]; done) | (simp [lens]; omega)) ?_) | (refine st_set rfl 22 _ _ rfl hm rfl rfl 1 rfl one22 (by first | omega | assumption | (simp only [lens]; first | omega | assumption) | (simp [lens]; done) | (simp [lens]; omega)) ?_) | (refine st_set rfl 22 _ _ rfl hm rfl rfl 2 rfl one22 (by first | omega | assumption | (simp only [lens]; first | omega | assumption) | (simp [lens]; done) | (simp [lens]; omega)) ?_) | (refine st_set rfl 22 _ _ rfl hm rfl rfl 3 rfl one22 (by first | omega | assumption | (simp only [lens]; first | omega | assumption) | (simp [lens]; done) | (simp [lens]; omega)) ?_) | (refine st_set rfl 22 _ _ rfl hm rfl rfl 4 rfl one22 (by first | omega | assumption | (simp only [lens]; first | omega | assumption) | (simp [lens]; done) | (simp [lens]; omega)) ?_)); clear hm; intro ws hm; simp only [List.set_cons_zero, List.set_cons_succ] at hm) | ((with_reducible refine gt_load 23 ?_); (first | (refine st_load rfl 23 _ rfl hm rfl 0 rfl agg23 (by first | omega | assumption | (simp only [lens]; first | omega | assumption) | (simp [lens]; done) | (simp [lens]; omega)) ?_) | (refine st_load rfl 23 _ rfl hm rfl 1 rfl agg23 (by first | omega | assumption | (simp only [lens]; first | omega | assumption) | (simp [lens]; done) | (simp [lens]; omega)) ?_) | (refine st_load rfl 23 _ rfl hm rfl 2 rfl agg23 (by first | omega | assumption | (simp only [lens]; first | omega | assumption) | (simp [lens]; done) | (simp [lens]; omega)) ?_) | (refine st_load rfl 23 _ rfl hm rfl 3 rfl agg23 (by first | omega | assumption | (simp only [lens]; first | omega | assumption) | (simp [lens]; done) | (simp [lens]; omega)) ?_) | (refine st_load rfl 23 _ rfl hm rfl 4 rfl agg23 (by first | omega | assumption | (simp only [lens]; first | omega | assumption) | (simp [lens]; done) | (simp [lens]; omega)) ?_) | (refine st_part rfl 23 _ rfl hm rfl 0 rfl agg23 (by first | omega | assumption | (simp only [lens]; first | omega | assumption) | (simp [lens]; done) | (simp [lens]; omega)) ?_) | (refine st_part rfl 23 _ rfl hm rfl 1 rfl agg23 (by first | omega | assumption | (simp only [lens]; first | omega | assumption) | (simp [lens]; done) | (simp [lens]; omega)) ?_) | (refine st_part rfl 23 _ rfl hm rfl 2 rfl agg23 (by first | omega | assumption | (simp only [lens]; first | omega | assumption) | (simp [lens]; done) | (simp [lens]; omega)) ?_) | (refine st_part rfl 23 _ rfl hm rfl 3 rfl agg23 (by first | omega | assumption | (simp only [lens]; first | omega | assumption) | (simp [lens]; done) | (simp [lens]; omega)) ?_) | (refine st_part rfl 23 _ rfl hm rfl 4 rfl agg23 (by first | omega | assumption | (simp only [lens]; first | omega | assumption) | (simp [lens]; done) | (simp [lens]; omega)) ?_))) | ((with_reducible refine gt_store 23 ?_); (first | (refine st_full rfl 23 _ _ rfl hm rfl rfl 0 rfl agg23 (by first | omega | assumption | (simp only [lens]; first | omega | assumption) | (simp [lens]; done) | (simp [lens]; omega)) (by first | omega | assumption | (simp only [lens]; first | omega | assumption) | (simp [lens]; done) | (simp [lens]; omega)) ?_) | (refine st_full rfl 23 _ _ rfl hm rfl rfl 1 rfl agg23 (by first | omega | assumption | (simp only [lens]; first | omega | assumption) | (simp [lens]; done) | (simp [lens]; omega)) (by first | omega | assumption | (simp only [lens]; first | omega | assumption) | (simp [lens]; done) | (simp [lens]; omega)) ?_) | (refine st_full rfl 23 _ _ rfl hm rfl rfl 2 rfl agg23 (by first | omega | assumption | (simp only [lens]; first | omega | assumption) | (simp [lens]; done) | (simp [lens]; omega)) (by first | omega | assumption | (simp only [lens]; first | omega | assumption) | (simp [lens]; done) | (simp [lens]; omega)) ?_) | (refine st_full rfl 23 _ _ rfl hm rfl rfl 3 rfl agg23 (by first | omega | assumption | (simp only [lens]; first | omega | assumption) | (simp [lens]; done) | (simp [lens]; omega)) (by first | omega | assumption | (simp only [lens]; first | omega | assumption) | (simp [lens]; done) | (simp [lens]; omega)) ?_) | (refine st_full rfl 23 _ _ rfl hm rfl rfl 4 rfl agg23 (by first | omega | assumption | (simp only [lens]; first | omega | assumption) | (simp [lens]; done) | (simp [lens]; omega)) (by first | omega | assumption | (simp only [lens]; first | omega | assumption) | (simp [lens]; done) | (simp [lens]; omega)) ?_) | (refine st_put rfl 23 _ _ rfl hm rfl rfl 0 rfl agg23 (by first | omega | assumption | (simp only [lens]; first | omega | assumption) | (simp [lens]; done) | (simp [lens]; omega)) (by first | omega | assumption | (simp only [lens]; first | omega | assumption) | (simp [lens]; done) | (simp [lens]; omega)) ?_) | (refine st_put rfl 23 _ _ rfl hm rfl rfl 1 rfl agg23 (by first | omega | assumption | (simp only [lens]; first | omega | assumption) | (simp [lens]; done) | (simp [lens]; omega)) (by first | omega | assumption | (simp only [lens]; first | omega | assumption) | (simp [lens]; done) | (simp [lens]; omega)) ?_) | (refine st_put rfl 23 _ _ rfl hm rfl rfl 2 rfl agg23 (by first | omega | assumption | (simp only [lens]; first | omega | assumption) | (simp [lens]; done) | (simp [lens]; omega)) (by first | omega | assumption | (simp only [lens]; first | omega | assumption) | (simp [lens]; done) | (simp [lens]; omega)) ?_) | (refine st_put rfl 23 _ _ rfl hm rfl rfl 3 rfl agg23 (by first | omega | assumption | (simp only [lens]; first | omega | assumption) | (simp [lens]; done) | (simp [lens]; omega)) (by first | omega | assumption | (simp only [lens]; first | omega | assumption) | (simp [lens]; done) | (simp [lens]; omega)) ?_) | (refine st_put rfl 23 _ _ rfl hm rfl rfl 4 rfl agg23 (by first | omega | assumption | (simp only [lens]; first | omega | assumption) | (simp [lens]; done) | (simp [lens]; omega)) (by first | omega | assumption | (simp only [lens]; first | omega | assumption) | (simp [lens]; done) | (simp [lens]; omega)) ?_)); clear hm; intro ws hm; simp only [List.set_cons_zero, List.set_cons_succ] at hm))
   ((try simp only [Exit.inBlock, Exit.then]); (first | (refine ret_cell hm rfl rfl 1 rfl agg23 (by first | omega | assumption | (simp only [lens]; first | omega | assumption) | (simp [lens]; done) | (simp [lens]; omega)) rfl ?_) | (refine ret_cell_tmp hm rfl rfl 1 rfl agg23 (by first | omega | assumption | (simp only [lens]; first | omega | assumption) | (simp [lens]; done) | (simp [lens]; omega)) rfl ?_)))
   exact ⟨by rw [HI.out], hm.done rfl⟩
set_option maxHeartbeats 4000000 in
set_option maxRecDepth 100000 in
theorem toInt16A4_calls (L : List Int) (w : World) (hl : L.length = 4) : Calls Try.prog 33 #[.agg (vals .i16 L)] w fun e w' => e = .returned (.agg (vals .i16 L)) ∧ Below w.heap.size w w' := by
 have hm := Mem.start w
 go_enter Try.func33, Try.ntmps33
 go_wp2_with (first | fail | ((with_reducible refine gt_box 1 24 ?_); refine st_box rfl 1 rfl 24 _ rfl hm (v := .agg (vals _ _)) rfl (cs := vals _ _) rfl ?_; clear hm; intro g1 w1 hm) | ((with_reducible refine gt_alloc 2 24 ?_); refine st_alloc rfl 2 rfl 24 rfl hm zero24 ?_; clear hm; intro g2 w2 hm) | ((with_reducible refine gt_alloc 3 24 ?_); refine st_alloc rfl 3 rfl 24 rfl hm zero24 ?_; clear hm; intro g3 w3 hm) | ((with_reducible refine gt_elem 24 ?_); refine st_elem rfl 24 _ _ rfl rfl rfl arr24 (by first | omega | assumption | (simp only [lens]; first | omega | assumption) | (simp [lens]; done) | (simp [lens]; omega)) (by first | omega | assumption | (simp only [lens]; first | omega | assumption) | (simp [lens]; done) | (simp [lens]; omega)) ?_) | ((with_reducible refine gt_load 22 ?_); (first | (refine st_get rfl 22 _ rfl hm rfl 0 rfl one22 (by first | omega | assumption | (simp only [lens]; first | omega | assumption) | (simp [lens]; done) | (simp [lens]; omega)) ?_) | (refine st_get rfl 22 _ rfl hm rfl 1 rfl one22 (by first | omega | assumption | (simp only [lens]; first | omega | assumption) | (simp [lens]; done) | (simp [lens]; omega)) ?_) | (refine st_get rfl 22 _ rfl hm rfl 2 rfl one22 (by first | omega | assumption | (simp only [lens]; first | omega | assumption) | (simp [lens]; done) | (simp [lens]; omega)) ?_) | (refine st_get rfl 22 _ rfl hm rfl 3 rfl one22 (by first | omega | assumption | (simp only [lens]; first | omega | assumption) | (simp [lens]; done) | (simp [lens]; omega)) ?_) | (refine st_get rfl 22 _ rfl hm rfl 4 rfl one22 (by first | omega | assumption | (simp only [lens]; first | omega | assumption) | (simp [lens]; done) | (simp [lens]; omega)) ?_))) | ((with_reducible refine gt_store 22 ?_); (first | (refine st_set rfl 22 _ _ rfl hm rfl rfl 0 rfl one22 (by first | omega | assumption | (simp only [lens]; first | omega | assumption) | (simp [lens]; done) | (simp [lens]; omega)) ?_) | (refine st_set rfl 22 _ _ rfl hm rfl rfl 1 rfl one22 (by first | omega | assumption | (simp only [lens]; first | omega | assumption) | (simp [lens]; done) | (simp [lens]; omega)) ?_) | (refine st_set rfl 22 _ _ rfl hm rfl rfl 2 rfl one22 (by first | omega | assumption | (simp only [lens]; first | omega | assumption) | (simp [lens]; done) | (simp [lens]; omega)) ?_) | (refine st_set rfl 22 _ _ rfl hm rfl rfl 3 rfl one22 (by first | omega | assumption | (simp only [lens]; first | omega | assumption) | (simp [lens]; done) | (simp [lens]; omega)) ?_) | (refine st_set rfl 22 _ _ rfl hm rfl rfl 4 rfl one22 (by first | omega | assumption | (simp only [lens]; first | omega | assumption) | (simp [lens]; done) | (simp [lens]; omega)) ?_)); clear hm; intro ws hm; simp only [List.set_cons_zero, List.set_cons_succ] at hm) | ((with_reducible refine gt_load 24 ?_); (first | (refine st_load rfl 24 _ rfl hm rfl 0 rfl agg24 (by first | omega | assumption | (simp only [lens]; first | omega | assumption) | (simp [lens]; done) | (simp [lens]; omega)) ?_) | (refine st_load rfl 24 _ rfl hm rfl 1 rfl agg24 (by first | omega | assumption | (simp only [lens]; first | omega | assumption) | (simp [lens]; done) | (simp [lens]; omega)) ?_) | (refine st_load rfl 24 _ rfl hm rfl 2 rfl agg24 (by first | omega | assumption | (simp only [lens]; first | omega | assumption) | (simp [lens]; done) | (simp [lens]; omega)) ?_) | (refine st_load rfl 24 _ rfl hm rfl 3 rfl agg24 (by first | omega | assumption | (simp only [lens]; first | omega | assumption) | (simp [lens]; done) | (simp [lens]; omega)) ?_) | (refine st_load rfl 24 _ rfl hm rfl 4 rfl agg24 (by first | omega | assumption | (simp only [lens]; first | omega | assumption) | (simp [lens]; done) | (simp [lens]; omega)) ?_) | (refine st_part rfl 24 _ rfl hm rfl 0 rfl agg24 (by first | omega | assumption | (simp only [lens]; first | omega | assumption) | (simp [lens]; done) | (simp [lens]; omega)) ?_) | (refine st_part rfl 24 _ rfl hm rfl 1 rfl agg24 (by first | omega | assumption | (simp only [lens]; first | omega | assumption) | (simp [lens]; done) | (simp [lens]; omega)) ?_) | (refine st_part rfl 24 _ rfl hm rfl 2 rfl agg24 (by first | omega | assumption | (simp only [lens]; first | omega | assumption) | (simp [lens]; done) | (simp [lens]; omega)) ?_) | (refine st_part rfl 24 _ rfl hm rfl 3 rfl agg24 (by first | omega | assumption | (simp only [lens]; first | omega | assumption) | (simp [lens]; done) | (simp [lens]; omega)) ?_) | (refine st_part rfl 24 _ rfl hm rfl 4 rfl agg24 (by first | omega | assumption | (simp only [lens]; first | omega | assumption) | (simp [lens]; done) | (simp [lens]; omega)) ?_))) | ((with_reducible refine gt_store 24 ?_); (first | (refine st_full rfl 24 _ _ rfl hm rfl rfl 0 rfl agg24 (by first | omega | assumption | (simp only [lens]; first | omega | assumption) | (simp [lens]; done) | (simp [lens]; omega)) (by first | omega | assumption | (simp only [lens]; first | omega | assumption) | (simp [lens]; done) | (simp [lens]; omega)) ?_) | (refine st_full rfl 24 _ _ rfl hm rfl rfl 1 rfl agg24 (by first | omega | assumption | (simp only [lens]; first | omega | assumption) | (simp [lens]; done) | (simp [lens]; omega)) (by first | omega | assumption | (simp only [lens]; first | omega | assumption) | (simp [lens]; done) | (simp [lens]; omega)) ?_) | (refine st_full rfl 24 _ _ rfl hm rfl rfl 2 rfl agg24 (by first | omega | assumption | (simp only [lens]; first | omega | assumption) | (simp [lens]; done) | (simp [lens]; omega)) (by first | omega | assumption | (simp only [lens]; first | omega | assumption) | (simp [lens]; done) | (simp [lens]; omega)) ?_) | (refine st_full rfl 24 _ _ rfl hm rfl rfl 3 rfl agg24 (by first | omega | assumption | (simp only [lens]; first | omega | assumption) | (simp [lens]; done) | (simp [lens]; omega)) (by first | omega | assumption | (simp only [lens]; first | omega | assumption) | (simp [lens]; done) | (simp [lens]; omega)) ?_) | (refine st_full rfl 24 _ _ rfl hm rfl rfl 4 rfl agg24 (by first | omega | assumption | (simp only [lens]; first | omega | assumption) | (simp [lens]; done) | (simp [lens]; omega)) (by first | omega | assumption | (simp only [lens]; first | omega | assumption) | (simp [lens]; done) | (simp [lens]; omega)) ?_) | (refine st_put rfl 24 _ _ rfl hm rfl rfl 0 rfl agg24 (by first | omega | assumption | (simp only [lens]; first | omega | assumption) | (simp [lens]; done) | (simp [lens]; omega)) (by first | omega | assumption | (simp only [lens]; first | omega | assumption) | (simp [lens]; done) | (simp [lens]; omega)) ?_) | (refine st_put rfl 24 _ _ rfl hm rfl rfl 1 rfl agg24 (by first | omega | assumption | (simp only [lens]; first | omega | assumption) | (simp [lens]; done) | (simp [lens]; omega)) (by first | omega | assumption | (simp only [lens]; first | omega | assumption) | (simp [lens]; done) | (simp [lens]; omega)) ?_) | (refine st_put rfl 24 _ _ rfl hm rfl rfl 2 rfl agg24 (by first | omega | assumption | (simp only [lens]; first | omega | assumption) | (simp [lens]; done) | (simp [lens]; omega)) (by first | omega | assumption | (simp only [lens]; first | omega | assumption) | (simp [lens]; done) | (simp [lens]; omega)) ?_) | (refine st_put rfl 24 _ _ rfl hm rfl rfl 3 rfl agg24 (by first | omega | assumption | (simp only [lens]; first | omega | assumption) | (simp [lens]; done) | (simp [lens]; omega)) (by first | omega | assumption | (simp only [lens]; first | omega | assumption) | (simp [lens]; done) | (simp [lens]; omega)) ?_) | (refine st_put rfl 24 _ _ rfl hm rfl rfl 4 rfl agg24 (by first | omega | assumption | (simp only [lens]; first | omega | assumption) | (simp [lens]; done) | (simp [lens]; omega)) (by first | omega | assumption | (simp only [lens]; first | omega | assumption) | (simp [lens]; done) | (simp [lens]; omega)) ?_)); clear hm; intro ws hm; simp only [List.set_cons_zero, List.set_cons_succ] at hm))
 go_loopw [4] (fun v4 wr => ∃ i : Nat, i ≤ 4 ∧ v4 = .int .i64 i ∧ Mem w wr [⟨g3, vals .i16 (mixTo (zs 4) L 0 i), 24, true⟩, ⟨g2, vals .i16 (zs 4), 24, true⟩, ⟨g1, vals .i16 L, 24, true⟩]) (fun v4 _ => 4 - (intOf v4).toNat)
 case atStart => exact ⟨0, by omega, rfl, by rw [mixTo_zero]; exact hm⟩
 case round =>
  obtain ⟨i, hi, rfl, hm⟩ := hrel
  have hl2 := mixTo_length (zs 4) L 0 i (by rw [zs_length]; omega) (by omega)
  rw [zs_length] at hl2
  by_cases hlt : i < 4
  ·go_wp2_with (first | fail | ((with_reducible refine gt_box 1 24 ?_); refine st_box rfl 1 rfl 24 _ rfl hm (v := .agg (vals _ _)) rfl (cs := vals _ _) rfl ?_; clear hm; intro g1 w1 hm) | ((with_reducible refine gt_alloc 2 24 ?_); refine st_alloc rfl 2 rfl 24 rfl hm zero24 ?_; clear hm; intro g2 w2 hm) | ((with_reducible refine gt_alloc 3 24 ?_); refine st_alloc rfl 3 rfl 24 rfl hm zero24 ?_; clear hm; intro g3 w3 hm) | ((with_reducible refine gt_elem 24 ?_); refine st_elem rfl 24 _ _ rfl rfl rfl arr24 (by first | omega | assumption | (simp only [lens]; first | omega | assumption) | (simp [lens]; done) | (simp [lens]; omega)) (by first | omega | assumption | (simp only [lens]; first | omega | assumption) | (simp [lens]; done) | (simp [lens]; omega)) ?_) | ((with_reducible refine gt_load 22 ?_); (first | (refine st_get rfl 22 _ rfl hm rfl 0 rfl one22 (by first | omega | assumption | (simp only [lens]; first | omega | assumption) | (simp [lens]; done) | (simp [lens]; omega)) ?_) | (refine st_get rfl 22 _ rfl hm rfl 1 rfl one22 (by first | omega | assumption | (simp only [lens]; first | omega | assumption) | (simp [lens]; done) | (simp [lens]; omega)) ?_) | (refine st_get rfl 22 _ rfl hm rfl 2 rfl one22 (by first | omega | assumption | (simp only [lens]; first | omega | assumption) | (simp [lens]; done) | (simp [lens]; omega)) ?_) | (refine st_get rfl 22 _ rfl hm rfl 3 rfl one22 (by first | omega | assumption | (simp only [lens]; first | omega | assumption) | (simp [lens]; done) | (simp [lens]; omega)) ?_) | (refine st_get rfl 22 _ rfl hm rfl 4 rfl one22 (by first | omega | assumption | (simp only [lens]; first | omega | assumption) | (simp [lens]; done) | (simp [lens]; omega)) ?_))) | ((with_reducible refine gt_store 22 ?_); (first | (refine st_set rfl 22 _ _ rfl hm rfl rfl 0 rfl one22 (by first | omega | assumption | (simp only [lens]; first | omega | assumption) | (simp [lens]; done) | (simp [lens]; omega)) ?_) | (refine st_set rfl 22 _ _ rfl hm rfl rfl 1 rfl one22 (by first | omega | assumption | (simp only [lens]; first | omega | assumption) | (simp [lens]; done) | (simp [lens]; omega)) ?_) | (refine st_set rfl 22 _ _ rfl hm rfl rfl 2 rfl one22 (by first | omega | assumption | (simp only [lens]; first | omega | assumption) | (simp [lens]; done) | (simp [lens]; omega)) ?_) | (refine st_set rfl 22 _ _ rfl hm rfl rfl 3 rfl one22 (by first | omega | assumption | (simp only [lens]; first | omega | assumption) | (simp [lens]; done) | (simp [lens]; omega)) ?_) | (refine st_set rfl 22 _ _ rfl hm rfl rfl 4 rfl one22 (by first | omega | assumption | (simp only [lens]; first | omega | assumption) | (simp [lens]; done) | (simp [lens]; omega)) ?_)); clear hm; intro ws hm; simp only [List.set_cons_zero, List.set_cons_succ] at hm) | ((with_reducible refine gt_load 24 ?_); (first | (refine st_load rfl 24 _ rfl hm rfl 0 rfl agg24 (by first | omega | assumption | (simp only [lens]; first | omega | assumption) | (simp [lens]; done) | (simp [lens]; omega)) ?_) | (refine st_load rfl 24 _ rfl hm rfl 1 rfl agg24 (by first | omega | assumption | (simp only [lens]; first | omega | assumption) | (simp [lens]; done) | (simp [lens]; omega)) ?_) | (refine st_load rfl 24 _ rfl hm rfl 2 rfl agg24 (by first | omega | assumption | (simp only [lens]; first | omega | assumption) | (simp [lens]; done) | (simp [lens]; omega)) ?_) | (refine st_load rfl 24 _ rfl hm rfl 3 rfl agg24 (by first | omega | assumption | (simp only [lens]; first | omega | assumption) | (simp [lens]; done) | (simp [lens]; omega)) ?_) | (refine st_load rfl 24 _ rfl hm rfl 4 rfl agg24 (by first | omega | assumption | (simp only [lens]; first | omega | assumption) | (simp [lens]; done) | (simp [lens]; omega)) ?_) | (refine st_part rfl 24 _ rfl hm rfl 0 rfl agg24 (by first | omega | assumption | (simp only [lens]; first | omega | assumption) | (simp [lens]; done) | (simp [lens]; omega)) ?_) | (refine st_part rfl 24 _ rfl hm rfl 1 rfl agg24 (by first | omega | assumption | (simp only [lens]; first | omega | assumption) | (simp [lens]; done) | (simp [lens]; omega)) ?_) | (refine st_part rfl 24 _ rfl hm rfl 2 rfl agg24 (by first | omega | assumption | (simp only [lens]; first | omega | assumption) | (simp [lens]; done) | (simp [lens]; omega)) ?_) | (refine st_part rfl 24 _ rfl hm rfl 3 rfl agg24 (by first | omega | assumption | (simp only [lens]; first | omega | assumption) | (simp [lens]; done) | (simp [lens]; omega)) ?_) | (refine st_part rfl 24 _ rfl hm rfl 4 rfl agg24 (by first | omega | assumption | (simp only [lens]; first | omega | assumption) | (simp [lens]; done) | (simp [lens]; omega)) ?_))) | ((with_reducible refine gt_store 24 ?_); (first | (refine st_full rfl 24 _ _ rfl hm rfl rfl 0 rfl agg24 (by first | omega | assumption | (simp only [lens]; first | omega | assumption) | (simp [lens]; done) | (simp [lens]; omega)) (by first | omega | assumption | (simp only [lens]; first | omega | assumption) | (simp [lens]; done) | (simp [lens]; omega)) ?_) | (refine st_full rfl 24 _ _ rfl hm rfl rfl 1 rfl agg24 (by first | omega | assumption | (simp only [lens]; first | omega | assumption) | (simp [lens]; done) | (simp [lens]; omega)) (by first | omega | assumption | (simp only [lens]; first | omega | assumption) | (simp [lens]; done) | (simp [lens]; omega)) ?_) | (refine st_full rfl 24 _ _ rfl hm rfl rfl 2 rfl agg24 (by first | omega | assumption | (simp only [lens]; first | omega | assumption) | (simp [lens]; done) | (simp [lens]; omega)) (by first | omega | assumption | (simp only [lens]; first | omega | assumption) | (simp [lens]; done) | (simp [lens]; omega)) ?_) | (refine st_full rfl 24 _ _ rfl hm rfl rfl 3 rfl agg24 (by first | omega | assumption | (simp only [lens]; first | omega | assumption) | (simp [lens]; done) | (simp [lens]; omega)) (by first | omega | assumption | (simp only [lens]; first | omega | assumption) | (simp [lens]; done) | (simp [lens]; omega)) ?_) | (refine st_full rfl 24 _ _ rfl hm rfl rfl 4 rfl agg24 (by first | omega | assumption | (simp only [lens]; first | omega | assumption) | (simp [lens]; done) | (simp [lens]; omega)) (by first | omega | assumption | (simp only [lens]; first | omega | assumption) | (simp [lens]; done) | (simp [lens]; omega)) ?_) | (refine st_put rfl 24 _ _ rfl hm rfl rfl 0 rfl agg24 (by first | omega | assumption | (simp only [lens]; first | omega | assumption) | (simp [lens]; done) | (simp [lens]; omega)) (by first | omega | assumption | (simp only [lens]; first | omega | assumption) | (simp [lens]; done) | (simp [lens]; omega)) ?_) | (refine st_put rfl 24 _ _ rfl hm rfl rfl 1 rfl agg24 (by first | omega | assumption | (simp only [lens]; first | omega | assumption) | (simp [lens]; done) | (simp [lens]; omega)) (by first | omega | assumption | (simp only [lens]; first | omega | assumption) | (simp [lens]; done) | (simp [lens]; omega)) ?_) | (refine st_put rfl 24 _ _ rfl hm rfl rfl 2 rfl agg24 (by first | omega | assumption | (simp only [lens]; first | omega | assumption) | (simp [lens]; done) | (simp [lens]; omega)) (by first | omega | assumption | (simp only [lens]; first | omega | assumption) | (simp [lens]; done) | (simp [lens]; omega)) ?_) | (refine st_put rfl 24 _ _ rfl hm rfl rfl 3 rfl agg24 (by first | omega | assumption | (simp only [lens]; first | omega | assumption) | (simp [lens]; done) | (simp [lens]; omega)) (by first | omega | assumption | (simp only [lens]; first | omega | assumption) | (simp [lens]; done) | (simp [lens]; omega)) ?_) | (refine st_put rfl 24 _ _ rfl hm rfl rfl 4 rfl agg24 (by first | omega | assumption | (simp only [lens]; first | omega | assumption) | (simp [lens]; done) | (simp [lens]; omega)) (by first | omega | assumption | (simp only [lens]; first | omega | assumption) | (simp [lens]; done) | (simp [lens]; omega)) ?_)); clear hm; intro ws hm; simp only [List.set_cons_zero, List.set_cons_succ] at hm))
   go_roundw
   case rel =>
    refine ⟨i + 1, by omega, by go_num, ?_⟩
    rw [← mixTo_succ (zs 4) L 0 i (by rw [zs_length]; omega) (by omega)]
    simpa using hm
   case measure => simp [intOf]; omega
  ·have HI := Aside0.mk (show mixTo (zs 4) L 0 i = L by
    have : i = 4 := by omega
    subst this
    unfold mixTo
    rw [List.take_zero, List.nil_append, List.take_of_length_le (by omega), List.drop_of_length_le (by rw [zs_length]; omega), List.append_nil])
   go_wp2_with (first | fail | ((with_reducible refine gt_box 1 24 ?_); refine st_box rfl 1 rfl 24 _ rfl hm (v := .agg (vals _ _)) rfl (cs := vals _ _) rfl ?_; clear hm; intro g1 w1 hm) | ((with_reducible refine gt_alloc 2 24 ?_); refine st_alloc rfl 2 rfl 24 rfl hm zero24 ?_; clear hm; intro g2 w2 hm) | ((with_reducible refine gt_alloc 3 24 ?_); refine st_alloc rfl 3 rfl 24 rfl hm zero24 ?_; clear hm; intro g3 w3 hm) | ((with_reducible refine gt_elem 24 ?_); refine st_elem rfl 24 _ _ rfl rfl rfl arr24 (by first | omega | assumption | (simp only [lens]; first | omega | assumption) | (simp [lens]; done) | (simp [lens]; omega)) (by first | omega | assumption | (simp only [lens]; first | omega | assumption) | (simp [lens]; done) | (simp [lens]; omega)) ?_) | ((with_reducible refine gt_load 22 ?_); (first | (refine st_get rfl 22 _ rfl hm rfl 0 rfl one22 (by first | omega | assumption | (simp only [lens]; first | omega | assumption) | (simp [lens]; done) | (simp [lens]; omega)) ?_) | (refine st_get rfl 22 _ rfl hm rfl 1 rfl one22 (by first | omega | assumption | (simp only [lens]; first | omega | assumption) | (simp [lens]; done) | (simp [lens]; omega)) ?_) | (refine st_get rfl 22 _ rfl hm rfl 2 rfl one22 (by first | omega | assumption | (simp only [lens]; first | omega | assumption) | (simp [lens]; done) | (simp [lens]; omega)) ?_) | (refine st_get rfl 22 _ rfl hm rfl 3 rfl one22 (by first | omega | assumption | (simp only [lens]; first | omega | assumption) | (simp [lens]; done) | (simp [lens]; omega)) ?_) | (refine st_get rfl 22 _ rfl hm rfl 4 rfl one22 (by first | omega | assumption | (simp only [lens]; first | omega | assumption) | (simp [lens]; done) | (simp [lens]; omega)) ?_))) | ((with_reducible refine gt_store 22 ?_); (first | (refine st_set rfl 22 _ _ rfl hm rfl rfl 0 rfl one22 (by first | omega | assumption | (simp only [lens]; first | omega | assumption) | (simp [lens]; done) | (simp [lens]; omega)) ?_) | (refine st_set rfl 22 _ _ rfl hm rfl rfl 1 rfl one22 (by first | omega | assumption | (simp only [lens]; first | omega | assumption) | (simp [lens]; done) | (simp [lens]; omega)) ?_) | (refine st_set rfl 22 _ _ rfl hm rfl rfl 2 rfl one22 (by first | omega | assumption | (simp only [lens]; first | omega | assumption) | (simp [lens]; done) | (simp [lens]; omega)) ?_) | (refine st_set rfl 22 _ _ rfl hm rfl rfl 3 rfl one22 (by first | omega | assumption | (simp only [lens]; first | omega | assumption) | (simp [lens]; done) | (simp [lens]; omega)) ?_) | (refine st_set rfl 22 _ _ rfl hm rfl rfl 4 rfl one22 (by first | omega | assumption | (simp only [lens]; first | omega | assumption) | (simp [lens]; done) | (simp [lens]; omega)) ?_)); clear hm; intro ws hm; simp only [List.set_cons_zero, List.set_cons_succ] at hm) | ((with_reducible refine gt_load 24 ?_); (first | (refine st_load rfl 24 _ rfl hm rfl 0 rfl agg24 (by first | omega | assumption | (simp only [lens]; first | omega | assumption) | (simp [lens]; done) | (simp [lens]; omega)) ?_) | (refine st_load rfl 24 _ rfl hm rfl 1 rfl agg24 (by first | omega | assumption | (simp only [lens]; first | omega | assumption) | (simp [lens]; done) | (simp [lens]; omega)) ?_) | (refine st_load rfl 24 _ rfl hm rfl 2 rfl agg24 (by first | omega | assumption | (simp only [lens]; first | omega | assumption) | (simp [lens]; done) | (simp [lens]; omega)) ?_) | (refine st_load rfl 24 _ rfl hm rfl 3 rfl agg24 (by first | omega | assumption | (simp only [lens]; first | omega | assumption) | (simp [lens]; done) | (simp [lens]; omega)) ?_) | (refine st_load rfl 24 _ rfl hm rfl 4 rfl agg24 (by first | omega | assumption | (simp only [lens]; first | omega | assumption) | (simp [lens]; done) | (simp [lens]; omega)) ?_) | (refine st_part rfl 24 _ rfl hm rfl 0 rfl agg24 (by first | omega | assumption | (simp only [lens]; first | omega | assumption) | (simp [lens]; done) | (simp [lens]; omega)) ?_) | (refine st_part rfl 24 _ rfl hm rfl 1 rfl agg24 (by first | omega | assumption | (simp only [lens]; first | omega | assumption) | (simp [lens]; done) | (simp [lens]; omega)) ?_) | (refine st_part rfl 24 _ rfl hm rfl 2 rfl agg24 (by first | omega | assumption | (simp only [lens]; first | omega | assumption) | (simp [lens]; done) | (simp [lens]; omega)) ?_) | (refine st_part rfl 24 _ rfl hm rfl 3 rfl agg24 (by first | omega | assumption | (simp only [lens]; first | omega | assumption) | (simp [lens]; done) | (simp [lens]; omega)) ?_) | (refine st_part rfl 24 _ rfl hm rfl 4 rfl agg24 (by first | omega | assumption | (simp only [lens]; first | omega | assumption) | (simp [lens]; done) | (simp [lens]; omega)) ?_))) | ((with_reducible refine gt_store 24 ?_); (first | (refine st_full rfl 24 _ _ rfl hm rfl rfl 0 rfl agg24 (by first | omega | assumption | (simp only [lens]; first | omega | assumption) | (simp [lens]; done) | (simp [lens]; omega)) (by first | omega | assumption | (simp only [lens]; first | omega | assumption) | (simp [lens]; done) | (simp [lens]; omega)) ?_) | (refine st_full rfl 24 _ _ rfl hm rfl rfl 1 rfl agg24 (by first | omega | assumption | (simp only [lens]; first | omega | assumption) | (simp [lens]; done) | (simp [lens]; omega)) (by first | omega | assumption | (simp only [lens]; first | omega | assumption) | (simp [lens]; done) | (simp [lens]; omega)) ?_) | (refine st_full rfl 24 _ _ rfl hm rfl rfl 2 rfl agg24 (by first | omega | assumption | (simp only [lens]; first | omega | assumption) | (simp [lens]; done) | (simp [lens]; omega)) (by first | omega | assumption | (simp only [lens]; first | omega | assumption) | (simp [lens]; done) | (simp [lens]; omega)) ?_) | (refine st_full rfl 24 _ _ rfl hm rfl rfl 3 rfl agg24 (by first | omega | assumption | (simp only [lens]; first | omega | assumption) | (simp [lens]; done) | (simp [lens]; omega)) (by first | omega | assumption | (simp only [lens]; first | omega | assumption) | (simp [lens]; done) | (simp [lens]; omega)) ?_) | (refine st_full rfl 24 _ _ rfl hm rfl rfl 4 rfl agg24 (by first | omega | assumption | (simp only [lens]; first | omega | assumption) | (simp [lens]; done) | (simp [lens]; omega)) (by first | omega | assumption | (simp only [lens]; first | omega | assumption) | (simp [lens]; done) | (simp [lens]; omega)) ?_) | (refine st_put rfl 24 _ _ rfl hm rfl rfl 0 rfl agg24 (by first | omega | assumption | (simp only [lens]; first | omega | assumption) | (simp [lens]; done) | (simp [lens]; omega)) (by first | omega | assumption | (simp only [lens]; first | omega | assumption) | (simp [lens]; done) | (simp [lens]; omega)) ?_) | (refine st_put rfl 24 _ _ rfl hm rfl rfl 1 rfl agg24 (by first | omega | assumption | (simp only [lens]; first | omega | assumption) | (simp [lens]; done) | (simp [lens]; omega)) (by first | omega | assumption | (simp only [lens]; first | omega | assumption) | (simp [lens]; done) | (simp [lens]; omega)) ?_) | (refine st_put rfl 24 _ _ rfl hm rfl rfl 2 rfl agg24 (by first | omega | assumption | (simp only [lens]; first | omega | assumption) | (simp [lens]; done) | (simp [lens]; omega)) (by first | omega | assumption | (simp only [lens]; first | omega | assumption) | (simp [lens]; done) | (simp [lens]; omega)) ?_) | (refine st_put rfl 24 _ _ rfl hm rfl rfl 3 rfl agg24 (by first | omega | assumption | (simp only [lens]; first | omega | assumption) | (simp [lens]; done) | (simp [lens]; omega)) (by first | omega | assumption | (simp only [lens]; first | omega | assumption) | (simp [lens]; done) | (simp [lens]; omega)) ?_) | (refine st_put rfl 24 _ _ rfl hm rfl rfl 4 rfl agg24 (by first | omega | assumption | (simp only [lens]; first | omega | assumption) | (simp [lens]; done) | (simp [lens]; omega)) (by first | omega | assumption | (simp only [lens]; first | omega | assumption) | (simp [lens]; done) | (simp [lens]; omega)) ?_)); clear hm; intro ws hm; simp only [List.set_cons_zero, List.set_cons_succ] at hm))
   ((try simp only [Exit.inBlock, Exit.then]); (first | (refine ret_cell hm rfl rfl 1 rfl agg24 (by first | omega | assumption | (simp only [lens]; first | omega | assumption) | (simp [lens]; done) | (simp [lens]; omega)) rfl ?_) | (refine ret_cell_tmp hm rfl rfl 1 rfl agg24 (by first | omega | assumption | (simp only [lens]; first | omega | assumption) | (simp [lens]; done) | (simp [lens]; omega)) rfl ?_)))
   exact ⟨by rw [HI.out], hm.done rfl⟩
set_option maxHeartbeats 4000000 in
set_option maxRecDepth 100000 in
theorem toLocker_calls (L : List Int) (w : World) (hl : L.length = 44) : Calls Try.prog 7 #[.agg (vals .i16 L)] w fun e w' => e = .returned (.agg (vals .i16 L)) ∧ Below w.heap.size w w' := by
 have hm := Mem.start w
 have HL := Aside0.mk (halves L hl)
 go_enter Try.func7, Try.ntmps7
 go_wp2_with (first
  | (first | fail | ((with_reducible refine gt_box 1 26 ?_); refine st_box rfl 1 rfl 26 _ rfl hm (v := .agg (vals _ _)) rfl (cs := vals _ _) rfl ?_; clear hm; intro g1 w1 hm) | ((with_reducible refine gt_alloc 2 31 ?_); refine st_alloc rfl 2 rfl 31 rfl hm zero31 ?_; clear hm; intro g2 w2 hm) | ((with_reducible refine gt_alloc 3 31 ?_); refine st_alloc rfl 3 rfl 31 rfl hm zero31 ?_; clear hm; intro g3 w3 hm) | ((with_reducible refine gt_field 26 0 ?_); refine st_field rfl 26 _ 0 rfl rfl field26_0 ?_) | ((with_reducible refine gt_load 23 ?_); (first | (refine st_part rfl 23 _ rfl hm rfl 0 rfl agg23 (by first | omega | assumption | (simp only [lens]; first | omega | assumption) | (simp [lens]; done) | (simp [lens]; omega)) ?_) | (refine st_part rfl 23 _ rfl hm rfl 1 rfl agg23 (by first | omega | assumption | (simp only [lens]; first | omega | assumption) | (simp [lens]; done) | (simp [lens]; omega)) ?_) | (refine st_part rfl 23 _ rfl hm rfl 2 rfl agg23 (by first | omega | assumption | (simp only [lens]; first | omega | assumption) | (simp [lens]; done) | (simp [lens]; omega)) ?_) | (refine st_part rfl 23 _ rfl hm rfl 3 rfl agg23 (by first | omega | assumption | (simp only [lens]; first | omega | assumption) | (simp [lens]; done) | (simp [lens]; omega)) ?_) | (refine st_part rfl 23 _ rfl hm rfl 4 rfl agg23 (by first | omega | assumption | (simp only [lens]; first | omega | assumption) | (simp [lens]; done) | (simp [lens]; omega)) ?_))) | ((with_reducible refine gt_field 31 0 ?_); refine st_field rfl 31 _ 0 rfl rfl field31_0 ?_) | ((with_reducible refine gt_store 23 ?_); (first | (refine st_put rfl 23 _ _ rfl hm rfl rfl 0 rfl agg23 (by first | omega | assumption | (simp only [lens]; first | omega | assumption) | (simp [lens]; done) | (simp [lens]; omega)) (by first | omega | assumption | (simp only [lens]; first | omega | assumption) | (simp [lens]; done) | (simp [lens]; omega)) ?_) | (refine st_put rfl 23 _ _ rfl hm rfl rfl 1 rfl agg23 (by first | omega | assumption | (simp only [lens]; first | omega | assumption) | (simp [lens]; done) | (simp [lens]; omega)) (by first | omega | assumption | (simp only [lens]; first | omega | assumption) | (simp [lens]; done) | (simp [lens]; omega)) ?_) | (refine st_put rfl 23 _ _ rfl hm rfl rfl 2 rfl agg23 (by first | omega | assumption | (simp only [lens]; first | omega | assumption) | (simp [lens]; done) | (simp [lens]; omega)) (by first | omega | assumption | (simp only [lens]; first | omega | assumption) | (simp [lens]; done) | (simp [lens]; omega)) ?_) | (refine st_put rfl 23 _ _ rfl hm rfl rfl 3 rfl agg23 (by first | omega | assumption | (simp only [lens]; first | omega | assumption) | (simp [lens]; done) | (simp [lens]; omega)) (by first | omega | assumption | (simp only [lens]; first | omega | assumption) | (simp [lens]; done) | (simp [lens]; omega)) ?_) | (refine st_put rfl 23 _ _ rfl hm rfl rfl 4 rfl agg23 (by first | omega | assumption | (simp only [lens]; first | omega | assumption) | (simp [lens]; done) | (simp [lens]; omega)) (by first | omega | assumption | (simp only [lens]; first | omega | assumption) | (simp [lens]; done) | (simp [lens]; omega)) ?_)); clear hm; intro ws hm; simp only [List.set_cons_zero, List.set_cons_succ] at hm) | ((with_reducible refine gt_field 26 1 ?_); refine st_field rfl 26 _ 1 rfl rfl field26_1 ?_) | ((with_reducible refine gt_load 24 ?_); (first | (refine st_part rfl 24 _ rfl hm rfl 0 rfl agg24 (by first | omega | assumption | (simp only [lens]; first | omega | assumption) | (simp [lens]; done) | (simp [lens]; omega)) ?_) | (refine st_part rfl 24 _ rfl hm rfl 1 rfl agg24 (by first | omega | assumption | (simp only [lens]; first | omega | assumption) | (simp [lens]; done) | (simp [lens]; omega)) ?_) | (refine st_part rfl 24 _ rfl hm rfl 2 rfl agg24 (by first | omega | assumption | (simp only [lens]; first | omega | assumption) | (simp [lens]; done) | (simp [lens]; omega)) ?_) | (refine st_part rfl 24 _ rfl hm rfl 3 rfl agg24 (by first | omega | assumption | (simp only [lens]; first | omega | assumption) | (simp [lens]; done) | (simp [lens]; omega)) ?_) | (refine st_part rfl 24 _ rfl hm rfl 4 rfl agg24 (by first | omega | assumption | (simp only [lens]; first | omega | assumption) | (simp [lens]; done) | (simp [lens]; omega)) ?_))) | ((with_reducible refine gt_field 31 1 ?_); refine st_field rfl 31 _ 1 rfl rfl field31_1 ?_) | ((with_reducible refine gt_store 24 ?_); (first | (refine st_put rfl 24 _ _ rfl hm rfl rfl 0 rfl agg24 (by first | omega | assumption | (simp only [lens]; first | omega | assumption) | (simp [lens]; done) | (simp [lens]; omega)) (by first | omega | assumption | (simp only [lens]; first | omega | assumption) | (simp [lens]; done) | (simp [lens]; omega)) ?_) | (refine st_put rfl 24 _ _ rfl hm rfl rfl 1 rfl agg24 (by first | omega | assumption | (simp only [lens]; first | omega | assumption) | (simp [lens]; done) | (simp [lens]; omega)) (by first | omega | assumption | (simp only [lens]; first | omega | assumption) | (simp [lens]; done) | (simp [lens]; omega)) ?_) | (refine st_put rfl 24 _ _ rfl hm rfl rfl 2 rfl agg24 (by first | omega | assumption | (simp only [lens]; first | omega | assumption) | (simp [lens]; done) | (simp [lens]; omega)) (by first | omega | assumption | (simp only [lens]; first | omega | assumption) | (simp [lens]; done) | (simp [lens]; omega)) ?_) | (refine st_put rfl 24 _ _ rfl hm rfl rfl 3 rfl agg24 (by first | omega | assumption | (simp only [lens]; first | omega | assumption) | (simp [lens]; done) | (simp [lens]; omega)) (by first | omega | assumption | (simp only [lens]; first | omega | assumption) | (simp [lens]; done) | (simp [lens]; omega)) ?_) | (refine st_put rfl 24 _ _ rfl hm rfl rfl 4 rfl agg24 (by first | omega | assumption | (simp only [lens]; first | omega | assumption) | (simp [lens]; done) | (simp [lens]; omega)) (by first | omega | assumption | (simp only [lens]; first | omega | assumption) | (simp [lens]; done) | (simp [lens]; omega)) ?_)); clear hm; intro ws hm; simp only [List.set_cons_zero, List.set_cons_succ] at hm) | ((with_reducible refine gt_load 31 ?_); (first | (refine st_load rfl 31 _ rfl hm rfl 0 rfl agg31 (by first | omega | assumption | (simp only [lens]; first | omega | assumption) | (simp [lens]; done) | (simp [lens]; omega)) ?_) | (refine st_load rfl 31 _ rfl hm rfl 1 rfl agg31 (by first | omega | assumption | (simp only [lens]; first | omega | assumption) | (simp [lens]; done) | (simp [lens]; omega)) ?_) | (refine st_load rfl 31 _ rfl hm rfl 2 rfl agg31 (by first | omega | assumption | (simp only [lens]; first | omega | assumption) | (simp [lens]; done) | (simp [lens]; omega)) ?_) | (refine st_load rfl 31 _ rfl hm rfl 3 rfl agg31 (by first | omega | assumption | (simp only [lens]; first | omega | assumption) | (simp [lens]; done) | (simp [lens]; omega)) ?_) | (refine st_load rfl 31 _ rfl hm rfl 4 rfl agg31 (by first | omega | assumption | (simp only [lens]; first | omega | assumption) | (simp [lens]; done) | (simp [lens]; omega)) ?_))) | ((with_reducible refine gt_store 31 ?_); (first | (refine st_full rfl 31 _ _ rfl hm rfl rfl 0 rfl agg31 (by first | omega | assumption | (simp only [lens]; first | omega | assumption) | (simp [lens]; done) | (simp [lens]; omega)) (by first | omega | assumption | (simp only [lens]; first | omega | assumption) | (simp [lens]; done) | (simp [lens]; omega)) ?_) | (refine st_full rfl 31 _ _ rfl hm rfl rfl 1 rfl agg31 (by first | omega | assumption | (simp only [lens]; first | omega | assumption) | (simp [lens]; done) | (simp [lens]; omega)) (by first | omega | assumption | (simp only [lens]; first | omega | assumption) | (simp [lens]; done) | (simp [lens]; omega)) ?_) | (refine st_full rfl 31 _ _ rfl hm rfl rfl 2 rfl agg31 (by first | omega | assumption | (simp only [lens]; first | omega | assumption) | (simp [lens]; done) | (simp [lens]; omega)) (by first | omega | assumption | (simp only [lens]; first | omega | assumption) | (simp [lens]; done) | (simp [lens]; omega)) ?_) | (refine st_full rfl 31 _ _ rfl hm rfl rfl 3 rfl agg31 (by first | omega | assumption | (simp only [lens]; first | omega | assumption) | (simp [lens]; done) | (simp [lens]; omega)) (by first | omega | assumption | (simp only [lens]; first | omega | assumption) | (simp [lens]; done) | (simp [lens]; omega)) ?_) | (refine st_full rfl 31 _ _ rfl hm rfl rfl 4 rfl agg31 (by first | omega | assumption | (simp only [lens]; first | omega | assumption) | (simp [lens]; done) | (simp [lens]; omega)) (by first | omega | assumption | (simp only [lens]; first | omega | assumption) | (simp [lens]; done) | (simp [lens]; omega)) ?_)); clear hm; intro ws hm; simp only [List.set_cons_zero, List.set_cons_succ] at hm))
  | (go_at_call 32; refine (toInt16A40_calls _ _ (by first | omega | assumption | (simp only [lens]; first | omega | assumption) | (simp [lens]; done) | (simp [lens]; omega))).mono ?_; rintro e wa ⟨rfl, hb⟩; replace hm := hm.after hb; clear hb)
  | (go_at_call 33; refine (toInt16A4_calls _ _ (by first | omega | assumption | (simp only [lens]; first | omega | assumption) | (simp [lens]; done) | (simp [lens]; omega))).mono ?_; rintro e wa ⟨rfl, hb⟩; replace hm := hm.after hb; clear hb))
 ((try simp only [Exit.inBlock, Exit.then]); (first | (refine ret_cell hm rfl rfl 1 rfl agg31 (by first | omega | assumption | (simp only [lens]; first | omega | assumption) | (simp [lens]; done) | (simp [lens]; omega)) rfl ?_) | (refine ret_cell_tmp hm rfl rfl 1 rfl agg31 (by first | omega | assumption | (simp only [lens]; first | omega | assumption) | (simp [lens]; done) | (simp [lens]; omega)) rfl ?_)))
 refine ⟨?_, hm.done rfl⟩
 have e : ∀ A B : List Int, A.length = 40 → B.length = 4 → List.take (0 + 40) (List.take (0 + 0) (zs 44) ++ A ++ List.drop (0 + 0 + 40) (zs 44)) ++ B ++ List.drop (0 + 40 + 4) (List.take (0 + 0) (zs 44) ++ A ++ List.drop (0 + 0 + 40) (zs 44)) = A ++ B := by
  intro A B ha hb
  simp only [Nat.zero_add, List.take_zero, List.nil_append]
  rw [List.take_left' ha, List.drop_of_length_le (i := 44) (by simp only [lens]; omega), List.append_nil]
 rw [e _ _ (by simp only [lens]; omega) (by simp only [lens]; omega)]
 rw [show List.take 40 L ++ List.take 4 (List.drop 40 L) = L from (by simpa using HL.out.symm)]
def okx (x : Int) : Bool := decide (0 ≤ x ∧ x ≤ 20)
def okL (L : List Int) : Bool := L.all okx
theorem okL_true {L : List Int} {n : Nat} (hl : L.length = n) (h : ∀ j : Nat, j < n → okx (rd L (j : Int)) = true) : okL L = true := by
 unfold okL
 rw [List.all_eq_true]
 intro x hx
 obtain ⟨j, hj, rfl⟩ := List.getElem_of_mem hx
 have := h j (by omega)
 rwa [rd_get L j hj] at this
theorem rd_in (L : List Int) (i : Nat) (h : i < L.length) : rd L (i : Int) ∈ L := by rw [rd_get L i h]; exact List.getElem_mem h
theorem rd_inI (L : List Int) (i : Int) (h0 : 0 ≤ i) (h : i < L.length) : rd L i ∈ L := by
 have := rd_in L i.toNat (by omega)
 rwa [Int.toNat_of_nonneg h0] at this
theorem okL_falseI {L : List Int} (i : Int) (h0 : 0 ≤ i) (hi : i < L.length) (h : okx (rd L i) = false) : okL L = false := by
 unfold okL
 rw [List.all_eq_false]
 exact ⟨_, rd_inI L i h0 hi, by simp [h]⟩
theorem okL_false {L : List Int} (i : Nat) (hi : i < L.length) (h : okx (rd L (i : Int)) = false) : okL L = false := by
 unfold okL
 rw [List.all_eq_false]
 exact ⟨_, rd_in L i hi, by simp [h]⟩
def Fits (k : IntKind) (L : List Int) : Prop := ∀ z ∈ L, (Lit.int k z).wf = true
theorem fits16 {x : Int} (h : (Lit.int .i16 x).wf = true) : -32768 ≤ x ∧ x ≤ 32767 := by
 simp only [Lit.wf, IntKind.min, IntKind.max, IntKind.signed, IntKind.bits, Bool.and_eq_true, decide_eq_true_eq, if_true] at h
 omega
set_option maxHeartbeats 4000000 in
set_option maxRecDepth 100000 in
theorem l04Ok_calls (g : Nat) (L : List Int) (w : World) (hl : L.length = 44) (hw : Fits .i16 L) (hg : w.heap[g]? = some (.cells (vals .i16 L) 31 (0, 0))) :
  Calls Try.prog 29 #[.pointer (some ⟨g, 0, none⟩)] w fun e w' => e = .returned (.bool (okL L)) ∧ Below w.heap.size w w' := by
 have hm := Mem.given hg
 have HG := Aside0.mk hg
 have HW := Aside0.mk hw
 clear hg hw
 go_enter Try.func29, Try.ntmps29
 go_wp2_with (first | fail | ((with_reducible refine gt_field 31 0 ?_); refine st_field rfl 31 _ 0 rfl rfl field31_0 ?_) | ((with_reducible refine gt_elem 23 ?_); refine st_elem rfl 23 _ _ rfl rfl rfl arr23 (by first | omega | assumption | (simp only [lens]; first | omega | assumption) | (simp [lens]; done) | (simp [lens]; omega)) (by first | omega | assumption | (simp only [lens]; first | omega | assumption) | (simp [lens]; done) | (simp [lens]; omega)) ?_) | ((with_reducible refine gt_load 22 ?_); (first | (refine st_get rfl 22 _ rfl hm rfl 0 rfl one22 (by first | omega | assumption | (simp only [lens]; first | omega | assumption) | (simp [lens]; done) | (simp [lens]; omega)) ?_) | (refine st_get rfl 22 _ rfl hm rfl 1 rfl one22 (by first | omega | assumption | (simp only [lens]; first | omega | assumption) | (simp [lens]; done) | (simp [lens]; omega)) ?_))) | ((with_reducible refine gt_field 31 1 ?_); refine st_field rfl 31 _ 1 rfl rfl field31_1 ?_) | ((with_reducible refine gt_elem 24 ?_); refine st_elem rfl 24 _ _ rfl rfl rfl arr24 (by first | omega | assumption | (simp only [lens]; first | omega | assumption) | (simp [lens]; done) | (simp [lens]; omega)) (by first | omega | assumption | (simp only [lens]; first | omega | assumption) | (simp [lens]; done) | (simp [lens]; omega)) ?_))
 go_loopw [3] (fun v3 wr => ∃ i : Nat, i ≤ 40 ∧ v3 = .int .i64 i ∧ Aside0 (∀ j : Nat, j < i → okx (rd L (j : Int)) = true) ∧ Mem w wr [⟨g, vals .i16 L, 31, false⟩]) (fun v3 _ => 40 - (intOf v3).toNat)
 case atStart => exact ⟨0, by omega, rfl, ⟨fun j hj => absurd hj (by omega)⟩, hm⟩
 case round =>
  obtain ⟨i, hi, rfl, HJ, hm⟩ := hrel
  by_cases hlt : i < 40
  ·have hx16 := fits16 (HW.out _ (rd_in L i (by omega)))
   by_cases hx : 0 ≤ rd L (i : Int) ∧ rd L (i : Int) ≤ 20
   ·go_wp2_with (first
     | (first | fail | ((with_reducible refine gt_field 31 0 ?_); refine st_field rfl 31 _ 0 rfl rfl field31_0 ?_) | ((with_reducible refine gt_elem 23 ?_); refine st_elem rfl 23 _ _ rfl rfl rfl arr23 (by first | omega | assumption | (simp only [lens]; first | omega | assumption) | (simp [lens]; done) | (simp [lens]; omega)) (by first | omega | assumption | (simp only [lens]; first | omega | assumption) | (simp [lens]; done) | (simp [lens]; omega)) ?_) | ((with_reducible refine gt_load 22 ?_); (first | (refine st_get rfl 22 _ rfl hm rfl 0 rfl one22 (by first | omega | assumption | (simp only [lens]; first | omega | assumption) | (simp [lens]; done) | (simp [lens]; omega)) ?_) | (refine st_get rfl 22 _ rfl hm rfl 1 rfl one22 (by first | omega | assumption | (simp only [lens]; first | omega | assumption) | (simp [lens]; done) | (simp [lens]; omega)) ?_))) | ((with_reducible refine gt_field 31 1 ?_); refine st_field rfl 31 _ 1 rfl rfl field31_1 ?_) | ((with_reducible refine gt_elem 24 ?_); refine st_elem rfl 24 _ _ rfl rfl rfl arr24 (by first | omega | assumption | (simp only [lens]; first | omega | assumption) | (simp [lens]; done) | (simp [lens]; omega)) (by first | omega | assumption | (simp only [lens]; first | omega | assumption) | (simp [lens]; done) | (simp [lens]; omega)) ?_))
     | (go_at_call 42; refine (in_calls _ _ _ _).mono ?_; rintro e wa ⟨rfl, hb⟩; replace hm := hm.after hb; clear hb))
    go_roundw
    case rel =>
     have HX := hx
     exact ⟨i + 1, by omega, by go_num, ⟨fun j hj => by
      rcases Nat.lt_or_ge j i with h | h
      ·exact HJ.out j h
      ·obtain rfl : j = i := by omega
       simp [okx, HX]⟩, hm⟩
    case measure => simp [intOf]; omega
   ·have HX := Aside0.mk (okL_false (L := L) i (by omega) (by unfold okx; exact decide_eq_false hx))
    go_wp2_with (first
     | (first | fail | ((with_reducible refine gt_field 31 0 ?_); refine st_field rfl 31 _ 0 rfl rfl field31_0 ?_) | ((with_reducible refine gt_elem 23 ?_); refine st_elem rfl 23 _ _ rfl rfl rfl arr23 (by first | omega | assumption | (simp only [lens]; first | omega | assumption) | (simp [lens]; done) | (simp [lens]; omega)) (by first | omega | assumption | (simp only [lens]; first | omega | assumption) | (simp [lens]; done) | (simp [lens]; omega)) ?_) | ((with_reducible refine gt_load 22 ?_); (first | (refine st_get rfl 22 _ rfl hm rfl 0 rfl one22 (by first | omega | assumption | (simp only [lens]; first | omega | assumption) | (simp [lens]; done) | (simp [lens]; omega)) ?_) | (refine st_get rfl 22 _ rfl hm rfl 1 rfl one22 (by first | omega | assumption | (simp only [lens]; first | omega | assumption) | (simp [lens]; done) | (simp [lens]; omega)) ?_))) | ((with_reducible refine gt_field 31 1 ?_); refine st_field rfl 31 _ 1 rfl rfl field31_1 ?_) | ((with_reducible refine gt_elem 24 ?_); refine st_elem rfl 24 _ _ rfl rfl rfl arr24 (by first | omega | assumption | (simp only [lens]; first | omega | assumption) | (simp [lens]; done) | (simp [lens]; omega)) (by first | omega | assumption | (simp only [lens]; first | omega | assumption) | (simp [lens]; done) | (simp [lens]; omega)) ?_))
     | (go_at_call 42; refine (in_calls _ _ _ _).mono ?_; rintro e wa ⟨rfl, hb⟩; replace hm := hm.after hb; clear hb))
    go_ret
    exact ⟨by rw [HX.out]; rfl, (hm.gives (M := []) rfl).below HG.out⟩
  ·have HI := Aside0.mk (show i = 40 by omega)
   go_wp2_with (first | fail | ((with_reducible refine gt_field 31 0 ?_); refine st_field rfl 31 _ 0 rfl rfl field31_0 ?_) | ((with_reducible refine gt_elem 23 ?_); refine st_elem rfl 23 _ _ rfl rfl rfl arr23 (by first | omega | assumption | (simp only [lens]; first | omega | assumption) | (simp [lens]; done) | (simp [lens]; omega)) (by first | omega | assumption | (simp only [lens]; first | omega | assumption) | (simp [lens]; done) | (simp [lens]; omega)) ?_) | ((with_reducible refine gt_load 22 ?_); (first | (refine st_get rfl 22 _ rfl hm rfl 0 rfl one22 (by first | omega | assumption | (simp only [lens]; first | omega | assumption) | (simp [lens]; done) | (simp [lens]; omega)) ?_) | (refine st_get rfl 22 _ rfl hm rfl 1 rfl one22 (by first | omega | assumption | (simp only [lens]; first | omega | assumption) | (simp [lens]; done) | (simp [lens]; omega)) ?_))) | ((with_reducible refine gt_field 31 1 ?_); refine st_field rfl 31 _ 1 rfl rfl field31_1 ?_) | ((with_reducible refine gt_elem 24 ?_); refine st_elem rfl 24 _ _ rfl rfl rfl arr24 (by first | omega | assumption | (simp only [lens]; first | omega | assumption) | (simp [lens]; done) | (simp [lens]; omega)) (by first | omega | assumption | (simp only [lens]; first | omega | assumption) | (simp [lens]; done) | (simp [lens]; omega)) ?_))
   go_loopw [4] (fun v4 wr => ∃ i : Nat, i ≤ 4 ∧ v4 = .int .i64 i ∧ Aside0 (∀ j : Nat, j < 40 + i → okx (rd L (j : Int)) = true) ∧ Mem w wr [⟨g, vals .i16 L, 31, false⟩]) (fun v4 _ => 4 - (intOf v4).toNat)
   case atStart => exact ⟨0, by omega, rfl, ⟨fun j hj => HJ.out j (by rw [HI.out]; omega)⟩, hm⟩
   case round =>
    obtain ⟨i2, hi2, rfl, HJ2, hm⟩ := hrel
    by_cases hlt : i2 < 4
    ·have hx16 := fits16 (HW.out _ (rd_inI L (40 + (i2 : Int)) (by omega) (by omega)))
     by_cases hx : 0 ≤ rd L (40 + (i2 : Int)) ∧ rd L (40 + (i2 : Int)) ≤ 20
     ·go_wp2_with (first
       | (first | fail | ((with_reducible refine gt_field 31 0 ?_); refine st_field rfl 31 _ 0 rfl rfl field31_0 ?_) | ((with_reducible refine gt_elem 23 ?_); refine st_elem rfl 23 _ _ rfl rfl rfl arr23 (by first | omega | assumption | (simp only [lens]; first | omega | assumption) | (simp [lens]; done) | (simp [lens]; omega)) (by first | omega | assumption | (simp only [lens]; first | omega | assumption) | (simp [lens]; done) | (simp [lens]; omega)) ?_) | ((with_reducible refine gt_load 22 ?_); (first | (refine st_get rfl 22 _ rfl hm rfl 0 rfl one22 (by first | omega | assumption | (simp only [lens]; first | omega | assumption) | (simp [lens]; done) | (simp [lens]; omega)) ?_) | (refine st_get rfl 22 _ rfl hm rfl 1 rfl one22 (by first | omega | assumption | (simp only [lens]; first | omega | assumption) | (simp [lens]; done) | (simp [lens]; omega)) ?_))) | ((with_reducible refine gt_field 31 1 ?_); refine st_field rfl 31 _ 1 rfl rfl field31_1 ?_) | ((with_reducible refine gt_elem 24 ?_); refine st_elem rfl 24 _ _ rfl rfl rfl arr24 (by first | omega | assumption | (simp only [lens]; first | omega | assumption) | (simp [lens]; done) | (simp [lens]; omega)) (by first | omega | assumption | (simp only [lens]; first | omega | assumption) | (simp [lens]; done) | (simp [lens]; omega)) ?_))
       | (go_at_call 42; refine (in_calls _ _ _ _).mono ?_; rintro e wa ⟨rfl, hb⟩; replace hm := hm.after hb; clear hb))
      go_roundw
      case rel =>
       have HX := hx
       exact ⟨i2 + 1, by omega, by go_num, ⟨fun j hj => by
        rcases Nat.lt_or_ge j (40 + i2) with h | h
        ·exact HJ2.out j h
        ·obtain rfl : j = 40 + i2 := by omega
         rw [show ((40 + i2 : Nat) : Int) = 40 + (i2 : Int) by omega]
         simp [okx, HX]⟩, hm⟩
      case measure => simp [intOf]; omega
     ·have HX := Aside0.mk (okL_falseI (L := L) (40 + (i2 : Int)) (by omega) (by omega) (by unfold okx; exact decide_eq_false hx))
      go_wp2_with (first
       | (first | fail | ((with_reducible refine gt_field 31 0 ?_); refine st_field rfl 31 _ 0 rfl rfl field31_0 ?_) | ((with_reducible refine gt_elem 23 ?_); refine st_elem rfl 23 _ _ rfl rfl rfl arr23 (by first | omega | assumption | (simp only [lens]; first | omega | assumption) | (simp [lens]; done) | (simp [lens]; omega)) (by first | omega | assumption | (simp only [lens]; first | omega | assumption) | (simp [lens]; done) | (simp [lens]; omega)) ?_) | ((with_reducible refine gt_load 22 ?_); (first | (refine st_get rfl 22 _ rfl hm rfl 0 rfl one22 (by first | omega | assumption | (simp only [lens]; first | omega | assumption) | (simp [lens]; done) | (simp [lens]; omega)) ?_) | (refine st_get rfl 22 _ rfl hm rfl 1 rfl one22 (by first | omega | assumption | (simp only [lens]; first | omega | assumption) | (simp [lens]; done) | (simp [lens]; omega)) ?_))) | ((with_reducible refine gt_field 31 1 ?_); refine st_field rfl 31 _ 1 rfl rfl field31_1 ?_) | ((with_reducible refine gt_elem 24 ?_); refine st_elem rfl 24 _ _ rfl rfl rfl arr24 (by first | omega | assumption | (simp only [lens]; first | omega | assumption) | (simp [lens]; done) | (simp [lens]; omega)) (by first | omega | assumption | (simp only [lens]; first | omega | assumption) | (simp [lens]; done) | (simp [lens]; omega)) ?_))
       | (go_at_call 42; refine (in_calls _ _ _ _).mono ?_; rintro e wa ⟨rfl, hb⟩; replace hm := hm.after hb; clear hb))
      go_ret
      exact ⟨by rw [HX.out]; rfl, (hm.gives (M := []) rfl).below HG.out⟩
    ·have HX := Aside0.mk (okL_true hl (fun j hj => HJ2.out j (by omega)))
     go_wp2_with (first | fail | ((with_reducible refine gt_field 31 0 ?_); refine st_field rfl 31 _ 0 rfl rfl field31_0 ?_) | ((with_reducible refine gt_elem 23 ?_); refine st_elem rfl 23 _ _ rfl rfl rfl arr23 (by first | omega | assumption | (simp only [lens]; first | omega | assumption) | (simp [lens]; done) | (simp [lens]; omega)) (by first | omega | assumption | (simp only [lens]; first | omega | assumption) | (simp [lens]; done) | (simp [lens]; omega)) ?_) | ((with_reducible refine gt_load 22 ?_); (first | (refine st_get rfl 22 _ rfl hm rfl 0 rfl one22 (by first | omega | assumption | (simp only [lens]; first | omega | assumption) | (simp [lens]; done) | (simp [lens]; omega)) ?_) | (refine st_get rfl 22 _ rfl hm rfl 1 rfl one22 (by first | omega | assumption | (simp only [lens]; first | omega | assumption) | (simp [lens]; done) | (simp [lens]; omega)) ?_))) | ((with_reducible refine gt_field 31 1 ?_); refine st_field rfl 31 _ 1 rfl rfl field31_1 ?_) | ((with_reducible refine gt_elem 24 ?_); refine st_elem rfl 24 _ _ rfl rfl rfl arr24 (by first | omega | assumption | (simp only [lens]; first | omega | assumption) | (simp [lens]; done) | (simp [lens]; omega)) (by first | omega | assumption | (simp only [lens]; first | omega | assumption) | (simp [lens]; done) | (simp [lens]; omega)) ?_))
     go_ret
     exact ⟨by rw [HX.out]; rfl, (hm.gives (M := []) rfl).below HG.out⟩
theorem mix_all (L : List Int) (hl : L.length = 44) : mixTo (mixTo (zs 44) L 0 40) (L.drop 40) 40 4 = L := by
 have h1 : (L.take 40).length = 40 := by simp only [lens]; omega
 unfold mixTo
 simp only [Nat.zero_add, List.take_zero, List.nil_append]
 rw [List.take_left' h1, List.take_of_length_le (l := L.drop 40) (by simp only [lens]; omega), List.drop_of_length_le (i := 40 + 4) (by simp only [lens]; omega), List.append_nil, List.take_append_drop]
set_option maxHeartbeats 4000000 in
set_option maxRecDepth 100000 in
theorem pieces_calls (L : List Int) (w : World) (hl : L.length = 44) (hw : Fits .i16 L) : Calls Try.prog 36 #[.agg (vals .i16 L)] w fun e w' =>
  e = .returned (.agg (vals .i64 L)) ∧ Below w.heap.size w w' := by
 have hm := Mem.start w
 have HW := Aside0.mk hw
 have HL := Aside0.mk (halves L hl)
 clear hw
 go_enter Try.func36, Try.ntmps36
 go_wp2_with (first | fail | ((with_reducible refine gt_box 1 31 ?_); refine st_box rfl 1 rfl 31 _ rfl hm (v := .agg (vals _ _)) rfl (cs := vals _ _) rfl ?_; clear hm; intro g1 w1 hm) | ((with_reducible refine gt_alloc 2 71 ?_); refine st_alloc rfl 2 rfl 71 rfl hm zero71 ?_; clear hm; intro g2 w2 hm) | ((with_reducible refine gt_build 71 ?_); refine st_zero rfl 71 rfl built71 ?_) | ((with_reducible refine gt_alloc 3 71 ?_); refine st_alloc rfl 3 rfl 71 rfl hm zero71 ?_; clear hm; intro g3 w3 hm) | ((with_reducible refine gt_store 71 ?_); (first | (refine st_full rfl 71 _ _ rfl hm rfl rfl 0 rfl agg71 (by first | omega | assumption | (simp only [lens]; first | omega | assumption) | (simp [lens]; done) | (simp [lens]; omega)) (by first | omega | assumption | (simp only [lens]; first | omega | assumption) | (simp [lens]; done) | (simp [lens]; omega)) ?_) | (refine st_full rfl 71 _ _ rfl hm rfl rfl 1 rfl agg71 (by first | omega | assumption | (simp only [lens]; first | omega | assumption) | (simp [lens]; done) | (simp [lens]; omega)) (by first | omega | assumption | (simp only [lens]; first | omega | assumption) | (simp [lens]; done) | (simp [lens]; omega)) ?_) | (refine st_full rfl 71 _ _ rfl hm rfl rfl 2 rfl agg71 (by first | omega | assumption | (simp only [lens]; first | omega | assumption) | (simp [lens]; done) | (simp [lens]; omega)) (by first | omega | assumption | (simp only [lens]; first | omega | assumption) | (simp [lens]; done) | (simp [lens]; omega)) ?_) | (refine st_full rfl 71 _ _ rfl hm rfl rfl 3 rfl agg71 (by first | omega | assumption | (simp only [lens]; first | omega | assumption) | (simp [lens]; done) | (simp [lens]; omega)) (by first | omega | assumption | (simp only [lens]; first | omega | assumption) | (simp [lens]; done) | (simp [lens]; omega)) ?_) | (refine st_full rfl 71 _ _ rfl hm rfl rfl 4 rfl agg71 (by first | omega | assumption | (simp only [lens]; first | omega | assumption) | (simp [lens]; done) | (simp [lens]; omega)) (by first | omega | assumption | (simp only [lens]; first | omega | assumption) | (simp [lens]; done) | (simp [lens]; omega)) ?_)); clear hm; intro ws hm; simp only [List.set_cons_zero, List.set_cons_succ] at hm) | ((with_reducible refine gt_field 31 0 ?_); refine st_field rfl 31 _ 0 rfl rfl field31_0 ?_) | ((with_reducible refine gt_load 23 ?_); (first | (refine st_part rfl 23 _ rfl hm rfl 0 rfl agg23 (by first | omega | assumption | (simp only [lens]; first | omega | assumption) | (simp [lens]; done) | (simp [lens]; omega)) ?_) | (refine st_part rfl 23 _ rfl hm rfl 1 rfl agg23 (by first | omega | assumption | (simp only [lens]; first | omega | assumption) | (simp [lens]; done) | (simp [lens]; omega)) ?_) | (refine st_part rfl 23 _ rfl hm rfl 2 rfl agg23 (by first | omega | assumption | (simp only [lens]; first | omega | assumption) | (simp [lens]; done) | (simp [lens]; omega)) ?_) | (refine st_part rfl 23 _ rfl hm rfl 3 rfl agg23 (by first | omega | assumption | (simp only [lens]; first | omega | assumption) | (simp [lens]; done) | (simp [lens]; omega)) ?_) | (refine st_part rfl 23 _ rfl hm rfl 4 rfl agg23 (by first | omega | assumption | (simp only [lens]; first | omega | assumption) | (simp [lens]; done) | (simp [lens]; omega)) ?_))) | ((with_reducible refine gt_index 23 ?_); refine st_index rfl 23 _ _ rfl rfl rfl arr23 (by first | omega | assumption | (simp only [lens]; first | omega | assumption) | (simp [lens]; done) | (simp [lens]; omega)) (by first | omega | assumption | (simp only [lens]; first | omega | assumption) | (simp [lens]; done) | (simp [lens]; omega)) (by first | omega | assumption | (simp only [lens]; first | omega | assumption) | (simp [lens]; done) | (simp [lens]; omega)) ?_) | ((with_reducible refine gt_field 71 0 ?_); refine st_field rfl 71 _ 0 rfl rfl field71_0 ?_) | ((with_reducible refine gt_elem 68 ?_); refine st_elem rfl 68 _ _ rfl rfl rfl arr68 (by first | omega | assumption | (simp only [lens]; first | omega | assumption) | (simp [lens]; done) | (simp [lens]; omega)) (by first | omega | assumption | (simp only [lens]; first | omega | assumption) | (simp [lens]; done) | (simp [lens]; omega)) ?_) | ((with_reducible refine gt_store 3 ?_); (first | (refine st_set rfl 3 _ _ rfl hm rfl rfl 0 rfl one3 (by first | omega | assumption | (simp only [lens]; first | omega | assumption) | (simp [lens]; done) | (simp [lens]; omega)) ?_) | (refine st_set rfl 3 _ _ rfl hm rfl rfl 1 rfl one3 (by first | omega | assumption | (simp only [lens]; first | omega | assumption) | (simp [lens]; done) | (simp [lens]; omega)) ?_) | (refine st_set rfl 3 _ _ rfl hm rfl rfl 2 rfl one3 (by first | omega | assumption | (simp only [lens]; first | omega | assumption) | (simp [lens]; done) | (simp [lens]; omega)) ?_) | (refine st_set rfl 3 _ _ rfl hm rfl rfl 3 rfl one3 (by first | omega | assumption | (simp only [lens]; first | omega | assumption) | (simp [lens]; done) | (simp [lens]; omega)) ?_) | (refine st_set rfl 3 _ _ rfl hm rfl rfl 4 rfl one3 (by first | omega | assumption | (simp only [lens]; first | omega | assumption) | (simp [lens]; done) | (simp [lens]; omega)) ?_)); clear hm; intro ws hm; simp only [List.set_cons_zero, List.set_cons_succ] at hm) | ((with_reducible refine gt_field 31 1 ?_); refine st_field rfl 31 _ 1 rfl rfl field31_1 ?_) | ((with_reducible refine gt_load 24 ?_); (first | (refine st_part rfl 24 _ rfl hm rfl 0 rfl agg24 (by first | omega | assumption | (simp only [lens]; first | omega | assumption) | (simp [lens]; done) | (simp [lens]; omega)) ?_) | (refine st_part rfl 24 _ rfl hm rfl 1 rfl agg24 (by first | omega | assumption | (simp only [lens]; first | omega | assumption) | (simp [lens]; done) | (simp [lens]; omega)) ?_) | (refine st_part rfl 24 _ rfl hm rfl 2 rfl agg24 (by first | omega | assumption | (simp only [lens]; first | omega | assumption) | (simp [lens]; done) | (simp [lens]; omega)) ?_) | (refine st_part rfl 24 _ rfl hm rfl 3 rfl agg24 (by first | omega | assumption | (simp only [lens]; first | omega | assumption) | (simp [lens]; done) | (simp [lens]; omega)) ?_) | (refine st_part rfl 24 _ rfl hm rfl 4 rfl agg24 (by first | omega | assumption | (simp only [lens]; first | omega | assumption) | (simp [lens]; done) | (simp [lens]; omega)) ?_))) | ((with_reducible refine gt_index 24 ?_); refine st_index rfl 24 _ _ rfl rfl rfl arr24 (by first | omega | assumption | (simp only [lens]; first | omega | assumption) | (simp [lens]; done) | (simp [lens]; omega)) (by first | omega | assumption | (simp only [lens]; first | omega | assumption) | (simp [lens]; done) | (simp [lens]; omega)) (by first | omega | assumption | (simp only [lens]; first | omega | assumption) | (simp [lens]; done) | (simp [lens]; omega)) ?_) | ((with_reducible refine gt_field 71 1 ?_); refine st_field rfl 71 _ 1 rfl rfl field71_1 ?_) | ((with_reducible refine gt_elem 69 ?_); refine st_elem rfl 69 _ _ rfl rfl rfl arr69 (by first | omega | assumption | (simp only [lens]; first | omega | assumption) | (simp [lens]; done) | (simp [lens]; omega)) (by first | omega | assumption | (simp only [lens]; first | omega | assumption) | (simp [lens]; done) | (simp [lens]; omega)) ?_) | ((with_reducible refine gt_load 71 ?_); (first | (refine st_load rfl 71 _ rfl hm rfl 0 rfl agg71 (by first | omega | assumption | (simp only [lens]; first | omega | assumption) | (simp [lens]; done) | (simp [lens]; omega)) ?_) | (refine st_load rfl 71 _ rfl hm rfl 1 rfl agg71 (by first | omega | assumption | (simp only [lens]; first | omega | assumption) | (simp [lens]; done) | (simp [lens]; omega)) ?_) | (refine st_load rfl 71 _ rfl hm rfl 2 rfl agg71 (by first | omega | assumption | (simp only [lens]; first | omega | assumption) | (simp [lens]; done) | (simp [lens]; omega)) ?_) | (refine st_load rfl 71 _ rfl hm rfl 3 rfl agg71 (by first | omega | assumption | (simp only [lens]; first | omega | assumption) | (simp [lens]; done) | (simp [lens]; omega)) ?_) | (refine st_load rfl 71 _ rfl hm rfl 4 rfl agg71 (by first | omega | assumption | (simp only [lens]; first | omega | assumption) | (simp [lens]; done) | (simp [lens]; omega)) ?_))))
 go_loopw [11, 4, 5] (fun v11 v4 v5 wr => ∃ i : Nat, i ≤ 40 ∧ v11 = .int .i64 i ∧ Mem w wr [⟨g3, vals .i64 (mixTo (zs 44) L 0 i), 71, true⟩, ⟨g2, vals .i64 (zs 44), 71, true⟩, ⟨g1, vals .i16 L, 31, true⟩]) (fun v11 _ _ _ => 40 - (intOf v11).toNat)
 case atStart => exact ⟨0, by omega, rfl, by rw [mixTo_zero]; exact hm⟩
 case round =>
  obtain ⟨i, hi, rfl, hm⟩ := hrel
  have hl2 := mixTo_length (zs 44) L 0 i (by rw [zs_length]; omega) (by omega)
  rw [zs_length] at hl2
  by_cases hlt : i < 40
  ·have HR := Aside0.mk (rd_take L i 40 (by omega) (by omega))
   have hx16 := fits16 (HW.out _ (rd_in L i (by omega)))
   rw [← HR.out] at hx16
   go_wp2_with (first | fail | ((with_reducible refine gt_box 1 31 ?_); refine st_box rfl 1 rfl 31 _ rfl hm (v := .agg (vals _ _)) rfl (cs := vals _ _) rfl ?_; clear hm; intro g1 w1 hm) | ((with_reducible refine gt_alloc 2 71 ?_); refine st_alloc rfl 2 rfl 71 rfl hm zero71 ?_; clear hm; intro g2 w2 hm) | ((with_reducible refine gt_build 71 ?_); refine st_zero rfl 71 rfl built71 ?_) | ((with_reducible refine gt_alloc 3 71 ?_); refine st_alloc rfl 3 rfl 71 rfl hm zero71 ?_; clear hm; intro g3 w3 hm) | ((with_reducible refine gt_store 71 ?_); (first | (refine st_full rfl 71 _ _ rfl hm rfl rfl 0 rfl agg71 (by first | omega | assumption | (simp only [lens]; first | omega | assumption) | (simp [lens]; done) | (simp [lens]; omega)) (by first | omega | assumption | (simp only [lens]; first | omega | assumption) | (simp [lens]; done) | (simp [lens]; omega)) ?_) | (refine st_full rfl 71 _ _ rfl hm rfl rfl 1 rfl agg71 (by first | omega | assumption | (simp only [lens]; first | omega | assumption) | (simp [lens]; done) | (simp [lens]; omega)) (by first | omega | assumption | (simp only [lens]; first | omega | assumption) | (simp [lens]; done) | (simp [lens]; omega)) ?_) | (refine st_full rfl 71 _ _ rfl hm rfl rfl 2 rfl agg71 (by first | omega | assumption | (simp only [lens]; first | omega | assumption) | (simp [lens]; done) | (simp [lens]; omega)) (by first | omega | assumption | (simp only [lens]; first | omega | assumption) | (simp [lens]; done) | (simp [lens]; omega)) ?_) | (refine st_full rfl 71 _ _ rfl hm rfl rfl 3 rfl agg71 (by first | omega | assumption | (simp only [lens]; first | omega | assumption) | (simp [lens]; done) | (simp [lens]; omega)) (by first | omega | assumption | (simp only [lens]; first | omega | assumption) | (simp [lens]; done) | (simp [lens]; omega)) ?_) | (refine st_full rfl 71 _ _ rfl hm rfl rfl 4 rfl agg71 (by first | omega | assumption | (simp only [lens]; first | omega | assumption) | (simp [lens]; done) | (simp [lens]; omega)) (by first | omega | assumption | (simp only [lens]; first | omega | assumption) | (simp [lens]; done) | (simp [lens]; omega)) ?_)); clear hm; intro ws hm; simp only [List.set_cons_zero, List.set_cons_succ] at hm) | ((with_reducible refine gt_field 31 0 ?_); refine st_field rfl 31 _ 0 rfl rfl field31_0 ?_) | ((with_reducible refine gt_load 23 ?_); (first | (refine st_part rfl 23 _ rfl hm rfl 0 rfl agg23 (by first | omega | assumption | (simp only [lens]; first | omega | assumption) | (simp [lens]; done) | (simp [lens]; omega)) ?_) | (refine st_part rfl 23 _ rfl hm rfl 1 rfl agg23 (by first | omega | assumption | (simp only [lens]; first | omega | assumption) | (simp [lens]; done) | (simp [lens]; omega)) ?_) | (refine st_part rfl 23 _ rfl hm rfl 2 rfl agg23 (by first | omega | assumption | (simp only [lens]; first | omega | assumption) | (simp [lens]; done) | (simp [lens]; omega)) ?_) | (refine st_part rfl 23 _ rfl hm rfl 3 rfl agg23 (by first | omega | assumption | (simp only [lens]; first | omega | assumption) | (simp [lens]; done) | (simp [lens]; omega)) ?_) | (refine st_part rfl 23 _ rfl hm rfl 4 rfl agg23 (by first | omega | assumption | (simp only [lens]; first | omega | assumption) | (simp [lens]; done) | (simp [lens]; omega)) ?_))) | ((with_reducible refine gt_index 23 ?_); refine st_index rfl 23 _ _ rfl rfl rfl arr23 (by first | omega | assumption | (simp only [lens]; first | omega | assumption) | (simp [lens]; done) | (simp [lens]; omega)) (by first | omega | assumption | (simp only [lens]; first | omega | assumption) | (simp [lens]; done) | (simp [lens]; omega)) (by first | omega | assumption | (simp only [lens]; first | omega | assumption) | (simp [lens]; done) | (simp [lens]; omega)) ?_) | ((with_reducible refine gt_field 71 0 ?_); refine st_field rfl 71 _ 0 rfl rfl field71_0 ?_) | ((with_reducible refine gt_elem 68 ?_); refine st_elem rfl 68 _ _ rfl rfl rfl arr68 (by first | omega | assumption | (simp only [lens]; first | omega | assumption) | (simp [lens]; done) | (simp [lens]; omega)) (by first | omega | assumption | (simp only [lens]; first | omega | assumption) | (simp [lens]; done) | (simp [lens]; omega)) ?_) | ((with_reducible refine gt_store 3 ?_); (first | (refine st_set rfl 3 _ _ rfl hm rfl rfl 0 rfl one3 (by first | omega | assumption | (simp only [lens]; first | omega | assumption) | (simp [lens]; done) | (simp [lens]; omega)) ?_) | (refine st_set rfl 3 _ _ rfl hm rfl rfl 1 rfl one3 (by first | omega | assumption | (simp only [lens]; first | omega | assumption) | (simp [lens]; done) | (simp [lens]; omega)) ?_) | (refine st_set rfl 3 _ _ rfl hm rfl rfl 2 rfl one3 (by first | omega | assumption | (simp only [lens]; first | omega | assumption) | (simp [lens]; done) | (simp [lens]; omega)) ?_) | (refine st_set rfl 3 _ _ rfl hm rfl rfl 3 rfl one3 (by first | omega | assumption | (simp only [lens]; first | omega | assumption) | (simp [lens]; done) | (simp [lens]; omega)) ?_) | (refine st_set rfl 3 _ _ rfl hm rfl rfl 4 rfl one3 (by first | omega | assumption | (simp only [lens]; first | omega | assumption) | (simp [lens]; done) | (simp [lens]; omega)) ?_)); clear hm; intro ws hm; simp only [List.set_cons_zero, List.set_cons_succ] at hm) | ((with_reducible refine gt_field 31 1 ?_); refine st_field rfl 31 _ 1 rfl rfl field31_1 ?_) | ((with_reducible refine gt_load 24 ?_); (first | (refine st_part rfl 24 _ rfl hm rfl 0 rfl agg24 (by first | omega | assumption | (simp only [lens]; first | omega | assumption) | (simp [lens]; done) | (simp [lens]; omega)) ?_) | (refine st_part rfl 24 _ rfl hm rfl 1 rfl agg24 (by first | omega | assumption | (simp only [lens]; first | omega | assumption) | (simp [lens]; done) | (simp [lens]; omega)) ?_) | (refine st_part rfl 24 _ rfl hm rfl 2 rfl agg24 (by first | omega | assumption | (simp only [lens]; first | omega | assumption) | (simp [lens]; done) | (simp [lens]; omega)) ?_) | (refine st_part rfl 24 _ rfl hm rfl 3 rfl agg24 (by first | omega | assumption | (simp only [lens]; first | omega | assumption) | (simp [lens]; done) | (simp [lens]; omega)) ?_) | (refine st_part rfl 24 _ rfl hm rfl 4 rfl agg24 (by first | omega | assumption | (simp only [lens]; first | omega | assumption) | (simp [lens]; done) | (simp [lens]; omega)) ?_))) | ((with_reducible refine gt_index 24 ?_); refine st_index rfl 24 _ _ rfl rfl rfl arr24 (by first | omega | assumption | (simp only [lens]; first | omega | assumption) | (simp [lens]; done) | (simp [lens]; omega)) (by first | omega | assumption | (simp only [lens]; first | omega | assumption) | (simp [lens]; done) | (simp [lens]; omega)) (by first | omega | assumption | (simp only [lens]; first | omega | assumption) | (simp [lens]; done) | (simp [lens]; omega)) ?_) | ((with_reducible refine gt_field 71 1 ?_); refine st_field rfl 71 _ 1 rfl rfl field71_1 ?_) | ((with_reducible refine gt_elem 69 ?_); refine st_elem rfl 69 _ _ rfl rfl rfl arr69 (by first | omega | assumption | (simp only [lens]; first | omega | assumption) | (simp [lens]; done) | (simp [lens]; omega)) (by first | omega | assumption | (simp only [lens]; first | omega | assumption) | (simp [lens]; done) | (simp [lens]; omega)) ?_) | ((with_reducible refine gt_load 71 ?_); (first | (refine st_load rfl 71 _ rfl hm rfl 0 rfl agg71 (by first | omega | assumption | (simp only [lens]; first | omega | assumption) | (simp [lens]; done) | (simp [lens]; omega)) ?_) | (refine st_load rfl 71 _ rfl hm rfl 1 rfl agg71 (by first | omega | assumption | (simp only [lens]; first | omega | assumption) | (simp [lens]; done) | (simp [lens]; omega)) ?_) | (refine st_load rfl 71 _ rfl hm rfl 2 rfl agg71 (by first | omega | assumption | (simp only [lens]; first | omega | assumption) | (simp [lens]; done) | (simp [lens]; omega)) ?_) | (refine st_load rfl 71 _ rfl hm rfl 3 rfl agg71 (by first | omega | assumption | (simp only [lens]; first | omega | assumption) | (simp [lens]; done) | (simp [lens]; omega)) ?_) | (refine st_load rfl 71 _ rfl hm rfl 4 rfl agg71 (by first | omega | assumption | (simp only [lens]; first | omega | assumption) | (simp [lens]; done) | (simp [lens]; omega)) ?_))))
   go_roundw
   case rel =>
    refine ⟨i + 1, by omega, by go_num, ?_⟩
    rw [← mixTo_succ (zs 44) L 0 i (by rw [zs_length]; omega) (by omega), ← HR.out]
    simpa using hm
   case measure => simp [intOf]; omega
  ·have HI := Aside0.mk (show i = 40 by omega)
   generalize hF : mixTo (zs 44) L 0 i = F at *
   have HF := Aside0.mk hF
   clear hF
   go_wp2_with (first | fail | ((with_reducible refine gt_box 1 31 ?_); refine st_box rfl 1 rfl 31 _ rfl hm (v := .agg (vals _ _)) rfl (cs := vals _ _) rfl ?_; clear hm; intro g1 w1 hm) | ((with_reducible refine gt_alloc 2 71 ?_); refine st_alloc rfl 2 rfl 71 rfl hm zero71 ?_; clear hm; intro g2 w2 hm) | ((with_reducible refine gt_build 71 ?_); refine st_zero rfl 71 rfl built71 ?_) | ((with_reducible refine gt_alloc 3 71 ?_); refine st_alloc rfl 3 rfl 71 rfl hm zero71 ?_; clear hm; intro g3 w3 hm) | ((with_reducible refine gt_store 71 ?_); (first | (refine st_full rfl 71 _ _ rfl hm rfl rfl 0 rfl agg71 (by first | omega | assumption | (simp only [lens]; first | omega | assumption) | (simp [lens]; done) | (simp [lens]; omega)) (by first | omega | assumption | (simp only [lens]; first | omega | assumption) | (simp [lens]; done) | (simp [lens]; omega)) ?_) | (refine st_full rfl 71 _ _ rfl hm rfl rfl 1 rfl agg71 (by first | omega | assumption | (simp only [lens]; first | omega | assumption) | (simp [lens]; done) | (simp [lens]; omega)) (by first | omega | assumption | (simp only [lens]; first | omega | assumption) | (simp [lens]; done) | (simp [lens]; omega)) ?_) | (refine st_full rfl 71 _ _ rfl hm rfl rfl 2 rfl agg71 (by first | omega | assumption | (simp only [lens]; first | omega | assumption) | (simp [lens]; done) | (simp [lens]; omega)) (by first | omega | assumption | (simp only [lens]; first | omega | assumption) | (simp [lens]; done) | (simp [lens]; omega)) ?_) | (refine st_full rfl 71 _ _ rfl hm rfl rfl 3 rfl agg71 (by first | omega | assumption | (simp only [lens]; first | omega | assumption) | (simp [lens]; done) | (simp [lens]; omega)) (by first | omega | assumption | (simp only [lens]; first | omega | assumption) | (simp [lens]; done) | (simp [lens]; omega)) ?_) | (refine st_full rfl 71 _ _ rfl hm rfl rfl 4 rfl agg71 (by first | omega | assumption | (simp only [lens]; first | omega | assumption) | (simp [lens]; done) | (simp [lens]; omega)) (by first | omega | assumption | (simp only [lens]; first | omega | assumption) | (simp [lens]; done) | (simp [lens]; omega)) ?_)); clear hm; intro ws hm; simp only [List.set_cons_zero, List.set_cons_succ] at hm) | ((with_reducible refine gt_field 31 0 ?_); refine st_field rfl 31 _ 0 rfl rfl field31_0 ?_) | ((with_reducible refine gt_load 23 ?_); (first | (refine st_part rfl 23 _ rfl hm rfl 0 rfl agg23 (by first | omega | assumption | (simp only [lens]; first | omega | assumption) | (simp [lens]; done) | (simp [lens]; omega)) ?_) | (refine st_part rfl 23 _ rfl hm rfl 1 rfl agg23 (by first | omega | assumption | (simp only [lens]; first | omega | assumption) | (simp [lens]; done) | (simp [lens]; omega)) ?_) | (refine st_part rfl 23 _ rfl hm rfl 2 rfl agg23 (by first | omega | assumption | (simp only [lens]; first | omega | assumption) | (simp [lens]; done) | (simp [lens]; omega)) ?_) | (refine st_part rfl 23 _ rfl hm rfl 3 rfl agg23 (by first | omega | assumption | (simp only [lens]; first | omega | assumption) | (simp [lens]; done) | (simp [lens]; omega)) ?_) | (refine st_part rfl 23 _ rfl hm rfl 4 rfl agg23 (by first | omega | assumption | (simp only [lens]; first | omega | assumption) | (simp [lens]; done) | (simp [lens]; omega)) ?_))) | ((with_reducible refine gt_index 23 ?_); refine st_index rfl 23 _ _ rfl rfl rfl arr23 (by first | omega | assumption | (simp only [lens]; first | omega | assumption) | (simp [lens]; done) | (simp [lens]; omega)) (by first | omega | assumption | (simp only [lens]; first | omega | assumption) | (simp [lens]; done) | (simp [lens]; omega)) (by first | omega | assumption | (simp only [lens]; first | omega | assumption) | (simp [lens]; done) | (simp [lens]; omega)) ?_) | ((with_reducible refine gt_field 71 0 ?_); refine st_field rfl 71 _ 0 rfl rfl field71_0 ?_) | ((with_reducible refine gt_elem 68 ?_); refine st_elem rfl 68 _ _ rfl rfl rfl arr68 (by first | omega | assumption | (simp only [lens]; first | omega | assumption) | (simp [lens]; done) | (simp [lens]; omega)) (by first | omega | assumption | (simp only [lens]; first | omega | assumption) | (simp [lens]; done) | (simp [lens]; omega)) ?_) | ((with_reducible refine gt_store 3 ?_); (first | (refine st_set rfl 3 _ _ rfl hm rfl rfl 0 rfl one3 (by first | omega | assumption | (simp only [lens]; first | omega | assumption) | (simp [lens]; done) | (simp [lens]; omega)) ?_) | (refine st_set rfl 3 _ _ rfl hm rfl rfl 1 rfl one3 (by first | omega | assumption | (simp only [lens]; first | omega | assumption) | (simp [lens]; done) | (simp [lens]; omega)) ?_) | (refine st_set rfl 3 _ _ rfl hm rfl rfl 2 rfl one3 (by first | omega | assumption | (simp only [lens]; first | omega | assumption) | (simp [lens]; done) | (simp [lens]; omega)) ?_) | (refine st_set rfl 3 _ _ rfl hm rfl rfl 3 rfl one3 (by first | omega | assumption | (simp only [lens]; first | omega | assumption) | (simp [lens]; done) | (simp [lens]; omega)) ?_) | (refine st_set rfl 3 _ _ rfl hm rfl rfl 4 rfl one3 (by first | omega | assumption | (simp only [lens]; first | omega | assumption) | (simp [lens]; done) | (simp [lens]; omega)) ?_)); clear hm; intro ws hm; simp only [List.set_cons_zero, List.set_cons_succ] at hm) | ((with_reducible refine gt_field 31 1 ?_); refine st_field rfl 31 _ 1 rfl rfl field31_1 ?_) | ((with_reducible refine gt_load 24 ?_); (first | (refine st_part rfl 24 _ rfl hm rfl 0 rfl agg24 (by first | omega | assumption | (simp only [lens]; first | omega | assumption) | (simp [lens]; done) | (simp [lens]; omega)) ?_) | (refine st_part rfl 24 _ rfl hm rfl 1 rfl agg24 (by first | omega | assumption | (simp only [lens]; first | omega | assumption) | (simp [lens]; done) | (simp [lens]; omega)) ?_) | (refine st_part rfl 24 _ rfl hm rfl 2 rfl agg24 (by first | omega | assumption | (simp only [lens]; first | omega | assumption) | (simp [lens]; done) | (simp [lens]; omega)) ?_) | (refine st_part rfl 24 _ rfl hm rfl 3 rfl agg24 (by first | omega | assumption | (simp only [lens]; first | omega | assumption) | (simp [lens]; done) | (simp [lens]; omega)) ?_) | (refine st_part rfl 24 _ rfl hm rfl 4 rfl agg24 (by first | omega | assumption | (simp only [lens]; first | omega | assumption) | (simp [lens]; done) | (simp [lens]; omega)) ?_))) | ((with_reducible refine gt_index 24 ?_); refine st_index rfl 24 _ _ rfl rfl rfl arr24 (by first | omega | assumption | (simp only [lens]; first | omega | assumption) | (simp [lens]; done) | (simp [lens]; omega)) (by first | omega | assumption | (simp only [lens]; first | omega | assumption) | (simp [lens]; done) | (simp [lens]; omega)) (by first | omega | assumption | (simp only [lens]; first | omega | assumption) | (simp [lens]; done) | (simp [lens]; omega)) ?_) | ((with_reducible refine gt_field 71 1 ?_); refine st_field rfl 71 _ 1 rfl rfl field71_1 ?_) | ((with_reducible refine gt_elem 69 ?_); refine st_elem rfl 69 _ _ rfl rfl rfl arr69 (by first | omega | assumption | (simp only [lens]; first | omega | assumption) | (simp [lens]; done) | (simp [lens]; omega)) (by first | omega | assumption | (simp only [lens]; first | omega | assumption) | (simp [lens]; done) | (simp [lens]; omega)) ?_) | ((with_reducible refine gt_load 71 ?_); (first | (refine st_load rfl 71 _ rfl hm rfl 0 rfl agg71 (by first | omega | assumption | (simp only [lens]; first | omega | assumption) | (simp [lens]; done) | (simp [lens]; omega)) ?_) | (refine st_load rfl 71 _ rfl hm rfl 1 rfl agg71 (by first | omega | assumption | (simp only [lens]; first | omega | assumption) | (simp [lens]; done) | (simp [lens]; omega)) ?_) | (refine st_load rfl 71 _ rfl hm rfl 2 rfl agg71 (by first | omega | assumption | (simp only [lens]; first | omega | assumption) | (simp [lens]; done) | (simp [lens]; omega)) ?_) | (refine st_load rfl 71 _ rfl hm rfl 3 rfl agg71 (by first | omega | assumption | (simp only [lens]; first | omega | assumption) | (simp [lens]; done) | (simp [lens]; omega)) ?_) | (refine st_load rfl 71 _ rfl hm rfl 4 rfl agg71 (by first | omega | assumption | (simp only [lens]; first | omega | assumption) | (simp [lens]; done) | (simp [lens]; omega)) ?_))))
   go_loopw [23, 6, 7] (fun v23 v6 v7 wr => ∃ i : Nat, i ≤ 4 ∧ v23 = .int .i64 i ∧ Mem w wr [⟨g3, vals .i64 (mixTo F (L.drop 40) 40 i), 71, true⟩, ⟨g2, vals .i64 (zs 44), 71, true⟩, ⟨g1, vals .i16 L, 31, true⟩]) (fun v23 _ _ _ => 4 - (intOf v23).toNat)
   case atStart => exact ⟨0, by omega, rfl, by rw [mixTo_zero]; exact hm⟩
   case round =>
    obtain ⟨i2, hi2, rfl, hm⟩ := hrel
    have hl3 := mixTo_length F (L.drop 40) 40 i2 (by omega) (by simp; omega)
    by_cases hlt : i2 < 4
    ·have HR := Aside0.mk (rd_take (L.drop 40) i2 4 (by omega) (by simp; omega))
     have hx16 := fits16 (HW.out _ (List.mem_of_mem_drop (rd_in (L.drop 40) i2 (by simp; omega))))
     rw [← HR.out] at hx16
     go_wp2_with (first | fail | ((with_reducible refine gt_box 1 31 ?_); refine st_box rfl 1 rfl 31 _ rfl hm (v := .agg (vals _ _)) rfl (cs := vals _ _) rfl ?_; clear hm; intro g1 w1 hm) | ((with_reducible refine gt_alloc 2 71 ?_); refine st_alloc rfl 2 rfl 71 rfl hm zero71 ?_; clear hm; intro g2 w2 hm) | ((with_reducible refine gt_build 71 ?_); refine st_zero rfl 71 rfl built71 ?_) | ((with_reducible refine gt_alloc 3 71 ?_); refine st_alloc rfl 3 rfl 71 rfl hm zero71 ?_; clear hm; intro g3 w3 hm) | ((with_reducible refine gt_store 71 ?_); (first | (refine st_full rfl 71 _ _ rfl hm rfl rfl 0 rfl agg71 (by first | omega | assumption | (simp only [lens]; first | omega | assumption) | (simp [lens]; done) | (simp [lens]; omega)) (by first | omega | assumption | (simp only [lens]; first | omega | assumption) | (simp [lens]; done) | (simp [lens]; omega)) ?_) | (refine st_full rfl 71 _ _ rfl hm rfl rfl 1 rfl agg71 (by first | omega | assumption | (simp only [lens]; first | omega | assumption) | (simp [lens]; done) | (simp [lens]; omega)) (by first | omega | assumption | (simp only [lens]; first | omega | assumption) | (simp [lens]; done) | (simp [lens]; omega)) ?_) | (refine st_full rfl 71 _ _ rfl hm rfl rfl 2 rfl agg71 (by first | omega | assumption | (simp only [lens]; first | omega | assumption) | (simp [lens]; done) | (simp [lens]; omega)) (by first | omega | assumption | (simp only [lens]; first | omega | assumption) | (simp [lens]; done) | (simp [lens]; omega)) ?_) | (refine st_full rfl 71 _ _ rfl hm rfl rfl 3 rfl agg71 (by first | omega | assumption | (simp only [lens]; first | omega | assumption) | (simp [lens]; done) | (simp [lens]; omega)) (by first | omega | assumption | (simp only [lens]; first | omega | assumption) | (simp [lens]; done) | (simp [lens]; omega)) ?_) | (refine st_full rfl 71 _ _ rfl hm rfl rfl 4 rfl agg71 (by first | omega | assumption | (simp only [lens]; first | omega | assumption) | (simp [lens]; done) | (simp [lens]; omega)) (by first | omega | assumption | (simp only [lens]; first | omega | assumption) | (simp [lens]; done) | (simp [lens]; omega)) ?_)); clear hm; intro ws hm; simp only [List.set_cons_zero, List.set_cons_succ] at hm) | ((with_reducible refine gt_field 31 0 ?_); refine st_field rfl 31 _ 0 rfl rfl field31_0 ?_) | ((with_reducible refine gt_load 23 ?_); (first | (refine st_part rfl 23 _ rfl hm rfl 0 rfl agg23 (by first | omega | assumption | (simp only [lens]; first | omega | assumption) | (simp [lens]; done) | (simp [lens]; omega)) ?_) | (refine st_part rfl 23 _ rfl hm rfl 1 rfl agg23 (by first | omega | assumption | (simp only [lens]; first | omega | assumption) | (simp [lens]; done) | (simp [lens]; omega)) ?_) | (refine st_part rfl 23 _ rfl hm rfl 2 rfl agg23 (by first | omega | assumption | (simp only [lens]; first | omega | assumption) | (simp [lens]; done) | (simp [lens]; omega)) ?_) | (refine st_part rfl 23 _ rfl hm rfl 3 rfl agg23 (by first | omega | assumption | (simp only [lens]; first | omega | assumption) | (simp [lens]; done) | (simp [lens]; omega)) ?_) | (refine st_part rfl 23 _ rfl hm rfl 4 rfl agg23 (by first | omega | assumption | (simp only [lens]; first | omega | assumption) | (simp [lens]; done) | (simp [lens]; omega)) ?_))) | ((with_reducible refine gt_index 23 ?_); refine st_index rfl 23 _ _ rfl rfl rfl arr23 (by first | omega | assumption | (simp only [lens]; first | omega | assumption) | (simp [lens]; done) | (simp [lens]; omega)) (by first | omega | assumption | (simp only [lens]; first | omega | assumption) | (simp [lens]; done) | (simp [lens]; omega)) (by first | omega | assumption | (simp only [lens]; first | omega | assumption) | (simp [lens]; done) | (simp [lens]; omega)) ?_) | ((with_reducible refine gt_field 71 0 ?_); refine st_field rfl 71 _ 0 rfl rfl field71_0 ?_) | ((with_reducible refine gt_elem 68 ?_); refine st_elem rfl 68 _ _ rfl rfl rfl arr68 (by first | omega | assumption | (simp only [lens]; first | omega | assumption) | (simp [lens]; done) | (simp [lens]; omega)) (by first | omega | assumption | (simp only [lens]; first | omega | assumption) | (simp [lens]; done) | (simp [lens]; omega)) ?_) | ((with_reducible refine gt_store 3 ?_); (first | (refine st_set rfl 3 _ _ rfl hm rfl rfl 0 rfl one3 (by first | omega | assumption | (simp only [lens]; first | omega | assumption) | (simp [lens]; done) | (simp [lens]; omega)) ?_) | (refine st_set rfl 3 _ _ rfl hm rfl rfl 1 rfl one3 (by first | omega | assumption | (simp only [lens]; first | omega | assumption) | (simp [lens]; done) | (simp [lens]; omega)) ?_) | (refine st_set rfl 3 _ _ rfl hm rfl rfl 2 rfl one3 (by first | omega | assumption | (simp only [lens]; first | omega | assumption) | (simp [lens]; done) | (simp [lens]; omega)) ?_) | (refine st_set rfl 3 _ _ rfl hm rfl rfl 3 rfl one3 (by first | omega | assumption | (simp only [lens]; first | omega | assumption) | (simp [lens]; done) | (simp [lens]; omega)) ?_) | (refine st_set rfl 3 _ _ rfl hm rfl rfl 4 rfl one3 (by first | omega | assumption | (simp only [lens]; first | omega | assumption) | (simp [lens]; done) | (simp [lens]; omega)) ?_)); clear hm; intro ws hm; simp only [List.set_cons_zero, List.set_cons_succ] at hm) | ((with_reducible refine gt_field 31 1 ?_); refine st_field rfl 31 _ 1 rfl rfl field31_1 ?_) | ((with_reducible refine gt_load 24 ?_); (first | (refine st_part rfl 24 _ rfl hm rfl 0 rfl agg24 (by first | omega | assumption | (simp only [lens]; first | omega | assumption) | (simp [lens]; done) | (simp [lens]; omega)) ?_) | (refine st_part rfl 24 _ rfl hm rfl 1 rfl agg24 (by first | omega | assumption | (simp only [lens]; first | omega | assumption) | (simp [lens]; done) | (simp [lens]; omega)) ?_) | (refine st_part rfl 24 _ rfl hm rfl 2 rfl agg24 (by first | omega | assumption | (simp only [lens]; first | omega | assumption) | (simp [lens]; done) | (simp [lens]; omega)) ?_) | (refine st_part rfl 24 _ rfl hm rfl 3 rfl agg24 (by first | omega | assumption | (simp only [lens]; first | omega | assumption) | (simp [lens]; done) | (simp [lens]; omega)) ?_) | (refine st_part rfl 24 _ rfl hm rfl 4 rfl agg24 (by first | omega | assumption | (simp only [lens]; first | omega | assumption) | (simp [lens]; done) | (simp [lens]; omega)) ?_))) | ((with_reducible refine gt_index 24 ?_); refine st_index rfl 24 _ _ rfl rfl rfl arr24 (by first | omega | assumption | (simp only [lens]; first | omega | assumption) | (simp [lens]; done) | (simp [lens]; omega)) (by first | omega | assumption | (simp only [lens]; first | omega | assumption) | (simp [lens]; done) | (simp [lens]; omega)) (by first | omega | assumption | (simp only [lens]; first | omega | assumption) | (simp [lens]; done) | (simp [lens]; omega)) ?_) | ((with_reducible refine gt_field 71 1 ?_); refine st_field rfl 71 _ 1 rfl rfl field71_1 ?_) | ((with_reducible refine gt_elem 69 ?_); refine st_elem rfl 69 _ _ rfl rfl rfl arr69 (by first | omega | assumption | (simp only [lens]; first | omega | assumption) | (simp [lens]; done) | (simp [lens]; omega)) (by first | omega | assumption | (simp only [lens]; first | omega | assumption) | (simp [lens]; done) | (simp [lens]; omega)) ?_) | ((with_reducible refine gt_load 71 ?_); (first | (refine st_load rfl 71 _ rfl hm rfl 0 rfl agg71 (by first | omega | assumption | (simp only [lens]; first | omega | assumption) | (simp [lens]; done) | (simp [lens]; omega)) ?_) | (refine st_load rfl 71 _ rfl hm rfl 1 rfl agg71 (by first | omega | assumption | (simp only [lens]; first | omega | assumption) | (simp [lens]; done) | (simp [lens]; omega)) ?_) | (refine st_load rfl 71 _ rfl hm rfl 2 rfl agg71 (by first | omega | assumption | (simp only [lens]; first | omega | assumption) | (simp [lens]; done) | (simp [lens]; omega)) ?_) | (refine st_load rfl 71 _ rfl hm rfl 3 rfl agg71 (by first | omega | assumption | (simp only [lens]; first | omega | assumption) | (simp [lens]; done) | (simp [lens]; omega)) ?_) | (refine st_load rfl 71 _ rfl hm rfl 4 rfl agg71 (by first | omega | assumption | (simp only [lens]; first | omega | assumption) | (simp [lens]; done) | (simp [lens]; omega)) ?_))))
     go_roundw
     case rel =>
      refine ⟨i2 + 1, by omega, by go_num, ?_⟩
      rw [← mixTo_succ F (L.drop 40) 40 i2 (by omega) (by simp; omega), ← HR.out]
      simpa using hm
     case measure => simp [intOf]; omega
    ·have HI2 := Aside0.mk (show i2 = 4 by omega)
     have HFL := Aside0.mk hl3
     go_wp2_with (first | fail | ((with_reducible refine gt_box 1 31 ?_); refine st_box rfl 1 rfl 31 _ rfl hm (v := .agg (vals _ _)) rfl (cs := vals _ _) rfl ?_; clear hm; intro g1 w1 hm) | ((with_reducible refine gt_alloc 2 71 ?_); refine st_alloc rfl 2 rfl 71 rfl hm zero71 ?_; clear hm; intro g2 w2 hm) | ((with_reducible refine gt_build 71 ?_); refine st_zero rfl 71 rfl built71 ?_) | ((with_reducible refine gt_alloc 3 71 ?_); refine st_alloc rfl 3 rfl 71 rfl hm zero71 ?_; clear hm; intro g3 w3 hm) | ((with_reducible refine gt_store 71 ?_); (first | (refine st_full rfl 71 _ _ rfl hm rfl rfl 0 rfl agg71 (by first | omega | assumption | (simp only [lens]; first | omega | assumption) | (simp [lens]; done) | (simp [lens]; omega)) (by first | omega | assumption | (simp only [lens]; first | omega | assumption) | (simp [lens]; done) | (simp [lens]; omega)) ?_) | (refine st_full rfl 71 _ _ rfl hm rfl rfl 1 rfl agg71 (by first | omega | assumption | (simp only [lens]; first | omega | assumption) | (simp [lens]; done) | (simp [lens]; omega)) (by first | omega | assumption | (simp only [lens]; first | omega | assumption) | (simp [lens]; done) | (simp [lens]; omega)) ?_) | (refine st_full rfl 71 _ _ rfl hm rfl rfl 2 rfl agg71 (by first | omega | assumption | (simp only [lens]; first | omega | assumption) | (simp [lens]; done) | (simp [lens]; omega)) (by first | omega | assumption | (simp only [lens]; first | omega | assumption) | (simp [lens]; done) | (simp [lens]; omega)) ?_) | (refine st_full rfl 71 _ _ rfl hm rfl rfl 3 rfl agg71 (by first | omega | assumption | (simp only [lens]; first | omega | assumption) | (simp [lens]; done) | (simp [lens]; omega)) (by first | omega | assumption | (simp only [lens]; first | omega | assumption) | (simp [lens]; done) | (simp [lens]; omega)) ?_) | (refine st_full rfl 71 _ _ rfl hm rfl rfl 4 rfl agg71 (by first | omega | assumption | (simp only [lens]; first | omega | assumption) | (simp [lens]; done) | (simp [lens]; omega)) (by first | omega | assumption | (simp only [lens]; first | omega | assumption) | (simp [lens]; done) | (simp [lens]; omega)) ?_)); clear hm; intro ws hm; simp only [List.set_cons_zero, List.set_cons_succ] at hm) | ((with_reducible refine gt_field 31 0 ?_); refine st_field rfl 31 _ 0 rfl rfl field31_0 ?_) | ((with_reducible refine gt_load 23 ?_); (first | (refine st_part rfl 23 _ rfl hm rfl 0 rfl agg23 (by first | omega | assumption | (simp only [lens]; first | omega | assumption) | (simp [lens]; done) | (simp [lens]; omega)) ?_) | (refine st_part rfl 23 _ rfl hm rfl 1 rfl agg23 (by first | omega | assumption | (simp only [lens]; first | omega | assumption) | (simp [lens]; done) | (simp [lens]; omega)) ?_) | (refine st_part rfl 23 _ rfl hm rfl 2 rfl agg23 (by first | omega | assumption | (simp only [lens]; first | omega | assumption) | (simp [lens]; done) | (simp [lens]; omega)) ?_) | (refine st_part rfl 23 _ rfl hm rfl 3 rfl agg23 (by first | omega | assumption | (simp only [lens]; first | omega | assumption) | (simp [lens]; done) | (simp [lens]; omega)) ?_) | (refine st_part rfl 23 _ rfl hm rfl 4 rfl agg23 (by first | omega | assumption | (simp only [lens]; first | omega | assumption) | (simp [lens]; done) | (simp [lens]; omega)) ?_))) | ((with_reducible refine gt_index 23 ?_); refine st_index rfl 23 _ _ rfl rfl rfl arr23 (by first | omega | assumption | (simp only [lens]; first | omega | assumption) | (simp [lens]; done) | (simp [lens]; omega)) (by first | omega | assumption | (simp only [lens]; first | omega | assumption) | (simp [lens]; done) | (simp [lens]; omega)) (by first | omega | assumption | (simp only [lens]; first | omega | assumption) | (simp [lens]; done) | (simp [lens]; omega)) ?_) | ((with_reducible refine gt_field 71 0 ?_); refine st_field rfl 71 _ 0 rfl rfl field71_0 ?_) | ((with_reducible refine gt_elem 68 ?_); refine st_elem rfl 68 _ _ rfl rfl rfl arr68 (by first | omega | assumption | (simp only [lens]; first | omega | assumption) | (simp [lens]; done) | (simp [lens]; omega)) (by first | omega | assumption | (simp only [lens]; first | omega | assumption) | (simp [lens]; done) | (simp [lens]; omega)) ?_) | ((with_reducible refine gt_store 3 ?_); (first | (refine st_set rfl 3 _ _ rfl hm rfl rfl 0 rfl one3 (by first | omega | assumption | (simp only [lens]; first | omega | assumption) | (simp [lens]; done) | (simp [lens]; omega)) ?_) | (refine st_set rfl 3 _ _ rfl hm rfl rfl 1 rfl one3 (by first | omega | assumption | (simp only [lens]; first | omega | assumption) | (simp [lens]; done) | (simp [lens]; omega)) ?_) | (refine st_set rfl 3 _ _ rfl hm rfl rfl 2 rfl one3 (by first | omega | assumption | (simp only [lens]; first | omega | assumption) | (simp [lens]; done) | (simp [lens]; omega)) ?_) | (refine st_set rfl 3 _ _ rfl hm rfl rfl 3 rfl one3 (by first | omega | assumption | (simp only [lens]; first | omega | assumption) | (simp [lens]; done) | (simp [lens]; omega)) ?_) | (refine st_set rfl 3 _ _ rfl hm rfl rfl 4 rfl one3 (by first | omega | assumption | (simp only [lens]; first | omega | assumption) | (simp [lens]; done) | (simp [lens]; omega)) ?_)); clear hm; intro ws hm; simp only [List.set_cons_zero, List.set_cons_succ] at hm) | ((with_reducible refine gt_field 31 1 ?_); refine st_field rfl 31 _ 1 rfl rfl field31_1 ?_) | ((with_reducible refine gt_load 24 ?_); (first | (refine st_part rfl 24 _ rfl hm rfl 0 rfl agg24 (by first | omega | assumption | (simp only [lens]; first | omega | assumption) | (simp [lens]; done) | (simp [lens]; omega)) ?_) | (refine st_part rfl 24 _ rfl hm rfl 1 rfl agg24 (by first | omega | assumption | (simp only [lens]; first | omega | assumption) | (simp [lens]; done) | (simp [lens]; omega)) ?_) | (refine st_part rfl 24 _ rfl hm rfl 2 rfl agg24 (by first | omega | assumption | (simp only [lens]; first | omega | assumption) | (simp [lens]; done) | (simp [lens]; omega)) ?_) | (refine st_part rfl 24 _ rfl hm rfl 3 rfl agg24 (by first | omega | assumption | (simp only [lens]; first | omega | assumption) | (simp [lens]; done) | (simp [lens]; omega)) ?_) | (refine st_part rfl 24 _ rfl hm rfl 4 rfl agg24 (by first | omega | assumption | (simp only [lens]; first | omega | assumption) | (simp [lens]; done) | (simp [lens]; omega)) ?_))) | ((with_reducible refine gt_index 24 ?_); refine st_index rfl 24 _ _ rfl rfl rfl arr24 (by first | omega | assumption | (simp only [lens]; first | omega | assumption) | (simp [lens]; done) | (simp [lens]; omega)) (by first | omega | assumption | (simp only [lens]; first | omega | assumption) | (simp [lens]; done) | (simp [lens]; omega)) (by first | omega | assumption | (simp only [lens]; first | omega | assumption) | (simp [lens]; done) | (simp [lens]; omega)) ?_) | ((with_reducible refine gt_field 71 1 ?_); refine st_field rfl 71 _ 1 rfl rfl field71_1 ?_) | ((with_reducible refine gt_elem 69 ?_); refine st_elem rfl 69 _ _ rfl rfl rfl arr69 (by first | omega | assumption | (simp only [lens]; first | omega | assumption) | (simp [lens]; done) | (simp [lens]; omega)) (by first | omega | assumption | (simp only [lens]; first | omega | assumption) | (simp [lens]; done) | (simp [lens]; omega)) ?_) | ((with_reducible refine gt_load 71 ?_); (first | (refine st_load rfl 71 _ rfl hm rfl 0 rfl agg71 (by first | omega | assumption | (simp only [lens]; first | omega | assumption) | (simp [lens]; done) | (simp [lens]; omega)) ?_) | (refine st_load rfl 71 _ rfl hm rfl 1 rfl agg71 (by first | omega | assumption | (simp only [lens]; first | omega | assumption) | (simp [lens]; done) | (simp [lens]; omega)) ?_) | (refine st_load rfl 71 _ rfl hm rfl 2 rfl agg71 (by first | omega | assumption | (simp only [lens]; first | omega | assumption) | (simp [lens]; done) | (simp [lens]; omega)) ?_) | (refine st_load rfl 71 _ rfl hm rfl 3 rfl agg71 (by first | omega | assumption | (simp only [lens]; first | omega | assumption) | (simp [lens]; done) | (simp [lens]; omega)) ?_) | (refine st_load rfl 71 _ rfl hm rfl 4 rfl agg71 (by first | omega | assumption | (simp only [lens]; first | omega | assumption) | (simp [lens]; done) | (simp [lens]; omega)) ?_))))
     ((try simp only [Exit.inBlock, Exit.then]); (first | (refine ret_cell hm rfl rfl 1 rfl agg71 (by first | omega | assumption | (simp only [lens]; first | omega | assumption) | (simp [lens]; done) | (simp [lens]; omega)) rfl ?_) | (refine ret_cell_tmp hm rfl rfl 1 rfl agg71 (by first | omega | assumption | (simp only [lens]; first | omega | assumption) | (simp [lens]; done) | (simp [lens]; omega)) rfl ?_)))
     refine ⟨?_, hm.done rfl⟩
     rw [← HF.out, HI.out, HI2.out]
     rw [mix_all L hl]
theorem info111p : (Try.prog.info? 111).map (fun i => (i.zero, i.size, i.bytes)) = some (some (.pointer none), 1, 8) := by kernel_rfl
set_option maxHeartbeats 4000000 in
set_option maxRecDepth 100000 in
theorem all_calls (g : Nat) (w : World) : Calls Try.prog 72 #[.pointer (some ⟨g, 0, none⟩)] w fun e w' =>
  ∃ v, e = .returned v ∧ Kd.R (ptrk g) 111 w' w.heap.size (fun _ => True) v (List.range 44) ∧ Below w.heap.size w w' := by
 have HB := Aside0.mk (Below.refl w.heap.size w)
 go_enter Try.func72, Try.ntmps72
 go_wp2_with ((with_reducible refine gate_dst (N := 6) rfl ?_); refine Kd.R_lit (ptrk g) _ 111 ?hg (N := 6) ?hd (xs := ([] : List Nat)) (inner := []) (ok := fun _ => True) (okp := fun _ => True) ?hr ?hp (fun _ hk => hk) trivial (Below.refl _ _) (Nat.le_refl _) (by simp) ?_; (case hd => rfl); (case hg => rfl); (case hr => first | (go_simp; done) | (go_simp; rfl)); (case hp => exact (Reps.none _ _)); intro v6 w6 ho6 hb hg_ hnew_; clear hg_ hnew_; have HO := Aside0.mk ho6; have HB := Aside0.mk hb; clear ho6 hb)
 go_loopw [7, 3, 4] (fun v7 v3 v4 wr => ∃ i : Nat, i ≤ 40 ∧ v7 = .int .i64 i ∧ Aside0 (Kd.R (ptrk g) 111 wr w.heap.size (fun _ => True) v3 (List.range i)) ∧ Aside0 (Below w.heap.size w wr)) (fun v7 _ _ _ => 40 - (intOf v7).toNat)
 case atStart => exact ⟨0, by omega, rfl, HO, HB⟩
 case round =>
  obtain ⟨i, hi, rfl, HO, HB⟩ := hrel
  by_cases hlt : i < 40
  ·go_wp2_with (first | (first | fail | ((with_reducible refine gt_field 71 0 ?_); refine st_field rfl 71 _ 0 rfl rfl field71_0 ?_) | ((with_reducible refine gt_elem 68 ?_); refine st_elem rfl 68 _ _ rfl rfl rfl arr68 (by first | omega | assumption | (simp only [lens]; first | omega | assumption) | (simp [lens]; done) | (simp [lens]; omega)) (by first | omega | assumption | (simp only [lens]; first | omega | assumption) | (simp [lens]; done) | (simp [lens]; omega)) ?_) | ((with_reducible refine gt_field 71 1 ?_); refine st_field rfl 71 _ 1 rfl rfl field71_1 ?_) | ((with_reducible refine gt_elem 69 ?_); refine st_elem rfl 69 _ _ rfl rfl rfl arr69 (by first | omega | assumption | (simp only [lens]; first | omega | assumption) | (simp [lens]; done) | (simp [lens]; omega)) (by first | omega | assumption | (simp only [lens]; first | omega | assumption) | (simp [lens]; done) | (simp [lens]; omega)) ?_)) | ((with_reducible refine gate_builtin (b := .append) (xs := #[.tmp 10, .tmp 16]) rfl ?_); at_builtin; refine Kd.R_append (ptrk g) (w0 := w) w.heap.size rfl (.tmp 10) (.tmp 16) 109 111 (.pointer none) 8 rfl Try.underlying109 info111p rfl (Nat.lt_succ_self 0) (by omega) _ (List.range i) i [.pointer (some ⟨g, i, none⟩)] (fun _ => True) (fun _ => False) rfl rfl ?aP (fun _ hk => hk.elim) ?aF ?aO ?aB ?aS ?aL ?_; (case aP => exact rfl); (case aB => exact HB.out); (case aF => exact (fun _ _ => trivial)); (case aO => exact HO.out); (case aS => exact HB.out.size); (case aL => rw [List.length_range]; omega); intro v1 w1 ho hb hg hat; have HO := Aside0.mk ho; have HB := Aside0.mk hb; clear ho hb hg hat))
   go_roundw
   case rel => exact ⟨i + 1, by omega, by go_num, by rw [List.range_succ]; exact HO, HB⟩
   case measure => simp [intOf]; omega
  ·have HI := Aside0.mk (show i = 40 by omega)
   go_wp2_with fail
   go_loopw [19, 3, 5] (fun v19 v3 v5 wr => ∃ i : Nat, i ≤ 4 ∧ v19 = .int .i64 i ∧ Aside0 (Kd.R (ptrk g) 111 wr w.heap.size (fun _ => True) v3 (List.range (40 + i))) ∧ Aside0 (Below w.heap.size w wr)) (fun v19 _ _ _ => 4 - (intOf v19).toNat)
   case atStart => exact ⟨0, by omega, rfl, by rw [HI.out] at HO; exact HO, HB⟩
   case round =>
    obtain ⟨i2, hi2, rfl, HO, HB⟩ := hrel
    by_cases hlt : i2 < 4
    ·go_wp2_with (first | (first | fail | ((with_reducible refine gt_field 71 0 ?_); refine st_field rfl 71 _ 0 rfl rfl field71_0 ?_) | ((with_reducible refine gt_elem 68 ?_); refine st_elem rfl 68 _ _ rfl rfl rfl arr68 (by first | omega | assumption | (simp only [lens]; first | omega | assumption) | (simp [lens]; done) | (simp [lens]; omega)) (by first | omega | assumption | (simp only [lens]; first | omega | assumption) | (simp [lens]; done) | (simp [lens]; omega)) ?_) | ((with_reducible refine gt_field 71 1 ?_); refine st_field rfl 71 _ 1 rfl rfl field71_1 ?_) | ((with_reducible refine gt_elem 69 ?_); refine st_elem rfl 69 _ _ rfl rfl rfl arr69 (by first | omega | assumption | (simp only [lens]; first | omega | assumption) | (simp [lens]; done) | (simp [lens]; omega)) (by first | omega | assumption | (simp only [lens]; first | omega | assumption) | (simp [lens]; done) | (simp [lens]; omega)) ?_)) | ((with_reducible refine gate_builtin (b := .append) (xs := #[.tmp 22, .tmp 28]) rfl ?_); at_builtin; refine Kd.R_append (ptrk g) (w0 := w) w.heap.size rfl (.tmp 22) (.tmp 28) 109 111 (.pointer none) 8 rfl Try.underlying109 info111p rfl (Nat.lt_succ_self 0) (by omega) _ (List.range (40 + i2)) (40 + i2) [.pointer (some ⟨g, 40 + i2, none⟩)] (fun _ => True) (fun _ => False) rfl rfl ?aP (fun _ hk => hk.elim) ?aF ?aO ?aB ?aS ?aL ?_; (case aP => exact rfl); (case aB => exact HB.out); (case aF => exact (fun _ _ => trivial)); (case aO => exact HO.out); (case aS => exact HB.out.size); (case aL => rw [List.length_range]; omega); intro v1 w1 ho hb hg hat; have HO := Aside0.mk ho; have HB := Aside0.mk hb; clear ho hb hg hat))
     go_roundw
     case rel => exact ⟨i2 + 1, by omega, by go_num, by rw [show 40 + (i2 + 1) = 40 + i2 + 1 from rfl, List.range_succ]; exact HO, HB⟩
     case measure => simp [intOf]; omega
    ·have HI2 := Aside0.mk (show i2 = 4 by omega)
     go_wp2_with fail
     go_ret
     refine ⟨_, rfl, ?_, HB.out⟩
     have := HO.out
     rwa [HI2.out] at this
set_option maxHeartbeats 4000000 in
set_option maxRecDepth 100000 in
theorem valid1_calls (g i : Nat) (n : Int) (w : World) (hc : w.cell? ⟨g, i, none⟩ = some (.int .i64 n)) :
  Calls Try.prog 75 (#[.pointer (some ⟨g, i, none⟩)] ++ #[]) w fun e w' => e = .returned (.bool (!okx n)) ∧ Below w.heap.size w w' := by
 go_enter Try.func75, Try.ntmps75
 go_wp2_with (go_at_call 46; refine (within_calls _ _ _ _).mono ?_; rintro e wa ⟨rfl, hb⟩; have HB := Aside0.mk hb; clear hb)
 go_ret
 refine ⟨?_, HB.out⟩
 unfold okx
 congr 2
 by_cases h0 : 0 ≤ n <;> by_cases h1 : n ≤ 20 <;> simp [h0, h1]
theorem valid1_enters (a : Array Value) (W : World) : (callFunc 75 a).run Try.prog W = .ok (.enter 75 a) W := by kernel_rfl
theorem any_range (L : List Int) (hl : L.length = 44) : (List.range 44).any (fun i => !okx (rd L (i : Int))) = !okL L := by
 cases h : okL L with
 | true =>
  rw [List.any_eq_false.2]
  ·rfl
  ·intro i hi
   have := List.all_eq_true.1 h _ (rd_in L i (by rw [hl]; exact List.mem_range.1 hi))
   simp [this]
 | false =>
  obtain ⟨x, hx, hp⟩ := List.all_eq_false.1 h
  obtain ⟨j, hj, rfl⟩ := List.getElem_of_mem hx
  rw [List.any_eq_true.2]
  ·rfl
  ·exact ⟨j, List.mem_range.2 (by omega), by rw [rd_get L j hj]; simpa using hp⟩
set_option maxHeartbeats 4000000 in
set_option maxRecDepth 100000 in
theorem implValid_calls (L : List Int) (w : World) (hl : L.length = 44) (hw : Fits .i16 L) : Calls Try.prog 64 #[.agg (vals .i16 L)] w fun e w' => e = .returned (.bool (okL L)) ∧ Below w.heap.size w w' := by
 have hm := Mem.start w
 have HW := Aside0.mk hw
 have HA := Aside0.mk (any_range L hl)
 clear hw
 go_enter Try.func64, Try.ntmps64
 go_wp2_with (first
  | (first | fail | ((with_reducible refine gt_box 1 31 ?_); refine st_box rfl 1 rfl 31 _ rfl hm (v := .agg (vals _ _)) rfl (cs := vals _ _) rfl ?_; clear hm; intro g1 w1 hm) | ((with_reducible refine gt_load 31 ?_); (first | (refine st_load rfl 31 _ rfl hm rfl 0 rfl agg31 (by first | omega | assumption | (simp only [lens]; first | omega | assumption) | (simp [lens]; done) | (simp [lens]; omega)) ?_) | (refine st_load rfl 31 _ rfl hm rfl 1 rfl agg31 (by first | omega | assumption | (simp only [lens]; first | omega | assumption) | (simp [lens]; done) | (simp [lens]; omega)) ?_) | (refine st_load rfl 31 _ rfl hm rfl 2 rfl agg31 (by first | omega | assumption | (simp only [lens]; first | omega | assumption) | (simp [lens]; done) | (simp [lens]; omega)) ?_) | (refine st_load rfl 31 _ rfl hm rfl 3 rfl agg31 (by first | omega | assumption | (simp only [lens]; first | omega | assumption) | (simp [lens]; done) | (simp [lens]; omega)) ?_))) | ((with_reducible refine gt_alloc 3 71 ?_); refine st_alloc rfl 3 rfl 71 rfl hm zero71 ?_; clear hm; intro g3 w3 hm) | ((with_reducible refine gt_store 71 ?_); (first | (refine st_full rfl 71 _ _ rfl hm rfl rfl 0 rfl agg71 (by first | omega | assumption | (simp only [lens]; first | omega | assumption) | (simp [lens]; done) | (simp [lens]; omega)) (by first | omega | assumption | (simp only [lens]; first | omega | assumption) | (simp [lens]; done) | (simp [lens]; omega)) ?_) | (refine st_full rfl 71 _ _ rfl hm rfl rfl 1 rfl agg71 (by first | omega | assumption | (simp only [lens]; first | omega | assumption) | (simp [lens]; done) | (simp [lens]; omega)) (by first | omega | assumption | (simp only [lens]; first | omega | assumption) | (simp [lens]; done) | (simp [lens]; omega)) ?_) | (refine st_full rfl 71 _ _ rfl hm rfl rfl 2 rfl agg71 (by first | omega | assumption | (simp only [lens]; first | omega | assumption) | (simp [lens]; done) | (simp [lens]; omega)) (by first | omega | assumption | (simp only [lens]; first | omega | assumption) | (simp [lens]; done) | (simp [lens]; omega)) ?_) | (refine st_full rfl 71 _ _ rfl hm rfl rfl 3 rfl agg71 (by first | omega | assumption | (simp only [lens]; first | omega | assumption) | (simp [lens]; done) | (simp [lens]; omega)) (by first | omega | assumption | (simp only [lens]; first | omega | assumption) | (simp [lens]; done) | (simp [lens]; omega)) ?_)); clear hm; intro ws hm; simp only [List.set_cons_zero, List.set_cons_succ] at hm))
  | (go_at_call 36; refine (pieces_calls _ _ hl HW.out).mono ?_; rintro e wa ⟨rfl, hb⟩; replace hm := hm.after hb; clear hb)
  | (go_at_call 72; refine (all_calls _ _).mono ?_; rintro e wa ⟨v, rfl, hR, hb⟩; replace hm := hm.after hb; clear hb; obtain ⟨A, c, rfl, hc, hC⟩ := Kd.R_reads hR; have HC := Aside0.mk hC; have Hc := Aside0.mk hc; clear hC hc hR)
  | (go_at_call 74; refine (containsFunc_ptr 75 valid1_enters #[] _ (fun i => !okx (rd L (i : Int))) _ _ _ _ HC.out Hc.out (fun x hx W hB => valid1_calls _ _ _ _ (((hm.after hB).get (n := 0) rfl x (by rw [hl]; exact List.mem_range.1 hx))))).mono ?_; rintro e wa ⟨rfl, hb⟩; replace hm := hm.after hb; clear hb; rw [HA.out]))
 go_ret
 exact ⟨by simp, hm.done rfl⟩
end Go.Proofs.Ytfgogdhhihbcjaa.Arr
namespace Go.Proofs.Ytfgogdhhihbcjaa.Arr
open Go.RowKit Go.Proofs.YtfgogdhhihbcjaaW.PrintWords Go.Proofs.Ytfgogdhhihbcjaa.U
set_option linter.unusedVariables false
set_option linter.unusedSimpArgs false
theorem fold_put (off : Nat) : ∀ (vs : List Value) (n : Nat) (cells : Array Value), off + n + vs.length ≤ cells.size →
  (vs.zipIdx n).foldl (fun cs (p : Value × Nat) => cs.setIfInBounds (off + p.2) p.1) cells = (cells.toList.take (off + n) ++ vs ++ cells.toList.drop (off + n + vs.length)).toArray
 | [], n, cells, h => by simp
 | v :: vs, n, cells, h => by
  rw [List.zipIdx_cons, List.foldl_cons, fold_put off vs (n + 1) _ (by simp at h ⊢; omega)]
  apply Array.ext'
  apply List.ext_getElem?
  intro j
  simp only [Array.toList_setIfInBounds, List.getElem?_append, List.length_append, List.length_take, List.length_set, List.getElem?_take, List.getElem?_drop, List.getElem?_set, List.length_cons, Array.length_toList, List.getElem?_cons]
  simp only [List.length_cons] at h
  repeat' split
  all_goals first | rfl | omega | (congr 1; omega) | (exfalso; omega) | (symm; apply List.getElem?_eq_none; simp; omega)
theorem fill_one {k : IntKind} {L : List Int} {cells : Array Value} {off : Nat} {place : Nat → Option (Nat × Nat)} {i : Nat} {rest : List (Nat × Value)} {m : Nat} (hp : place i = some (off, m)) (hl : L.length = m) (hc : off + m ≤ cells.size) :
  Instr.fill place cells ((i, .agg (vals k L)) :: rest) = Instr.fill place (cells.toList.take off ++ L.map (Value.int k) ++ cells.toList.drop (off + m)).toArray rest := by
 rw [Instr.fill, hp]
 have hs : (Value.agg (vals k L)).cells.size = m := by show (vals k L).size = m; rw [vals_size, hl]
 simp only [hs]
 rw [if_neg (by simp; omega)]
 congr 1
 have h := fold_put off (L.map (Value.int k)) 0 cells (by simp [hl]; omega)
 simp only [Nat.add_zero, List.length_map, hl] at h
 rw [← h]
 show Array.foldl _ cells (Array.zipIdx (vals k L)) = _
 rw [← Array.foldl_toList, Array.toList_zipIdx]
 rfl
section
variable {P : Program} {ops : Array Oper} {rest : List Oper} {o : Oper} {a : Act} {w0 w : World} {M : List Ent} {Q : Exit → Act → World → Prop}
theorem st_lit1 (hgd : o.guard = none) (d : Nat) (hdst : o.dst = some d) (t : TypeId) (x : Operand) (ho : o.op = .buildSlice t 1 #[(0, x)]) (hm : Mem w0 w M) {k : IntKind} {L : List Int} {m : Nat} {e : TypeId} (hx : a.eval x = .agg (vals k L)) (hu : P.underlying t = some (.slice e))
  (he : AggTy P e m) {zc : Array Value} (hz : ZeroTy P e zc) (hl : L.length = m) (hm0 : 0 < m) (hm1 : m ≤ 1000)
  (h : ∀ g w1, Mem w0 w1 (⟨g, vals k L, e, true⟩ :: M) → wpList P ops Q rest (a.put (some d) (.slice (some ⟨g, 0, none⟩) 1 1)) w1) : wpList P ops Q (o :: rest) a w := by
 obtain ⟨z, hz, rfl⟩ := hz
 obtain ⟨_, hi⟩ := he
 refine wpList_plain hgd fun K hK => ?_
 rw [← hdst] at h
 unfold Oper.wp execOp
 cases hq : P.info? e with
 | none => simp [hq] at hi
 | some i =>
  have hs : i.size = m := by simpa [hq] using hi
  have hz' : i.zero = some z := by simpa [hq] using hz
  have hf := fill_one (k := k) (L := L) (cells := (Array.range (1 * m)).map (z.cells[· % z.cells.size]!)) (off := 0) (place := fun i => some (i * m, m)) (i := 0) (rest := []) (m := m) (by simp) hl (by simp)
  have hc : ((List.take 0 ((Array.range (1 * m)).map (z.cells[· % z.cells.size]!)).toList ++ L.map (Value.int k) ++ List.drop (0 + m) ((Array.range (1 * m)).map (z.cells[· % z.cells.size]!)).toList).toArray) = vals k L := by
   rw [List.drop_of_length_le (by simp)]
   simp [vals]
  rw [hc] at hf
  have hrun : (Instr.buildSlice t 1 #[(0, .agg (vals k L))]).run P w = .ok (.slice (some ⟨w.heap.size, 0, none⟩) 1 1) (w.alloc (.cells (vals k L) e)) := by
   simp only [Instr.buildSlice, Sem.run_bind, run_underlying hu w, Result.andThen_ok, sizeOf, typeInfo, run_program, hq, Sem.run_pure, hs, zeroValue, hz']
   rw [if_neg (by omega), if_neg (by omega)]
   simp only [Sem.run_bind, Sem.run_pure, Result.andThen_ok, hq, hz', hf, run_program]
   simp [Instr.fill, newRow, Sem.run_bind]
  simp only [ho, List.map_toArray, List.map_cons, List.map_nil, hx, Sem.run_bind, hrun, Sem.run_pure, Result.andThen_ok]
  exact hK _ _ (h _ _ (hm.new _ _))
theorem st_selem (hgd : o.guard = none) (ty : TypeId) (x y : Operand) (ho : o.op = .indexAddr ty x y) {g n c : Nat} {ki : IntKind} {i m : Nat} {e : TypeId} (hx : a.eval x = .slice (some ⟨g, 0, none⟩) n c) (hy : a.eval y = .int ki (i : Int))
  (hu : P.underlying ty = some (.slice e)) (he : (P.info? e).map (·.size) = some m) (h1 : i < n)
  (h : wpList P ops Q rest (a.put o.dst (.pointer (some ⟨g, i * m, none⟩))) w) : wpList P ops Q (o :: rest) a w := by
 refine wpList_plain hgd fun K hK => ?_
 unfold Oper.wp execOp
 have hsz : (sizeOf e).run P w = .ok m w := by
  cases hq : P.info? e with
  | none => simp [hq] at he
  | some i => simp [sizeOf, typeInfo, hq, Sem.run_bind]; simpa [hq] using he
 have hadd : (⟨g, 0, none⟩ : Addr).add (i * m) = ⟨g, i * m, none⟩ := by unfold Addr.add; split <;> simp_all
 simp [ho, hx, hy, Instr.indexAt, asIntOf, Sem.run_bind, run_underlying hu w, hsz, h1, hadd]
 exact hK _ _ h
theorem st_loadc (hgd : o.guard = none) (ty : TypeId) (x : Operand) (ho : o.op = .load ty x) {g i m : Nat} {k : IntKind} (hx : a.eval x = .pointer (some ⟨g, i, none⟩)) {L : List Int} (hl : L.length = m)
  (hc : ∀ j, j < m → w.cell? ⟨g, i + j, none⟩ = some (.int k (rd L (j : Int)))) (hi2 : AggTy P ty m)
  (h : wpList P ops Q rest (a.put o.dst (.agg (vals k L))) w) : wpList P ops Q (o :: rest) a w := by
 obtain ⟨hd, hi⟩ := hi2
 refine wpList_plain hgd fun K hK => ?_
 unfold Oper.wp execOp
 have hagg : (isAgg ty).run P w = .ok true w := by
  unfold isAgg
  cases hu : P.underlying ty with
  | none => simp [hu] at hd
  | some d =>
   rw [Sem.run_bind, run_underlying hu w]
   cases d <;> simp_all
 have hsz : (sizeOf ty).run P w = .ok m w := by
  cases hq : P.info? ty with
  | none => simp [hq] at hi
  | some i => simp [sizeOf, typeInfo, hq, Sem.run_bind]; simpa [hq] using hi
 have hl2 : (loadCells ⟨g, i, none⟩ (vals k L).toList.length).run P w = .ok (vals k L).toList.toArray w :=
  run_loadCells_list (P := P) w ⟨g, i, none⟩ _ (fun j v hv => by
   have hjm : j < m := by
    have := (List.getElem?_eq_some_iff.1 hv).1
    simp [vals] at this; omega
   have hadd : (⟨g, i, none⟩ : Addr).add j = ⟨g, i + j, none⟩ := by unfold Addr.add; split <;> simp_all
   rw [hadd, hc j hjm]
   rw [Array.getElem?_toList, vals_get (by omega)] at hv
   exact hv)
 have hlen : (vals k L).toList.length = m := by simp [vals]; omega
 rw [hlen, Array.toArray_toList] at hl2
 simp only [ho, hx, Instr.loadAt, Instr.sureAddr, Sem.run_bind, Sem.run_pure, Result.andThen_ok, loadVar, hagg, hsz, hl2, if_true]
 exact hK _ _ h
end
end Go.Proofs.Ytfgogdhhihbcjaa.Arr
namespace Go.Proofs.Ytfgogdhhihbcjaa.Arr
open Go.RowKit Go.Proofs.YtfgogdhhihbcjaaW.PrintWords Go.Proofs.YtfgogdhhihbcjaaW.PrintLast Go.Proofs.YtfgogdhhihbcjaaW.PrintMore Go.Proofs.Ytfgogdhhihbcjaa.U Go.Proofs.Ytfgogdhhihbcjaa.H
set_option linter.unusedVariables false
set_option linter.unusedSimpArgs false
def Lks (w : World) (g : Nat) (l : List (List Int)) : Prop := ∀ (i : Nat) (L : List Int), l[i]? = some L → L.length = 44 ∧ Fits .i16 L ∧ ∀ j, j < 44 → w.cell? ⟨g, i * 44 + j, none⟩ = some (.int .i16 (rd L (j : Int)))
theorem Lks.below {w w' : World} {g : Nat} {l : List (List Int)} (h : Lks w g l) (hb : Below w.heap.size w w') : Lks w' g l := fun i L hi => by
 obtain ⟨h1, h2, h3⟩ := h i L hi
 exact ⟨h1, h2, fun j hj => (hb.cell (World.block_lt_of_cell? w _ (h3 j hj))).trans (h3 j hj)⟩
set_option maxHeartbeats 4000000 in
set_option maxRecDepth 100000 in
theorem indexFunc_lk (f : FuncId) (hg : ∀ (a : Array Value) (W : World), (callFunc f a).run Try.prog W = .ok (.enter f a) W) (cap : Array Value) (g : Nat) (p : List Int → Bool) (l0 : List (List Int)) (w : World) (hr0 : Lks w g l0) (hmx : l0.length ≤ 1000)
  (hf : ∀ x ∈ l0, ∀ W, Below w.heap.size w W → Calls Try.prog f (#[.agg (vals .i16 x)] ++ cap) W fun e W' => e = .returned (.bool (p x)) ∧ Below W.heap.size W W') :
  Calls Try.prog 73 #[.slice (some ⟨g, 0, none⟩) l0.length l0.length, .func (.func f) #[] cap] w fun e w' => e = .returned (.int .i64 (ixa p l0)) ∧ Below w.heap.size w w' := by
 have HF := Aside0.mk hf
 have HR0 := Aside0.mk hr0
 clear hf hr0
 go_enter Try.func73, Try.ntmps73
 go_wp2_with fail
 go_loopw [8, 5] (fun v8 v5 wr => ∃ i : Nat, i ≤ l0.length ∧ v8 = .int .i64 i ∧ Aside0 (Below w.heap.size w wr) ∧ Aside0 (∀ j, j < i → ∀ y, l0[j]? = some y → p y = false)) (fun v8 _ _ => l0.length - (intOf v8).toNat)
 case atStart => exact ⟨0, Nat.zero_le _, rfl, ⟨Below.refl _ _⟩, ⟨fun j hj => absurd hj (by omega)⟩⟩
 case round =>
  obtain ⟨i, hi, rfl, HB, HP⟩ := hrel
  by_cases hlt : i < l0.length
  ·obtain ⟨x, hx⟩ : ∃ x, l0[i]? = some x := ⟨_, List.getElem?_eq_getElem hlt⟩
   obtain ⟨hl44, _, hcl⟩ := (HR0.out.below HB.out) i x hx
   have HM := Aside0.mk (HF.out x (List.mem_of_getElem? hx) _ HB.out)
   have HX := Aside0.mk hx
   have HCL := Aside0.mk hcl
   clear hx hcl
   cases hp : p x with
   | true =>
    have HPX := Aside0.mk hp
    rw [hp] at HM
    clear hp
    go_wp2_with (first
     | ((with_reducible refine gt_elem 100 ?_); refine st_selem rfl _ _ _ rfl rfl rfl Try.underlying100 agg31.2 hlt ?_)
     | ((with_reducible refine gt_load 31 ?_); refine st_loadc rfl _ _ rfl rfl hl44 HCL.out agg31 ?_)
     | (refine HM.out.mono ?_; rintro e w1 ⟨rfl, hb1⟩; have HB1 := Aside0.mk hb1; clear hb1))
    go_ret
    exact ⟨by rw [ixa_found p l0 i x HX.out HP.out HPX.out]; rfl, below_then HB.out HB1.out⟩
   | false =>
    have HPX := Aside0.mk hp
    rw [hp] at HM
    clear hp
    go_wp2_with (first
     | ((with_reducible refine gt_elem 100 ?_); refine st_selem rfl _ _ _ rfl rfl rfl Try.underlying100 agg31.2 hlt ?_)
     | ((with_reducible refine gt_load 31 ?_); refine st_loadc rfl _ _ rfl rfl hl44 HCL.out agg31 ?_)
     | (refine HM.out.mono ?_; rintro e w1 ⟨rfl, hb1⟩; have HB1 := Aside0.mk hb1; clear hb1))
    go_roundw
    case rel => exact ⟨i + 1, by omega, by go_num, ⟨below_then HB.out HB1.out⟩, ⟨fun j hj y hy => by
     rcases Nat.lt_or_ge j i with h | h
     ·exact HP.out j h y hy
     ·obtain rfl : j = i := by omega
      rw [HX.out] at hy
      rw [← Option.some.inj hy]; exact HPX.out⟩⟩
    case measure => simp [intOf]; omega
  ·have HI := Aside0.mk (show i = l0.length by omega)
   go_wp2_with fail
   go_ret
   exact ⟨by rw [ixa_none p l0 (fun j hj => HP.out j (by rw [HI.out]; exact hj))]; rfl, HB.out⟩
set_option maxHeartbeats 4000000 in
set_option maxRecDepth 100000 in
theorem containsFunc_lk (f : FuncId) (hg : ∀ (a : Array Value) (W : World), (callFunc f a).run Try.prog W = .ok (.enter f a) W) (cap : Array Value) (g : Nat) (p : List Int → Bool) (l0 : List (List Int)) (w : World) (hr0 : Lks w g l0) (hmx : l0.length ≤ 1000)
  (hf : ∀ x ∈ l0, ∀ W, Below w.heap.size w W → Calls Try.prog f (#[.agg (vals .i16 x)] ++ cap) W fun e W' => e = .returned (.bool (p x)) ∧ Below W.heap.size W W') :
  Calls Try.prog 62 #[.slice (some ⟨g, 0, none⟩) l0.length l0.length, .func (.func f) #[] cap] w fun e w' => e = .returned (.bool (l0.any p)) ∧ Below w.heap.size w w' := by
 have HM := Aside0.mk (indexFunc_lk f hg cap g p l0 w hr0 hmx hf)
 have HA := Aside0.mk (ixa_any p l0)
 clear hf hr0 hg
 generalize ixa p l0 = n at *
 generalize l0.any p = b at *
 go_enter Try.func62, Try.ntmps62
 go_wp2_with (go_at_call 73; refine HM.out.mono ?_; rintro e w1 ⟨rfl, hb1⟩; have HB1 := Aside0.mk hb1; clear hb1)
 go_ret
 exact ⟨by rw [← HA.out]; rfl, HB1.out⟩
set_option maxHeartbeats 4000000 in
set_option maxRecDepth 100000 in
theorem lockerCode1_calls (L : List Int) (w : World) (hl : L.length = 44) (hw : Fits .i16 L) : Calls Try.prog 63 (#[.agg (vals .i16 L)] ++ #[]) w fun e w' => e = .returned (.bool (!okL L)) ∧ Below w.heap.size w w' := by
 have hm := Mem.start w
 have HW := Aside0.mk hw
 clear hw
 go_enter Try.func63, Try.ntmps63
 go_wp2_with (first
  | (first | fail | ((with_reducible refine gt_box 1 31 ?_); refine st_box rfl 1 rfl 31 _ rfl hm (v := .agg (vals _ _)) rfl (cs := vals _ _) rfl ?_; clear hm; intro g1 w1 hm) | ((with_reducible refine gt_load 31 ?_); (first | (refine st_load rfl 31 _ rfl hm rfl 0 rfl agg31 (by first | omega | assumption | (simp only [lens]; first | omega | assumption) | (simp [lens]; done) | (simp [lens]; omega)) ?_) | (refine st_load rfl 31 _ rfl hm rfl 1 rfl agg31 (by first | omega | assumption | (simp only [lens]; first | omega | assumption) | (simp [lens]; done) | (simp [lens]; omega)) ?_) | (refine st_load rfl 31 _ rfl hm rfl 2 rfl agg31 (by first | omega | assumption | (simp only [lens]; first | omega | assumption) | (simp [lens]; done) | (simp [lens]; omega)) ?_))))
  | (go_at_call 64; refine (implValid_calls _ _ hl HW.out).mono ?_; rintro e wa ⟨rfl, hb⟩; replace hm := hm.after hb; clear hb))
 go_ret
 exact ⟨rfl, hm.done rfl⟩
theorem lockerCode1_enters (a : Array Value) (W : World) : (callFunc 63 a).run Try.prog W = .ok (.enter 63 a) W := by kernel_rfl
set_option maxHeartbeats 4000000 in
set_option maxRecDepth 100000 in
theorem lockerCode_calls (g : Nat) (l : List (List Int)) (w : World) (h : Lks w g l) (hmx : l.length ≤ 1000) : Calls Try.prog 50 #[.slice (some ⟨g, 0, none⟩) l.length l.length] w fun e w' =>
  e = .returned (.int .i64 (if l.all okL = true then 0 else 1)) ∧ Below w.heap.size w w' := by
 have HM := Aside0.mk (containsFunc_lk 63 lockerCode1_enters #[] g (fun L => !okL L) l w h hmx (fun x hx W _ => by
  obtain ⟨i, hi, rfl⟩ := List.getElem_of_mem hx
  obtain ⟨h1, h2, _⟩ := h i _ (List.getElem?_eq_getElem hi)
  exact lockerCode1_calls _ W h1 h2))
 have HA := Aside0.mk (show (!l.any fun L => !okL L) = l.all okL by simp [List.all_eq_not_any_not])
 clear h
 rw [← HA.out]
 clear HA
 generalize (l.any fun L => !okL L) = c at *
 cases c
 all_goals
  go_enter Try.func50, Try.ntmps50
  go_wp2_with (first
   | (go_at_call 62; refine HM.out.mono ?_; rintro e wa ⟨rfl, hb⟩; have HB := Aside0.mk hb; clear hb)
   | (go_at_call 45; refine (impl_unless.calls _ _ _ _ rfl).mono ?_; rintro e wa ⟨rfl, hb2⟩; have HB2 := Aside0.mk hb2.below; clear hb2))
  go_ret
  exact ⟨rfl, below_then HB.out HB2.out⟩
theorem lks1 {w0 w : World} {M : List Ent} {n g : Nat} {L : List Int} {t : TypeId} {o : Bool} (hm : Mem w0 w M) (hn : M[n]? = some ⟨g, vals .i16 L, t, o⟩) (hl : L.length = 44) (hw : Fits .i16 L) : Lks w g [L] := fun i L' hi => by
 rcases i with _ | i
 ·rw [List.getElem?_cons_zero] at hi
  cases hi
  exact ⟨hl, hw, fun j hj => by rw [Nat.zero_mul, Nat.zero_add]; exact hm.get hn j (by omega)⟩
 ·simp at hi
theorem okL_in {L : List Int} (h : okL L = true) : ∀ x ∈ L, 0 ≤ x ∧ x ≤ 20 := fun x hx => by
 have := List.all_eq_true.1 h x hx
 simpa [okx] using this
end Go.Proofs.Ytfgogdhhihbcjaa.Arr
namespace Go.Proofs.Ytfgogdhhihbcjaa.Arr
open Go.RowKit Go.Proofs.YtfgogdhhihbcjaaW.PrintWords Go.Proofs.YtfgogdhhihbcjaaW.PrintLast Go.Proofs.YtfgogdhhihbcjaaW.PrintMore Go.Proofs.Ytfgogdhhihbcjaa.U Go.Proofs.Ytfgogdhhihbcjaa.H
set_option linter.unusedVariables false
set_option linter.unusedSimpArgs false
theorem S_empty {w : World} {base : Nat} {ok : Nat → Prop} {v : Value} {e : Nat} (h : Kd.R kH e w base ok v []) : Kd.S kH e w base ok v [] := by
 obtain ⟨h0, inner, ho, hr⟩ := h
 exact ⟨fun _ => 0, h0, inner, ho, hr.1, fun j p hj => by simp at hj⟩
theorem okL_bd {L : List Int} (h : okL L = true) (hl : L.length = 44) : ∀ j : Nat, j < 44 → 0 ≤ rd L (j : Int) ∧ rd L (j : Int) ≤ 20000 := fun j hj => by
 have := okL_in h _ (rd_in L j (by omega))
 omega
theorem pow5 {n : Nat} (h : n ≤ 8) : 2 * 5 ^ n ≤ 1000000000000 := by
 have h1 : 5 ^ n ≤ 5 ^ 8 := Nat.pow_le_pow_right (by omega) h
 have h2 : (5 : Nat) ^ 8 = 390625 := by decide
 omega
set_option maxHeartbeats 4000000 in
set_option maxRecDepth 100000 in
theorem l04All_calls (g : Nat) (L : List Int) (Am : Option Addr) (cm : Nat) (m : List Int) (w : World) (hg : w.heap[g]? = some (.cells (vals .i16 L) 31 (0, 0))) (hl : L.length = 44) (hLb : ∀ j : Nat, j < 44 → 0 ≤ rd L (j : Int) ∧ rd L (j : Int) ≤ 20000)
  (hr : Kd.C (Kd.int .i8) w Am m.length m) (hm : ∀ x ∈ m, PlainN x) (hml : m.length ≤ 8) :
  Calls Try.prog 31 #[.pointer (some ⟨g, 0, none⟩), .slice Am m.length cm] w fun e w' => ∃ v, e = .returned v ∧ LS w v (leaves m 4 (enough L) m.length [] 0) w' := by
 have HLK := Aside0.mk (fun (v : Value) (A : Option Addr) (c : Nat) (W : World) (hS : LS w v [] W) (ho : Own w.heap.size W (.slice A 0 c) []) => look_calls (w0 := w) (L0 := L) (cm := cm) hr hm (by omega) hl m.length [] 0 A c v [] L W (by simp) (by simp) hS ho rfl hLb (by have := pow5 hml; simpa using this))
 have HG := Aside0.mk (fun W (hW : Below w.heap.size w W) => (hW.block _ (lt_of_some hg)).trans hg)
 have HXL := Aside0.mk hl
 clear hg hl hLb hr hm hml
 go_enter Try.func31, Try.ntmps31
 go_wp2_with (first
  | ((with_reducible refine gate_dst (N := 5) rfl ?_); refine Kd.R_lit (kH) _ 28 ?hg (N := 5) ?hd (xs := []) (inner := []) (ok := fun _ => True) (okp := fun _ => True) ?hr ?hp (fun _ hk => hk) trivial (Below.refl _ _) (Nat.le_refl _) (by simp) ?_; (case hd => rfl); (case hg => rfl); (case hr => first | (go_simp; done) | (go_simp; rfl)); (case hp => exact (Reps.none _ _)); intro v5 w5 ho hb _ _; have HB5 := Aside0.mk hb; have HS5 := Aside0.mk (LS.mk hb (S_empty ho)); clear ho hb)
  | ((with_reducible refine gt_load 31 ?_); refine Kd.event_run rfl (y_rowA (by rfl) (by rfl) (HG.out _ HB5.out) aggLk (by rw [vals_size]; exact HXL.out)) ?_)
  | ((with_reducible refine gate_dst (N := 10) rfl ?_); refine Kd.R_lit (Kd.int .i8) _ 64 ?hg (N := 10) ?hd (xs := []) (inner := []) (ok := fun _ => True) (okp := fun _ => True) ?hr ?hp (fun _ hk => hk) trivial (Below.refl _ _) (Nat.le_refl _) (by simp) ?_; (case hd => rfl); (case hg => rfl); (case hr => first | (go_simp; done) | (go_simp; rfl)); (case hp => exact (Reps.none _ _)); intro v10 w10 ho hb _ _; obtain ⟨A10, c10, rfl⟩ := Kd.R_slice ho; have HS10 := Aside0.mk (HS5.out.fr (FrB.below hb)); have HO10 := Aside0.mk (own_lower ho HB5.out.size); clear ho hb)
  | (go_at_call 49; refine (HLK.out v5 A10 c10 _ HS10.out HO10.out).mono ?_; rintro e w11 ⟨v11, rfl, hls, _⟩; have HE := Aside0.mk hls; clear hls))
 go_ret
 exact ⟨_, rfl, by have := HE.out; rwa [List.nil_append] at this⟩
theorem LS.head {w0 W : World} {v : Value} {h : List Int} {r : List (List Int)} (hS : LS w0 v (h :: r) W) : ∃ (g N c : Nat) (vh : Value), 0 < N ∧ v = .slice (some ⟨g, 0, none⟩) N c ∧ W.cell? ⟨g, 0, none⟩ = some vh ∧ Own w0.heap.size W vh h := by
 obtain ⟨g, c, rfl, _⟩ := Kd.S_form hS.own (by simp)
 obtain ⟨cl, hcl, hM, hcc⟩ := Kd.S_get hS.own ([] : List Int) 0 (by omega) (by simp)
 obtain ⟨vh, rfl, hR⟩ := hM
 refine ⟨g, _, c, vh, by simp, rfl, ?_, Kd.R_mono hR (fun _ _ => trivial)⟩
 have := hcc 0 vh rfl
 simpa [Addr.add, kH, Kd.slice] using this
def hfW (L m : List Int) : List Int × Int := if okL L = true then (if plainM m = true then (match leaves m 4 (enough L) m.length [] 0 with | [] => ([], 6) | h :: _ => (h, 0)) else ([], 1)) else ([], 1)
theorem oneHo : OneTy Try.prog 28 := ⟨by kernel_rfl, by kernel_rfl⟩
set_option maxHeartbeats 8000000 in
set_option maxRecDepth 100000 in
theorem specHoistFrom_calls (L : List Int) (Am : Option Addr) (cm : Nat) (m : List Int) (w : World) (hl : L.length = 44) (hw : Fits .i16 L) (hr : Kd.C (Kd.int .i8) w Am m.length m) (hc : m.length ≤ cm) (hs : Small8 m) :
  Calls Try.prog 6 #[.agg (vals .i16 L), .slice Am m.length cm] w fun e w' => ∃ v, e = .returned (.tuple #[v, .int .i64 (hfW L m).2]) ∧ Own w.heap.size w' v (hfW L m).1 ∧ Below w.heap.size w w' := by
 have hm := Mem.start w
 have HOK := Aside0.mk (fun g W h => l04Ok_calls g L W hl hw h)
 have HPL := Aside0.mk (fun W (hW : Below w.heap.size w W) => l02Plain_calls Am cm m W (Kd.C_below hr hW) hc hs)
 unfold hfW
 by_cases hok : okL L = true
 ·rw [if_pos hok]
  rw [hok] at HOK
  by_cases hp : plainM m = true
  ·rw [if_pos hp]
   rw [hp] at HPL
   obtain ⟨hpn, _, hp8⟩ := plainM_N hp
   have HAL := Aside0.mk (fun g W (h : W.heap[g]? = some (.cells (vals .i16 L) 31 (0, 0))) (hW : Below w.heap.size w W) => l04All_calls g L Am cm m W h hl (okL_bd hok hl) (Kd.C_below hr hW) hpn hp8)
   clear hr hs hok hp hpn hp8 hw
   generalize leaves m 4 (enough L) m.length [] 0 = lv at *
   cases lv with
   | nil =>
    go_enter Try.func6, Try.ntmps6
    go_wp2_with (first
   | (first | fail | ((with_reducible refine gt_box 2 31 ?_); refine st_box rfl 2 rfl 31 _ rfl hm (v := .agg (vals _ _)) rfl (cs := vals _ _) rfl ?_; clear hm; intro g2 w2 hm))
   | (go_at_call 31; refine (HAL.out _ _ HG2.out HBP.out).mono ?_; rintro e w9 ⟨v9, rfl, hls⟩; obtain ⟨A9, c9, rfl⟩ := Kd.S_slice hls.own; have HB9 := Aside0.mk (below_then HBP.out hls.bel); clear hls)
   | (go_at_call 30; refine (HPL.out _ HBO.out).mono ?_; rintro e w8 ⟨rfl, h⟩; have HG2 := Aside0.mk ((h.block _ (lt_of_some HG1.out)).trans HG1.out); have HBP := Aside0.mk (below_then HBO.out h); clear h)
   | (go_at_call 29; refine (HOK.out _ _ (hm.mem (n := 0) rfl)).mono ?_; rintro e w7 ⟨rfl, h⟩; have HG1 := Aside0.mk ((h.block _ (lt_of_some (hm.mem (n := 0) rfl))).trans (hm.mem (n := 0) rfl)); have HBO := Aside0.mk (below_then (hm.done rfl) h); clear hm h)
   | ((with_reducible refine gate_dst (N := 20) rfl ?_); refine Kd.R_lit (Kd.int .i8) _ 64 ?hg (N := 20) ?hd (xs := []) (inner := []) (ok := fun _ => True) (okp := fun _ => True) ?hr ?hp (fun _ hk => hk) trivial (Below.refl _ _) (Nat.le_refl _) (by simp) ?_; (case hd => rfl); (case hg => rfl); (case hr => first | (go_simp; done) | (go_simp; rfl)); (case hp => exact (Reps.none _ _)); intro vE wE ho hb _ _; have HE := Aside0.mk (And.intro (own_lower ho HB9.out.size) (below_then HB9.out hb)); clear ho hb))
    go_ret2
    exact ⟨_, rfl, HE.out.1, HE.out.2⟩
   | cons h r =>
    go_enter Try.func6, Try.ntmps6
    go_wp2_with (first
   | (first | fail | ((with_reducible refine gt_box 2 31 ?_); refine st_box rfl 2 rfl 31 _ rfl hm (v := .agg (vals _ _)) rfl (cs := vals _ _) rfl ?_; clear hm; intro g2 w2 hm))
   | (go_at_call 31; refine (HAL.out _ _ HG2.out HBP.out).mono ?_; rintro e w9 ⟨v9, rfl, hls⟩; obtain ⟨g9, N, c9, vh, hN, rfl, hce, hoe⟩ := hls.head; have HCE := Aside0.mk hce; have HE := Aside0.mk (And.intro (own_lower hoe HBP.out.size) (below_then HBP.out hls.bel)); have hn0 : ((N : Int) == 0) = false := (by rw [beq_eq_false_iff_ne]; omega); clear hce hoe hls)
   | (go_at_call 30; refine (HPL.out _ HBO.out).mono ?_; rintro e w8 ⟨rfl, h⟩; have HG2 := Aside0.mk ((h.block _ (lt_of_some HG1.out)).trans HG1.out); have HBP := Aside0.mk (below_then HBO.out h); clear h)
   | (go_at_call 29; refine (HOK.out _ _ (hm.mem (n := 0) rfl)).mono ?_; rintro e w7 ⟨rfl, h⟩; have HG1 := Aside0.mk ((h.block _ (lt_of_some (hm.mem (n := 0) rfl))).trans (hm.mem (n := 0) rfl)); have HBO := Aside0.mk (below_then (hm.done rfl) h); clear hm h)
   | ((with_reducible refine gt_load 28 ?_); refine Kd.event_run rfl (y_cell (by rfl) (by rfl) oneHo HCE.out) ?_))
    go_ret2
    exact ⟨_, rfl, HE.out.1, HE.out.2⟩
  ·rw [if_neg hp]
   rw [show plainM m = false by cases h : plainM m with | true => exact absurd h hp | false => rfl] at HPL
   clear hr hs hok hp hw
   go_enter Try.func6, Try.ntmps6
   go_wp2_with (first
   | (first | fail | ((with_reducible refine gt_box 2 31 ?_); refine st_box rfl 2 rfl 31 _ rfl hm (v := .agg (vals _ _)) rfl (cs := vals _ _) rfl ?_; clear hm; intro g2 w2 hm))
   | (go_at_call 31; refine (HAL.out _ _ HG2.out HBP.out).mono ?_; rintro e w9 ⟨v9, rfl, hls⟩; skip)
   | (go_at_call 30; refine (HPL.out _ HBO.out).mono ?_; rintro e w8 ⟨rfl, h⟩; have HG2 := Aside0.mk ((h.block _ (lt_of_some HG1.out)).trans HG1.out); have HBP := Aside0.mk (below_then HBO.out h); clear h)
   | (go_at_call 29; refine (HOK.out _ _ (hm.mem (n := 0) rfl)).mono ?_; rintro e w7 ⟨rfl, h⟩; have HG1 := Aside0.mk ((h.block _ (lt_of_some (hm.mem (n := 0) rfl))).trans (hm.mem (n := 0) rfl)); have HBO := Aside0.mk (below_then (hm.done rfl) h); clear hm h)
   | ((with_reducible refine gate_dst (N := 14) rfl ?_); refine Kd.R_lit (Kd.int .i8) _ 64 ?hg (N := 14) ?hd (xs := []) (inner := []) (ok := fun _ => True) (okp := fun _ => True) ?hr ?hp (fun _ hk => hk) trivial (Below.refl _ _) (Nat.le_refl _) (by simp) ?_; (case hd => rfl); (case hg => rfl); (case hr => first | (go_simp; done) | (go_simp; rfl)); (case hp => exact (Reps.none _ _)); intro vE wE ho hb _ _; have HE := Aside0.mk (And.intro (own_lower ho HBP.out.size) (below_then HBP.out hb)); clear ho hb))
   go_ret2
   exact ⟨_, rfl, HE.out.1, HE.out.2⟩
 ·rw [if_neg hok]
  rw [show okL L = false by cases h : okL L with | true => exact absurd h hok | false => rfl] at HOK
  clear hr hs hok hw
  go_enter Try.func6, Try.ntmps6
  go_wp2_with (first
   | (first | fail | ((with_reducible refine gt_box 2 31 ?_); refine st_box rfl 2 rfl 31 _ rfl hm (v := .agg (vals _ _)) rfl (cs := vals _ _) rfl ?_; clear hm; intro g2 w2 hm))
   | (go_at_call 31; refine (HAL.out _ _ HG2.out HBP.out).mono ?_; rintro e w9 ⟨v9, rfl, hls⟩; skip)
   | (go_at_call 30; refine (HPL.out _ HBO.out).mono ?_; rintro e w8 ⟨rfl, h⟩; have HG2 := Aside0.mk ((h.block _ (lt_of_some HG1.out)).trans HG1.out); have HBP := Aside0.mk (below_then HBO.out h); clear h)
   | (go_at_call 29; refine (HOK.out _ _ (hm.mem (n := 0) rfl)).mono ?_; rintro e w7 ⟨rfl, h⟩; have HG1 := Aside0.mk ((h.block _ (lt_of_some (hm.mem (n := 0) rfl))).trans (hm.mem (n := 0) rfl)); have HBO := Aside0.mk (below_then (hm.done rfl) h); clear hm h)
   | ((with_reducible refine gate_dst (N := 14) rfl ?_); refine Kd.R_lit (Kd.int .i8) _ 64 ?hg (N := 14) ?hd (xs := []) (inner := []) (ok := fun _ => True) (okp := fun _ => True) ?hr ?hp (fun _ hk => hk) trivial (Below.refl _ _) (Nat.le_refl _) (by simp) ?_; (case hd => rfl); (case hg => rfl); (case hr => first | (go_simp; done) | (go_simp; rfl)); (case hp => exact (Reps.none _ _)); intro vE wE ho hb _ _; have HE := Aside0.mk (And.intro (own_lower ho HBO.out.size) (below_then HBO.out hb)); clear ho hb))
  go_ret2
  exact ⟨_, rfl, HE.out.1, HE.out.2⟩
end Go.Proofs.Ytfgogdhhihbcjaa.Arr
namespace Go.Proofs.Ytfgogdhhihbcjaa.Arr
open Go.RowKit Go.Proofs.YtfgogdhhihbcjaaW.PrintWords Go.Proofs.YtfgogdhhihbcjaaW.PrintLast Go.Proofs.YtfgogdhhihbcjaaW.PrintMore Go.Proofs.Ytfgogdhhihbcjaa.U Go.Proofs.Ytfgogdhhihbcjaa.H
set_option linter.unusedVariables false
set_option linter.unusedSimpArgs false
theorem rdM_get (xs : List (List Int)) (i : Nat) (h : i < xs.length) : rd_L1 xs (i : Int) = xs[i] := by
 simp [rd_L1, List.getElem?_eq_getElem h]
set_option maxHeartbeats 4000000 in
set_option maxRecDepth 100000 in
theorem indexFunc_m (g : FuncId) (hg : ∀ (a : Array Value) (W : World), (callFunc g a).run Try.prog W = .ok (.enter g a) W) (cap : Array Value) (p : List Int → Bool) (A0 : Option Addr) (c0 : Nat) (l0 : List (List Int)) (w : World) (hr0 : Kd.C (Kd.slice 64 (Kd.int .i8)) w A0 l0.length l0) (hc0 : l0.length ≤ c0)
  (hf : ∀ x ∈ l0, ∀ A c W, Below w.heap.size w W → Kd.C (Kd.int .i8) W A x.length x → x.length ≤ c → Calls Try.prog g (#[.slice A x.length c] ++ cap) W fun e W' => e = .returned (.bool (p x)) ∧ Below W.heap.size W W') :
  Calls Try.prog 65 #[.slice A0 l0.length c0, .func (.func g) #[] cap] w fun e w' => e = .returned (.int .i64 (ixa p l0)) ∧ Below w.heap.size w w' := by
 have HF := Aside0.mk hf
 have HR0 := Aside0.mk hr0
 have hmx := Kd.C_max hr0
 clear hf hr0
 go_enter Try.func65, Try.ntmps65
 go_wp2_with fail
 go_loopw [8, 5] (fun v8 v5 wr => ∃ i : Nat, i ≤ l0.length ∧ v8 = .int .i64 i ∧ Aside0 (Below w.heap.size w wr) ∧ Aside0 (∀ j, j < i → ∀ y, l0[j]? = some y → p y = false)) (fun v8 _ _ => l0.length - (intOf v8).toNat)
 case atStart => exact ⟨0, Nat.zero_le _, rfl, ⟨Below.refl _ _⟩, ⟨fun j hj => absurd hj (by omega)⟩⟩
 case round =>
  obtain ⟨i, hi, rfl, HB, HP⟩ := hrel
  by_cases hlt : i < l0.length
  ·have hx := List.getElem?_eq_getElem hlt
   have hx2 := rdM_get l0 i hlt
   obtain ⟨ad, A1, c1, rfl, hcell, hl1, hC1⟩ := at_L1 (Kd.C_below HR0.out HB.out) (i : Int) (by omega) (by omega)
   rw [Int.toNat_natCast] at hcell
   rw [← hx2] at hx
   generalize rd_L1 l0 (i : Int) = x at *
   have HM := Aside0.mk (HF.out x (List.mem_of_getElem? hx) A1 c1 _ HB.out hC1 hl1)
   have HX := Aside0.mk hx
   clear hx hC1 hx2
   cases hp : p x with
   | true =>
    have HPX := Aside0.mk hp
    rw [hp] at HM
    clear hp
    go_wp2_with (refine HM.out.mono ?_; rintro e w1 ⟨rfl, hb1⟩; have HB1 := Aside0.mk hb1; clear hb1)
    go_ret
    exact ⟨by rw [ixa_found p l0 i x HX.out HP.out HPX.out]; rfl, below_then HB.out HB1.out⟩
   | false =>
    have HPX := Aside0.mk hp
    rw [hp] at HM
    clear hp
    go_wp2_with (refine HM.out.mono ?_; rintro e w1 ⟨rfl, hb1⟩; have HB1 := Aside0.mk hb1; clear hb1)
    go_roundw
    case rel => exact ⟨i + 1, by omega, by go_num, ⟨below_then HB.out HB1.out⟩, ⟨fun j hj y hy => by
     rcases Nat.lt_or_ge j i with h | h
     ·exact HP.out j h y hy
     ·obtain rfl : j = i := by omega
      rw [HX.out] at hy
      rw [← Option.some.inj hy]; exact HPX.out⟩⟩
    case measure => simp [intOf]; omega
  ·have HI := Aside0.mk (show i = l0.length by omega)
   go_wp2_with fail
   go_ret
   exact ⟨by rw [ixa_none p l0 (fun j hj => HP.out j (by rw [HI.out]; exact hj))]; rfl, HB.out⟩
set_option maxHeartbeats 4000000 in
set_option maxRecDepth 100000 in
theorem containsFunc_m (g : FuncId) (hg : ∀ (a : Array Value) (W : World), (callFunc g a).run Try.prog W = .ok (.enter g a) W) (cap : Array Value) (p : List Int → Bool) (A0 : Option Addr) (c0 : Nat) (l0 : List (List Int)) (w : World) (hr0 : Kd.C (Kd.slice 64 (Kd.int .i8)) w A0 l0.length l0) (hc0 : l0.length ≤ c0)
  (hf : ∀ x ∈ l0, ∀ A c W, Below w.heap.size w W → Kd.C (Kd.int .i8) W A x.length x → x.length ≤ c → Calls Try.prog g (#[.slice A x.length c] ++ cap) W fun e W' => e = .returned (.bool (p x)) ∧ Below W.heap.size W W') :
  Calls Try.prog 51 #[.slice A0 l0.length c0, .func (.func g) #[] cap] w fun e w' => e = .returned (.bool (l0.any p)) ∧ Below w.heap.size w w' := by
 have HM := Aside0.mk (indexFunc_m g hg cap p A0 c0 l0 w hr0 hc0 hf)
 have HA := Aside0.mk (ixa_any p l0)
 clear hf hr0 hg hc0
 generalize ixa p l0 = n at *
 generalize l0.any p = b at *
 go_enter Try.func51, Try.ntmps51
 go_wp2_with (go_at_call 65; refine HM.out.mono ?_; rintro e w1 ⟨rfl, hb1⟩; have HB1 := Aside0.mk hb1; clear hb1)
 go_ret
 exact ⟨by rw [← HA.out]; rfl, HB1.out⟩
theorem mc1_enters (a : Array Value) (W : World) : (callFunc 52 a).run Try.prog W = .ok (.enter 52 a) W := by kernel_rfl
set_option maxHeartbeats 2000000 in
set_option maxRecDepth 100000 in
theorem mc1_calls (A0 : Option Addr) (c0 : Nat) (m : List Int) (w : World) (hr : Kd.C (Kd.int .i8) w A0 m.length m) (hc : m.length ≤ c0) (hs : Small8 m) :
  Calls Try.prog 52 (#[.slice A0 m.length c0] ++ #[]) w fun e w' => e = .returned (.bool (!plainM m)) ∧ Below w.heap.size w w' := by
 have HV := Aside0.mk (validMeaning_calls A0 c0 m w hr hc hs)
 show Calls Try.prog 52 #[.slice A0 m.length c0] w _
 clear hr hs hc
 generalize plainM m = b at *
 go_enter Try.func52, Try.ntmps52
 go_wp2_with (go_at_call 53; refine HV.out.mono ?_; rintro e w1 ⟨rfl, hb1⟩; have HB1 := Aside0.mk hb1; clear hb1)
 go_ret
 exact ⟨rfl, HB1.out⟩
def codeMs (L : List Int) (ms : List (List Int)) : Int := if okL L = true then (if ms.any (fun m => !plainM m) = false then (if (ms.length : Int) ≤ 6 then 0 else 3) else 1) else 1
theorem unless_callsH (b : Bool) (c : Int) (w : World) : Calls Try.prog 45 #[.bool b, .int .i64 c] w fun e w' => e = .returned (.int .i64 (if b = true then 0 else c)) ∧ Below w.heap.size w w' := by
 refine (impl_unless.calls b c (if b = true then 0 else c) w (by unfold impl_unless.f; cases b <;> rfl)).mono ?_
 rintro e w' ⟨rfl, h⟩
 exact ⟨rfl, h.below⟩
set_option maxHeartbeats 4000000 in
set_option maxRecDepth 100000 in
theorem meaningCode_calls (L : List Int) (A0 : Option Addr) (c0 : Nat) (ms : List (List Int)) (w : World) (hl : L.length = 44) (hw : Fits .i16 L) (hr : Kd.C kH w A0 ms.length ms) (hc : ms.length ≤ c0) (hs : ∀ x ∈ ms, Small8 x) (hn : ms.length ≤ 1048576) :
  Calls Try.prog 34 #[.agg (vals .i16 L), .slice A0 ms.length c0] w fun e w' => e = .returned (.int .i64 (codeMs L ms)) ∧ Below w.heap.size w w' := by
 have hm := Mem.start w
 have HW := Aside0.mk hw
 have HLC := Aside0.mk (fun (W : World) (g : Nat) (h : Lks W g [L]) => lockerCode_calls g [L] W h (by simp))
 have HCF := Aside0.mk (fun W (hW : Below w.heap.size w W) => containsFunc_m 52 mc1_enters #[] (fun m => !plainM m) A0 c0 ms W (Kd.C_below hr hW) hc (fun x hx A c W' hW' hC hc' => mc1_calls A c x W' hC hc' (hs x hx)))
 unfold codeMs
 clear hr hc hs hw
 have HLA : Aside0 ((if [L].all okL = true then 0 else 1 : Int) = (if okL L = true then 0 else 1)) := ⟨by simp⟩
 by_cases hok : okL L = true
 ·rw [if_pos hok]
  rw [if_pos hok] at HLA
  by_cases ha : ms.any (fun m => !plainM m) = false
  ·rw [if_pos ha]
   rw [ha] at HCF
   clear hok ha
   by_cases h6 : (ms.length : Int) ≤ 6
   ·rw [if_pos h6]
    go_enter Try.func34, Try.ntmps34
    go_wp2_with (first
     | (first | fail | ((with_reducible refine gt_box 2 31 ?_); refine st_box rfl 2 rfl 31 _ rfl hm (v := .agg (vals _ _)) rfl (cs := vals _ _) rfl ?_; clear hm; intro g2 w2 hm) | ((with_reducible refine gt_load 31 ?_); (first | (refine st_load rfl 31 _ rfl hm rfl 0 rfl agg31 (by first | omega | assumption | (simp only [lens]; first | omega | assumption) | (simp [lens]; done) | (simp [lens]; omega)) ?_) | (refine st_load rfl 31 _ rfl hm rfl 1 rfl agg31 (by first | omega | assumption | (simp only [lens]; first | omega | assumption) | (simp [lens]; done) | (simp [lens]; omega)) ?_) | (refine st_load rfl 31 _ rfl hm rfl 2 rfl agg31 (by first | omega | assumption | (simp only [lens]; first | omega | assumption) | (simp [lens]; done) | (simp [lens]; omega)) ?_))) | (refine st_lit1 rfl 6 rfl 100 _ rfl hm rfl Try.underlying100 agg31 zero31 (by first | omega | assumption | (simp only [lens]; first | omega | assumption) | (simp [lens]; done) | (simp [lens]; omega))  (by decide) (by decide) ?_; clear hm; intro g6 w6 hm))
     | (go_at_call 50; refine (HLC.out _ g6 (lks1 hm (n := 0) rfl hl HW.out)).mono ?_; rintro e w1 ⟨rfl, h⟩; rw [HLA.out]; have HB1 := Aside0.mk (below_then (hm.done rfl) h); clear hm h)
     | (go_at_call 51; refine (HCF.out _ HB1.out).mono ?_; rintro e w2 ⟨rfl, h⟩; have HB2 := Aside0.mk (below_then HB1.out h); clear h)
     | (go_at_call 45; refine (unless_callsH _ _ _).mono ?_; rintro e w3 ⟨rfl, h⟩; have HB3 := Aside0.mk (below_then HB2.out h); clear h))
    go_ret
    exact ⟨rfl, HB3.out⟩
   ·rw [if_neg h6]
    go_enter Try.func34, Try.ntmps34
    go_wp2_with (first
     | (first | fail | ((with_reducible refine gt_box 2 31 ?_); refine st_box rfl 2 rfl 31 _ rfl hm (v := .agg (vals _ _)) rfl (cs := vals _ _) rfl ?_; clear hm; intro g2 w2 hm) | ((with_reducible refine gt_load 31 ?_); (first | (refine st_load rfl 31 _ rfl hm rfl 0 rfl agg31 (by first | omega | assumption | (simp only [lens]; first | omega | assumption) | (simp [lens]; done) | (simp [lens]; omega)) ?_) | (refine st_load rfl 31 _ rfl hm rfl 1 rfl agg31 (by first | omega | assumption | (simp only [lens]; first | omega | assumption) | (simp [lens]; done) | (simp [lens]; omega)) ?_) | (refine st_load rfl 31 _ rfl hm rfl 2 rfl agg31 (by first | omega | assumption | (simp only [lens]; first | omega | assumption) | (simp [lens]; done) | (simp [lens]; omega)) ?_))) | (refine st_lit1 rfl 6 rfl 100 _ rfl hm rfl Try.underlying100 agg31 zero31 (by first | omega | assumption | (simp only [lens]; first | omega | assumption) | (simp [lens]; done) | (simp [lens]; omega))  (by decide) (by decide) ?_; clear hm; intro g6 w6 hm))
     | (go_at_call 50; refine (HLC.out _ g6 (lks1 hm (n := 0) rfl hl HW.out)).mono ?_; rintro e w1 ⟨rfl, h⟩; rw [HLA.out]; have HB1 := Aside0.mk (below_then (hm.done rfl) h); clear hm h)
     | (go_at_call 51; refine (HCF.out _ HB1.out).mono ?_; rintro e w2 ⟨rfl, h⟩; have HB2 := Aside0.mk (below_then HB1.out h); clear h)
     | (go_at_call 45; refine (unless_callsH _ _ _).mono ?_; rintro e w3 ⟨rfl, h⟩; have HB3 := Aside0.mk (below_then HB2.out h); clear h))
    go_ret
    exact ⟨rfl, HB3.out⟩
  ·rw [if_neg ha]
   rw [show ms.any (fun m => !plainM m) = true by cases h : ms.any (fun m => !plainM m) with | true => rfl | false => exact absurd h ha] at HCF
   clear hok ha
   go_enter Try.func34, Try.ntmps34
   go_wp2_with (first
     | (first | fail | ((with_reducible refine gt_box 2 31 ?_); refine st_box rfl 2 rfl 31 _ rfl hm (v := .agg (vals _ _)) rfl (cs := vals _ _) rfl ?_; clear hm; intro g2 w2 hm) | ((with_reducible refine gt_load 31 ?_); (first | (refine st_load rfl 31 _ rfl hm rfl 0 rfl agg31 (by first | omega | assumption | (simp only [lens]; first | omega | assumption) | (simp [lens]; done) | (simp [lens]; omega)) ?_) | (refine st_load rfl 31 _ rfl hm rfl 1 rfl agg31 (by first | omega | assumption | (simp only [lens]; first | omega | assumption) | (simp [lens]; done) | (simp [lens]; omega)) ?_) | (refine st_load rfl 31 _ rfl hm rfl 2 rfl agg31 (by first | omega | assumption | (simp only [lens]; first | omega | assumption) | (simp [lens]; done) | (simp [lens]; omega)) ?_))) | (refine st_lit1 rfl 6 rfl 100 _ rfl hm rfl Try.underlying100 agg31 zero31 (by first | omega | assumption | (simp only [lens]; first | omega | assumption) | (simp [lens]; done) | (simp [lens]; omega))  (by decide) (by decide) ?_; clear hm; intro g6 w6 hm))
     | (go_at_call 50; refine (HLC.out _ g6 (lks1 hm (n := 0) rfl hl HW.out)).mono ?_; rintro e w1 ⟨rfl, h⟩; rw [HLA.out]; have HB1 := Aside0.mk (below_then (hm.done rfl) h); clear hm h)
     | (go_at_call 51; refine (HCF.out _ HB1.out).mono ?_; rintro e w2 ⟨rfl, h⟩; have HB2 := Aside0.mk (below_then HB1.out h); clear h)
     | (go_at_call 45; refine (unless_callsH _ _ _).mono ?_; rintro e w3 ⟨rfl, h⟩; have HB3 := Aside0.mk (below_then HB2.out h); clear h))
   go_ret
   exact ⟨rfl, HB2.out⟩
 ·rw [if_neg hok]
  rw [if_neg hok] at HLA
  clear hok
  go_enter Try.func34, Try.ntmps34
  go_wp2_with (first
     | (first | fail | ((with_reducible refine gt_box 2 31 ?_); refine st_box rfl 2 rfl 31 _ rfl hm (v := .agg (vals _ _)) rfl (cs := vals _ _) rfl ?_; clear hm; intro g2 w2 hm) | ((with_reducible refine gt_load 31 ?_); (first | (refine st_load rfl 31 _ rfl hm rfl 0 rfl agg31 (by first | omega | assumption | (simp only [lens]; first | omega | assumption) | (simp [lens]; done) | (simp [lens]; omega)) ?_) | (refine st_load rfl 31 _ rfl hm rfl 1 rfl agg31 (by first | omega | assumption | (simp only [lens]; first | omega | assumption) | (simp [lens]; done) | (simp [lens]; omega)) ?_) | (refine st_load rfl 31 _ rfl hm rfl 2 rfl agg31 (by first | omega | assumption | (simp only [lens]; first | omega | assumption) | (simp [lens]; done) | (simp [lens]; omega)) ?_))) | (refine st_lit1 rfl 6 rfl 100 _ rfl hm rfl Try.underlying100 agg31 zero31 (by first | omega | assumption | (simp only [lens]; first | omega | assumption) | (simp [lens]; done) | (simp [lens]; omega))  (by decide) (by decide) ?_; clear hm; intro g6 w6 hm))
     | (go_at_call 50; refine (HLC.out _ g6 (lks1 hm (n := 0) rfl hl HW.out)).mono ?_; rintro e w1 ⟨rfl, h⟩; rw [HLA.out]; have HB1 := Aside0.mk (below_then (hm.done rfl) h); clear hm h)
     | (go_at_call 51; refine (HCF.out _ HB1.out).mono ?_; rintro e w2 ⟨rfl, h⟩; have HB2 := Aside0.mk (below_then HB1.out h); clear h)
     | (go_at_call 45; refine (unless_callsH _ _ _).mono ?_; rintro e w3 ⟨rfl, h⟩; have HB3 := Aside0.mk (below_then HB2.out h); clear h))
  go_ret
  exact ⟨rfl, HB1.out⟩
end Go.Proofs.Ytfgogdhhihbcjaa.Arr
namespace Go.Proofs.Ytfgogdhhihbcjaa.Arr
open Go.RowKit Go.Proofs.YtfgogdhhihbcjaaW.PrintWords Go.Proofs.YtfgogdhhihbcjaaW.PrintLast Go.Proofs.YtfgogdhhihbcjaaW.PrintMore Go.Proofs.Ytfgogdhhihbcjaa.U Go.Proofs.Ytfgogdhhihbcjaa.H
set_option linter.unusedVariables false
set_option linter.unusedSimpArgs false
theorem zeroFn : ZeroTy Try.prog 106 #[.nilFunc] := ⟨.nilFunc, by kernel_rfl, rfl⟩
section
variable {P : Program} {ops : Array Oper} {rest : List Oper} {o : Oper} {a : Act} {w0 w : World} {M : List Ent} {Q : Exit → Act → World → Prop}
theorem st_one (hgd : o.guard = none) (ty : TypeId) (x y : Operand) (ho : o.op = .store ty x y) (hm : Mem w0 w M) {g : Nat} {v : Value} (hx : a.eval x = .pointer (some ⟨g, 0, none⟩)) (hy : a.eval y = v)
  (n : Nat) {u : Value} {t : TypeId} {own : Bool} (hn : M[n]? = some ⟨g, #[u], t, own⟩) (h1 : OneTy P ty) (hv : v.cells = #[v]) (hv1 : v.oneCell' = true)
  (h : ∀ w1, Mem w0 w1 (M.set n ⟨g, #[v], t, own⟩) → wpList P ops Q rest (a.put o.dst undef) w1) : wpList P ops Q (o :: rest) a w := by
 refine wpList_plain hgd fun K hK => ?_
 unfold Oper.wp execOp
 have hst : (storeVar ty ⟨g, 0, none⟩ v).run P w = .ok () (w.setCell ⟨g, 0, none⟩ v) := run_store1 h1.2 hv ((hm.cell hn 0).trans rfl) (hm.frozen hn 0) hv1
 simp only [ho, hx, hy, Instr.storeAt, Instr.sureAddr, Sem.run_bind, Sem.run_pure, Result.andThen_ok, hst]
 exact hK _ _ (h _ (hm.set hn 0 v))
theorem st_cell (hgd : o.guard = none) (ty : TypeId) (x : Operand) (ho : o.op = .load ty x) (hm : Mem w0 w M) {g : Nat} (hx : a.eval x = .pointer (some ⟨g, 0, none⟩))
  (n : Nat) {v : Value} {t : TypeId} {own : Bool} (hn : M[n]? = some ⟨g, #[v], t, own⟩) (h1 : OneTy P ty)
  (h : wpList P ops Q rest (a.put o.dst v) w) : wpList P ops Q (o :: rest) a w := by
 refine wpList_plain hgd fun K hK => ?_
 unfold Oper.wp
 rw [y_cell ho hx h1 (cell1 (hm.mem hn))]
 exact hK _ _ h
end
theorem Mem.own_ge {w0 w : World} {M : List Ent} (h : Mem w0 w M) (n : Nat) {g : Nat} {cs : Array Value} {t : TypeId} (hn : M[n]? = some ⟨g, cs, t, true⟩) : w0.heap.size ≤ g := (h.ent _ (List.mem_of_getElem? hn)).2 rfl
theorem Mem.ne {w0 w : World} {M : List Ent} (h : Mem w0 w M) (m n : Nat) (hmn : m ≠ n) {g g' : Nat} {cs cs' : Array Value} {t t' : TypeId} {o o' : Bool} (hm : M[m]? = some ⟨g, cs, t, o⟩) (hn : M[n]? = some ⟨g', cs', t', o'⟩) : g ≠ g' := fun e => hmn (h.apart m n _ _ hm hn e)
theorem not_in {g g' b : Nat} {B : List Nat} (h : g ≠ g') (hB : ∀ k ∈ B, k < b) (hg : b ≤ g) : g ∉ g' :: B := fun hm => by
 rcases List.mem_cons.1 hm with e | e
 ·exact h e
 ·have := hB g e; omega
theorem FrB.over {B : List Nat} {w w1 w2 : World} {g : Nat} (h : FrB [] w w1) (h2 : FrB (g :: B) w1 w2) (hg : w.heap.size ≤ g) : FrB B w w2 :=
 ⟨h2.os.trans h.os, h2.tape.trans h.tape, h2.output.trans h.output, Nat.le_trans h.size h2.size, fun k hk hn => (h2.other k (Nat.lt_of_lt_of_le hk h.size) (fun hm => by
  rcases List.mem_cons.1 hm with e | e
  ·omega
  ·exact hn e)).trans (h.other k hk (by simp))⟩
theorem FrB.past {B : List Nat} {w w1 w2 : World} (h : FrB [] w w1) (h2 : FrB B w1 w2) (hB : ∀ b ∈ B, w.heap.size ≤ b) : FrB [] w w2 :=
 ⟨h2.os.trans h.os, h2.tape.trans h.tape, h2.output.trans h.output, Nat.le_trans h.size h2.size, fun k hk _ => (h2.other k (Nat.lt_of_lt_of_le hk h.size) (fun hm => by have := hB k hm; omega)).trans (h.other k hk (by simp))⟩
set_option maxHeartbeats 8000000 in
set_option maxRecDepth 100000 in
theorem hoists_calls {σ : Type} (step : σ → List Int → σ × Bool) (I : Nat → σ → World → Prop) (fe : FuncId) (capE : Array Value) (B : List Nat) (s : σ) (Am : Option Addr) (cm : Nat) (m H : List Int) (w : World)
  (hge : ∀ (a : Array Value) (W : World), (callFunc fe a).run Try.prog W = .ok (.enter fe a) W) (hB : ∀ b ∈ B, b < w.heap.size) (hM : ∀ W, FrB B w W → Kd.C (Kd.int .i8) W Am m.length m) (hmc : m.length ≤ cm)
  (hm0 : ∀ x ∈ m, PlainN x) (hml : m.length ≤ 1000) (hHl : H.length = 44) (hHb : ∀ j : Nat, j < 44 → 0 ≤ rd H (j : Int) ∧ rd H (j : Int) ≤ 1000000)
  (hI : ∀ w1, FrB [] w w1 → I w1.heap.size s w1)
  (hcall : ∀ (base : Nat) (s : σ) (h : List Int) (v : Value) (w1 : World), I base s w1 → Own base w1 v h → (∀ b ∈ B, b < base) → w.heap.size ≤ base → base ≤ w1.heap.size → Calls Try.prog fe (#[v] ++ capE) w1 fun e w' => e = .returned (.bool (step s h).2) ∧ I base (step s h).1 w' ∧ FrB B w1 w')
  (hstab : ∀ (base : Nat) (s : σ) (gh : Nat) (w1 w2 : World), I base s w1 → gh < base → gh ∉ B → w.heap.size ≤ gh → FrB [gh] w1 w2 → I base s w2) :
  Calls Try.prog 54 #[.slice Am m.length cm, .agg (vals .i64 H), .func (.func fe) #[] capE] w fun e w' =>
   ∃ base s' on, e = .returned (.bool on) ∧ runL step s (leaves m 4 (enough H) m.length [] 0) = (s', on) ∧ w.heap.size ≤ base ∧ base ≤ w'.heap.size ∧ I base s' w' ∧ FrB B w w' := by
 have hm := Mem.start w
 have hse := seek_enters
 have HGE := Aside0.mk hge
 have HB := Aside0.mk hB
 have HM := Aside0.mk hM
 have HP := Aside0.mk hm0
 have HHB := Aside0.mk hHb
 have HI := Aside0.mk hI
 have HCA := Aside0.mk hcall
 have HST := Aside0.mk hstab
 clear hge hB hM hm0 hHb hI hcall hstab
 have HFIN : Aside0 (∀ P : Prop, P → P) := ⟨fun _ h => h⟩
 go_enter Try.func54, Try.ntmps54
 go_wp2_with (first
  | ((with_reducible refine gt_alloc 7 106 ?_); refine st_alloc rfl 7 rfl 106 rfl hm zeroFn ?_; clear hm; intro g7 w7 hm)
  | ((with_reducible refine gt_store 106 ?_); refine st_one rfl 106 _ _ rfl hm rfl rfl 0 rfl oneFn rfl rfl ?_; clear hm; intro ws hm; simp only [List.set_cons_zero] at hm)
  | ((with_reducible refine gt_load 106 ?_); refine st_cell rfl 106 _ rfl hm rfl 0 rfl oneFn ?_)
  | (first | fail | ((with_reducible refine gt_box 3 33 ?_); refine st_box rfl 3 rfl 33 _ rfl hm rfl rfl ?_; clear hm; intro g3 w3 hm) | ((with_reducible refine gt_box 4 71 ?_); refine st_box rfl 4 rfl 71 _ rfl hm (v := .agg (vals _ _)) rfl (cs := vals _ _) rfl ?_; clear hm; intro g4 w4 hm) | ((with_reducible refine gt_box 5 89 ?_); refine st_box rfl 5 rfl 89 _ rfl hm rfl rfl ?_; clear hm; intro g5 w5 hm)))
 have o3 := hm.own_ge 3 rfl
 have o4 := hm.own_ge 2 rfl
 have o5 := hm.own_ge 1 rfl
 have o7 := hm.own_ge 0 rfl
 have n34 := hm.ne 3 2 (by decide) rfl rfl
 have n54 := hm.ne 1 2 (by decide) rfl rfl
 have n74 := hm.ne 0 2 (by decide) rfl rfl
 have h3 := hm.mem (n := 3) rfl
 have h4 := hm.mem (n := 2) rfl
 have h5 := hm.mem (n := 1) rfl
 have h7 := hm.mem (n := 0) rfl
 have hsz := hm.size
 have hf0 : FrB [] w ws := FrB.below (hm.done rfl)
 have l4 := lt_of_some h4
 have hlt : ∀ b ∈ g4 :: B, b < ws.heap.size := fun b hb => by
  rcases List.mem_cons.1 hb with e | e
  ·omega
  ·have := HB.out b e; omega
 refine (seek_calls (step := step) (I := I ws.heap.size) (fe := fe) (capE := capE) (B := B) (wS := ws) (gm := g3) (gh := g4) (ge := g5) (gc := g7) (H := H) HGE.out h3 h5 h7 (not_in n34 HB.out o3) (not_in n54 HB.out o5) (not_in n74 HB.out o7) (fun hb => by have := HB.out g4 hb; omega) hlt
  (fun W hW => HM.out W (hf0.over hW o4)) hmc HP.out hml hHl HHB.out (fun s h v w1 hI1 ho hf => HCA.out ws.heap.size s h v w1 hI1 ho (fun b hb => hlt b (List.mem_cons_of_mem _ hb)) hsz hf.size)
  (fun s w1 w2 hI1 hf => HST.out ws.heap.size s g4 w1 w2 hI1 l4 (fun hb => by have := HB.out g4 hb; omega) o4 hf) m.length [] 0 (.slice none 0 0) s ws (by simp) (by omega) (by simp) (FrB.refl _ _) h4 (HI.out ws hf0) (Kd.R_nil _ _ _ _ _)).mono ?_
 rintro e w6 ⟨s', on, rfl, hrun, hI6, hf6⟩
 have HRUN := Aside0.mk hrun
 have HI6 := Aside0.mk hI6
 have HF6 := Aside0.mk ((hf0.mono (B' := B) (by simp)).trans hf6)
 have hs6 := hf6.size
 clear hrun hI6 hf6
 have HW := Aside0.mk (Nat.le_trans hsz (Nat.le_refl ws.heap.size))
 go_wp2_with fail
 go_ret
 exact ⟨ws.heap.size, s', on, rfl, HRUN.out, HW.out, hs6, HI6.out, HF6.out⟩
end Go.Proofs.Ytfgogdhhihbcjaa.Arr
namespace Go.Proofs.Ytfgogdhhihbcjaa.Arr
open Go.RowKit Go.Proofs.YtfgogdhhihbcjaaW.PrintWords Go.Proofs.YtfgogdhhihbcjaaW.PrintLast Go.Proofs.YtfgogdhhihbcjaaW.PrintMore Go.Proofs.Ytfgogdhhihbcjaa.U Go.Proofs.Ytfgogdhhihbcjaa.H
set_option linter.unusedVariables false
set_option linter.unusedSimpArgs false
theorem oneHoist : OneTy Try.prog 28 := ⟨by kernel_rfl, by kernel_rfl⟩
theorem oneBool : OneTy Try.prog 4 := ⟨by kernel_rfl, by kernel_rfl⟩
theorem zeroHoist : ZeroTy Try.prog 28 #[.slice none 0 0] := ⟨.slice none 0 0, by kernel_rfl, rfl⟩
theorem zeroBool : ZeroTy Try.prog 4 #[.bool false] := ⟨.bool false, by kernel_rfl, rfl⟩
theorem Mem.frB {w0 w : World} {M : List Ent} (h : Mem w0 w M) : FrB (M.map (·.g)) w0 w := ⟨h.os, h.tape, h.output, h.size, fun k hk hn => h.block k hk fun e he hg => hn (by rw [← hg]; exact List.mem_map_of_mem he)⟩
def FoundI (g6 g7 : Nat) (base : Nat) (s : Option (List Int)) (w : World) : Prop := ∃ (v : Value) (b : Bool), w.heap[g6]? = some (.cells #[v] 28 (0, 0)) ∧ w.heap[g7]? = some (.cells #[.bool b] 4 (0, 0)) ∧
 (match s with | none => v = .slice none 0 0 ∧ b = false | some h => b = true ∧ Own base w v h)
def foundStep (_ : Option (List Int)) (h : List Int) : Option (List Int) × Bool := (some h, false)
theorem runL_found (l : List (List Int)) : runL foundStep none l = (l.head?, l.isEmpty) := by
 cases l <;> rfl
theorem first1_enters (a : Array Value) (W : World) : (callFunc 55 a).run Try.prog W = .ok (.enter 55 a) W := by kernel_rfl
set_option maxHeartbeats 4000000 in
set_option maxRecDepth 100000 in
theorem first1_calls (g6 g7 base : Nat) (s : Option (List Int)) (h : List Int) (v : Value) (w : World) (hI : FoundI g6 g7 base s w) (ho : Own base w v h) (h6 : g6 < base) (h7 : g7 < base) (hne : g6 ≠ g7) :
  Calls Try.prog 55 (#[v] ++ #[.pointer (some ⟨g6, 0, none⟩), .pointer (some ⟨g7, 0, none⟩)]) w fun e w' => e = .returned (.bool (foundStep s h).2) ∧ FoundI g6 g7 base (foundStep s h).1 w' ∧ FrB [g6, g7] w w' := by
 obtain ⟨v0, b0, c6, c7, _⟩ := hI
 have hm := Mem.given2 c6 c7 hne
 have HO := Aside0.mk ho
 obtain ⟨A, c, rfl⟩ := Kd.R_slice ho
 clear ho c6 c7
 show Calls Try.prog 55 #[.slice A h.length c, .pointer (some ⟨g6, 0, none⟩), .pointer (some ⟨g7, 0, none⟩)] w _
 unfold FoundI foundStep
 go_enter Try.func55, Try.ntmps55
 go_wp2_with (first
  | ((with_reducible refine gt_store 28 ?_); refine st_one rfl 28 _ _ rfl hm rfl rfl 0 rfl oneHoist rfl rfl ?_; clear hm; intro w1 hm; simp only [List.set_cons_zero, List.set_cons_succ] at hm)
  | ((with_reducible refine gt_store 4 ?_); refine st_one rfl 4 _ _ rfl hm rfl rfl 1 rfl oneBool rfl rfl ?_; clear hm; intro w2 hm; simp only [List.set_cons_zero, List.set_cons_succ] at hm))
 go_ret
 exact ⟨rfl, ⟨_, _, hm.mem (n := 0) rfl, hm.mem (n := 1) rfl, rfl, own_later HO.out hm.frB (by simp; omega)⟩, hm.frB⟩
def FirstRes (base : Nat) (s : Option (List Int)) (v : Value) (b : Bool) (w : World) : Prop := match s with | none => v = .slice none 0 0 ∧ b = false | some h => b = true ∧ Own base w v h
set_option maxHeartbeats 8000000 in
set_option maxRecDepth 100000 in
theorem first_calls (Am : Option Addr) (cm : Nat) (m H : List Int) (w : World) (hr : Kd.C (Kd.int .i8) w Am m.length m) (hmc : m.length ≤ cm) (hm0 : ∀ x ∈ m, PlainN x) (hml : m.length ≤ 1000) (hHl : H.length = 44) (hHb : ∀ j : Nat, j < 44 → 0 ≤ rd H (j : Int) ∧ rd H (j : Int) ≤ 1000000) :
  Calls Try.prog 35 #[.slice Am m.length cm, .agg (vals .i64 H)] w fun e w' => ∃ (v : Value) (b : Bool), e = .returned (.tuple #[v, .bool b]) ∧
   FirstRes w.heap.size (leaves m 4 (enough H) m.length [] 0).head? v b w' ∧ Below w.heap.size w w' := by
 have hm := Mem.start w
 have HR := Aside0.mk hr
 have HP := Aside0.mk hm0
 have HHB := Aside0.mk hHb
 clear hr hm0 hHb
 go_enter Try.func35, Try.ntmps35
 go_wp2_with (first
  | ((with_reducible refine gt_alloc 6 28 ?_); refine st_alloc rfl 6 rfl 28 rfl hm zeroHoist ?_; clear hm; intro g6 w6 hm)
  | ((with_reducible refine gt_alloc 7 4 ?_); refine st_alloc rfl 7 rfl 4 rfl hm zeroBool ?_; clear hm; intro g7 w7 hm)
  | ((with_reducible refine gt_store 28 ?_); refine st_one rfl 28 _ _ rfl hm rfl rfl 1 rfl oneHoist rfl rfl ?_; clear hm; intro w1 hm; simp only [List.set_cons_zero, List.set_cons_succ] at hm)
  | ((with_reducible refine gt_store 4 ?_); refine st_one rfl 4 _ _ rfl hm rfl rfl 0 rfl oneBool rfl rfl ?_; clear hm; intro w2 hm; simp only [List.set_cons_zero, List.set_cons_succ] at hm)
  | (first | fail | ((with_reducible refine gt_box 3 71 ?_); refine st_box rfl 3 rfl 71 _ rfl hm (v := .agg (vals _ _)) rfl (cs := vals _ _) rfl ?_; clear hm; intro g3 w3 hm) | ((with_reducible refine gt_load 71 ?_); (first | (refine st_load rfl 71 _ rfl hm rfl 0 rfl agg71 (by first | omega | assumption | (simp only [lens]; first | omega | assumption) | (simp [lens]; done) | (simp [lens]; omega)) ?_) | (refine st_load rfl 71 _ rfl hm rfl 1 rfl agg71 (by first | omega | assumption | (simp only [lens]; first | omega | assumption) | (simp [lens]; done) | (simp [lens]; omega)) ?_) | (refine st_load rfl 71 _ rfl hm rfl 2 rfl agg71 (by first | omega | assumption | (simp only [lens]; first | omega | assumption) | (simp [lens]; done) | (simp [lens]; omega)) ?_) | (refine st_load rfl 71 _ rfl hm rfl 3 rfl agg71 (by first | omega | assumption | (simp only [lens]; first | omega | assumption) | (simp [lens]; done) | (simp [lens]; omega)) ?_) | (refine st_load rfl 71 _ rfl hm rfl 4 rfl agg71 (by first | omega | assumption | (simp only [lens]; first | omega | assumption) | (simp [lens]; done) | (simp [lens]; omega)) ?_)))))
 replace hm : Mem w w2 [⟨g7, #[.bool false], 4, true⟩, ⟨g6, #[.slice none 0 0], 28, true⟩, ⟨g3, vals .i64 H, 71, true⟩] := hm
 have o6 := hm.own_ge 1 rfl
 have o7 := hm.own_ge 0 rfl
 have h6 := hm.mem (n := 1) rfl
 have h7 := hm.mem (n := 0) rfl
 have l6 := lt_of_some h6
 have l7 := lt_of_some h7
 have n67 := hm.ne 1 0 (by decide) rfl rfl
 have hf0 : FrB [] w w2 := FrB.below (hm.done rfl)
 have HF0 := Aside0.mk hf0
 have hpast : ∀ W, FrB [g6, g7] w2 W → FrB [] w W := fun W hW => hf0.past hW (fun b hb => by
  simp only [List.mem_cons, List.not_mem_nil, or_false] at hb
  rcases hb with rfl | rfl
  ·exact o6
  ·exact o7)
 refine (hoists_calls foundStep (FoundI g6 g7) 55 #[.pointer (some ⟨g6, 0, none⟩), .pointer (some ⟨g7, 0, none⟩)] [g6, g7] none Am cm m H w2 first1_enters
  (fun b hb => by
   simp only [List.mem_cons, List.not_mem_nil, or_false] at hb
   rcases hb with rfl | rfl
   ·exact l6
   ·exact l7) (fun W hW => Kd.C_below HR.out (hpast W hW).to_below) hmc HP.out hml hHl HHB.out
  (fun w1 hf => ⟨.slice none 0 0, false, hf.row h6 (by simp), hf.row h7 (by simp), rfl, rfl⟩)
  (fun base s h v w1 hI ho hB _ _ => first1_calls g6 g7 base s h v w1 hI ho (hB g6 (by simp)) (hB g7 (by simp)) n67)
  (fun base s gh w1 w3 hI hlt hni hge hf => by
   obtain ⟨v, b, c6, c7, hs⟩ := hI
   simp only [List.mem_cons, List.not_mem_nil, or_false, not_or] at hni
   refine ⟨v, b, hf.row c6 (by simp; exact fun e => hni.1 e.symm), hf.row c7 (by simp; exact fun e => hni.2 e.symm), ?_⟩
   cases s with
   | none => exact hs
   | some h => exact ⟨hs.1, own_later hs.2 hf (by simpa using hlt)⟩)).mono ?_
 rintro e wh ⟨base, s', on, rfl, hrun, hb0, hb1, hI6, hf6⟩
 rw [runL_found] at hrun
 injection hrun with hs hon
 obtain ⟨v, b, c6, c7, hres⟩ := hI6
 have HC6 := Aside0.mk (cell1 c6)
 have HC7 := Aside0.mk (cell1 c7)
 have HFW := Aside0.mk (hpast wh hf6)
 have hbase : w.heap.size ≤ base := Nat.le_trans hm.size hb0
 have HRES : Aside0 (∀ W, FrB [] wh W → FirstRes w.heap.size (leaves m 4 (enough H) m.length [] 0).head? v b W) := ⟨fun W hW => by
  rw [hs]
  unfold FirstRes
  cases s' with
  | none => exact hres
  | some h => exact ⟨hres.1, own_lower (own_later hres.2 hW (by simp)) hbase⟩⟩
 clear hs hres hf6 hm hpast hf0 c6 c7 h6 h7
 go_wp2_with fail
 refine start_ (n := 4) (S := fun w' => FrB [] wh w') (ds := []) #[false, false, false, false] (by kernel_rfl) rfl rfl (FrB.below (below_drew (Below.refl _ _))) (fun hHeld => ?_)
 refine take_ (i := 0) (N := some 12) (v := v) (a' := ?_) #[true, false, false, false] rfl rfl (by kernel_rfl) (fun _ _ _ h => h) (Or.inl ⟨by rfl, ?_⟩) hHeld ?_ ?_
 ·intro w' s0
  exact y_cell (by rfl) (by rfl) oneHoist (s0.read HC6.out)
 rotate_left
 ·simp only [Act.put, List.setIfInBounds_toArray, List.set_cons_zero, List.set_cons_succ, i64_w, i32_w]
  rfl
 refine pure_ (i := 2) (N := some 4) (v := ?_) (a' := ?_) #[true, false, true, false] rfl rfl (by kernel_rfl) (fun _ _ _ h => h) (Or.inl ⟨by rfl, ?_⟩) ?_ ?_
 rotate_left
 ·intro w'
  go_simp
  with_reducible rfl
 rotate_left
 ·simp only [Act.put, List.setIfInBounds_toArray, List.set_cons_zero, List.set_cons_succ, i64_w, i32_w]
  rfl
 refine take_ (i := 1) (N := some 13) (v := .bool b) (a' := ?_) #[true, true, true, false] rfl rfl (by kernel_rfl) (fun _ _ _ h => h) (Or.inl ⟨by rfl, ?_⟩) hHeld ?_ ?_
 ·intro w' s0
  exact y_cell (by rfl) (by rfl) oneBool (s0.read HC7.out)
 rotate_left
 ·simp only [Act.put, List.setIfInBounds_toArray, List.set_cons_zero, List.set_cons_succ, i64_w, i32_w]
  rfl
 refine pure_ (i := 3) (N := some 5) (v := ?_) (a' := ?_) #[true, true, true, true] rfl rfl (by kernel_rfl) (fun _ _ _ h => h) (Or.inl ⟨by rfl, ?_⟩) ?_ ?_
 rotate_left
 ·intro w'
  go_simp
  with_reducible rfl
 rotate_left
 ·simp only [Act.put, List.setIfInBounds_toArray, List.set_cons_zero, List.set_cons_succ, i64_w, i32_w]
  rfl
 refine done_ (by kernel_rfl) ?_
 skip
 go_wp2_with fail
 go_ret2
 exact ⟨v, b, rfl, HRES.out _ hHeld, (HFW.out.trans hHeld).to_below⟩
end Go.Proofs.Ytfgogdhhihbcjaa.Arr
namespace Go.Proofs.Ytfgogdhhihbcjaa.Arr
open Go.RowKit Go.Proofs.YtfgogdhhihbcjaaW.PrintWords Go.Proofs.YtfgogdhhihbcjaaW.PrintLast Go.Proofs.YtfgogdhhihbcjaaW.PrintMore Go.Proofs.Ytfgogdhhihbcjaa.U Go.Proofs.Ytfgogdhhihbcjaa.H
set_option linter.unusedVariables false
set_option linter.unusedSimpArgs false
theorem C_one {W : World} {g : Nat} {Am : Option Addr} {cm : Nat} {m : List Int} (h : W.heap[g]? = some (.cells #[.slice Am m.length cm] 33 (0, 0))) (hr : Kd.C (Kd.int .i8) W Am m.length m) (hc : m.length ≤ cm) : Kd.C kH W (some ⟨g, 0, none⟩) 1 [m] := by
 refine ⟨rfl, by omega, fun _ => ⟨_, rfl, fun j y hj => ?_⟩⟩
 have hj0 : j = 0 := by
  have := (List.getElem?_eq_some_iff.1 hj).1
  simp at this; omega
 subst hj0
 cases hj
 refine ⟨[.slice Am m.length cm], rfl, ⟨Am, cm, rfl, hc, hr⟩, fun i u hu => ?_⟩
 rcases i with _ | i
 ·cases hu
  have hadd : (⟨g, 0, none⟩ : Addr).add (0 * 1 + 0) = ⟨g, 0, none⟩ := by unfold Addr.add; simp
  show W.cell? ((⟨g, 0, none⟩ : Addr).add (0 * 1 + 0)) = _
  rw [hadd]
  exact cell1 h
 ·simp at hu
theorem codeMs_one (L m : List Int) : codeMs L [m] = if okL L = true then (if plainM m = true then 0 else 1) else 1 := by
 unfold codeMs
 by_cases h1 : okL L = true
 ·rw [if_pos h1, if_pos h1]
  by_cases h2 : plainM m = true
  ·rw [if_pos h2, if_pos (by simp [h2]), if_pos (by simp)]
  ·rw [if_neg h2, if_neg (by simpa using h2)]
 ·rw [if_neg h1, if_neg h1]
theorem FirstRes.nil_ {base : Nat} {v : Value} {b : Bool} {w : World} (h : FirstRes base none v b w) : v = .slice none 0 0 ∧ b = false := h
theorem FirstRes.some_ {base : Nat} {v : Value} {b : Bool} {w : World} {x : List Int} (h : FirstRes base (some x) v b w) : b = true ∧ Own base w v x := h
set_option maxHeartbeats 8000000 in
set_option maxRecDepth 100000 in
theorem implHoistFrom_calls (L : List Int) (Am : Option Addr) (cm : Nat) (m : List Int) (w : World) (hl : L.length = 44) (hw : Fits .i16 L) (hr : Kd.C (Kd.int .i8) w Am m.length m) (hc : m.length ≤ cm) (hs : Small8 m) :
  Calls Try.prog 9 #[.agg (vals .i16 L), .slice Am m.length cm] w fun e w' => ∃ v, e = .returned (.tuple #[v, .int .i64 (hfW L m).2]) ∧ Own w.heap.size w' v (hfW L m).1 ∧ Below w.heap.size w w' := by
 have hm := Mem.start w
 have HMC := Aside0.mk (fun (g : Nat) W (hW : Below w.heap.size w W) (h : W.heap[g]? = some (.cells #[.slice Am m.length cm] 33 (0, 0))) => meaningCode_calls L (some ⟨g, 0, none⟩) 1 [m] W hl hw (C_one h (Kd.C_below hr hW) hc) (by simp) (by simpa using hs) (by simp))
 have HPC := Aside0.mk (fun W => pieces_calls L W hl hw)
 have HXL := Aside0.mk hl
 rw [codeMs_one] at HMC
 unfold hfW
 by_cases hok : okL L = true
 ·rw [if_pos hok]
  rw [if_pos hok] at HMC
  by_cases hp : plainM m = true
  ·rw [if_pos hp]
   rw [if_pos hp] at HMC
   obtain ⟨hpn, _, hp8⟩ := plainM_N hp
   have HFI := Aside0.mk (fun W (hW : Below w.heap.size w W) => first_calls Am cm m L W (Kd.C_below hr hW) hc hpn (by omega) hl (fun j hj => by have := okL_bd hok hl j hj; omega))
   clear hr hs hok hp hpn hp8 hw
   generalize leaves m 4 (enough L) m.length [] 0 = lv at *
   cases lv with
   | nil =>
    go_enter Try.func9, Try.ntmps9
    go_wp2_with (first
     | ((with_reducible refine gt_box 2 31 ?_); refine st_box rfl 2 rfl 31 _ rfl hm (v := .agg (vals _ _)) rfl (cs := vals _ _) rfl ?_; clear hm; intro g2 w1 hm; have HB1 := Aside0.mk (hm.done rfl); have HG1 := Aside0.mk (hm.mem (n := 0) rfl); clear hm)
     | ((with_reducible refine gt_load 31 ?_); refine Kd.event_run rfl (y_rowA (by rfl) (by rfl) HG2.out aggLk (by rw [vals_size]; exact HXL.out)) ?_)
     | ((with_reducible refine gt_load 31 ?_); refine Kd.event_run rfl (y_rowA (by rfl) (by rfl) HG1.out aggLk (by rw [vals_size]; exact HXL.out)) ?_)
     | (go_at_call 34; refine (HMC.out _ _ (below_alloc HB1.out _) (Go.heap_alloc_new _ _)).mono ?_; rintro e w2 ⟨rfl, h⟩; have HB2 := Aside0.mk (below_then (below_alloc HB1.out _) h); have HG2 := Aside0.mk ((h.block _ (lt_of_some ((below_alloc (Below.refl w1.heap.size w1) _).block _ (lt_of_some HG1.out) |>.trans HG1.out))).trans ((below_alloc (Below.refl w1.heap.size w1) _).block _ (lt_of_some HG1.out) |>.trans HG1.out)); clear h)
     | (go_at_call 36; refine (HPC.out _).mono ?_; rintro e w3 ⟨rfl, h⟩; have HB3 := Aside0.mk (below_then HB2.out h); clear h)
     | (go_at_call 35; refine (HFI.out _ HB3.out).mono ?_; rintro e w4 ⟨v4, b4, rfl, hf, h⟩; obtain ⟨rfl, rfl⟩ := FirstRes.nil_ hf; clear hf; have HB4 := Aside0.mk (below_then HB3.out h); clear h))
    go_ret2
    exact ⟨_, rfl, Kd.R_nil _ _ _ _ _, HB4.out⟩
   | cons h r =>
    go_enter Try.func9, Try.ntmps9
    go_wp2_with (first
     | ((with_reducible refine gt_box 2 31 ?_); refine st_box rfl 2 rfl 31 _ rfl hm (v := .agg (vals _ _)) rfl (cs := vals _ _) rfl ?_; clear hm; intro g2 w1 hm; have HB1 := Aside0.mk (hm.done rfl); have HG1 := Aside0.mk (hm.mem (n := 0) rfl); clear hm)
     | ((with_reducible refine gt_load 31 ?_); refine Kd.event_run rfl (y_rowA (by rfl) (by rfl) HG2.out aggLk (by rw [vals_size]; exact HXL.out)) ?_)
     | ((with_reducible refine gt_load 31 ?_); refine Kd.event_run rfl (y_rowA (by rfl) (by rfl) HG1.out aggLk (by rw [vals_size]; exact HXL.out)) ?_)
     | (go_at_call 34; refine (HMC.out _ _ (below_alloc HB1.out _) (Go.heap_alloc_new _ _)).mono ?_; rintro e w2 ⟨rfl, h⟩; have HB2 := Aside0.mk (below_then (below_alloc HB1.out _) h); have HG2 := Aside0.mk ((h.block _ (lt_of_some ((below_alloc (Below.refl w1.heap.size w1) _).block _ (lt_of_some HG1.out) |>.trans HG1.out))).trans ((below_alloc (Below.refl w1.heap.size w1) _).block _ (lt_of_some HG1.out) |>.trans HG1.out)); clear h)
     | (go_at_call 36; refine (HPC.out _).mono ?_; rintro e w3 ⟨rfl, h⟩; have HB3 := Aside0.mk (below_then HB2.out h); clear h)
     | (go_at_call 35; refine (HFI.out _ HB3.out).mono ?_; rintro e w4 ⟨v4, b4, rfl, hf, h⟩; obtain ⟨rfl, ho⟩ := FirstRes.some_ hf; have HO4 := Aside0.mk (own_lower ho HB3.out.size); clear hf ho; have HB4 := Aside0.mk (below_then HB3.out h); clear h))
    go_ret2
    exact ⟨_, rfl, HO4.out, HB4.out⟩
  ·rw [if_neg hp]
   rw [if_neg hp] at HMC
   clear hr hs hok hp hw
   go_enter Try.func9, Try.ntmps9
   go_wp2_with (first
     | ((with_reducible refine gt_box 2 31 ?_); refine st_box rfl 2 rfl 31 _ rfl hm (v := .agg (vals _ _)) rfl (cs := vals _ _) rfl ?_; clear hm; intro g2 w1 hm; have HB1 := Aside0.mk (hm.done rfl); have HG1 := Aside0.mk (hm.mem (n := 0) rfl); clear hm)
     | ((with_reducible refine gt_load 31 ?_); refine Kd.event_run rfl (y_rowA (by rfl) (by rfl) HG2.out aggLk (by rw [vals_size]; exact HXL.out)) ?_)
     | ((with_reducible refine gt_load 31 ?_); refine Kd.event_run rfl (y_rowA (by rfl) (by rfl) HG1.out aggLk (by rw [vals_size]; exact HXL.out)) ?_)
     | (go_at_call 34; refine (HMC.out _ _ (below_alloc HB1.out _) (Go.heap_alloc_new _ _)).mono ?_; rintro e w2 ⟨rfl, h⟩; have HB2 := Aside0.mk (below_then (below_alloc HB1.out _) h); have HG2 := Aside0.mk ((h.block _ (lt_of_some ((below_alloc (Below.refl w1.heap.size w1) _).block _ (lt_of_some HG1.out) |>.trans HG1.out))).trans ((below_alloc (Below.refl w1.heap.size w1) _).block _ (lt_of_some HG1.out) |>.trans HG1.out)); clear h)
     | (go_at_call 36; refine (HPC.out _).mono ?_; rintro e w3 ⟨rfl, h⟩; have HB3 := Aside0.mk (below_then HB2.out h); clear h)
     | (go_at_call 35; refine (HFI.out _ HB3.out).mono ?_; rintro e w4 ⟨v4, b4, rfl, hf, h⟩; skip; have HB4 := Aside0.mk (below_then HB3.out h); clear h))
   go_ret2
   exact ⟨_, rfl, Kd.R_nil _ _ _ _ _, HB2.out⟩
 ·rw [if_neg hok]
  rw [if_neg hok] at HMC
  clear hr hs hok hw
  go_enter Try.func9, Try.ntmps9
  go_wp2_with (first
     | ((with_reducible refine gt_box 2 31 ?_); refine st_box rfl 2 rfl 31 _ rfl hm (v := .agg (vals _ _)) rfl (cs := vals _ _) rfl ?_; clear hm; intro g2 w1 hm; have HB1 := Aside0.mk (hm.done rfl); have HG1 := Aside0.mk (hm.mem (n := 0) rfl); clear hm)
     | ((with_reducible refine gt_load 31 ?_); refine Kd.event_run rfl (y_rowA (by rfl) (by rfl) HG2.out aggLk (by rw [vals_size]; exact HXL.out)) ?_)
     | ((with_reducible refine gt_load 31 ?_); refine Kd.event_run rfl (y_rowA (by rfl) (by rfl) HG1.out aggLk (by rw [vals_size]; exact HXL.out)) ?_)
     | (go_at_call 34; refine (HMC.out _ _ (below_alloc HB1.out _) (Go.heap_alloc_new _ _)).mono ?_; rintro e w2 ⟨rfl, h⟩; have HB2 := Aside0.mk (below_then (below_alloc HB1.out _) h); have HG2 := Aside0.mk ((h.block _ (lt_of_some ((below_alloc (Below.refl w1.heap.size w1) _).block _ (lt_of_some HG1.out) |>.trans HG1.out))).trans ((below_alloc (Below.refl w1.heap.size w1) _).block _ (lt_of_some HG1.out) |>.trans HG1.out)); clear h)
     | (go_at_call 36; refine (HPC.out _).mono ?_; rintro e w3 ⟨rfl, h⟩; have HB3 := Aside0.mk (below_then HB2.out h); clear h)
     | (go_at_call 35; refine (HFI.out _ HB3.out).mono ?_; rintro e w4 ⟨v4, b4, rfl, hf, h⟩; skip; have HB4 := Aside0.mk (below_then HB3.out h); clear h))
  go_ret2
  exact ⟨_, rfl, Kd.R_nil _ _ _ _ _, HB2.out⟩
end Go.Proofs.Ytfgogdhhihbcjaa.Arr
namespace Go.Proofs.Ytfgogdhhihbcjaa.H
open Go.RowKit Go.Proofs.YtfgogdhhihbcjaaW.PrintWords Go.Proofs.YtfgogdhhihbcjaaW.PrintLast Go.Proofs.Ytfgogdhhihbcjaa.U
set_option linter.unusedVariables false
set_option linter.unusedSimpArgs false
theorem toMeaning_ev (l : List Int) (hn : l.length ≤ 140737488351232) : Ev (fun k => laws_toMeaning.f k l) l := by
 unfold laws_toMeaning.f
 refine pos (by omega) (pos (by omega) ?_)
 rw [Int.toNat_natCast]
 refine iter (F := fun k (s : List Int × Int) => laws_toMeaning.l0 k l s.1 s.2) (fun i s => s.2 = (i : Int) ∧ s.1.length = l.length ∧ ∀ j, j < i → s.1[j]? = l[j]?) l l.length ?_ ?_ 0 (List.replicate l.length 0, 0) (by omega) ⟨rfl, by simp, fun j hj => by omega⟩
 ·rintro i ⟨s, x⟩ hi ⟨rfl, hl, hp⟩
  dsimp only at hl hp
  refine .inl ⟨(s.set i (rd l (i : Int)), ((i + 1 : Nat) : Int)), ⟨rfl, by simpa using hl, fun j hj => ?_⟩, Ev.step fun k => ?_⟩
  ·dsimp only
   by_cases e : j = i
   ·subst e; rw [List.getElem?_set_self (by omega), rd_get l j hi, List.getElem?_eq_getElem hi]
   ·rw [List.getElem?_set_ne (by omega)]; exact hp j (by omega)
  ·simp only [laws_toMeaning.l0]
   rw [if_pos (by omega), if_pos (by omega), if_pos (by omega), w64 (by omega) (by omega), Int.toNat_natCast]; rfl
 ·rintro ⟨s, x⟩ ⟨rfl, hl, hp⟩
  dsimp only at hl hp
  refine Ev.step (f := fun _ => some s) (fun k => ?_) (cons (toList hl rfl hp))
  simp only [laws_toMeaning.l0]; rw [if_neg (by omega)]
end Go.Proofs.Ytfgogdhhihbcjaa.H
namespace Go.Proofs.Ytfgogdhhihbcjaa.H
open Go.RowKit Go.Proofs.YtfgogdhhihbcjaaW.PrintWords Go.Proofs.YtfgogdhhihbcjaaW.PrintLast Go.Proofs.Ytfgogdhhihbcjaa.U
set_option linter.unusedVariables false
set_option linter.unusedSimpArgs false
theorem eqMeaning_l0 (l : List Int) (hn : l.length ≤ 9223372036854775806) : ∀ (d i : Nat), i + d = l.length → Ev (fun k => laws_eqMeaning.l0 k l l (i : Int)) true := by
 intro d
 induction d with
 | zero =>
  intro i hi
  refine Ev.step (f := fun _ => some true) (fun k => ?_) (cons rfl)
  simp only [laws_eqMeaning.l0]; rw [if_neg (by omega)]
 | succ d ih =>
  intro i hi
  refine Ev.step (f := fun k => laws_eqMeaning.l0 k l l ((i + 1 : Nat) : Int)) (fun k => ?_) (ih (i + 1) (by omega))
  simp only [laws_eqMeaning.l0]; rw [if_pos (by omega), if_pos (by omega), if_pos (by omega), if_pos trivial, w64 (by omega) (by omega)]; rfl
theorem eqMeaning_refl (l : List Int) (hn : l.length ≤ 9223372036854775806) : Ev (fun k => laws_eqMeaning.f k l l) true := by
 unfold laws_eqMeaning.f
 exact pos rfl (eqMeaning_l0 l hn l.length 0 (by omega))
end Go.Proofs.Ytfgogdhhihbcjaa.H
namespace Go.Proofs.Ytfgogdhhihbcjaa.H
open Go.RowKit Go.Proofs.YtfgogdhhihbcjaaW.PrintWords Go.Proofs.YtfgogdhhihbcjaaW.PrintLast Go.Proofs.Ytfgogdhhihbcjaa.U
set_option linter.unusedVariables false
set_option linter.unusedSimpArgs false
def marksMeaning (n : Nat) (a : Int) : List Int := (List.range n).map fun (j : Nat) => IntKind.i8.wrap (a + (j : Int))
theorem marksMeaning_length (n : Nat) (a : Int) : (marksMeaning n a).length = n := by simp [marksMeaning]
theorem markMeaning_l0 (n : Nat) (a : Int) (ha : 0 ≤ a) (hb : a + n ≤ 9223372036854775806) : ∀ (d i : Nat) (x0 : List Int), i + d = n → x0.length = n → (∀ j, j < i → x0[j]? = (marksMeaning n a)[j]?) →
  Ev (fun k => laws_markMeaning.l0 k x0 (a + i) (i : Int)) (a + n, marksMeaning n a) := by
 intro d
 induction d with
 | zero =>
  intro i x0 hi hl hp
  obtain rfl : i = n := by omega
  refine Ev.step (f := fun _ => some (a + i, x0)) (fun k => by simp only [laws_markMeaning.l0]; rw [if_neg (by omega)]) (cons ?_)
  rw [show x0 = marksMeaning i a from List.ext_getElem? fun j => by
   rcases Nat.lt_or_ge j i with h | h
   ·exact hp j h
   ·rw [List.getElem?_eq_none (by omega), List.getElem?_eq_none (by rw [marksMeaning_length]; omega)]]
 | succ d ih =>
  intro i x0 hi hl hp
  refine Ev.step (f := fun k => laws_markMeaning.l0 k (x0.set i (IntKind.i8.wrap (a + (i : Int)))) (a + ((i + 1 : Nat) : Int)) ((i + 1 : Nat) : Int)) (fun k => ?_) (ih (i + 1) _ (by omega) (by simpa using hl) ?_)
  ·simp only [laws_markMeaning.l0]; rw [if_pos (by omega), if_pos (by omega), w64 (by omega) (by omega), w64 (by omega) (by omega), show a + (i : Int) + 1 = a + ((i + 1 : Nat) : Int) by omega, show (i : Int) + 1 = ((i + 1 : Nat) : Int) by omega, Int.toNat_natCast]
  ·intro j hj
   by_cases e : j = i
   ·subst e
    rw [List.getElem?_set_self (by omega)]
    simp [marksMeaning, List.getElem?_map, List.getElem?_range (show j < n by omega)]
   ·rw [List.getElem?_set_ne (by omega)]; exact hp j (by omega)
theorem markMeaning_ev (l : List Int) (a : Int) (ha : 0 ≤ a) (hb : a + l.length ≤ 9223372036854775806) : Ev (fun k => laws_markMeaning.f k l a) (a + l.length, marksMeaning l.length a) := by
 have := markMeaning_l0 l.length a ha hb l.length 0 l (by omega) rfl (fun j hj => by omega)
 simpa [laws_markMeaning.f] using this
end Go.Proofs.Ytfgogdhhihbcjaa.H
namespace Go.Proofs.Ytfgogdhhihbcjaa.H
open Go.RowKit Go.Proofs.YtfgogdhhihbcjaaW.PrintWords Go.Proofs.YtfgogdhhihbcjaaW.PrintLast Go.Proofs.Ytfgogdhhihbcjaa.U
set_option linter.unusedVariables false
set_option linter.unusedSimpArgs false
theorem eqHoist_l0 (l : List Int) (hn : l.length ≤ 9223372036854775806) : ∀ (d i : Nat), i + d = l.length → Ev (fun k => laws_eqHoist.l0 k l l (i : Int)) true := by
 intro d
 induction d with
 | zero =>
  intro i hi
  refine Ev.step (f := fun _ => some true) (fun k => ?_) (cons rfl)
  simp only [laws_eqHoist.l0]; rw [if_neg (by omega)]
 | succ d ih =>
  intro i hi
  refine Ev.step (f := fun k => laws_eqHoist.l0 k l l ((i + 1 : Nat) : Int)) (fun k => ?_) (ih (i + 1) (by omega))
  simp only [laws_eqHoist.l0]; rw [if_pos (by omega), if_pos (by omega), if_pos (by omega), if_pos trivial, w64 (by omega) (by omega)]; rfl
theorem eqHoist_refl (l : List Int) (hn : l.length ≤ 9223372036854775806) : Ev (fun k => laws_eqHoist.f k l l) true := by
 unfold laws_eqHoist.f
 exact pos rfl (eqHoist_l0 l hn l.length 0 (by omega))
end Go.Proofs.Ytfgogdhhihbcjaa.H
namespace Go.Proofs.Ytfgogdhhihbcjaa.H
open Go.RowKit Go.Proofs.YtfgogdhhihbcjaaW.PrintWords Go.Proofs.YtfgogdhhihbcjaaW.PrintLast Go.Proofs.Ytfgogdhhihbcjaa.U
set_option linter.unusedVariables false
set_option linter.unusedSimpArgs false
def marksHoist (n : Nat) (a : Int) : List Int := (List.range n).map fun (j : Nat) => IntKind.i8.wrap (a + (j : Int))
theorem marksHoist_length (n : Nat) (a : Int) : (marksHoist n a).length = n := by simp [marksHoist]
theorem markHoist_l0 (n : Nat) (a : Int) (ha : 0 ≤ a) (hb : a + n ≤ 9223372036854775806) : ∀ (d i : Nat) (x0 : List Int), i + d = n → x0.length = n → (∀ j, j < i → x0[j]? = (marksHoist n a)[j]?) →
  Ev (fun k => laws_markHoist.l0 k x0 (a + i) (i : Int)) (a + n, marksHoist n a) := by
 intro d
 induction d with
 | zero =>
  intro i x0 hi hl hp
  obtain rfl : i = n := by omega
  refine Ev.step (f := fun _ => some (a + i, x0)) (fun k => by simp only [laws_markHoist.l0]; rw [if_neg (by omega)]) (cons ?_)
  rw [show x0 = marksHoist i a from List.ext_getElem? fun j => by
   rcases Nat.lt_or_ge j i with h | h
   ·exact hp j h
   ·rw [List.getElem?_eq_none (by omega), List.getElem?_eq_none (by rw [marksHoist_length]; omega)]]
 | succ d ih =>
  intro i x0 hi hl hp
  refine Ev.step (f := fun k => laws_markHoist.l0 k (x0.set i (IntKind.i8.wrap (a + (i : Int)))) (a + ((i + 1 : Nat) : Int)) ((i + 1 : Nat) : Int)) (fun k => ?_) (ih (i + 1) _ (by omega) (by simpa using hl) ?_)
  ·simp only [laws_markHoist.l0]; rw [if_pos (by omega), if_pos (by omega), w64 (by omega) (by omega), w64 (by omega) (by omega), show a + (i : Int) + 1 = a + ((i + 1 : Nat) : Int) by omega, show (i : Int) + 1 = ((i + 1 : Nat) : Int) by omega, Int.toNat_natCast]
  ·intro j hj
   by_cases e : j = i
   ·subst e
    rw [List.getElem?_set_self (by omega)]
    simp [marksHoist, List.getElem?_map, List.getElem?_range (show j < n by omega)]
   ·rw [List.getElem?_set_ne (by omega)]; exact hp j (by omega)
theorem markHoist_ev (l : List Int) (a : Int) (ha : 0 ≤ a) (hb : a + l.length ≤ 9223372036854775806) : Ev (fun k => laws_markHoist.f k l a) (a + l.length, marksHoist l.length a) := by
 have := markHoist_l0 l.length a ha hb l.length 0 l (by omega) rfl (fun j hj => by omega)
 simpa [laws_markHoist.f] using this
end Go.Proofs.Ytfgogdhhihbcjaa.H
namespace Go.Proofs.Ytfgogdhhihbcjaa.H
open Go.RowKit Go.Proofs.YtfgogdhhihbcjaaW.PrintWords Go.Proofs.YtfgogdhhihbcjaaW.PrintLast Go.Proofs.Ytfgogdhhihbcjaa.U
set_option linter.unusedVariables false
set_option linter.unusedSimpArgs false
theorem heldHoist_l0 (n : Nat) (a : Int) (ha : 0 ≤ a) (hb : a + n ≤ 9223372036854775806) : ∀ (d i : Nat), i + d = n →
  Ev (fun k => laws_heldHoist.l0 k (marksHoist n a) (a + i) (i : Int)) (a + n) := by
 intro d
 induction d with
 | zero =>
  intro i hi
  obtain rfl : i = n := by omega
  exact Ev.step (f := fun _ => some (a + i)) (fun k => by simp only [laws_heldHoist.l0]; rw [marksHoist_length, if_neg (by omega)]) (cons rfl)
 | succ d ih =>
  intro i hi
  refine Ev.step (f := fun k => laws_heldHoist.l0 k (marksHoist n a) (a + ((i + 1 : Nat) : Int)) ((i + 1 : Nat) : Int)) (fun k => ?_) (ih (i + 1) (by omega))
  have hr : rd (marksHoist n a) i = IntKind.i8.wrap (a + (i : Int)) := by
   rw [rd_get _ i (by rw [marksHoist_length]; omega)]
   simp [marksHoist]
  simp only [laws_heldHoist.l0]; rw [marksHoist_length, if_pos (by omega), if_pos (by omega), if_pos hr, w64 (by omega) (by omega), w64 (by omega) (by omega), show a + (i : Int) + 1 = a + ((i + 1 : Nat) : Int) by omega]; rfl
theorem heldHoist_ev (n : Nat) (a : Int) (ha : 0 ≤ a) (hb : a + n ≤ 9223372036854775806) : Ev (fun k => laws_heldHoist.f k (marksHoist n a) a) (a + n) := by
 have := heldHoist_l0 n a ha hb n 0 (by omega)
 simpa [laws_heldHoist.f] using this
end Go.Proofs.Ytfgogdhhihbcjaa.H
namespace Go.Proofs.Ytfgogdhhihbcjaa.Arr
open Go.RowKit Go.Proofs.YtfgogdhhihbcjaaW.PrintWords Go.Proofs.YtfgogdhhihbcjaaW.PrintLast Go.Proofs.YtfgogdhhihbcjaaW.PrintMore Go.Proofs.Ytfgogdhhihbcjaa.U Go.Proofs.Ytfgogdhhihbcjaa.H
set_option linter.unusedVariables false
set_option linter.unusedSimpArgs false
theorem leaves_length (m : List Int) (top : Nat) (ok : List Int → Int → Bool) : ∀ (d : Nat) (h : List Int) (g : Int), ∀ x ∈ leaves m top ok d h g, x.length = h.length + d
 | 0, h, g, x, hx => by
  rw [leaves, List.mem_singleton] at hx
  rw [hx]
  rfl
 | d + 1, h, g, x, hx => by
  rw [leaves] at hx
  split at hx
  ·have := leaves_length m top ok d _ _ x hx
   rw [this]
   simp
   omega
  ·obtain ⟨n, _, hn⟩ := List.mem_flatMap.1 hx
   split at hn
   ·have := leaves_length m top ok d _ _ x hn
    rw [this]
    simp
    omega
   ·cases hn
theorem hfW_len (L m : List Int) : (hfW L m).1.length ≤ 8 := by
 unfold hfW
 split
 ·split
  ·rename_i hp
   have h8 := (plainM_N hp).2.2
   split
   ·simp
   ·rename_i h r he
    have := leaves_length m 4 (enough L) m.length [] 0 h (by rw [he]; simp)
    dsimp only
    rw [this]
    simp
    omega
  ·simp
 ·simp
abbrev RowI (w : World) (base : Nat) (ok : Nat → Prop) (v : Value) (xs : List Int) : Prop := Kd.R (Kd.int .i8) 64 w base ok v xs
structure HL3 (w : World) (S1 S2 g2 : Nat) (L : List Int) (vw vm vg : Value) (xs ms ys : List Int) (W : World) : Prop where
 bel : Below w.heap.size w W
 n : w.heap.size ≤ S1 ∧ S1 ≤ S2 ∧ S2 ≤ W.heap.size
 g2l : g2 < S1
 box : W.heap[g2]? = some (.cells (vals .i16 L) 26 (0, 0))
 spec : RowI W w.heap.size (fun k => k < S1) vw xs
 mean : RowI W w.heap.size (fun k => S1 ≤ k ∧ k < S2) vm ms
 impl : RowI W w.heap.size (fun k => S2 ≤ k) vg ys
theorem HL3.below {w W W1 : World} {S1 S2 g2 : Nat} {L : List Int} {vw vm vg : Value} {xs ms ys : List Int} (h : HL3 w S1 S2 g2 L vw vm vg xs ms ys W) (hb : Below W.heap.size W W1) : HL3 w S1 S2 g2 L vw vm vg xs ms ys W1 :=
 ⟨below_then h.bel hb, ⟨h.n.1, h.n.2.1, Nat.le_trans h.n.2.2 hb.size⟩, h.g2l, (hb.block _ (lt_of_some h.box)).trans h.box, Kd.R_below h.spec hb, Kd.R_below h.mean hb, Kd.R_below h.impl hb⟩
structure HL (w : World) (S1 S2 g2 : Nat) (L : List Int) (vw vg : Value) (xs ys : List Int) (W : World) : Prop where
 bel : Below w.heap.size w W
 n : w.heap.size ≤ S1 ∧ S1 ≤ S2 ∧ S2 ≤ W.heap.size
 g2l : g2 < S1
 box : W.heap[g2]? = some (.cells (vals .i16 L) 26 (0, 0))
 spec : RowI W w.heap.size (fun k => k < S1) vw xs
 impl : RowI W w.heap.size (fun k => S2 ≤ k) vg ys
theorem HL.below {w W W1 : World} {S1 S2 g2 : Nat} {L : List Int} {vw vg : Value} {xs ys : List Int} (h : HL w S1 S2 g2 L vw vg xs ys W) (hb : Below W.heap.size W W1) : HL w S1 S2 g2 L vw vg xs ys W1 :=
 ⟨below_then h.bel hb, ⟨h.n.1, h.n.2.1, Nat.le_trans h.n.2.2 hb.size⟩, h.g2l, (hb.block _ (lt_of_some h.box)).trans h.box, Kd.R_below h.spec hb, Kd.R_below h.impl hb⟩
theorem HL3.mark {w W W1 : World} {S1 S2 g2 : Nat} {L : List Int} {vw vm vg : Value} {xs ms ys : List Int} (h : HL3 w S1 S2 g2 L vw vm vg xs ms ys W) (hb : Below w.heap.size w W1) (hk : Kept W W1 (fun k => S1 ≤ k ∧ k < S2)) : HL w S1 S2 g2 L vw vg xs ys W1 :=
 ⟨hb, ⟨h.n.1, h.n.2.1, Nat.le_trans h.n.2.2 hk.1⟩, h.g2l, (hk.2 _ (lt_of_some h.box) (fun e => by have := h.g2l; omega)).trans h.box, Kd.R_step h.spec (fun k ho hlt => hk.2 k hlt (by omega)), Kd.R_step h.impl (fun k ho hlt => hk.2 k hlt (by omega))⟩
theorem HL.mark {w W W1 : World} {S1 S2 g2 : Nat} {L : List Int} {vw vg : Value} {xs ys zs : List Int} (h : HL w S1 S2 g2 L vw vg xs ys W) (hr : RowI W1 w.heap.size (fun k => S2 ≤ k ∨ W.heap.size ≤ k) vg zs) (hb : Below w.heap.size w W1) (hk : Kept W W1 (fun k => S2 ≤ k)) : HL w S1 S2 g2 L vw vg xs zs W1 :=
 ⟨hb, ⟨h.n.1, h.n.2.1, Nat.le_trans h.n.2.2 hk.1⟩, h.g2l, (hk.2 _ (lt_of_some h.box) (by have := h.g2l; have := h.n.2.1; omega)).trans h.box, Kd.R_step h.spec (fun k ho hlt => hk.2 k hlt (by have := h.n.2.1; omega)), Kd.R_mono hr (fun k ho => by have := h.n.2.2; omega)⟩
theorem eqH_calls (A1 : Option Addr) (c1 : Nat) (A2 : Option Addr) (c2 : Nat) (xs : List Int) (b1 b2 : Nat) (ok1 ok2 : Nat → Prop) (w : World) (h1 : RowI w b1 ok1 (.slice A1 xs.length c1) xs) (h2 : RowI w b2 ok2 (.slice A2 xs.length c2) xs) (hn : xs.length ≤ 8) :
  Calls Try.prog 10 #[.slice A1 xs.length c1, .slice A2 xs.length c2] w fun e w' => e = .returned (.bool true) ∧ Below w.heap.size w w' := by
 obtain ⟨k, hk⟩ := (eqHoist_refl xs (by omega)).rounds
 refine (laws_eqHoist.calls k A1 c1 xs A2 c2 xs true w (Kd.R_reads' h1).2.2 (Kd.R_reads' h1).2.1 (Kd.R_reads' h2).2.2 (Kd.R_reads' h2).2.1 hk).mono ?_
 rintro e w' ⟨rfl, h⟩
 exact ⟨rfl, h.below⟩
theorem eqM_calls (A1 : Option Addr) (c1 : Nat) (A2 : Option Addr) (c2 : Nat) (xs : List Int) (b1 b2 : Nat) (ok1 ok2 : Nat → Prop) (w : World) (h1 : RowI w b1 ok1 (.slice A1 xs.length c1) xs) (h2 : RowI w b2 ok2 (.slice A2 xs.length c2) xs) (hn : xs.length ≤ 1048576) :
  Calls Try.prog 11 #[.slice A1 xs.length c1, .slice A2 xs.length c2] w fun e w' => e = .returned (.bool true) ∧ Below w.heap.size w w' := by
 obtain ⟨k, hk⟩ := (eqMeaning_refl xs (by omega)).rounds
 refine (laws_eqMeaning.calls k A1 c1 xs A2 c2 xs true w (Kd.R_reads' h1).2.2 (Kd.R_reads' h1).2.1 (Kd.R_reads' h2).2.2 (Kd.R_reads' h2).2.1 hk).mono ?_
 rintro e w' ⟨rfl, h⟩
 exact ⟨rfl, h.below⟩
theorem heldH_calls (A : Option Addr) (c n : Nat) (b : Nat) (ok : Nat → Prop) (w : World) (h : RowI w b ok (.slice A n c) (marksHoist n 1)) (hn : n ≤ 8) :
  Calls Try.prog 14 #[.slice A n c, .int .i64 1] w fun e w' => e = .returned (.int .i64 (1 + (n : Int))) ∧ Below w.heap.size w w' := by
 obtain ⟨k, hk⟩ := (heldHoist_ev n 1 (by omega) (by omega)).rounds
 have := laws_heldHoist.calls k A c (marksHoist n 1) 1 _ w (Kd.R_reads' h).2.2 (by rw [marksHoist_length]; exact (Kd.R_reads' h).2.1) hk
 rw [marksHoist_length] at this
 refine this.mono ?_
 rintro e w' ⟨rfl, h⟩
 exact ⟨rfl, h.below⟩
theorem aggLL : AggTy Try.prog 26 44 := ⟨by kernel_rfl, by kernel_rfl⟩
structure HL2 (w : World) (S1 S2 g2 : Nat) (L : List Int) (vw vm : Value) (xs ms : List Int) (W : World) : Prop where
 bel : Below w.heap.size w W
 n : w.heap.size ≤ S1 ∧ S1 ≤ S2 ∧ S2 ≤ W.heap.size
 g2l : g2 < S1
 box : W.heap[g2]? = some (.cells (vals .i16 L) 26 (0, 0))
 spec : RowI W w.heap.size (fun k => k < S1) vw xs
 mean : RowI W w.heap.size (fun k => S1 ≤ k ∧ k < S2) vm ms
theorem HL2.mk_ {w w4 w5 : World} {g2 : Nat} {L : List Int} {vw vm : Value} {xs ms : List Int} (hb : Below w.heap.size w w4) (hg : w4.heap[g2]? = some (.cells (vals .i16 L) 26 (0, 0))) (ho : RowI w4 w.heap.size (fun _ => True) vw xs) (hm : RowI w5 w4.heap.size (fun _ => True) vm ms) (h : Below w4.heap.size w4 w5) :
  HL2 w w4.heap.size w5.heap.size g2 L vw vm xs ms w5 :=
 ⟨below_then hb h, ⟨hb.size, h.size, Nat.le_refl _⟩, lt_of_some hg, (h.block _ (lt_of_some hg)).trans hg, Kd.R_below (Kd.R_mono (Kd.R_bound ho) (fun k hk => hk.2.2.1)) h, Kd.R_lower (Kd.R_mono (Kd.R_bound hm) (fun k hk => ⟨hk.2.1, hk.2.2.1⟩)) hb.size⟩
theorem HL2.below {w W W1 : World} {S1 S2 g2 : Nat} {L : List Int} {vw vm : Value} {xs ms : List Int} (h : HL2 w S1 S2 g2 L vw vm xs ms W) (hb : Below W.heap.size W W1) : HL2 w S1 S2 g2 L vw vm xs ms W1 :=
 ⟨below_then h.bel hb, ⟨h.n.1, h.n.2.1, Nat.le_trans h.n.2.2 hb.size⟩, h.g2l, (hb.block _ (lt_of_some h.box)).trans h.box, Kd.R_below h.spec hb, Kd.R_below h.mean hb⟩
theorem HL2.impl {w W W1 : World} {S1 S2 g2 : Nat} {L : List Int} {vw vm vg : Value} {xs ms ys : List Int} (h : HL2 w S1 S2 g2 L vw vm xs ms W) (ho : RowI W1 W.heap.size (fun _ => True) vg ys) (hb : Below W.heap.size W W1) : HL3 w S1 S2 g2 L vw vm vg xs ms ys W1 :=
 ⟨below_then h.bel hb, ⟨h.n.1, h.n.2.1, Nat.le_trans h.n.2.2 hb.size⟩, h.g2l, (hb.block _ (lt_of_some h.box)).trans h.box, Kd.R_below h.spec hb, Kd.R_below h.mean hb, Kd.R_lower (Kd.R_mono (Kd.R_bound ho) (fun k hk => by have := hk.2.1; have := h.n.2.2; omega)) h.bel.size⟩
set_option maxHeartbeats 8000000 in
set_option maxRecDepth 100000 in
theorem law_FnExactHoistFrom (w : World) (L : List Int) (hl : L.length = 44) (hw : ∀ z ∈ L, (Lit.int .i16 z).wf = true) (A : Option Addr) (c : Nat) (m : List Int) (hr : Kd.C (Kd.int .i8) w A m.length m) (hc : m.length ≤ c) (wf : WfL (WfI .i8) m) :
  Calls Try.prog 3 #[.agg (vals .i16 L), .slice A m.length c] w fun e w' => e = .returned (.bool true) ∧ Below w.heap.size w w' := by
 have hm := Mem.start w
 have hm1 := Kd.C_max hr
 by_cases hn : m.length ≤ 1048576
 ·have hs : Small8 m := ⟨by omega, fun x hx => wfi8 (wf.2 x hx)⟩
  obtain ⟨kt, hkt⟩ := (toMeaning_ev m (by omega)).rounds
  obtain ⟨kk, hkk⟩ := (markMeaning_ev m 1 (by omega) (by omega)).rounds
  have HTM := Aside0.mk (fun W (hW : Below w.heap.size w W) => laws_toMeaning.calls kt A c m m W (Kd.C_below hr hW) hc hkt)
  have HTL := Aside0.mk (fun W => toLocker_calls L W hl)
  have HSP := Aside0.mk (fun W A1 c1 (h : RowI W 0 (fun _ => True) (.slice A1 m.length c1) m) => specHoistFrom_calls L A1 c1 m W hl hw (Kd.R_reads' h).2.2 (Kd.R_reads' h).2.1 hs)
  have HIM := Aside0.mk (fun W A1 c1 (h : RowI W 0 (fun _ => True) (.slice A1 m.length c1) m) => implHoistFrom_calls L A1 c1 m W hl hw (Kd.R_reads' h).2.2 (Kd.R_reads' h).2.1 hs)
  have HMM := Aside0.mk (fun (P : Nat → Prop) v W (hB : Below w.heap.size w W) (h : RowI W w.heap.size P v m) => laws_markMeaning.calls kk P v m 1 _ _ w W hB h hkk)
  have HX8 := Aside0.mk (hfW_len L m)
  obtain ⟨kh, hkh⟩ := (markHoist_ev (hfW L m).1 1 (by omega) (by have := HX8.out; omega)).rounds
  have HMH := Aside0.mk (fun (P : Nat → Prop) v W (hB : Below w.heap.size w W) (h : RowI W w.heap.size P v (hfW L m).1) => laws_markHoist.calls kh P v (hfW L m).1 1 _ _ w W hB h hkh)
  generalize (hfW L m).2 = q at *
  generalize (hfW L m).1 = xs at *
  have hmk : ¬ (1 + (m.length : Int) < 0) := by omega
  have hmx : ¬ (1 + (xs.length : Int) < 0) := by omega
  have HN := Aside0.mk hn
  clear hr hc wf hs hkt hkk hkh hw
  go_enter Try.func3, Try.ntmps3
  go_wp2_with (first
   | (go_at_call 14; refine (heldH_calls Ag cg xs.length _ _ _ HL18.out.impl HX8.out).mono ?_; rintro e w19 ⟨rfl, h⟩; have HE := Aside0.mk (below_then HL18.out.bel h); clear h)
   | (go_at_call 10; refine (eqH_calls Ah ch Aw cw xs _ _ _ _ _ HO17.out HL17.out.spec HX8.out).mono ?_; rintro e w18 ⟨rfl, h⟩; have HL18 := Aside0.mk (HL17.out.below h); clear h)
   | (go_at_call 9; refine (HIM.out _ A16 c16 HR16.out).mono ?_; rintro e w17 ⟨v17, rfl, ho, h⟩; obtain ⟨Ah, ch, rfl⟩ := Kd.R_slice ho; have HO17 := Aside0.mk ho; have HL17 := Aside0.mk (HL16.out.below h); clear h ho)
   | (go_at_call 8; refine (HTM.out _ HL15.out.bel).mono ?_; rintro e w16 ⟨v16, rfl, ho, h⟩; obtain ⟨A16, c16, rfl⟩ := Kd.R_slice ho; have HR16 := Aside0.mk (Kd.R_lower ho (Nat.zero_le _)); have HL16 := Aside0.mk (HL15.out.below h); clear h ho)
   | (go_at_call 7; refine (HTL.out w14).mono ?_; rintro e w15 ⟨rfl, h⟩; have HL15 := Aside0.mk (HL14.out.below h); clear h)
   | ((with_reducible refine gt_load 26 ?_); refine Kd.event_run rfl (y_rowA (by rfl) (by rfl) HL14.out.box aggLL (by rw [vals_size]; exact hl)) ?_)
   | (go_at_call 14; refine (heldH_calls Ag cg xs.length _ _ _ HL13.out.impl HX8.out).mono ?_; rintro e w14 ⟨rfl, h⟩; have HL14 := Aside0.mk (HL13.out.below h); clear h)
   | (go_at_call 13; refine (HMH.out _ _ _ HL12.out.bel HL12.out.impl).mono ?_; rintro e w13 ⟨rfl, hr, hb, hk⟩; have HL13 := Aside0.mk (HL12.out.mark hr hb hk); clear hr hb hk)
   | (go_at_call 10; refine (eqH_calls Ag cg Aw cw xs _ _ _ _ _ HL11.out.impl HL11.out.spec HX8.out).mono ?_; rintro e w12 ⟨rfl, h⟩; have HL12 := Aside0.mk (HL11.out.below h); clear h)
   | (go_at_call 12; refine (HMM.out _ _ _ HL10.out.bel HL10.out.mean).mono ?_; rintro e w11 ⟨rfl, hr, hb, hk⟩; have HL11 := Aside0.mk (HL10.out.mark hb hk); clear hr hb hk)
   | (go_at_call 11; refine (eqM_calls Am cm A9 c9 m _ _ _ _ _ HL9.out.mean HR9.out HN.out).mono ?_; rintro e w10 ⟨rfl, h⟩; have HL10 := Aside0.mk (HL9.out.below h); clear h)
   | (go_at_call 8; refine (HTM.out _ HL8.out.bel).mono ?_; rintro e w9 ⟨v9, rfl, ho, h⟩; obtain ⟨A9, c9, rfl⟩ := Kd.R_slice ho; have HR9 := Aside0.mk ho; have HL9 := Aside0.mk (HL8.out.below h); clear h ho)
   | (go_at_call 10; refine (eqH_calls Ag cg Aw cw xs _ _ _ _ _ HL7.out.impl HL7.out.spec HX8.out).mono ?_; rintro e w8 ⟨rfl, h⟩; have HL8 := Aside0.mk (HL7.out.below h); clear h)
   | (go_at_call 9; refine (HIM.out _ Am cm HR6.out).mono ?_; rintro e w7 ⟨v7, rfl, ho, h⟩; obtain ⟨Ag, cg, rfl⟩ := Kd.R_slice ho; have HL7 := Aside0.mk (HG6.out.impl ho h); clear h ho)
   | (go_at_call 7; refine (HTL.out w5).mono ?_; rintro e w6 ⟨rfl, h⟩; have HR6 := Aside0.mk (Kd.R_lower (Kd.R_mono (Kd.R_below HR5.out h) (fun _ _ => trivial)) (Nat.zero_le _)); have HG6 := Aside0.mk (HG5.out.below h); clear h)
   | ((with_reducible refine gt_load 26 ?_); refine Kd.event_run rfl (y_rowA (by rfl) (by rfl) HG5.out.box aggLL (by rw [vals_size]; exact hl)) ?_)
   | (go_at_call 8; refine (HTM.out _ HB4.out).mono ?_; rintro e w5 ⟨v5, rfl, ho, h⟩; obtain ⟨Am, cm, rfl⟩ := Kd.R_slice ho; have HR5 := Aside0.mk ho; have HG5 := Aside0.mk (HL2.mk_ HB4.out HG4.out HO4.out ho h); clear h ho)
   | (go_at_call 6; refine (HSP.out _ A3 c3 HR3.out).mono ?_; rintro e w4 ⟨v4, rfl, ho, h⟩; obtain ⟨Aw, cw, rfl⟩ := Kd.R_slice ho; have HO4 := Aside0.mk (Kd.R_lower ho HB3.out.size); have HB4 := Aside0.mk (below_then HB3.out h); have HG4 := Aside0.mk ((h.block _ (lt_of_some HG3.out)).trans HG3.out); clear h ho)
   | (go_at_call 8; refine (HTM.out _ HB2.out).mono ?_; rintro e w3 ⟨v3, rfl, ho, h⟩; obtain ⟨A3, c3, rfl⟩ := Kd.R_slice ho; have HR3 := Aside0.mk (Kd.R_lower ho (Nat.zero_le _)); have HB3 := Aside0.mk (below_then HB2.out h); have HG3 := Aside0.mk ((h.block _ (lt_of_some HG2.out)).trans HG2.out); clear h ho)
   | (go_at_call 7; refine (HTL.out w1).mono ?_; rintro e w2 ⟨rfl, h⟩; have HB2 := Aside0.mk (below_then HB1.out h); have HG2 := Aside0.mk ((h.block _ (lt_of_some HG1.out)).trans HG1.out); clear h)
   | ((with_reducible refine gt_load 26 ?_); refine Kd.event_run rfl (y_rowA (by rfl) (by rfl) HG1.out aggLL (by rw [vals_size]; exact hl)) ?_)
   | ((with_reducible refine gt_box 2 26 ?_); refine st_box rfl 2 rfl 26 _ rfl hm (v := .agg (vals _ _)) rfl (cs := vals _ _) rfl ?_; clear hm; intro g2 w1 hm; have HB1 := Aside0.mk (hm.done rfl); have HG1 := Aside0.mk (hm.mem (n := 0) rfl); clear hm))
  go_ret
  exact ⟨rfl, HE.out⟩
 ·have hbig : (1048576 : Int) < (m.length : Int) := by omega
  clear hr hc wf hw
  go_enter Try.func3, Try.ntmps3
  go_wp2_with ((with_reducible refine gt_box 2 26 ?_); refine st_box rfl 2 rfl 26 _ rfl hm (v := .agg (vals _ _)) rfl (cs := vals _ _) rfl ?_; clear hm; intro g2 w1 hm; have HB1 := Aside0.mk (hm.done rfl); clear hm)
  go_ret
  exact ⟨rfl, HB1.out⟩
end Go.Proofs.Ytfgogdhhihbcjaa.Arr
namespace Go.Proofs.Ytfgogdhhihbcjaa.Open
open Go.RowKit Go.Proofs.YtfgogdhhihbcjaaW.PrintWords Go.Proofs.Ytfgogdhhihbcjaa.U Go.Deep
set_option linter.unusedVariables false
set_option linter.unusedSimpArgs false
def Opens {α : Type} (P : Program) (t : TypeId) (d : Kd α) (wf : α → Prop) : Prop :=
 ∀ {H : Type} (enc : TypeId × Value → H) (w : World) (held : Bool) (fuel : Nat) (cs : List Value) (x : DataW H × List MemPlace),
  DataW.trod enc P w 0 (fun _ => true) held fuel t cs = some x → ∃ a, d.K w a cs ∧ wf a
section
variable {P : Program} {t : TypeId}
theorem opens_int {k : IntKind} (ht : P.underlying t = some (.int k)) : Opens P t (Kd.int k) (WfI k) := by
 intro H enc w held fuel cs x h
 obtain ⟨n, rfl, _, hw⟩ := DataW.trod_int ht h
 exact ⟨n, rfl, hw⟩
theorem list_of {α : Type} (n : Nat) (p : Nat → α → Prop) (h : ∀ i, i < n → ∃ a, p i a) : ∃ l : List α, l.length = n ∧ ∀ (i : Nat) (a : α), l[i]? = some a → p i a := by
 induction n with
 | zero => exact ⟨[], rfl, fun i a hi => by simp at hi⟩
 | succ n ih =>
  obtain ⟨l, hl, hp⟩ := ih (fun i hi => h i (by omega))
  obtain ⟨a, ha⟩ := h n (by omega)
  refine ⟨l ++ [a], by simp [hl], fun i b hb => ?_⟩
  rcases Nat.lt_or_ge i l.length with hi | hi
  ·rw [List.getElem?_append_left hi] at hb; exact hp i b hb
  ·rw [List.getElem?_append_right hi] at hb
   have : i - l.length = 0 := by
    rcases Nat.eq_zero_or_pos (i - l.length) with h0 | h0
    ·exact h0
    ·rw [List.getElem?_eq_none (by simp; omega)] at hb; cases hb
   rw [this] at hb
   simp at hb
   subst hb
   obtain rfl : i = n := by omega
   exact ha
theorem add_mul (a : Addr) (i m j : Nat) : (a.add (i * m)).add j = a.add (i * m + j) := by
 unfold Addr.add
 by_cases h1 : i * m = 0 <;> by_cases h2 : j = 0 <;> simp [h1, h2] <;> omega
theorem opens_slice {α : Type} {e : TypeId} {d : Kd α} {wf : α → Prop} (ht : P.underlying t = some (.slice e)) (hc : P.cellsOf e = d.sz) (he : Opens P e d wf) : Opens P t (Kd.slice e d) (WfL wf) := by
 intro H enc w held fuel cs x h
 rcases open_slice ht h with ⟨rfl, _⟩ | ⟨a, len, cap, m, n, D, Pl, rfl, hb, hl, hm, hmm, rfl, hx⟩
 ·exact ⟨[], ⟨none, 0, rfl, Nat.le_refl _, Kd.C_nil d w⟩, by simp [WfL, maxLen]⟩
 ·simp only [if_true] at hmm
  subst hmm
  have each : ∀ i, i < len → ∃ y : α, (∃ cs', w.cells? 0 (a.add (i * P.cellsOf e)) (P.cellsOf e) = some cs' ∧ d.K w y cs') ∧ wf y := by
   intro i hi
   obtain ⟨cs', h1, h2⟩ := hx i (by omega)
   obtain ⟨y, hy, hwf⟩ := he enc w held n cs' _ h2
   exact ⟨y, ⟨cs', h1, hy⟩, hwf⟩
  obtain ⟨l, hll, hp⟩ := list_of len _ each
  refine ⟨l, ⟨some a, m, by rw [hll], by omega, ⟨rfl, by rw [hll]; unfold maxLen at hm; omega, fun _ => ⟨a, rfl, fun j y hj => ?_⟩⟩⟩, by rw [hll]; omega, fun y hy => ?_⟩
  ·obtain ⟨⟨cs', h1, h2⟩, _⟩ := hp j y hj
   refine ⟨cs', d.K_len h2, h2, fun i u hu => ?_⟩
   obtain ⟨_, hlen, hcell⟩ := World.cells?_some h1
   have hi : i < P.cellsOf e := by rw [← hlen]; exact (List.getElem?_eq_some_iff.1 hu).1
   have := hcell i hi
   rw [add_mul, hc, hu] at this
   exact this
  ·obtain ⟨j, hj, rfl⟩ := List.getElem_of_mem hy
   exact (hp j _ (List.getElem?_eq_getElem hj)).2
end
end Go.Proofs.Ytfgogdhhihbcjaa.Open
namespace Go.Proofs.Ytfgogdhhihbcjaa.Arr
open Go.RowKit Go.Proofs.YtfgogdhhihbcjaaW.PrintWords Go.Proofs.Ytfgogdhhihbcjaa.U
set_option linter.unusedVariables false
set_option linter.unusedSimpArgs false
theorem list_of' {α : Type} (n : Nat) (p : Nat → α → Prop) (h : ∀ i, i < n → ∃ a, p i a) : ∃ l : List α, l.length = n ∧ ∀ (i : Nat) (a : α), l[i]? = some a → p i a := by
 induction n with
 | zero => exact ⟨[], rfl, fun i a hi => by simp at hi⟩
 | succ n ih =>
  obtain ⟨l, hl, hp⟩ := ih (fun i hi => h i (by omega))
  obtain ⟨a, ha⟩ := h n (by omega)
  refine ⟨l ++ [a], by simp [hl], fun i b hb => ?_⟩
  rcases Nat.lt_or_ge i l.length with hi | hi
  ·rw [List.getElem?_append_left hi] at hb; exact hp i b hb
  ·rw [List.getElem?_append_right hi] at hb
   have : i - l.length = 0 := by
    rcases Nat.eq_zero_or_pos (i - l.length) with h0 | h0
    ·exact h0
    ·rw [List.getElem?_eq_none (by simp; omega)] at hb; cases hb
   rw [this] at hb
   simp at hb
   subst hb
   obtain rfl : i = n := by omega
   exact ha
section
variable {H : Type} {enc : TypeId × Value → H} {P : Program} {w : World} {base : Nat} {spare : Nat → Bool} {held : Bool} {fuel : Nat} {t : TypeId} {cs : List Value} {x : DataW H × List MemPlace}
theorem opens_arr {k : IntKind} {n : Nat} {e : TypeId} (ht : P.underlying t = some (.array n e)) (he : P.underlying e = some (.int k)) (hc : P.cellsOf e = 1) (hct : P.cellsOf t = n)
  (h : DataW.trod enc P w base spare held fuel t cs = some x) : ∃ L : List Int, L.length = n ∧ cs = L.map (Value.int k) ∧ ∀ z ∈ L, (Lit.int k z).wf = true := by
 obtain ⟨xs, m, rfl, rfl, hl, hlen, hx⟩ := DataW.trod_array ht h
 rw [hct] at hl
 have each : ∀ i, i < n → ∃ z : Int, cs[i]? = some (.int k z) ∧ (Lit.int k z).wf = true := by
  intro i hi
  have hxi := hx i hi
  rw [List.getElem?_eq_getElem (by omega), hc, Nat.mul_one] at hxi
  obtain ⟨z, hz, _, hw⟩ := DataW.trod_int he hxi
  refine ⟨z, ?_, hw⟩
  rw [List.drop_eq_getElem_cons (by omega), List.take_succ_cons] at hz
  injection hz with hz _
  rw [List.getElem?_eq_getElem (by omega), hz]
 obtain ⟨L, hL, hp⟩ := list_of' n _ each
 refine ⟨L, hL, ?_, fun z hz => ?_⟩
 ·apply List.ext_getElem?
  intro j
  rcases Nat.lt_or_ge j n with hj | hj
  ·rw [(hp j _ (List.getElem?_eq_getElem (by omega))).1]
   simp [List.getElem?_eq_getElem (show j < L.length by omega)]
  ·rw [List.getElem?_eq_none (by omega), List.getElem?_eq_none (by simp; omega)]
 ·obtain ⟨j, hj, rfl⟩ := List.getElem_of_mem hz
  exact (hp j _ (List.getElem?_eq_getElem hj)).2
theorem opens_two {k : IntKind} {n0 n1 : Nat} {e0 e1 : TypeId} {f0 f1 : Field} (ht : P.underlying t = some (.struct #[f0, f1])) (ht0 : P.underlying f0.type = some (.array n0 e0)) (ht1 : P.underlying f1.type = some (.array n1 e1))
  (he0 : P.underlying e0 = some (.int k)) (he1 : P.underlying e1 = some (.int k)) (hc0 : P.cellsOf e0 = 1) (hc1 : P.cellsOf e1 = 1) (hct0 : P.cellsOf f0.type = n0) (hct1 : P.cellsOf f1.type = n1) (hct : P.cellsOf t = n0 + n1)
  (ho0 : f0.offset = 0) (ho1 : f1.offset = n0)
  (h : DataW.trod enc P w base spare held fuel t cs = some x) : ∃ L : List Int, L.length = n0 + n1 ∧ cs = L.map (Value.int k) ∧ ∀ z ∈ L, (Lit.int k z).wf = true := by
 obtain ⟨y0, y1, m, rfl, hl, h0, h1⟩ := Go.ChangeShapes.trod_struct2 ht h
 obtain ⟨L0, hl0, hc0, hw0⟩ := opens_arr ht0 he0 hc0 hct0 h0
 obtain ⟨L1, hl1, hc1, hw1⟩ := opens_arr ht1 he1 hc1 hct1 h1
 rw [ho0, hct0, List.drop_zero] at hc0
 rw [ho1, hct1, List.take_of_length_le (by simp; omega)] at hc1
 refine ⟨L0 ++ L1, by simp; omega, ?_, fun z hz => ?_⟩
 ·rw [List.map_append, ← hc0, ← hc1, List.take_append_drop]
 ·rcases List.mem_append.1 hz with hz | hz
  ·exact hw0 z hz
  ·exact hw1 z hz
theorem agg_of {k : IntKind} {v : Value} {L : List Int} {m : Nat} (hm : L.length = m + 2) (h : v.cells.toList = L.map (Value.int k)) : v = .agg (vals k L) := by
 have hsz : v.cells.toList.length = m + 2 := by rw [h]; simpa using hm
 have : ∃ cs, v = .agg cs := by
  cases v <;> first | exact ⟨_, rfl⟩ | (simp [Value.cells] at hsz)
 obtain ⟨cs, rfl⟩ := this
 have h2 : cs.toList = L.map (Value.int k) := h
 unfold vals
 rw [← h2]
end
end Go.Proofs.Ytfgogdhhihbcjaa.Arr
