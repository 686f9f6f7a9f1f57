/- Lists that are written place by place; two small tests as they are called; lockers that are compared. No condition. -/
import Derived.Test.YtmpkgdgbjhegnaaProg
import Derived.Below
import Derived.Deep.Draws
import Derived.Deep.AppendLies
import Derived.Maps.AppendAt
import Derived.OwnWalk
import Derived.Laws.BytesArg
import Derived.Laws.MakeOwn
import Derived.Laws.OwnMore
import Derived.Deep.OwnRows
import Derived.Tactics
import Derived.Lib.ConvBytes
import Derived.Laws.Slices
import Derived.WalkKit
import Derived.KernelRfl
import Derived.RowKit3
import Derived.Deep.LoopGhost
import Derived.Deep.QuietTactic
import Derived.BigQuiet
import Derived.WideLaws
import Derived.Deep.DeepCutAuto
import Derived.Deep.CutBlock
import Derived.Deep.RegionHeld3
import Derived.Laws.Rows
import Derived.Lib.AppendStr
import Derived.ArgAppend
import Derived.Laws.IdiomCopy
import Derived.OrdersHeld
import Derived.Laws.BitsLemmas
import Derived.RowKit
import Derived.WalkSpells
import Derived.Test.YtmpkgdgbjhegnaaWWords
import Derived.Test.YtmpkgdgbjhegnaaWLast
import Derived.Test.YtmpkgdgbjhegnaaWTab
import Derived.Test.YtmpkgdgbjhegnaaWFour
import Derived.Test.YtmpkgdgbjhegnaaWQPut
import Derived.Test.YtmpkgdgbjhegnaaWApart
import Derived.Test.YtmpkgdgbjhegnaaWArr
import Derived.Test.YtmpkgdgbjhegnaaWZeros
import Derived.Test.YtmpkgdgbjhegnaaWFoot
import Derived.Test.YtmpkgdgbjhegnaaWKept
import Derived.Test.YtmpkgdgbjhegnaaWShare
import Derived.Test.YtmpkgdgbjhegnaaWN
import Derived.Test.YtmpkgdgbjhegnaaWFootNe
import Derived.Test.YtmpkgdgbjhegnaaWAt
import Derived.Test.YtmpkgdgbjhegnaaWEqStruct
import Derived.Test.YtmpkgdgbjhegnaaWRepsOne
import Derived.Test.YtmpkgdgbjhegnaaWInv
import Derived.Test.YtmpkgdgbjhegnaaWInvWords
import Derived.Test.YtmpkgdgbjhegnaaWGuard
import Derived.Test.YtmpkgdgbjhegnaaWNEv
import Derived.Test.YtmpkgdgbjhegnaaWMore
import Derived.Test.YtmpkgdgbjhegnaaU
import Derived.Test.YtmpkgdgbjhegnaaArr
import Derived.Test.YtmpkgdgbjhegnaaArrF
import Derived.Test.YtmpkgdgbjhegnaaPBx1
namespace Go.Proofs.Ytmpkgdgbjhegnaa.Arr
open Go.RowKit Go.Proofs.YtmpkgdgbjhegnaaW.PrintWords Go.Proofs.YtmpkgdgbjhegnaaW.PrintLast Go.Proofs.YtmpkgdgbjhegnaaW.PrintMore Go.Proofs.Ytmpkgdgbjhegnaa.U Go.Proofs.Ytmpkgdgbjhegnaa.B
set_option linter.unusedVariables false
set_option linter.unusedSimpArgs false

/-- 'n' places of a list, from 'off' on, hold v. -/
def fillTo (L : List Int) (off n : Nat) (v : Int) : List Int := L.take off ++ List.replicate n v ++ L.drop (off + n)
theorem fillTo_succ (L : List Int) (off n : Nat) (v : Int) (h : off + n < L.length) : (fillTo L off n v).set (off + n) v = fillTo L off (n + 1) v := by
  unfold fillTo
  apply List.ext_getElem?
  intro j
  simp only [List.getElem?_set, List.getElem?_append, List.length_append, List.length_take, List.length_replicate, List.getElem?_take, List.getElem?_replicate, List.getElem?_drop, List.length_drop]
  repeat' split
  all_goals first | rfl | omega | (congr 1; omega)
theorem fillTo_zero (L : List Int) (off : Nat) (v : Int) : fillTo L off 0 v = L := by simp [fillTo]
theorem fillTo_length (L : List Int) (off n : Nat) (v : Int) (h : off + n ≤ L.length) : (fillTo L off n v).length = L.length := by
  simp [fillTo]; omega

theorem fillTo_get (L : List Int) (off n : Nat) (v : Int) (h : off + n ≤ L.length) (j : Nat) : (fillTo L off n v)[j]? = if off ≤ j ∧ j < off + n then some v else L[j]? := by
  unfold fillTo
  simp only [List.getElem?_append, List.length_append, List.length_take, List.length_replicate, List.getElem?_take, List.getElem?_replicate, List.getElem?_drop]
  repeat' split
  all_goals first | rfl | omega | (congr 1; omega) | (rename_i h; exact absurd h (by omega)) | (exfalso; omega)
/-- A list whose places from 'off' on are the first n of another one. -/
def mixTo (L S : List Int) (off n : Nat) : List Int := L.take off ++ S.take n ++ L.drop (off + n)
theorem mixTo_zero (L S : List Int) (off : Nat) : mixTo L S off 0 = L := by simp [mixTo]
theorem mixTo_length (L S : List Int) (off n : Nat) (h : off + n ≤ L.length) (hn : n ≤ S.length) : (mixTo L S off n).length = L.length := by
  simp [mixTo]; omega
theorem mixTo_succ (L S : List Int) (off n : Nat) (h : off + n < L.length) (hn : n < S.length) : (mixTo L S off n).set (off + n) (rd S n) = mixTo L S off (n + 1) := by
  unfold mixTo
  rw [rd_get S n hn]
  apply List.ext_getElem?
  intro j
  simp only [List.getElem?_set, List.getElem?_append, List.length_append, List.length_take, List.getElem?_take, List.getElem?_drop, List.length_drop]
  repeat' split
  all_goals first | rfl | omega | (congr 1; omega) | (rw [← List.getElem?_eq_getElem hn]; congr 1; omega) | (rw [List.getElem?_eq_none (by omega)]; symm; apply List.getElem?_eq_none; omega)
theorem rd_map (f : Int → Int) (L : List Int) (i : Nat) (h : i < L.length) : rd (L.map f) (i : Int) = f (rd L (i : Int)) := by
  rw [rd_get L i h, rd_get _ i (by simpa using h)]; simp
theorem rd_take (L : List Int) (i n : Nat) (h : i < n) (hl : i < L.length) : rd (L.take n) (i : Int) = rd L (i : Int) := by
  rw [rd_get L i hl, rd_get _ i (by simp; omega)]; simp
theorem rd_drop (L : List Int) (i n : Nat) (hl : n + i < L.length) : rd (L.drop n) (i : Int) = rd L ((n + i : Nat) : Int) := by
  rw [rd_get L _ hl, rd_get _ i (by simp; omega)]; simp
theorem halves (L : List Int) (h : L.length = 44) : L = (L.drop 0).take 40 ++ (L.drop 40).take 4 := by
  rw [List.drop_zero, List.take_of_length_le (l := L.drop 40) (by simp [h]), List.take_append_drop]
theorem list_eq {L L' : List Int} {n : Nat} (h1 : L.length = n) (h2 : L'.length = n) (h : ∀ j : Nat, j < n → rd L (j : Int) = rd L' (j : Int)) : L = L' :=
  toList h1 h2 fun j hj => rd_opt (by omega) (by omega) (h j hj)

/-- A call that tells a Bool: the Bool by a name. -/
theorem decided {P : Program} {f : FuncId} {args : Array Value} {w : World} {c : Prop} [Decidable c] {B : World → Prop} (h : Calls P f args w fun e w' => e = .returned (.bool (decide c)) ∧ B w') :
    Calls P f args w fun e w' => ∃ b, Aside0 (b = true ↔ c) ∧ e = .returned (.bool b) ∧ B w' :=
  h.mono fun e w' ⟨he, hb⟩ => ⟨decide c, ⟨by simp⟩, he, hb⟩
theorem in_calls (a lo hi : Int) (w : World) : Calls Try.prog 48 #[.int .i64 a, .int .i64 lo, .int .i64 hi] w fun e w' => e = .returned (.bool (decide (lo ≤ a ∧ a ≤ hi))) ∧ Below w.heap.size w w' := by
  refine (spec_l00In.calls a lo hi (decide (lo ≤ a ∧ a ≤ hi)) w ?_).mono ?_
  · unfold spec_l00In.f
    by_cases h : lo ≤ a <;> simp [h]
  · rintro e w' ⟨rfl, hb⟩; exact ⟨rfl, hb.below⟩
theorem within_calls (a lo hi : Int) (w : World) : Calls Try.prog 49 #[.int .i64 a, .int .i64 lo, .int .i64 hi] w fun e w' => e = .returned (.bool (decide (lo ≤ a ∧ a ≤ hi))) ∧ Below w.heap.size w w' := by
  refine (impl_within.calls a lo hi (decide (lo ≤ a ∧ a ≤ hi)) w ?_).mono ?_
  · unfold impl_within.f
    by_cases h : lo ≤ a <;> simp [h]
  · rintro e w' ⟨rfl, hb⟩; exact ⟨rfl, hb.below⟩

set_option maxHeartbeats 4000000 in
set_option maxRecDepth 100000 in
theorem eqInt16A40_calls (L L' : List Int) (w : World) (hl : L.length = 40) (hl' : L'.length = 40) : Calls Try.prog 52 #[.agg (vals .i16 L), .agg (vals .i16 L')] w fun e w' => e = .returned (.bool (decide (L = L'))) ∧ Below w.heap.size w w' := by
  have hm := Mem.start w
  go_enter Try.func52, Try.ntmps52
  go_wp2_with (first | fail | ((with_reducible refine gt_box 2 23 ?_); refine st_box rfl 2 rfl 23 _ rfl hm (v := .agg (vals _ _)) rfl (cs := vals _ _) rfl ?_; clear hm; intro g2 w2 hm) | ((with_reducible refine gt_box 3 23 ?_); refine st_box rfl 3 rfl 23 _ rfl hm (v := .agg (vals _ _)) rfl (cs := vals _ _) rfl ?_; clear hm; intro g3 w3 hm) | ((with_reducible refine gt_elem 23 ?_); refine st_elem rfl 23 _ _ rfl rfl rfl arr23 (by first | omega | assumption | (simp only [lens]; first | omega | assumption) | (simp [lens]; done) | (simp [lens]; omega)) (by first | omega | assumption | (simp only [lens]; first | omega | assumption) | (simp [lens]; done) | (simp [lens]; omega)) ?_) | ((with_reducible refine gt_load 22 ?_); (first | (refine st_get rfl 22 _ rfl hm rfl 0 rfl one22 (by first | omega | assumption | (simp only [lens]; first | omega | assumption) | (simp [lens]; done) | (simp [lens]; omega)) ?_) | (refine st_get rfl 22 _ rfl hm rfl 1 rfl one22 (by first | omega | assumption | (simp only [lens]; first | omega | assumption) | (simp [lens]; done) | (simp [lens]; omega)) ?_) | (refine st_get rfl 22 _ rfl hm rfl 2 rfl one22 (by first | omega | assumption | (simp only [lens]; first | omega | assumption) | (simp [lens]; done) | (simp [lens]; omega)) ?_) | (refine st_get rfl 22 _ rfl hm rfl 3 rfl one22 (by first | omega | assumption | (simp only [lens]; first | omega | assumption) | (simp [lens]; done) | (simp [lens]; omega)) ?_))))
  go_loopw [5] (fun v5 wr => ∃ i : Nat, i ≤ 40 ∧ v5 = .int .i64 i ∧ Aside0 (∀ j : Nat, j < i → rd L (j : Int) = rd L' (j : Int)) ∧ Mem w wr [⟨g3, vals .i16 L', 23, true⟩, ⟨g2, vals .i16 L, 23, true⟩]) (fun v5 _ => 40 - (intOf v5).toNat)
  case atStart => exact ⟨0, by omega, rfl, ⟨fun j hj => absurd hj (by omega)⟩, hm⟩
  case round =>
    obtain ⟨i, hi, rfl, HJ, hm⟩ := hrel
    by_cases hlt : i < 40
    · have hc1 := hm.get (n := 1) rfl i (by omega)
      have hc2 := hm.get (n := 0) rfl i (by omega)
      have HM := Aside0.mk hm
      clear hm
      generalize hx : rd L (i : Int) = x at *
      generalize hy : rd L' (i : Int) = y at *
      have HX := Aside0.mk hx
      have HY := Aside0.mk hy
      clear hx hy
      by_cases hxy : x = y
      · subst hxy
        go_wp2
        repeat (go_quiet (fail); try go_wp2)
        go_roundw
        case rel => exact ⟨i + 1, by omega, by go_num, ⟨fun j hj => by
          rcases Nat.lt_or_ge j i with h | h
          · exact HJ.out j h
          · obtain rfl : j = i := by omega
            rw [HX.out, HY.out]⟩, HM.out.drawn _⟩
        case measure => simp [intOf]; omega
      · have hd := Aside0.mk (show (x != y) = true by simpa using hxy)
        go_wp2
        go_quiet (fail)
        rw [hd.out]
        go_wp2
        go_ret
        refine ⟨?_, (HM.out.drawn _).done rfl⟩
        rw [decide_eq_false (p := L = L') (fun e => hxy (by rw [← HX.out, ← HY.out, e]))]; rfl
    · have HI := Aside0.mk (show i = 40 by omega)
      go_wp2_with (first | fail | ((with_reducible refine gt_box 2 23 ?_); refine st_box rfl 2 rfl 23 _ rfl hm (v := .agg (vals _ _)) rfl (cs := vals _ _) rfl ?_; clear hm; intro g2 w2 hm) | ((with_reducible refine gt_box 3 23 ?_); refine st_box rfl 3 rfl 23 _ rfl hm (v := .agg (vals _ _)) rfl (cs := vals _ _) rfl ?_; clear hm; intro g3 w3 hm) | ((with_reducible refine gt_elem 23 ?_); refine st_elem rfl 23 _ _ rfl rfl rfl arr23 (by first | omega | assumption | (simp only [lens]; first | omega | assumption) | (simp [lens]; done) | (simp [lens]; omega)) (by first | omega | assumption | (simp only [lens]; first | omega | assumption) | (simp [lens]; done) | (simp [lens]; omega)) ?_) | ((with_reducible refine gt_load 22 ?_); (first | (refine st_get rfl 22 _ rfl hm rfl 0 rfl one22 (by first | omega | assumption | (simp only [lens]; first | omega | assumption) | (simp [lens]; done) | (simp [lens]; omega)) ?_) | (refine st_get rfl 22 _ rfl hm rfl 1 rfl one22 (by first | omega | assumption | (simp only [lens]; first | omega | assumption) | (simp [lens]; done) | (simp [lens]; omega)) ?_) | (refine st_get rfl 22 _ rfl hm rfl 2 rfl one22 (by first | omega | assumption | (simp only [lens]; first | omega | assumption) | (simp [lens]; done) | (simp [lens]; omega)) ?_) | (refine st_get rfl 22 _ rfl hm rfl 3 rfl one22 (by first | omega | assumption | (simp only [lens]; first | omega | assumption) | (simp [lens]; done) | (simp [lens]; omega)) ?_))))
      go_ret
      refine ⟨?_, hm.done rfl⟩
      rw [decide_eq_true (p := L = L') (list_eq hl hl' (fun j hj => HJ.out j (by rw [HI.out]; exact hj)))]; rfl
set_option maxHeartbeats 4000000 in
set_option maxRecDepth 100000 in
theorem eqInt16A4_calls (L L' : List Int) (w : World) (hl : L.length = 4) (hl' : L'.length = 4) : Calls Try.prog 53 #[.agg (vals .i16 L), .agg (vals .i16 L')] w fun e w' => e = .returned (.bool (decide (L = L'))) ∧ Below w.heap.size w w' := by
  have hm := Mem.start w
  go_enter Try.func53, Try.ntmps53
  go_wp2_with (first | fail | ((with_reducible refine gt_box 2 24 ?_); refine st_box rfl 2 rfl 24 _ rfl hm (v := .agg (vals _ _)) rfl (cs := vals _ _) rfl ?_; clear hm; intro g2 w2 hm) | ((with_reducible refine gt_box 3 24 ?_); refine st_box rfl 3 rfl 24 _ rfl hm (v := .agg (vals _ _)) rfl (cs := vals _ _) rfl ?_; clear hm; intro g3 w3 hm) | ((with_reducible refine gt_elem 24 ?_); refine st_elem rfl 24 _ _ rfl rfl rfl arr24 (by first | omega | assumption | (simp only [lens]; first | omega | assumption) | (simp [lens]; done) | (simp [lens]; omega)) (by first | omega | assumption | (simp only [lens]; first | omega | assumption) | (simp [lens]; done) | (simp [lens]; omega)) ?_) | ((with_reducible refine gt_load 22 ?_); (first | (refine st_get rfl 22 _ rfl hm rfl 0 rfl one22 (by first | omega | assumption | (simp only [lens]; first | omega | assumption) | (simp [lens]; done) | (simp [lens]; omega)) ?_) | (refine st_get rfl 22 _ rfl hm rfl 1 rfl one22 (by first | omega | assumption | (simp only [lens]; first | omega | assumption) | (simp [lens]; done) | (simp [lens]; omega)) ?_) | (refine st_get rfl 22 _ rfl hm rfl 2 rfl one22 (by first | omega | assumption | (simp only [lens]; first | omega | assumption) | (simp [lens]; done) | (simp [lens]; omega)) ?_) | (refine st_get rfl 22 _ rfl hm rfl 3 rfl one22 (by first | omega | assumption | (simp only [lens]; first | omega | assumption) | (simp [lens]; done) | (simp [lens]; omega)) ?_))))
  go_loopw [5] (fun v5 wr => ∃ i : Nat, i ≤ 4 ∧ v5 = .int .i64 i ∧ Aside0 (∀ j : Nat, j < i → rd L (j : Int) = rd L' (j : Int)) ∧ Mem w wr [⟨g3, vals .i16 L', 24, true⟩, ⟨g2, vals .i16 L, 24, true⟩]) (fun v5 _ => 4 - (intOf v5).toNat)
  case atStart => exact ⟨0, by omega, rfl, ⟨fun j hj => absurd hj (by omega)⟩, hm⟩
  case round =>
    obtain ⟨i, hi, rfl, HJ, hm⟩ := hrel
    by_cases hlt : i < 4
    · have hc1 := hm.get (n := 1) rfl i (by omega)
      have hc2 := hm.get (n := 0) rfl i (by omega)
      have HM := Aside0.mk hm
      clear hm
      generalize hx : rd L (i : Int) = x at *
      generalize hy : rd L' (i : Int) = y at *
      have HX := Aside0.mk hx
      have HY := Aside0.mk hy
      clear hx hy
      by_cases hxy : x = y
      · subst hxy
        go_wp2
        repeat (go_quiet (fail); try go_wp2)
        go_roundw
        case rel => exact ⟨i + 1, by omega, by go_num, ⟨fun j hj => by
          rcases Nat.lt_or_ge j i with h | h
          · exact HJ.out j h
          · obtain rfl : j = i := by omega
            rw [HX.out, HY.out]⟩, HM.out.drawn _⟩
        case measure => simp [intOf]; omega
      · have hd := Aside0.mk (show (x != y) = true by simpa using hxy)
        go_wp2
        go_quiet (fail)
        rw [hd.out]
        go_wp2
        go_ret
        refine ⟨?_, (HM.out.drawn _).done rfl⟩
        rw [decide_eq_false (p := L = L') (fun e => hxy (by rw [← HX.out, ← HY.out, e]))]; rfl
    · have HI := Aside0.mk (show i = 4 by omega)
      go_wp2_with (first | fail | ((with_reducible refine gt_box 2 24 ?_); refine st_box rfl 2 rfl 24 _ rfl hm (v := .agg (vals _ _)) rfl (cs := vals _ _) rfl ?_; clear hm; intro g2 w2 hm) | ((with_reducible refine gt_box 3 24 ?_); refine st_box rfl 3 rfl 24 _ rfl hm (v := .agg (vals _ _)) rfl (cs := vals _ _) rfl ?_; clear hm; intro g3 w3 hm) | ((with_reducible refine gt_elem 24 ?_); refine st_elem rfl 24 _ _ rfl rfl rfl arr24 (by first | omega | assumption | (simp only [lens]; first | omega | assumption) | (simp [lens]; done) | (simp [lens]; omega)) (by first | omega | assumption | (simp only [lens]; first | omega | assumption) | (simp [lens]; done) | (simp [lens]; omega)) ?_) | ((with_reducible refine gt_load 22 ?_); (first | (refine st_get rfl 22 _ rfl hm rfl 0 rfl one22 (by first | omega | assumption | (simp only [lens]; first | omega | assumption) | (simp [lens]; done) | (simp [lens]; omega)) ?_) | (refine st_get rfl 22 _ rfl hm rfl 1 rfl one22 (by first | omega | assumption | (simp only [lens]; first | omega | assumption) | (simp [lens]; done) | (simp [lens]; omega)) ?_) | (refine st_get rfl 22 _ rfl hm rfl 2 rfl one22 (by first | omega | assumption | (simp only [lens]; first | omega | assumption) | (simp [lens]; done) | (simp [lens]; omega)) ?_) | (refine st_get rfl 22 _ rfl hm rfl 3 rfl one22 (by first | omega | assumption | (simp only [lens]; first | omega | assumption) | (simp [lens]; done) | (simp [lens]; omega)) ?_))))
      go_ret
      refine ⟨?_, hm.done rfl⟩
      rw [decide_eq_true (p := L = L') (list_eq hl hl' (fun j hj => HJ.out j (by rw [HI.out]; exact hj)))]; rfl
end Go.Proofs.Ytmpkgdgbjhegnaa.Arr
