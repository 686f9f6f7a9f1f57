/- The texts that the statement FnStocks needs, part 5: contracts of the program's functions and plain laws, without what it does not reach. No condition beyond what each theorem says. -/
import Derived.Below
import Derived.Deep.Draws
import Derived.Deep.AppendLies
import Derived.Maps.AppendAt
import Derived.OwnWalk
import Derived.Laws.BytesArg
import Derived.Laws.MakeOwn
import Derived.Laws.OwnMore
import Derived.Deep.OwnRows
import Derived.Tactics
import Derived.Lib.ConvBytes
import Derived.Laws.Slices
import Derived.WalkKit
import Derived.KernelRfl
import Derived.RowKit3
import Derived.Deep.LoopGhost
import Derived.Deep.QuietTactic
import Derived.BigQuiet
import Derived.WideLaws
import Derived.Deep.DeepCutAuto
import Derived.Deep.CutBlock
import Derived.Deep.RegionHeld3
import Derived.Laws.Rows
import Derived.Lib.AppendStr
import Derived.ArgAppend
import Derived.Laws.IdiomCopy
import Derived.RowKit
import Derived.Laws.Tables
import Derived.BigFrame
import Derived.Laws.CopyRow
import Derived.Laws.ResultCell
import Derived.OrdersHeld
import Derived.Laws.BitsLemmas
import Derived.Laws.StructEq
import Derived.Test.YthaoopbfggnceaaGreatDoorProg
import Derived.WalkSpells
import Derived.StillTailTactics
import Derived.Laws.BitsAllLaws
import Derived.ProofKit
import Derived.OpenShut
import Derived.ChangeSame
import Derived.Shelf.Strconv.Itoa4
import Derived.Shelf.Strings.OnBuilder
import Derived.Lib.SplitLaws
import Derived.Lib.ParseIntB
import Derived.Lib.CountLaws
import Derived.Shelf.Strings.SplitShaped
import Derived.Shelf.Strings.Shaped
import Derived.Shelf.Small.Wraps
import Derived.Shelf.Strconv.ErrVarParseInt
import Derived.Lib.SmallJoins
import Derived.Lib.AppendIntMem
import Derived.Lib.ParseIntBTie
import Derived.Deep.Slices
import Derived.Test.YthaoopbfggnceaaGreatDoorRows
import Derived.ShutString
import Derived.ChangeOld
import Derived.SizedLaws
import Derived.HandedShaped
import Derived.LaidMore
import Derived.Lay
import Derived.Stop.Joined
import Derived.Stop.LaidErr
import Derived.Lib.LaidTab
import Derived.Test.YthaoopbfggnceaaGreatDoorCards
import Derived.Test.YthaoopbfggnceaaGreatDoorTie
import Derived.SevenTiedAt
import Derived.Test.YthaoopbfggnceaaGreatDoorZFnStocks4
namespace Go.Proofs.YthaoopbfggnceaaGreatDoor.Arr
open Go.RowKit Go.Proofs.YthaoopbfggnceaaGreatDoorW.PrintWords Go.Proofs.YthaoopbfggnceaaGreatDoorW.PrintLast Go.Proofs.YthaoopbfggnceaaGreatDoorW.PrintMore Go.Proofs.YthaoopbfggnceaaGreatDoor.U Go.Proofs.YthaoopbfggnceaaGreatDoor.L
set_option linter.unusedVariables false
set_option linter.unusedSimpArgs false
theorem infoU8 : (Tryz.prog.info? 5).map (fun i => (i.zero, i.size, i.bytes)) = some (some (.int .u8 0), 1, 1) := by kernel_rfl
theorem next3 {n : Nat} (h : n < 3) : (n : Int) + 1 ≤ 3 ∧ n + 1 ≤ 3 ∧ (n : Int) < 3 ∧ ((n : Int) ≤ 3 ∧ n ≤ 3) ∧ ∃ m : Nat, m = n + 1 ∧ IntKind.i64.wrap ((n : Int) + 1) = (m : Int) ∧ (m : Int) ≤ 3 ∧ m ≤ 3 :=
 ⟨by omega, by omega, by omega, ⟨by omega, by omega⟩, n + 1, rfl, by simp only [i64_w]; unfold wrap64; omega, by omega, by omega⟩
theorem stock_at {L N X : List Int} (hL : okL L = true) (hN : okL N = true) (hl : L.length = 44) (hn : N.length = 44) {cov : Bool} (hc : covB L N = cov) (hX : cov = true → X = List.zipWith left2 L N) (j : Nat) (hj : j < 44) :
  (0 ≤ rd L (j : Int) ∧ rd L (j : Int) ≤ 20) ∧ (0 ≤ rd N (j : Int) ∧ rd N (j : Int) ≤ 20) ∧ (0 ≤ rd (List.zipWith lack L N) (j : Int) ∧ rd (List.zipWith lack L N) (j : Int) ≤ 20) ∧ rd N (j : Int) ≤ rd L (j : Int) + rd (List.zipWith lack L N) (j : Int) ∧
  (cov = true → (0 ≤ rd X (j : Int) ∧ rd X (j : Int) ≤ 20) ∧ rd L (j : Int) = rd X (j : Int) + rd N (j : Int)) := by
 have h1 := okL_in hL _ (rd_in L j (by omega))
 have h2 := okL_in hN _ (rd_in N j (by omega))
 rw [rd_zip lack L N j (by omega) (by omega)]
 refine ⟨h1, h2, by unfold lack; split <;> omega, by unfold lack; split <;> omega, fun h => ?_⟩
 rw [hX h, rd_zip left2 L N j (by omega) (by omega)]
 rw [h] at hc
 have h3 := covB_get hc j hj
 unfold left2
 omega
theorem left_of {L N : List Int} (hl : L.length = 44) (hn : N.length = 44) (hb : okL L = true ∧ okL N = true) : ∃ (cov : Bool) (X : List Int) (c5 : Int), ((cov = true ∧ c5 = 0) ∨ (cov = false ∧ c5 = 4)) ∧ covB L N = cov ∧ leftRes L N = .tuple #[.agg (vals .i16 X), .int .i64 c5] ∧ X.length = 44 ∧ (cov = true → X = List.zipWith left2 L N) := by
 have h : leftRes L N = if covB L N = true then .tuple #[.agg (vals .i16 (List.zipWith left2 L N)), .int .i64 0] else .tuple #[.agg (vals .i16 (zs 44)), .int .i64 4] := if_pos hb
 by_cases hc : covB L N = true
 ·rw [if_pos hc] at h
  exact ⟨true, _, 0, .inl ⟨rfl, rfl⟩, hc, h, zip_length left2 L N hl hn, fun _ => rfl⟩
 ·rw [if_neg hc] at h
  exact ⟨false, _, 4, .inr ⟨rfl, rfl⟩, by simpa using hc, h, zs_length, fun h => absurd h (by simp)⟩
theorem stock_ground {L : List Int} {hs : List (List Int)} (hok : okL L = true) (hl : L.length = 44) (hk : ∀ h ∈ hs, okH h = true) (hn : hs.length = 3) {cov : Bool} (hc : covB L (needs (zs 44) hs 3) = cov) :
  (firstRes L hs = .tuple #[.int .i64 0, .int .i64 6] ∧ cov = true) ∨ ∃ i : Nat, i < 3 ∧ firstRes L hs = .tuple #[.int .i64 (i : Int), .int .i64 0] ∧ canRes L (hs.take i) = .tuple #[.bool true, .int .i64 0] ∧ canRes L (hs.take (i + 1)) = .tuple #[.bool false, .int .i64 0] := by
 have hf : flown L hs = 0 := by
  unfold flown
  rw [if_pos hok]
  exact codeH_ok hk (by omega)
 rcases ground_cases L hs with ⟨h1, h2⟩ | ⟨i, h1, h2, h3, h4⟩
 ·refine .inl ⟨?_, ?_⟩
  ·unfold firstRes
   rw [if_pos hf, h1]; rfl
  ·rw [← hc]; exact h2 2 (by omega)
 ·refine .inr ⟨i, by omega, ?_, ground_facts (fun x hx => okL_in hok x hx) hl hok hk (by omega) h1 h3 h4⟩
  unfold firstRes
  rw [if_pos hf, h2, grRes_pos]
set_option maxHeartbeats 16000000 in
set_option maxRecDepth 100000 in
theorem law_FnStocks (w : World) (A0 : Option Addr) (c0 : Nat) (l : List Int) (hr : Kd.C (Kd.int .u8) w A0 l.length l) (hc : l.length ≤ c0) (wf : WfL (WfI .u8) l) (A1 : Option Addr) (c1 : Nat) (l' : List Int) (hr' : Kd.C (Kd.int .u8) w A1 l'.length l') (hc' : l'.length ≤ c1) (wf' : WfL (WfI .u8) l') (hD : Door w) :
  Calls Tryz.prog 3 #[.slice A0 l.length c0, .slice A1 l'.length c1] w fun e w' => e = .returned (.bool true) ∧ Below w.heap.size w w' := by
 have HLG := Aside0.mk (a2Long' A0 c0 l A1 c1 l' w hr hc hr' hc')
 have HR := Aside0.mk hr
 have HR' := Aside0.mk hr'
 have hm := Mem.start w
 by_cases hbig : 3000 < l.length ∨ 3000 < l'.length
 ·rw [decide_eq_true hbig] at HLG
  clear hr hr' hbig wf wf' hD
  go_enter Tryz.func3, Tryz.ntmps3
  go_wp2_with (go_at_call 4; refine HLG.out.mono ?_; rintro e w1 ⟨rfl, hb⟩; replace hm := hm.after hb; clear hb)
  go_ret
  exact ⟨rfl, hm.done rfl⟩
 ·rw [decide_eq_false hbig] at HLG
  have hb1 := byt_ofS wf (by omega)
  have hb2 := byt_ofS wf' (by omega)
  have hb3 : Byt (7 :: l') := ⟨by have := hb2.1; simp; omega, fun x hx => by
   rcases List.mem_cons.1 hx with rfl | hx
   ·omega
   ·exact hb2.2 x hx⟩
  have HLL := Aside0.mk (show l'.length ≤ 3000 by omega)
  obtain ⟨h1, he1, hk1⟩ := A2Hoist_some hb2
  obtain ⟨h2, he2, hk2⟩ := A2Hoist_some hb1
  obtain ⟨h3, he3, hk3⟩ := A2Hoist_some hb3
  have HL0 := Aside0.mk (fun W h => A2Locker_calls A0 c0 l W h hc hb1)
  have HE1 := Aside0.mk he1
  have HE2 := Aside0.mk he2
  have HE3 := Aside0.mk he3
  have HKS := Aside0.mk (show ∀ h ∈ [h1, h2, h3], okH h = true by
   intro h hh
   simp only [List.mem_cons, List.not_mem_nil, or_false] at hh
   rcases hh with rfl | rfl | rfl
   ·exact hk1
   ·exact hk2
   ·exact hk3)
  have HD := Aside0.mk (fun W (hb : Below w.heap.size w W) => hD.below hb)
  clear hr hr' hbig wf wf' hD hb1 hb2 hb3 he1 he2 he3 hk1 hk2 hk3
  go_enter Tryz.func3, Tryz.ntmps3
  go_wp2_with (first
   | (go_at_call 4; refine HLG.out.mono ?_; rintro e w1 ⟨rfl, hb⟩; replace hm := hm.after hb; clear hb)
   | (go_at_call 5; refine (HL0.out _ (Kd.C_below HR.out (hm.done rfl))).mono ?_; rintro e w2 ⟨L, rfl, hlL, hokL, hb⟩; have HOK := Aside0.mk hokL; replace hm := hm.after hb; clear hb hokL)
   | (first | fail | ((with_reducible refine gt_alloc 5 28 ?_); refine st_alloc rfl 5 rfl 28 rfl hm zero28 ?_; clear hm; intro g5 w5 hm) | ((with_reducible refine gt_store 28 ?_); (first | (refine st_full rfl 28 _ _ rfl hm rfl rfl 0 rfl agg28 (by first | omega | assumption | (simp only [lens]; first | omega | assumption) | (simp [lens]; done) | (simp [lens]; omega)) (by first | omega | assumption | (simp only [lens]; first | omega | assumption) | (simp [lens]; done) | (simp [lens]; omega)) ?_) | (refine st_full rfl 28 _ _ rfl hm rfl rfl 1 rfl agg28 (by first | omega | assumption | (simp only [lens]; first | omega | assumption) | (simp [lens]; done) | (simp [lens]; omega)) (by first | omega | assumption | (simp only [lens]; first | omega | assumption) | (simp [lens]; done) | (simp [lens]; omega)) ?_) | (refine st_full rfl 28 _ _ rfl hm rfl rfl 2 rfl agg28 (by first | omega | assumption | (simp only [lens]; first | omega | assumption) | (simp [lens]; done) | (simp [lens]; omega)) (by first | omega | assumption | (simp only [lens]; first | omega | assumption) | (simp [lens]; done) | (simp [lens]; omega)) ?_) | (refine st_full rfl 28 _ _ rfl hm rfl rfl 3 rfl agg28 (by first | omega | assumption | (simp only [lens]; first | omega | assumption) | (simp [lens]; done) | (simp [lens]; omega)) (by first | omega | assumption | (simp only [lens]; first | omega | assumption) | (simp [lens]; done) | (simp [lens]; omega)) ?_) | (refine st_full rfl 28 _ _ rfl hm rfl rfl 4 rfl agg28 (by first | omega | assumption | (simp only [lens]; first | omega | assumption) | (simp [lens]; done) | (simp [lens]; omega)) (by first | omega | assumption | (simp only [lens]; first | omega | assumption) | (simp [lens]; done) | (simp [lens]; omega)) ?_) | (refine st_full rfl 28 _ _ rfl hm rfl rfl 5 rfl agg28 (by first | omega | assumption | (simp only [lens]; first | omega | assumption) | (simp [lens]; done) | (simp [lens]; omega)) (by first | omega | assumption | (simp only [lens]; first | omega | assumption) | (simp [lens]; done) | (simp [lens]; omega)) ?_)); clear hm; intro ws hm; simp only [List.set_cons_zero, List.set_cons_succ] at hm) | ((with_reducible refine gt_alloc 7 28 ?_); refine st_alloc rfl 7 rfl 28 rfl hm zero28 ?_; clear hm; intro g7 w7 hm) | ((with_reducible refine gt_alloc 9 28 ?_); refine st_alloc rfl 9 rfl 28 rfl hm zero28 ?_; clear hm; intro g9 w9 hm) | ((with_reducible refine gt_load 28 ?_); (first | (refine st_load rfl 28 _ rfl hm rfl 0 rfl agg28 (by first | omega | assumption | (simp only [lens]; first | omega | assumption) | (simp [lens]; done) | (simp [lens]; omega)) ?_) | (refine st_load rfl 28 _ rfl hm rfl 1 rfl agg28 (by first | omega | assumption | (simp only [lens]; first | omega | assumption) | (simp [lens]; done) | (simp [lens]; omega)) ?_) | (refine st_load rfl 28 _ rfl hm rfl 2 rfl agg28 (by first | omega | assumption | (simp only [lens]; first | omega | assumption) | (simp [lens]; done) | (simp [lens]; omega)) ?_) | (refine st_load rfl 28 _ rfl hm rfl 3 rfl agg28 (by first | omega | assumption | (simp only [lens]; first | omega | assumption) | (simp [lens]; done) | (simp [lens]; omega)) ?_) | (refine st_load rfl 28 _ rfl hm rfl 4 rfl agg28 (by first | omega | assumption | (simp only [lens]; first | omega | assumption) | (simp [lens]; done) | (simp [lens]; omega)) ?_) | (refine st_load rfl 28 _ rfl hm rfl 5 rfl agg28 (by first | omega | assumption | (simp only [lens]; first | omega | assumption) | (simp [lens]; done) | (simp [lens]; omega)) ?_))) | ((with_reducible refine gt_alloc 11 28 ?_); refine st_alloc rfl 11 rfl 28 rfl hm zero28 ?_; clear hm; intro g11 w11 hm) | ((with_reducible refine gt_alloc 17 28 ?_); refine st_alloc rfl 17 rfl 28 rfl hm zero28 ?_; clear hm; intro g17 w17 hm) | ((with_reducible refine gt_alloc 19 28 ?_); refine st_alloc rfl 19 rfl 28 rfl hm zero28 ?_; clear hm; intro g19 w19 hm) | ((with_reducible refine gt_alloc 21 28 ?_); refine st_alloc rfl 21 rfl 28 rfl hm zero28 ?_; clear hm; intro g21 w21 hm) | ((with_reducible refine gt_alloc 23 28 ?_); refine st_alloc rfl 23 rfl 28 rfl hm zero28 ?_; clear hm; intro g23 w23 hm) | ((with_reducible refine gt_load 45 ?_); (first | (refine st_get rfl 45 _ rfl hm rfl 0 rfl one45 (by first | omega | assumption | (simp only [lens]; first | omega | assumption) | (simp [lens]; done) | (simp [lens]; omega)) ?_) | (refine st_get rfl 45 _ rfl hm rfl 1 rfl one45 (by first | omega | assumption | (simp only [lens]; first | omega | assumption) | (simp [lens]; done) | (simp [lens]; omega)) ?_) | (refine st_get rfl 45 _ rfl hm rfl 2 rfl one45 (by first | omega | assumption | (simp only [lens]; first | omega | assumption) | (simp [lens]; done) | (simp [lens]; omega)) ?_) | (refine st_get rfl 45 _ rfl hm rfl 3 rfl one45 (by first | omega | assumption | (simp only [lens]; first | omega | assumption) | (simp [lens]; done) | (simp [lens]; omega)) ?_) | (refine st_get rfl 45 _ rfl hm rfl 4 rfl one45 (by first | omega | assumption | (simp only [lens]; first | omega | assumption) | (simp [lens]; done) | (simp [lens]; omega)) ?_) | (refine st_get rfl 45 _ rfl hm rfl 5 rfl one45 (by first | omega | assumption | (simp only [lens]; first | omega | assumption) | (simp [lens]; done) | (simp [lens]; omega)) ?_))) | ((with_reducible refine gt_build 28 ?_); refine st_zero rfl 28 rfl built28 ?_) | ((with_reducible refine gt_field 28 0 ?_); refine st_field rfl 28 _ 0 rfl rfl field28_0 ?_) | ((with_reducible refine gt_elem 25 ?_); refine st_elem rfl 25 _ _ rfl rfl rfl arr25 (by first | omega | assumption | (simp only [lens]; first | omega | assumption) | (simp [lens]; done) | (simp [lens]; omega)) (by first | omega | assumption | (simp only [lens]; first | omega | assumption) | (simp [lens]; done) | (simp [lens]; omega)) ?_) | ((with_reducible refine gt_load 24 ?_); (first | (refine st_get rfl 24 _ rfl hm rfl 0 rfl one24 (by first | omega | assumption | (simp only [lens]; first | omega | assumption) | (simp [lens]; done) | (simp [lens]; omega)) ?_) | (refine st_get rfl 24 _ rfl hm rfl 1 rfl one24 (by first | omega | assumption | (simp only [lens]; first | omega | assumption) | (simp [lens]; done) | (simp [lens]; omega)) ?_) | (refine st_get rfl 24 _ rfl hm rfl 2 rfl one24 (by first | omega | assumption | (simp only [lens]; first | omega | assumption) | (simp [lens]; done) | (simp [lens]; omega)) ?_) | (refine st_get rfl 24 _ rfl hm rfl 3 rfl one24 (by first | omega | assumption | (simp only [lens]; first | omega | assumption) | (simp [lens]; done) | (simp [lens]; omega)) ?_) | (refine st_get rfl 24 _ rfl hm rfl 4 rfl one24 (by first | omega | assumption | (simp only [lens]; first | omega | assumption) | (simp [lens]; done) | (simp [lens]; omega)) ?_) | (refine st_get rfl 24 _ rfl hm rfl 5 rfl one24 (by first | omega | assumption | (simp only [lens]; first | omega | assumption) | (simp [lens]; done) | (simp [lens]; omega)) ?_))) | ((with_reducible refine gt_field 28 1 ?_); refine st_field rfl 28 _ 1 rfl rfl field28_1 ?_) | ((with_reducible refine gt_elem 26 ?_); refine st_elem rfl 26 _ _ rfl rfl rfl arr26 (by first | omega | assumption | (simp only [lens]; first | omega | assumption) | (simp [lens]; done) | (simp [lens]; omega)) (by first | omega | assumption | (simp only [lens]; first | omega | assumption) | (simp [lens]; done) | (simp [lens]; omega)) ?_))
   | (go_at_call 6; refine (A2Hoist_keeps A1 c1 l' h1 HE1.out _ (Kd.C_below HR'.out (hm.done rfl)) hc').mono ?_; rintro e w3 ⟨Aa, ca, R1, rfl, hca, hR1, ho1, hw1, hb⟩; replace hm := hm.grow hb; rw [hR1] at hm; have HO1 := Aside0.mk ho1; have HW1 := Aside0.mk hw1; have HC1 := Aside0.mk hca; clear hR1 ho1 hw1 hb hca HE1)
   | (go_at_call 6; refine (A2Hoist_keeps A0 c0 l h2 HE2.out _ (Kd.C_below HR.out (hm.done (by simp [HO1.out]))) hc).mono ?_; rintro e w4 ⟨Ab, cb, R2, rfl, hcb, hR2, ho2, hw2, hb⟩; replace hm := hm.grow hb; rw [hR2] at hm; have HO2 := Aside0.mk ho2; have HW2 := Aside0.mk hw2; have HC2 := Aside0.mk hcb; clear hR2 ho2 hw2 hb hcb HE2)
   | ((with_reducible refine gate_dst (N := 47) rfl ?_); refine Kd.R_lit (Kd.int .u8) (w0 := w4) w4.heap.size 5 ?hg (N := 47) ?hd (xs := [7]) (inner := [.int .u8 7]) (ok := fun _ => True) (okp := fun _ => True) ?hr ?hp (fun _ hk => hk) trivial (Below.refl _ _) (Nat.le_refl _) (by simp) ?_; (case hd => rfl); (case hg => rfl); (case hr => first | (go_simp; done) | (go_simp; rfl)); (case hp => exact (Reps.one rfl (Reps.none _ _))); intro v1 w5 ho5 hb5 _ _; have HU := Aside0.mk ho5; have HB5 := Aside0.mk hb5; clear ho5 hb5)
   | ((with_reducible refine gate_builtin (b := .append) (xs := #[.tmp 47, .tmp 48]) rfl ?_); at_builtin; refine Kd.R_append_rows (Kd.int .u8) (w0 := w4) w4.heap.size rfl (.tmp 47) (.tmp 48) 22 5 (.int .u8 0) 1 rfl Tryz.underlying22 infoU8 rfl (by decide) (by omega) v1 [7] l' A1 l'.length c1 (fun _ => True) (fun _ => False) rfl rfl HU.out (Kd.C_below HR'.out ((hm.after HB5.out).done (by simp [HO1.out, HO2.out]))) (fun _ _ h => h) (fun _ h => h.elim) (fun _ _ => trivial) HB5.out HB5.out.size (by have := HLL.out; simp; omega) ?_; intro v2 w6 ho6 hb6 _ _; obtain ⟨A6, c6, rfl⟩ := Kd.R_slice ho6; replace hm := hm.after hb6; have HV := Aside0.mk ho6; clear ho6 hb6 HU HB5)
   | (go_at_call 6; refine (A2Hoist_keeps A6 c6 (7 :: l') h3 HE3.out _ (Kd.R_reads' HV.out).2.2 (Kd.R_reads' HV.out).2.1).mono ?_; rintro e w7 ⟨Ac, cc, R3, rfl, hcc, hR3, ho3, hw3, hb⟩; replace hm := hm.grow hb; rw [hR3] at hm; have HO3 := Aside0.mk ho3; have HW3 := Aside0.mk hw3; have HC3 := Aside0.mk hcc; clear hR3 ho3 hw3 hb hcc HE3 HV)
   | (refine st_lit3V rfl 51 rfl 33 _ _ _ rfl hm rfl rfl rfl Tryz.underlying33 oneHo zeroHo ?_; clear hm; intro g51 w51 hm))
  have HF : Aside0 (∀ W, Held (⟨g51, #[.slice Aa h1.length ca, .slice Ab h2.length cb, .slice Ac h3.length cc], 31, true⟩ :: (R1 ++ R2 ++ R3)) W → Kd.C hk W (some ⟨g51, 0, none⟩) [h1, h2, h3].length [h1, h2, h3]) := ⟨fun W hh => C_three (hh ⟨g51, #[.slice Aa h1.length ca, .slice Ab h2.length cb, .slice Ac h3.length cc], 31, true⟩ (by simp)) HC1.out HC2.out HC3.out (HW1.out W (fun e he => hh e (by simp [he]))) (HW2.out W (fun e he => hh e (by simp [he]))) (HW3.out W (fun e he => hh e (by simp [he])))⟩
  have hLn : [h1, h2, h3].length = 3 := rfl
  have hany := any_of HKS.out (by omega)
  have hnr := needRes_three HKS.out hLn
  have HNI : Aside0 (∀ W, Kd.C hk W (some ⟨g51, 0, none⟩) [h1, h2, h3].length [h1, h2, h3] → Calls Tryz.prog 7 #[.slice (some ⟨g51, 0, none⟩) 3 3] W fun e w' => e = .returned (needRes [h1, h2, h3]) ∧ Below W.heap.size W w') := ⟨fun W h => implNeeded_calls (some ⟨g51, 0, none⟩) 3 [h1, h2, h3] W h (by simp) hany⟩
  have HNS : Aside0 (∀ W, Kd.C hk W (some ⟨g51, 0, none⟩) [h1, h2, h3].length [h1, h2, h3] → Calls Tryz.prog 8 #[.slice (some ⟨g51, 0, none⟩) 3 3] W fun e w' => e = .returned (needRes [h1, h2, h3]) ∧ Below W.heap.size W w') := ⟨fun W h => specNeeded_calls (some ⟨g51, 0, none⟩) 3 [h1, h2, h3] W h (by simp) hany⟩
  have HTX : Aside0 (∀ W, Calls Tryz.prog 10 #[.agg (vals .i16 L)] W fun e w' => e = .returned (.string ⟨(lockT L).toArray⟩) ∧ Below W.heap.size W w') := ⟨fun W => by
   have := implText_calls L W hlL (okL_fits HOK.out)
   rw [if_pos HOK.out] at this
   exact this⟩
  have HRD : Aside0 (∀ W, Below w.heap.size w W → Calls Tryz.prog 9 #[.string ⟨(lockT L).toArray⟩] W fun e w' => e = .returned (.tuple #[.agg (vals .i16 L), .int .i64 0]) ∧ Below W.heap.size W w') := ⟨fun W hb => by
   have := implRead_calls (lockT L) (lockT_len L) W (HD.out W hb)
   rw [readBack hlL HOK.out] at this
   exact this⟩
  have HVL : Aside0 (∀ W, Calls Tryz.prog 11 #[.agg (vals .i16 L)] W fun e w' => e = .returned (.bool true) ∧ Below W.heap.size W w') := ⟨fun W => by
   have := implValid_calls L W hlL (okL_fits HOK.out)
   rw [HOK.out] at this
   exact this⟩
  have hNl : (needs (zs 44) [h1, h2, h3] 3).length = 44 := by rw [needs_length, zs_length]
  have hz44 : (zs 44).length = 44 := zs_length
  rw [hnr] at HNI HNS
  generalize hNE : needs (zs 44) [h1, h2, h3] 3 = N at *
  have HNE := Aside0.mk hNE
  clear hNE
  by_cases hN : okL N = true
  ·rw [if_pos hN] at HNI HNS
   have HN := Aside0.mk hN
   have hboth : okL L = true ∧ okL N = true := ⟨HOK.out, hN⟩
   have hfl : flown L [h1, h2, h3] = 0 := by
    unfold flown
    rw [if_pos HOK.out]
    exact codeH_ok HKS.out (by omega)
   have HCV : Aside0 (∀ W, Calls Tryz.prog 12 #[.agg (vals .i16 L), .agg (vals .i16 N)] W fun e w' => e = .returned (.tuple #[.bool (covB L N), .int .i64 0]) ∧ Below W.heap.size W w') := ⟨fun W => by
    have := implCovers_calls L N W hlL (okL_fits HOK.out) hNl (okL_fits hN)
    rw [if_pos hboth] at this
    exact this⟩
   have HCF : Aside0 (∀ W, Kd.C hk W (some ⟨g51, 0, none⟩) [h1, h2, h3].length [h1, h2, h3] → Calls Tryz.prog 13 #[.agg (vals .i16 L), .slice (some ⟨g51, 0, none⟩) 3 3] W fun e w' => e = .returned (.tuple #[.bool (covB L N), .int .i64 0]) ∧ Below W.heap.size W w') := ⟨fun W h => by
    have := implCan_calls L (some ⟨g51, 0, none⟩) 3 [h1, h2, h3] W hlL (okL_fits HOK.out) h (by simp) hany
    unfold canRes at this
    rw [if_pos hfl, hLn, HNE.out] at this
    exact this⟩
   have HLI0 := fun W => implLeft_calls L N W hlL (okL_fits HOK.out) hNl (okL_fits hN)
   have HLS0 := fun W => specLeft_calls L N W hlL (okL_fits HOK.out) hNl (okL_fits hN)
   have HMI : Aside0 (∀ W, Calls Tryz.prog 16 #[.agg (vals .i16 L), .agg (vals .i16 N)] W fun e w' => e = .returned (.tuple #[.agg (vals .i16 (List.zipWith lack L N)), .int .i64 0]) ∧ Below W.heap.size W w') := ⟨fun W => by
    have := implMissing_calls L N W hlL (okL_fits HOK.out) hNl (okL_fits hN)
    rw [if_pos hboth] at this
    exact this⟩
   have HMS : Aside0 (∀ W, Calls Tryz.prog 17 #[.agg (vals .i16 L), .agg (vals .i16 N)] W fun e w' => e = .returned (.tuple #[.agg (vals .i16 (List.zipWith lack L N)), .int .i64 0]) ∧ Below W.heap.size W w') := ⟨fun W => by
    have := specMissing_calls L N W hlL (okL_fits HOK.out) hNl (okL_fits hN)
    rw [if_pos hboth] at this
    exact this⟩
   have HCT : Aside0 (∀ W, Calls Tryz.prog 18 #[.agg (vals .i16 N)] W fun e w' => e = .returned (.tuple #[.int .i64 (cns [h1, h2, h3] 3), .int .i64 0]) ∧ Below W.heap.size W w') := ⟨fun W => by
    have := count_three [h1, h2, h3] HKS.out rfl (by rw [HNE.out]; exact hN) W
    rw [HNE.out] at this
    exact this⟩
   have hzl : (List.zipWith lack L N).length = 44 := zip_length lack L N hlL hNl
   have hxl : (List.zipWith left2 L N).length = 44 := zip_length left2 L N hlL hNl
   have hmm : Mem w w51 (⟨g51, #[.slice Aa h1.length ca, .slice Ab h2.length cb, .slice Ac h3.length cc], 31, true⟩ :: ([⟨g5, vals .i16 L, 28, true⟩] ++ R1 ++ R2 ++ R3)) := hm
   clear hm
   have hm := hmm
   clear hmm
   have HLZ := Aside0.mk (lack_zs hlL hNl)
   obtain ⟨cov, X, c5, hcase, hcovE, hLR, hxl, hXL⟩ := left_of hlL hNl hboth
   rw [hLR] at HLI0 HLS0
   rw [hcovE] at HCV HCF HLZ
   have HAT := Aside0.mk (stock_at HOK.out hN hlL hNl hcovE hXL)
   have HGR := Aside0.mk (stock_ground (L := L) (hs := [h1, h2, h3]) (cov := cov) HOK.out hlL HKS.out rfl (by rw [HNE.out]; exact hcovE))
   have HFI : Aside0 (∀ W, Kd.C hk W (some ⟨g51, 0, none⟩) [h1, h2, h3].length [h1, h2, h3] → Calls Tryz.prog 19 #[.agg (vals .i16 L), .slice (some ⟨g51, 0, none⟩) 3 3] W fun e w' => e = .returned (firstRes L [h1, h2, h3]) ∧ Below W.heap.size W w') := ⟨fun W h => implFirst_calls L (some ⟨g51, 0, none⟩) 3 [h1, h2, h3] W hlL (okL_fits HOK.out) h (by simp) hany⟩
   have HCT2 : Aside0 (∀ (n : Nat) W, n ≤ 3 → Kd.C hk W (some ⟨g51, 0, none⟩) [h1, h2, h3].length [h1, h2, h3] → Calls Tryz.prog 13 #[.agg (vals .i16 L), .slice (some ⟨g51, 0, none⟩) n 3] W fun e w' => e = .returned (canRes L ([h1, h2, h3].take n)) ∧ Below W.heap.size W w') := ⟨fun n W hn h => by
    have hl3 : [h1, h2, h3].length = 3 := rfl
    have hl : ([h1, h2, h3].take n).length = n := by rw [List.length_take]; omega
    have := implCan_calls L (some ⟨g51, 0, none⟩) 3 ([h1, h2, h3].take n) W hlL (okL_fits HOK.out) (by rw [hl]; exact C_take h n (by omega)) (by omega) (any_of (fun x hx => HKS.out x (List.mem_of_mem_take hx)) (by rw [hl]; omega))
    rw [hl] at this
    exact this⟩
   have HLI := Aside0.mk HLI0
   have HLS := Aside0.mk HLS0
   clear hN hnr hLn hany hboth hfl hLR hXL hcovE HLI0 HLS0
   go_wp2_with (first
    | (go_at_call 7; refine (HNI.out _ (HF.out _ (hm.held (by simp +contextual)))).mono ?_; rintro e w8 ⟨rfl, hb⟩; replace hm := hm.after hb; clear hb)
    | (go_at_call 8; refine (HNS.out _ (HF.out _ (hm.held (by simp +contextual)))).mono ?_; rintro e w9 ⟨rfl, hb⟩; replace hm := hm.after hb; clear hb)
    | (go_at_call 10; refine (HTX.out _).mono ?_; rintro e w10 ⟨rfl, hb⟩; replace hm := hm.after hb; clear hb)
    | (go_at_call 9; refine (HRD.out _ (hm.done (by simp [HO1.out, HO2.out, HO3.out]))).mono ?_; rintro e w11 ⟨rfl, hb⟩; replace hm := hm.after hb; clear hb)
    | (first | fail | ((with_reducible refine gt_alloc 5 28 ?_); refine st_alloc rfl 5 rfl 28 rfl hm zero28 ?_; clear hm; intro g5 w5 hm) | ((with_reducible refine gt_store 28 ?_); (first | (refine st_full rfl 28 _ _ rfl hm rfl rfl 0 rfl agg28 (by first | omega | assumption | (simp only [lens]; first | omega | assumption) | (simp [lens]; done) | (simp [lens]; omega)) (by first | omega | assumption | (simp only [lens]; first | omega | assumption) | (simp [lens]; done) | (simp [lens]; omega)) ?_) | (refine st_full rfl 28 _ _ rfl hm rfl rfl 1 rfl agg28 (by first | omega | assumption | (simp only [lens]; first | omega | assumption) | (simp [lens]; done) | (simp [lens]; omega)) (by first | omega | assumption | (simp only [lens]; first | omega | assumption) | (simp [lens]; done) | (simp [lens]; omega)) ?_) | (refine st_full rfl 28 _ _ rfl hm rfl rfl 2 rfl agg28 (by first | omega | assumption | (simp only [lens]; first | omega | assumption) | (simp [lens]; done) | (simp [lens]; omega)) (by first | omega | assumption | (simp only [lens]; first | omega | assumption) | (simp [lens]; done) | (simp [lens]; omega)) ?_) | (refine st_full rfl 28 _ _ rfl hm rfl rfl 3 rfl agg28 (by first | omega | assumption | (simp only [lens]; first | omega | assumption) | (simp [lens]; done) | (simp [lens]; omega)) (by first | omega | assumption | (simp only [lens]; first | omega | assumption) | (simp [lens]; done) | (simp [lens]; omega)) ?_) | (refine st_full rfl 28 _ _ rfl hm rfl rfl 4 rfl agg28 (by first | omega | assumption | (simp only [lens]; first | omega | assumption) | (simp [lens]; done) | (simp [lens]; omega)) (by first | omega | assumption | (simp only [lens]; first | omega | assumption) | (simp [lens]; done) | (simp [lens]; omega)) ?_) | (refine st_full rfl 28 _ _ rfl hm rfl rfl 5 rfl agg28 (by first | omega | assumption | (simp only [lens]; first | omega | assumption) | (simp [lens]; done) | (simp [lens]; omega)) (by first | omega | assumption | (simp only [lens]; first | omega | assumption) | (simp [lens]; done) | (simp [lens]; omega)) ?_)); clear hm; intro ws hm; simp only [List.set_cons_zero, List.set_cons_succ] at hm) | ((with_reducible refine gt_alloc 7 28 ?_); refine st_alloc rfl 7 rfl 28 rfl hm zero28 ?_; clear hm; intro g7 w7 hm) | ((with_reducible refine gt_alloc 9 28 ?_); refine st_alloc rfl 9 rfl 28 rfl hm zero28 ?_; clear hm; intro g9 w9 hm) | ((with_reducible refine gt_load 28 ?_); (first | (refine st_load rfl 28 _ rfl hm rfl 0 rfl agg28 (by first | omega | assumption | (simp only [lens]; first | omega | assumption) | (simp [lens]; done) | (simp [lens]; omega)) ?_) | (refine st_load rfl 28 _ rfl hm rfl 1 rfl agg28 (by first | omega | assumption | (simp only [lens]; first | omega | assumption) | (simp [lens]; done) | (simp [lens]; omega)) ?_) | (refine st_load rfl 28 _ rfl hm rfl 2 rfl agg28 (by first | omega | assumption | (simp only [lens]; first | omega | assumption) | (simp [lens]; done) | (simp [lens]; omega)) ?_) | (refine st_load rfl 28 _ rfl hm rfl 3 rfl agg28 (by first | omega | assumption | (simp only [lens]; first | omega | assumption) | (simp [lens]; done) | (simp [lens]; omega)) ?_) | (refine st_load rfl 28 _ rfl hm rfl 4 rfl agg28 (by first | omega | assumption | (simp only [lens]; first | omega | assumption) | (simp [lens]; done) | (simp [lens]; omega)) ?_) | (refine st_load rfl 28 _ rfl hm rfl 5 rfl agg28 (by first | omega | assumption | (simp only [lens]; first | omega | assumption) | (simp [lens]; done) | (simp [lens]; omega)) ?_))) | ((with_reducible refine gt_alloc 11 28 ?_); refine st_alloc rfl 11 rfl 28 rfl hm zero28 ?_; clear hm; intro g11 w11 hm) | ((with_reducible refine gt_alloc 17 28 ?_); refine st_alloc rfl 17 rfl 28 rfl hm zero28 ?_; clear hm; intro g17 w17 hm) | ((with_reducible refine gt_alloc 19 28 ?_); refine st_alloc rfl 19 rfl 28 rfl hm zero28 ?_; clear hm; intro g19 w19 hm) | ((with_reducible refine gt_alloc 21 28 ?_); refine st_alloc rfl 21 rfl 28 rfl hm zero28 ?_; clear hm; intro g21 w21 hm) | ((with_reducible refine gt_alloc 23 28 ?_); refine st_alloc rfl 23 rfl 28 rfl hm zero28 ?_; clear hm; intro g23 w23 hm) | ((with_reducible refine gt_load 45 ?_); (first | (refine st_get rfl 45 _ rfl hm rfl 0 rfl one45 (by first | omega | assumption | (simp only [lens]; first | omega | assumption) | (simp [lens]; done) | (simp [lens]; omega)) ?_) | (refine st_get rfl 45 _ rfl hm rfl 1 rfl one45 (by first | omega | assumption | (simp only [lens]; first | omega | assumption) | (simp [lens]; done) | (simp [lens]; omega)) ?_) | (refine st_get rfl 45 _ rfl hm rfl 2 rfl one45 (by first | omega | assumption | (simp only [lens]; first | omega | assumption) | (simp [lens]; done) | (simp [lens]; omega)) ?_) | (refine st_get rfl 45 _ rfl hm rfl 3 rfl one45 (by first | omega | assumption | (simp only [lens]; first | omega | assumption) | (simp [lens]; done) | (simp [lens]; omega)) ?_) | (refine st_get rfl 45 _ rfl hm rfl 4 rfl one45 (by first | omega | assumption | (simp only [lens]; first | omega | assumption) | (simp [lens]; done) | (simp [lens]; omega)) ?_) | (refine st_get rfl 45 _ rfl hm rfl 5 rfl one45 (by first | omega | assumption | (simp only [lens]; first | omega | assumption) | (simp [lens]; done) | (simp [lens]; omega)) ?_))) | ((with_reducible refine gt_build 28 ?_); refine st_zero rfl 28 rfl built28 ?_) | ((with_reducible refine gt_field 28 0 ?_); refine st_field rfl 28 _ 0 rfl rfl field28_0 ?_) | ((with_reducible refine gt_elem 25 ?_); refine st_elem rfl 25 _ _ rfl rfl rfl arr25 (by first | omega | assumption | (simp only [lens]; first | omega | assumption) | (simp [lens]; done) | (simp [lens]; omega)) (by first | omega | assumption | (simp only [lens]; first | omega | assumption) | (simp [lens]; done) | (simp [lens]; omega)) ?_) | ((with_reducible refine gt_load 24 ?_); (first | (refine st_get rfl 24 _ rfl hm rfl 0 rfl one24 (by first | omega | assumption | (simp only [lens]; first | omega | assumption) | (simp [lens]; done) | (simp [lens]; omega)) ?_) | (refine st_get rfl 24 _ rfl hm rfl 1 rfl one24 (by first | omega | assumption | (simp only [lens]; first | omega | assumption) | (simp [lens]; done) | (simp [lens]; omega)) ?_) | (refine st_get rfl 24 _ rfl hm rfl 2 rfl one24 (by first | omega | assumption | (simp only [lens]; first | omega | assumption) | (simp [lens]; done) | (simp [lens]; omega)) ?_) | (refine st_get rfl 24 _ rfl hm rfl 3 rfl one24 (by first | omega | assumption | (simp only [lens]; first | omega | assumption) | (simp [lens]; done) | (simp [lens]; omega)) ?_) | (refine st_get rfl 24 _ rfl hm rfl 4 rfl one24 (by first | omega | assumption | (simp only [lens]; first | omega | assumption) | (simp [lens]; done) | (simp [lens]; omega)) ?_) | (refine st_get rfl 24 _ rfl hm rfl 5 rfl one24 (by first | omega | assumption | (simp only [lens]; first | omega | assumption) | (simp [lens]; done) | (simp [lens]; omega)) ?_))) | ((with_reducible refine gt_field 28 1 ?_); refine st_field rfl 28 _ 1 rfl rfl field28_1 ?_) | ((with_reducible refine gt_elem 26 ?_); refine st_elem rfl 26 _ _ rfl rfl rfl arr26 (by first | omega | assumption | (simp only [lens]; first | omega | assumption) | (simp [lens]; done) | (simp [lens]; omega)) (by first | omega | assumption | (simp only [lens]; first | omega | assumption) | (simp [lens]; done) | (simp [lens]; omega)) ?_))
    | (refine gate_guard (by rfl) ?_; refine st_load rfl 28 _ rfl hm rfl 0 rfl agg28 hlL ?_)
    | (refine gate_guard (by rfl) ?_; refine st_load rfl 28 _ rfl hm rfl 1 rfl agg28 hNl ?_)
    | (refine gate_guard (by rfl) ?_; refine st_load rfl 28 _ rfl hm rfl 2 rfl agg28 hNl ?_)
    | (refine gate_guard (by rfl) ?_; refine st_load rfl 28 _ rfl hm rfl 4 rfl agg28 hlL ?_)
    | (refine gate_guard (by rfl) ?_; refine st_neqS rfl 28 _ _ _ rfl rfl rfl eqLk hNl ?_)
    | (refine gate_guard (by rfl) ?_; refine st_neqS rfl 28 _ _ _ rfl rfl rfl eqLk hlL ?_)
    | (go_at_call 11; refine (HVL.out _).mono ?_; rintro e w12 ⟨rfl, hb⟩; replace hm := hm.after hb; clear hb)
    | ((with_reducible refine gt_load 28 ?_); refine st_load rfl 28 _ rfl hm rfl 5 rfl agg28 hlL ?_)
    | ((with_reducible refine gt_load 28 ?_); refine st_load rfl 28 _ rfl hm rfl 6 rfl agg28 hlL ?_)
    | ((with_reducible refine gt_load 28 ?_); refine st_load rfl 28 _ rfl hm rfl 7 rfl agg28 hlL ?_)
    | ((with_reducible refine gt_load 28 ?_); refine st_load rfl 28 _ rfl hm rfl 8 rfl agg28 hlL ?_)
    | ((with_reducible refine gt_load 28 ?_); refine st_load rfl 28 _ rfl hm rfl 4 rfl agg28 hNl ?_)
    | ((with_reducible refine gt_load 28 ?_); refine st_load rfl 28 _ rfl hm rfl 5 rfl agg28 hNl ?_)
    | ((with_reducible refine gt_load 28 ?_); refine st_load rfl 28 _ rfl hm rfl 6 rfl agg28 hNl ?_)
    | (go_at_call 12; refine (HCV.out _).mono ?_; rintro e w13 ⟨rfl, hb⟩; replace hm := hm.after hb; clear hb)
    | (go_at_call 13; refine (HCF.out _ (HF.out _ (hm.held (by simp +contextual)))).mono ?_; rintro e w14 ⟨rfl, hb⟩; replace hm := hm.after hb; clear hb)
    | (go_at_call 14; refine (HLI.out _).mono ?_; rintro e w15 ⟨rfl, hb⟩; replace hm := hm.after hb; clear hb)
    | (go_at_call 15; refine (HLS.out _).mono ?_; rintro e w16 ⟨rfl, hb⟩; replace hm := hm.after hb; clear hb)
    | (go_at_call 16; refine (HMI.out _).mono ?_; rintro e w17 ⟨rfl, hb⟩; replace hm := hm.after hb; clear hb)
    | (go_at_call 17; refine (HMS.out _).mono ?_; rintro e w18 ⟨rfl, hb⟩; replace hm := hm.after hb; clear hb)
    | (go_at_call 18; refine (HCT.out _).mono ?_; rintro e w19 ⟨rfl, hb⟩; replace hm := hm.after hb; clear hb))
   obtain ⟨M0, hM0, hm0⟩ : ∃ M0, M0 = _ ∧ Mem w _ M0 := ⟨_, rfl, hm⟩
   clear hm
   have HP : Aside0 (M0[0]? = some ⟨g23, vals .i16 (List.zipWith lack L N), 28, true⟩ ∧ M0[1]? = some ⟨g21, vals .i16 (List.zipWith lack L N), 28, true⟩ ∧ M0[2]? = some ⟨g19, vals .i16 X, 28, true⟩ ∧ M0[3]? = some ⟨g17, vals .i16 X, 28, true⟩ ∧ M0[5]? = some ⟨g9, vals .i16 N, 28, true⟩ ∧ M0[8]? = some ⟨g5, vals .i16 L, 28, true⟩ ∧ M0.all (·.own) = true) := ⟨by rw [hM0]; exact ⟨rfl, rfl, rfl, rfl, rfl, rfl, by simp [HO1.out, HO2.out, HO3.out]⟩⟩
   have HH0 : Aside0 (∀ W, Mem w W M0 → Kd.C hk W (some ⟨g51, 0, none⟩) [h1, h2, h3].length [h1, h2, h3]) := ⟨fun W h => HF.out W (h.held (by rw [hM0]; simp +contextual))⟩
   have HH1 : Aside0 (∀ W, Mem w W M0 → Kd.C (Kd.int .i8) W Aa h1.length h1) := ⟨fun W h => HW1.out W (h.held (by rw [hM0]; simp +contextual))⟩
   have HH2 : Aside0 (∀ W, Mem w W M0 → Kd.C (Kd.int .i8) W Ab h2.length h2) := ⟨fun W h => HW2.out W (h.held (by rw [hM0]; simp +contextual))⟩
   have HH3 : Aside0 (∀ W, Mem w W M0 → Kd.C (Kd.int .i8) W Ac h3.length h3) := ⟨fun W h => HW3.out W (h.held (by rw [hM0]; simp +contextual))⟩
   have HTA := Aside0.mk (fun i hi => three_at (k := 7) (by rw [hM0]; rfl) HC1.out HC2.out HC3.out HH1.out HH2.out HH3.out i hi)
   clear hM0
   go_loopw [27, 28] (fun v27 v28 wr => ∃ i : Nat, i ≤ 3 ∧ v27 = .int .i64 (cns [h1, h2, h3] i) ∧ v28 = .int .i64 i ∧ Mem w wr M0) (fun _ v28 _ => 3 - (intOf v28).toNat)
   case atStart => exact ⟨0, by omega, rfl, rfl, hm0⟩
   case round =>
    clear hm0
    obtain ⟨i, hi, rfl, rfl, hm⟩ := hrel
    by_cases hlt : i < 3
    ·obtain ⟨A, c, x, hx, hxm, hlx, hcell, hC⟩ := HTA.out i hlt
     have HS := Aside0.mk (show cns [h1, h2, h3] (i + 1) = cns [h1, h2, h3] i + cn x x.length by rw [cns, ← hx])
     have H8 := (okH_len (HKS.out x hxm)).2
     have HB0 := cns_le [h1, h2, h3] (fun h hh => (okH_len (HKS.out h hh)).2) i (by simp; omega)
     have HCE := Aside0.mk hcell
     have HCX := Aside0.mk hC
     have hc1 := hcell _ hm
     clear hx hxm hcell hC
     generalize cns [h1, h2, h3] i = s0 at *
     go_wp2_with fail
     go_loopw [27, 29] (fun v27 v29 wr => ∃ k : Nat, k ≤ x.length ∧ v27 = .int .i64 (s0 + cn x k) ∧ v29 = .int .i64 k ∧ Mem w wr M0) (fun _ v29 _ => x.length - (intOf v29).toNat)
     case atStart => exact ⟨0, by omega, by simp [cn], rfl, hm⟩
     case round =>
      clear hm hc1
      obtain ⟨k, hk, rfl, rfl, hm⟩ := hrel
      have hc1 := HCE.out _ hm
      have hcb := cn_le x k
      by_cases hlk : k < x.length
      ·obtain ⟨ad, rfl, hcx⟩ := Kd.at_int (HCX.out _ hm) (k : Int) (by omega) (by omega)
       try rw [Int.toNat_natCast] at hcx
       have HM := Aside0.mk hm
       by_cases h10 : rd x (k : Int) = -10
       ·have HCN := Aside0.mk (show cn x (k + 1) = cn x k by rw [cn, if_pos h10, Int.add_zero])
        rw [h10] at hcx
        clear hm
        go_wp2_with fail
        go_roundw
        case rel => exact ⟨k + 1, by omega, by rw [HCN.out], by go_num, HM.out⟩
        case measure => simp [intOf]; omega
       ·have HCN := Aside0.mk (show cn x (k + 1) = cn x k + 1 by rw [cn, if_neg h10])
        clear hm
        generalize rd x (k : Int) = y at *
        generalize cn x k = q at *
        go_wp2_with fail
        go_roundw
        case rel => exact ⟨k + 1, by omega, by rw [HCN.out]; go_num, by go_num, HM.out⟩
        case measure => simp [intOf]; omega
      ·have HKX := Aside0.mk (show k = x.length by omega)
       have HM := Aside0.mk hm
       clear hm
       go_wp2_with fail
       go_roundw
       case rel => exact ⟨i + 1, by omega, by rw [HS.out, HKX.out], by go_num, HM.out⟩
       case measure => simp [intOf]; omega
    ·have HI := Aside0.mk (show i = 3 by omega)
     rw [show cns [h1, h2, h3] i = cns [h1, h2, h3] 3 by rw [HI.out]]
     generalize cns [h1, h2, h3] 3 = q at *
     rcases hcase with ⟨rfl, rfl⟩ | ⟨rfl, rfl⟩
     all_goals
      go_wp2_with (first
       | (refine gate_guard (by rfl) ?_; refine st_load rfl 28 _ rfl hm rfl 3 HP.out.2.2.2.1 agg28 hxl ?_)
       | (refine gate_guard (by rfl) ?_; refine st_load rfl 28 _ rfl hm rfl 2 HP.out.2.2.1 agg28 hxl ?_)
       | (refine gate_guard (by rfl) ?_; refine st_load rfl 28 _ rfl hm rfl 1 HP.out.2.1 agg28 hzl ?_)
       | (refine gate_guard (by rfl) ?_; refine st_load rfl 28 _ rfl hm rfl 0 HP.out.1 agg28 hzl ?_)
       | (refine gate_guard (by rfl) ?_; refine st_neqS rfl 28 _ _ _ rfl rfl rfl eqLk hxl ?_)
       | (refine gate_guard (by rfl) ?_; refine st_neqS rfl 28 _ _ _ rfl rfl rfl eqLk hzl ?_)
       | (refine gate_guard (by rfl) ?_; refine st_zero rfl 28 rfl built28 ?_)
       | (refine gate_guard (by rfl) ?_; refine st_eql rfl 28 _ _ _ rfl rfl rfl eqLk hzl hz44 ?_; rw [HLZ.out]))
      go_loopw [30] (fun v30 wr => ∃ i4 : Nat, i4 ≤ 40 ∧ v30 = .int .i64 i4 ∧ Mem w wr M0) (fun v30 _ => 40 - (intOf v30).toNat)
      case atStart => exact ⟨0, by omega, rfl, hm⟩
      case round =>
       clear hm
       obtain ⟨i4, hi4, rfl, hm⟩ := hrel
       by_cases hlti4 : i4 < 40
       ·obtain ⟨hL0, hN0, hS0, hSN, hXX⟩ := HAT.out (i4) (by omega)
        have hc1 := hm.get HP.out.1 (i4) (by rw [hzl]; omega)
        have hc2 := hm.get HP.out.2.2.1 (i4) (by rw [hxl]; omega)
        have hc3 := hm.get HP.out.2.2.2.2.1 (i4) (by rw [hNl]; omega)
        have hc4 := hm.get HP.out.2.2.2.2.2.1 (i4) (by rw [hlL]; omega)
        have HM := Aside0.mk hm
        clear hm
        generalize rd L ((i4 : Nat) : Int) = yl at *
        generalize rd N ((i4 : Nat) : Int) = yn at *
        generalize rd X ((i4 : Nat) : Int) = yx at *
        generalize rd (List.zipWith lack L N) ((i4 : Nat) : Int) = ys at *
        have hd1 : decide (yl + ys < yn) = false := by simp; omega
        try (have hx0 := hXX trivial; obtain ⟨hX0, hx4⟩ := hx0; have hd4 := hx4.symm; clear hx4)
        clear hXX
        go_wp2
        repeat (go_quiet (fail); try go_wp2)
        go_roundw
        case rel => exact ⟨i4 + 1, by omega, by go_num, HM.out.drawn _⟩
        case measure => simp [intOf]; omega
       ·go_wp2_with fail
        go_loopw [31] (fun v31 wr => ∃ i5 : Nat, i5 ≤ 4 ∧ v31 = .int .i64 i5 ∧ Mem w wr M0) (fun v31 _ => 4 - (intOf v31).toNat)
        case atStart => exact ⟨0, by omega, rfl, hm⟩
        case round =>
         clear hm
         obtain ⟨i5, hi5, rfl, hm⟩ := hrel
         by_cases hlti5 : i5 < 4
         ·obtain ⟨hL0, hN0, hS0, hSN, hXX⟩ := HAT.out (40 + i5) (by omega)
          have hc1 := hm.get HP.out.1 (40 + i5) (by rw [hzl]; omega)
          have hc2 := hm.get HP.out.2.2.1 (40 + i5) (by rw [hxl]; omega)
          have hc3 := hm.get HP.out.2.2.2.2.1 (40 + i5) (by rw [hNl]; omega)
          have hc4 := hm.get HP.out.2.2.2.2.2.1 (40 + i5) (by rw [hlL]; omega)
          have HM := Aside0.mk hm
          clear hm
          generalize rd L ((40 + i5 : Nat) : Int) = yl at *
          generalize rd N ((40 + i5 : Nat) : Int) = yn at *
          generalize rd X ((40 + i5 : Nat) : Int) = yx at *
          generalize rd (List.zipWith lack L N) ((40 + i5 : Nat) : Int) = ys at *
          have hd1 : decide (yl + ys < yn) = false := by simp; omega
          try (have hx0 := hXX trivial; obtain ⟨hX0, hx4⟩ := hx0; have hd4 := hx4.symm; clear hx4)
          clear hXX
          go_wp2
          repeat (go_quiet (fail); try go_wp2)
          go_roundw
          case rel => exact ⟨i5 + 1, by omega, by go_num, HM.out.drawn _⟩
          case measure => simp [intOf]; omega
         ·rcases HGR.out with ⟨hg, ht⟩ | ⟨at3, hat, hg, hca, hcb⟩
          ·rw [hg] at HFI
           have HT := Aside0.mk ht
           clear ht
           go_wp2_with (first
            | ((with_reducible refine gt_load 28 ?_); refine st_load rfl 28 _ rfl hm rfl 8 HP.out.2.2.2.2.2.1 agg28 hlL ?_)
            | (go_at_call 19; refine (HFI.out _ (HH0.out _ hm)).mono ?_; rintro e w20 ⟨rfl, hb⟩; replace hm := hm.after hb; clear hb))
           go_ret
           exact ⟨by first | rfl | exact absurd HT.out (by decide), hm.done HP.out.2.2.2.2.2.2⟩
          ·rw [hg] at HFI
           obtain ⟨hs1, hs2, hs3, hn2, hn1⟩ := next3 hat
           have HN1 := Aside0.mk hn1
           have HN2 := Aside0.mk hn2
           clear hn1 hn2
           go_wp2_with (first
            | ((with_reducible refine gt_load 28 ?_); refine st_load rfl 28 _ rfl hm rfl 8 HP.out.2.2.2.2.2.1 agg28 hlL ?_)
            | (go_at_call 19; refine (HFI.out _ (HH0.out _ hm)).mono ?_; rintro e w20 ⟨rfl, hb⟩; replace hm := hm.after hb; clear hb))
           obtain ⟨n1, hn1, hw3, hle2, hle4⟩ := HN1.out
           rw [← hn1] at hcb
           clear hn1
           obtain ⟨hle1, hle3⟩ := HN2.out
           have HM := Aside0.mk hm
           clear hm
           refine start_ (n := 10) (S := fun w' => Mem w w' M0) (ds := []) #[false, false, false, false, false, false, false, false, false, false] (by kernel_rfl) rfl rfl ((HM.out.drawn _)) (fun hHeld => ?_)
           refine pure_ (i := 1) (N := some 314) (v := ?_) (a' := ?_) #[false, true, false, false, false, false, false, false, false, false] rfl rfl (by kernel_rfl) (fun _ _ _ h => h) (Or.inl ⟨by rfl, ?_⟩) ?_ ?_
           rotate_left
           ·intro w'
            go_simp
            with_reducible rfl
           rotate_left
           ·simp only [Act.put, List.setIfInBounds_toArray, List.set_cons_zero, List.set_cons_succ, i64_w, i32_w]
            rfl
           refine pure_ (i := 2) (N := some 315) (v := ?_) (a' := ?_) #[false, true, true, false, false, false, false, false, false, false] rfl rfl (by kernel_rfl) (fun _ _ _ h => h) (Or.inl ⟨by rfl, ?_⟩) ?_ ?_
           rotate_left
           ·intro w'
            go_simp
            with_reducible rfl
           rotate_left
           ·simp only [Act.put, List.setIfInBounds_toArray, List.set_cons_zero, List.set_cons_succ, i64_w, i32_w]
            rfl
           refine take_ (i := 0) (N := some 313) (v := .agg (vals .i16 L)) (a' := ?_) #[true, true, true, false, false, false, false, false, false, false] rfl rfl (by kernel_rfl) (fun _ _ _ h => h) (Or.inl ⟨by rfl, ?_⟩) hHeld ?_ ?_
           ·intro w' s0
            exact y_load (by rfl) (by rfl) 8 HP.out.2.2.2.2.2.1 agg28 hlL w' s0
           rotate_left
           ·simp only [Act.put, List.setIfInBounds_toArray, List.set_cons_zero, List.set_cons_succ, i64_w, i32_w]
            rfl
           refine take_ (i := 3) (N := some 316) (v := .slice (some ⟨g51, 0, none⟩) at3 3) (a' := ?_) #[true, true, true, true, false, false, false, false, false, false] rfl rfl (by kernel_rfl) (fun _ _ _ h => h) (Or.inl ⟨by rfl, ?_⟩) hHeld ?_ ?_
           ·intro w' s0
            exact (by go_simp; first | done | (intro h; exact absurd h (Int.not_lt.2 hle1)))
           rotate_left
           ·simp only [Act.put, List.setIfInBounds_toArray, List.set_cons_zero, List.set_cons_succ, i64_w, i32_w]
            rfl
           refine one_ (i := 4) (N := some 317) #[true, true, true, true, true, false, false, false, false, false] rfl rfl (by kernel_rfl) (by decide) (fun K hK => ?_)
           refine goes_ Tryz.func13 (by kernel_rfl) rfl #[.agg (vals .i16 L), .slice (some ⟨g51, 0, none⟩) at3 3] (by rfl) rfl rfl (by simp only [List.map_toArray, List.map_cons, List.map_nil]; rfl) ?_
           refine (HCT2.out at3 _ hle3 (HH0.out _ hHeld)).mono ?_
           rintro e w21 ⟨rfl, hb⟩
           rw [hca]
           refine ⟨_, rfl, ?_⟩
           refine hK.out _ _ (Mem.after hHeld hb) (fun hHeld => ?_)
           clear hK K
           refine norm_ (a' := ?_) ?_ ?_
           rotate_left
           ·show Act.put _ (some 317) _ = _
            simp only [Act.put, List.setIfInBounds_toArray, List.set_cons_zero, List.set_cons_succ, i64_w, i32_w]
            rfl
           refine pure_ (i := 5) (N := some 312) (v := ?_) (a' := ?_) #[true, true, true, true, true, true, false, false, false, false] rfl rfl (by kernel_rfl) (fun _ _ _ h => h) (Or.inl ⟨by rfl, ?_⟩) ?_ ?_
           rotate_left
           ·intro w'
            go_simp
            with_reducible rfl
           rotate_left
           ·simp only [Act.put, List.setIfInBounds_toArray, List.set_cons_zero, List.set_cons_succ, i64_w, i32_w]
            rfl
           refine pure_ (i := 6) (N := some 318) (v := ?_) (a' := ?_) #[true, true, true, true, true, true, true, false, false, false] rfl rfl (by kernel_rfl) (fun _ _ _ h => h) (Or.inl ⟨by rfl, ?_⟩) ?_ ?_
           rotate_left
           ·intro w'
            go_simp
            with_reducible rfl
           rotate_left
           ·simp only [Act.put, List.setIfInBounds_toArray, List.set_cons_zero, List.set_cons_succ, i64_w, i32_w]
            rfl
           refine pure_ (i := 7) (N := some 319) (v := ?_) (a' := ?_) #[true, true, true, true, true, true, true, true, false, false] rfl rfl (by kernel_rfl) (fun _ _ _ h => h) (Or.inl ⟨by rfl, ?_⟩) ?_ ?_
           rotate_left
           ·intro w'
            go_simp
            with_reducible rfl
           rotate_left
           ·simp only [Act.put, List.setIfInBounds_toArray, List.set_cons_zero, List.set_cons_succ, i64_w, i32_w]
            rfl
           refine pure_ (i := 8) (N := some 34) (v := ?_) (a' := ?_) #[true, true, true, true, true, true, true, true, true, false] rfl rfl (by kernel_rfl) (fun _ _ _ h => h) (Or.inl ⟨by rfl, ?_⟩) ?_ ?_
           rotate_left
           ·intro w'
            go_simp
            with_reducible rfl
           rotate_left
           ·simp only [Act.put, List.setIfInBounds_toArray, List.set_cons_zero, List.set_cons_succ, i64_w, i32_w]
            rfl
           refine pure_ (i := 9) (N := some 35) (v := ?_) (a' := ?_) #[true, true, true, true, true, true, true, true, true, true] rfl rfl (by kernel_rfl) (fun _ _ _ h => h) (Or.inl ⟨by rfl, ?_⟩) ?_ ?_
           rotate_left
           ·intro w'
            go_simp
            with_reducible rfl
           rotate_left
           ·simp only [Act.put, List.setIfInBounds_toArray, List.set_cons_zero, List.set_cons_succ, i64_w, i32_w]
            rfl
           refine done_ (by kernel_rfl) ?_
           skip
           have HM2 := Aside0.mk hHeld
           clear HM hHeld
           have HM := HM2
           clear HM2
           go_wp2_with fail
           refine start_ (n := 11) (S := fun w' => Mem w w' M0) (ds := []) #[false, false, false, false, false, false, false, false, false, false, false] (by kernel_rfl) rfl rfl ((HM.out.drawn _)) (fun hHeld => ?_)
           refine pure_ (i := 1) (N := some 322) (v := ?_) (a' := ?_) #[false, true, false, false, false, false, false, false, false, false, false] rfl rfl (by kernel_rfl) (fun _ _ _ h => h) (Or.inl ⟨by rfl, ?_⟩) ?_ ?_
           rotate_left
           ·intro w'
            go_simp
            with_reducible rfl
           rotate_left
           ·simp only [Act.put, List.setIfInBounds_toArray, List.set_cons_zero, List.set_cons_succ, i64_w, i32_w]
            rfl
           refine pure_ (i := 2) (N := some 323) (v := ?_) (a' := ?_) #[false, true, true, false, false, false, false, false, false, false, false] rfl rfl (by kernel_rfl) (fun _ _ _ h => h) (Or.inl ⟨by rfl, ?_⟩) ?_ ?_
           rotate_left
           ·intro w'
            go_simp
            with_reducible rfl
           rotate_left
           ·simp only [Act.put, List.setIfInBounds_toArray, List.set_cons_zero, List.set_cons_succ, i64_w, i32_w]
            rfl
           refine take_ (i := 0) (N := some 321) (v := .agg (vals .i16 L)) (a' := ?_) #[true, true, true, false, false, false, false, false, false, false, false] rfl rfl (by kernel_rfl) (fun _ _ _ h => h) (Or.inl ⟨by rfl, ?_⟩) hHeld ?_ ?_
           ·intro w' s0
            exact y_load (by rfl) (by rfl) 8 HP.out.2.2.2.2.2.1 agg28 hlL w' s0
           rotate_left
           ·simp only [Act.put, List.setIfInBounds_toArray, List.set_cons_zero, List.set_cons_succ, i64_w, i32_w]
            rfl
           refine take_ (i := 3) (N := some 324) (v := .int .i64 (n1 : Int)) (a' := ?_) #[true, true, true, true, false, false, false, false, false, false, false] rfl rfl (by kernel_rfl) (fun _ _ _ h => h) (Or.inl ⟨by rfl, ?_⟩) hHeld ?_ ?_
           ·intro w' s0
            exact (by go_simp; first | done | exact hw3)
           rotate_left
           ·simp only [Act.put, List.setIfInBounds_toArray, List.set_cons_zero, List.set_cons_succ, i64_w, i32_w]
            rfl
           refine take_ (i := 4) (N := some 325) (v := .slice (some ⟨g51, 0, none⟩) n1 3) (a' := ?_) #[true, true, true, true, true, false, false, false, false, false, false] rfl rfl (by kernel_rfl) (fun _ _ _ h => h) (Or.inl ⟨by rfl, ?_⟩) hHeld ?_ ?_
           ·intro w' s0
            exact (by go_simp; first | done | (intro h; exact absurd h (Int.not_lt.2 hle2)))
           rotate_left
           ·simp only [Act.put, List.setIfInBounds_toArray, List.set_cons_zero, List.set_cons_succ, i64_w, i32_w]
            rfl
           refine one_ (i := 5) (N := some 326) #[true, true, true, true, true, true, false, false, false, false, false] rfl rfl (by kernel_rfl) (by decide) (fun K hK => ?_)
           refine goes_ Tryz.func13 (by kernel_rfl) rfl #[.agg (vals .i16 L), .slice (some ⟨g51, 0, none⟩) n1 3] (by rfl) rfl rfl (by simp only [List.map_toArray, List.map_cons, List.map_nil]; rfl) ?_
           refine (HCT2.out n1 _ hle4 (HH0.out _ hHeld)).mono ?_
           rintro e w22 ⟨rfl, hb⟩
           rw [hcb]
           refine ⟨_, rfl, ?_⟩
           refine hK.out _ _ (Mem.after hHeld hb) (fun hHeld => ?_)
           clear hK K
           refine norm_ (a' := ?_) ?_ ?_
           rotate_left
           ·show Act.put _ (some 326) _ = _
            simp only [Act.put, List.setIfInBounds_toArray, List.set_cons_zero, List.set_cons_succ, i64_w, i32_w]
            rfl
           refine pure_ (i := 6) (N := some 320) (v := ?_) (a' := ?_) #[true, true, true, true, true, true, true, false, false, false, false] rfl rfl (by kernel_rfl) (fun _ _ _ h => h) (Or.inl ⟨by rfl, ?_⟩) ?_ ?_
           rotate_left
           ·intro w'
            go_simp
            with_reducible rfl
           rotate_left
           ·simp only [Act.put, List.setIfInBounds_toArray, List.set_cons_zero, List.set_cons_succ, i64_w, i32_w]
            rfl
           refine pure_ (i := 7) (N := some 327) (v := ?_) (a' := ?_) #[true, true, true, true, true, true, true, true, false, false, false] rfl rfl (by kernel_rfl) (fun _ _ _ h => h) (Or.inl ⟨by rfl, ?_⟩) ?_ ?_
           rotate_left
           ·intro w'
            go_simp
            with_reducible rfl
           rotate_left
           ·simp only [Act.put, List.setIfInBounds_toArray, List.set_cons_zero, List.set_cons_succ, i64_w, i32_w]
            rfl
           refine pure_ (i := 8) (N := some 328) (v := ?_) (a' := ?_) #[true, true, true, true, true, true, true, true, true, false, false] rfl rfl (by kernel_rfl) (fun _ _ _ h => h) (Or.inl ⟨by rfl, ?_⟩) ?_ ?_
           rotate_left
           ·intro w'
            go_simp
            with_reducible rfl
           rotate_left
           ·simp only [Act.put, List.setIfInBounds_toArray, List.set_cons_zero, List.set_cons_succ, i64_w, i32_w]
            rfl
           refine pure_ (i := 9) (N := some 36) (v := ?_) (a' := ?_) #[true, true, true, true, true, true, true, true, true, true, false] rfl rfl (by kernel_rfl) (fun _ _ _ h => h) (Or.inl ⟨by rfl, ?_⟩) ?_ ?_
           rotate_left
           ·intro w'
            go_simp
            with_reducible rfl
           rotate_left
           ·simp only [Act.put, List.setIfInBounds_toArray, List.set_cons_zero, List.set_cons_succ, i64_w, i32_w]
            rfl
           refine pure_ (i := 10) (N := some 37) (v := ?_) (a' := ?_) #[true, true, true, true, true, true, true, true, true, true, true] rfl rfl (by kernel_rfl) (fun _ _ _ h => h) (Or.inl ⟨by rfl, ?_⟩) ?_ ?_
           rotate_left
           ·intro w'
            go_simp
            with_reducible rfl
           rotate_left
           ·simp only [Act.put, List.setIfInBounds_toArray, List.set_cons_zero, List.set_cons_succ, i64_w, i32_w]
            rfl
           refine done_ (by kernel_rfl) ?_
           skip
           go_wp2_with fail
           go_ret
           exact ⟨rfl, Mem.done hHeld HP.out.2.2.2.2.2.2⟩
  ·rw [if_neg hN] at HNI HNS
   clear hN hnr hLn hany
   have hmm : Mem w w51 (⟨g51, #[.slice Aa h1.length ca, .slice Ab h2.length cb, .slice Ac h3.length cc], 31, true⟩ :: ([⟨g5, vals .i16 L, 28, true⟩] ++ R1 ++ R2 ++ R3)) := hm
   clear hm
   have hm := hmm
   clear hmm
   go_wp2_with (first
    | (go_at_call 7; refine (HNI.out _ (HF.out _ (hm.held (by simp +contextual)))).mono ?_; rintro e w8 ⟨rfl, hb⟩; replace hm := hm.after hb; clear hb)
    | (go_at_call 8; refine (HNS.out _ (HF.out _ (hm.held (by simp +contextual)))).mono ?_; rintro e w9 ⟨rfl, hb⟩; replace hm := hm.after hb; clear hb)
    | (go_at_call 10; refine (HTX.out _).mono ?_; rintro e w10 ⟨rfl, hb⟩; replace hm := hm.after hb; clear hb)
    | (go_at_call 9; refine (HRD.out _ (hm.done (by simp [HO1.out, HO2.out, HO3.out]))).mono ?_; rintro e w11 ⟨rfl, hb⟩; replace hm := hm.after hb; clear hb)
    | (first | fail | ((with_reducible refine gt_alloc 5 28 ?_); refine st_alloc rfl 5 rfl 28 rfl hm zero28 ?_; clear hm; intro g5 w5 hm) | ((with_reducible refine gt_store 28 ?_); (first | (refine st_full rfl 28 _ _ rfl hm rfl rfl 0 rfl agg28 (by first | omega | assumption | (simp only [lens]; first | omega | assumption) | (simp [lens]; done) | (simp [lens]; omega)) (by first | omega | assumption | (simp only [lens]; first | omega | assumption) | (simp [lens]; done) | (simp [lens]; omega)) ?_) | (refine st_full rfl 28 _ _ rfl hm rfl rfl 1 rfl agg28 (by first | omega | assumption | (simp only [lens]; first | omega | assumption) | (simp [lens]; done) | (simp [lens]; omega)) (by first | omega | assumption | (simp only [lens]; first | omega | assumption) | (simp [lens]; done) | (simp [lens]; omega)) ?_) | (refine st_full rfl 28 _ _ rfl hm rfl rfl 2 rfl agg28 (by first | omega | assumption | (simp only [lens]; first | omega | assumption) | (simp [lens]; done) | (simp [lens]; omega)) (by first | omega | assumption | (simp only [lens]; first | omega | assumption) | (simp [lens]; done) | (simp [lens]; omega)) ?_) | (refine st_full rfl 28 _ _ rfl hm rfl rfl 3 rfl agg28 (by first | omega | assumption | (simp only [lens]; first | omega | assumption) | (simp [lens]; done) | (simp [lens]; omega)) (by first | omega | assumption | (simp only [lens]; first | omega | assumption) | (simp [lens]; done) | (simp [lens]; omega)) ?_) | (refine st_full rfl 28 _ _ rfl hm rfl rfl 4 rfl agg28 (by first | omega | assumption | (simp only [lens]; first | omega | assumption) | (simp [lens]; done) | (simp [lens]; omega)) (by first | omega | assumption | (simp only [lens]; first | omega | assumption) | (simp [lens]; done) | (simp [lens]; omega)) ?_) | (refine st_full rfl 28 _ _ rfl hm rfl rfl 5 rfl agg28 (by first | omega | assumption | (simp only [lens]; first | omega | assumption) | (simp [lens]; done) | (simp [lens]; omega)) (by first | omega | assumption | (simp only [lens]; first | omega | assumption) | (simp [lens]; done) | (simp [lens]; omega)) ?_)); clear hm; intro ws hm; simp only [List.set_cons_zero, List.set_cons_succ] at hm) | ((with_reducible refine gt_alloc 7 28 ?_); refine st_alloc rfl 7 rfl 28 rfl hm zero28 ?_; clear hm; intro g7 w7 hm) | ((with_reducible refine gt_alloc 9 28 ?_); refine st_alloc rfl 9 rfl 28 rfl hm zero28 ?_; clear hm; intro g9 w9 hm) | ((with_reducible refine gt_load 28 ?_); (first | (refine st_load rfl 28 _ rfl hm rfl 0 rfl agg28 (by first | omega | assumption | (simp only [lens]; first | omega | assumption) | (simp [lens]; done) | (simp [lens]; omega)) ?_) | (refine st_load rfl 28 _ rfl hm rfl 1 rfl agg28 (by first | omega | assumption | (simp only [lens]; first | omega | assumption) | (simp [lens]; done) | (simp [lens]; omega)) ?_) | (refine st_load rfl 28 _ rfl hm rfl 2 rfl agg28 (by first | omega | assumption | (simp only [lens]; first | omega | assumption) | (simp [lens]; done) | (simp [lens]; omega)) ?_) | (refine st_load rfl 28 _ rfl hm rfl 3 rfl agg28 (by first | omega | assumption | (simp only [lens]; first | omega | assumption) | (simp [lens]; done) | (simp [lens]; omega)) ?_) | (refine st_load rfl 28 _ rfl hm rfl 4 rfl agg28 (by first | omega | assumption | (simp only [lens]; first | omega | assumption) | (simp [lens]; done) | (simp [lens]; omega)) ?_) | (refine st_load rfl 28 _ rfl hm rfl 5 rfl agg28 (by first | omega | assumption | (simp only [lens]; first | omega | assumption) | (simp [lens]; done) | (simp [lens]; omega)) ?_))) | ((with_reducible refine gt_alloc 11 28 ?_); refine st_alloc rfl 11 rfl 28 rfl hm zero28 ?_; clear hm; intro g11 w11 hm) | ((with_reducible refine gt_alloc 17 28 ?_); refine st_alloc rfl 17 rfl 28 rfl hm zero28 ?_; clear hm; intro g17 w17 hm) | ((with_reducible refine gt_alloc 19 28 ?_); refine st_alloc rfl 19 rfl 28 rfl hm zero28 ?_; clear hm; intro g19 w19 hm) | ((with_reducible refine gt_alloc 21 28 ?_); refine st_alloc rfl 21 rfl 28 rfl hm zero28 ?_; clear hm; intro g21 w21 hm) | ((with_reducible refine gt_alloc 23 28 ?_); refine st_alloc rfl 23 rfl 28 rfl hm zero28 ?_; clear hm; intro g23 w23 hm) | ((with_reducible refine gt_load 45 ?_); (first | (refine st_get rfl 45 _ rfl hm rfl 0 rfl one45 (by first | omega | assumption | (simp only [lens]; first | omega | assumption) | (simp [lens]; done) | (simp [lens]; omega)) ?_) | (refine st_get rfl 45 _ rfl hm rfl 1 rfl one45 (by first | omega | assumption | (simp only [lens]; first | omega | assumption) | (simp [lens]; done) | (simp [lens]; omega)) ?_) | (refine st_get rfl 45 _ rfl hm rfl 2 rfl one45 (by first | omega | assumption | (simp only [lens]; first | omega | assumption) | (simp [lens]; done) | (simp [lens]; omega)) ?_) | (refine st_get rfl 45 _ rfl hm rfl 3 rfl one45 (by first | omega | assumption | (simp only [lens]; first | omega | assumption) | (simp [lens]; done) | (simp [lens]; omega)) ?_) | (refine st_get rfl 45 _ rfl hm rfl 4 rfl one45 (by first | omega | assumption | (simp only [lens]; first | omega | assumption) | (simp [lens]; done) | (simp [lens]; omega)) ?_) | (refine st_get rfl 45 _ rfl hm rfl 5 rfl one45 (by first | omega | assumption | (simp only [lens]; first | omega | assumption) | (simp [lens]; done) | (simp [lens]; omega)) ?_))) | ((with_reducible refine gt_build 28 ?_); refine st_zero rfl 28 rfl built28 ?_) | ((with_reducible refine gt_field 28 0 ?_); refine st_field rfl 28 _ 0 rfl rfl field28_0 ?_) | ((with_reducible refine gt_elem 25 ?_); refine st_elem rfl 25 _ _ rfl rfl rfl arr25 (by first | omega | assumption | (simp only [lens]; first | omega | assumption) | (simp [lens]; done) | (simp [lens]; omega)) (by first | omega | assumption | (simp only [lens]; first | omega | assumption) | (simp [lens]; done) | (simp [lens]; omega)) ?_) | ((with_reducible refine gt_load 24 ?_); (first | (refine st_get rfl 24 _ rfl hm rfl 0 rfl one24 (by first | omega | assumption | (simp only [lens]; first | omega | assumption) | (simp [lens]; done) | (simp [lens]; omega)) ?_) | (refine st_get rfl 24 _ rfl hm rfl 1 rfl one24 (by first | omega | assumption | (simp only [lens]; first | omega | assumption) | (simp [lens]; done) | (simp [lens]; omega)) ?_) | (refine st_get rfl 24 _ rfl hm rfl 2 rfl one24 (by first | omega | assumption | (simp only [lens]; first | omega | assumption) | (simp [lens]; done) | (simp [lens]; omega)) ?_) | (refine st_get rfl 24 _ rfl hm rfl 3 rfl one24 (by first | omega | assumption | (simp only [lens]; first | omega | assumption) | (simp [lens]; done) | (simp [lens]; omega)) ?_) | (refine st_get rfl 24 _ rfl hm rfl 4 rfl one24 (by first | omega | assumption | (simp only [lens]; first | omega | assumption) | (simp [lens]; done) | (simp [lens]; omega)) ?_) | (refine st_get rfl 24 _ rfl hm rfl 5 rfl one24 (by first | omega | assumption | (simp only [lens]; first | omega | assumption) | (simp [lens]; done) | (simp [lens]; omega)) ?_))) | ((with_reducible refine gt_field 28 1 ?_); refine st_field rfl 28 _ 1 rfl rfl field28_1 ?_) | ((with_reducible refine gt_elem 26 ?_); refine st_elem rfl 26 _ _ rfl rfl rfl arr26 (by first | omega | assumption | (simp only [lens]; first | omega | assumption) | (simp [lens]; done) | (simp [lens]; omega)) (by first | omega | assumption | (simp only [lens]; first | omega | assumption) | (simp [lens]; done) | (simp [lens]; omega)) ?_))
    | (refine gate_guard (by rfl) ?_; refine st_load rfl 28 _ rfl hm rfl 0 rfl agg28 hlL ?_)
    | (refine gate_guard (by rfl) ?_; refine st_load rfl 28 _ rfl hm rfl 1 rfl agg28 hz44 ?_)
    | (refine gate_guard (by rfl) ?_; refine st_load rfl 28 _ rfl hm rfl 2 rfl agg28 hz44 ?_)
    | (refine gate_guard (by rfl) ?_; refine st_load rfl 28 _ rfl hm rfl 4 rfl agg28 hlL ?_)
    | (refine gate_guard (by rfl) ?_; refine st_neqS rfl 28 _ _ _ rfl rfl rfl eqLk hz44 ?_)
    | (refine gate_guard (by rfl) ?_; refine st_neqS rfl 28 _ _ _ rfl rfl rfl eqLk hlL ?_)
    | (go_at_call 11; refine (HVL.out _).mono ?_; rintro e w12 ⟨rfl, hb⟩; replace hm := hm.after hb; clear hb))
   go_ret
   exact ⟨rfl, hm.done (by simp [HO1.out, HO2.out, HO3.out])⟩
end Go.Proofs.YthaoopbfggnceaaGreatDoor.Arr
namespace Go.Proofs.YthaoopbfggnceaaGreatDoor.Open
open Go.RowKit Go.Proofs.YthaoopbfggnceaaGreatDoorW.PrintWords Go.Proofs.YthaoopbfggnceaaGreatDoor.U Go.Deep
set_option linter.unusedVariables false
set_option linter.unusedSimpArgs false
def Opens {α : Type} (P : Program) (t : TypeId) (d : Kd α) (wf : α → Prop) : Prop :=
 ∀ {H : Type} (enc : TypeId × Value → H) (w : World) (held : Bool) (fuel : Nat) (cs : List Value) (x : DataW H × List MemPlace),
  DataW.trod enc P w 0 (fun _ => true) held fuel t cs = some x → ∃ a, d.K w a cs ∧ wf a
section
variable {P : Program} {t : TypeId}
theorem opens_int {k : IntKind} (ht : P.underlying t = some (.int k)) : Opens P t (Kd.int k) (WfI k) := by
 intro H enc w held fuel cs x h
 obtain ⟨n, rfl, _, hw⟩ := DataW.trod_int ht h
 exact ⟨n, rfl, hw⟩
theorem list_of {α : Type} (n : Nat) (p : Nat → α → Prop) (h : ∀ i, i < n → ∃ a, p i a) : ∃ l : List α, l.length = n ∧ ∀ (i : Nat) (a : α), l[i]? = some a → p i a := by
 induction n with
 | zero => exact ⟨[], rfl, fun i a hi => by simp at hi⟩
 | succ n ih =>
  obtain ⟨l, hl, hp⟩ := ih (fun i hi => h i (by omega))
  obtain ⟨a, ha⟩ := h n (by omega)
  refine ⟨l ++ [a], by simp [hl], fun i b hb => ?_⟩
  rcases Nat.lt_or_ge i l.length with hi | hi
  ·rw [List.getElem?_append_left hi] at hb; exact hp i b hb
  ·rw [List.getElem?_append_right hi] at hb
   have : i - l.length = 0 := by
    rcases Nat.eq_zero_or_pos (i - l.length) with h0 | h0
    ·exact h0
    ·rw [List.getElem?_eq_none (by simp; omega)] at hb; cases hb
   rw [this] at hb
   simp at hb
   subst hb
   obtain rfl : i = n := by omega
   exact ha
theorem add_mul (a : Addr) (i m j : Nat) : (a.add (i * m)).add j = a.add (i * m + j) := by
 unfold Addr.add
 by_cases h1 : i * m = 0 <;> by_cases h2 : j = 0 <;> simp [h1, h2] <;> omega
theorem opens_slice {α : Type} {e : TypeId} {d : Kd α} {wf : α → Prop} (ht : P.underlying t = some (.slice e)) (hc : P.cellsOf e = d.sz) (he : Opens P e d wf) : Opens P t (Kd.slice e d) (WfL wf) := by
 intro H enc w held fuel cs x h
 rcases open_slice ht h with ⟨rfl, _⟩ | ⟨a, len, cap, m, n, D, Pl, rfl, hb, hl, hm, hmm, rfl, hx⟩
 ·exact ⟨[], ⟨none, 0, rfl, Nat.le_refl _, Kd.C_nil d w⟩, by simp [WfL, maxLen]⟩
 ·simp only [if_true] at hmm
  subst hmm
  have each : ∀ i, i < len → ∃ y : α, (∃ cs', w.cells? 0 (a.add (i * P.cellsOf e)) (P.cellsOf e) = some cs' ∧ d.K w y cs') ∧ wf y := by
   intro i hi
   obtain ⟨cs', h1, h2⟩ := hx i (by omega)
   obtain ⟨y, hy, hwf⟩ := he enc w held n cs' _ h2
   exact ⟨y, ⟨cs', h1, hy⟩, hwf⟩
  obtain ⟨l, hll, hp⟩ := list_of len _ each
  refine ⟨l, ⟨some a, m, by rw [hll], by omega, ⟨rfl, by rw [hll]; unfold maxLen at hm; omega, fun _ => ⟨a, rfl, fun j y hj => ?_⟩⟩⟩, by rw [hll]; omega, fun y hy => ?_⟩
  ·obtain ⟨⟨cs', h1, h2⟩, _⟩ := hp j y hj
   refine ⟨cs', d.K_len h2, h2, fun i u hu => ?_⟩
   obtain ⟨_, hlen, hcell⟩ := World.cells?_some h1
   have hi : i < P.cellsOf e := by rw [← hlen]; exact (List.getElem?_eq_some_iff.1 hu).1
   have := hcell i hi
   rw [add_mul, hc, hu] at this
   exact this
  ·obtain ⟨j, hj, rfl⟩ := List.getElem_of_mem hy
   exact (hp j _ (List.getElem?_eq_getElem hj)).2
end
end Go.Proofs.YthaoopbfggnceaaGreatDoor.Open
namespace Go.Proofs.YthaoopbfggnceaaGreatDoor.fnStocks
open Go.ChangeShapes Go.WideShapes Go.ChangeAt Go.RowKit Go.Proofs.YthaoopbfggnceaaGreatDoor.U Go.Proofs.YthaoopbfggnceaaGreatDoorW.PrintWords Go.Proofs.YthaoopbfggnceaaGreatDoor.Arr
open Go.ChangeMaps (open_string shut_string)
set_option linter.unusedVariables false
theorem own : ownKnob Tryz.prog.godebug = none := by kernel_rfl
theorem laidOut : laidOutB Tryz.prog = true := by kernel_rfl
theorem wrap {H : Type} {enc : TypeId × Value → H} {a : Assume} {C : Checked} {os : Os} {f : FuncId} {fn : Func} {s : ChangeSpec} {conds : List PathCond} {apart fresh handsOn again : Bool} {X : World → Array Value → Prop}
  (hX : ∀ (w w' : World) (args : Array Value), w.heap = w'.heap → X w args → X w' args)
  (own : ownKnob C.prog.godebug = none) (started : os.Started) (noInit : C.prog.inits.idxOf? f = none) (hfn : C.prog.funcs[f]? = some fn)
  (witness : ∃ (w : World) (tape : Tape) (i : Input), w.os = os ∧ (w.forCall tape i).Shaped C.prog ∧ i.vars = [] ∧ Input.okWide C.prog (w.forCall tape i) .any w.heap.size f i ∧
   ((s.pre enc C.prog fn conds apart (w.forCall tape i).memory i.args ∧ X (w.forCall tape i).memory i.args) ∧ sizedMet enc C.prog fn (OpenSpec.ofChange s) apart (w.forCall tape i).memory i.args) ∧ a.holds C.prog (lone (Frame.enter C.prog f i.args .normal) [] (w.forCall tape i)))
  (contract : ∀ (W : World) (base : Nat) (args : Array Value) (ds gs : List (DataW H)) (before : List MemPlace),
   (∀ (j : Nat) t v, fn.params[j]? = some t → args[j]? = some v → Value.okWide C.prog W .any base t v) →
   DataW.Whole enc C.prog fn.params.toList s.vars apart W args.toList ds gs before → X W args → W.ShapedOpen C.prog →
   Calls C.prog f args W fun e W' => ∃ v, e = .returned v ∧ s.post enc C.prog fn apart fresh handsOn again W args v W') :
  ReturnsInHanded a C os f .any (fun w args => (s.pre enc C.prog fn conds apart w args ∧ X w args) ∧ sizedMet enc C.prog fn (OpenSpec.ofChange s) apart w args) (s.post enc C.prog fn apart fresh handsOn again) := by
 refine returnsInHanded_of_calls own started noInit witness ?_
 intro w tape i _ hsh _ hok hpre hholds
 obtain ⟨_, _, _, fn', hfn', _, _, _, _, hval⟩ := hok
 have e : fn' = fn := Option.some.inj (hfn'.symm.trans hfn)
 subst e
 obtain ⟨⟨⟨ds, gs, before, hw, hc⟩, hx⟩, hz⟩ := hpre
 have hw' := DataW.Whole.of_heap (w' := w.forCall tape i) (by rfl) hw
 refine (contract (w.forCall tape i) w.heap.size i.args ds gs before hval hw' (hX _ _ _ (by rfl) hx) hsh).mono fun e W' ⟨v, he, hp⟩ => ?_
 subst he
 exact ChangeSpec.post_blind hp
set_option maxRecDepth 100000 in
theorem rowOf (u : TypeId) (h : Tryz.prog.typeName? 3 u = some "*errors.errorString") : u = 169 := by
 have star : "*" ++ "errors.errorString" = "*errors.errorString" := by decide
 exact typeName_ptr_named (nm := "errors.errorString") (by rw [star]; kernel_rfl) (by kernel_rfl) (by decide) u (by rw [star]; exact h)
set_option maxRecDepth 100000 in
theorem door_of {W : World} (hL : laidMetH Tryz.prog Rows.fnStocksRow.laid W) (hs : W.ShapedOpen Tryz.prog) : Door W := by
 rw [MakeChecks.laidMetH_plain _ _ _ (by kernel_rfl)] at hL
 have h4 := hL.tail.tail.tail.tail
 obtain ⟨a0, s0, hv0, _⟩ := laid_sentinel (g := 2) (ti := 98) (tp := 169) (te := 171) h4 (by kernel_rfl) (by kernel_rfl) Tryz.underlying98 rowOf Tryz.underlying169 Tryz.underlying171 rfl rfl Tryz.underlying9 (by kernel_rfl) (by kernel_rfl)
 obtain ⟨a1, s1, hv1, _⟩ := laid_sentinel (g := 1) (ti := 98) (tp := 169) (te := 171) h4.tail (by kernel_rfl) (by kernel_rfl) Tryz.underlying98 rowOf Tryz.underlying169 Tryz.underlying171 rfl rfl Tryz.underlying9 (by kernel_rfl) (by kernel_rfl)
 have c0 := World.var?_cell (g := 2) (by kernel_rfl) hv0 0
 have c1 := World.var?_cell (g := 1) (by kernel_rfl) hv1 0
 refine ⟨lay146.s1_3 W hs, ⟨_, _, by simpa using c1⟩, ⟨_, _, by simpa using c0⟩, ?_⟩
 exact Lib.tabIs_of_head (g := 3) (t := 161) (e := 87) (n := 20) (by kernel_rfl) (by kernel_rfl) (by kernel_rfl) (by kernel_rfl) (by kernel_rfl) (by kernel_rfl) (show laidMet Tryz.prog (("internal/strconv.uint64pow10", Lib.tabData .u64 Lib.pow10Tab) :: _) W from hL.tail.tail)
set_option maxRecDepth 100000 in
theorem door_met (os : Os) (args : Array Value) : laidMetH Tryz.prog Rows.fnStocksRow.laid ((World.laidAll Tryz.prog os Rows.fnStocksRow.laid).forCall (fun _ _ => 0) ⟨#[], args, []⟩).memory := by
 rw [MakeChecks.laidMetH_plain _ _ _ (by kernel_rfl)]
 exact laidMet_laidAll _ (by kernel_rfl) (by kernel_rfl)
set_option maxRecDepth 100000 in
theorem lifted (os : Os) (started : os.Started) (H : Type) (enc : TypeId × Value → H) :
  ReturnsInHanded {} Tryz.checked os 3 .any (fun w args => (Rows.fnStocksSpec.pre enc Tryz.prog Tryz.f3 [] false w args ∧ laidMetH Tryz.prog Rows.fnStocksRow.laid w) ∧ sizedMet enc Tryz.prog Tryz.f3 (OpenSpec.ofChange Rows.fnStocksSpec) false w args)
   (Rows.fnStocksSpec.post enc Tryz.prog Tryz.f3 false true false false) := by
 refine wrap (C := Tryz.checked) (X := fun w _ => laidMetH Tryz.prog Rows.fnStocksRow.laid w) (fun _ _ _ hh h => h.of_heap hh) own started (by kernel_rfl) Tryz.func3
  (ChangeSpec.witness_shaped (enc := enc) (C := Tryz.checked) (os := os) (X := fun w _ => laidMetH Tryz.prog Rows.fnStocksRow.laid w) false (World.laidAll Tryz.prog os Rows.fnStocksRow.laid) #[.slice none 0 0, .slice none 0 0] 8 (World.laidAll_os _ _ _) (World.shaped_of_ZipB (by kernel_rfl) (by kernel_rfl)) (by kernel_rfl) (by kernel_rfl) (by kernel_rfl) (door_met os _)) ?_
 intro W base args ds gs before hval0 hW hL hs
 have hval : ∀ (j : Nat) t v, Tryz.f3.params[j]? = some t → args[j]? = some v → Value.okWide Tryz.prog W .any base t v := hval0
 have hW' := hW
 obtain ⟨p, q, hA0, hV, rfl, hfz, hnd⟩ := hW
 have hA : DataW.TrodAll enc Tryz.prog W 0 (fun _ => true) true Tryz.f3.params.toList args.toList ds p := hA0
 rw [Tryz.params3] at hA hval
 obtain ⟨v0, vs0, d0, ds0, p0, q0, hargs, rfl, rfl, h0, r0⟩ := trodAll_cons hA
 obtain ⟨v1, vs1, d1, ds1, p1, q1, rfl, rfl, rfl, h1, r1⟩ := trodAll_cons r0
 obtain ⟨rfl, rfl, rfl⟩ := trodAll_nil r1
 obtain rfl : args = #[v0, v1] := by cases args; simp_all
 obtain ⟨rfl, rfl⟩ := trodVars_none hV
 obtain ⟨a0, len0, cap0, rfl⟩ := okWide_slice Tryz.underlying22 (hval 0 22 v0 rfl rfl)
 have k0 := h0
 have lt0 : ∀ x ∈ p0, x.block < W.heap.size := by obtain ⟨m, hm⟩ := k0; exact DataW.trod_lt m _ _ _ hm
 obtain ⟨l0, hK0, wf0⟩ : ∃ l, Kd.K (Kd.slice 5 (Kd.int .u8)) W l [.slice a0 len0 cap0] ∧ (WfL (WfI .u8)) l := by
  obtain ⟨fuel, hf⟩ := h0
  exact (Open.opens_slice (d := (Kd.int .u8)) Tryz.underlying22 (by kernel_rfl) (Open.opens_int Tryz.underlying5)) enc W true fuel _ _ hf
 obtain ⟨A0, c0, e0, hc0, hC0⟩ := hK0
 injection e0 with e0 _
 injection e0 with ea0 el0 ec0
 subst ea0 el0 ec0
 obtain ⟨a1, len1, cap1, rfl⟩ := okWide_slice Tryz.underlying22 (hval 1 22 v1 rfl rfl)
 have k1 := h1
 have lt1 : ∀ x ∈ p1, x.block < W.heap.size := by obtain ⟨m, hm⟩ := k1; exact DataW.trod_lt m _ _ _ hm
 obtain ⟨l1, hK1, wf1⟩ : ∃ l, Kd.K (Kd.slice 5 (Kd.int .u8)) W l [.slice a1 len1 cap1] ∧ (WfL (WfI .u8)) l := by
  obtain ⟨fuel, hf⟩ := h1
  exact (Open.opens_slice (d := (Kd.int .u8)) Tryz.underlying22 (by kernel_rfl) (Open.opens_int Tryz.underlying5)) enc W true fuel _ _ hf
 obtain ⟨A1, c1, e1, hc1, hC1⟩ := hK1
 injection e1 with e1 _
 injection e1 with ea1 el1 ec1
 subst ea1 el1 ec1
 clear hA0 hval0
 refine (Arr.law_FnStocks W _ _ l0 hC0 hc0 wf0 _ _ l1 hC1 hc1 wf1 (door_of hL hs)).mono ?_
 rintro e W' ⟨rfl, bel⟩
 exact ⟨_, rfl, _, _, _, [], _, [], hW', trodAll_mk1 (shut_bool Tryz.underlying4 _), (trodAll_cons_mk (Below.trod laidOut (by kernel_rfl) (of_decide_eq_true (by kernel_rfl)) k0 bel lt0) (trodAll_cons_mk (Below.trod laidOut (by kernel_rfl) (of_decide_eq_true (by kernel_rfl)) k1 bel lt1) trodAll_mk0)), rfl, bel.frame _, fun h => by cases h⟩
theorem over : Rows.fnStocksRow.holds Tryz.pinned (OpenSpec.ofChange Rows.fnStocksSpec) :=
 OpenClaim.holds_of_wide 3 Tryz.f3 rfl rfl rfl rfl rfl rfl rfl ⟨rfl, rfl, rfl, rfl, rfl⟩ rfl rfl rfl rfl rfl (by kernel_rfl) Tryz.func3 (by kernel_rfl)
  (of_decide_eq_true (by kernel_rfl)) (by unfold Func.isWrapper; first | (rw [if_pos (by decide +kernel)]; kernel_rfl) | (rw [if_neg (by decide +kernel)]; exact ⟨rfl, rfl⟩))
  (fun os started H enc _ => lifted os started H enc)
theorem proved : Rows.FnStocksSaid := over
end Go.Proofs.YthaoopbfggnceaaGreatDoor.fnStocks
