/- The texts that the statement FnExactReadBook needs, part 4: contracts of the program's functions and plain laws, without what it does not reach. No condition beyond what each theorem says. -/
import Derived.Shelf.Strconv.Itoa4
import Derived.Test.YtdgecgfgekmhcaaDoorProg
import Derived.KernelRfl
import Derived.Below
import Derived.Deep.Draws
import Derived.Deep.AppendLies
import Derived.Maps.AppendAt
import Derived.OwnWalk
import Derived.Laws.BytesArg
import Derived.Laws.MakeOwn
import Derived.Laws.OwnMore
import Derived.Deep.OwnRows
import Derived.Tactics
import Derived.Lib.ConvBytes
import Derived.Laws.Slices
import Derived.WalkKit
import Derived.RowKit3
import Derived.Deep.LoopGhost
import Derived.Deep.QuietTactic
import Derived.BigQuiet
import Derived.WideLaws
import Derived.Deep.DeepCutAuto
import Derived.Deep.CutBlock
import Derived.Deep.RegionHeld3
import Derived.Laws.Rows
import Derived.Lib.AppendStr
import Derived.ArgAppend
import Derived.Laws.IdiomCopy
import Derived.RowKit
import Derived.OrdersHeld
import Derived.Laws.BitsLemmas
import Derived.Laws.StructEq
import Derived.Laws.Tables
import Derived.BigFrame
import Derived.Laws.CopyRow
import Derived.Laws.ResultCell
import Derived.WalkSpells
import Derived.Lib.SplitLaws
import Derived.Lib.Join
import Derived.Lib.ParseIntB
import Derived.Lib.CountLaws
import Derived.Shelf.Strings.SplitShaped
import Derived.Shelf.Strings.Shaped
import Derived.Shelf.Small.Wraps
import Derived.Shelf.Strconv.ErrVarParseInt
import Derived.Lib.SmallJoins
import Derived.Lib.AppendIntMem
import Derived.Lib.ParseIntBTie
import Derived.StillTailTactics
import Derived.Laws.CopyOwn
import Derived.ProofKit
import Derived.OpenShut
import Derived.Deep.Slices
import Derived.Test.YtdgecgfgekmhcaaDoorRows
import Derived.ShutString
import Derived.ChangeOld
import Derived.SizedLaws
import Derived.HandedShaped
import Derived.LaidMore
import Derived.Lay
import Derived.Stop.Joined
import Derived.Stop.LaidErr
import Derived.Lib.LaidTab
import Derived.Test.YtdgecgfgekmhcaaDoorCards
import Derived.Test.YtdgecgfgekmhcaaDoorTie
import Derived.SevenTiedAt
import Derived.Test.YtdgecgfgekmhcaaDoorZFnExactReadBook3
namespace Go.Proofs.YtdgecgfgekmhcaaDoor.Arr
open Go.RowKit Go.Proofs.YtdgecgfgekmhcaaDoorW.PrintWords Go.Proofs.YtdgecgfgekmhcaaDoorW.PrintLast Go.Proofs.YtdgecgfgekmhcaaDoorW.PrintMore Go.Proofs.YtdgecgfgekmhcaaDoor.U Go.Proofs.YtdgecgfgekmhcaaDoor.J
set_option linter.unusedVariables false
set_option linter.unusedSimpArgs false
def bkT (h : List UInt8) (ph : List (List UInt8)) (i : Nat) : List UInt8 := h ++ ((ph.take i).map (· ++ [10])).flatten
theorem bkT_zero (h : List UInt8) (ph : List (List UInt8)) : bkT h ph 0 = h := by simp [bkT]
theorem bkT_succ (h : List UInt8) (ph : List (List UInt8)) (i : Nat) (hi : i < ph.length) : bkT h ph (i + 1) = bkT h ph i ++ (ph[i] ++ [10]) := by
 unfold bkT
 rw [List.take_add_one, List.getElem?_eq_getElem hi, List.map_append, List.flatten_append, List.append_assoc]
 simp only [Option.toList_some, List.map_cons, List.map_nil, List.flatten_cons, List.flatten_nil, List.append_nil]
theorem bkT_len (h : List UInt8) (ph : List (List UInt8)) (hh : h.length ≤ 20) (hp : ∀ p ∈ ph, p.length ≤ 40) : ∀ i, i ≤ ph.length → (bkT h ph i).length ≤ 20 + 41 * i
 | 0, _ => by rw [bkT_zero]; omega
 | i + 1, hi => by
  rw [bkT_succ h ph i (by omega), List.length_append, List.length_append]
  have := bkT_len h ph hh hp i (by omega)
  have := hp ph[i] (List.getElem_mem _)
  simp only [List.length_singleton]
  omega
theorem bookT_bkT (b : BK) : bookT b = bkT (hdT b ++ [10]) b.2.2.2 b.2.2.2.length := by
 unfold bookT bkT
 rw [List.take_of_length_le (Nat.le_refl _)]
 simp
theorem hdT_len (b : BK) : (hdT b ++ [10]).length ≤ 20 := by
 unfold hdT
 have h1 := dg_len b.1.toNat
 have h2 := dg_len b.2.1.toNat
 have h3 := dg_len b.2.2.1.toNat
 simp
 omega
theorem oneI8T : OneTy Tryd.prog 22 := ⟨by kernel_rfl, by kernel_rfl⟩
theorem txs_get (ph : List (List UInt8)) (i : Nat) (hi : i < ph.length) : rdOf ByteArray.empty (txs ph) (i : Int) = ⟨(ph[i]).toArray⟩ := by
 rw [rdOf_get _ i (by simp [txs]; exact hi)]
 simp [txs]
section
variable {P : Program} {o : Oper} {a : Act} {w : World}
theorem y_cellT {ty : TypeId} {x : Operand} {p : Addr} {v : Value} (ho : o.op = .load ty x) (hx : a.eval x = .pointer (some p)) (h1 : OneTy P ty) (hc : w.cell? p = some v) : (execOp a.eval o).run P w = .ok (.value v) w := by
 have hd := h1.1
 unfold execOp
 have hagg : (isAgg ty).run P w = .ok false w := by
  unfold isAgg
  cases hu : P.underlying ty with
  | none => simp [hu] at hd
  | some d =>
   rw [Sem.run_bind, run_underlying hu w]
   cases d <;> simp_all
 simp only [ho, hx, Instr.loadAt, Instr.sureAddr, Sem.run_bind, Sem.run_pure, Result.andThen_ok, loadVar, hagg]
 simp [run_load, hc]
end
def bookX (b : BK) : ByteArray := if okB b = true then ⟨(bookT b).toArray⟩ else ByteArray.empty
set_option maxHeartbeats 8000000 in
set_option maxRecDepth 100000 in
theorem implBookText_calls (bK bL bS : Int) (A3 : Option Addr) (c3 : Nat) (ph : List (List UInt8)) (w : World) (hp : BookP bK bL bS (txs ph)) (hr3 : Kd.C Kd.string w A3 (txs ph).length (txs ph)) (hc3 : (txs ph).length ≤ c3) :
  Calls Tryd.prog 9 #[.agg #[.int .i8 bK, .int .i8 bL, .int .i8 bS, .slice A3 (txs ph).length c3]] w fun e w' => e = .returned (.string (bookX (bK, bL, bS, ph))) ∧ Below w.heap.size w w' := by
 have HV := Aside0.mk (fun W (hW : Below w.heap.size w W) => validBook_calls bK bL bS A3 c3 (txs ph) W hp (Kd.C_below hr3 hW) hc3)
 have HB := show okBook bK bL bS (txs ph) = okB (bK, bL, bS, ph) from rfl
 rw [HB] at HV
 have HB0 := Aside0.mk (bkIn_new w bK bL bS A3 (txs ph).length c3)
 unfold bookX
 cases hk : okB (bK, bL, bS, ph) with
 | false =>
  rw [hk] at HV
  clear hk hp hr3 HB
  generalize (txs ph).length = n at *
  go_enter Tryd.func9, Tryd.ntmps9
  go_wp2_with (first
   | ((with_reducible refine gt_load 28 ?_); refine Kd.event_run rfl (y_row (by rfl) (by rfl) HB0.out.2 aggBook rfl) ?_)
   | (go_at_call 24; refine (HV.out _ HB0.out.1).mono ?_; rintro e w5 ⟨rfl, h1⟩; have HB1 := Aside0.mk (HB0.out.below h1); clear h1))
  go_ret
  exact ⟨rfl, HB1.out.1⟩
 | true =>
  obtain ⟨⟨h1, h2, h3⟩, hn⟩ := ok_ranges hk
  have HPL := Aside0.mk (fun p hp => (ok_phr hk p hp).2)
  simp only at h1 h2 h3 hn HPL
  rw [hk] at HV
  obtain ⟨p1, rfl⟩ := Int.eq_ofNat_of_zero_le (show 0 ≤ bK by omega)
  obtain ⟨p2, rfl⟩ := Int.eq_ofNat_of_zero_le (show 0 ≤ bL by omega)
  obtain ⟨p3, rfl⟩ := Int.eq_ofNat_of_zero_le (show 0 ≤ bS by omega)
  have HDK := Aside0.mk (fun W => decimal_calls p1 (by omega) W)
  have HDL := Aside0.mk (fun W => decimal_calls p2 (by omega) W)
  have HDS := Aside0.mk (fun W => decimal_calls p3 (by omega) W)
  have hdK := dg_len p1
  have hdL := dg_len p2
  have hdS := dg_len p3
  have htn : (txs ph).length = ph.length := by simp only [txs, List.length_map]
  rw [htn] at HV HB0 hr3 hc3 ⊢
  have HR3 := Aside0.mk hr3
  have hmx := Kd.C_max hr3
  rw [bookT_bkT]
  have hhl := hdT_len ((p1 : Int), (p2 : Int), (p3 : Int), ph)
  have hhd : hdT ((p1 : Int), (p2 : Int), (p3 : Int), ph) ++ [10] = (((dg p1 ++ [32]) ++ dg p2) ++ [32]) ++ dg p3 ++ [10] := by unfold hdT; simp
  have HLN := Aside0.mk (bkT_len _ ph hhl HPL.out)
  have HSU := Aside0.mk (bkT_succ (hdT ((p1 : Int), (p2 : Int), (p3 : Int), ph) ++ [10]) ph)
  have HZ := Aside0.mk (bkT_zero (hdT ((p1 : Int), (p2 : Int), (p3 : Int), ph) ++ [10]) ph)
  rw [hhd] at HLN HSU HZ ⊢
  clear hr3 hhd hhl hp HB hk htn
  have hwK : wrap64 (p1 : Int) = (p1 : Int) := w64 (by omega) (by omega)
  have hwL : wrap64 (p2 : Int) = (p2 : Int) := w64 (by omega) (by omega)
  have hwS : wrap64 (p3 : Int) = (p3 : Int) := w64 (by omega) (by omega)
  show Calls _ _ _ _ fun e w' => e = .returned (.string ⟨(bkT ((((dg p1 ++ [32]) ++ dg p2) ++ [32]) ++ dg p3 ++ [10]) ph ph.length).toArray⟩) ∧ _
  go_enter Tryd.func9, Tryd.ntmps9
  go_wp2_with (first
   | ((with_reducible refine gt_load 28 ?_); refine Kd.event_run rfl (y_row (by rfl) (by rfl) HB0.out.2 aggBook rfl) ?_)
   | (go_at_call 24; refine (HV.out _ HB0.out.1).mono ?_; rintro e w5 ⟨rfl, h1⟩; have HB1 := Aside0.mk (HB0.out.below h1); clear h1))
  refine start_ (n := 18) (S := fun w' => BkIn w (p1 : Int) (p2 : Int) (p3 : Int) A3 ph.length c3 w') (ds := []) #[false, false, false, false, false, false, false, false, false, false, false, false, false, false, false, false, false, false] (by kernel_rfl) rfl rfl (HB1.out.drew) (fun hHeld => ?_)
  refine pure_ (i := 0) (N := some 9) (v := ?_) (a' := ?_) #[true, false, false, false, false, false, false, false, false, false, false, false, false, false, false, false, false, false] rfl rfl (by kernel_rfl) (fun _ _ _ h => h) (Or.inl ⟨by rfl, ?_⟩) ?_ ?_
  rotate_left
  ·intro w'
   go_simp
   with_reducible rfl
  rotate_left
  ·simp only [Act.put, List.setIfInBounds_toArray, List.set_cons_zero, List.set_cons_succ, i64_w, i32_w]
   rfl
  refine pure_ (i := 5) (N := some 14) (v := ?_) (a' := ?_) #[true, false, false, false, false, true, false, false, false, false, false, false, false, false, false, false, false, false] rfl rfl (by kernel_rfl) (fun _ _ _ h => h) (Or.inl ⟨by rfl, ?_⟩) ?_ ?_
  rotate_left
  ·intro w'
   go_simp
   with_reducible rfl
  rotate_left
  ·simp only [Act.put, List.setIfInBounds_toArray, List.set_cons_zero, List.set_cons_succ, i64_w, i32_w]
   rfl
  refine pure_ (i := 11) (N := some 20) (v := ?_) (a' := ?_) #[true, false, false, false, false, true, false, false, false, false, false, true, false, false, false, false, false, false] rfl rfl (by kernel_rfl) (fun _ _ _ h => h) (Or.inl ⟨by rfl, ?_⟩) ?_ ?_
  rotate_left
  ·intro w'
   go_simp
   with_reducible rfl
  rotate_left
  ·simp only [Act.put, List.setIfInBounds_toArray, List.set_cons_zero, List.set_cons_succ, i64_w, i32_w]
   rfl
  refine take_ (i := 1) (N := some 10) (v := .int .i8 (p1 : Int)) (a' := ?_) #[true, true, false, false, false, true, false, false, false, false, false, true, false, false, false, false, false, false] rfl rfl (by kernel_rfl) (fun _ _ _ h => h) (Or.inl ⟨by rfl, ?_⟩) hHeld ?_ ?_
  ·intro w' s0
   exact y_cellT (by rfl) (by rfl) oneI8T ((cell_of_row _ w.heap.size 0 _ _ (0, 0) s0.2).trans rfl)
  rotate_left
  ·simp only [Act.put, List.setIfInBounds_toArray, List.set_cons_zero, List.set_cons_succ, i64_w, i32_w]
   rfl
  refine take_ (i := 2) (N := some 11) (v := .int .i64 (p1 : Int)) (a' := ?_) #[true, true, true, false, false, true, false, false, false, false, false, true, false, false, false, false, false, false] rfl rfl (by kernel_rfl) (fun _ _ _ h => h) (Or.inl ⟨by rfl, ?_⟩) hHeld ?_ ?_
  ·intro w' s0
   exact (by go_simp; first | (rw [i64_w, hwK]; done) | (rw [i64_w, hwK]; rfl) | exact hwK)
  rotate_left
  ·simp only [Act.put, List.setIfInBounds_toArray, List.set_cons_zero, List.set_cons_succ, i64_w, i32_w]
   rfl
  refine take_ (i := 6) (N := some 15) (v := .int .i8 (p2 : Int)) (a' := ?_) #[true, true, true, false, false, true, true, false, false, false, false, true, false, false, false, false, false, false] rfl rfl (by kernel_rfl) (fun _ _ _ h => h) (Or.inl ⟨by rfl, ?_⟩) hHeld ?_ ?_
  ·intro w' s0
   exact y_cellT (by rfl) (by rfl) oneI8T ((cell_of_row _ w.heap.size 1 _ _ (0, 0) s0.2).trans rfl)
  rotate_left
  ·simp only [Act.put, List.setIfInBounds_toArray, List.set_cons_zero, List.set_cons_succ, i64_w, i32_w]
   rfl
  refine take_ (i := 7) (N := some 16) (v := .int .i64 (p2 : Int)) (a' := ?_) #[true, true, true, false, false, true, true, true, false, false, false, true, false, false, false, false, false, false] rfl rfl (by kernel_rfl) (fun _ _ _ h => h) (Or.inl ⟨by rfl, ?_⟩) hHeld ?_ ?_
  ·intro w' s0
   exact (by go_simp; first | (rw [i64_w, hwL]; done) | (rw [i64_w, hwL]; rfl) | exact hwL)
  rotate_left
  ·simp only [Act.put, List.setIfInBounds_toArray, List.set_cons_zero, List.set_cons_succ, i64_w, i32_w]
   rfl
  refine take_ (i := 12) (N := some 21) (v := .int .i8 (p3 : Int)) (a' := ?_) #[true, true, true, false, false, true, true, true, false, false, false, true, true, false, false, false, false, false] rfl rfl (by kernel_rfl) (fun _ _ _ h => h) (Or.inl ⟨by rfl, ?_⟩) hHeld ?_ ?_
  ·intro w' s0
   exact y_cellT (by rfl) (by rfl) oneI8T ((cell_of_row _ w.heap.size 2 _ _ (0, 0) s0.2).trans rfl)
  rotate_left
  ·simp only [Act.put, List.setIfInBounds_toArray, List.set_cons_zero, List.set_cons_succ, i64_w, i32_w]
   rfl
  refine take_ (i := 13) (N := some 22) (v := .int .i64 (p3 : Int)) (a' := ?_) #[true, true, true, false, false, true, true, true, false, false, false, true, true, true, false, false, false, false] rfl rfl (by kernel_rfl) (fun _ _ _ h => h) (Or.inl ⟨by rfl, ?_⟩) hHeld ?_ ?_
  ·intro w' s0
   exact (by go_simp; first | (rw [i64_w, hwS]; done) | (rw [i64_w, hwS]; rfl) | exact hwS)
  rotate_left
  ·simp only [Act.put, List.setIfInBounds_toArray, List.set_cons_zero, List.set_cons_succ, i64_w, i32_w]
   rfl
  refine one_ (i := 3) (N := some 12) #[true, true, true, true, false, true, true, true, false, false, false, true, true, true, false, false, false, false] rfl rfl (by kernel_rfl) (by decide) (fun K hK => ?_)
  refine goes_ Tryd.func25 (by kernel_rfl) rfl #[.int .i64 (p1 : Int)] (by rfl) rfl rfl (by simp only [List.map_toArray, List.map_cons, List.map_nil]; rfl) ?_
  refine (HDK.out _).mono ?_
  rintro e w5 ⟨rfl, hb⟩
  refine ⟨_, rfl, ?_⟩
  refine hK.out _ _ (hHeld.below hb) (fun hHeld => ?_)
  clear hK K
  refine norm_ (a' := ?_) ?_ ?_
  rotate_left
  ·show Act.put _ (some 12) _ = _
   simp only [Act.put, List.setIfInBounds_toArray, List.set_cons_zero, List.set_cons_succ, i64_w, i32_w]
   rfl
  refine take_ (i := 4) (N := some 13) (v := .string ⟨(dg p1 ++ [32]).toArray⟩) (a' := ?_) #[true, true, true, true, true, true, true, true, false, false, false, true, true, true, false, false, false, false] rfl rfl (by kernel_rfl) (fun _ _ _ h => h) (Or.inl ⟨by rfl, ?_⟩) hHeld ?_ ?_
  ·intro w' s0
   exact (by go_simp; rw [if_neg (by first | omega | (simp only [bs_size, List.length_append, List.length_cons, List.length_nil]; omega) | (simp only [bs_size, List.length_append, List.length_cons, List.length_nil] at *; omega))]; simp [bs_app_data])
  rotate_left
  ·simp only [Act.put, List.setIfInBounds_toArray, List.set_cons_zero, List.set_cons_succ, i64_w, i32_w]
   rfl
  refine one_ (i := 8) (N := some 17) #[true, true, true, true, true, true, true, true, true, false, false, true, true, true, false, false, false, false] rfl rfl (by kernel_rfl) (by decide) (fun K hK => ?_)
  refine goes_ Tryd.func25 (by kernel_rfl) rfl #[.int .i64 (p2 : Int)] (by rfl) rfl rfl (by simp only [List.map_toArray, List.map_cons, List.map_nil]; rfl) ?_
  refine (HDL.out _).mono ?_
  rintro e w6 ⟨rfl, hb⟩
  refine ⟨_, rfl, ?_⟩
  refine hK.out _ _ (hHeld.below hb) (fun hHeld => ?_)
  clear hK K
  refine norm_ (a' := ?_) ?_ ?_
  rotate_left
  ·show Act.put _ (some 17) _ = _
   simp only [Act.put, List.setIfInBounds_toArray, List.set_cons_zero, List.set_cons_succ, i64_w, i32_w]
   rfl
  refine take_ (i := 9) (N := some 18) (v := .string ⟨((dg p1 ++ [32]) ++ dg p2).toArray⟩) (a' := ?_) #[true, true, true, true, true, true, true, true, true, true, false, true, true, true, false, false, false, false] rfl rfl (by kernel_rfl) (fun _ _ _ h => h) (Or.inl ⟨by rfl, ?_⟩) hHeld ?_ ?_
  ·intro w' s0
   exact (by go_simp; rw [if_neg (by first | omega | (simp only [bs_size, List.length_append, List.length_cons, List.length_nil]; omega) | (simp only [bs_size, List.length_append, List.length_cons, List.length_nil] at *; omega))]; simp [bs_app_data])
  rotate_left
  ·simp only [Act.put, List.setIfInBounds_toArray, List.set_cons_zero, List.set_cons_succ, i64_w, i32_w]
   rfl
  refine take_ (i := 10) (N := some 19) (v := .string ⟨(((dg p1 ++ [32]) ++ dg p2) ++ [32]).toArray⟩) (a' := ?_) #[true, true, true, true, true, true, true, true, true, true, true, true, true, true, false, false, false, false] rfl rfl (by kernel_rfl) (fun _ _ _ h => h) (Or.inl ⟨by rfl, ?_⟩) hHeld ?_ ?_
  ·intro w' s0
   exact (by go_simp; rw [if_neg (by first | omega | (simp only [bs_size, List.length_append, List.length_cons, List.length_nil]; omega) | (simp only [bs_size, List.length_append, List.length_cons, List.length_nil] at *; omega))]; simp [bs_app_data])
  rotate_left
  ·simp only [Act.put, List.setIfInBounds_toArray, List.set_cons_zero, List.set_cons_succ, i64_w, i32_w]
   rfl
  refine one_ (i := 14) (N := some 23) #[true, true, true, true, true, true, true, true, true, true, true, true, true, true, true, false, false, false] rfl rfl (by kernel_rfl) (by decide) (fun K hK => ?_)
  refine goes_ Tryd.func25 (by kernel_rfl) rfl #[.int .i64 (p3 : Int)] (by rfl) rfl rfl (by simp only [List.map_toArray, List.map_cons, List.map_nil]; rfl) ?_
  refine (HDS.out _).mono ?_
  rintro e w7 ⟨rfl, hb⟩
  refine ⟨_, rfl, ?_⟩
  refine hK.out _ _ (hHeld.below hb) (fun hHeld => ?_)
  clear hK K
  refine norm_ (a' := ?_) ?_ ?_
  rotate_left
  ·show Act.put _ (some 23) _ = _
   simp only [Act.put, List.setIfInBounds_toArray, List.set_cons_zero, List.set_cons_succ, i64_w, i32_w]
   rfl
  refine take_ (i := 15) (N := some 24) (v := .string ⟨((((dg p1 ++ [32]) ++ dg p2) ++ [32]) ++ dg p3).toArray⟩) (a' := ?_) #[true, true, true, true, true, true, true, true, true, true, true, true, true, true, true, true, false, false] rfl rfl (by kernel_rfl) (fun _ _ _ h => h) (Or.inl ⟨by rfl, ?_⟩) hHeld ?_ ?_
  ·intro w' s0
   exact (by go_simp; rw [if_neg (by first | omega | (simp only [bs_size, List.length_append, List.length_cons, List.length_nil]; omega) | (simp only [bs_size, List.length_append, List.length_cons, List.length_nil] at *; omega))]; simp [bs_app_data])
  rotate_left
  ·simp only [Act.put, List.setIfInBounds_toArray, List.set_cons_zero, List.set_cons_succ, i64_w, i32_w]
   rfl
  refine take_ (i := 16) (N := some 25) (v := .string ⟨(((((dg p1 ++ [32]) ++ dg p2) ++ [32]) ++ dg p3) ++ [10]).toArray⟩) (a' := ?_) #[true, true, true, true, true, true, true, true, true, true, true, true, true, true, true, true, true, false] rfl rfl (by kernel_rfl) (fun _ _ _ h => h) (Or.inl ⟨by rfl, ?_⟩) hHeld ?_ ?_
  ·intro w' s0
   exact (by go_simp; rw [if_neg (by first | omega | (simp only [bs_size, List.length_append, List.length_cons, List.length_nil]; omega) | (simp only [bs_size, List.length_append, List.length_cons, List.length_nil] at *; omega))]; simp [bs_app_data])
  rotate_left
  ·simp only [Act.put, List.setIfInBounds_toArray, List.set_cons_zero, List.set_cons_succ, i64_w, i32_w]
   rfl
  refine pure_ (i := 17) (N := some 3) (v := ?_) (a' := ?_) #[true, true, true, true, true, true, true, true, true, true, true, true, true, true, true, true, true, true] rfl rfl (by kernel_rfl) (fun _ _ _ h => h) (Or.inl ⟨by rfl, ?_⟩) ?_ ?_
  rotate_left
  ·intro w'
   go_simp
   with_reducible rfl
  rotate_left
  ·simp only [Act.put, List.setIfInBounds_toArray, List.set_cons_zero, List.set_cons_succ, i64_w, i32_w]
   rfl
  refine done_ (by kernel_rfl) ?_
  skip
  generalize hhd : (((dg p1 ++ [32]) ++ dg p2) ++ [32]) ++ dg p3 ++ [10] = hd at *
  have HHD := Aside0.mk hhd
  clear hhd
  have HB2 := Aside0.mk hHeld.1
  have hc23 := cell_of_row _ w.heap.size 3 _ _ (0, 0) hHeld.2
  clear hHeld HB1 HB0
  go_wp2_with fail
  go_loopw [29, 5, 3] (fun v29 _ v3 wr => ∃ i : Nat, i ≤ ph.length ∧ v29 = .int .i64 i ∧ v3 = .string ⟨(bkT hd ph i).toArray⟩ ∧ Aside0 (Below w.heap.size w wr)) (fun v29 _ _ _ => ph.length - (intOf v29).toNat)
  case atStart => exact ⟨0, by omega, rfl, by rw [HZ.out, ← HHD.out]; simp, HB2⟩
  case round =>
   clear HB2 hc23
   obtain ⟨i, hi, rfl, rfl, HB⟩ := hrel
   by_cases hlt : i < ph.length
   ·obtain ⟨ad, rfl, hcs⟩ := Kd.at_string (Kd.C_below HR3.out HB.out) (i : Int) (by omega) (by omega)
    rw [Int.toNat_natCast, txs_get ph i hlt] at hcs
    have hpl := HPL.out ph[i] (List.getElem_mem _)
    have hln := HLN.out i hi
    have HS := Aside0.mk (HSU.out i hlt)
    generalize ph[i] = p at *
    generalize bkT hd ph i = s at *
    have hg1 : ¬ (9223372036854775807 < p.length + 1) := by omega
    have hg2 : ¬ (9223372036854775807 < s.length + (p.length + 1)) := by omega
    go_wp2_with fail
    go_roundw
    case rel => exact ⟨i + 1, by omega, by go_num, by rw [HS.out]; simp [bs_app_data], HB⟩
    case measure => simp [intOf]; omega
   ·have HI := Aside0.mk (show i = ph.length by omega)
    go_wp2_with fail
    go_ret
    exact ⟨by rw [HHD.out, HI.out]; rfl, HB.out⟩
end Go.Proofs.YtdgecgfgekmhcaaDoor.Arr
namespace Go.Proofs.YtdgecgfgekmhcaaDoor.Arr
open Go.RowKit Go.Proofs.YtdgecgfgekmhcaaDoorW.PrintWords Go.Proofs.YtdgecgfgekmhcaaDoorW.PrintLast Go.Proofs.YtdgecgfgekmhcaaDoorW.PrintMore Go.Proofs.YtdgecgfgekmhcaaDoor.U Go.Proofs.YtdgecgfgekmhcaaDoor.J
set_option linter.unusedVariables false
set_option linter.unusedSimpArgs false
theorem FrBelow.readO {w w1 : World} (h : Below w.heap.size w w1) {p : Addr} {v : Value} (hc : w.cell? p = some v) : w1.cell? p = some v :=
 (World.cell?_of_block (w := w) (h.block p.block (World.block_lt_of_cell? w _ hc))).trans hc
set_option maxHeartbeats 4000000 in
set_option maxRecDepth 100000 in
theorem sizedRo_calls (K L S : Int) (A3 : Option Addr) (n3 c3 : Nat) (g : Nat) (w : World) (hb : w.heap[g]? = some (.cells #[.int .i8 K, .int .i8 L, .int .i8 S, .slice A3 n3 c3] 28 (0, 0)))
  (hK : -128 ≤ K ∧ K ≤ 127) (hL : -128 ≤ L ∧ L ≤ 127) (hS : -128 ≤ S ∧ S ≤ 127) :
  Calls Tryd.prog 45 #[.pointer (some ⟨g, 0, none⟩)] w fun e w' => e = .returned (.bool (sizedB K L S)) ∧ Drawn0 w w' := by
 have hc0 : w.cell? ⟨g, 0, none⟩ = some (.int .i8 K) := (blk_cell hb 0).trans rfl
 have hc1 : w.cell? ⟨g, 1, none⟩ = some (.int .i8 L) := (blk_cell hb 1).trans rfl
 have hc2 : w.cell? ⟨g, 2, none⟩ = some (.int .i8 S) := (blk_cell hb 2).trans rfl
 have HK := Aside0.mk (fun W => spec_l00In.calls K 1 10 (decide (1 ≤ K ∧ K ≤ 10)) W (by unfold spec_l00In.f; by_cases h : K ≥ 1 <;> simp [h]))
 have HL := Aside0.mk (fun W => spec_l00In.calls L 1 3 (decide (1 ≤ L ∧ L ≤ 3)) W (by unfold spec_l00In.f; by_cases h : L ≥ 1 <;> simp [h]))
 have HS := Aside0.mk (fun W => spec_l00In.calls S 0 4 (decide (0 ≤ S ∧ S ≤ 4)) W (by unfold spec_l00In.f; by_cases h : S ≥ 0 <;> simp [h]))
 have hwK : wrap64 K = K := w64 (by omega) (by omega)
 have hwL : wrap64 L = L := w64 (by omega) (by omega)
 have hwS : wrap64 S = S := w64 (by omega) (by omega)
 have HZ := Aside0.mk (show sizedB K L S = (decide (1 ≤ K ∧ K ≤ 10) && (decide (1 ≤ L ∧ L ≤ 3) && decide (0 ≤ S ∧ S ≤ 4))) by unfold sizedB; simp)
 generalize sizedB K L S = Z at *
 clear hb hK hL hS
 by_cases h1 : 1 ≤ K ∧ K ≤ 10
 ·rw [decide_eq_true h1] at HK HZ
  by_cases h2 : 1 ≤ L ∧ L ≤ 3
  ·rw [decide_eq_true h2] at HL HZ
   generalize decide (0 ≤ S ∧ S ≤ 4) = z at *
   clear h1 h2
   go_enter Tryd.func45, Tryd.ntmps45
   go_wp2_with (go_at_call 27; first
    | (with_reducible refine (HK.out _).mono ?_; rintro e w1 ⟨rfl, ⟨n1, rfl⟩⟩)
    | (with_reducible refine (HL.out _).mono ?_; rintro e w2 ⟨rfl, ⟨n2, rfl⟩⟩)
    | (with_reducible refine (HS.out _).mono ?_; rintro e w3 ⟨rfl, ⟨n3, rfl⟩⟩))
   go_ret
   exact ⟨by rw [HZ.out]; rfl, _, rfl⟩
  ·rw [decide_eq_false h2] at HL HZ
   clear h1 h2
   go_enter Tryd.func45, Tryd.ntmps45
   go_wp2_with (go_at_call 27; first
    | (with_reducible refine (HK.out _).mono ?_; rintro e w1 ⟨rfl, ⟨n1, rfl⟩⟩)
    | (with_reducible refine (HL.out _).mono ?_; rintro e w2 ⟨rfl, ⟨n2, rfl⟩⟩))
   go_ret
   exact ⟨by rw [HZ.out]; rfl, _, rfl⟩
 ·rw [decide_eq_false h1] at HK HZ
  clear h1
  go_enter Tryd.func45, Tryd.ntmps45
  go_wp2_with (go_at_call 27; with_reducible refine (HK.out _).mono ?_; rintro e w1 ⟨rfl, ⟨n1, rfl⟩⟩)
  go_ret
  exact ⟨by rw [HZ.out]; rfl, _, rfl⟩
set_option maxHeartbeats 4000000 in
set_option maxRecDepth 100000 in
theorem findRo_calls (K L S : Int) (A3 : Option Addr) (c3 : Nat) (ph : List ByteArray) (a : ByteArray) (g : Nat) (w : World) (hb : w.heap[g]? = some (.cells #[.int .i8 K, .int .i8 L, .int .i8 S, .slice A3 ph.length c3] 28 (0, 0))) (hr : Kd.C Kd.string w A3 ph.length ph) (hn : ph.length ≤ 100000000) :
  Calls Tryd.prog 47 #[.pointer (some ⟨g, 0, none⟩), .string a] w fun e w' => e = .returned (.int .i64 (fnd ph a)) ∧ Below w.heap.size w w' := by
 have hc3 : w.cell? ⟨g, 3, none⟩ = some (.slice A3 ph.length c3) := (blk_cell hb 3).trans rfl
 have HC3 := Aside0.mk hc3
 have HR := Aside0.mk hr
 have hmx := Kd.C_max hr
 clear hb hr
 go_enter Tryd.func47, Tryd.ntmps47
 go_wp2_with fail
 go_loopw [5] (fun v5 wr => ∃ i : Nat, i ≤ ph.length ∧ v5 = .int .i64 i ∧ Aside0 (∀ j : Nat, j < i → ∀ y, ph[j]? = some y → decide (y.toList = a.toList) = false) ∧ Aside0 (Below w.heap.size w wr)) (fun v5 _ => ph.length - (intOf v5).toNat)
 case atStart => exact ⟨0, by omega, rfl, ⟨fun j hj => absurd hj (by omega)⟩, ⟨Below.refl _ _⟩⟩
 case round =>
  clear hc3
  obtain ⟨i, hi, rfl, HP, HW⟩ := hrel
  have hc3 := FrBelow.readO HW.out HC3.out
  by_cases hlt : i < ph.length
  ·obtain ⟨ad, hAd, hcs⟩ := Kd.at_string (Kd.C_below HR.out HW.out) (i : Int) (by omega) (by omega)
   subst hAd
   rw [Int.toNat_natCast, rdOf_get ph i hlt] at hcs
   have HX := Aside0.mk (List.getElem?_eq_getElem hlt)
   generalize ph[i] = x at *
   by_cases hx : x.toList = a.toList
   ·have HF := Aside0.mk (show fnd ph a = (i : Int) from ixa_found _ ph i x HX.out HP.out (decide_eq_true hx))
    go_wp2_with fail
    go_ret
    exact ⟨by rw [HF.out]; rfl, HW.out⟩
   ·have HN := Aside0.mk hx
    have hxe : (x.toList == a.toList) = false := by simpa using hx
    clear hx
    go_wp2_with fail
    go_roundw
    case rel => exact ⟨i + 1, by omega, by go_num, ⟨fun j hj y hy => by
     rcases Nat.lt_or_ge j i with h | h
     ·exact HP.out j h y hy
     ·obtain rfl : j = i := by omega
      rw [HX.out] at hy
      rw [← Option.some.inj hy]; exact decide_eq_false HN.out⟩, HW⟩
    case measure => simp [intOf]; omega
  ·have HI := Aside0.mk (show i = ph.length by omega)
   have HF := Aside0.mk (show fnd ph a = -1 from ixa_none _ ph (by rw [← HI.out]; exact HP.out))
   go_wp2_with fail
   go_ret
   exact ⟨by rw [HF.out]; rfl, HW.out⟩
set_option maxHeartbeats 8000000 in
set_option maxRecDepth 100000 in
theorem okRo_calls (K L S : Int) (A3 : Option Addr) (c3 : Nat) (ph : List ByteArray) (g : Nat) (w : World) (hb : w.heap[g]? = some (.cells #[.int .i8 K, .int .i8 L, .int .i8 S, .slice A3 ph.length c3] 28 (0, 0))) (hr : Kd.C Kd.string w A3 ph.length ph) (hK : -128 ≤ K ∧ K ≤ 127) (hL : -128 ≤ L ∧ L ≤ 127) (hS : -128 ≤ S ∧ S ≤ 127) (hn : ph.length ≤ 100000000) (hs : ∀ s ∈ ph, s.size ≤ 140737488351232) :
  Calls Tryd.prog 21 #[.pointer (some ⟨g, 0, none⟩)] w fun e w' => e = .returned (.bool (okBook K L S ph)) ∧ Below w.heap.size w w' := by
 have HG := Aside0.mk (fun W (hW : Below w.heap.size w W) => (hW.block g (lt_of_some hb)).trans hb)
 have HR := Aside0.mk (fun W (hW : Below w.heap.size w W) => Kd.C_below hr hW)
 have HFD := Aside0.mk (fun W (hW : Below w.heap.size w W) (a : ByteArray) => findRo_calls K L S A3 c3 ph a g W (HG.out W hW) (HR.out W hW) hn)
 have HS := Aside0.mk (fun W (hW : Below w.heap.size w W) => sizedRo_calls K L S A3 ph.length c3 g W (HG.out W hW) hK hL hS)
 have HB0 := Aside0.mk (Below.refl w.heap.size w)
 have hc3 := (blk_cell hb 3).trans rfl
 clear hb hr
 cases hz : sizedB K L S with
 | false =>
  have HF := Aside0.mk (show okBook K L S ph = false by unfold okBook; rw [hz]; rfl)
  rw [hz] at HS
  clear hz
  go_enter Tryd.func21, Tryd.ntmps21
  go_wp2_with (go_at_call 45; refine (HS.out _ HB0.out).mono ?_; rintro e w1 ⟨rfl, ⟨n1, rfl⟩⟩; have HB1 := Aside0.mk (pw_below_drewN HB0.out n1))
  go_ret
  exact ⟨by rw [HF.out]; rfl, HB1.out⟩
 | true =>
  have HZ := Aside0.mk hz
  have hzz := of_decide_eq_true hz
  rw [hz] at HS
  clear hz
  by_cases h100 : ph.length ≤ 100
  ·have hle : (ph.length : Int) ≤ 100 := by omega
   have hgt : ¬ (100 : Int) < (ph.length : Int) := by omega
   have hgt2 := decide_eq_false hgt
   have HH := Aside0.mk hs
   obtain ⟨K, rfl⟩ := Int.eq_ofNat_of_zero_le (show 0 ≤ K by omega)
   obtain ⟨L, rfl⟩ := Int.eq_ofNat_of_zero_le (show 0 ≤ L by omega)
   obtain ⟨S, rfl⟩ := Int.eq_ofNat_of_zero_le (show 0 ≤ S by omega)
   have HK4 : Aside0 ((1 ≤ K ∧ K ≤ 10) ∧ L ≤ 3 ∧ S ≤ 4) := ⟨by omega⟩
   clear hs hK hL hS hzz
   go_enter Tryd.func21, Tryd.ntmps21
   go_wp2_with (go_at_call 45; refine (HS.out _ HB0.out).mono ?_; rintro e w1 ⟨rfl, ⟨n1, rfl⟩⟩; have HB1 := Aside0.mk (pw_below_drewN HB0.out n1); have hc4 := (blk_cell (HG.out _ HB1.out) 3).trans rfl)
   go_loopw [3] (fun v3 wr => ∃ i : Nat, i ≤ ph.length ∧ v3 = .int .i64 i ∧ Aside0 (Below w.heap.size w wr) ∧ Aside0 (∀ j : Nat, j < i → phOk ph j = true)) (fun v3 _ => ph.length - (intOf v3).toNat)
   case atStart => exact ⟨0, by omega, rfl, HB1, ⟨fun j hj => absurd hj (by omega)⟩⟩
   case round =>
    clear HB1 hc4 hc3
    obtain ⟨i, hi, rfl, HB, HP⟩ := hrel
    have hb5 := HG.out wr HB.out
    have hr5 := HR.out wr HB.out
    have hc5 := (blk_cell hb5 3).trans rfl
    by_cases hlt : i < ph.length
    ·obtain ⟨ad, hAd, hcs⟩ := Kd.at_string hr5 (i : Int) (by omega) (by omega)
     subst hAd
     rw [Int.toNat_natCast] at hcs
     have HM : Aside0 (rdOf ByteArray.empty ph (i : Int) ∈ ph) := ⟨by rw [rdOf_get ph i hlt]; exact List.getElem_mem hlt⟩
     have HPD := Aside0.mk (show phOk ph i = (phrB (rdOf ByteArray.empty ph (i : Int)) && decide (fnd ph (rdOf ByteArray.empty ph (i : Int)) = (i : Int))) from rfl)
     clear hb5 hr5
     generalize rdOf ByteArray.empty ph (i : Int) = s at *
     obtain ⟨k1, hk1⟩ := (l03Phrase_ev s (HH.out s HM.out)).rounds
     have HPH := Aside0.mk hk1
     have HFI := Aside0.mk (fun W hW => HFD.out W hW s)
     clear hk1
     cases hp : phrB s with
     | false =>
      have HF := Aside0.mk (show okBook K L S ph = false by
       unfold okBook
       rw [decide_eq_false (p := ∀ i : Nat, i < ph.length → phOk ph i = true) (fun h => by have := h i hlt; rw [HPD.out, hp] at this; simp at this)]
       simp)
      rw [hp] at HPH
      clear hp HFI
      go_wp2_with (go_at_call 46; refine (spec_l03Phrase.calls k1 s false _ HPH.out).mono ?_; rintro e w2 ⟨rfl, ⟨n2, rfl⟩⟩)
      go_ret
      exact ⟨by rw [HF.out]; rfl, pw_below_drewN HB.out _⟩
     | true =>
      rw [hp] at HPH
      have HPT := Aside0.mk hp
      clear hp
      by_cases hf : fnd ph s = (i : Int)
      ·have HOK := Aside0.mk (show phOk ph i = true by rw [HPD.out, HPT.out, decide_eq_true hf]; rfl)
       rw [hf] at HFI
       clear hf
       go_wp2_with (first
        | (go_at_call 46; refine (spec_l03Phrase.calls k1 s true _ HPH.out).mono ?_; rintro e w2 ⟨rfl, ⟨n2, rfl⟩⟩)
        | (go_at_call 47; refine (HFI.out _ (pw_below_drewN HB.out n2)).mono ?_; rintro e w3 ⟨rfl, h3⟩; have HB3 := Aside0.mk ((pw_below_drewN HB.out n2).trans (h3.mono (pw_below_drewN HB.out n2).size)); clear h3))
       go_roundw
       case rel => exact ⟨i + 1, by omega, by go_num, HB3, ⟨fun j hj => by
        rcases Nat.lt_or_ge j i with h | h
        ·exact HP.out j h
        ·obtain rfl : j = i := by omega
         exact HOK.out⟩⟩
       case measure => simp [intOf]; omega
      ·have HF := Aside0.mk (show okBook K L S ph = false by
        unfold okBook
        rw [decide_eq_false (p := ∀ i : Nat, i < ph.length → phOk ph i = true) (fun h => by have := h i hlt; rw [HPD.out, decide_eq_false hf] at this; simp at this)]
        simp)
       have hf1 : (fnd ph s != (i : Int)) = true := by rw [bne_iff_ne]; exact hf
       clear hf
       generalize fnd ph s = f at *
       go_wp2_with (first
        | (go_at_call 46; refine (spec_l03Phrase.calls k1 s true _ HPH.out).mono ?_; rintro e w2 ⟨rfl, ⟨n2, rfl⟩⟩)
        | (go_at_call 47; refine (HFI.out _ (pw_below_drewN HB.out n2)).mono ?_; rintro e w3 ⟨rfl, h3⟩; have HB3 := Aside0.mk ((pw_below_drewN HB.out n2).trans (h3.mono (pw_below_drewN HB.out n2).size)); clear h3))
       go_ret
       exact ⟨by rw [HF.out]; rfl, HB3.out⟩
    ·have HI := Aside0.mk (show i = ph.length by omega)
     have HALL := Aside0.mk (show okBook K L S ph = decide (ph.length ≤ (outL K S L).length) by
      unfold okBook
      rw [HZ.out, decide_eq_true h100, decide_eq_true (p := ∀ i : Nat, i < ph.length → phOk ph i = true) (fun j hj => HP.out j (by rw [HI.out]; exact hj)), Int.toNat_natCast, Int.toNat_natCast, Int.toNat_natCast]
      simp)
     have HME := Aside0.mk (fun W (hW : Below w.heap.size w W) => specMeanings_calls K L S A3 ph.length c3 g W (HG.out W hW) HK4.out.1.1 HK4.out.1.2 HK4.out.2.1 HK4.out.2.2)
     clear hb5 hr5
     go_wp2_with fail
     refine start_ (n := 10) (S := fun w' => Below w.heap.size w w') (ds := []) #[false, false, false, false, false, false, false, false, false, false] (by kernel_rfl) rfl rfl (below_drew1 HB.out) (fun hHeld => ?_)
     refine pure_ (i := 0) (N := some 46) (v := ?_) (a' := ?_) #[true, false, false, false, false, false, false, false, false, false] rfl rfl (by kernel_rfl) (fun _ _ _ h => h) (Or.inl ⟨by rfl, ?_⟩) ?_ ?_
     rotate_left
     ·intro w'
      go_simp
      with_reducible rfl
     rotate_left
     ·simp only [Act.put, List.setIfInBounds_toArray, List.set_cons_zero, List.set_cons_succ, i64_w, i32_w]
      rfl
     refine pure_ (i := 1) (N := some 47) (v := ?_) (a' := ?_) #[true, true, false, false, false, false, false, false, false, false] rfl rfl (by kernel_rfl) (fun _ _ _ h => h) (Or.inl ⟨by rfl, ?_⟩) ?_ ?_
     rotate_left
     ·intro w'
      go_simp
      with_reducible rfl
     rotate_left
     ·simp only [Act.put, List.setIfInBounds_toArray, List.set_cons_zero, List.set_cons_succ, i64_w, i32_w]
      rfl
     refine pure_ (i := 2) (N := some 48) (v := ?_) (a' := ?_) #[true, true, true, false, false, false, false, false, false, false] rfl rfl (by kernel_rfl) (fun _ _ _ h => h) (Or.inl ⟨by rfl, ?_⟩) ?_ ?_
     rotate_left
     ·intro w'
      go_simp
      with_reducible rfl
     rotate_left
     ·simp only [Act.put, List.setIfInBounds_toArray, List.set_cons_zero, List.set_cons_succ, i64_w, i32_w]
      rfl
     refine pure_ (i := 5) (N := some 51) (v := ?_) (a' := ?_) #[true, true, true, false, false, true, false, false, false, false] rfl rfl (by kernel_rfl) (fun _ _ _ h => h) (Or.inl ⟨by rfl, ?_⟩) ?_ ?_
     rotate_left
     ·intro w'
      go_simp
      with_reducible rfl
     rotate_left
     ·simp only [Act.put, List.setIfInBounds_toArray, List.set_cons_zero, List.set_cons_succ, i64_w, i32_w]
      rfl
     refine take_ (i := 3) (N := some 49) (v := .slice A3 ph.length c3) (a' := ?_) #[true, true, true, true, false, true, false, false, false, false] rfl rfl (by kernel_rfl) (fun _ _ _ h => h) (Or.inl ⟨by rfl, ?_⟩) hHeld ?_ ?_
     ·intro w' s0
      exact y_cell (by rfl) (by rfl) oneStrS ((blk_cell (HG.out _ s0) 3).trans rfl)
     rotate_left
     ·simp only [Act.put, List.setIfInBounds_toArray, List.set_cons_zero, List.set_cons_succ, i64_w, i32_w]
      rfl
     refine pure_ (i := 4) (N := some 50) (v := ?_) (a' := ?_) #[true, true, true, true, true, true, false, false, false, false] rfl rfl (by kernel_rfl) (fun _ _ _ h => h) (Or.inl ⟨by rfl, ?_⟩) ?_ ?_
     rotate_left
     ·intro w'
      go_simp
      with_reducible rfl
     rotate_left
     ·simp only [Act.put, List.setIfInBounds_toArray, List.set_cons_zero, List.set_cons_succ, i64_w, i32_w]
      rfl
     refine one_ (i := 6) (N := some 52) #[true, true, true, true, true, true, true, false, false, false] rfl rfl (by kernel_rfl) (by decide) (fun K hK => ?_)
     refine goes_ Tryd.func48 (by kernel_rfl) rfl #[.pointer (some ⟨g, 0, none⟩)] (by rfl) rfl rfl (by simp only [List.map_toArray, List.map_cons, List.map_nil]; rfl) ?_
     refine (HME.out _ hHeld).mono ?_
     rintro e w4 ⟨v, rfl, hsv, hb4⟩
     obtain ⟨A7, c7, rfl, _, _⟩ := Kd.S_reads hsv
     clear hsv
     refine ⟨_, rfl, ?_⟩
     refine hK.out _ _ (hHeld.trans (hb4.mono hHeld.size)) (fun hHeld => ?_)
     clear hK K
     refine norm_ (a' := ?_) ?_ ?_
     rotate_left
     ·show Act.put _ (some 52) _ = _
      simp only [Act.put, List.setIfInBounds_toArray, List.set_cons_zero, List.set_cons_succ, i64_w, i32_w]
      rfl
     refine pure_ (i := 7) (N := some 53) (v := ?_) (a' := ?_) #[true, true, true, true, true, true, true, true, false, false] rfl rfl (by kernel_rfl) (fun _ _ _ h => h) (Or.inl ⟨by rfl, ?_⟩) ?_ ?_
     rotate_left
     ·intro w'
      go_simp
      with_reducible rfl
     rotate_left
     ·simp only [Act.put, List.setIfInBounds_toArray, List.set_cons_zero, List.set_cons_succ, i64_w, i32_w]
      rfl
     refine pure_ (i := 8) (N := some 54) (v := ?_) (a' := ?_) #[true, true, true, true, true, true, true, true, true, false] rfl rfl (by kernel_rfl) (fun _ _ _ h => h) (Or.inl ⟨by rfl, ?_⟩) ?_ ?_
     rotate_left
     ·intro w'
      go_simp
      with_reducible rfl
     rotate_left
     ·simp only [Act.put, List.setIfInBounds_toArray, List.set_cons_zero, List.set_cons_succ, i64_w, i32_w]
      rfl
     refine pure_ (i := 9) (N := some 2) (v := ?_) (a' := ?_) #[true, true, true, true, true, true, true, true, true, true] rfl rfl (by kernel_rfl) (fun _ _ _ h => h) (Or.inl ⟨by rfl, ?_⟩) ?_ ?_
     rotate_left
     ·intro w'
      go_simp
      with_reducible rfl
     rotate_left
     ·simp only [Act.put, List.setIfInBounds_toArray, List.set_cons_zero, List.set_cons_succ, i64_w, i32_w]
      rfl
     refine done_ (by kernel_rfl) ?_
     skip
     go_wp2_with fail
     go_ret
     exact ⟨by rw [HALL.out]; rfl, hHeld⟩
  ·have HF := Aside0.mk (show okBook K L S ph = false by unfold okBook; rw [decide_eq_false h100]; simp)
   have hgt : (100 : Int) < (ph.length : Int) := by omega
   have hgt2 := decide_eq_true hgt
   clear h100
   go_enter Tryd.func21, Tryd.ntmps21
   go_wp2_with (go_at_call 45; refine (HS.out _ HB0.out).mono ?_; rintro e w1 ⟨rfl, ⟨n1, rfl⟩⟩; have HB1 := Aside0.mk (pw_below_drewN HB0.out n1); have hc4 := (blk_cell (HG.out _ HB1.out) 3).trans rfl)
   go_ret
   exact ⟨by rw [HF.out]; rfl, HB1.out⟩
end Go.Proofs.YtdgecgfgekmhcaaDoor.Arr
namespace Go.Proofs.YtdgecgfgekmhcaaDoor.Arr
open Go.RowKit Go.Proofs.YtdgecgfgekmhcaaDoorW.PrintWords Go.Proofs.YtdgecgfgekmhcaaDoorW.PrintLast Go.Proofs.YtdgecgfgekmhcaaDoorW.PrintMore Go.Proofs.YtdgecgfgekmhcaaDoor.U Go.Proofs.YtdgecgfgekmhcaaDoor.J
set_option linter.unusedVariables false
set_option linter.unusedSimpArgs false
abbrev bkC (K L S : Int) (A : Option Addr) (n c : Nat) : Array Value := #[.int .i8 K, .int .i8 L, .int .i8 S, .slice A n c]
theorem zeroBook : ZeroTy Tryd.prog 28 (bkC 0 0 0 none 0 0) := ⟨.agg #[.int .i8 0, .int .i8 0, .int .i8 0, .slice none 0 0], by kernel_rfl, rfl⟩
theorem one4B {x y z : Int} {A : Option Addr} {n c : Nat} : (#[.int .i8 x, .int .i8 y, .int .i8 z, .slice A n c] : Array Value).all (·.oneCell') = true := by simp [Array.all_eq_true, Value.oneCell']
theorem infoStr : (Tryd.prog.info? 9).map (fun i => (i.zero, i.size, i.bytes)) = some (some (.string ByteArray.empty), 1, 16) := by kernel_rfl
theorem infoBook : (Tryd.prog.info? 28).map (·.size) = some 4 := by kernel_rfl
theorem builtBook : Tryd.prog.built 28 [] = some (bkC 0 0 0 none 0 0) := by kernel_rfl
section
variable {P : Program} {o : Oper} {a : Act} {w : World}
theorem y_storeRow {ty : TypeId} {x y : Operand} (ho : o.op = .store ty x y) {g : Nat} {cs old : Array Value} {t : TypeId} (hx : a.eval x = .pointer (some ⟨g, 0, none⟩)) (hy : a.eval y = .agg cs) (hb : w.heap[g]? = some (.cells old t (0, 0)))
  (hi : (P.info? ty).map (·.size) = some cs.size) (hold : old.size = cs.size) (h1 : cs.all (·.oneCell') = true) : (execOp a.eval o).run P w = .ok .skip (w.setRow g cs) := by
 have h := run_storeVar_row (P := P) w g t ty old cs hb hi hold h1
 unfold execOp
 simp only [ho, hx, hy, Instr.storeAt, Instr.sureAddr, Sem.run_bind, Sem.run_pure, Result.andThen_ok, h]
theorem ret_row_tmp {fn : Func} {R : Ending → World → Prop} {p u : Tmp} {ty : TypeId} {g m : Nat} {cs : Array Value} {t : TypeId} (hb : w.heap[g]? = some (.cells cs t (0, 0))) (h : fn.results = #[.cell p ty, .tmp u]) (hp : a.tmps.getD p undef = .pointer (some ⟨g, 0, none⟩))
  (hi2 : AggTy P ty m) (hl : cs.size = m) (hd : a.defers = []) (hR : R (.returned (.tuple #[.agg cs, a.tmps.getD u undef])) w) : bodyPost P fn R .ret a w := by
 obtain ⟨hd2, hi0⟩ := hi2
 have hi : (P.info? ty).map (·.size) = some cs.size := by rw [hl]; exact hi0
 cases hu : P.underlying ty with
 | none => simp [hu] at hd2
 | some d =>
  have hld := run_loadVar_row (P := P) w g t ty cs (0, 0) d hb hu (by cases d <;> simp_all) hi
  refine bodyPost_ret (v := .tuple #[.agg cs, a.tmps.getD u undef]) ?_ hd hR
  rw [results_cell_tmp h, hp]
  simp [asAddr, hld]
theorem y_cut {ty e : TypeId} {x : Operand} {lo hi : Option Operand} {l h : Option Value} {v r : Value} (ho : o.op = .slice ty x lo hi none) (hx : a.eval x = v) (hl : lo.map a.eval = l) (hh : hi.map a.eval = h) (hu : P.underlying ty = some (.slice e)) (hr : (Instr.slice ty v l h none).run P w = .ok r w) : (execOp a.eval o).run P w = .ok (.value r) w := by
 unfold execOp
 simp only [ho, hx, hl, hh, Option.map_none, Instr.sliceAt, Sem.run_bind, run_underlying hu w, Result.andThen_ok, hr, Sem.run_pure]
theorem y_elem {ty : TypeId} {x y : Operand} (ho : o.op = .indexAddr ty x y) {g off : Nat} {ki : IntKind} {i : Int} {m : Nat} (hx : a.eval x = .pointer (some ⟨g, off, none⟩)) (hy : a.eval y = .int ki i)
  (hat : ArrTy P ty m) (h0 : 0 ≤ i) (h1 : i < m) : (execOp a.eval o).run P w = .ok (.value (.pointer (some ⟨g, off + i.toNat, none⟩))) w := by
 obtain ⟨e, hu, hd, he⟩ := hat
 have hsz : (sizeOf e).run P w = .ok 1 w := by
  cases hq : P.info? e with
  | none => simp [hq] at he
  | some i => simp [sizeOf, typeInfo, hq, Sem.run_bind]; simpa [hq] using he
 have hadd : (⟨g, off, none⟩ : Addr).add i.toNat = ⟨g, off + i.toNat, none⟩ := by unfold Addr.add; split <;> simp_all
 unfold execOp
 obtain ⟨j, rfl⟩ := Int.eq_ofNat_of_zero_le h0
 have h1' : j < m := by omega
 simp only [Int.toNat_natCast] at hadd
 simp [ho, hx, hy, Instr.indexAt, asIntOf, Instr.sureAddr, Sem.run_bind, run_underlying hu w, hsz, h1', hadd]
theorem y_elemK {ty : TypeId} {x y : Operand} {k : Nat} (ho : o.op = .indexAddr ty x y) {g off : Nat} {ki : IntKind} {i : Int} {m : Nat} (hx : a.eval x = .pointer (some ⟨g, off, none⟩)) (hy : a.eval y = .int ki i)
  (hat : ArrTy P ty m) (h0 : 0 ≤ i) (h1 : i < m) (hk : off + i.toNat = k) : (execOp a.eval o).run P w = .ok (.value (.pointer (some ⟨g, k, none⟩))) w := by
 subst hk
 exact y_elem ho hx hy hat h0 h1
theorem s_allocR {oi : Oper} {ops : Array Oper} {N : Option Tmp} {K : Act → World → Prop} {Q : Exit → Act → World → Prop} {ty : TypeId} (hw : Region.wanted oi (yielded ops a.tmps) = true) (hN : oi.dst = N) (ho : oi.op = .alloc ty) {cs : Array Value} (hzt : ZeroTy P ty cs)
  (h : ∀ g w1, w1.heap[g]? = some (.cells cs ty (0, 0)) → w.heap.size ≤ g → Below w.heap.size w w1 → K (a.put N (.pointer (some ⟨g, 0, none⟩))) w1) : if Region.wanted oi (yielded ops a.tmps) = true then Oper.wp P oi a w K Q else K (a.put N undef) w := by
 obtain ⟨z, hz, rfl⟩ := hzt
 refine value_ hw hN (v := .pointer (some ⟨w.heap.size, 0, none⟩)) (w1 := w.alloc (.cells z.cells ty)) ?_ (h _ _ (Go.heap_alloc_new w _) (Nat.le_refl _) (below_alloc (Below.refl _ _) _))
 unfold execOp
 simp only [ho, Sem.run_bind, run_alloc hz, Sem.run_pure, Result.andThen_ok]
end
theorem C_of_txt {w : World} {bk : Nat} {xs : List (List UInt8)} (hm : xs.length ≤ 1000000000) (h : ∀ (j : Nat) x, xs[j]? = some x → w.cell? ⟨bk, j, none⟩ = some (.string ⟨x.toArray⟩)) : Kd.C Kd.string w (some ⟨bk, 0, none⟩) (txs xs).length (txs xs) := by
 refine ⟨rfl, by simp only [txs, List.length_map]; omega, fun _ => ⟨⟨bk, 0, none⟩, rfl, fun j y hj => ?_⟩⟩
 rw [txs, List.getElem?_map] at hj
 rcases hx : xs[j]? with _ | x
 ·rw [hx] at hj; cases hj
 ·rw [hx] at hj
  obtain rfl := Option.some.inj hj
  refine ⟨[.string ⟨x.toArray⟩], rfl, rfl, fun i u hu => ?_⟩
  match i, hu with
  | 0, hu =>
   obtain rfl := Option.some.inj hu
   have := h j x hx
   have hadd : (⟨bk, 0, none⟩ : Addr).add j = ⟨bk, j, none⟩ := by unfold Addr.add; split <;> simp_all
   rw [← hadd] at this
   simpa [Kd.string, Kd.scalar] using this
  | i + 1, hu => simp at hu
def rdRes (o : Option BK) : BK × Int := match o with | some b => (b, 0) | none => ((0, 0, 0, []), 5)
def GivesB (o : Option BK) (w : World) (e : Ending) (w' : World) : Prop := ∃ v, e = .returned (.tuple #[.agg #[.int .i8 (rdRes o).1.1, .int .i8 (rdRes o).1.2.1, .int .i8 (rdRes o).1.2.2.1, v], .int .i64 (rdRes o).2]) ∧ Kd.R Kd.string 9 w' w.heap.size (fun _ => True) v (txs (rdRes o).1.2.2.2) ∧ Below w.heap.size w w'
theorem gives_none {w w' : World} (h : Below w.heap.size w w') : GivesB none w (.returned (.tuple #[.agg (bkC 0 0 0 none 0 0), .int .i64 5])) w' := ⟨.slice none 0 0, rfl, Kd.R_nil _ _ _ _ _, h⟩
theorem mid_eq (hd : List UInt8) (rest : List (List UInt8)) : ((txs (hd :: rest)).take rest.length).drop 1 = txs rest.dropLast := by
 cases rest with
 | nil => rfl
 | cons x r =>
  rw [txs, ← List.map_take, ← List.map_drop]
  simp [List.dropLast_eq_take]
def rdS2 (rest ws : List (List UInt8)) : Option BK :=
 if rest.length < 1 ∨ 101 < rest.length ∨ rest.getLast? ≠ some [] then none
 else match ws with
  | [a, b, c] =>
   if ((numS a).2 = true ∧ (numS a).1 ≤ 100) ∧ ((numS b).2 = true ∧ (numS b).1 ≤ 100) ∧ ((numS c).2 = true ∧ (numS c).1 ≤ 100) then
    (if okB ((numS a).1, (numS b).1, (numS c).1, rest.dropLast) = true then some ((numS a).1, (numS b).1, (numS c).1, rest.dropLast) else none)
   else none
  | _ => none
theorem rdS_eq {l hd : List UInt8} {rest : List (List UInt8)} (h : sp 10 l = hd :: rest) : rdS l = rdS2 rest (sp 32 hd) := by
 unfold rdS rdS2
 rw [h]
 rfl
theorem rdS2_long {rest ws : List (List UInt8)} (h : rest.length < 1 ∨ 101 < rest.length ∨ rest.getLast? ≠ some []) : rdS2 rest ws = none := if_pos h
theorem rdS2_words {rest ws : List (List UInt8)} (h : ws.length ≠ 3) : rdS2 rest ws = none := by
 unfold rdS2
 split
 ·rfl
 ·match ws, h with
  | [], _ => rfl
  | [_], _ => rfl
  | [_, _], _ => rfl
  | [_, _, _], h => exact absurd rfl h
  | _ :: _ :: _ :: _ :: _, _ => rfl
theorem rdS2_num {rest ws : List (List UInt8)} {i : Nat} {x : List UInt8} (h3 : ws.length = 3) (hx : ws[i]? = some x) (h : ¬ ((numS x).2 = true ∧ (numS x).1 ≤ 100)) : rdS2 rest ws = none := by
 unfold rdS2
 split
 ·rfl
 ·match ws, h3 with
  | [a, b, c], _ =>
   show (if _ then _ else _) = _
   rw [if_neg]
   rintro ⟨h1, h2, h3⟩
   match i, hx with
   | 0, hx => obtain rfl := Option.some.inj hx; exact h h1
   | 1, hx => obtain rfl := Option.some.inj hx; exact h h2
   | 2, hx => obtain rfl := Option.some.inj hx; exact h h3
theorem rdS2_all {rest ws : List (List UInt8)} {L : List Int} (h1 : ¬ (rest.length < 1 ∨ 101 < rest.length ∨ rest.getLast? ≠ some [])) (h3 : ws.length = 3) (h : ∀ j : Nat, j < 3 → ∀ x, ws[j]? = some x → (numS x).2 = true ∧ (numS x).1 ≤ 100 ∧ rd L (j : Int) = (numS x).1) :
  rdS2 rest ws = (if okB (rd L 0, rd L 1, rd L 2, rest.dropLast) = true then some (rd L 0, rd L 1, rd L 2, rest.dropLast) else none) ∧ ((0 ≤ rd L 0 ∧ rd L 0 ≤ 100) ∧ (0 ≤ rd L 1 ∧ rd L 1 ≤ 100) ∧ (0 ≤ rd L 2 ∧ rd L 2 ≤ 100)) := by
 unfold rdS2
 rw [if_neg h1]
 match ws, h3 with
 | [a, b, c], _ =>
  have ha := h 0 (by omega) a rfl
  have hb := h 1 (by omega) b rfl
  have hc := h 2 (by omega) c rfl
  have ga := numS_ge a
  have gb := numS_ge b
  have gc := numS_ge c
  show (if _ then _ else _) = _ ∧ _
  rw [if_pos ⟨⟨ha.1, ha.2.1⟩, ⟨hb.1, hb.2.1⟩, ⟨hc.1, hc.2.1⟩⟩]
  have ea : rd L 0 = (numS a).1 := ha.2.2
  have eb : rd L 1 = (numS b).1 := hb.2.2
  have ec : rd L 2 = (numS c).1 := hc.2.2
  rw [ea, eb, ec]
  exact ⟨rfl, by omega⟩
set_option maxHeartbeats 4000000 in
set_option maxRecDepth 100000 in
theorem cloneS_calls (A0 : Option Addr) (c0 : Nat) (l0 : List ByteArray) (w : World) (hr0 : Kd.C Kd.string w A0 l0.length l0) (hc0 : l0.length ≤ c0) (hn : l0.length < 1048577) :
  Calls Tryd.prog 42 #[.slice A0 l0.length c0] w fun e w' => ∃ v0_ : Value, e = .returned (v0_) ∧ Kd.R Kd.string 9 w' w.heap.size (fun _ => True) v0_ l0 ∧ Below w.heap.size w w' := by
 have HR0 := Aside0.mk hr0
 have hm := Kd.C_max hr0
 have HL := Aside0.mk hn
 clear hr0
 have heq := fun (W : World) (n c : Nat) => Lib.run_eql_slice_nil (P := Tryd.prog) W 23 9 A0 n c 0 0 Tryd.underlying23
 cases A0 with
 | none =>
  have h0 : l0 = [] := by
   rcases Nat.eq_zero_or_pos l0.length with h | h
   ·exact List.eq_nil_of_length_eq_zero h
   ·obtain ⟨ad, e, _⟩ := HR0.out.2.2 h; cases e
  go_enter Tryd.func42, Tryd.ntmps42
  go_wp2_with fail
  go_ret
  exact ⟨_, rfl, by rw [h0]; exact Kd.R_nil _ _ _ _ _, Below.refl _ _⟩
 | some ad =>
  go_enter Tryd.func42, Tryd.ntmps42
  go_wp2_with (first
   | ((with_reducible refine gate_dst (N := 5) rfl ?_); refine Kd.R_lit Kd.string _ 9 ?hg (N := 5) ?hd (xs := ([] : List ByteArray)) (inner := []) (ok := fun _ => True) (okp := fun _ => True) ?hr ?hp (fun _ hk => hk) trivial (Below.refl _ _) (Nat.le_refl _) (by simp) ?_; (case hd => rfl); (case hg => rfl); (case hr => first | (go_simp; done) | (go_simp; rfl)); (case hp => exact (Reps.none _ _)); intro v1 w1 ho hb _ _; have HO := Aside0.mk ho; have HB := Aside0.mk hb; clear ho hb)
   | ((with_reducible refine gate_builtin (b := .append) (xs := #[.tmp 5, .tmp 6]) rfl ?_); at_builtin; refine Kd.R_append_rows Kd.string (w0 := w) w.heap.size rfl (.tmp 5) (.tmp 6) 23 9 (.string ByteArray.empty) 16 rfl Tryd.underlying23 infoStr rfl (by decide) (by omega) v1 [] l0 _ _ _ (fun _ => True) (fun _ => False) rfl rfl ?aO ?aR (fun _ _ h => h) (fun _ h => h.elim) (fun _ _ => trivial) ?aB ?aS ?aL ?_; (case aR => exact Kd.C_below HR0.out HB.out); (case aB => exact HB.out); (case aO => exact HO.out); (case aS => exact HB.out.size); (case aL => have := HL.out; simp; omega); intro v2 w2 ho hb _ _; have HO2 := Aside0.mk ho; have HB2 := Aside0.mk hb; clear ho hb))
  go_ret
  exact ⟨_, rfl, HO2.out, HB2.out⟩
def rdI2 (rest ws : List (List UInt8)) (t : List UInt8) : Option BK :=
 match ws with
 | [a, b, c] =>
  if rest.length < 1 then none
  else match numI 10 a, numI 10 b, numI 10 c with
   | some x, some y, some z => if (if okB ((x : Int), (y : Int), (z : Int), rest.dropLast) = true then bookT ((x : Int), (y : Int), (z : Int), rest.dropLast) else []) = t then some ((x : Int), (y : Int), (z : Int), rest.dropLast) else none
   | _, _, _ => none
 | _ => none
theorem rdI_eq {l hd : List UInt8} {rest : List (List UInt8)} (h : sp 10 l = hd :: rest) : rdI l = rdI2 rest (sp 32 hd) l := by
 unfold rdI rdI2
 rw [h]
 rfl
theorem rdI2_words {rest ws : List (List UInt8)} {t : List UInt8} (h : ws.length ≠ 3) : rdI2 rest ws t = none := by
 match ws, h with
 | [], _ => rfl
 | [_], _ => rfl
 | [_, _], _ => rfl
 | [_, _, _], h => exact absurd rfl h
 | _ :: _ :: _ :: _ :: _, _ => rfl
theorem rdI2_short {rest ws : List (List UInt8)} {t : List UInt8} (h : rest.length < 1) : rdI2 rest ws t = none := by
 by_cases h3 : ws.length = 3
 ·match ws, h3 with
  | [a, b, c], _ => exact if_pos h
 ·exact rdI2_words h3
theorem rdI2_num {rest ws : List (List UInt8)} {t : List UInt8} {i : Nat} {x : List UInt8} (h3 : ws.length = 3) (hx : ws[i]? = some x) (h : numI 10 x = none) : rdI2 rest ws t = none := by
 match ws, h3 with
 | [a, b, c], _ =>
  show (if _ then _ else _) = _
  split
  ·rfl
  ·match i, hx with
   | 0, hx => obtain rfl := Option.some.inj hx; rw [h]
   | 1, hx => obtain rfl := Option.some.inj hx; rw [h]; cases numI 10 a <;> rfl
   | 2, hx => obtain rfl := Option.some.inj hx; rw [h]; cases numI 10 a <;> cases numI 10 b <;> rfl
theorem bookX_list (b : BK) : (bookX b).toList = (if okB b = true then bookT b else []) := by
 unfold bookX
 split
 ·rw [Lib.toList_data]
 ·rw [Lib.toList_data]; rfl
theorem rdI2_all {rest ws : List (List UInt8)} {t : List UInt8} {L : List Int} (h1 : ¬ rest.length < 1) (h3 : ws.length = 3) (h : ∀ j : Nat, j < 3 → ∀ x, ws[j]? = some x → ∃ k, numI 10 x = some k ∧ rd L (j : Int) = (k : Int)) :
  rdI2 rest ws t = (if (bookX (rd L 0, rd L 1, rd L 2, rest.dropLast)).toList = (⟨t.toArray⟩ : ByteArray).toList then some (rd L 0, rd L 1, rd L 2, rest.dropLast) else none) ∧ ((0 ≤ rd L 0 ∧ rd L 0 ≤ 10) ∧ (0 ≤ rd L 1 ∧ rd L 1 ≤ 10) ∧ (0 ≤ rd L 2 ∧ rd L 2 ≤ 10)) := by
 match ws, h3 with
 | [a, b, c], _ =>
  obtain ⟨x, hx, ex⟩ := h 0 (by omega) a rfl
  obtain ⟨y, hy, ey⟩ := h 1 (by omega) b rfl
  obtain ⟨z, hz, ez⟩ := h 2 (by omega) c rfl
  have bx := (numI_some (by omega) hx).1
  have by' := (numI_some (by omega) hy).1
  have bz := (numI_some (by omega) hz).1
  have ex : rd L 0 = (x : Int) := ex
  have ey : rd L 1 = (y : Int) := ey
  have ez : rd L 2 = (z : Int) := ez
  refine ⟨?_, by omega⟩
  show (if _ then _ else _) = _
  rw [if_neg h1, hx, hy, hz, bookX_list, ex, ey, ez]
  have : (⟨t.toArray⟩ : ByteArray).toList = t := by rw [Lib.toList_data]
  rw [this]
end Go.Proofs.YtdgecgfgekmhcaaDoor.Arr
namespace Go.Proofs.YtdgecgfgekmhcaaDoor.Arr
open Go.RowKit Go.Proofs.YtdgecgfgekmhcaaDoorW.PrintWords Go.Proofs.YtdgecgfgekmhcaaDoorW.PrintLast Go.Proofs.YtdgecgfgekmhcaaDoorW.PrintMore Go.Proofs.YtdgecgfgekmhcaaDoor.U Go.Proofs.YtdgecgfgekmhcaaDoor.J
set_option linter.unusedVariables false
set_option linter.unusedSimpArgs false
set_option maxHeartbeats 8000000 in
set_option maxRecDepth 100000 in
theorem specReadBook_calls (l : List UInt8) (hl : l.length ≤ 1048576) (w : World) :
  Calls Tryd.prog 16 #[.string ⟨l.toArray⟩] w fun e w' => GivesB (rdS l) w e w' := by
 have hm := Mem.start w
 have HS : Aside0 (∀ W, Calls Tryd.prog 28 #[.string ⟨l.toArray⟩, .int .u8 10] W _) := ⟨fun W => splitK_calls 10 l hl W⟩
 have hwl := sp_len 10 l
 have HWM := sp_mem 10 l
 obtain ⟨hd, rest, hWS⟩ := List.exists_cons_of_ne_nil (sp_ne 10 l)
 have HV := Aside0.mk (rdS_eq hWS)
 generalize rdS l = V at *
 rw [hWS] at HS hwl HWM
 have hhl : hd.length ≤ 1048576 := Nat.le_trans (HWM hd (List.mem_cons_self ..)) hl
 have HS2 : Aside0 (∀ W, Calls Tryd.prog 28 #[.string ⟨hd.toArray⟩, .int .u8 32] W _) := ⟨fun W => splitK_calls 32 hd hhl W⟩
 have hrl : rest.length ≤ 1048576 := by simp at hwl; omega
 have HQL : Aside0 (∀ p ∈ txs rest.dropLast, p.size ≤ 140737488351232) := ⟨fun p hp => by
  simp only [txs, List.mem_map] at hp
  obtain ⟨x, hx, rfl⟩ := hp
  rw [bs_size]
  have := HWM x (List.mem_cons_of_mem _ ((List.dropLast_sublist rest).subset hx))
  omega⟩
 clear hwl HWM hWS
 generalize sp 32 hd = WS2 at *
 have hw1 : wrap64 ((rest.length : Int) + 1 - 1) = (rest.length : Int) := by rw [w64 (by omega) (by omega)]; omega
 by_cases h1 : rest.length < 1
 ·have HVN := Aside0.mk (HV.out.trans (rdS2_long (Or.inl h1)))
  have h1i : (rest.length : Int) < 1 := by omega
  have h1d := decide_eq_true h1i
  clear HV
  go_enter Tryd.func16, Tryd.ntmps16
  go_wp2_with (first
   | ((with_reducible refine gt_alloc 2 28 ?_); refine st_alloc rfl 2 rfl 28 rfl hm zeroBook ?_; clear hm; intro g2 w2 hm)
   | (go_at_call 28; first
     | ((with_reducible refine (HS.out _).mono ?_); rintro e wa ⟨bk, cap, R, rfl, hR, ho, HT, hb, hcap⟩; replace hm := hm.grow hb; rw [hR] at hm; have hc0 := HT wa (fun e he => (hm.ent e (by simp [he])).1) 0 hd rfl; clear hb hR)
     | ((with_reducible refine (HS2.out _).mono ?_); rintro e wb ⟨bk2, cap2, R2, rfl, hR2, ho2, HT2, hb2, _⟩; replace hm := hm.grow hb2; rw [hR2] at hm; skip; clear hb2 hR2))
   | ((with_reducible refine gt_build 28 ?_); refine st_zero rfl 28 rfl builtBook ?_)
   | ((with_reducible refine gt_store 28 ?_); refine st_store rfl 28 _ _ rfl hm rfl rfl 0 rfl infoBook rfl one4B ?_; clear hm; intro ws hm; replace hm : Mem w ws (⟨g2, bkC 0 0 0 none 0 0, 28, true⟩ :: (R ++ R2)) := hm))
  try simp only [Exit.inBlock, Exit.then]
  refine ret_row_tmp (cs := bkC 0 0 0 none 0 0) (hm.mem (n := 0) rfl) rfl rfl aggBook rfl rfl ?_
  rw [HVN.out]
  exact gives_none (hm.done (by simp [ho, ho2]))
 by_cases h2 : 101 < rest.length
 ·have HVN := Aside0.mk (HV.out.trans (rdS2_long (Or.inr (Or.inl h2))))
  have h1i : ¬ (rest.length : Int) < 1 := by omega
  have h1d := decide_eq_false h1i
  have h2i : (101 : Int) < (rest.length : Int) := by omega
  have h2d := decide_eq_true h2i
  clear HV
  go_enter Tryd.func16, Tryd.ntmps16
  go_wp2_with (first
   | ((with_reducible refine gt_alloc 2 28 ?_); refine st_alloc rfl 2 rfl 28 rfl hm zeroBook ?_; clear hm; intro g2 w2 hm)
   | (go_at_call 28; first
     | ((with_reducible refine (HS.out _).mono ?_); rintro e wa ⟨bk, cap, R, rfl, hR, ho, HT, hb, hcap⟩; replace hm := hm.grow hb; rw [hR] at hm; have hc0 := HT wa (fun e he => (hm.ent e (by simp [he])).1) 0 hd rfl; clear hb hR)
     | ((with_reducible refine (HS2.out _).mono ?_); rintro e wb ⟨bk2, cap2, R2, rfl, hR2, ho2, HT2, hb2, _⟩; replace hm := hm.grow hb2; rw [hR2] at hm; skip; clear hb2 hR2))
   | ((with_reducible refine gt_build 28 ?_); refine st_zero rfl 28 rfl builtBook ?_)
   | ((with_reducible refine gt_store 28 ?_); refine st_store rfl 28 _ _ rfl hm rfl rfl 0 rfl infoBook rfl one4B ?_; clear hm; intro ws hm; replace hm : Mem w ws (⟨g2, bkC 0 0 0 none 0 0, 28, true⟩ :: (R ++ R2)) := hm))
  try simp only [Exit.inBlock, Exit.then]
  refine ret_row_tmp (cs := bkC 0 0 0 none 0 0) (hm.mem (n := 0) rfl) rfl rfl aggBook rfl rfl ?_
  rw [HVN.out]
  exact gives_none (hm.done (by simp [ho, ho2]))
 obtain ⟨z, hzl⟩ : ∃ z, rest.getLast? = some z := by
  cases hz : rest.getLast? with
  | none => rw [List.getLast?_eq_none_iff] at hz; subst hz; simp at h1
  | some z => exact ⟨z, rfl⟩
 have hzg := Aside0.mk hzl
 replace hzl : (hd :: rest)[rest.length]? = some z := by
  rw [List.getLast?_eq_getElem?] at hzl
  rw [← hzl, List.getElem?_cons, if_neg (by omega)]
 have h1i : ¬ (rest.length : Int) < 1 := by omega
 have h1d := decide_eq_false h1i
 have h2i : ¬ (101 : Int) < (rest.length : Int) := by omega
 have h2d := decide_eq_false h2i
 have hix : (rest.length : Int) < (rest.length : Int) + 1 := by omega
 cases z with
 | cons zc zr =>
  have HVN := Aside0.mk (HV.out.trans (rdS2_long (Or.inr (Or.inr (by rw [hzg.out]; simp)))))
  clear HV
  go_enter Tryd.func16, Tryd.ntmps16
  go_wp2_with (first
   | ((with_reducible refine gt_alloc 2 28 ?_); refine st_alloc rfl 2 rfl 28 rfl hm zeroBook ?_; clear hm; intro g2 w2 hm)
   | (go_at_call 28; first
     | ((with_reducible refine (HS.out _).mono ?_); rintro e wa ⟨bk, cap, R, rfl, hR, ho, HT, hb, hcap⟩; replace hm := hm.grow hb; rw [hR] at hm; have hc0 := HT wa (fun e he => (hm.ent e (by simp [he])).1) 0 hd rfl; clear hb hR)
     | ((with_reducible refine (HS2.out _).mono ?_); rintro e wb ⟨bk2, cap2, R2, rfl, hR2, ho2, HT2, hb2, _⟩; replace hm := hm.grow hb2; rw [hR2] at hm; have hcl := HT wb (fun e he => (hm.ent e (by simp [he])).1) rest.length _ hzl; clear hb2 hR2))
   | ((with_reducible refine gt_build 28 ?_); refine st_zero rfl 28 rfl builtBook ?_)
   | ((with_reducible refine gt_store 28 ?_); refine st_store rfl 28 _ _ rfl hm rfl rfl 0 rfl infoBook rfl one4B ?_; clear hm; intro ws hm; replace hm : Mem w ws (⟨g2, bkC 0 0 0 none 0 0, 28, true⟩ :: (R ++ R2)) := hm))
  try simp only [Exit.inBlock, Exit.then]
  refine ret_row_tmp (cs := bkC 0 0 0 none 0 0) (hm.mem (n := 0) rfl) rfl rfl aggBook rfl rfl ?_
  rw [HVN.out]
  exact gives_none (hm.done (by simp [ho, ho2]))
 | nil =>
  by_cases h3 : WS2.length = 3
  ·have HS3 : Aside0 (∀ W, Calls Tryd.prog 28 #[.string ⟨hd.toArray⟩, .int .u8 32] W fun e w' => ∃ bk cap R, e = .returned (.slice (some ⟨bk, 0, none⟩) 3 cap) ∧ newEnts w' W.heap.size = R ∧ R.all (·.own) = true ∧ TxAt R bk WS2 ∧ Below W.heap.size W w' ∧ 3 ≤ cap) := ⟨fun W => by
    have := HS2.out W
    rw [h3] at this
    exact this⟩
   clear HS2
   have HH1 := Aside0.mk (show ¬ (rest.length < 1 ∨ 101 < rest.length ∨ rest.getLast? ≠ some []) from fun h => by
    rcases h with h | h | h
    ·exact h1 h
    ·exact h2 h
    ·exact h hzg.out)
   have HNU := Aside0.mk (fun x W => num_calls x W)
   go_enter Tryd.func16, Tryd.ntmps16
   go_wp2_with (first
    | (first | fail | ((with_reducible refine gt_build 64 ?_); refine st_zero rfl 64 rfl built64 ?_) | ((with_reducible refine gt_alloc 7 64 ?_); refine st_alloc rfl 7 rfl 64 rfl hm zero64 ?_; clear hm; intro g7 w7 hm) | ((with_reducible refine gt_store 64 ?_); (first | (refine st_full rfl 64 _ _ rfl hm rfl rfl 0 rfl agg64 (by first | omega | assumption | (simp only [lens]; first | omega | assumption) | (simp [lens]; done) | (simp [lens]; omega)) (by first | omega | assumption | (simp only [lens]; first | omega | assumption) | (simp [lens]; done) | (simp [lens]; omega)) ?_) | (refine st_full rfl 64 _ _ rfl hm rfl rfl 1 rfl agg64 (by first | omega | assumption | (simp only [lens]; first | omega | assumption) | (simp [lens]; done) | (simp [lens]; omega)) (by first | omega | assumption | (simp only [lens]; first | omega | assumption) | (simp [lens]; done) | (simp [lens]; omega)) ?_) | (refine st_full rfl 64 _ _ rfl hm rfl rfl 2 rfl agg64 (by first | omega | assumption | (simp only [lens]; first | omega | assumption) | (simp [lens]; done) | (simp [lens]; omega)) (by first | omega | assumption | (simp only [lens]; first | omega | assumption) | (simp [lens]; done) | (simp [lens]; omega)) ?_) | (refine st_full rfl 64 _ _ rfl hm rfl rfl 3 rfl agg64 (by first | omega | assumption | (simp only [lens]; first | omega | assumption) | (simp [lens]; done) | (simp [lens]; omega)) (by first | omega | assumption | (simp only [lens]; first | omega | assumption) | (simp [lens]; done) | (simp [lens]; omega)) ?_) | (refine st_full rfl 64 _ _ rfl hm rfl rfl 4 rfl agg64 (by first | omega | assumption | (simp only [lens]; first | omega | assumption) | (simp [lens]; done) | (simp [lens]; omega)) (by first | omega | assumption | (simp only [lens]; first | omega | assumption) | (simp [lens]; done) | (simp [lens]; omega)) ?_) | (refine st_put rfl 64 _ _ rfl hm rfl rfl 0 rfl agg64 (by first | omega | assumption | (simp only [lens]; first | omega | assumption) | (simp [lens]; done) | (simp [lens]; omega)) (by first | omega | assumption | (simp only [lens]; first | omega | assumption) | (simp [lens]; done) | (simp [lens]; omega)) ?_) | (refine st_put rfl 64 _ _ rfl hm rfl rfl 1 rfl agg64 (by first | omega | assumption | (simp only [lens]; first | omega | assumption) | (simp [lens]; done) | (simp [lens]; omega)) (by first | omega | assumption | (simp only [lens]; first | omega | assumption) | (simp [lens]; done) | (simp [lens]; omega)) ?_) | (refine st_put rfl 64 _ _ rfl hm rfl rfl 2 rfl agg64 (by first | omega | assumption | (simp only [lens]; first | omega | assumption) | (simp [lens]; done) | (simp [lens]; omega)) (by first | omega | assumption | (simp only [lens]; first | omega | assumption) | (simp [lens]; done) | (simp [lens]; omega)) ?_) | (refine st_put rfl 64 _ _ rfl hm rfl rfl 3 rfl agg64 (by first | omega | assumption | (simp only [lens]; first | omega | assumption) | (simp [lens]; done) | (simp [lens]; omega)) (by first | omega | assumption | (simp only [lens]; first | omega | assumption) | (simp [lens]; done) | (simp [lens]; omega)) ?_) | (refine st_put rfl 64 _ _ rfl hm rfl rfl 4 rfl agg64 (by first | omega | assumption | (simp only [lens]; first | omega | assumption) | (simp [lens]; done) | (simp [lens]; omega)) (by first | omega | assumption | (simp only [lens]; first | omega | assumption) | (simp [lens]; done) | (simp [lens]; omega)) ?_)); clear hm; intro ws hm; simp only [List.set_cons_zero, List.set_cons_succ] at hm) | ((with_reducible refine gt_elem 64 ?_); refine st_elem rfl 64 _ _ rfl rfl rfl arr64 (by first | omega | assumption | (simp only [lens]; first | omega | assumption) | (simp [lens]; done) | (simp [lens]; omega)) (by first | omega | assumption | (simp only [lens]; first | omega | assumption) | (simp [lens]; done) | (simp [lens]; omega)) ?_) | ((with_reducible refine gt_store 2 ?_); (first | (refine st_set rfl 2 _ _ rfl hm rfl rfl 0 rfl one2 (by first | omega | assumption | (simp only [lens]; first | omega | assumption) | (simp [lens]; done) | (simp [lens]; omega)) ?_) | (refine st_set rfl 2 _ _ rfl hm rfl rfl 1 rfl one2 (by first | omega | assumption | (simp only [lens]; first | omega | assumption) | (simp [lens]; done) | (simp [lens]; omega)) ?_) | (refine st_set rfl 2 _ _ rfl hm rfl rfl 2 rfl one2 (by first | omega | assumption | (simp only [lens]; first | omega | assumption) | (simp [lens]; done) | (simp [lens]; omega)) ?_) | (refine st_set rfl 2 _ _ rfl hm rfl rfl 3 rfl one2 (by first | omega | assumption | (simp only [lens]; first | omega | assumption) | (simp [lens]; done) | (simp [lens]; omega)) ?_) | (refine st_set rfl 2 _ _ rfl hm rfl rfl 4 rfl one2 (by first | omega | assumption | (simp only [lens]; first | omega | assumption) | (simp [lens]; done) | (simp [lens]; omega)) ?_)); clear hm; intro ws hm; simp only [List.set_cons_zero, List.set_cons_succ] at hm) | ((with_reducible refine gt_load 2 ?_); (first | (refine st_get rfl 2 _ rfl hm rfl 0 rfl one2 (by first | omega | assumption | (simp only [lens]; first | omega | assumption) | (simp [lens]; done) | (simp [lens]; omega)) ?_) | (refine st_get rfl 2 _ rfl hm rfl 1 rfl one2 (by first | omega | assumption | (simp only [lens]; first | omega | assumption) | (simp [lens]; done) | (simp [lens]; omega)) ?_) | (refine st_get rfl 2 _ rfl hm rfl 2 rfl one2 (by first | omega | assumption | (simp only [lens]; first | omega | assumption) | (simp [lens]; done) | (simp [lens]; omega)) ?_) | (refine st_get rfl 2 _ rfl hm rfl 3 rfl one2 (by first | omega | assumption | (simp only [lens]; first | omega | assumption) | (simp [lens]; done) | (simp [lens]; omega)) ?_) | (refine st_get rfl 2 _ rfl hm rfl 4 rfl one2 (by first | omega | assumption | (simp only [lens]; first | omega | assumption) | (simp [lens]; done) | (simp [lens]; omega)) ?_))))
    | ((with_reducible refine gt_alloc 2 28 ?_); refine st_alloc rfl 2 rfl 28 rfl hm zeroBook ?_; clear hm; intro g2 w2 hm)
    | (go_at_call 28; first
      | ((with_reducible refine (HS.out _).mono ?_); rintro e wa ⟨bk, cap, R, rfl, hR, ho, HT, hb, hcap⟩; replace hm := hm.grow hb; rw [hR] at hm; have hc0 := HT wa (fun e he => (hm.ent e (by simp [he])).1) 0 hd rfl; clear hb hR)
      | ((with_reducible refine (HS3.out _).mono ?_); rintro e wb ⟨bk2, cap2, R2, rfl, hR2, ho2, HT2, hb2, _⟩; replace hm := hm.grow hb2; rw [hR2] at hm; have hcl := HT wb (fun e he => (hm.ent e (by simp [he])).1) rest.length _ hzl; clear hb2 hR2)))
   go_loopw [8] (fun v8 wr => ∃ (i : Nat) (L : List Int), i ≤ 3 ∧ v8 = .int .i64 i ∧ L.length = 3 ∧ Aside0 (∀ j : Nat, j < i → ∀ x, WS2[j]? = some x → (numS x).2 = true ∧ (numS x).1 ≤ 100 ∧ rd L (j : Int) = (numS x).1) ∧ Mem w wr (⟨g7, vals .i64 L, 64, true⟩ :: ⟨g2, bkC 0 0 0 none 0 0, 28, true⟩ :: (R ++ R2))) (fun v8 _ => 3 - (intOf v8).toNat)
   case atStart => exact ⟨0, zs 3, by omega, rfl, zs_length, ⟨fun j hj => absurd hj (by omega)⟩, hm⟩
   case round =>
    clear hm hc0 hcl
    obtain ⟨i, L, hi, rfl, hLl, HN, hm⟩ := hrel
    by_cases hlt : i < 3
    ·have hlt2 : (i : Int) < 3 := by omega
     obtain ⟨x, hx⟩ : ∃ x, WS2[i]? = some x := ⟨_, List.getElem?_eq_getElem (by omega)⟩
     have HX := Aside0.mk hx
     have hc := HT2 wr (fun e he => (hm.ent e (by simp [he])).1) i x hx
     have hng := numS_ge x
     have HNX := Aside0.mk (HNU.out x)
     by_cases hok : (numS x).2 = true ∧ (numS x).1 ≤ 100
     ·have HOK := Aside0.mk (And.intro hok.1 (And.intro hok.2 (rfl : (numS x).1 = (numS x).1)))
      obtain ⟨hok1, hok2⟩ := hok
      have HOK2 : Aside0 (∀ y, WS2[i]? = some y → (numS y).2 = true ∧ (numS y).1 ≤ 100 ∧ (numS x).1 = (numS y).1) := ⟨fun y hy => by
       rw [HX.out] at hy
       obtain rfl := Option.some.inj hy
       exact HOK.out⟩
      rw [hok1] at HNX
      clear hok1 HOK hx
      generalize (numS x).1 = n at *
      have hg : ¬ (100 : Int) < n := by omega
      have hgd := decide_eq_false hg
      go_wp2_with (first
       | (first | fail | ((with_reducible refine gt_build 64 ?_); refine st_zero rfl 64 rfl built64 ?_) | ((with_reducible refine gt_alloc 7 64 ?_); refine st_alloc rfl 7 rfl 64 rfl hm zero64 ?_; clear hm; intro g7 w7 hm) | ((with_reducible refine gt_store 64 ?_); (first | (refine st_full rfl 64 _ _ rfl hm rfl rfl 0 rfl agg64 (by first | omega | assumption | (simp only [lens]; first | omega | assumption) | (simp [lens]; done) | (simp [lens]; omega)) (by first | omega | assumption | (simp only [lens]; first | omega | assumption) | (simp [lens]; done) | (simp [lens]; omega)) ?_) | (refine st_full rfl 64 _ _ rfl hm rfl rfl 1 rfl agg64 (by first | omega | assumption | (simp only [lens]; first | omega | assumption) | (simp [lens]; done) | (simp [lens]; omega)) (by first | omega | assumption | (simp only [lens]; first | omega | assumption) | (simp [lens]; done) | (simp [lens]; omega)) ?_) | (refine st_full rfl 64 _ _ rfl hm rfl rfl 2 rfl agg64 (by first | omega | assumption | (simp only [lens]; first | omega | assumption) | (simp [lens]; done) | (simp [lens]; omega)) (by first | omega | assumption | (simp only [lens]; first | omega | assumption) | (simp [lens]; done) | (simp [lens]; omega)) ?_) | (refine st_full rfl 64 _ _ rfl hm rfl rfl 3 rfl agg64 (by first | omega | assumption | (simp only [lens]; first | omega | assumption) | (simp [lens]; done) | (simp [lens]; omega)) (by first | omega | assumption | (simp only [lens]; first | omega | assumption) | (simp [lens]; done) | (simp [lens]; omega)) ?_) | (refine st_full rfl 64 _ _ rfl hm rfl rfl 4 rfl agg64 (by first | omega | assumption | (simp only [lens]; first | omega | assumption) | (simp [lens]; done) | (simp [lens]; omega)) (by first | omega | assumption | (simp only [lens]; first | omega | assumption) | (simp [lens]; done) | (simp [lens]; omega)) ?_) | (refine st_put rfl 64 _ _ rfl hm rfl rfl 0 rfl agg64 (by first | omega | assumption | (simp only [lens]; first | omega | assumption) | (simp [lens]; done) | (simp [lens]; omega)) (by first | omega | assumption | (simp only [lens]; first | omega | assumption) | (simp [lens]; done) | (simp [lens]; omega)) ?_) | (refine st_put rfl 64 _ _ rfl hm rfl rfl 1 rfl agg64 (by first | omega | assumption | (simp only [lens]; first | omega | assumption) | (simp [lens]; done) | (simp [lens]; omega)) (by first | omega | assumption | (simp only [lens]; first | omega | assumption) | (simp [lens]; done) | (simp [lens]; omega)) ?_) | (refine st_put rfl 64 _ _ rfl hm rfl rfl 2 rfl agg64 (by first | omega | assumption | (simp only [lens]; first | omega | assumption) | (simp [lens]; done) | (simp [lens]; omega)) (by first | omega | assumption | (simp only [lens]; first | omega | assumption) | (simp [lens]; done) | (simp [lens]; omega)) ?_) | (refine st_put rfl 64 _ _ rfl hm rfl rfl 3 rfl agg64 (by first | omega | assumption | (simp only [lens]; first | omega | assumption) | (simp [lens]; done) | (simp [lens]; omega)) (by first | omega | assumption | (simp only [lens]; first | omega | assumption) | (simp [lens]; done) | (simp [lens]; omega)) ?_) | (refine st_put rfl 64 _ _ rfl hm rfl rfl 4 rfl agg64 (by first | omega | assumption | (simp only [lens]; first | omega | assumption) | (simp [lens]; done) | (simp [lens]; omega)) (by first | omega | assumption | (simp only [lens]; first | omega | assumption) | (simp [lens]; done) | (simp [lens]; omega)) ?_)); clear hm; intro ws hm; simp only [List.set_cons_zero, List.set_cons_succ] at hm) | ((with_reducible refine gt_elem 64 ?_); refine st_elem rfl 64 _ _ rfl rfl rfl arr64 (by first | omega | assumption | (simp only [lens]; first | omega | assumption) | (simp [lens]; done) | (simp [lens]; omega)) (by first | omega | assumption | (simp only [lens]; first | omega | assumption) | (simp [lens]; done) | (simp [lens]; omega)) ?_) | ((with_reducible refine gt_store 2 ?_); (first | (refine st_set rfl 2 _ _ rfl hm rfl rfl 0 rfl one2 (by first | omega | assumption | (simp only [lens]; first | omega | assumption) | (simp [lens]; done) | (simp [lens]; omega)) ?_) | (refine st_set rfl 2 _ _ rfl hm rfl rfl 1 rfl one2 (by first | omega | assumption | (simp only [lens]; first | omega | assumption) | (simp [lens]; done) | (simp [lens]; omega)) ?_) | (refine st_set rfl 2 _ _ rfl hm rfl rfl 2 rfl one2 (by first | omega | assumption | (simp only [lens]; first | omega | assumption) | (simp [lens]; done) | (simp [lens]; omega)) ?_) | (refine st_set rfl 2 _ _ rfl hm rfl rfl 3 rfl one2 (by first | omega | assumption | (simp only [lens]; first | omega | assumption) | (simp [lens]; done) | (simp [lens]; omega)) ?_) | (refine st_set rfl 2 _ _ rfl hm rfl rfl 4 rfl one2 (by first | omega | assumption | (simp only [lens]; first | omega | assumption) | (simp [lens]; done) | (simp [lens]; omega)) ?_)); clear hm; intro ws hm; simp only [List.set_cons_zero, List.set_cons_succ] at hm) | ((with_reducible refine gt_load 2 ?_); (first | (refine st_get rfl 2 _ rfl hm rfl 0 rfl one2 (by first | omega | assumption | (simp only [lens]; first | omega | assumption) | (simp [lens]; done) | (simp [lens]; omega)) ?_) | (refine st_get rfl 2 _ rfl hm rfl 1 rfl one2 (by first | omega | assumption | (simp only [lens]; first | omega | assumption) | (simp [lens]; done) | (simp [lens]; omega)) ?_) | (refine st_get rfl 2 _ rfl hm rfl 2 rfl one2 (by first | omega | assumption | (simp only [lens]; first | omega | assumption) | (simp [lens]; done) | (simp [lens]; omega)) ?_) | (refine st_get rfl 2 _ rfl hm rfl 3 rfl one2 (by first | omega | assumption | (simp only [lens]; first | omega | assumption) | (simp [lens]; done) | (simp [lens]; omega)) ?_) | (refine st_get rfl 2 _ rfl hm rfl 4 rfl one2 (by first | omega | assumption | (simp only [lens]; first | omega | assumption) | (simp [lens]; done) | (simp [lens]; omega)) ?_))))
       | (go_at_call 40; refine (HNX.out _).mono ?_; rintro e wc ⟨rfl, hbc⟩; replace hm := hm.after hbc; clear hbc))
      go_roundw
      case rel => exact ⟨i + 1, L.set i n, by omega, by go_num, by rw [List.length_set]; exact hLl, ⟨fun j hj y hy => by
       rcases Nat.lt_or_ge j i with h | h
       ·have := HN.out j h y hy
        refine ⟨this.1, this.2.1, ?_⟩
        rw [← this.2.2, rd_get _ j (by rw [List.length_set]; omega), rd_get L j (by omega), List.getElem_set, if_neg (by omega)]
       ·obtain rfl : j = i := by omega
        have := HOK2.out y hy
        refine ⟨this.1, this.2.1, ?_⟩
        rw [← this.2.2, rd_get _ j (by rw [List.length_set]; omega), List.getElem_set, if_pos rfl]⟩, by simpa using hm⟩
      case measure => simp [intOf]; omega
     ·have HVN := Aside0.mk (HV.out.trans (rdS2_num h3 hx hok))
      cases hb2 : (numS x).2 with
      | false =>
       rw [hb2] at HNX
       clear hok hb2 hx
       generalize (numS x).1 = n at *
       go_wp2_with (first
        | (first | fail | ((with_reducible refine gt_build 64 ?_); refine st_zero rfl 64 rfl built64 ?_) | ((with_reducible refine gt_alloc 7 64 ?_); refine st_alloc rfl 7 rfl 64 rfl hm zero64 ?_; clear hm; intro g7 w7 hm) | ((with_reducible refine gt_store 64 ?_); (first | (refine st_full rfl 64 _ _ rfl hm rfl rfl 0 rfl agg64 (by first | omega | assumption | (simp only [lens]; first | omega | assumption) | (simp [lens]; done) | (simp [lens]; omega)) (by first | omega | assumption | (simp only [lens]; first | omega | assumption) | (simp [lens]; done) | (simp [lens]; omega)) ?_) | (refine st_full rfl 64 _ _ rfl hm rfl rfl 1 rfl agg64 (by first | omega | assumption | (simp only [lens]; first | omega | assumption) | (simp [lens]; done) | (simp [lens]; omega)) (by first | omega | assumption | (simp only [lens]; first | omega | assumption) | (simp [lens]; done) | (simp [lens]; omega)) ?_) | (refine st_full rfl 64 _ _ rfl hm rfl rfl 2 rfl agg64 (by first | omega | assumption | (simp only [lens]; first | omega | assumption) | (simp [lens]; done) | (simp [lens]; omega)) (by first | omega | assumption | (simp only [lens]; first | omega | assumption) | (simp [lens]; done) | (simp [lens]; omega)) ?_) | (refine st_full rfl 64 _ _ rfl hm rfl rfl 3 rfl agg64 (by first | omega | assumption | (simp only [lens]; first | omega | assumption) | (simp [lens]; done) | (simp [lens]; omega)) (by first | omega | assumption | (simp only [lens]; first | omega | assumption) | (simp [lens]; done) | (simp [lens]; omega)) ?_) | (refine st_full rfl 64 _ _ rfl hm rfl rfl 4 rfl agg64 (by first | omega | assumption | (simp only [lens]; first | omega | assumption) | (simp [lens]; done) | (simp [lens]; omega)) (by first | omega | assumption | (simp only [lens]; first | omega | assumption) | (simp [lens]; done) | (simp [lens]; omega)) ?_) | (refine st_put rfl 64 _ _ rfl hm rfl rfl 0 rfl agg64 (by first | omega | assumption | (simp only [lens]; first | omega | assumption) | (simp [lens]; done) | (simp [lens]; omega)) (by first | omega | assumption | (simp only [lens]; first | omega | assumption) | (simp [lens]; done) | (simp [lens]; omega)) ?_) | (refine st_put rfl 64 _ _ rfl hm rfl rfl 1 rfl agg64 (by first | omega | assumption | (simp only [lens]; first | omega | assumption) | (simp [lens]; done) | (simp [lens]; omega)) (by first | omega | assumption | (simp only [lens]; first | omega | assumption) | (simp [lens]; done) | (simp [lens]; omega)) ?_) | (refine st_put rfl 64 _ _ rfl hm rfl rfl 2 rfl agg64 (by first | omega | assumption | (simp only [lens]; first | omega | assumption) | (simp [lens]; done) | (simp [lens]; omega)) (by first | omega | assumption | (simp only [lens]; first | omega | assumption) | (simp [lens]; done) | (simp [lens]; omega)) ?_) | (refine st_put rfl 64 _ _ rfl hm rfl rfl 3 rfl agg64 (by first | omega | assumption | (simp only [lens]; first | omega | assumption) | (simp [lens]; done) | (simp [lens]; omega)) (by first | omega | assumption | (simp only [lens]; first | omega | assumption) | (simp [lens]; done) | (simp [lens]; omega)) ?_) | (refine st_put rfl 64 _ _ rfl hm rfl rfl 4 rfl agg64 (by first | omega | assumption | (simp only [lens]; first | omega | assumption) | (simp [lens]; done) | (simp [lens]; omega)) (by first | omega | assumption | (simp only [lens]; first | omega | assumption) | (simp [lens]; done) | (simp [lens]; omega)) ?_)); clear hm; intro ws hm; simp only [List.set_cons_zero, List.set_cons_succ] at hm) | ((with_reducible refine gt_elem 64 ?_); refine st_elem rfl 64 _ _ rfl rfl rfl arr64 (by first | omega | assumption | (simp only [lens]; first | omega | assumption) | (simp [lens]; done) | (simp [lens]; omega)) (by first | omega | assumption | (simp only [lens]; first | omega | assumption) | (simp [lens]; done) | (simp [lens]; omega)) ?_) | ((with_reducible refine gt_store 2 ?_); (first | (refine st_set rfl 2 _ _ rfl hm rfl rfl 0 rfl one2 (by first | omega | assumption | (simp only [lens]; first | omega | assumption) | (simp [lens]; done) | (simp [lens]; omega)) ?_) | (refine st_set rfl 2 _ _ rfl hm rfl rfl 1 rfl one2 (by first | omega | assumption | (simp only [lens]; first | omega | assumption) | (simp [lens]; done) | (simp [lens]; omega)) ?_) | (refine st_set rfl 2 _ _ rfl hm rfl rfl 2 rfl one2 (by first | omega | assumption | (simp only [lens]; first | omega | assumption) | (simp [lens]; done) | (simp [lens]; omega)) ?_) | (refine st_set rfl 2 _ _ rfl hm rfl rfl 3 rfl one2 (by first | omega | assumption | (simp only [lens]; first | omega | assumption) | (simp [lens]; done) | (simp [lens]; omega)) ?_) | (refine st_set rfl 2 _ _ rfl hm rfl rfl 4 rfl one2 (by first | omega | assumption | (simp only [lens]; first | omega | assumption) | (simp [lens]; done) | (simp [lens]; omega)) ?_)); clear hm; intro ws hm; simp only [List.set_cons_zero, List.set_cons_succ] at hm) | ((with_reducible refine gt_load 2 ?_); (first | (refine st_get rfl 2 _ rfl hm rfl 0 rfl one2 (by first | omega | assumption | (simp only [lens]; first | omega | assumption) | (simp [lens]; done) | (simp [lens]; omega)) ?_) | (refine st_get rfl 2 _ rfl hm rfl 1 rfl one2 (by first | omega | assumption | (simp only [lens]; first | omega | assumption) | (simp [lens]; done) | (simp [lens]; omega)) ?_) | (refine st_get rfl 2 _ rfl hm rfl 2 rfl one2 (by first | omega | assumption | (simp only [lens]; first | omega | assumption) | (simp [lens]; done) | (simp [lens]; omega)) ?_) | (refine st_get rfl 2 _ rfl hm rfl 3 rfl one2 (by first | omega | assumption | (simp only [lens]; first | omega | assumption) | (simp [lens]; done) | (simp [lens]; omega)) ?_) | (refine st_get rfl 2 _ rfl hm rfl 4 rfl one2 (by first | omega | assumption | (simp only [lens]; first | omega | assumption) | (simp [lens]; done) | (simp [lens]; omega)) ?_))))
        | (go_at_call 40; refine (HNX.out _).mono ?_; rintro e wc ⟨rfl, hbc⟩; replace hm := hm.after hbc; clear hbc)
        | ((with_reducible refine gt_build 28 ?_); refine st_zero rfl 28 rfl builtBook ?_)
        | ((with_reducible refine gt_store 28 ?_); refine st_store rfl 28 _ _ rfl hm rfl rfl 1 rfl infoBook rfl one4B ?_; clear hm; intro ws hm; simp only [List.set_cons_zero, List.set_cons_succ] at hm))
       try simp only [Exit.inBlock, Exit.then]
       refine ret_row_tmp (cs := bkC 0 0 0 none 0 0) (hm.mem (n := 1) rfl) rfl rfl aggBook rfl rfl ?_
       rw [HVN.out]
       exact gives_none (hm.done (by simp [ho, ho2]))
      | true =>
       rw [hb2] at HNX
       have hg : (100 : Int) < (numS x).1 := by
        rcases Int.lt_or_le 100 (numS x).1 with h | h
        ·exact h
        ·exact absurd ⟨hb2, h⟩ hok
       have hgd := decide_eq_true hg
       clear hok hb2 hx
       generalize (numS x).1 = n at *
       go_wp2_with (first
        | (first | fail | ((with_reducible refine gt_build 64 ?_); refine st_zero rfl 64 rfl built64 ?_) | ((with_reducible refine gt_alloc 7 64 ?_); refine st_alloc rfl 7 rfl 64 rfl hm zero64 ?_; clear hm; intro g7 w7 hm) | ((with_reducible refine gt_store 64 ?_); (first | (refine st_full rfl 64 _ _ rfl hm rfl rfl 0 rfl agg64 (by first | omega | assumption | (simp only [lens]; first | omega | assumption) | (simp [lens]; done) | (simp [lens]; omega)) (by first | omega | assumption | (simp only [lens]; first | omega | assumption) | (simp [lens]; done) | (simp [lens]; omega)) ?_) | (refine st_full rfl 64 _ _ rfl hm rfl rfl 1 rfl agg64 (by first | omega | assumption | (simp only [lens]; first | omega | assumption) | (simp [lens]; done) | (simp [lens]; omega)) (by first | omega | assumption | (simp only [lens]; first | omega | assumption) | (simp [lens]; done) | (simp [lens]; omega)) ?_) | (refine st_full rfl 64 _ _ rfl hm rfl rfl 2 rfl agg64 (by first | omega | assumption | (simp only [lens]; first | omega | assumption) | (simp [lens]; done) | (simp [lens]; omega)) (by first | omega | assumption | (simp only [lens]; first | omega | assumption) | (simp [lens]; done) | (simp [lens]; omega)) ?_) | (refine st_full rfl 64 _ _ rfl hm rfl rfl 3 rfl agg64 (by first | omega | assumption | (simp only [lens]; first | omega | assumption) | (simp [lens]; done) | (simp [lens]; omega)) (by first | omega | assumption | (simp only [lens]; first | omega | assumption) | (simp [lens]; done) | (simp [lens]; omega)) ?_) | (refine st_full rfl 64 _ _ rfl hm rfl rfl 4 rfl agg64 (by first | omega | assumption | (simp only [lens]; first | omega | assumption) | (simp [lens]; done) | (simp [lens]; omega)) (by first | omega | assumption | (simp only [lens]; first | omega | assumption) | (simp [lens]; done) | (simp [lens]; omega)) ?_) | (refine st_put rfl 64 _ _ rfl hm rfl rfl 0 rfl agg64 (by first | omega | assumption | (simp only [lens]; first | omega | assumption) | (simp [lens]; done) | (simp [lens]; omega)) (by first | omega | assumption | (simp only [lens]; first | omega | assumption) | (simp [lens]; done) | (simp [lens]; omega)) ?_) | (refine st_put rfl 64 _ _ rfl hm rfl rfl 1 rfl agg64 (by first | omega | assumption | (simp only [lens]; first | omega | assumption) | (simp [lens]; done) | (simp [lens]; omega)) (by first | omega | assumption | (simp only [lens]; first | omega | assumption) | (simp [lens]; done) | (simp [lens]; omega)) ?_) | (refine st_put rfl 64 _ _ rfl hm rfl rfl 2 rfl agg64 (by first | omega | assumption | (simp only [lens]; first | omega | assumption) | (simp [lens]; done) | (simp [lens]; omega)) (by first | omega | assumption | (simp only [lens]; first | omega | assumption) | (simp [lens]; done) | (simp [lens]; omega)) ?_) | (refine st_put rfl 64 _ _ rfl hm rfl rfl 3 rfl agg64 (by first | omega | assumption | (simp only [lens]; first | omega | assumption) | (simp [lens]; done) | (simp [lens]; omega)) (by first | omega | assumption | (simp only [lens]; first | omega | assumption) | (simp [lens]; done) | (simp [lens]; omega)) ?_) | (refine st_put rfl 64 _ _ rfl hm rfl rfl 4 rfl agg64 (by first | omega | assumption | (simp only [lens]; first | omega | assumption) | (simp [lens]; done) | (simp [lens]; omega)) (by first | omega | assumption | (simp only [lens]; first | omega | assumption) | (simp [lens]; done) | (simp [lens]; omega)) ?_)); clear hm; intro ws hm; simp only [List.set_cons_zero, List.set_cons_succ] at hm) | ((with_reducible refine gt_elem 64 ?_); refine st_elem rfl 64 _ _ rfl rfl rfl arr64 (by first | omega | assumption | (simp only [lens]; first | omega | assumption) | (simp [lens]; done) | (simp [lens]; omega)) (by first | omega | assumption | (simp only [lens]; first | omega | assumption) | (simp [lens]; done) | (simp [lens]; omega)) ?_) | ((with_reducible refine gt_store 2 ?_); (first | (refine st_set rfl 2 _ _ rfl hm rfl rfl 0 rfl one2 (by first | omega | assumption | (simp only [lens]; first | omega | assumption) | (simp [lens]; done) | (simp [lens]; omega)) ?_) | (refine st_set rfl 2 _ _ rfl hm rfl rfl 1 rfl one2 (by first | omega | assumption | (simp only [lens]; first | omega | assumption) | (simp [lens]; done) | (simp [lens]; omega)) ?_) | (refine st_set rfl 2 _ _ rfl hm rfl rfl 2 rfl one2 (by first | omega | assumption | (simp only [lens]; first | omega | assumption) | (simp [lens]; done) | (simp [lens]; omega)) ?_) | (refine st_set rfl 2 _ _ rfl hm rfl rfl 3 rfl one2 (by first | omega | assumption | (simp only [lens]; first | omega | assumption) | (simp [lens]; done) | (simp [lens]; omega)) ?_) | (refine st_set rfl 2 _ _ rfl hm rfl rfl 4 rfl one2 (by first | omega | assumption | (simp only [lens]; first | omega | assumption) | (simp [lens]; done) | (simp [lens]; omega)) ?_)); clear hm; intro ws hm; simp only [List.set_cons_zero, List.set_cons_succ] at hm) | ((with_reducible refine gt_load 2 ?_); (first | (refine st_get rfl 2 _ rfl hm rfl 0 rfl one2 (by first | omega | assumption | (simp only [lens]; first | omega | assumption) | (simp [lens]; done) | (simp [lens]; omega)) ?_) | (refine st_get rfl 2 _ rfl hm rfl 1 rfl one2 (by first | omega | assumption | (simp only [lens]; first | omega | assumption) | (simp [lens]; done) | (simp [lens]; omega)) ?_) | (refine st_get rfl 2 _ rfl hm rfl 2 rfl one2 (by first | omega | assumption | (simp only [lens]; first | omega | assumption) | (simp [lens]; done) | (simp [lens]; omega)) ?_) | (refine st_get rfl 2 _ rfl hm rfl 3 rfl one2 (by first | omega | assumption | (simp only [lens]; first | omega | assumption) | (simp [lens]; done) | (simp [lens]; omega)) ?_) | (refine st_get rfl 2 _ rfl hm rfl 4 rfl one2 (by first | omega | assumption | (simp only [lens]; first | omega | assumption) | (simp [lens]; done) | (simp [lens]; omega)) ?_))))
        | (go_at_call 40; refine (HNX.out _).mono ?_; rintro e wc ⟨rfl, hbc⟩; replace hm := hm.after hbc; clear hbc)
        | ((with_reducible refine gt_build 28 ?_); refine st_zero rfl 28 rfl builtBook ?_)
        | ((with_reducible refine gt_store 28 ?_); refine st_store rfl 28 _ _ rfl hm rfl rfl 1 rfl infoBook rfl one4B ?_; clear hm; intro ws hm; simp only [List.set_cons_zero, List.set_cons_succ] at hm))
       try simp only [Exit.inBlock, Exit.then]
       refine ret_row_tmp (cs := bkC 0 0 0 none 0 0) (hm.mem (n := 1) rfl) rfl rfl aggBook rfl rfl ?_
       rw [HVN.out]
       exact gives_none (hm.done (by simp [ho, ho2]))
    ·have HI := Aside0.mk (show i = 3 by omega)
     have HA := rdS2_all (L := L) HH1.out h3 (fun j hj x hx => HN.out j (by rw [HI.out]; exact hj) x hx)
     have HV2 := Aside0.mk (HV.out.trans HA.1)
     have hr := HA.2
     clear HA HV HN
     have HB := Aside0.mk (hm.done (by simp [ho, ho2]))
     have HG2 := Aside0.mk (hm.mem (n := 1) rfl)
     have HGE2 := Aside0.mk (hm.own_ge 1 rfl)
     have HC0 : Aside0 (wr.cell? ⟨g7, 0, none⟩ = some (.int .i64 (rd L 0))) := ⟨hm.get (n := 0) rfl 0 (by omega)⟩
     have HC1 : Aside0 (wr.cell? ⟨g7, 1, none⟩ = some (.int .i64 (rd L 1))) := ⟨hm.get (n := 0) rfl 1 (by omega)⟩
     have HC2 : Aside0 (wr.cell? ⟨g7, 2, none⟩ = some (.int .i64 (rd L 2))) := ⟨hm.get (n := 0) rfl 2 (by omega)⟩
     have HCR := C_of_txt (by simp; omega) (HT wr (fun e he => (hm.ent e (by simp [he])).1))
     obtain ⟨i0, hi0_, _, hsz0, _⟩ := info_parts infoStr
     have hlw : (txs (hd :: rest)).length = rest.length + 1 := by simp [txs]
     obtain ⟨A9, hcM, hRM, hlM⟩ := print_mid_of (P := Tryd.prog) Value.string ByteArray.empty 23 9 .i64 .i64 Tryd.underlying23 hi0_ hsz0 (some ⟨bk, 0, none⟩) cap (txs (hd :: rest)) 1 (rest.length : Int) (by omega) (by omega) (by omega) (by rw [hlw]; simpa using hcap)
     have HCM := Aside0.mk (fun W (hW : Below wr.heap.size wr W) => Kd.C_of_reads (h1 := fun _ => rfl) (hRM _ (Kd.reads_of_C (Kd.C_below HCR hW))))
     rw [Int.toNat_natCast, show (1 : Int).toNat = 1 from rfl, mid_eq] at HCM hcM
     rw [hlw] at hcM
     have HCUT := Aside0.mk hcM
     have HQN := Aside0.mk (show (txs rest.dropLast).length ≤ 1048576 by simp [txs]; omega)
     have hq := HQN.out
     clear hm HCR hRM hlM hcM
     have HOKB := Aside0.mk (show okBook (rd L 0) (rd L 1) (rd L 2) (txs rest.dropLast) = okB (rd L 0, rd L 1, rd L 2, rest.dropLast) from rfl)
     generalize rd L 0 = n1 at *
     generalize rd L 1 = n2 at *
     generalize rd L 2 = n3 at *
     have HRO := Aside0.mk (fun A c g W hb hr => okRo_calls n1 n2 n3 A c (txs rest.dropLast) g W hb hr (by omega) (by omega) (by omega) (by omega) HQL.out)
     rw [HOKB.out] at HRO
     generalize hqq : txs rest.dropLast = Q at *
     have HQQ := Aside0.mk hqq
     clear hqq
     go_wp2_with fail
     refine start_ (n := 17) (S := fun w' => Below wr.heap.size wr w') (ds := [16]) #[false, false, false, false, false, false, false, false, false, false, false, false, false, false, false, false, false] (by kernel_rfl) rfl rfl (below_drew (Below.refl _ _)) (fun hHeld => ?_)
     refine pure_ (i := 10) (N := some 73) (v := ?_) (a' := ?_) #[false, false, false, false, false, false, false, false, false, false, true, false, false, false, false, false, false] rfl rfl (by kernel_rfl) (fun _ _ _ h => h) (Or.inl ⟨by rfl, ?_⟩) ?_ ?_
     rotate_left
     ·intro w'
      go_simp
      with_reducible rfl
     rotate_left
     ·simp only [Act.put, List.setIfInBounds_toArray, List.set_cons_zero, List.set_cons_succ, i64_w, i32_w]
      rfl
     refine pure_ (i := 11) (N := some 74) (v := ?_) (a' := ?_) #[false, false, false, false, false, false, false, false, false, false, true, true, false, false, false, false, false] rfl rfl (by kernel_rfl) (fun _ _ _ h => h) (Or.inl ⟨by rfl, ?_⟩) ?_ ?_
     rotate_left
     ·intro w'
      go_simp
      with_reducible rfl
     rotate_left
     ·simp only [Act.put, List.setIfInBounds_toArray, List.set_cons_zero, List.set_cons_succ, i64_w, i32_w]
      rfl
     refine take_ (i := 0) (N := some 63) (v := .pointer (some ⟨g7, 0, none⟩)) (a' := ?_) #[true, false, false, false, false, false, false, false, false, false, true, true, false, false, false, false, false] rfl rfl (by kernel_rfl) (fun _ _ _ h => h) (Or.inl ⟨by rfl, ?_⟩) hHeld ?_ ?_
     ·intro w' s0
      exact y_elemK (by rfl) (by rfl) (by rfl) arr64 (by omega) (by omega) (by rfl)
     rotate_left
     ·simp only [Act.put, List.setIfInBounds_toArray, List.set_cons_zero, List.set_cons_succ, i64_w, i32_w]
      rfl
     refine take_ (i := 1) (N := some 64) (v := .int .i64 n1) (a' := ?_) #[true, true, false, false, false, false, false, false, false, false, true, true, false, false, false, false, false] rfl rfl (by kernel_rfl) (fun _ _ _ h => h) (Or.inl ⟨by rfl, ?_⟩) hHeld ?_ ?_
     ·intro w' s0
      exact y_cellT (by rfl) (by rfl) one2 (FrBelow.read s0 HC0.out)
     rotate_left
     ·simp only [Act.put, List.setIfInBounds_toArray, List.set_cons_zero, List.set_cons_succ, i64_w, i32_w]
      rfl
     refine take_ (i := 2) (N := some 65) (v := .int .i8 n1) (a' := ?_) #[true, true, true, false, false, false, false, false, false, false, true, true, false, false, false, false, false] rfl rfl (by kernel_rfl) (fun _ _ _ h => h) (Or.inl ⟨by rfl, ?_⟩) hHeld ?_ ?_
     ·intro w' s0
      exact (by go_simp; exact i8w (by omega) (by omega))
     rotate_left
     ·simp only [Act.put, List.setIfInBounds_toArray, List.set_cons_zero, List.set_cons_succ, i64_w, i32_w]
      rfl
     refine take_ (i := 3) (N := some 66) (v := .pointer (some ⟨g7, 1, none⟩)) (a' := ?_) #[true, true, true, true, false, false, false, false, false, false, true, true, false, false, false, false, false] rfl rfl (by kernel_rfl) (fun _ _ _ h => h) (Or.inl ⟨by rfl, ?_⟩) hHeld ?_ ?_
     ·intro w' s0
      exact y_elemK (by rfl) (by rfl) (by rfl) arr64 (by omega) (by omega) (by rfl)
     rotate_left
     ·simp only [Act.put, List.setIfInBounds_toArray, List.set_cons_zero, List.set_cons_succ, i64_w, i32_w]
      rfl
     refine take_ (i := 4) (N := some 67) (v := .int .i64 n2) (a' := ?_) #[true, true, true, true, true, false, false, false, false, false, true, true, false, false, false, false, false] rfl rfl (by kernel_rfl) (fun _ _ _ h => h) (Or.inl ⟨by rfl, ?_⟩) hHeld ?_ ?_
     ·intro w' s0
      exact y_cellT (by rfl) (by rfl) one2 (FrBelow.read s0 HC1.out)
     rotate_left
     ·simp only [Act.put, List.setIfInBounds_toArray, List.set_cons_zero, List.set_cons_succ, i64_w, i32_w]
      rfl
     refine take_ (i := 5) (N := some 68) (v := .int .i8 n2) (a' := ?_) #[true, true, true, true, true, true, false, false, false, false, true, true, false, false, false, false, false] rfl rfl (by kernel_rfl) (fun _ _ _ h => h) (Or.inl ⟨by rfl, ?_⟩) hHeld ?_ ?_
     ·intro w' s0
      exact (by go_simp; exact i8w (by omega) (by omega))
     rotate_left
     ·simp only [Act.put, List.setIfInBounds_toArray, List.set_cons_zero, List.set_cons_succ, i64_w, i32_w]
      rfl
     refine take_ (i := 6) (N := some 69) (v := .pointer (some ⟨g7, 2, none⟩)) (a' := ?_) #[true, true, true, true, true, true, true, false, false, false, true, true, false, false, false, false, false] rfl rfl (by kernel_rfl) (fun _ _ _ h => h) (Or.inl ⟨by rfl, ?_⟩) hHeld ?_ ?_
     ·intro w' s0
      exact y_elemK (by rfl) (by rfl) (by rfl) arr64 (by omega) (by omega) (by rfl)
     rotate_left
     ·simp only [Act.put, List.setIfInBounds_toArray, List.set_cons_zero, List.set_cons_succ, i64_w, i32_w]
      rfl
     refine take_ (i := 7) (N := some 70) (v := .int .i64 n3) (a' := ?_) #[true, true, true, true, true, true, true, true, false, false, true, true, false, false, false, false, false] rfl rfl (by kernel_rfl) (fun _ _ _ h => h) (Or.inl ⟨by rfl, ?_⟩) hHeld ?_ ?_
     ·intro w' s0
      exact y_cellT (by rfl) (by rfl) one2 (FrBelow.read s0 HC2.out)
     rotate_left
     ·simp only [Act.put, List.setIfInBounds_toArray, List.set_cons_zero, List.set_cons_succ, i64_w, i32_w]
      rfl
     refine take_ (i := 8) (N := some 71) (v := .int .i8 n3) (a' := ?_) #[true, true, true, true, true, true, true, true, true, false, true, true, false, false, false, false, false] rfl rfl (by kernel_rfl) (fun _ _ _ h => h) (Or.inl ⟨by rfl, ?_⟩) hHeld ?_ ?_
     ·intro w' s0
      exact (by go_simp; exact i8w (by omega) (by omega))
     rotate_left
     ·simp only [Act.put, List.setIfInBounds_toArray, List.set_cons_zero, List.set_cons_succ, i64_w, i32_w]
      rfl
     refine take_ (i := 12) (N := some 75) (v := .slice A9 Q.length (cap - 1)) (a' := ?_) #[true, true, true, true, true, true, true, true, true, false, true, true, true, false, false, false, false] rfl rfl (by kernel_rfl) (fun _ _ _ h => h) (Or.inl ⟨by rfl, ?_⟩) hHeld ?_ ?_
     ·intro w' s0
      exact y_cut (by rfl) (by rfl) (by rfl) (by rfl) Tryd.underlying23 (HCUT.out _)
     rotate_left
     ·simp only [Act.put, List.setIfInBounds_toArray, List.set_cons_zero, List.set_cons_succ, i64_w, i32_w]
      rfl
     refine join_ (σ := Value × (Option Addr × Nat) × Nat) 1 #[true, true, true, true, true, true, true, true, true, true, true, true, true, true, true, true, false] (fun s => [(72, s.1), (76, .slice s.2.1.1 Q.length s.2.1.2), (77, .agg (bkC n1 n2 n3 s.2.1.1 Q.length s.2.1.2)), (11, .pointer (some ⟨s.2.2, 0, none⟩))]) (fun s w' => Below wr.heap.size wr w' ∧ Kd.R Kd.string 9 w' wr.heap.size (fun _ => True) (.slice s.2.1.1 Q.length s.2.1.2) Q ∧ w'.heap[s.2.2]? = some (.cells (bkC 0 0 0 none 0 0) 28 (0, 0)) ∧ wr.heap.size ≤ s.2.2) ?_ ?_
     rotate_left
     ·intro hJ
      refine two_ (i := 9) (j := 15) (Ni := some 72) (Nj := some 11) #[true, true, true, true, true, true, true, true, true, true, true, true, true, false, false, false, false] #[true, true, true, true, true, true, true, true, true, false, true, true, true, false, false, true, false] rfl rfl rfl rfl (by kernel_rfl) (by decide) (by decide) (fun K hK => ?_) (fun K hK => ?_)
      ·skip
       refine Kd.R_lit_step Kd.string (w0 := wr) wr.heap.size 9 (by rfl) (N := 72) rfl (xs := []) (inner := []) (ok := fun _ => True) (okp := fun _ => True) (by first | (go_simp; done) | (go_simp; rfl)) (Reps.none _ _) (fun _ h => h) trivial hHeld hHeld.size (by simp) ?_
       intro v5 w5 ho5 hb5 hg5 hat5
       have HO5 := Aside0.mk ho5
       (try replace HA := Aside0.mk ((hg5.block _ (lt_of_some HA.out) (by simp)).trans HA.out))
       clear ho5
       refine hK.out _ _ (hb5) (fun hHeld => ?_)
       clear hK K
       refine norm_ (a' := ?_) ?_ ?_
       rotate_left
       ·show Act.put _ (some 72) _ = _
        simp only [Act.put, List.setIfInBounds_toArray, List.set_cons_zero, List.set_cons_succ, i64_w, i32_w]
        rfl
       refine two_ (i := 13) (j := 15) (Ni := some 76) (Nj := some 11) #[true, true, true, true, true, true, true, true, true, true, true, true, true, true, false, false, false] #[true, true, true, true, true, true, true, true, true, true, true, true, true, false, false, true, false] rfl rfl rfl rfl (by kernel_rfl) (by decide) (by decide) (fun K hK => ?_) (fun K hK => ?_)
       ·skip
        refine Kd.R_append_rows_step Kd.string (w0 := wr) wr.heap.size (by rfl) (.tmp 72) (.tmp 75) 23 9 (.string ByteArray.empty) 16 rfl Tryd.underlying23 infoStr rfl (by decide) (by decide) v5 [] Q A9 Q.length (cap - 1) (fun _ => True) (fun _ => False) rfl rfl HO5.out (HCM.out _ hHeld) (fun _ _ h => h) (fun _ h => h.elim) (fun k hk => trivial) hHeld hHeld.size (by simp; omega) ?_
        intro v6 w6 ho6 hb6 hg6 hat6
        rw [List.nil_append] at ho6
        obtain ⟨A6, c6, rfl⟩ := Kd.R_slice ho6
        have HO6 := Aside0.mk ho6
        (try replace HA := Aside0.mk ((hg6.block _ (lt_of_some HA.out) (Kd.R_ne HO5.out HA.out (by decide))).trans HA.out))
        clear ho6
        refine hK.out _ _ (hb6) (fun hHeld => ?_)
        clear hK K
        refine norm_ (a' := ?_) ?_ ?_
        rotate_left
        ·show Act.put _ (some 76) _ = _
         simp only [Act.put, List.setIfInBounds_toArray, List.set_cons_zero, List.set_cons_succ, i64_w, i32_w]
         rfl
        refine pure_ (i := 14) (N := some 77) (v := ?_) (a' := ?_) #[true, true, true, true, true, true, true, true, true, true, true, true, true, true, true, false, false] rfl rfl (by kernel_rfl) (fun _ _ _ h => h) (Or.inl ⟨by rfl, ?_⟩) ?_ ?_
        rotate_left
        ·intro w'
         go_simp
         with_reducible rfl
        rotate_left
        ·simp only [Act.put, List.setIfInBounds_toArray, List.set_cons_zero, List.set_cons_succ, i64_w, i32_w]
         rfl
        refine one_ (i := 15) (N := some 11) #[true, true, true, true, true, true, true, true, true, true, true, true, true, true, true, true, false] rfl rfl (by kernel_rfl) (by decide) (fun K hK => ?_)
        refine s_allocR (by rfl) rfl rfl zeroBook ?_
        intro g11 w11 hg11 hge h
        have HA := Aside0.mk hg11
        have HGE := Aside0.mk (Nat.le_trans hHeld.size hge)
        (try replace HO6 := Aside0.mk (Kd.R_below HO6.out h))
        (try replace HO5 := Aside0.mk (Kd.R_below HO5.out h))
        clear hg11 hge
        refine hK.out _ _ (hHeld.trans (h.mono hHeld.size)) (fun hHeld => ?_)
        clear hK K
        refine norm_ (a' := ?_) ?_ ?_
        rotate_left
        ·show Act.put _ (some 11) _ = _
         simp only [Act.put, List.setIfInBounds_toArray, List.set_cons_zero, List.set_cons_succ, i64_w, i32_w]
         rfl
        exact norm_ (by first | (simp only [putAll, Act.put, List.setIfInBounds_toArray, List.set_cons_zero, List.set_cons_succ]; done) | (simp only [putAll, Act.put, List.setIfInBounds_toArray, List.set_cons_zero, List.set_cons_succ]; rfl)) (hJ (v5, (A6, c6), g11) _ ⟨hHeld, HO6.out, HA.out, HGE.out⟩)
       ·skip
        refine s_allocR (by rfl) rfl rfl zeroBook ?_
        intro g11 w11 hg11 hge h
        have HA := Aside0.mk hg11
        have HGE := Aside0.mk (Nat.le_trans hHeld.size hge)
        (try replace HO6 := Aside0.mk (Kd.R_below HO6.out h))
        (try replace HO5 := Aside0.mk (Kd.R_below HO5.out h))
        clear hg11 hge
        refine hK.out _ _ (hHeld.trans (h.mono hHeld.size)) (fun hHeld => ?_)
        clear hK K
        refine norm_ (a' := ?_) ?_ ?_
        rotate_left
        ·show Act.put _ (some 11) _ = _
         simp only [Act.put, List.setIfInBounds_toArray, List.set_cons_zero, List.set_cons_succ, i64_w, i32_w]
         rfl
        refine one_ (i := 13) (N := some 76) #[true, true, true, true, true, true, true, true, true, true, true, true, true, true, false, true, false] rfl rfl (by kernel_rfl) (by decide) (fun K hK => ?_)
        refine Kd.R_append_rows_step Kd.string (w0 := wr) wr.heap.size (by rfl) (.tmp 72) (.tmp 75) 23 9 (.string ByteArray.empty) 16 rfl Tryd.underlying23 infoStr rfl (by decide) (by decide) v5 [] Q A9 Q.length (cap - 1) (fun _ => True) (fun _ => False) rfl rfl HO5.out (HCM.out _ hHeld) (fun _ _ h => h) (fun _ h => h.elim) (fun k hk => trivial) hHeld hHeld.size (by simp; omega) ?_
        intro v6 w6 ho6 hb6 hg6 hat6
        rw [List.nil_append] at ho6
        obtain ⟨A6, c6, rfl⟩ := Kd.R_slice ho6
        have HO6 := Aside0.mk ho6
        (try replace HA := Aside0.mk ((hg6.block _ (lt_of_some HA.out) (Kd.R_ne HO5.out HA.out (by decide))).trans HA.out))
        clear ho6
        refine hK.out _ _ (hb6) (fun hHeld => ?_)
        clear hK K
        refine norm_ (a' := ?_) ?_ ?_
        rotate_left
        ·show Act.put _ (some 76) _ = _
         simp only [Act.put, List.setIfInBounds_toArray, List.set_cons_zero, List.set_cons_succ, i64_w, i32_w]
         rfl
        refine pure_ (i := 14) (N := some 77) (v := ?_) (a' := ?_) #[true, true, true, true, true, true, true, true, true, true, true, true, true, true, true, true, false] rfl rfl (by kernel_rfl) (fun _ _ _ h => h) (Or.inl ⟨by rfl, ?_⟩) ?_ ?_
        rotate_left
        ·intro w'
         go_simp
         with_reducible rfl
        rotate_left
        ·simp only [Act.put, List.setIfInBounds_toArray, List.set_cons_zero, List.set_cons_succ, i64_w, i32_w]
         rfl
        exact norm_ (by first | (simp only [putAll, Act.put, List.setIfInBounds_toArray, List.set_cons_zero, List.set_cons_succ]; done) | (simp only [putAll, Act.put, List.setIfInBounds_toArray, List.set_cons_zero, List.set_cons_succ]; rfl)) (hJ (v5, (A6, c6), g11) _ ⟨hHeld, HO6.out, HA.out, HGE.out⟩)
      ·skip
       refine s_allocR (by rfl) rfl rfl zeroBook ?_
       intro g11 w11 hg11 hge h
       have HA := Aside0.mk hg11
       have HGE := Aside0.mk (Nat.le_trans hHeld.size hge)
       (try replace HO6 := Aside0.mk (Kd.R_below HO6.out h))
       (try replace HO5 := Aside0.mk (Kd.R_below HO5.out h))
       clear hg11 hge
       refine hK.out _ _ (hHeld.trans (h.mono hHeld.size)) (fun hHeld => ?_)
       clear hK K
       refine norm_ (a' := ?_) ?_ ?_
       rotate_left
       ·show Act.put _ (some 11) _ = _
        simp only [Act.put, List.setIfInBounds_toArray, List.set_cons_zero, List.set_cons_succ, i64_w, i32_w]
        rfl
       refine one_ (i := 9) (N := some 72) #[true, true, true, true, true, true, true, true, true, true, true, true, true, false, false, true, false] rfl rfl (by kernel_rfl) (by decide) (fun K hK => ?_)
       refine Kd.R_lit_step Kd.string (w0 := wr) wr.heap.size 9 (by rfl) (N := 72) rfl (xs := []) (inner := []) (ok := fun _ => True) (okp := fun _ => True) (by first | (go_simp; done) | (go_simp; rfl)) (Reps.none _ _) (fun _ h => h) trivial hHeld hHeld.size (by simp) ?_
       intro v5 w5 ho5 hb5 hg5 hat5
       have HO5 := Aside0.mk ho5
       (try replace HA := Aside0.mk ((hg5.block _ (lt_of_some HA.out) (by simp)).trans HA.out))
       clear ho5
       refine hK.out _ _ (hb5) (fun hHeld => ?_)
       clear hK K
       refine norm_ (a' := ?_) ?_ ?_
       rotate_left
       ·show Act.put _ (some 72) _ = _
        simp only [Act.put, List.setIfInBounds_toArray, List.set_cons_zero, List.set_cons_succ, i64_w, i32_w]
        rfl
       refine one_ (i := 13) (N := some 76) #[true, true, true, true, true, true, true, true, true, true, true, true, true, true, false, true, false] rfl rfl (by kernel_rfl) (by decide) (fun K hK => ?_)
       refine Kd.R_append_rows_step Kd.string (w0 := wr) wr.heap.size (by rfl) (.tmp 72) (.tmp 75) 23 9 (.string ByteArray.empty) 16 rfl Tryd.underlying23 infoStr rfl (by decide) (by decide) v5 [] Q A9 Q.length (cap - 1) (fun _ => True) (fun _ => False) rfl rfl HO5.out (HCM.out _ hHeld) (fun _ _ h => h) (fun _ h => h.elim) (fun k hk => trivial) hHeld hHeld.size (by simp; omega) ?_
       intro v6 w6 ho6 hb6 hg6 hat6
       rw [List.nil_append] at ho6
       obtain ⟨A6, c6, rfl⟩ := Kd.R_slice ho6
       have HO6 := Aside0.mk ho6
       (try replace HA := Aside0.mk ((hg6.block _ (lt_of_some HA.out) (Kd.R_ne HO5.out HA.out (by decide))).trans HA.out))
       clear ho6
       refine hK.out _ _ (hb6) (fun hHeld => ?_)
       clear hK K
       refine norm_ (a' := ?_) ?_ ?_
       rotate_left
       ·show Act.put _ (some 76) _ = _
        simp only [Act.put, List.setIfInBounds_toArray, List.set_cons_zero, List.set_cons_succ, i64_w, i32_w]
        rfl
       refine pure_ (i := 14) (N := some 77) (v := ?_) (a' := ?_) #[true, true, true, true, true, true, true, true, true, true, true, true, true, true, true, true, false] rfl rfl (by kernel_rfl) (fun _ _ _ h => h) (Or.inl ⟨by rfl, ?_⟩) ?_ ?_
       rotate_left
       ·intro w'
        go_simp
        with_reducible rfl
       rotate_left
       ·simp only [Act.put, List.setIfInBounds_toArray, List.set_cons_zero, List.set_cons_succ, i64_w, i32_w]
        rfl
       exact norm_ (by first | (simp only [putAll, Act.put, List.setIfInBounds_toArray, List.set_cons_zero, List.set_cons_succ]; done) | (simp only [putAll, Act.put, List.setIfInBounds_toArray, List.set_cons_zero, List.set_cons_succ]; rfl)) (hJ (v5, (A6, c6), g11) _ ⟨hHeld, HO6.out, HA.out, HGE.out⟩)
     rintro ⟨v5, ⟨A6, c6⟩, g11⟩ wj ⟨hHeld, hj1, hj2, hj3⟩
     have HO6 := Aside0.mk hj1
     have HA := Aside0.mk hj2
     have HGE := Aside0.mk hj3
     clear hj1 hj2 hj3
     dsimp only at HO6 HA HGE
     refine norm_ (a' := ?_) ?_ ?_
     rotate_left
     ·simp only [putAll, Act.put, List.setIfInBounds_toArray, List.set_cons_zero, List.set_cons_succ]
      rfl
     refine last_ (i := 16) (N := none) #[true, true, true, true, true, true, true, true, true, true, true, true, true, true, true, true, true] rfl rfl (by kernel_rfl) (by decide) (fun K hK => ?_)
     refine skip_ (by rfl) rfl (y_storeRow (cs := bkC n1 n2 n3 A6 Q.length c6) (by rfl) (by rfl) (by rfl) HA.out infoBook rfl one4B) ?_
     refine hK.out _ _ ?_
     clear hK K
     refine done_ (by kernel_rfl) ?_
     skip
     have HR6 := Aside0.mk (Kd.R_step (Kd.R_types HO6.out HA.out (fun q hq => by simp [Kd.string, Kd.scalar] at hq; omega)) (fun k hk _ => setRow_other wj g11 k (bkC n1 n2 n3 A6 Q.length c6) hk.2))
     have HBK := Aside0.mk (setRow_heap wj g11 _ (bkC n1 n2 n3 A6 Q.length c6) _ _ HA.out)
     have HBJ := Aside0.mk (Go.below_setRow hHeld HGE.out (bkC n1 n2 n3 A6 Q.length c6))
     clear hHeld HA HO6
     generalize wj.setRow g11 (bkC n1 n2 n3 A6 Q.length c6) = W1 at *
     have HROK := Aside0.mk (HRO.out A6 c6 g11 W1 HBK.out (Kd.R_reads' HR6.out).2.2)
     clear HRO
     by_cases hok : okB (n1, n2, n3, rest.dropLast) = true
     ·rw [hok] at HROK
      have HV3 := Aside0.mk (HV2.out.trans (if_pos hok))
      clear hok HV2 HOKB
      go_wp2_with (first
       | (go_at_call 21; refine HROK.out.mono ?_; rintro e wk ⟨rfl, hbk⟩; have HBW := Aside0.mk hbk; have HG2k := Aside0.mk (((HBJ.out.trans (hbk.mono HBJ.out.size)).block g2 (lt_of_some HG2.out)).trans HG2.out); have HBKk := Aside0.mk ((hbk.block g11 (lt_of_some HBK.out)).trans HBK.out); clear hbk)
       | ((with_reducible refine gt_load 28 ?_); refine Kd.event_run rfl (y_row (by rfl) (by rfl) HBKk.out aggBook rfl) ?_)
       | ((with_reducible refine gt_store 28 ?_); refine wpList_store_row rfl 28 _ _ rfl g2 (bkC n1 n2 n3 A6 Q.length c6) rfl rfl _ _ HG2k.out infoBook rfl one4B ?_))
      try simp only [Exit.inBlock, Exit.then]
      refine ret_row_tmp (cs := bkC n1 n2 n3 A6 Q.length c6) (setRow_heap _ _ _ _ _ _ HG2k.out) rfl rfl aggBook rfl rfl ?_
      rw [HV3.out]
      refine ⟨.slice A6 Q.length c6, rfl, ?_, ?_⟩
      ·show Kd.R Kd.string 9 _ _ _ _ (txs rest.dropLast)
       rw [HQQ.out]
       exact Kd.R_mono (Kd.R_lower (Kd.R_step (Kd.R_below (Kd.R_bound HR6.out) HBW.out) (fun k hk _ => setRow_other _ g2 k _ (by have := hk.2.1; have := lt_of_some HG2.out; omega))) HB.out.size) (fun _ _ => trivial)
      ·exact Go.below_setRow (HB.out.trans ((HBJ.out.trans (HBW.out.mono HBJ.out.size)).mono HB.out.size)) HGE2.out _
     ·rw [show okB (n1, n2, n3, rest.dropLast) = false by cases h : okB (n1, n2, n3, rest.dropLast) with | true => exact absurd h hok | false => rfl] at HROK
      have HV3 := Aside0.mk (HV2.out.trans (if_neg hok))
      clear hok HV2 HOKB
      go_wp2_with (first
       | (go_at_call 21; refine HROK.out.mono ?_; rintro e wk ⟨rfl, hbk⟩; have HBW := Aside0.mk hbk; have HG2k := Aside0.mk (((HBJ.out.trans (hbk.mono HBJ.out.size)).block g2 (lt_of_some HG2.out)).trans HG2.out); clear hbk)
       | ((with_reducible refine gt_build 28 ?_); refine st_zero rfl 28 rfl builtBook ?_)
       | ((with_reducible refine gt_store 28 ?_); refine wpList_store_row rfl 28 _ _ rfl g2 (bkC 0 0 0 none 0 0) rfl rfl _ _ HG2k.out infoBook rfl one4B ?_))
      try simp only [Exit.inBlock, Exit.then]
      refine ret_row_tmp (cs := bkC 0 0 0 none 0 0) (setRow_heap _ _ _ _ _ _ HG2k.out) rfl rfl aggBook rfl rfl ?_
      rw [HV3.out]
      exact gives_none (Go.below_setRow (HB.out.trans ((HBJ.out.trans (HBW.out.mono HBJ.out.size)).mono HB.out.size)) HGE2.out _)
  ·have HVN := Aside0.mk (HV.out.trans (rdS2_words h3))
   have h3i : ((WS2.length : Int) == 3) = false := by rw [beq_eq_false_iff_ne]; omega
   have h3j : ((WS2.length : Int) != 3) = true := by rw [bne, h3i]; rfl
   clear HV
   go_enter Tryd.func16, Tryd.ntmps16
   go_wp2_with (first
    | ((with_reducible refine gt_alloc 2 28 ?_); refine st_alloc rfl 2 rfl 28 rfl hm zeroBook ?_; clear hm; intro g2 w2 hm)
    | (go_at_call 28; first
      | ((with_reducible refine (HS.out _).mono ?_); rintro e wa ⟨bk, cap, R, rfl, hR, ho, HT, hb, hcap⟩; replace hm := hm.grow hb; rw [hR] at hm; have hc0 := HT wa (fun e he => (hm.ent e (by simp [he])).1) 0 hd rfl; clear hb hR)
      | ((with_reducible refine (HS2.out _).mono ?_); rintro e wb ⟨bk2, cap2, R2, rfl, hR2, ho2, HT2, hb2, _⟩; replace hm := hm.grow hb2; rw [hR2] at hm; have hcl := HT wb (fun e he => (hm.ent e (by simp [he])).1) rest.length _ hzl; clear hb2 hR2))
    | ((with_reducible refine gt_build 28 ?_); refine st_zero rfl 28 rfl builtBook ?_)
    | ((with_reducible refine gt_store 28 ?_); refine st_store rfl 28 _ _ rfl hm rfl rfl 0 rfl infoBook rfl one4B ?_; clear hm; intro ws hm; replace hm : Mem w ws (⟨g2, bkC 0 0 0 none 0 0, 28, true⟩ :: (R ++ R2)) := hm))
   try simp only [Exit.inBlock, Exit.then]
   refine ret_row_tmp (cs := bkC 0 0 0 none 0 0) (hm.mem (n := 0) rfl) rfl rfl aggBook rfl rfl ?_
   rw [HVN.out]
   exact gives_none (hm.done (by simp [ho, ho2]))
end Go.Proofs.YtdgecgfgekmhcaaDoor.Arr
namespace Go.Proofs.YtdgecgfgekmhcaaDoor.Arr
open Go.RowKit Go.Proofs.YtdgecgfgekmhcaaDoorW.PrintWords Go.Proofs.YtdgecgfgekmhcaaDoorW.PrintLast Go.Proofs.YtdgecgfgekmhcaaDoorW.PrintMore Go.Proofs.YtdgecgfgekmhcaaDoor.U Go.Proofs.YtdgecgfgekmhcaaDoor.J
set_option linter.unusedVariables false
set_option linter.unusedSimpArgs false
set_option maxHeartbeats 8000000 in
set_option maxRecDepth 100000 in
theorem implReadBook_calls (l : List UInt8) (hl : l.length ≤ 1048576) (w : World) (hD : Door w) :
  Calls Tryd.prog 17 #[.string ⟨l.toArray⟩] w fun e w' => GivesB (rdI l) w e w' := by
 have hm := Mem.start w
 have HD := Aside0.mk hD
 have HS : Aside0 (∀ W, Door W → Calls Tryd.prog 33 #[.string ⟨l.toArray⟩, .string ⟨#[10]⟩] W _) := ⟨fun W hW => splitI_calls 10 l hl W hW⟩
 have hwl := sp_len 10 l
 have HWM := sp_mem 10 l
 obtain ⟨hd, rest, hWS⟩ := List.exists_cons_of_ne_nil (sp_ne 10 l)
 have HV := Aside0.mk (rdI_eq hWS)
 generalize rdI l = V at *
 rw [hWS] at HS hwl HWM
 have hhl : hd.length ≤ 1048576 := Nat.le_trans (HWM hd (List.mem_cons_self ..)) hl
 have HS2 : Aside0 (∀ W, Door W → Calls Tryd.prog 33 #[.string ⟨hd.toArray⟩, .string ⟨#[32]⟩] W _) := ⟨fun W hW => splitI_calls 32 hd hhl W hW⟩
 have HWM2 := sp_mem 32 hd
 have hrl : rest.length ≤ 1048576 := by simp at hwl; omega
 have HQL : Aside0 (∀ p ∈ txs rest.dropLast, p.size ≤ 140737488351232) := ⟨fun p hp => by
  simp only [txs, List.mem_map] at hp
  obtain ⟨x, hx, rfl⟩ := hp
  rw [bs_size]
  have := HWM x (List.mem_cons_of_mem _ ((List.dropLast_sublist rest).subset hx))
  omega⟩
 clear hwl HWM hWS hD
 generalize sp 32 hd = WS2 at *
 by_cases h3 : WS2.length = 3
 ·have HS3 : Aside0 (∀ W, Door W → Calls Tryd.prog 33 #[.string ⟨hd.toArray⟩, .string ⟨#[32]⟩] W fun e w' => ∃ bk R, e = .returned (.slice (some ⟨bk, 0, none⟩) 3 3) ∧ newEnts w' W.heap.size = R ∧ R.all (·.own) = true ∧ TxAt R bk WS2 ∧ Below W.heap.size W w') := ⟨fun W hW => by
   have := HS2.out W hW
   rw [h3] at this
   exact this⟩
  clear HS2
  by_cases h1 : rest.length < 1
  ·have HVN := Aside0.mk (HV.out.trans (rdI2_short h1))
   have h1e : rest.length = 0 := by omega
   rw [List.length_cons, h1e] at HS
   clear HV
   go_enter Tryd.func17, Tryd.ntmps17
   go_wp2_with (first
    | ((with_reducible refine gt_alloc 2 28 ?_); refine st_alloc rfl 2 rfl 28 rfl hm zeroBook ?_; clear hm; intro g2 w2 hm)
    | (go_at_call 33; first
      | ((with_reducible refine (HS.out _ ?hd1).mono ?_); (case hd1 => exact HD.out.below (hm.done rfl)); rintro e wa ⟨bk, R, rfl, hR, ho, HT, hb⟩; replace hm := hm.grow hb; rw [hR] at hm; have hc0 := HT wa (fun e he => (hm.ent e (by simp [he])).1) 0 hd rfl; clear hb hR)
      | ((with_reducible refine (HS3.out _ ?hd2).mono ?_); (case hd2 => exact HD.out.below (hm.done (by simp [ho]))); rintro e wb ⟨bk2, R2, rfl, hR2, ho2, HT2, hb2⟩; replace hm := hm.grow hb2; rw [hR2] at hm; clear hb2 hR2))
    | ((with_reducible refine gt_build 28 ?_); refine st_zero rfl 28 rfl builtBook ?_)
    | ((with_reducible refine gt_store 28 ?_); refine st_store rfl 28 _ _ rfl hm rfl rfl 0 rfl infoBook rfl one4B ?_; clear hm; intro ws hm; replace hm : Mem w ws (⟨g2, bkC 0 0 0 none 0 0, 28, true⟩ :: (R ++ R2)) := hm))
   try simp only [Exit.inBlock, Exit.then]
   refine ret_row_tmp (cs := bkC 0 0 0 none 0 0) (hm.mem (n := 0) rfl) rfl rfl aggBook rfl rfl ?_
   rw [HVN.out]
   exact gives_none (hm.done (by simp [ho, ho2]))
  ·have h1i : ¬ (rest.length : Int) + 1 < 2 := by omega
   have h1d := decide_eq_false h1i
   have HNU := Aside0.mk (fun (x : List UInt8) (hx : x.length ≤ 1048576) => (⟨fun W hW => number_calls x hx 10 (by omega) W hW⟩ : Aside0 (∀ W, Door W → Calls Tryd.prog 41 #[.string ⟨x.toArray⟩, .int .i64 10] W _)).out)
   go_enter Tryd.func17, Tryd.ntmps17
   go_wp2_with (first
    | (first | fail | ((with_reducible refine gt_build 67 ?_); refine st_zero rfl 67 rfl built67 ?_) | ((with_reducible refine gt_alloc 6 67 ?_); refine st_alloc rfl 6 rfl 67 rfl hm zero67 ?_; clear hm; intro g6 w6 hm) | ((with_reducible refine gt_store 67 ?_); (first | (refine st_full rfl 67 _ _ rfl hm rfl rfl 0 rfl agg67 (by first | omega | assumption | (simp only [lens]; first | omega | assumption) | (simp [lens]; done) | (simp [lens]; omega)) (by first | omega | assumption | (simp only [lens]; first | omega | assumption) | (simp [lens]; done) | (simp [lens]; omega)) ?_) | (refine st_full rfl 67 _ _ rfl hm rfl rfl 1 rfl agg67 (by first | omega | assumption | (simp only [lens]; first | omega | assumption) | (simp [lens]; done) | (simp [lens]; omega)) (by first | omega | assumption | (simp only [lens]; first | omega | assumption) | (simp [lens]; done) | (simp [lens]; omega)) ?_) | (refine st_full rfl 67 _ _ rfl hm rfl rfl 2 rfl agg67 (by first | omega | assumption | (simp only [lens]; first | omega | assumption) | (simp [lens]; done) | (simp [lens]; omega)) (by first | omega | assumption | (simp only [lens]; first | omega | assumption) | (simp [lens]; done) | (simp [lens]; omega)) ?_) | (refine st_full rfl 67 _ _ rfl hm rfl rfl 3 rfl agg67 (by first | omega | assumption | (simp only [lens]; first | omega | assumption) | (simp [lens]; done) | (simp [lens]; omega)) (by first | omega | assumption | (simp only [lens]; first | omega | assumption) | (simp [lens]; done) | (simp [lens]; omega)) ?_) | (refine st_full rfl 67 _ _ rfl hm rfl rfl 4 rfl agg67 (by first | omega | assumption | (simp only [lens]; first | omega | assumption) | (simp [lens]; done) | (simp [lens]; omega)) (by first | omega | assumption | (simp only [lens]; first | omega | assumption) | (simp [lens]; done) | (simp [lens]; omega)) ?_) | (refine st_put rfl 67 _ _ rfl hm rfl rfl 0 rfl agg67 (by first | omega | assumption | (simp only [lens]; first | omega | assumption) | (simp [lens]; done) | (simp [lens]; omega)) (by first | omega | assumption | (simp only [lens]; first | omega | assumption) | (simp [lens]; done) | (simp [lens]; omega)) ?_) | (refine st_put rfl 67 _ _ rfl hm rfl rfl 1 rfl agg67 (by first | omega | assumption | (simp only [lens]; first | omega | assumption) | (simp [lens]; done) | (simp [lens]; omega)) (by first | omega | assumption | (simp only [lens]; first | omega | assumption) | (simp [lens]; done) | (simp [lens]; omega)) ?_) | (refine st_put rfl 67 _ _ rfl hm rfl rfl 2 rfl agg67 (by first | omega | assumption | (simp only [lens]; first | omega | assumption) | (simp [lens]; done) | (simp [lens]; omega)) (by first | omega | assumption | (simp only [lens]; first | omega | assumption) | (simp [lens]; done) | (simp [lens]; omega)) ?_) | (refine st_put rfl 67 _ _ rfl hm rfl rfl 3 rfl agg67 (by first | omega | assumption | (simp only [lens]; first | omega | assumption) | (simp [lens]; done) | (simp [lens]; omega)) (by first | omega | assumption | (simp only [lens]; first | omega | assumption) | (simp [lens]; done) | (simp [lens]; omega)) ?_) | (refine st_put rfl 67 _ _ rfl hm rfl rfl 4 rfl agg67 (by first | omega | assumption | (simp only [lens]; first | omega | assumption) | (simp [lens]; done) | (simp [lens]; omega)) (by first | omega | assumption | (simp only [lens]; first | omega | assumption) | (simp [lens]; done) | (simp [lens]; omega)) ?_)); clear hm; intro ws hm; simp only [List.set_cons_zero, List.set_cons_succ] at hm) | ((with_reducible refine gt_elem 67 ?_); refine st_elem rfl 67 _ _ rfl rfl rfl arr67 (by first | omega | assumption | (simp only [lens]; first | omega | assumption) | (simp [lens]; done) | (simp [lens]; omega)) (by first | omega | assumption | (simp only [lens]; first | omega | assumption) | (simp [lens]; done) | (simp [lens]; omega)) ?_) | ((with_reducible refine gt_store 22 ?_); (first | (refine st_set rfl 22 _ _ rfl hm rfl rfl 0 rfl one22 (by first | omega | assumption | (simp only [lens]; first | omega | assumption) | (simp [lens]; done) | (simp [lens]; omega)) ?_) | (refine st_set rfl 22 _ _ rfl hm rfl rfl 1 rfl one22 (by first | omega | assumption | (simp only [lens]; first | omega | assumption) | (simp [lens]; done) | (simp [lens]; omega)) ?_) | (refine st_set rfl 22 _ _ rfl hm rfl rfl 2 rfl one22 (by first | omega | assumption | (simp only [lens]; first | omega | assumption) | (simp [lens]; done) | (simp [lens]; omega)) ?_) | (refine st_set rfl 22 _ _ rfl hm rfl rfl 3 rfl one22 (by first | omega | assumption | (simp only [lens]; first | omega | assumption) | (simp [lens]; done) | (simp [lens]; omega)) ?_) | (refine st_set rfl 22 _ _ rfl hm rfl rfl 4 rfl one22 (by first | omega | assumption | (simp only [lens]; first | omega | assumption) | (simp [lens]; done) | (simp [lens]; omega)) ?_)); clear hm; intro ws hm; simp only [List.set_cons_zero, List.set_cons_succ] at hm) | ((with_reducible refine gt_load 22 ?_); (first | (refine st_get rfl 22 _ rfl hm rfl 0 rfl one22 (by first | omega | assumption | (simp only [lens]; first | omega | assumption) | (simp [lens]; done) | (simp [lens]; omega)) ?_) | (refine st_get rfl 22 _ rfl hm rfl 1 rfl one22 (by first | omega | assumption | (simp only [lens]; first | omega | assumption) | (simp [lens]; done) | (simp [lens]; omega)) ?_) | (refine st_get rfl 22 _ rfl hm rfl 2 rfl one22 (by first | omega | assumption | (simp only [lens]; first | omega | assumption) | (simp [lens]; done) | (simp [lens]; omega)) ?_) | (refine st_get rfl 22 _ rfl hm rfl 3 rfl one22 (by first | omega | assumption | (simp only [lens]; first | omega | assumption) | (simp [lens]; done) | (simp [lens]; omega)) ?_) | (refine st_get rfl 22 _ rfl hm rfl 4 rfl one22 (by first | omega | assumption | (simp only [lens]; first | omega | assumption) | (simp [lens]; done) | (simp [lens]; omega)) ?_))))
    | ((with_reducible refine gt_alloc 2 28 ?_); refine st_alloc rfl 2 rfl 28 rfl hm zeroBook ?_; clear hm; intro g2 w2 hm)
    | (go_at_call 33; first
      | ((with_reducible refine (HS.out _ ?hd1).mono ?_); (case hd1 => exact HD.out.below (hm.done rfl)); rintro e wa ⟨bk, R, rfl, hR, ho, HT, hb⟩; replace hm := hm.grow hb; rw [hR] at hm; have hc0 := HT wa (fun e he => (hm.ent e (by simp [he])).1) 0 hd rfl; clear hb hR)
      | ((with_reducible refine (HS3.out _ ?hd2).mono ?_); (case hd2 => exact HD.out.below (hm.done (by simp [ho]))); rintro e wb ⟨bk2, R2, rfl, hR2, ho2, HT2, hb2⟩; replace hm := hm.grow hb2; rw [hR2] at hm; clear hb2 hR2)))
   go_loopw [30] (fun v30 wr => ∃ (i : Nat) (L : List Int), i ≤ 3 ∧ v30 = .int .i64 i ∧ L.length = 3 ∧ Aside0 (∀ j : Nat, j < i → ∀ x, WS2[j]? = some x → ∃ k, numI 10 x = some k ∧ rd L (j : Int) = (k : Int)) ∧ Mem w wr (⟨g6, vals .i8 L, 67, true⟩ :: ⟨g2, bkC 0 0 0 none 0 0, 28, true⟩ :: (R ++ R2))) (fun v30 _ => 3 - (intOf v30).toNat)
   case atStart => exact ⟨0, zs 3, by omega, rfl, zs_length, ⟨fun j hj => absurd hj (by omega)⟩, hm⟩
   case round =>
    clear hm hc0
    obtain ⟨i, L, hi, rfl, hLl, HN, hm⟩ := hrel
    by_cases hlt : i < 3
    ·have hlt2 : (i : Int) < 3 := by omega
     obtain ⟨x, hx⟩ : ∃ x, WS2[i]? = some x := ⟨_, List.getElem?_eq_getElem (by omega)⟩
     have HX := Aside0.mk hx
     have hc := HT2 wr (fun e he => (hm.ent e (by simp [he])).1) i x hx
     have HNX := Aside0.mk (HNU.out x (Nat.le_trans (HWM2 x (List.mem_of_getElem? hx)) hhl))
     cases hk : numI 10 x with
     | some k =>
      have hkl := (numI_some (by omega) hk).1
      have HOK2 : Aside0 (∀ y, WS2[i]? = some y → numI 10 y = some k) := ⟨fun y hy => by
       rw [HX.out] at hy
       obtain rfl := Option.some.inj hy
       exact hk⟩
      rw [hk] at HNX
      clear hk hx
      have hw8 : IntKind.i8.wrap (k : Int) = (k : Int) := i8w (by omega) (by omega)
      go_wp2_with (first
       | (first | fail | ((with_reducible refine gt_build 67 ?_); refine st_zero rfl 67 rfl built67 ?_) | ((with_reducible refine gt_alloc 6 67 ?_); refine st_alloc rfl 6 rfl 67 rfl hm zero67 ?_; clear hm; intro g6 w6 hm) | ((with_reducible refine gt_store 67 ?_); (first | (refine st_full rfl 67 _ _ rfl hm rfl rfl 0 rfl agg67 (by first | omega | assumption | (simp only [lens]; first | omega | assumption) | (simp [lens]; done) | (simp [lens]; omega)) (by first | omega | assumption | (simp only [lens]; first | omega | assumption) | (simp [lens]; done) | (simp [lens]; omega)) ?_) | (refine st_full rfl 67 _ _ rfl hm rfl rfl 1 rfl agg67 (by first | omega | assumption | (simp only [lens]; first | omega | assumption) | (simp [lens]; done) | (simp [lens]; omega)) (by first | omega | assumption | (simp only [lens]; first | omega | assumption) | (simp [lens]; done) | (simp [lens]; omega)) ?_) | (refine st_full rfl 67 _ _ rfl hm rfl rfl 2 rfl agg67 (by first | omega | assumption | (simp only [lens]; first | omega | assumption) | (simp [lens]; done) | (simp [lens]; omega)) (by first | omega | assumption | (simp only [lens]; first | omega | assumption) | (simp [lens]; done) | (simp [lens]; omega)) ?_) | (refine st_full rfl 67 _ _ rfl hm rfl rfl 3 rfl agg67 (by first | omega | assumption | (simp only [lens]; first | omega | assumption) | (simp [lens]; done) | (simp [lens]; omega)) (by first | omega | assumption | (simp only [lens]; first | omega | assumption) | (simp [lens]; done) | (simp [lens]; omega)) ?_) | (refine st_full rfl 67 _ _ rfl hm rfl rfl 4 rfl agg67 (by first | omega | assumption | (simp only [lens]; first | omega | assumption) | (simp [lens]; done) | (simp [lens]; omega)) (by first | omega | assumption | (simp only [lens]; first | omega | assumption) | (simp [lens]; done) | (simp [lens]; omega)) ?_) | (refine st_put rfl 67 _ _ rfl hm rfl rfl 0 rfl agg67 (by first | omega | assumption | (simp only [lens]; first | omega | assumption) | (simp [lens]; done) | (simp [lens]; omega)) (by first | omega | assumption | (simp only [lens]; first | omega | assumption) | (simp [lens]; done) | (simp [lens]; omega)) ?_) | (refine st_put rfl 67 _ _ rfl hm rfl rfl 1 rfl agg67 (by first | omega | assumption | (simp only [lens]; first | omega | assumption) | (simp [lens]; done) | (simp [lens]; omega)) (by first | omega | assumption | (simp only [lens]; first | omega | assumption) | (simp [lens]; done) | (simp [lens]; omega)) ?_) | (refine st_put rfl 67 _ _ rfl hm rfl rfl 2 rfl agg67 (by first | omega | assumption | (simp only [lens]; first | omega | assumption) | (simp [lens]; done) | (simp [lens]; omega)) (by first | omega | assumption | (simp only [lens]; first | omega | assumption) | (simp [lens]; done) | (simp [lens]; omega)) ?_) | (refine st_put rfl 67 _ _ rfl hm rfl rfl 3 rfl agg67 (by first | omega | assumption | (simp only [lens]; first | omega | assumption) | (simp [lens]; done) | (simp [lens]; omega)) (by first | omega | assumption | (simp only [lens]; first | omega | assumption) | (simp [lens]; done) | (simp [lens]; omega)) ?_) | (refine st_put rfl 67 _ _ rfl hm rfl rfl 4 rfl agg67 (by first | omega | assumption | (simp only [lens]; first | omega | assumption) | (simp [lens]; done) | (simp [lens]; omega)) (by first | omega | assumption | (simp only [lens]; first | omega | assumption) | (simp [lens]; done) | (simp [lens]; omega)) ?_)); clear hm; intro ws hm; simp only [List.set_cons_zero, List.set_cons_succ] at hm) | ((with_reducible refine gt_elem 67 ?_); refine st_elem rfl 67 _ _ rfl rfl rfl arr67 (by first | omega | assumption | (simp only [lens]; first | omega | assumption) | (simp [lens]; done) | (simp [lens]; omega)) (by first | omega | assumption | (simp only [lens]; first | omega | assumption) | (simp [lens]; done) | (simp [lens]; omega)) ?_) | ((with_reducible refine gt_store 22 ?_); (first | (refine st_set rfl 22 _ _ rfl hm rfl rfl 0 rfl one22 (by first | omega | assumption | (simp only [lens]; first | omega | assumption) | (simp [lens]; done) | (simp [lens]; omega)) ?_) | (refine st_set rfl 22 _ _ rfl hm rfl rfl 1 rfl one22 (by first | omega | assumption | (simp only [lens]; first | omega | assumption) | (simp [lens]; done) | (simp [lens]; omega)) ?_) | (refine st_set rfl 22 _ _ rfl hm rfl rfl 2 rfl one22 (by first | omega | assumption | (simp only [lens]; first | omega | assumption) | (simp [lens]; done) | (simp [lens]; omega)) ?_) | (refine st_set rfl 22 _ _ rfl hm rfl rfl 3 rfl one22 (by first | omega | assumption | (simp only [lens]; first | omega | assumption) | (simp [lens]; done) | (simp [lens]; omega)) ?_) | (refine st_set rfl 22 _ _ rfl hm rfl rfl 4 rfl one22 (by first | omega | assumption | (simp only [lens]; first | omega | assumption) | (simp [lens]; done) | (simp [lens]; omega)) ?_)); clear hm; intro ws hm; simp only [List.set_cons_zero, List.set_cons_succ] at hm) | ((with_reducible refine gt_load 22 ?_); (first | (refine st_get rfl 22 _ rfl hm rfl 0 rfl one22 (by first | omega | assumption | (simp only [lens]; first | omega | assumption) | (simp [lens]; done) | (simp [lens]; omega)) ?_) | (refine st_get rfl 22 _ rfl hm rfl 1 rfl one22 (by first | omega | assumption | (simp only [lens]; first | omega | assumption) | (simp [lens]; done) | (simp [lens]; omega)) ?_) | (refine st_get rfl 22 _ rfl hm rfl 2 rfl one22 (by first | omega | assumption | (simp only [lens]; first | omega | assumption) | (simp [lens]; done) | (simp [lens]; omega)) ?_) | (refine st_get rfl 22 _ rfl hm rfl 3 rfl one22 (by first | omega | assumption | (simp only [lens]; first | omega | assumption) | (simp [lens]; done) | (simp [lens]; omega)) ?_) | (refine st_get rfl 22 _ rfl hm rfl 4 rfl one22 (by first | omega | assumption | (simp only [lens]; first | omega | assumption) | (simp [lens]; done) | (simp [lens]; omega)) ?_))))
       | (go_at_call 41; refine (HNX.out _ (HD.out.below (hm.done (by simp [ho, ho2])))).mono ?_; rintro e wc ⟨rfl, hbc⟩; replace hm := hm.after hbc; clear hbc))
      go_roundw
      case rel => exact ⟨i + 1, L.set i (k : Int), by omega, by go_num, by rw [List.length_set]; exact hLl, ⟨fun j hj y hy => by
       rcases Nat.lt_or_ge j i with h | h
       ·obtain ⟨k2, e1, e2⟩ := HN.out j h y hy
        refine ⟨k2, e1, ?_⟩
        rw [← e2, rd_get _ j (by rw [List.length_set]; omega), rd_get L j (by omega), List.getElem_set, if_neg (by omega)]
       ·obtain rfl : j = i := by omega
        refine ⟨k, HOK2.out y hy, ?_⟩
        rw [rd_get _ j (by rw [List.length_set]; omega), List.getElem_set, if_pos rfl]⟩, by simpa using hm⟩
      case measure => simp [intOf]; omega
     | none =>
      have HVN := Aside0.mk (HV.out.trans (rdI2_num h3 hx hk))
      rw [hk] at HNX
      clear hk hx
      go_wp2_with (first
       | (first | fail | ((with_reducible refine gt_build 67 ?_); refine st_zero rfl 67 rfl built67 ?_) | ((with_reducible refine gt_alloc 6 67 ?_); refine st_alloc rfl 6 rfl 67 rfl hm zero67 ?_; clear hm; intro g6 w6 hm) | ((with_reducible refine gt_store 67 ?_); (first | (refine st_full rfl 67 _ _ rfl hm rfl rfl 0 rfl agg67 (by first | omega | assumption | (simp only [lens]; first | omega | assumption) | (simp [lens]; done) | (simp [lens]; omega)) (by first | omega | assumption | (simp only [lens]; first | omega | assumption) | (simp [lens]; done) | (simp [lens]; omega)) ?_) | (refine st_full rfl 67 _ _ rfl hm rfl rfl 1 rfl agg67 (by first | omega | assumption | (simp only [lens]; first | omega | assumption) | (simp [lens]; done) | (simp [lens]; omega)) (by first | omega | assumption | (simp only [lens]; first | omega | assumption) | (simp [lens]; done) | (simp [lens]; omega)) ?_) | (refine st_full rfl 67 _ _ rfl hm rfl rfl 2 rfl agg67 (by first | omega | assumption | (simp only [lens]; first | omega | assumption) | (simp [lens]; done) | (simp [lens]; omega)) (by first | omega | assumption | (simp only [lens]; first | omega | assumption) | (simp [lens]; done) | (simp [lens]; omega)) ?_) | (refine st_full rfl 67 _ _ rfl hm rfl rfl 3 rfl agg67 (by first | omega | assumption | (simp only [lens]; first | omega | assumption) | (simp [lens]; done) | (simp [lens]; omega)) (by first | omega | assumption | (simp only [lens]; first | omega | assumption) | (simp [lens]; done) | (simp [lens]; omega)) ?_) | (refine st_full rfl 67 _ _ rfl hm rfl rfl 4 rfl agg67 (by first | omega | assumption | (simp only [lens]; first | omega | assumption) | (simp [lens]; done) | (simp [lens]; omega)) (by first | omega | assumption | (simp only [lens]; first | omega | assumption) | (simp [lens]; done) | (simp [lens]; omega)) ?_) | (refine st_put rfl 67 _ _ rfl hm rfl rfl 0 rfl agg67 (by first | omega | assumption | (simp only [lens]; first | omega | assumption) | (simp [lens]; done) | (simp [lens]; omega)) (by first | omega | assumption | (simp only [lens]; first | omega | assumption) | (simp [lens]; done) | (simp [lens]; omega)) ?_) | (refine st_put rfl 67 _ _ rfl hm rfl rfl 1 rfl agg67 (by first | omega | assumption | (simp only [lens]; first | omega | assumption) | (simp [lens]; done) | (simp [lens]; omega)) (by first | omega | assumption | (simp only [lens]; first | omega | assumption) | (simp [lens]; done) | (simp [lens]; omega)) ?_) | (refine st_put rfl 67 _ _ rfl hm rfl rfl 2 rfl agg67 (by first | omega | assumption | (simp only [lens]; first | omega | assumption) | (simp [lens]; done) | (simp [lens]; omega)) (by first | omega | assumption | (simp only [lens]; first | omega | assumption) | (simp [lens]; done) | (simp [lens]; omega)) ?_) | (refine st_put rfl 67 _ _ rfl hm rfl rfl 3 rfl agg67 (by first | omega | assumption | (simp only [lens]; first | omega | assumption) | (simp [lens]; done) | (simp [lens]; omega)) (by first | omega | assumption | (simp only [lens]; first | omega | assumption) | (simp [lens]; done) | (simp [lens]; omega)) ?_) | (refine st_put rfl 67 _ _ rfl hm rfl rfl 4 rfl agg67 (by first | omega | assumption | (simp only [lens]; first | omega | assumption) | (simp [lens]; done) | (simp [lens]; omega)) (by first | omega | assumption | (simp only [lens]; first | omega | assumption) | (simp [lens]; done) | (simp [lens]; omega)) ?_)); clear hm; intro ws hm; simp only [List.set_cons_zero, List.set_cons_succ] at hm) | ((with_reducible refine gt_elem 67 ?_); refine st_elem rfl 67 _ _ rfl rfl rfl arr67 (by first | omega | assumption | (simp only [lens]; first | omega | assumption) | (simp [lens]; done) | (simp [lens]; omega)) (by first | omega | assumption | (simp only [lens]; first | omega | assumption) | (simp [lens]; done) | (simp [lens]; omega)) ?_) | ((with_reducible refine gt_store 22 ?_); (first | (refine st_set rfl 22 _ _ rfl hm rfl rfl 0 rfl one22 (by first | omega | assumption | (simp only [lens]; first | omega | assumption) | (simp [lens]; done) | (simp [lens]; omega)) ?_) | (refine st_set rfl 22 _ _ rfl hm rfl rfl 1 rfl one22 (by first | omega | assumption | (simp only [lens]; first | omega | assumption) | (simp [lens]; done) | (simp [lens]; omega)) ?_) | (refine st_set rfl 22 _ _ rfl hm rfl rfl 2 rfl one22 (by first | omega | assumption | (simp only [lens]; first | omega | assumption) | (simp [lens]; done) | (simp [lens]; omega)) ?_) | (refine st_set rfl 22 _ _ rfl hm rfl rfl 3 rfl one22 (by first | omega | assumption | (simp only [lens]; first | omega | assumption) | (simp [lens]; done) | (simp [lens]; omega)) ?_) | (refine st_set rfl 22 _ _ rfl hm rfl rfl 4 rfl one22 (by first | omega | assumption | (simp only [lens]; first | omega | assumption) | (simp [lens]; done) | (simp [lens]; omega)) ?_)); clear hm; intro ws hm; simp only [List.set_cons_zero, List.set_cons_succ] at hm) | ((with_reducible refine gt_load 22 ?_); (first | (refine st_get rfl 22 _ rfl hm rfl 0 rfl one22 (by first | omega | assumption | (simp only [lens]; first | omega | assumption) | (simp [lens]; done) | (simp [lens]; omega)) ?_) | (refine st_get rfl 22 _ rfl hm rfl 1 rfl one22 (by first | omega | assumption | (simp only [lens]; first | omega | assumption) | (simp [lens]; done) | (simp [lens]; omega)) ?_) | (refine st_get rfl 22 _ rfl hm rfl 2 rfl one22 (by first | omega | assumption | (simp only [lens]; first | omega | assumption) | (simp [lens]; done) | (simp [lens]; omega)) ?_) | (refine st_get rfl 22 _ rfl hm rfl 3 rfl one22 (by first | omega | assumption | (simp only [lens]; first | omega | assumption) | (simp [lens]; done) | (simp [lens]; omega)) ?_) | (refine st_get rfl 22 _ rfl hm rfl 4 rfl one22 (by first | omega | assumption | (simp only [lens]; first | omega | assumption) | (simp [lens]; done) | (simp [lens]; omega)) ?_))))
       | (go_at_call 41; refine (HNX.out _ (HD.out.below (hm.done (by simp [ho, ho2])))).mono ?_; rintro e wc ⟨rfl, hbc⟩; replace hm := hm.after hbc; clear hbc)
       | ((with_reducible refine gt_build 28 ?_); refine st_zero rfl 28 rfl builtBook ?_)
       | ((with_reducible refine gt_store 28 ?_); refine st_store rfl 28 _ _ rfl hm rfl rfl 1 rfl infoBook rfl one4B ?_; clear hm; intro ws hm; simp only [List.set_cons_zero, List.set_cons_succ] at hm))
      try simp only [Exit.inBlock, Exit.then]
      refine ret_row_tmp (cs := bkC 0 0 0 none 0 0) (hm.mem (n := 1) rfl) rfl rfl aggBook rfl rfl ?_
      rw [HVN.out]
      exact gives_none (hm.done (by simp [ho, ho2]))
    ·have HI := Aside0.mk (show i = 3 by omega)
     have HA := rdI2_all (t := l) (L := L) h1 h3 (fun j hj x hx => HN.out j (by rw [HI.out]; exact hj) x hx)
     have HV2 := Aside0.mk (HV.out.trans HA.1)
     have hr := HA.2
     clear HA HV HN HNU
     have HB := Aside0.mk (hm.done (by simp [ho, ho2]))
     have HG2 := Aside0.mk (hm.mem (n := 1) rfl)
     have HGE2 := Aside0.mk (hm.own_ge 1 rfl)
     have HC0 : Aside0 (wr.cell? ⟨g6, 0, none⟩ = some (.int .i8 (rd L 0))) := ⟨hm.get (n := 0) rfl 0 (by omega)⟩
     have HC1 : Aside0 (wr.cell? ⟨g6, 1, none⟩ = some (.int .i8 (rd L 1))) := ⟨hm.get (n := 0) rfl 1 (by omega)⟩
     have HC2 : Aside0 (wr.cell? ⟨g6, 2, none⟩ = some (.int .i8 (rd L 2))) := ⟨hm.get (n := 0) rfl 2 (by omega)⟩
     have HCR := C_of_txt (by simp; omega) (HT wr (fun e he => (hm.ent e (by simp [he])).1))
     obtain ⟨i0, hi0_, _, hsz0, _⟩ := info_parts infoStr
     have hlw : (txs (hd :: rest)).length = rest.length + 1 := by simp [txs]
     obtain ⟨A9, hcM, hRM, hlM⟩ := print_mid_of (P := Tryd.prog) Value.string ByteArray.empty 23 9 .i64 .i64 Tryd.underlying23 hi0_ hsz0 (some ⟨bk, 0, none⟩) (rest.length + 1) (txs (hd :: rest)) 1 (rest.length : Int) (by omega) (by omega) (by omega) (by omega)
     have HCM := Aside0.mk (fun W (hW : Below wr.heap.size wr W) => Kd.C_of_reads (h1 := fun _ => rfl) (hRM _ (Kd.reads_of_C (Kd.C_below HCR hW))))
     rw [Int.toNat_natCast, show (1 : Int).toNat = 1 from rfl, mid_eq] at HCM hcM hlM
     rw [hlw] at hcM
     have HCUT := Aside0.mk hcM
     have HLM := Aside0.mk hlM
     have HQN := Aside0.mk (show (txs rest.dropLast).length ≤ 1048576 by simp [txs]; omega)
     have hq := HQN.out
     clear hm HCR hRM hlM hcM
     have HBT := Aside0.mk (fun n1 n2 n3 A c W hp hr3 hc3 => implBookText_calls n1 n2 n3 A c rest.dropLast W hp hr3 hc3)
     have HBP := Aside0.mk (show ∀ n1 n2 n3 : Int, (0 ≤ n1 ∧ n1 ≤ 10) ∧ (0 ≤ n2 ∧ n2 ≤ 10) ∧ (0 ≤ n3 ∧ n3 ≤ 10) → BookP n1 n2 n3 (txs rest.dropLast) from fun n1 n2 n3 h => ⟨by omega, by omega, by omega, by omega, HQL.out⟩)
     generalize rd L 0 = n1 at *
     generalize rd L 1 = n2 at *
     generalize rd L 2 = n3 at *
     have HTX := Aside0.mk (fun A c W hr3 hc3 => HBT.out n1 n2 n3 A c W (HBP.out n1 n2 n3 hr) hr3 hc3)
     clear HBT HBP
     generalize bookX (n1, n2, n3, rest.dropLast) = T at *
     generalize hqq : txs rest.dropLast = Q at *
     have HQQ := Aside0.mk hqq
     clear hqq
     have hwn : wrap64 ((rest.length : Int) + 1 - 1) = (rest.length : Int) := by rw [w64 (by omega) (by omega)]; omega
     go_wp2_with fail
     refine start_ (n := 15) (S := fun w' => Below wr.heap.size wr w') (ds := [14]) #[false, false, false, false, false, false, false, false, false, false, false, false, false, false, false] (by kernel_rfl) rfl rfl (below_drew (Below.refl _ _)) (fun hHeld => ?_)
     refine pure_ (i := 6) (N := some 54) (v := ?_) (a' := ?_) #[false, false, false, false, false, false, true, false, false, false, false, false, false, false, false] rfl rfl (by kernel_rfl) (fun _ _ _ h => h) (Or.inl ⟨by rfl, ?_⟩) ?_ ?_
     rotate_left
     ·intro w'
      go_simp
      with_reducible rfl
     rotate_left
     ·simp only [Act.put, List.setIfInBounds_toArray, List.set_cons_zero, List.set_cons_succ, i64_w, i32_w]
      rfl
     refine pure_ (i := 7) (N := some 55) (v := ?_) (a' := ?_) #[false, false, false, false, false, false, true, true, false, false, false, false, false, false, false] rfl rfl (by kernel_rfl) (fun _ _ _ h => h) (Or.inl ⟨by rfl, ?_⟩) ?_ ?_
     rotate_left
     ·intro w'
      go_simp
      with_reducible rfl
     rotate_left
     ·simp only [Act.put, List.setIfInBounds_toArray, List.set_cons_zero, List.set_cons_succ, i64_w, i32_w]
      rfl
     refine pure_ (i := 8) (N := some 56) (v := ?_) (a' := ?_) #[false, false, false, false, false, false, true, true, true, false, false, false, false, false, false] rfl rfl (by kernel_rfl) (fun _ _ _ h => h) (Or.inl ⟨by rfl, ?_⟩) ?_ ?_
     rotate_left
     ·intro w'
      go_simp
      with_reducible rfl
     rotate_left
     ·simp only [Act.put, List.setIfInBounds_toArray, List.set_cons_zero, List.set_cons_succ, i64_w, i32_w]
      rfl
     refine take_ (i := 0) (N := some 48) (v := .pointer (some ⟨g6, 0, none⟩)) (a' := ?_) #[true, false, false, false, false, false, true, true, true, false, false, false, false, false, false] rfl rfl (by kernel_rfl) (fun _ _ _ h => h) (Or.inl ⟨by rfl, ?_⟩) hHeld ?_ ?_
     ·intro w' s0
      exact y_elemK (by rfl) (by rfl) (by rfl) arr67 (by omega) (by omega) (by rfl)
     rotate_left
     ·simp only [Act.put, List.setIfInBounds_toArray, List.set_cons_zero, List.set_cons_succ, i64_w, i32_w]
      rfl
     refine take_ (i := 1) (N := some 49) (v := .int .i8 n1) (a' := ?_) #[true, true, false, false, false, false, true, true, true, false, false, false, false, false, false] rfl rfl (by kernel_rfl) (fun _ _ _ h => h) (Or.inl ⟨by rfl, ?_⟩) hHeld ?_ ?_
     ·intro w' s0
      exact y_cellT (by rfl) (by rfl) oneI8T (FrBelow.read s0 HC0.out)
     rotate_left
     ·simp only [Act.put, List.setIfInBounds_toArray, List.set_cons_zero, List.set_cons_succ, i64_w, i32_w]
      rfl
     refine take_ (i := 2) (N := some 50) (v := .pointer (some ⟨g6, 1, none⟩)) (a' := ?_) #[true, true, true, false, false, false, true, true, true, false, false, false, false, false, false] rfl rfl (by kernel_rfl) (fun _ _ _ h => h) (Or.inl ⟨by rfl, ?_⟩) hHeld ?_ ?_
     ·intro w' s0
      exact y_elemK (by rfl) (by rfl) (by rfl) arr67 (by omega) (by omega) (by rfl)
     rotate_left
     ·simp only [Act.put, List.setIfInBounds_toArray, List.set_cons_zero, List.set_cons_succ, i64_w, i32_w]
      rfl
     refine take_ (i := 3) (N := some 51) (v := .int .i8 n2) (a' := ?_) #[true, true, true, true, false, false, true, true, true, false, false, false, false, false, false] rfl rfl (by kernel_rfl) (fun _ _ _ h => h) (Or.inl ⟨by rfl, ?_⟩) hHeld ?_ ?_
     ·intro w' s0
      exact y_cellT (by rfl) (by rfl) oneI8T (FrBelow.read s0 HC1.out)
     rotate_left
     ·simp only [Act.put, List.setIfInBounds_toArray, List.set_cons_zero, List.set_cons_succ, i64_w, i32_w]
      rfl
     refine take_ (i := 4) (N := some 52) (v := .pointer (some ⟨g6, 2, none⟩)) (a' := ?_) #[true, true, true, true, true, false, true, true, true, false, false, false, false, false, false] rfl rfl (by kernel_rfl) (fun _ _ _ h => h) (Or.inl ⟨by rfl, ?_⟩) hHeld ?_ ?_
     ·intro w' s0
      exact y_elemK (by rfl) (by rfl) (by rfl) arr67 (by omega) (by omega) (by rfl)
     rotate_left
     ·simp only [Act.put, List.setIfInBounds_toArray, List.set_cons_zero, List.set_cons_succ, i64_w, i32_w]
      rfl
     refine take_ (i := 5) (N := some 53) (v := .int .i8 n3) (a' := ?_) #[true, true, true, true, true, true, true, true, true, false, false, false, false, false, false] rfl rfl (by kernel_rfl) (fun _ _ _ h => h) (Or.inl ⟨by rfl, ?_⟩) hHeld ?_ ?_
     ·intro w' s0
      exact y_cellT (by rfl) (by rfl) oneI8T (FrBelow.read s0 HC2.out)
     rotate_left
     ·simp only [Act.put, List.setIfInBounds_toArray, List.set_cons_zero, List.set_cons_succ, i64_w, i32_w]
      rfl
     refine take_ (i := 9) (N := some 57) (v := .int .i64 (rest.length : Int)) (a' := ?_) #[true, true, true, true, true, true, true, true, true, true, false, false, false, false, false] rfl rfl (by kernel_rfl) (fun _ _ _ h => h) (Or.inl ⟨by rfl, ?_⟩) hHeld ?_ ?_
     ·intro w' s0
      exact (by go_simp; first | (rw [i64_w, hwn]; done) | (rw [i64_w, hwn]; rfl) | exact hwn | exact (i64_w _).trans (w64 (by omega) (by omega)))
     rotate_left
     ·simp only [Act.put, List.setIfInBounds_toArray, List.set_cons_zero, List.set_cons_succ, i64_w, i32_w]
      rfl
     refine take_ (i := 10) (N := some 58) (v := .slice A9 Q.length (rest.length + 1 - 1)) (a' := ?_) #[true, true, true, true, true, true, true, true, true, true, true, false, false, false, false] rfl rfl (by kernel_rfl) (fun _ _ _ h => h) (Or.inl ⟨by rfl, ?_⟩) hHeld ?_ ?_
     ·intro w' s0
      exact y_cut (by rfl) (by rfl) (by rfl) (by rfl) Tryd.underlying23 (HCUT.out _)
     rotate_left
     ·simp only [Act.put, List.setIfInBounds_toArray, List.set_cons_zero, List.set_cons_succ, i64_w, i32_w]
      rfl
     refine join_ (σ := (Option Addr × Nat) × Nat) 1 #[true, true, true, true, true, true, true, true, true, true, true, true, true, true, false] (fun s => [(59, .slice s.1.1 Q.length s.1.2), (60, .agg (bkC n1 n2 n3 s.1.1 Q.length s.1.2)), (11, .pointer (some ⟨s.2, 0, none⟩))]) (fun s w' => Below wr.heap.size wr w' ∧ Kd.R Kd.string 9 w' wr.heap.size (fun _ => True) (.slice s.1.1 Q.length s.1.2) Q ∧ w'.heap[s.2]? = some (.cells (bkC 0 0 0 none 0 0) 28 (0, 0)) ∧ wr.heap.size ≤ s.2) ?_ ?_
     rotate_left
     ·intro hJ
      refine two_ (i := 11) (j := 13) (Ni := some 59) (Nj := some 11) #[true, true, true, true, true, true, true, true, true, true, true, true, false, false, false] #[true, true, true, true, true, true, true, true, true, true, true, false, false, true, false] rfl rfl rfl rfl (by kernel_rfl) (by decide) (by decide) (fun K hK => ?_) (fun K hK => ?_)
      ·skip
       refine goes_ Tryd.func42 (by kernel_rfl) rfl #[.slice A9 Q.length (rest.length + 1 - 1)] (by rfl) rfl rfl (by simp only [List.map_toArray, List.map_cons, List.map_nil]; rfl) ?_
       refine (cloneS_calls A9 (rest.length + 1 - 1) Q _ (HCM.out _ hHeld) HLM.out (by omega)).mono ?_
       rintro e w6 ⟨v6, rfl, ho6, hb6⟩
       obtain ⟨A6, c6, rfl⟩ := Kd.R_slice ho6
       have HO6 := Aside0.mk (Kd.R_lower ho6 hHeld.size)
       (try replace HA := Aside0.mk ((hb6.block _ (lt_of_some HA.out)).trans HA.out))
       clear ho6
       refine ⟨_, rfl, ?_⟩
       refine hK.out _ _ (hHeld.trans (hb6.mono hHeld.size)) (fun hHeld => ?_)
       clear hK K
       refine norm_ (a' := ?_) ?_ ?_
       rotate_left
       ·show Act.put _ (some 59) _ = _
        simp only [Act.put, List.setIfInBounds_toArray, List.set_cons_zero, List.set_cons_succ, i64_w, i32_w]
        rfl
       refine pure_ (i := 12) (N := some 60) (v := ?_) (a' := ?_) #[true, true, true, true, true, true, true, true, true, true, true, true, true, false, false] rfl rfl (by kernel_rfl) (fun _ _ _ h => h) (Or.inl ⟨by rfl, ?_⟩) ?_ ?_
       rotate_left
       ·intro w'
        go_simp
        with_reducible rfl
       rotate_left
       ·simp only [Act.put, List.setIfInBounds_toArray, List.set_cons_zero, List.set_cons_succ, i64_w, i32_w]
        rfl
       refine one_ (i := 13) (N := some 11) #[true, true, true, true, true, true, true, true, true, true, true, true, true, true, false] rfl rfl (by kernel_rfl) (by decide) (fun K hK => ?_)
       refine s_allocR (by rfl) rfl rfl zeroBook ?_
       intro g11 w11 hg11 hge h
       have HA := Aside0.mk hg11
       have HGE := Aside0.mk (Nat.le_trans hHeld.size hge)
       (try replace HO6 := Aside0.mk (Kd.R_below HO6.out h))
       clear hg11 hge
       refine hK.out _ _ (hHeld.trans (h.mono hHeld.size)) (fun hHeld => ?_)
       clear hK K
       refine norm_ (a' := ?_) ?_ ?_
       rotate_left
       ·show Act.put _ (some 11) _ = _
        simp only [Act.put, List.setIfInBounds_toArray, List.set_cons_zero, List.set_cons_succ, i64_w, i32_w]
        rfl
       exact norm_ (by first | (simp only [putAll, Act.put, List.setIfInBounds_toArray, List.set_cons_zero, List.set_cons_succ]; done) | (simp only [putAll, Act.put, List.setIfInBounds_toArray, List.set_cons_zero, List.set_cons_succ]; rfl)) (hJ ((A6, c6), g11) _ ⟨hHeld, HO6.out, HA.out, HGE.out⟩)
      ·skip
       refine s_allocR (by rfl) rfl rfl zeroBook ?_
       intro g11 w11 hg11 hge h
       have HA := Aside0.mk hg11
       have HGE := Aside0.mk (Nat.le_trans hHeld.size hge)
       (try replace HO6 := Aside0.mk (Kd.R_below HO6.out h))
       clear hg11 hge
       refine hK.out _ _ (hHeld.trans (h.mono hHeld.size)) (fun hHeld => ?_)
       clear hK K
       refine norm_ (a' := ?_) ?_ ?_
       rotate_left
       ·show Act.put _ (some 11) _ = _
        simp only [Act.put, List.setIfInBounds_toArray, List.set_cons_zero, List.set_cons_succ, i64_w, i32_w]
        rfl
       refine one_ (i := 11) (N := some 59) #[true, true, true, true, true, true, true, true, true, true, true, true, false, true, false] rfl rfl (by kernel_rfl) (by decide) (fun K hK => ?_)
       refine goes_ Tryd.func42 (by kernel_rfl) rfl #[.slice A9 Q.length (rest.length + 1 - 1)] (by rfl) rfl rfl (by simp only [List.map_toArray, List.map_cons, List.map_nil]; rfl) ?_
       refine (cloneS_calls A9 (rest.length + 1 - 1) Q _ (HCM.out _ hHeld) HLM.out (by omega)).mono ?_
       rintro e w6 ⟨v6, rfl, ho6, hb6⟩
       obtain ⟨A6, c6, rfl⟩ := Kd.R_slice ho6
       have HO6 := Aside0.mk (Kd.R_lower ho6 hHeld.size)
       (try replace HA := Aside0.mk ((hb6.block _ (lt_of_some HA.out)).trans HA.out))
       clear ho6
       refine ⟨_, rfl, ?_⟩
       refine hK.out _ _ (hHeld.trans (hb6.mono hHeld.size)) (fun hHeld => ?_)
       clear hK K
       refine norm_ (a' := ?_) ?_ ?_
       rotate_left
       ·show Act.put _ (some 59) _ = _
        simp only [Act.put, List.setIfInBounds_toArray, List.set_cons_zero, List.set_cons_succ, i64_w, i32_w]
        rfl
       refine pure_ (i := 12) (N := some 60) (v := ?_) (a' := ?_) #[true, true, true, true, true, true, true, true, true, true, true, true, true, true, false] rfl rfl (by kernel_rfl) (fun _ _ _ h => h) (Or.inl ⟨by rfl, ?_⟩) ?_ ?_
       rotate_left
       ·intro w'
        go_simp
        with_reducible rfl
       rotate_left
       ·simp only [Act.put, List.setIfInBounds_toArray, List.set_cons_zero, List.set_cons_succ, i64_w, i32_w]
        rfl
       exact norm_ (by first | (simp only [putAll, Act.put, List.setIfInBounds_toArray, List.set_cons_zero, List.set_cons_succ]; done) | (simp only [putAll, Act.put, List.setIfInBounds_toArray, List.set_cons_zero, List.set_cons_succ]; rfl)) (hJ ((A6, c6), g11) _ ⟨hHeld, HO6.out, HA.out, HGE.out⟩)
     rintro ⟨⟨A6, c6⟩, g11⟩ wj ⟨hHeld, hj1, hj2, hj3⟩
     have HO6 := Aside0.mk hj1
     have HA := Aside0.mk hj2
     have HGE := Aside0.mk hj3
     clear hj1 hj2 hj3
     dsimp only at HO6 HA HGE
     refine norm_ (a' := ?_) ?_ ?_
     rotate_left
     ·simp only [putAll, Act.put, List.setIfInBounds_toArray, List.set_cons_zero, List.set_cons_succ]
      rfl
     refine last_ (i := 14) (N := none) #[true, true, true, true, true, true, true, true, true, true, true, true, true, true, true] rfl rfl (by kernel_rfl) (by decide) (fun K hK => ?_)
     refine skip_ (by rfl) rfl (y_storeRow (cs := bkC n1 n2 n3 A6 Q.length c6) (by rfl) (by rfl) (by rfl) HA.out infoBook rfl one4B) ?_
     refine hK.out _ _ ?_
     clear hK K
     refine done_ (by kernel_rfl) ?_
     skip
     have HR6 := Aside0.mk (Kd.R_step (Kd.R_types HO6.out HA.out (fun q hq => by simp [Kd.string, Kd.scalar] at hq; omega)) (fun k hk _ => setRow_other wj g11 k (bkC n1 n2 n3 A6 Q.length c6) hk.2))
     have HBK := Aside0.mk (setRow_heap wj g11 _ (bkC n1 n2 n3 A6 Q.length c6) _ _ HA.out)
     have HBJ := Aside0.mk (Go.below_setRow hHeld HGE.out (bkC n1 n2 n3 A6 Q.length c6))
     clear hHeld HA HO6
     generalize wj.setRow g11 (bkC n1 n2 n3 A6 Q.length c6) = W1 at *
     have HROK := Aside0.mk (HTX.out A6 c6 W1 (Kd.R_reads' HR6.out).2.2 (Kd.R_reads' HR6.out).2.1)
     clear HTX
     by_cases hok : T.toList = (⟨l.toArray⟩ : ByteArray).toList
     ·have HV3 := Aside0.mk (HV2.out.trans (if_pos hok))
      have hokb : (T.toList == l) = true := by rw [show (⟨l.toArray⟩ : ByteArray).toList = l by rw [Lib.toList_data]] at hok; simpa using hok
      clear hok HV2
      go_wp2_with (first
       | (go_at_call 9; refine HROK.out.mono ?_; rintro e wk ⟨rfl, hbk⟩; have HBW := Aside0.mk hbk; have HG2k := Aside0.mk (((HBJ.out.trans (hbk.mono HBJ.out.size)).block g2 (lt_of_some HG2.out)).trans HG2.out); have HBKk := Aside0.mk ((hbk.block g11 (lt_of_some HBK.out)).trans HBK.out); clear hbk)
       | ((with_reducible refine gt_load 28 ?_); refine Kd.event_run rfl (y_row (by rfl) (by rfl) HBKk.out aggBook rfl) ?_)
       | ((with_reducible refine gt_load 28 ?_); refine Kd.event_run rfl (y_row (by rfl) (by rfl) HBK.out aggBook rfl) ?_)
       | ((with_reducible refine gt_store 28 ?_); refine wpList_store_row rfl 28 _ _ rfl g2 (bkC n1 n2 n3 A6 Q.length c6) rfl rfl _ _ HG2k.out infoBook rfl one4B ?_))
      try simp only [Exit.inBlock, Exit.then]
      refine ret_row_tmp (cs := bkC n1 n2 n3 A6 Q.length c6) (setRow_heap _ _ _ _ _ _ HG2k.out) rfl rfl aggBook rfl rfl ?_
      rw [HV3.out]
      refine ⟨.slice A6 Q.length c6, rfl, ?_, ?_⟩
      ·show Kd.R Kd.string 9 _ _ _ _ (txs rest.dropLast)
       rw [HQQ.out]
       exact Kd.R_mono (Kd.R_lower (Kd.R_step (Kd.R_below (Kd.R_bound HR6.out) HBW.out) (fun k hk _ => setRow_other _ g2 k _ (by have := hk.2.1; have := lt_of_some HG2.out; omega))) HB.out.size) (fun _ _ => trivial)
      ·exact Go.below_setRow (HB.out.trans ((HBJ.out.trans (HBW.out.mono HBJ.out.size)).mono HB.out.size)) HGE2.out _
     ·have HV3 := Aside0.mk (HV2.out.trans (if_neg hok))
      have hokb : (T.toList == l) = false := by rw [show (⟨l.toArray⟩ : ByteArray).toList = l by rw [Lib.toList_data]] at hok; simpa using hok
      clear hok HV2
      go_wp2_with (first
       | (go_at_call 9; refine HROK.out.mono ?_; rintro e wk ⟨rfl, hbk⟩; have HBW := Aside0.mk hbk; have HG2k := Aside0.mk (((HBJ.out.trans (hbk.mono HBJ.out.size)).block g2 (lt_of_some HG2.out)).trans HG2.out); clear hbk)
       | ((with_reducible refine gt_load 28 ?_); refine Kd.event_run rfl (y_row (by rfl) (by rfl) HBK.out aggBook rfl) ?_)
       | ((with_reducible refine gt_build 28 ?_); refine st_zero rfl 28 rfl builtBook ?_)
       | ((with_reducible refine gt_store 28 ?_); refine wpList_store_row rfl 28 _ _ rfl g2 (bkC 0 0 0 none 0 0) rfl rfl _ _ HG2k.out infoBook rfl one4B ?_))
      try simp only [Exit.inBlock, Exit.then]
      refine ret_row_tmp (cs := bkC 0 0 0 none 0 0) (setRow_heap _ _ _ _ _ _ HG2k.out) rfl rfl aggBook rfl rfl ?_
      rw [HV3.out]
      exact gives_none (Go.below_setRow (HB.out.trans ((HBJ.out.trans (HBW.out.mono HBJ.out.size)).mono HB.out.size)) HGE2.out _)
 ·have HVN := Aside0.mk (HV.out.trans (rdI2_words h3))
  have h3i : ((WS2.length : Int) == 3) = false := by rw [beq_eq_false_iff_ne]; omega
  have h3j : ((WS2.length : Int) != 3) = true := by rw [bne, h3i]; rfl
  clear HV
  go_enter Tryd.func17, Tryd.ntmps17
  go_wp2_with (first
   | ((with_reducible refine gt_alloc 2 28 ?_); refine st_alloc rfl 2 rfl 28 rfl hm zeroBook ?_; clear hm; intro g2 w2 hm)
   | (go_at_call 33; first
     | ((with_reducible refine (HS.out _ ?hd1).mono ?_); (case hd1 => exact HD.out.below (hm.done rfl)); rintro e wa ⟨bk, R, rfl, hR, ho, HT, hb⟩; replace hm := hm.grow hb; rw [hR] at hm; have hc0 := HT wa (fun e he => (hm.ent e (by simp [he])).1) 0 hd rfl; clear hb hR)
     | ((with_reducible refine (HS2.out _ ?hd2).mono ?_); (case hd2 => exact HD.out.below (hm.done (by simp [ho]))); rintro e wb ⟨bk2, R2, rfl, hR2, ho2, HT2, hb2⟩; replace hm := hm.grow hb2; rw [hR2] at hm; clear hb2 hR2))
   | ((with_reducible refine gt_build 28 ?_); refine st_zero rfl 28 rfl builtBook ?_)
   | ((with_reducible refine gt_store 28 ?_); refine st_store rfl 28 _ _ rfl hm rfl rfl 0 rfl infoBook rfl one4B ?_; clear hm; intro ws hm; replace hm : Mem w ws (⟨g2, bkC 0 0 0 none 0 0, 28, true⟩ :: (R ++ R2)) := hm))
  try simp only [Exit.inBlock, Exit.then]
  refine ret_row_tmp (cs := bkC 0 0 0 none 0 0) (hm.mem (n := 0) rfl) rfl rfl aggBook rfl rfl ?_
  rw [HVN.out]
  exact gives_none (hm.done (by simp [ho, ho2]))
end Go.Proofs.YtdgecgfgekmhcaaDoor.Arr
namespace Go.Proofs.YtdgecgfgekmhcaaDoor.J
open Go.RowKit Go.Proofs.YtdgecgfgekmhcaaDoorW.PrintWords Go.Proofs.YtdgecgfgekmhcaaDoorW.PrintLast Go.Proofs.YtdgecgfgekmhcaaDoorW.PrintMore
attribute [local go_sem] max2_int min2_int max_two min_two max_three min_three max_four min_four
set_option linter.unusedVariables false
set_option linter.unusedSimpArgs false
def laws_eqStringS.l0 : Nat → List ByteArray → List ByteArray → Int → Option (Bool)
 | 0, _, _, _ => none
 | k + 1, x0, x1, x5 => if x5 < (x0.length : Int) then (if 0 ≤ x5 then (if x5 < (x1.length : Int) then (if (rdOf ByteArray.empty x0 x5).toList = (rdOf ByteArray.empty x1 x5).toList then (laws_eqStringS.l0 k x0 x1 (wrap64 (x5 + 1))) else (some false)) else (none)) else (none)) else (some true)
def laws_eqStringS.f (k : Nat) (l0 : List ByteArray) (l1 : List ByteArray) : Option (Bool) := if (l0.length : Int) = (l1.length : Int) then (laws_eqStringS.l0 k l0 l1 0) else (some false)
set_option maxHeartbeats 8000000 in
set_option maxRecDepth 100000 in
theorem laws_eqStringS.calls (k : Nat) (A0 : Option Addr) (c0 : Nat) (l0 : List ByteArray) (A1 : Option Addr) (c1 : Nat) (l1 : List ByteArray) (r : Bool) (w : World) (hr0 : Kd.C Kd.string w A0 l0.length l0) (hc0 : l0.length ≤ c0) (hr1 : Kd.C Kd.string w A1 l1.length l1) (hc1 : l1.length ≤ c1) (h : laws_eqStringS.f k l0 l1 = some r) :
  Calls Tryd.prog 26 #[.slice A0 l0.length c0, .slice A1 l1.length c1] w fun e w' => e = .returned (.bool r) ∧ Drawn0 w w' := by
 have HR0 := Aside0.mk hr0
 have HC0 := Aside0.mk hc0
 clear hr0 hc0
 have HR1 := Aside0.mk hr1
 have HC1 := Aside0.mk hc1
 clear hr1 hc1
 have H : (if (l0.length : Int) = (l1.length : Int) then (laws_eqStringS.l0 k l0 l1 0) else (some false)) = some r := h
 clear h
 by_cases c3 : (l0.length : Int) = (l1.length : Int)
 ·rw [if_pos c3] at H
  have c3b0 : ((l0.length : Int) == (l1.length : Int)) = true := beq_iff_eq.mpr c3
  have c3b1 : ((l0.length : Int) != (l1.length : Int)) = false := bne_eq_false_iff_eq.mpr c3
  have c3b2 : (l0.length == l1.length) = true := by first | simpa using c3 | (simp at c3 ⊢; omega)
  clear c3
  have H' := Aside0.mk H
  clear H
  go_enter Tryd.func26, Tryd.ntmps26
  go_wp2
  repeat (go_quiet (fail); try go_wp2)
  go_loopg [5] k (fun kq v5 w' => ∃ (x5_1 : Int), v5 = .int .i64 x5_1 ∧ Aside0 (laws_eqStringS.l0 kq l0 l1 x5_1 = some r) ∧ Aside0 (kq ≤ k) ∧ Drawn0 w w')
  case atStart => exact ⟨(0), (by first | rfl | (simp; done) | (simp [*]; done)), H', ⟨Nat.le_refl _⟩, by repeat (first | exact Drawn0.refl _ | apply Drawn0.step)⟩
  case round =>
   clear H'
   try clear c1
   try clear c2
   try clear p2
   try clear c3
   try clear c3b0
   try clear c3b1
   try clear c3b2
   obtain ⟨x5_1, rfl, HA, HK1, ⟨m1, rfl⟩⟩ := hrel
   cases gk with
   | zero => exact absurd HA.out (by simp [laws_eqStringS.l0])
   | succ k1 =>
    have H := HA.out
    clear HA
    simp only [laws_eqStringS.l0] at H
    by_cases c4 : x5_1 < (l0.length : Int)
    ·rw [if_pos c4] at H
     have c4b0 : decide (x5_1 < (l0.length : Int)) = true := decide_eq_true c4
     clear c4
     by_cases c5 : 0 ≤ x5_1
     ·rw [if_pos c5] at H
      have c5b0 : decide (0 ≤ x5_1) = true := decide_eq_true c5
      clear c5
      by_cases c6 : x5_1 < (l1.length : Int)
      ·rw [if_pos c6] at H
       have c6b0 : decide (x5_1 < (l1.length : Int)) = true := decide_eq_true c6
       clear c6
       by_cases c7 : (rdOf ByteArray.empty l0 x5_1).toList = (rdOf ByteArray.empty l1 x5_1).toList
       ·rw [if_pos c7] at H
        have c7b0 : ((rdOf ByteArray.empty l0 x5_1).toList == (rdOf ByteArray.empty l1 x5_1).toList) = true := beq_iff_eq.mpr c7
        have c7b1 : ((rdOf ByteArray.empty l0 x5_1).toList != (rdOf ByteArray.empty l1 x5_1).toList) = false := bne_eq_false_iff_eq.mpr c7
        clear c7
        have H' := Aside0.mk H
        clear H
        have p207 : 0 ≤ (x5_1 : Int) := of_decide_eq_true (by first | (with_reducible assumption) | assumption)
        have q207 : x5_1 < (l0.length : Int) := of_decide_eq_true (by first | (with_reducible assumption) | assumption)
        obtain ⟨ad207, e207, hx207_0⟩ := Kd.at_string HR0.out x5_1 p207 q207
        cases e207
        replace p207 := eq_true p207
        replace q207 := eq_true q207
        have p208 : 0 ≤ (x5_1 : Int) := of_decide_eq_true (by first | (with_reducible assumption) | assumption)
        have q208 : x5_1 < (l1.length : Int) := of_decide_eq_true (by first | (with_reducible assumption) | assumption)
        obtain ⟨ad208, e208, hx208_0⟩ := Kd.at_string HR1.out x5_1 p208 q208
        cases e208
        replace p208 := eq_true p208
        replace q208 := eq_true q208
        go_wp2
        repeat (go_quiet (fail); try go_wp2)
        go_roundg k1
        case measure => have := HK1.out; omega
        case rel => exact ⟨(wrap64 (x5_1 + 1)), (by first | rfl | (simp; done) | (simp [*]; done)), H', ⟨by have := HK1.out; omega⟩, by repeat (first | exact Drawn0.refl _ | apply Drawn0.step)⟩
       ·rw [if_neg c7] at H
        have c7b0 : ((rdOf ByteArray.empty l0 x5_1).toList == (rdOf ByteArray.empty l1 x5_1).toList) = false := beq_eq_false_iff_ne.mpr c7
        have c7b1 : ((rdOf ByteArray.empty l0 x5_1).toList != (rdOf ByteArray.empty l1 x5_1).toList) = true := bne_iff_ne.mpr c7
        obtain rfl := Option.some.inj H
        have p207 : 0 ≤ (x5_1 : Int) := of_decide_eq_true (by first | (with_reducible assumption) | assumption)
        have q207 : x5_1 < (l0.length : Int) := of_decide_eq_true (by first | (with_reducible assumption) | assumption)
        obtain ⟨ad207, e207, hx207_0⟩ := Kd.at_string HR0.out x5_1 p207 q207
        cases e207
        replace p207 := eq_true p207
        replace q207 := eq_true q207
        have p208 : 0 ≤ (x5_1 : Int) := of_decide_eq_true (by first | (with_reducible assumption) | assumption)
        have q208 : x5_1 < (l1.length : Int) := of_decide_eq_true (by first | (with_reducible assumption) | assumption)
        obtain ⟨ad208, e208, hx208_0⟩ := Kd.at_string HR1.out x5_1 p208 q208
        cases e208
        replace p208 := eq_true p208
        replace q208 := eq_true q208
        go_wp2
        repeat (go_quiet (fail); try go_wp2)
        go_ret
        exact ⟨by first | rfl | (simp; done) | (simp [*]; done), by repeat (first | exact Drawn0.refl _ | apply Drawn0.step)⟩
      ·rw [if_neg c6] at H
       exact absurd H (by simp)
     ·rw [if_neg c5] at H
      exact absurd H (by simp)
    ·rw [if_neg c4] at H
     have c4b0 : decide (x5_1 < (l0.length : Int)) = false := decide_eq_false c4
     clear c4
     obtain rfl := Option.some.inj H
     go_wp2
     repeat (go_quiet (fail); try go_wp2)
     go_ret
     exact ⟨by first | rfl | (simp; done) | (simp [*]; done), by repeat (first | exact Drawn0.refl _ | apply Drawn0.step)⟩
 ·rw [if_neg c3] at H
  have c3b0 : ((l0.length : Int) == (l1.length : Int)) = false := beq_eq_false_iff_ne.mpr c3
  have c3b1 : ((l0.length : Int) != (l1.length : Int)) = true := bne_iff_ne.mpr c3
  have c3b2 : (l0.length == l1.length) = false := by first | simpa using c3 | (simp at c3 ⊢; omega)
  obtain rfl := Option.some.inj H
  go_enter Tryd.func26, Tryd.ntmps26
  go_wp2
  repeat (go_quiet (fail); try go_wp2)
  go_ret
  exact ⟨by first | rfl | (simp; done) | (simp [*]; done), by repeat (first | exact Drawn0.refl _ | apply Drawn0.step)⟩
def laws_eqBook.f (k : Nat) (a0_0 : Int) (a0_1 : Int) (a0_2 : Int) (l0_3 : List ByteArray) (a1_0 : Int) (a1_1 : Int) (a1_2 : Int) (l1_3 : List ByteArray) : Option (Bool) := if a0_0 = a1_0 then (if a0_1 = a1_1 then (if a0_2 = a1_2 then ((laws_eqStringS.f k l0_3 l1_3).bind fun t211 => (if t211 = true then (some true) else (some false))) else (some false)) else (some false)) else (some false)
set_option maxHeartbeats 8000000 in
set_option maxRecDepth 100000 in
theorem laws_eqBook.calls (k : Nat) (a0_0 : Int) (a0_1 : Int) (a0_2 : Int) (A0_3 : Option Addr) (c0_3 : Nat) (l0_3 : List ByteArray) (a1_0 : Int) (a1_1 : Int) (a1_2 : Int) (A1_3 : Option Addr) (c1_3 : Nat) (l1_3 : List ByteArray) (r : Bool) (w : World) (hr0_3 : Kd.C Kd.string w A0_3 l0_3.length l0_3) (hc0_3 : l0_3.length ≤ c0_3) (hr1_3 : Kd.C Kd.string w A1_3 l1_3.length l1_3) (hc1_3 : l1_3.length ≤ c1_3) (h : laws_eqBook.f k a0_0 a0_1 a0_2 l0_3 a1_0 a1_1 a1_2 l1_3 = some r) :
  Calls Tryd.prog 10 #[.agg #[.int .i8 a0_0, .int .i8 a0_1, .int .i8 a0_2, .slice A0_3 l0_3.length c0_3], .agg #[.int .i8 a1_0, .int .i8 a1_1, .int .i8 a1_2, .slice A1_3 l1_3.length c1_3]] w fun e w' => e = .returned (.bool r) ∧ Below w.heap.size w w' := by
 have hu28 := Tryd.underlying28
 have HR0_3 := Aside0.mk hr0_3
 have HC0_3 := Aside0.mk hc0_3
 clear hr0_3 hc0_3
 have HR1_3 := Aside0.mk hr1_3
 have HC1_3 := Aside0.mk hc1_3
 clear hr1_3 hc1_3
 have HB := Aside0.mk (Below.refl w.heap.size w)
 have H : (if a0_0 = a1_0 then (if a0_1 = a1_1 then (if a0_2 = a1_2 then ((laws_eqStringS.f k l0_3 l1_3).bind fun t211 => (if t211 = true then (some true) else (some false))) else (some false)) else (some false)) else (some false)) = some r := h
 clear h
 by_cases c3 : a0_0 = a1_0
 ·rw [if_pos c3] at H
  have c3b0 : (a0_0 == a1_0) = true := beq_iff_eq.mpr c3
  have c3b1 : (a0_0 != a1_0) = false := bne_eq_false_iff_eq.mpr c3
  clear c3
  by_cases c4 : a0_1 = a1_1
  ·rw [if_pos c4] at H
   have c4b0 : (a0_1 == a1_1) = true := beq_iff_eq.mpr c4
   have c4b1 : (a0_1 != a1_1) = false := bne_eq_false_iff_eq.mpr c4
   clear c4
   by_cases c5 : a0_2 = a1_2
   ·rw [if_pos c5] at H
    have c5b0 : (a0_2 == a1_2) = true := beq_iff_eq.mpr c5
    have c5b1 : (a0_2 != a1_2) = false := bne_eq_false_iff_eq.mpr c5
    clear c5
    replace H := Option.bind_eq_some_iff.mp H
    obtain ⟨t211, A60, H⟩ := H
    replace H : (if t211 = true then (some true) else (some false)) = some r := H
    have A6 := Aside0.mk A60
    clear A60
    by_cases c7 : t211 = true
    ·subst c7
     have H1 : (some true) = some r := by rw [if_pos rfl] at H; exact H
     clear H
     have H := H1
     clear H1
     obtain rfl := Option.some.inj H
     go_enter Tryd.func10, Tryd.ntmps10
     go_wp2_with (first | ((with_reducible refine gate_dst (N := 2) rfl ?_); refine box_event ?hg (N := 2) ?hd (cs := #[.int .i8 a0_0, .int .i8 a0_1, .int .i8 a0_2, .slice A0_3 l0_3.length c0_3]) (t := 28) ?hr ?_; (case hd => rfl); (case hg => rfl); (case hr => first | (go_simp; done) | (go_simp; rfl)); intro gb209 hg w8 hbox hb; have n0_ := Aside0.mk (below_step (by repeat (first | (with_reducible first | exact HB.out | apply below_alloc | apply pw_below_drewN | apply below_drew1) | exact HB.out)) hb); have n1_ := Aside0.mk (hbox); have n2_ := Aside0.mk ((by rw [hg]; exact (below_size (by repeat (first | (with_reducible first | exact HB.out | apply below_alloc | apply pw_below_drewN | apply below_drew1) | exact HB.out))) : w.heap.size ≤ gb209)); have n3_ := Aside0.mk ((by rw [hg]; exact (below_size (by repeat (first | (with_reducible first | exact HB.out | apply below_alloc | apply pw_below_drewN | apply below_drew1) | exact HB.out))) : w.heap.size ≤ gb209)); clear HB; have HB := n0_; have BK209 := n1_; have GW209 := n2_; have GE209 := n3_; clear n0_ n1_ n2_ n3_; clear hb hbox hg) | ((with_reducible refine gate_dst (N := 3) rfl ?_); refine box_event ?hg (N := 3) ?hd (cs := #[.int .i8 a1_0, .int .i8 a1_1, .int .i8 a1_2, .slice A1_3 l1_3.length c1_3]) (t := 28) ?hr ?_; (case hd => rfl); (case hg => rfl); (case hr => first | (go_simp; done) | (go_simp; rfl)); intro gb210 hg w9 hbox hb; have n0_ := Aside0.mk (blk_below (g := gb209) (o := .cells #[.int .i8 a0_0, .int .i8 a0_1, .int .i8 a0_2, .slice A0_3 l0_3.length c0_3] 28 (0, 0)) (by (with_reducible repeat (first | refine blk_drewN ?_ _ | refine blk_drew ?_ | refine blk_alloc ?_ _)); exact BK209.out) hb); have n1_ := Aside0.mk (below_step (by repeat (first | (with_reducible first | exact HB.out | apply below_alloc | apply pw_below_drewN | apply below_drew1 | refine below_set ?_ GE209.out) | exact HB.out)) hb); have n2_ := Aside0.mk (hbox); have n3_ := Aside0.mk ((by rw [hg]; exact (below_size (by repeat (first | (with_reducible first | exact HB.out | apply below_alloc | apply pw_below_drewN | apply below_drew1 | refine below_set ?_ GE209.out) | exact HB.out))) : w.heap.size ≤ gb210)); have n4_ := Aside0.mk ((by rw [hg]; exact (below_size (by repeat (first | (with_reducible first | exact HB.out | apply below_alloc | apply pw_below_drewN | apply below_drew1 | refine below_set ?_ GE209.out) | exact HB.out))) : w.heap.size ≤ gb210)); have n5_ := Aside0.mk ((by rw [hg]; exact Nat.ne_of_lt (blk_lt (g := gb209) (o := .cells #[.int .i8 a0_0, .int .i8 a0_1, .int .i8 a0_2, .slice A0_3 l0_3.length c0_3] 28 (0, 0)) (by (with_reducible repeat (first | refine blk_drewN ?_ _ | refine blk_drew ?_ | refine blk_alloc ?_ _)); exact BK209.out)) : gb209 ≠ gb210)); have n6_ := Aside0.mk ((by rw [hg]; exact Nat.ne_of_gt (blk_lt (g := gb209) (o := .cells #[.int .i8 a0_0, .int .i8 a0_1, .int .i8 a0_2, .slice A0_3 l0_3.length c0_3] 28 (0, 0)) (by (with_reducible repeat (first | refine blk_drewN ?_ _ | refine blk_drew ?_ | refine blk_alloc ?_ _)); exact BK209.out)) : gb210 ≠ gb209)); clear BK209; clear HB; have BK209 := n0_; have HB := n1_; have BK210 := n2_; have GW210 := n3_; have GE210 := n4_; have NB209_210 := n5_; have NB210_209 := n6_; clear n0_ n1_ n2_ n3_ n4_ n5_ n6_; clear hb hbox hg; have hnb10 := NB209_210.out; have hnc10 := NB210_209.out; have hcz11_0 : w9.cell? ⟨gb209, 0, none⟩ = some (.int .i8 a0_0) := (blk_cell BK209.out 0).trans rfl; have hcz11_1 : w9.cell? ⟨gb209, 1, none⟩ = some (.int .i8 a0_1) := (blk_cell BK209.out 1).trans rfl; have hcz11_2 : w9.cell? ⟨gb209, 2, none⟩ = some (.int .i8 a0_2) := (blk_cell BK209.out 2).trans rfl; have hcz11_3 : w9.cell? ⟨gb209, 3, none⟩ = some (.slice A0_3 l0_3.length c0_3) := (blk_cell BK209.out 3).trans rfl; have hfz11_0 := blk_frozen BK209.out 0; have hfz11_1 := blk_frozen BK209.out 1; have hfz11_2 := blk_frozen BK209.out 2; have hfz11_3 := blk_frozen BK209.out 3; have hcz12_0 : w9.cell? ⟨gb210, 0, none⟩ = some (.int .i8 a1_0) := (blk_cell BK210.out 0).trans rfl; have hcz12_1 : w9.cell? ⟨gb210, 1, none⟩ = some (.int .i8 a1_1) := (blk_cell BK210.out 1).trans rfl; have hcz12_2 : w9.cell? ⟨gb210, 2, none⟩ = some (.int .i8 a1_2) := (blk_cell BK210.out 2).trans rfl; have hcz12_3 : w9.cell? ⟨gb210, 3, none⟩ = some (.slice A1_3 l1_3.length c1_3) := (blk_cell BK210.out 3).trans rfl; have hfz12_0 := blk_frozen BK210.out 0; have hfz12_1 := blk_frozen BK210.out 1; have hfz12_2 := blk_frozen BK210.out 2; have hfz12_3 := blk_frozen BK210.out 3) | ((with_reducible refine gate_callee (f := 26) rfl ?_); refine goesL_ (some 24) rfl rfl Tryd.func26 (by kernel_rfl) rfl #[.slice A0_3 l0_3.length c0_3, .slice A1_3 l1_3.length c1_3] rfl (by (try simp only [List.map_toArray, List.map_cons, List.map_nil]); first | done | rfl | (simp only [List.length_drop, List.length_take]; rfl)) ?_; (with_reducible refine (laws_eqStringS.calls k _ _ l0_3 _ _ l1_3 true _ ?side1 ?side2 ?side3 ?side4 A6.out).mono ?_); (case side1 => repeat (first | exact (Kd.C_below HR0_3.out HB.out) | (with_reducible refine Kd.C_alloc ?_ _) | (with_reducible refine Kd.C_drewN ?_ _) | (with_reducible refine Kd.C_drew ?_))); (case side2 => exact HC0_3.out); (case side3 => repeat (first | exact (Kd.C_below HR1_3.out HB.out) | (with_reducible refine Kd.C_alloc ?_ _) | (with_reducible refine Kd.C_drewN ?_ _) | (with_reducible refine Kd.C_drew ?_))); (case side4 => exact HC1_3.out); rintro e w' ⟨rfl, ⟨nd, rfl⟩⟩; refine ⟨_, rfl, ?_⟩))
     go_ret
     exact ⟨by first | rfl | (simp [errW_none, errW_some] <;> rfl) | (simp [*, errW_none, errW_some] <;> rfl), by repeat (first | (with_reducible first | exact HB.out | apply below_alloc | apply pw_below_drewN | apply below_drew1 | refine below_set ?_ GE209.out | refine below_set ?_ GE210.out) | exact HB.out)⟩
    ·replace c7 := Bool.eq_false_iff.mpr c7
     subst c7
     have H1 : (some false) = some r := by rw [if_neg (show ¬ (false = true) by decide)] at H; exact H
     clear H
     have H := H1
     clear H1
     obtain rfl := Option.some.inj H
     go_enter Tryd.func10, Tryd.ntmps10
     go_wp2_with (first | ((with_reducible refine gate_dst (N := 2) rfl ?_); refine box_event ?hg (N := 2) ?hd (cs := #[.int .i8 a0_0, .int .i8 a0_1, .int .i8 a0_2, .slice A0_3 l0_3.length c0_3]) (t := 28) ?hr ?_; (case hd => rfl); (case hg => rfl); (case hr => first | (go_simp; done) | (go_simp; rfl)); intro gb209 hg w13 hbox hb; have n0_ := Aside0.mk (below_step (by repeat (first | (with_reducible first | exact HB.out | apply below_alloc | apply pw_below_drewN | apply below_drew1) | exact HB.out)) hb); have n1_ := Aside0.mk (hbox); have n2_ := Aside0.mk ((by rw [hg]; exact (below_size (by repeat (first | (with_reducible first | exact HB.out | apply below_alloc | apply pw_below_drewN | apply below_drew1) | exact HB.out))) : w.heap.size ≤ gb209)); have n3_ := Aside0.mk ((by rw [hg]; exact (below_size (by repeat (first | (with_reducible first | exact HB.out | apply below_alloc | apply pw_below_drewN | apply below_drew1) | exact HB.out))) : w.heap.size ≤ gb209)); clear HB; have HB := n0_; have BK209 := n1_; have GW209 := n2_; have GE209 := n3_; clear n0_ n1_ n2_ n3_; clear hb hbox hg) | ((with_reducible refine gate_dst (N := 3) rfl ?_); refine box_event ?hg (N := 3) ?hd (cs := #[.int .i8 a1_0, .int .i8 a1_1, .int .i8 a1_2, .slice A1_3 l1_3.length c1_3]) (t := 28) ?hr ?_; (case hd => rfl); (case hg => rfl); (case hr => first | (go_simp; done) | (go_simp; rfl)); intro gb210 hg w14 hbox hb; have n0_ := Aside0.mk (blk_below (g := gb209) (o := .cells #[.int .i8 a0_0, .int .i8 a0_1, .int .i8 a0_2, .slice A0_3 l0_3.length c0_3] 28 (0, 0)) (by (with_reducible repeat (first | refine blk_drewN ?_ _ | refine blk_drew ?_ | refine blk_alloc ?_ _)); exact BK209.out) hb); have n1_ := Aside0.mk (below_step (by repeat (first | (with_reducible first | exact HB.out | apply below_alloc | apply pw_below_drewN | apply below_drew1 | refine below_set ?_ GE209.out) | exact HB.out)) hb); have n2_ := Aside0.mk (hbox); have n3_ := Aside0.mk ((by rw [hg]; exact (below_size (by repeat (first | (with_reducible first | exact HB.out | apply below_alloc | apply pw_below_drewN | apply below_drew1 | refine below_set ?_ GE209.out) | exact HB.out))) : w.heap.size ≤ gb210)); have n4_ := Aside0.mk ((by rw [hg]; exact (below_size (by repeat (first | (with_reducible first | exact HB.out | apply below_alloc | apply pw_below_drewN | apply below_drew1 | refine below_set ?_ GE209.out) | exact HB.out))) : w.heap.size ≤ gb210)); have n5_ := Aside0.mk ((by rw [hg]; exact Nat.ne_of_lt (blk_lt (g := gb209) (o := .cells #[.int .i8 a0_0, .int .i8 a0_1, .int .i8 a0_2, .slice A0_3 l0_3.length c0_3] 28 (0, 0)) (by (with_reducible repeat (first | refine blk_drewN ?_ _ | refine blk_drew ?_ | refine blk_alloc ?_ _)); exact BK209.out)) : gb209 ≠ gb210)); have n6_ := Aside0.mk ((by rw [hg]; exact Nat.ne_of_gt (blk_lt (g := gb209) (o := .cells #[.int .i8 a0_0, .int .i8 a0_1, .int .i8 a0_2, .slice A0_3 l0_3.length c0_3] 28 (0, 0)) (by (with_reducible repeat (first | refine blk_drewN ?_ _ | refine blk_drew ?_ | refine blk_alloc ?_ _)); exact BK209.out)) : gb210 ≠ gb209)); clear BK209; clear HB; have BK209 := n0_; have HB := n1_; have BK210 := n2_; have GW210 := n3_; have GE210 := n4_; have NB209_210 := n5_; have NB210_209 := n6_; clear n0_ n1_ n2_ n3_ n4_ n5_ n6_; clear hb hbox hg; have hnb15 := NB209_210.out; have hnc15 := NB210_209.out; have hcz16_0 : w14.cell? ⟨gb209, 0, none⟩ = some (.int .i8 a0_0) := (blk_cell BK209.out 0).trans rfl; have hcz16_1 : w14.cell? ⟨gb209, 1, none⟩ = some (.int .i8 a0_1) := (blk_cell BK209.out 1).trans rfl; have hcz16_2 : w14.cell? ⟨gb209, 2, none⟩ = some (.int .i8 a0_2) := (blk_cell BK209.out 2).trans rfl; have hcz16_3 : w14.cell? ⟨gb209, 3, none⟩ = some (.slice A0_3 l0_3.length c0_3) := (blk_cell BK209.out 3).trans rfl; have hfz16_0 := blk_frozen BK209.out 0; have hfz16_1 := blk_frozen BK209.out 1; have hfz16_2 := blk_frozen BK209.out 2; have hfz16_3 := blk_frozen BK209.out 3; have hcz17_0 : w14.cell? ⟨gb210, 0, none⟩ = some (.int .i8 a1_0) := (blk_cell BK210.out 0).trans rfl; have hcz17_1 : w14.cell? ⟨gb210, 1, none⟩ = some (.int .i8 a1_1) := (blk_cell BK210.out 1).trans rfl; have hcz17_2 : w14.cell? ⟨gb210, 2, none⟩ = some (.int .i8 a1_2) := (blk_cell BK210.out 2).trans rfl; have hcz17_3 : w14.cell? ⟨gb210, 3, none⟩ = some (.slice A1_3 l1_3.length c1_3) := (blk_cell BK210.out 3).trans rfl; have hfz17_0 := blk_frozen BK210.out 0; have hfz17_1 := blk_frozen BK210.out 1; have hfz17_2 := blk_frozen BK210.out 2; have hfz17_3 := blk_frozen BK210.out 3) | ((with_reducible refine gate_callee (f := 26) rfl ?_); refine goesL_ (some 24) rfl rfl Tryd.func26 (by kernel_rfl) rfl #[.slice A0_3 l0_3.length c0_3, .slice A1_3 l1_3.length c1_3] rfl (by (try simp only [List.map_toArray, List.map_cons, List.map_nil]); first | done | rfl | (simp only [List.length_drop, List.length_take]; rfl)) ?_; (with_reducible refine (laws_eqStringS.calls k _ _ l0_3 _ _ l1_3 false _ ?side1 ?side2 ?side3 ?side4 A6.out).mono ?_); (case side1 => repeat (first | exact (Kd.C_below HR0_3.out HB.out) | (with_reducible refine Kd.C_alloc ?_ _) | (with_reducible refine Kd.C_drewN ?_ _) | (with_reducible refine Kd.C_drew ?_))); (case side2 => exact HC0_3.out); (case side3 => repeat (first | exact (Kd.C_below HR1_3.out HB.out) | (with_reducible refine Kd.C_alloc ?_ _) | (with_reducible refine Kd.C_drewN ?_ _) | (with_reducible refine Kd.C_drew ?_))); (case side4 => exact HC1_3.out); rintro e w' ⟨rfl, ⟨nd, rfl⟩⟩; refine ⟨_, rfl, ?_⟩))
     go_ret
     exact ⟨by first | rfl | (simp [errW_none, errW_some] <;> rfl) | (simp [*, errW_none, errW_some] <;> rfl), by repeat (first | (with_reducible first | exact HB.out | apply below_alloc | apply pw_below_drewN | apply below_drew1 | refine below_set ?_ GE209.out | refine below_set ?_ GE210.out) | exact HB.out)⟩
   ·rw [if_neg c5] at H
    have c5b0 : (a0_2 == a1_2) = false := beq_eq_false_iff_ne.mpr c5
    have c5b1 : (a0_2 != a1_2) = true := bne_iff_ne.mpr c5
    obtain rfl := Option.some.inj H
    go_enter Tryd.func10, Tryd.ntmps10
    go_wp2_with (first | ((with_reducible refine gate_dst (N := 2) rfl ?_); refine box_event ?hg (N := 2) ?hd (cs := #[.int .i8 a0_0, .int .i8 a0_1, .int .i8 a0_2, .slice A0_3 l0_3.length c0_3]) (t := 28) ?hr ?_; (case hd => rfl); (case hg => rfl); (case hr => first | (go_simp; done) | (go_simp; rfl)); intro gb209 hg w18 hbox hb; have n0_ := Aside0.mk (below_step (by repeat (first | (with_reducible first | exact HB.out | apply below_alloc | apply pw_below_drewN | apply below_drew1) | exact HB.out)) hb); have n1_ := Aside0.mk (hbox); have n2_ := Aside0.mk ((by rw [hg]; exact (below_size (by repeat (first | (with_reducible first | exact HB.out | apply below_alloc | apply pw_below_drewN | apply below_drew1) | exact HB.out))) : w.heap.size ≤ gb209)); have n3_ := Aside0.mk ((by rw [hg]; exact (below_size (by repeat (first | (with_reducible first | exact HB.out | apply below_alloc | apply pw_below_drewN | apply below_drew1) | exact HB.out))) : w.heap.size ≤ gb209)); clear HB; have HB := n0_; have BK209 := n1_; have GW209 := n2_; have GE209 := n3_; clear n0_ n1_ n2_ n3_; clear hb hbox hg) | ((with_reducible refine gate_dst (N := 3) rfl ?_); refine box_event ?hg (N := 3) ?hd (cs := #[.int .i8 a1_0, .int .i8 a1_1, .int .i8 a1_2, .slice A1_3 l1_3.length c1_3]) (t := 28) ?hr ?_; (case hd => rfl); (case hg => rfl); (case hr => first | (go_simp; done) | (go_simp; rfl)); intro gb210 hg w19 hbox hb; have n0_ := Aside0.mk (blk_below (g := gb209) (o := .cells #[.int .i8 a0_0, .int .i8 a0_1, .int .i8 a0_2, .slice A0_3 l0_3.length c0_3] 28 (0, 0)) (by (with_reducible repeat (first | refine blk_drewN ?_ _ | refine blk_drew ?_ | refine blk_alloc ?_ _)); exact BK209.out) hb); have n1_ := Aside0.mk (below_step (by repeat (first | (with_reducible first | exact HB.out | apply below_alloc | apply pw_below_drewN | apply below_drew1 | refine below_set ?_ GE209.out) | exact HB.out)) hb); have n2_ := Aside0.mk (hbox); have n3_ := Aside0.mk ((by rw [hg]; exact (below_size (by repeat (first | (with_reducible first | exact HB.out | apply below_alloc | apply pw_below_drewN | apply below_drew1 | refine below_set ?_ GE209.out) | exact HB.out))) : w.heap.size ≤ gb210)); have n4_ := Aside0.mk ((by rw [hg]; exact (below_size (by repeat (first | (with_reducible first | exact HB.out | apply below_alloc | apply pw_below_drewN | apply below_drew1 | refine below_set ?_ GE209.out) | exact HB.out))) : w.heap.size ≤ gb210)); have n5_ := Aside0.mk ((by rw [hg]; exact Nat.ne_of_lt (blk_lt (g := gb209) (o := .cells #[.int .i8 a0_0, .int .i8 a0_1, .int .i8 a0_2, .slice A0_3 l0_3.length c0_3] 28 (0, 0)) (by (with_reducible repeat (first | refine blk_drewN ?_ _ | refine blk_drew ?_ | refine blk_alloc ?_ _)); exact BK209.out)) : gb209 ≠ gb210)); have n6_ := Aside0.mk ((by rw [hg]; exact Nat.ne_of_gt (blk_lt (g := gb209) (o := .cells #[.int .i8 a0_0, .int .i8 a0_1, .int .i8 a0_2, .slice A0_3 l0_3.length c0_3] 28 (0, 0)) (by (with_reducible repeat (first | refine blk_drewN ?_ _ | refine blk_drew ?_ | refine blk_alloc ?_ _)); exact BK209.out)) : gb210 ≠ gb209)); clear BK209; clear HB; have BK209 := n0_; have HB := n1_; have BK210 := n2_; have GW210 := n3_; have GE210 := n4_; have NB209_210 := n5_; have NB210_209 := n6_; clear n0_ n1_ n2_ n3_ n4_ n5_ n6_; clear hb hbox hg; have hnb20 := NB209_210.out; have hnc20 := NB210_209.out; have hcz21_0 : w19.cell? ⟨gb209, 0, none⟩ = some (.int .i8 a0_0) := (blk_cell BK209.out 0).trans rfl; have hcz21_1 : w19.cell? ⟨gb209, 1, none⟩ = some (.int .i8 a0_1) := (blk_cell BK209.out 1).trans rfl; have hcz21_2 : w19.cell? ⟨gb209, 2, none⟩ = some (.int .i8 a0_2) := (blk_cell BK209.out 2).trans rfl; have hcz21_3 : w19.cell? ⟨gb209, 3, none⟩ = some (.slice A0_3 l0_3.length c0_3) := (blk_cell BK209.out 3).trans rfl; have hfz21_0 := blk_frozen BK209.out 0; have hfz21_1 := blk_frozen BK209.out 1; have hfz21_2 := blk_frozen BK209.out 2; have hfz21_3 := blk_frozen BK209.out 3; have hcz22_0 : w19.cell? ⟨gb210, 0, none⟩ = some (.int .i8 a1_0) := (blk_cell BK210.out 0).trans rfl; have hcz22_1 : w19.cell? ⟨gb210, 1, none⟩ = some (.int .i8 a1_1) := (blk_cell BK210.out 1).trans rfl; have hcz22_2 : w19.cell? ⟨gb210, 2, none⟩ = some (.int .i8 a1_2) := (blk_cell BK210.out 2).trans rfl; have hcz22_3 : w19.cell? ⟨gb210, 3, none⟩ = some (.slice A1_3 l1_3.length c1_3) := (blk_cell BK210.out 3).trans rfl; have hfz22_0 := blk_frozen BK210.out 0; have hfz22_1 := blk_frozen BK210.out 1; have hfz22_2 := blk_frozen BK210.out 2; have hfz22_3 := blk_frozen BK210.out 3))
    go_ret
    exact ⟨by first | rfl | (simp [errW_none, errW_some] <;> rfl) | (simp [*, errW_none, errW_some] <;> rfl), by repeat (first | (with_reducible first | exact HB.out | apply below_alloc | apply pw_below_drewN | apply below_drew1 | refine below_set ?_ GE209.out | refine below_set ?_ GE210.out) | exact HB.out)⟩
  ·rw [if_neg c4] at H
   have c4b0 : (a0_1 == a1_1) = false := beq_eq_false_iff_ne.mpr c4
   have c4b1 : (a0_1 != a1_1) = true := bne_iff_ne.mpr c4
   obtain rfl := Option.some.inj H
   go_enter Tryd.func10, Tryd.ntmps10
   go_wp2_with (first | ((with_reducible refine gate_dst (N := 2) rfl ?_); refine box_event ?hg (N := 2) ?hd (cs := #[.int .i8 a0_0, .int .i8 a0_1, .int .i8 a0_2, .slice A0_3 l0_3.length c0_3]) (t := 28) ?hr ?_; (case hd => rfl); (case hg => rfl); (case hr => first | (go_simp; done) | (go_simp; rfl)); intro gb209 hg w23 hbox hb; have n0_ := Aside0.mk (below_step (by repeat (first | (with_reducible first | exact HB.out | apply below_alloc | apply pw_below_drewN | apply below_drew1) | exact HB.out)) hb); have n1_ := Aside0.mk (hbox); have n2_ := Aside0.mk ((by rw [hg]; exact (below_size (by repeat (first | (with_reducible first | exact HB.out | apply below_alloc | apply pw_below_drewN | apply below_drew1) | exact HB.out))) : w.heap.size ≤ gb209)); have n3_ := Aside0.mk ((by rw [hg]; exact (below_size (by repeat (first | (with_reducible first | exact HB.out | apply below_alloc | apply pw_below_drewN | apply below_drew1) | exact HB.out))) : w.heap.size ≤ gb209)); clear HB; have HB := n0_; have BK209 := n1_; have GW209 := n2_; have GE209 := n3_; clear n0_ n1_ n2_ n3_; clear hb hbox hg) | ((with_reducible refine gate_dst (N := 3) rfl ?_); refine box_event ?hg (N := 3) ?hd (cs := #[.int .i8 a1_0, .int .i8 a1_1, .int .i8 a1_2, .slice A1_3 l1_3.length c1_3]) (t := 28) ?hr ?_; (case hd => rfl); (case hg => rfl); (case hr => first | (go_simp; done) | (go_simp; rfl)); intro gb210 hg w24 hbox hb; have n0_ := Aside0.mk (blk_below (g := gb209) (o := .cells #[.int .i8 a0_0, .int .i8 a0_1, .int .i8 a0_2, .slice A0_3 l0_3.length c0_3] 28 (0, 0)) (by (with_reducible repeat (first | refine blk_drewN ?_ _ | refine blk_drew ?_ | refine blk_alloc ?_ _)); exact BK209.out) hb); have n1_ := Aside0.mk (below_step (by repeat (first | (with_reducible first | exact HB.out | apply below_alloc | apply pw_below_drewN | apply below_drew1 | refine below_set ?_ GE209.out) | exact HB.out)) hb); have n2_ := Aside0.mk (hbox); have n3_ := Aside0.mk ((by rw [hg]; exact (below_size (by repeat (first | (with_reducible first | exact HB.out | apply below_alloc | apply pw_below_drewN | apply below_drew1 | refine below_set ?_ GE209.out) | exact HB.out))) : w.heap.size ≤ gb210)); have n4_ := Aside0.mk ((by rw [hg]; exact (below_size (by repeat (first | (with_reducible first | exact HB.out | apply below_alloc | apply pw_below_drewN | apply below_drew1 | refine below_set ?_ GE209.out) | exact HB.out))) : w.heap.size ≤ gb210)); have n5_ := Aside0.mk ((by rw [hg]; exact Nat.ne_of_lt (blk_lt (g := gb209) (o := .cells #[.int .i8 a0_0, .int .i8 a0_1, .int .i8 a0_2, .slice A0_3 l0_3.length c0_3] 28 (0, 0)) (by (with_reducible repeat (first | refine blk_drewN ?_ _ | refine blk_drew ?_ | refine blk_alloc ?_ _)); exact BK209.out)) : gb209 ≠ gb210)); have n6_ := Aside0.mk ((by rw [hg]; exact Nat.ne_of_gt (blk_lt (g := gb209) (o := .cells #[.int .i8 a0_0, .int .i8 a0_1, .int .i8 a0_2, .slice A0_3 l0_3.length c0_3] 28 (0, 0)) (by (with_reducible repeat (first | refine blk_drewN ?_ _ | refine blk_drew ?_ | refine blk_alloc ?_ _)); exact BK209.out)) : gb210 ≠ gb209)); clear BK209; clear HB; have BK209 := n0_; have HB := n1_; have BK210 := n2_; have GW210 := n3_; have GE210 := n4_; have NB209_210 := n5_; have NB210_209 := n6_; clear n0_ n1_ n2_ n3_ n4_ n5_ n6_; clear hb hbox hg; have hnb25 := NB209_210.out; have hnc25 := NB210_209.out; have hcz26_0 : w24.cell? ⟨gb209, 0, none⟩ = some (.int .i8 a0_0) := (blk_cell BK209.out 0).trans rfl; have hcz26_1 : w24.cell? ⟨gb209, 1, none⟩ = some (.int .i8 a0_1) := (blk_cell BK209.out 1).trans rfl; have hcz26_2 : w24.cell? ⟨gb209, 2, none⟩ = some (.int .i8 a0_2) := (blk_cell BK209.out 2).trans rfl; have hcz26_3 : w24.cell? ⟨gb209, 3, none⟩ = some (.slice A0_3 l0_3.length c0_3) := (blk_cell BK209.out 3).trans rfl; have hfz26_0 := blk_frozen BK209.out 0; have hfz26_1 := blk_frozen BK209.out 1; have hfz26_2 := blk_frozen BK209.out 2; have hfz26_3 := blk_frozen BK209.out 3; have hcz27_0 : w24.cell? ⟨gb210, 0, none⟩ = some (.int .i8 a1_0) := (blk_cell BK210.out 0).trans rfl; have hcz27_1 : w24.cell? ⟨gb210, 1, none⟩ = some (.int .i8 a1_1) := (blk_cell BK210.out 1).trans rfl; have hcz27_2 : w24.cell? ⟨gb210, 2, none⟩ = some (.int .i8 a1_2) := (blk_cell BK210.out 2).trans rfl; have hcz27_3 : w24.cell? ⟨gb210, 3, none⟩ = some (.slice A1_3 l1_3.length c1_3) := (blk_cell BK210.out 3).trans rfl; have hfz27_0 := blk_frozen BK210.out 0; have hfz27_1 := blk_frozen BK210.out 1; have hfz27_2 := blk_frozen BK210.out 2; have hfz27_3 := blk_frozen BK210.out 3))
   go_ret
   exact ⟨by first | rfl | (simp [errW_none, errW_some] <;> rfl) | (simp [*, errW_none, errW_some] <;> rfl), by repeat (first | (with_reducible first | exact HB.out | apply below_alloc | apply pw_below_drewN | apply below_drew1 | refine below_set ?_ GE209.out | refine below_set ?_ GE210.out) | exact HB.out)⟩
 ·rw [if_neg c3] at H
  have c3b0 : (a0_0 == a1_0) = false := beq_eq_false_iff_ne.mpr c3
  have c3b1 : (a0_0 != a1_0) = true := bne_iff_ne.mpr c3
  obtain rfl := Option.some.inj H
  go_enter Tryd.func10, Tryd.ntmps10
  go_wp2_with (first | ((with_reducible refine gate_dst (N := 2) rfl ?_); refine box_event ?hg (N := 2) ?hd (cs := #[.int .i8 a0_0, .int .i8 a0_1, .int .i8 a0_2, .slice A0_3 l0_3.length c0_3]) (t := 28) ?hr ?_; (case hd => rfl); (case hg => rfl); (case hr => first | (go_simp; done) | (go_simp; rfl)); intro gb209 hg w28 hbox hb; have n0_ := Aside0.mk (below_step (by repeat (first | (with_reducible first | exact HB.out | apply below_alloc | apply pw_below_drewN | apply below_drew1) | exact HB.out)) hb); have n1_ := Aside0.mk (hbox); have n2_ := Aside0.mk ((by rw [hg]; exact (below_size (by repeat (first | (with_reducible first | exact HB.out | apply below_alloc | apply pw_below_drewN | apply below_drew1) | exact HB.out))) : w.heap.size ≤ gb209)); have n3_ := Aside0.mk ((by rw [hg]; exact (below_size (by repeat (first | (with_reducible first | exact HB.out | apply below_alloc | apply pw_below_drewN | apply below_drew1) | exact HB.out))) : w.heap.size ≤ gb209)); clear HB; have HB := n0_; have BK209 := n1_; have GW209 := n2_; have GE209 := n3_; clear n0_ n1_ n2_ n3_; clear hb hbox hg) | ((with_reducible refine gate_dst (N := 3) rfl ?_); refine box_event ?hg (N := 3) ?hd (cs := #[.int .i8 a1_0, .int .i8 a1_1, .int .i8 a1_2, .slice A1_3 l1_3.length c1_3]) (t := 28) ?hr ?_; (case hd => rfl); (case hg => rfl); (case hr => first | (go_simp; done) | (go_simp; rfl)); intro gb210 hg w29 hbox hb; have n0_ := Aside0.mk (blk_below (g := gb209) (o := .cells #[.int .i8 a0_0, .int .i8 a0_1, .int .i8 a0_2, .slice A0_3 l0_3.length c0_3] 28 (0, 0)) (by (with_reducible repeat (first | refine blk_drewN ?_ _ | refine blk_drew ?_ | refine blk_alloc ?_ _)); exact BK209.out) hb); have n1_ := Aside0.mk (below_step (by repeat (first | (with_reducible first | exact HB.out | apply below_alloc | apply pw_below_drewN | apply below_drew1 | refine below_set ?_ GE209.out) | exact HB.out)) hb); have n2_ := Aside0.mk (hbox); have n3_ := Aside0.mk ((by rw [hg]; exact (below_size (by repeat (first | (with_reducible first | exact HB.out | apply below_alloc | apply pw_below_drewN | apply below_drew1 | refine below_set ?_ GE209.out) | exact HB.out))) : w.heap.size ≤ gb210)); have n4_ := Aside0.mk ((by rw [hg]; exact (below_size (by repeat (first | (with_reducible first | exact HB.out | apply below_alloc | apply pw_below_drewN | apply below_drew1 | refine below_set ?_ GE209.out) | exact HB.out))) : w.heap.size ≤ gb210)); have n5_ := Aside0.mk ((by rw [hg]; exact Nat.ne_of_lt (blk_lt (g := gb209) (o := .cells #[.int .i8 a0_0, .int .i8 a0_1, .int .i8 a0_2, .slice A0_3 l0_3.length c0_3] 28 (0, 0)) (by (with_reducible repeat (first | refine blk_drewN ?_ _ | refine blk_drew ?_ | refine blk_alloc ?_ _)); exact BK209.out)) : gb209 ≠ gb210)); have n6_ := Aside0.mk ((by rw [hg]; exact Nat.ne_of_gt (blk_lt (g := gb209) (o := .cells #[.int .i8 a0_0, .int .i8 a0_1, .int .i8 a0_2, .slice A0_3 l0_3.length c0_3] 28 (0, 0)) (by (with_reducible repeat (first | refine blk_drewN ?_ _ | refine blk_drew ?_ | refine blk_alloc ?_ _)); exact BK209.out)) : gb210 ≠ gb209)); clear BK209; clear HB; have BK209 := n0_; have HB := n1_; have BK210 := n2_; have GW210 := n3_; have GE210 := n4_; have NB209_210 := n5_; have NB210_209 := n6_; clear n0_ n1_ n2_ n3_ n4_ n5_ n6_; clear hb hbox hg; have hnb30 := NB209_210.out; have hnc30 := NB210_209.out; have hcz31_0 : w29.cell? ⟨gb209, 0, none⟩ = some (.int .i8 a0_0) := (blk_cell BK209.out 0).trans rfl; have hcz31_1 : w29.cell? ⟨gb209, 1, none⟩ = some (.int .i8 a0_1) := (blk_cell BK209.out 1).trans rfl; have hcz31_2 : w29.cell? ⟨gb209, 2, none⟩ = some (.int .i8 a0_2) := (blk_cell BK209.out 2).trans rfl; have hcz31_3 : w29.cell? ⟨gb209, 3, none⟩ = some (.slice A0_3 l0_3.length c0_3) := (blk_cell BK209.out 3).trans rfl; have hfz31_0 := blk_frozen BK209.out 0; have hfz31_1 := blk_frozen BK209.out 1; have hfz31_2 := blk_frozen BK209.out 2; have hfz31_3 := blk_frozen BK209.out 3; have hcz32_0 : w29.cell? ⟨gb210, 0, none⟩ = some (.int .i8 a1_0) := (blk_cell BK210.out 0).trans rfl; have hcz32_1 : w29.cell? ⟨gb210, 1, none⟩ = some (.int .i8 a1_1) := (blk_cell BK210.out 1).trans rfl; have hcz32_2 : w29.cell? ⟨gb210, 2, none⟩ = some (.int .i8 a1_2) := (blk_cell BK210.out 2).trans rfl; have hcz32_3 : w29.cell? ⟨gb210, 3, none⟩ = some (.slice A1_3 l1_3.length c1_3) := (blk_cell BK210.out 3).trans rfl; have hfz32_0 := blk_frozen BK210.out 0; have hfz32_1 := blk_frozen BK210.out 1; have hfz32_2 := blk_frozen BK210.out 2; have hfz32_3 := blk_frozen BK210.out 3))
  go_ret
  exact ⟨by first | rfl | (simp [errW_none, errW_some] <;> rfl) | (simp [*, errW_none, errW_some] <;> rfl), by repeat (first | (with_reducible first | exact HB.out | apply below_alloc | apply pw_below_drewN | apply below_drew1 | refine below_set ?_ GE209.out | refine below_set ?_ GE210.out) | exact HB.out)⟩
def laws_markText.l0 : Nat → Int → ByteArray → Option (ByteArray)
 | 0, _, _ => none
 | k + 1, x0, x3 => if x0 > 0 then ((some (([(wrap64 (48 + (Int.tmod x0 10))) % 256] : List Int) : List Int)).bind fun y212 => (if (strOfNums y212).size + x3.size ≤ 9223372036854775807 then (laws_markText.l0 k (wrap64 (Int.tdiv x0 10)) ((strOfNums y212) ++ x3)) else (none))) else (if 1 + x3.size ≤ 9223372036854775807 then (some ((⟨#[109]⟩ : ByteArray) ++ x3)) else (none))
def laws_markText.f (k : Nat) (a0 : Int) : Option (ByteArray) := if a0 ≤ 0 then (some (⟨#[109, 48]⟩ : ByteArray)) else (laws_markText.l0 k a0 (⟨#[]⟩ : ByteArray))
set_option maxHeartbeats 8000000 in
set_option maxRecDepth 100000 in
theorem laws_markText.calls (k : Nat) (a0 : Int) (r : ByteArray) (w : World) (h : laws_markText.f k a0 = some r) :
  Calls Tryd.prog 65 #[.int .i64 a0] w fun e w' => e = .returned (.string r) ∧ Below w.heap.size w w' := by
 have HB := Aside0.mk (Below.refl w.heap.size w)
 have H : (if a0 ≤ 0 then (some (⟨#[109, 48]⟩ : ByteArray)) else (laws_markText.l0 k a0 (⟨#[]⟩ : ByteArray))) = some r := h
 clear h
 by_cases c2 : a0 ≤ 0
 ·rw [if_pos c2] at H
  have c2b0 : decide (a0 ≤ 0) = true := decide_eq_true c2
  clear c2
  obtain rfl := Option.some.inj H
  go_enter Tryd.func65, Tryd.ntmps65
  go_wp2
  go_ret
  exact ⟨by first | rfl | (simp [errW_none, errW_some] <;> rfl) | (simp [*, errW_none, errW_some] <;> rfl), by repeat (first | (with_reducible first | exact HB.out | apply below_alloc | apply pw_below_drewN | apply below_drew1) | exact HB.out)⟩
 ·rw [if_neg c2] at H
  have c2b0 : decide (a0 ≤ 0) = false := decide_eq_false c2
  clear c2
  have H' := Aside0.mk H
  clear H
  go_enter Tryd.func65, Tryd.ntmps65
  go_wp2
  go_loopg [0, 3] k (fun kq v0 v3 w' => ∃ (x0_1 : Int) (x3_1 : ByteArray), v0 = .int .i64 x0_1 ∧ v3 = .string x3_1 ∧ Aside0 (laws_markText.l0 kq x0_1 x3_1 = some r) ∧ Aside0 (kq ≤ k) ∧ Aside0 (Below w.heap.size w w'))
  case atStart => exact ⟨(a0), ((⟨#[]⟩ : ByteArray)), (by first | rfl | (simp; done) | (simp [*]; done)), (by first | rfl | (simp; done) | (simp [*]; done)), H', ⟨Nat.le_refl _⟩, ⟨by repeat (first | (with_reducible first | exact HB.out | apply below_alloc | apply pw_below_drewN | apply below_drew1) | exact HB.out)⟩⟩
  case round =>
   clear H'
   try clear c2
   try clear c2b0
   try clear p2
   obtain ⟨x0_1, x3_1, rfl, rfl, HA, HK1, HB⟩ := hrel
   cases gk with
   | zero => exact absurd HA.out (by simp [laws_markText.l0])
   | succ k1 =>
    have H := HA.out
    clear HA
    simp only [laws_markText.l0] at H
    by_cases c3 : x0_1 > 0
    ·rw [if_pos c3] at H
     have c3b0 : decide (0 < x0_1) = true := decide_eq_true c3
     clear c3
     obtain ⟨y212, hy212⟩ : ∃ y_ : List Int, y_ = (([(wrap64 (48 + (Int.tmod x0_1 10))) % 256] : List Int)) := ⟨_, rfl⟩
     replace H : (if (strOfNums y212).size + x3_1.size ≤ 9223372036854775807 then (laws_markText.l0 k1 (wrap64 (Int.tdiv x0_1 10)) ((strOfNums y212) ++ x3_1)) else (none)) = some r := by first | (rw [hy212]; with_reducible exact H) | (have H2_ := (Option.bind_some _ _).symm.trans H; rw [hy212]; with_reducible exact H2_) | (have H2_ := (Option.bind_some _ _).symm.trans H; with_reducible exact H2_) | with_reducible exact H | (rw [hy212]; exact H) | exact H
     have Ny212 := Aside0.mk hy212
     clear hy212
     by_cases c4 : (strOfNums y212).size + x3_1.size ≤ 9223372036854775807
     ·rw [if_pos c4] at H
      have c4b0 := eq_true c4
      have c4b1 : decide ((strOfNums y212).size + x3_1.size ≤ 9223372036854775807) = true := decide_eq_true c4
      try have c4b2 : (9223372036854775807 < (strOfNums y212).size + x3_1.size) = False := eq_false (Nat.not_lt.2 c4)
      have H' := Aside0.mk H
      clear H
      go_wp2_with (first | ((with_reducible refine gate_dst (N := 12) rfl ?_); refine Kd.R_lit (Kd.int .u8) _ 5 ?hg (N := 12) ?hd (xs := ([(wrap64 (48 + (Int.tmod x0_1 10))) % 256] : List Int)) (inner := [.int .u8 ((wrap64 (48 + (Int.tmod x0_1 10))) % 256)]) (ok := fun _ => True) (okp := fun _ => True) ?hr ?hp (fun _ hk => hk) trivial (Below.refl _ _) (Nat.le_refl _) (by simp) ?_; (case hd => rfl); (case hg => rfl); (case hr => first | (go_simp; done) | (go_simp; rfl)); (case hp => exact (Reps.one (show Kd.M (Kd.int .u8) _ _ _ ((wrap64 (48 + (Int.tmod x0_1 10))) % 256) [.int .u8 ((wrap64 (48 + (Int.tmod x0_1 10))) % 256)] from rfl) (Reps.none _ _))); intro v213 w5 ho6 hb hg_ hnew_; clear hg_ hnew_; (first | rw [← Ny212.out] at ho6 | (simp only [Int.reduceToNat] at ho6; rw [← Ny212.out] at ho6)); have n0_ := Aside0.mk (Kd.R_lower ho6 (below_size (by repeat (first | (with_reducible first | exact HB.out | apply below_alloc | apply pw_below_drewN | apply below_drew1) | exact HB.out)))); have n1_ := Aside0.mk (below_step (by repeat (first | (with_reducible first | exact HB.out | apply below_alloc | apply pw_below_drewN | apply below_drew1) | exact HB.out)) hb); clear HB; have HO214 := n0_; have HB := n1_; clear n0_ n1_; clear hb ho6; have hcv7 := own_string (P := Tryd.prog) Tryd.underlying96 Tryd.underlying5 Tryd.underlying9 (Kd.own_of_R HO214.out)))
      go_roundg k1
      case measure => have := HK1.out; omega
      case rel => exact ⟨(wrap64 (Int.tdiv x0_1 10)), ((strOfNums y212) ++ x3_1), (by first | rfl | (simp; done) | (simp [*]; done)), (by first | rfl | (simp; done) | (simp [*]; done)), H', ⟨by have := HK1.out; omega⟩, ⟨by repeat (first | (with_reducible first | exact HB.out | apply below_alloc | apply pw_below_drewN | apply below_drew1) | exact HB.out)⟩⟩
     ·rw [if_neg c4] at H
      exact absurd H (by simp)
    ·rw [if_neg c3] at H
     have c3b0 : decide (0 < x0_1) = false := decide_eq_false c3
     clear c3
     by_cases c8 : 1 + x3_1.size ≤ 9223372036854775807
     ·rw [if_pos c8] at H
      have c8b0 := eq_true c8
      have c8b1 : decide (1 + x3_1.size ≤ 9223372036854775807) = true := decide_eq_true c8
      try have c8b2 : (9223372036854775807 < 1 + x3_1.size) = False := eq_false (Nat.not_lt.2 c8)
      obtain rfl := Option.some.inj H
      go_wp2
      go_ret
      exact ⟨by first | rfl | (simp [errW_none, errW_some] <;> rfl) | (simp [*, errW_none, errW_some] <;> rfl), by repeat (first | (with_reducible first | exact HB.out | apply below_alloc | apply pw_below_drewN | apply below_drew1) | exact HB.out)⟩
     ·rw [if_neg c8] at H
      exact absurd H (by simp)
def laws_markStringS.l0 : Nat → List ByteArray → Int → Int → Option (Int × List ByteArray)
 | 0, _, _, _ => none
 | k + 1, x0, x1, x5 => if x5 < (x0.length : Int) then ((laws_markText.f k x1).bind fun t215 => (if 0 ≤ x5 then (laws_markStringS.l0 k (x0.set (x5 : Int).toNat t215) (wrap64 (x1 + 1)) (wrap64 (x5 + 1))) else (none))) else (some (x1, x0))
def laws_markStringS.f (k : Nat) (l0 : List ByteArray) (a1 : Int) : Option (Int × List ByteArray) := laws_markStringS.l0 k l0 a1 0
set_option maxHeartbeats 8000000 in
set_option maxRecDepth 100000 in
theorem laws_markStringS.calls (k : Nat) (P0_ : Nat → Prop) (u9000_ : Value) (l0 : List ByteArray) (a1 : Int) (r1 : Int) (r2 : List ByteArray) (w0 w : World) (hB : Below w0.heap.size w0 w) (ho0 : Kd.R Kd.string 9 w w0.heap.size P0_ u9000_ l0) (h : laws_markStringS.f k l0 a1 = some (r1, r2)) :
  Calls Tryd.prog 43 #[u9000_, .int .i64 a1] w fun e w' => e = .returned (.int .i64 r1) ∧ Kd.R Kd.string 9 w' w0.heap.size (fun k_ => (P0_ k_ ∨ w.heap.size ≤ k_)) u9000_ r2 ∧ Below w0.heap.size w0 w' ∧ Kept w w' (fun k_ => P0_ k_) := by
 have HO0 := Aside0.mk (show Kd.R Kd.string 9 w w0.heap.size (fun k_ => (P0_ k_ ∨ w.heap.size ≤ k_)) u9000_ l0 from Kd.R_mono ho0 (fun k_ hk => (.inl hk)))
 have HK := Aside0.mk (Kept.refl w (fun k_ => P0_ k_))
 have HW0 := Aside0.mk hB.size
 have HB := Aside0.mk hB
 clear hB
 have H : (laws_markStringS.l0 k l0 a1 0) = some (r1, r2) := h
 clear h
 have H' := Aside0.mk H
 clear H
 go_enter Tryd.func43, Tryd.ntmps43
 go_wp2
 go_loopg [1, 5] k (fun kq v1 v5 w' => ∃ (x0_1 : List ByteArray) (x1_1 : Int) (x5_1 : Int), v1 = .int .i64 x1_1 ∧ v5 = .int .i64 x5_1 ∧ Aside0 (laws_markStringS.l0 kq x0_1 x1_1 x5_1 = some (r1, r2)) ∧ Aside0 (kq ≤ k) ∧ Aside0 (Kd.R Kd.string 9 w' w0.heap.size (fun k_ => (P0_ k_ ∨ w.heap.size ≤ k_)) u9000_ x0_1) ∧ Aside0 (Kept w w' (fun k_ => P0_ k_)) ∧ Aside0 (Below w0.heap.size w0 w'))
 case atStart => exact ⟨(l0), (a1), (0), (by first | rfl | (simp; done) | (simp [*]; done)), (by first | rfl | (simp; done) | (simp [*]; done)), H', ⟨Nat.le_refl _⟩, ⟨by (with_reducible repeat (first | apply Kd.R_alloc | apply Kd.R_drewN | apply Kd.R_drew)); exact HO0.out⟩, ⟨by repeat (first | (with_reducible first | exact HK.out | apply Kept.alloc | apply Kept.drewN | apply Kept.drew) | exact HK.out)⟩, ⟨by repeat (first | (with_reducible first | exact HB.out | apply below_alloc | apply pw_below_drewN | apply below_drew1) | exact HB.out)⟩⟩
 case round =>
  clear H'
  try clear p2
  obtain ⟨x0_1, x1_1, x5_1, rfl, rfl, HA, HK1, HO_0, HK, HB⟩ := hrel
  cases gk with
  | zero => exact absurd HA.out (by simp [laws_markStringS.l0])
  | succ k1 =>
   have H := HA.out
   clear HA
   simp only [laws_markStringS.l0] at H
   by_cases c3 : x5_1 < (x0_1.length : Int)
   ·rw [if_pos c3] at H
    have c3b0 : decide (x5_1 < (x0_1.length : Int)) = true := decide_eq_true c3
    clear c3
    replace H := Option.bind_eq_some_iff.mp H
    obtain ⟨t215, A40, H⟩ := H
    replace H : (if 0 ≤ x5_1 then (laws_markStringS.l0 k1 (x0_1.set (x5_1 : Int).toNat t215) (wrap64 (x1_1 + 1)) (wrap64 (x5_1 + 1))) else (none)) = some (r1, r2) := H
    have A4 := Aside0.mk A40
    clear A40
    by_cases c5 : 0 ≤ x5_1
    ·rw [if_pos c5] at H
     have c5b0 : decide (0 ≤ x5_1) = true := decide_eq_true c5
     clear c5
     obtain ⟨y216, hy216⟩ : ∃ y_ : List ByteArray, y_ = (x0_1.set (x5_1 : Int).toNat t215) := ⟨_, rfl⟩
     replace H : (laws_markStringS.l0 k1 y216 (wrap64 (x1_1 + 1)) (wrap64 (x5_1 + 1))) = some (r1, r2) := by first | (rw [hy216]; with_reducible exact H) | (have H2_ := (Option.bind_some _ _).symm.trans H; rw [hy216]; with_reducible exact H2_) | (have H2_ := (Option.bind_some _ _).symm.trans H; with_reducible exact H2_) | with_reducible exact H | (rw [hy216]; exact H) | exact H
     have Ny216 := Aside0.mk hy216
     clear hy216
     have H' := Aside0.mk H
     clear H
     obtain ⟨Ao7, co7, eo7⟩ := Kd.R_slice HO_0.out
     subst eo7
     go_wp2_with (first | ((with_reducible refine gate_callee (f := 65) rfl ?_); refine goesL_ (some 15) rfl rfl Tryd.func65 (by kernel_rfl) rfl #[.int .i64 x1_1] rfl (by (try simp only [List.map_toArray, List.map_cons, List.map_nil]); first | done | rfl | (simp only [List.length_drop, List.length_take]; rfl)) ?_; (with_reducible refine (laws_markText.calls k1 x1_1 t215 _ A4.out).mono ?_); rintro e w8 ⟨rfl, hb⟩; refine ⟨_, rfl, ?_⟩; have n0_ := Aside0.mk (Kd.R_below (by (with_reducible repeat (first | apply Kd.R_alloc | apply Kd.R_drewN | apply Kd.R_drew)); exact HO_0.out) hb); have n1_ := Aside0.mk (Kept.below (S := (fun k_ => P0_ k_)) (by repeat (first | (with_reducible first | exact HK.out | apply Kept.alloc | apply Kept.drewN | apply Kept.drew) | exact HK.out)) hb); have n2_ := Aside0.mk (below_step (by repeat (first | (with_reducible first | exact HB.out | apply below_alloc | apply pw_below_drewN | apply below_drew1) | exact HB.out)) hb); clear HO_0; clear HK; clear HB; have HO_0 := n0_; have HK := n1_; have HB := n2_; clear n0_ n1_ n2_; (try clear hb); (try clear hb2); (try clear hk); (try clear hi); have p6 : 0 ≤ (x5_1 : Int) := of_decide_eq_true (by first | (with_reducible assumption) | assumption); have q6 : (x5_1 : Int) < ((x0_1.length : Int) : Int) := of_decide_eq_true (by first | (with_reducible assumption) | assumption); obtain ⟨go6, co6, eo6, gb6, gl6, cl6, HG6⟩ := Kd.R_form HO_0.out (by omega); (first | cases eo6 | (injection eo6 with ea_ en_ ec_; (first | subst ea_ | (injection ea_ with ea_; subst ea_)); subst ec_; clear en_)); have GB6 := Aside0.mk gb6; have GG6 := Aside0.mk HG6; clear gb6 gl6 HG6; have HMgo6 := Aside0.mk (show (P0_ go6 ∨ w.heap.size ≤ go6) from (HO_0.out.1 _ rfl)); obtain ⟨hx6_0, hf6_0⟩ := Kd.R_celln (⟨#[]⟩ : ByteArray) HO_0.out (x5_1 : Int) p6 q6; replace p6 := eq_true p6; replace q6 := eq_true q6; obtain ⟨hy9_, hz9_⟩ := Kd.R_celln (⟨#[]⟩ : ByteArray) HO_0.out (x5_1 : Int) (of_decide_eq_true (by first | (with_reducible assumption) | assumption)) (of_decide_eq_true (by first | (with_reducible assumption) | assumption)); have HP9 := Kd.R_putg HO_0.out (x5_1 : Int) t215) | ((with_reducible refine gate_store (t := 9) (p := 16) rfl ?_); refine store_event (t := 9) (p := 16) (v := ?vo_w10) (w1 := (w8.setCell ⟨go6, (x5_1 : Int).toNat, none⟩ (.string t215))) ?hg ?ho ?hn ?hr ?_; (case ho => rfl); (case hg => rfl); (case hn => rfl); (case hr => first | (go_simp; done) | (go_simp; rfl)); intro w10 hw; have hg : w8.grownBy w10 (some go6) := (by rw [hw]; exact HP9.2); have hp_ : Kd.R Kd.string 9 w10 w0.heap.size (fun k_ => (P0_ k_ ∨ w.heap.size ≤ k_)) (.slice (some ⟨go6, 0, none⟩) x0_1.length co7) y216 := (by rw [hw, Ny216.out]; exact HP9.1); clear HP9; have n0_ := Aside0.mk (hp_); have n1_ := Aside0.mk ((by rw [hw]; exact below_set (HB.out) GB6.out : Below w0.heap.size w0 w10)); have n2_ := Aside0.mk (Kept.of_grown (S := (fun k_ => P0_ k_)) hg (by repeat (first | (with_reducible first | exact HK.out | apply Kept.alloc | apply Kept.drewN | apply Kept.drew) | exact HK.out)) (fun k_ e_ => (HO_0.out.1 k_ e_))); clear HO_0; clear HB; clear HK; have HO_0 := n0_; have HB := n1_; have HK := n2_; clear n0_ n1_ n2_; clear hg hw hp_))
     go_roundg k1
     case measure => have := HK1.out; omega
     case rel => exact ⟨(y216), (wrap64 (x1_1 + 1)), (wrap64 (x5_1 + 1)), (by first | rfl | (simp; done) | (simp [*]; done)), (by first | rfl | (simp; done) | (simp [*]; done)), H', ⟨by have := HK1.out; omega⟩, ⟨by (with_reducible repeat (first | apply Kd.R_alloc | apply Kd.R_drewN | apply Kd.R_drew)); exact HO_0.out⟩, ⟨by repeat (first | (with_reducible first | exact HK.out | apply Kept.alloc | apply Kept.drewN | apply Kept.drew) | exact HK.out)⟩, ⟨by repeat (first | (with_reducible first | exact HB.out | apply below_alloc | apply pw_below_drewN | apply below_drew1) | exact HB.out)⟩⟩
    ·rw [if_neg c5] at H
     exact absurd H (by simp)
   ·rw [if_neg c3] at H
    have c3b0 : decide (x5_1 < (x0_1.length : Int)) = false := decide_eq_false c3
    clear c3
    simp only [Option.some.injEq, Prod.mk.injEq] at H
    obtain ⟨rfl, rfl⟩ := H
    obtain ⟨Ao11, co11, eo11⟩ := Kd.R_slice HO_0.out
    subst eo11
    go_wp2
    go_ret
    exact ⟨by first | rfl | (simp [errW_none, errW_some] <;> rfl) | (simp [*, errW_none, errW_some] <;> rfl), by (with_reducible repeat (first | apply Kd.R_alloc | apply Kd.R_drewN | apply Kd.R_drew)); exact HO_0.out, by repeat (first | (with_reducible first | exact HB.out | apply below_alloc | apply pw_below_drewN | apply below_drew1) | exact HB.out), by repeat (first | (with_reducible first | exact HK.out | apply Kept.alloc | apply Kept.drewN | apply Kept.drew) | exact HK.out)⟩
end Go.Proofs.YtdgecgfgekmhcaaDoor.J
namespace Go.Proofs.YtdgecgfgekmhcaaDoor.J
open Go.RowKit Go.Proofs.YtdgecgfgekmhcaaDoorW.PrintWords Go.Proofs.YtdgecgfgekmhcaaDoorW.PrintLast Go.Proofs.YtdgecgfgekmhcaaDoorW.PrintMore
attribute [local go_sem] max2_int min2_int max_two min_two max_three min_three max_four min_four
set_option linter.unusedVariables false
set_option linter.unusedSimpArgs false
def laws_markBook.f (k : Nat) (a0_0 : Int) (a0_1 : Int) (a0_2 : Int) (l0_3 : List ByteArray) (a1 : Int) : Option (Int × List ByteArray) := (laws_markStringS.f k l0_3 a1).bind fun bt126 => (some (bt126.1, bt126.2))
set_option maxHeartbeats 8000000 in
set_option maxRecDepth 100000 in
theorem laws_markBook.calls (k : Nat) (a0_0 : Int) (a0_1 : Int) (a0_2 : Int) (P0_3_ : Nat → Prop) (u9000_ : Value) (l0_3 : List ByteArray) (a1 : Int) (r1 : Int) (r2 : List ByteArray) (w0 w : World) (hB : Below w0.heap.size w0 w) (ho0_3 : Kd.R Kd.string 9 w w0.heap.size P0_3_ u9000_ l0_3) (h : laws_markBook.f k a0_0 a0_1 a0_2 l0_3 a1 = some (r1, r2)) :
 Calls Tryd.prog 18 #[.agg #[.int .i8 a0_0, .int .i8 a0_1, .int .i8 a0_2, u9000_], .int .i64 a1] w fun e w' => e = .returned (.int .i64 r1) ∧ Kd.R Kd.string 9 w' w0.heap.size (fun k_ => (P0_3_ k_ ∨ w.heap.size ≤ k_)) u9000_ r2 ∧ Below w0.heap.size w0 w' ∧ Kept w w' (fun k_ => P0_3_ k_) := by
 have huB := Tryd.underlying28
 have HO0_3 := Aside0.mk (show Kd.R Kd.string 9 w w0.heap.size (fun k_ => (P0_3_ k_ ∨ w.heap.size ≤ k_)) u9000_ l0_3 from Kd.R_mono ho0_3 (fun k_ hk => (.inl hk)))
 have HK := Aside0.mk (Kept.refl w (fun k_ => P0_3_ k_))
 have HW0 := Aside0.mk hB.size
 have HB := Aside0.mk hB
 clear hB
 have H : ((laws_markStringS.f k l0_3 a1).bind fun bt126 => (some (bt126.1, bt126.2))) = some (r1, r2) := h
 clear h
 replace H := Option.bind_eq_some_iff.mp H
 obtain ⟨⟨t126, t127⟩, A30, H⟩ := H
 replace H : (some (t126, t127)) = some (r1, r2) := H
 have A3 := Aside0.mk A30
 clear A30
 simp only [Option.some.injEq, Prod.mk.injEq] at H
 obtain ⟨rfl, rfl⟩ := H
 obtain ⟨Ao4, co4, eo4⟩ := Kd.R_slice HO0_3.out
 subst eo4
 go_enter Tryd.func18, Tryd.ntmps18
 go_wp2_with (first | ((with_reducible refine gate_dst (N := 2) rfl ?_); refine box_event ?hg (N := 2) ?hd (cs := #[.int .i8 a0_0, .int .i8 a0_1, .int .i8 a0_2, .slice Ao4 l0_3.length co4]) (t := 28) ?hr ?_; (case hd => rfl); (case hg => rfl); (case hr => first | (go_simp; done) | (go_simp; rfl)); intro gb125 hg w5 hbox hb; have n0_ := Aside0.mk (Kd.R_below (by (with_reducible repeat (first | apply Kd.R_alloc | apply Kd.R_drewN | apply Kd.R_drew)); exact HO0_3.out) hb); have n1_ := Aside0.mk (Kept.below (S := (fun k_ => P0_3_ k_)) (by repeat (first | (with_reducible first | exact HK.out | apply Kept.alloc | apply Kept.drewN | apply Kept.drew) | exact HK.out)) hb); have n2_ := Aside0.mk (below_step (by repeat (first | (with_reducible first | exact HB.out | apply below_alloc | apply pw_below_drewN | apply below_drew1) | exact HB.out)) hb); have n3_ := Aside0.mk (hbox); have n4_ := Aside0.mk ((by rw [hg]; exact (by first | exact HK.out.1 | exact (show Kept w _ (fun k_ => P0_3_ k_) from by repeat (first | (with_reducible first | exact HK.out | apply Kept.alloc | apply Kept.drewN | apply Kept.drew) | exact HK.out)).1) : w.heap.size ≤ gb125)); have n5_ := Aside0.mk ((by rw [hg]; exact (below_size (by repeat (first | (with_reducible first | exact HB.out | apply below_alloc | apply pw_below_drewN | apply below_drew1) | exact HB.out))) : w0.heap.size ≤ gb125)); clear HO0_3; clear HK; clear HB; have HO0_3 := n0_; have HK := n1_; have HB := n2_; have BK125 := n3_; have GW125 := n4_; have GE125 := n5_; clear n0_ n1_ n2_ n3_ n4_ n5_; clear hb hbox hg; have hcz6_0 : w5.cell? ⟨gb125, 0, none⟩ = some (.int .i8 a0_0) := (blk_cell BK125.out 0).trans rfl; have hcz6_1 : w5.cell? ⟨gb125, 1, none⟩ = some (.int .i8 a0_1) := (blk_cell BK125.out 1).trans rfl; have hcz6_2 : w5.cell? ⟨gb125, 2, none⟩ = some (.int .i8 a0_2) := (blk_cell BK125.out 2).trans rfl; have hcz6_3 : w5.cell? ⟨gb125, 3, none⟩ = some (.slice Ao4 l0_3.length co4) := (blk_cell BK125.out 3).trans rfl; have hfz6_0 := blk_frozen BK125.out 0; have hfz6_1 := blk_frozen BK125.out 1; have hfz6_2 := blk_frozen BK125.out 2; have hfz6_3 := blk_frozen BK125.out 3) | ((with_reducible refine gate_callee (f := 43) rfl ?_); refine goesL_ (some 8) rfl rfl Tryd.func43 (by kernel_rfl) rfl #[.slice Ao4 l0_3.length co4, .int .i64 a1] rfl (by (try simp only [List.map_toArray, List.map_cons, List.map_nil]); first | done | rfl | (simp only [List.length_drop, List.length_take]; rfl)) ?_; (with_reducible refine (laws_markStringS.calls k (fun k_ => some k_ = (.slice Ao4 l0_3.length co4 : Value).ownBlock) (.slice Ao4 l0_3.length co4) l0_3 a1 t126 t127 w0 _ ?side1 ?side2 A3.out).mono ?_); (case side1 => repeat (first | (with_reducible first | exact HB.out | apply below_alloc | apply pw_below_drewN | apply below_drew1 | refine below_set ?_ GE125.out) | exact HB.out)); (case side2 => exact Kd.R_tight rfl HO0_3.out); rintro e w7 ⟨rfl, hy0, hb, hkp⟩; refine ⟨_, rfl, ?_⟩; have n0_ := Aside0.mk (Kd.R_reok rfl hy0 (fun k_ e_ => HO0_3.out.1 k_ e_)); have n1_ := Aside0.mk (blk_kept (by (with_reducible repeat (first | refine blk_drewN ?_ _ | refine blk_drew ?_ | refine blk_alloc ?_ _)); exact BK125.out) hkp (fun hs_ => (fun e_ => (Kd.R_ne HO0_3.out BK125.out (by decide)) e_) hs_)); have n2_ := Aside0.mk (Kept.then_ (S := (fun k_ => P0_3_ k_)) (by repeat (first | (with_reducible first | exact HK.out | apply Kept.alloc | apply Kept.drewN | apply Kept.drew | refine Kept.setCell ?_ (.inr GW125.out) _) | exact HK.out)) hkp (fun k_ hs_ => (fun e_ => (HO0_3.out.1 k_ e_.symm)) hs_)); have n3_ := Aside0.mk (hb); clear HO0_3; clear BK125; clear HK; clear HB; have HO0_3 := n0_; have BK125 := n1_; have HK := n2_; have HB := n3_; clear n0_ n1_ n2_ n3_; (try clear hb); (try clear hkp); (try clear hy0)))
 go_ret
 exact ⟨by first | rfl | (simp [errW_none, errW_some] <;> rfl) | (simp [*, errW_none, errW_some] <;> rfl), by (with_reducible repeat (first | apply Kd.R_alloc | apply Kd.R_drewN | apply Kd.R_drew)); exact HO0_3.out, by repeat (first | (with_reducible first | exact HB.out | apply below_alloc | apply pw_below_drewN | apply below_drew1 | refine below_set ?_ GE125.out) | exact HB.out), by repeat (first | (with_reducible first | exact HK.out | apply Kept.alloc | apply Kept.drewN | apply Kept.drew | refine Kept.setCell ?_ (.inr GW125.out) _) | exact HK.out)⟩
end Go.Proofs.YtdgecgfgekmhcaaDoor.J
namespace Go.Proofs.YtdgecgfgekmhcaaDoor.J
open Go.RowKit Go.Proofs.YtdgecgfgekmhcaaDoorW.PrintWords Go.Proofs.YtdgecgfgekmhcaaDoorW.PrintLast Go.Proofs.YtdgecgfgekmhcaaDoor.U
set_option linter.unusedVariables false
set_option linter.unusedSimpArgs false
theorem markText_l0 : ∀ (d : Nat) (x0 : Int) (x3 : ByteArray), 0 ≤ x0 → x0 < 10 ^ d → x0 ≤ 9223372036854775807 → x3.size + d ≤ 1000 → ∃ s, Ev (fun k => laws_markText.l0 k x0 x3) s := by
 intro d
 induction d with
 | zero =>
  intro x0 x3 h0 h1 hm h2
  have : x0 = 0 := by simp at h1; omega
  subst this
  exact ⟨_, Ev.step (fun k => by rw [laws_markText.l0]) (neg (by omega) (pos (by omega) (Ev.now _)))⟩
 | succ d ih =>
  intro x0 x3 h0 h1 hm h2
  by_cases hp : x0 > 0
  ·have hd : Int.tdiv x0 10 = x0 / 10 := Int.tdiv_eq_ediv_of_nonneg h0
   have hlt : x0 / 10 < 10 ^ d := by
    have : (10 : Int) ^ (d + 1) = 10 ^ d * 10 := Int.pow_succ ..
    rw [this] at h1
    exact Int.ediv_lt_of_lt_mul (by decide) h1
   have hw : wrap64 (Int.tdiv x0 10) = x0 / 10 := by rw [hd]; exact w64 (by omega) (by omega)
   have hsz : ∀ y : Int, (strOfNums ([y] : List Int)).size = 1 := fun y => by rw [strOfNums_size]; rfl
   obtain ⟨s, hs⟩ := ih (x0 / 10) (strOfNums [(wrap64 (48 + (Int.tmod x0 10))) % 256] ++ x3) (by omega) hlt (by omega) (by rw [ByteArray.size_append, hsz]; omega)
   refine ⟨s, ?_⟩
   rw [← hw] at hs
   refine Ev.step (fun k => by rw [laws_markText.l0]) ?_
   exact pos hp (bindc rfl (pos (by rw [hsz]; omega) hs))
  ·have : x0 = 0 := by omega
   subst this
   exact ⟨_, Ev.step (fun k => by rw [laws_markText.l0]) (neg (by omega) (pos (by omega) (Ev.now _)))⟩
theorem markText_ex (a : Int) (h : a ≤ 9223372036854775807) : ∃ s, Ev (fun k => laws_markText.f k a) s := by
 unfold laws_markText.f
 by_cases h0 : a ≤ 0
 ·exact ⟨_, pos h0 (Ev.now _)⟩
 ·have h20 : (10 : Int) ^ 20 = 100000000000000000000 := by decide
  obtain ⟨s, hs⟩ := markText_l0 20 a ⟨#[]⟩ (by omega) (by rw [h20]; omega) h (by decide)
  exact ⟨s, neg h0 hs⟩
noncomputable def mT (a : Int) : ByteArray := Classical.epsilon fun s => Ev (fun k => laws_markText.f k a) s
theorem mT_ev (a : Int) (h : a ≤ 9223372036854775807) : Ev (fun k => laws_markText.f k a) (mT a) := Classical.epsilon_spec (markText_ex a h)
noncomputable def marksT (n : Nat) (a : Int) : List ByteArray := (List.range n).map fun (j : Nat) => mT (a + (j : Int))
theorem marksT_length (n : Nat) (a : Int) : (marksT n a).length = n := by simp [marksT]
theorem markStringS_l0 (n : Nat) (a : Int) (ha : 0 ≤ a) (hb : a + n ≤ 9223372036854775806) : ∀ (d i : Nat) (x0 : List ByteArray), i + d = n → x0.length = n → (∀ j, j < i → x0[j]? = (marksT n a)[j]?) →
  Ev (fun k => laws_markStringS.l0 k x0 (a + i) (i : Int)) (a + n, marksT n a) := by
 intro d
 induction d with
 | zero =>
  intro i x0 hi hl hp
  obtain rfl : i = n := by omega
  refine Ev.step (f := fun _ => some (a + i, x0)) (fun k => by simp only [laws_markStringS.l0]; rw [if_neg (by omega)]) (cons ?_)
  rw [show x0 = marksT i a from List.ext_getElem? fun j => by
   rcases Nat.lt_or_ge j i with h | h
   ·exact hp j h
   ·rw [List.getElem?_eq_none (by omega), List.getElem?_eq_none (by rw [marksT_length]; omega)]]
 | succ d ih =>
  intro i x0 hi hl hp
  have hgo := ih (i + 1) (x0.set i (mT (a + i))) (by omega) (by simpa using hl) (fun j hj => by
   by_cases e : j = i
   ·subst e
    rw [List.getElem?_set_self (by omega)]
    simp [marksT, List.getElem?_map, List.getElem?_range (show j < n by omega)]
   ·rw [List.getElem?_set_ne (by omega)]; exact hp j (by omega))
  refine Ev.step (fun k => by rw [laws_markStringS.l0]) ?_
  refine pos (by omega) (Ev.bind (mT_ev (a + i) (by omega)) (pos (by omega) ?_))
  rw [w64 (by omega) (by omega), w64 (by omega) (by omega), show a + (i : Int) + 1 = a + ((i + 1 : Nat) : Int) by omega, show (i : Int) + 1 = ((i + 1 : Nat) : Int) by omega, Int.toNat_natCast]
  exact hgo
theorem markBook_ev (K L S : Int) (l : List ByteArray) (a : Int) (ha : 0 ≤ a) (hb : a + l.length ≤ 9223372036854775806) : Ev (fun k => laws_markBook.f k K L S l a) (a + l.length, marksT l.length a) := by
 unfold laws_markBook.f laws_markStringS.f
 exact Ev.bind (by simpa using markStringS_l0 l.length a ha hb l.length 0 l (by omega) rfl (fun j hj => by omega)) (cons rfl)
end Go.Proofs.YtdgecgfgekmhcaaDoor.J
namespace Go.Proofs.YtdgecgfgekmhcaaDoor.J
open Go.RowKit Go.Proofs.YtdgecgfgekmhcaaDoorW.PrintWords Go.Proofs.YtdgecgfgekmhcaaDoorW.PrintLast Go.Proofs.YtdgecgfgekmhcaaDoorW.PrintMore
attribute [local go_sem] max2_int min2_int max_two min_two max_three min_three max_four min_four
set_option linter.unusedVariables false
set_option linter.unusedSimpArgs false
def laws_heldStringS.l0 : Nat → List ByteArray → Int → Int → Option (Int)
 | 0, _, _, _ => none
 | k + 1, x0, x1, x5 => if x5 < (x0.length : Int) then (if 0 ≤ x5 then ((laws_markText.f k x1).bind fun t219 => (if (rdOf ByteArray.empty x0 x5).toList = t219.toList then (laws_heldStringS.l0 k x0 (wrap64 (x1 + 1)) (wrap64 (x5 + 1))) else (some (-1)))) else (none)) else (some x1)
def laws_heldStringS.f (k : Nat) (l0 : List ByteArray) (a1 : Int) : Option (Int) := laws_heldStringS.l0 k l0 a1 0
set_option maxHeartbeats 8000000 in
set_option maxRecDepth 100000 in
theorem laws_heldStringS.calls (k : Nat) (A0 : Option Addr) (c0 : Nat) (l0 : List ByteArray) (a1 : Int) (r : Int) (w : World) (hr0 : Kd.C Kd.string w A0 l0.length l0) (hc0 : l0.length ≤ c0) (h : laws_heldStringS.f k l0 a1 = some r) :
  Calls Tryd.prog 44 #[.slice A0 l0.length c0, .int .i64 a1] w fun e w' => e = .returned (.int .i64 r) ∧ Below w.heap.size w w' := by
 have HR0 := Aside0.mk hr0
 have HC0 := Aside0.mk hc0
 clear hr0 hc0
 have HB := Aside0.mk (Below.refl w.heap.size w)
 have H : (laws_heldStringS.l0 k l0 a1 0) = some r := h
 clear h
 have H' := Aside0.mk H
 clear H
 go_enter Tryd.func44, Tryd.ntmps44
 go_wp2
 go_loopg [1, 5] k (fun kq v1 v5 w' => ∃ (x1_1 : Int) (x5_1 : Int), v1 = .int .i64 x1_1 ∧ v5 = .int .i64 x5_1 ∧ Aside0 (laws_heldStringS.l0 kq l0 x1_1 x5_1 = some r) ∧ Aside0 (kq ≤ k) ∧ Aside0 (Below w.heap.size w w'))
 case atStart => exact ⟨(a1), (0), (by first | rfl | (simp; done) | (simp [*]; done)), (by first | rfl | (simp; done) | (simp [*]; done)), H', ⟨Nat.le_refl _⟩, ⟨by repeat (first | (with_reducible first | exact HB.out | apply below_alloc | apply pw_below_drewN | apply below_drew1) | exact HB.out)⟩⟩
 case round =>
  clear H'
  try clear p2
  obtain ⟨x1_1, x5_1, rfl, rfl, HA, HK1, HB⟩ := hrel
  cases gk with
  | zero => exact absurd HA.out (by simp [laws_heldStringS.l0])
  | succ k1 =>
   have H := HA.out
   clear HA
   simp only [laws_heldStringS.l0] at H
   by_cases c3 : x5_1 < (l0.length : Int)
   ·rw [if_pos c3] at H
    have c3b0 : decide (x5_1 < (l0.length : Int)) = true := decide_eq_true c3
    clear c3
    by_cases c4 : 0 ≤ x5_1
    ·rw [if_pos c4] at H
     have c4b0 : decide (0 ≤ x5_1) = true := decide_eq_true c4
     clear c4
     replace H := Option.bind_eq_some_iff.mp H
     obtain ⟨t219, A50, H⟩ := H
     replace H : (if (rdOf ByteArray.empty l0 x5_1).toList = t219.toList then (laws_heldStringS.l0 k1 l0 (wrap64 (x1_1 + 1)) (wrap64 (x5_1 + 1))) else (some (-1))) = some r := H
     have A5 := Aside0.mk A50
     clear A50
     by_cases c6 : (rdOf ByteArray.empty l0 x5_1).toList = t219.toList
     ·rw [if_pos c6] at H
      have c6b0 : ((rdOf ByteArray.empty l0 x5_1).toList == t219.toList) = true := beq_iff_eq.mpr c6
      have c6b1 : ((rdOf ByteArray.empty l0 x5_1).toList != t219.toList) = false := bne_eq_false_iff_eq.mpr c6
      clear c6
      have H' := Aside0.mk H
      clear H
      try go_wp2
      have n0_ := Aside0.mk (below_drew1 HB.out)
      clear HB
      have HB := n0_
      clear n0_
      have p218 : 0 ≤ (x5_1 : Int) := of_decide_eq_true (by first | (with_reducible assumption) | assumption)
      have q218 : x5_1 < (l0.length : Int) := of_decide_eq_true (by first | (with_reducible assumption) | assumption)
      obtain ⟨ad218, e218, hx218_0⟩ := Kd.at_string HR0.out x5_1 p218 q218
      have hw218_0 := hx218_0
      cases e218
      replace hx218_0 := (HB.out.cell (World.block_lt_of_cell? w _ hx218_0)).trans hx218_0
      replace p218 := eq_true p218
      replace q218 := eq_true q218
      refine start_ (n := 7) (S := fun w' => w'.cell? (ad218.add (x5_1).toNat) = some (.string (rdOf ByteArray.empty l0 x5_1))) (ds := []) #[false, false, false, false, false, false, false] (by kernel_rfl) rfl rfl (((HB.out.cell (World.block_lt_of_cell? w _ hw218_0)).trans hw218_0)) (fun hHeld => ?_)
      generalize wr.drew = w7 at HB hx218_0 hHeld ⊢
      refine pure_ (i := 0) (N := some 12) (v := ?_) (a' := ?_) #[true, false, false, false, false, false, false] rfl rfl (by kernel_rfl) (fun _ _ _ h => h) (Or.inl ⟨by rfl, ?_⟩) ?_ ?_
      rotate_left
      ·intro w'
       go_simp
       with_reducible rfl
      rotate_left
      ·simp only [Act.put, List.setIfInBounds_toArray, List.set_cons_zero, List.set_cons_succ, i64_w, i32_w]
       rfl
      refine pure_ (i := 1) (N := some 13) (v := ?_) (a' := ?_) #[true, true, false, false, false, false, false] rfl rfl (by kernel_rfl) (fun _ _ _ h => h) (Or.inl ⟨by rfl, ?_⟩) ?_ ?_
      rotate_left
      ·intro w'
       go_simp
       with_reducible rfl
      rotate_left
      ·simp only [Act.put, List.setIfInBounds_toArray, List.set_cons_zero, List.set_cons_succ, i64_w, i32_w]
       rfl
      refine pure_ (i := 2) (N := some 14) (v := ?_) (a' := ?_) #[true, true, true, false, false, false, false] rfl rfl (by kernel_rfl) (fun _ _ _ h => h) (Or.inl ⟨by rfl, ?_⟩) ?_ ?_
      rotate_left
      ·intro w'
       go_simp
       with_reducible rfl
      rotate_left
      ·simp only [Act.put, List.setIfInBounds_toArray, List.set_cons_zero, List.set_cons_succ, i64_w, i32_w]
       rfl
      refine pure_ (i := 4) (N := some 16) (v := ?_) (a' := ?_) #[true, true, true, false, true, false, false] rfl rfl (by kernel_rfl) (fun _ _ _ h => h) (Or.inl ⟨by rfl, ?_⟩) ?_ ?_
      rotate_left
      ·intro w'
       go_simp
       with_reducible rfl
      rotate_left
      ·simp only [Act.put, List.setIfInBounds_toArray, List.set_cons_zero, List.set_cons_succ, i64_w, i32_w]
       rfl
      refine take_ (i := 3) (N := some 15) (v := ?_) (a' := ?_) #[true, true, true, true, true, false, false] rfl rfl (by kernel_rfl) (fun _ _ _ h => h) (Or.inl ⟨by rfl, ?_⟩) hHeld ?_ ?_
      rotate_left
      ·intro w' s0
       go_simp
       with_reducible rfl
      rotate_left
      ·simp only [Act.put, List.setIfInBounds_toArray, List.set_cons_zero, List.set_cons_succ, i64_w, i32_w]
       rfl
      refine one_ (i := 5) (N := some 17) #[true, true, true, true, true, true, false] rfl rfl (by kernel_rfl) (by decide) (fun K hK => ?_)
      refine goes_ Tryd.func65 (by kernel_rfl) rfl #[.int .i64 x1_1] (by rfl) rfl rfl (by (try simp only [List.map_toArray, List.map_cons, List.map_nil]); first | done | rfl | (simp only [List.length_drop, List.length_take]; rfl)) ?_
      with_reducible refine (laws_markText.calls k1 x1_1 t219 _ A5.out).mono ?_
      rintro e w8 ⟨rfl, hb⟩
      refine ⟨_, rfl, ?_⟩
      have n0_ := Aside0.mk (below_step (by repeat (first | (with_reducible first | exact HB.out | apply below_alloc | apply pw_below_drewN | apply below_drew1) | exact HB.out)) hb)
      clear HB
      have HB := n0_
      clear n0_
      (try clear hb)
      (try clear hb2)
      (try clear hk)
      (try clear hi)
      refine hK.out _ _ (((HB.out.cell (World.block_lt_of_cell? w _ hw218_0)).trans hw218_0)) (fun hHeld => ?_)
      clear hK K
      refine norm_ (a' := ?_) ?_ ?_
      rotate_left
      ·show Act.put _ (some 17) _ = _
       simp only [Act.put, List.setIfInBounds_toArray, List.set_cons_zero, List.set_cons_succ, i64_w, i32_w]
       rfl
      refine pure_ (i := 6) (N := some 18) (v := ?_) (a' := ?_) #[true, true, true, true, true, true, true] rfl rfl (by kernel_rfl) (fun _ _ _ h => h) (Or.inl ⟨by rfl, ?_⟩) ?_ ?_
      rotate_left
      ·intro w'
       go_simp
       with_reducible rfl
      rotate_left
      ·simp only [Act.put, List.setIfInBounds_toArray, List.set_cons_zero, List.set_cons_succ, i64_w, i32_w]
       rfl
      refine done_ (by kernel_rfl) ?_
      try go_wp2
      go_roundg k1
      case measure => have := HK1.out; omega
      case rel => exact ⟨(wrap64 (x1_1 + 1)), (wrap64 (x5_1 + 1)), (by first | rfl | (simp; done) | (simp [*]; done)), (by first | rfl | (simp; done) | (simp [*]; done)), H', ⟨by have := HK1.out; omega⟩, ⟨by repeat (first | (with_reducible first | exact HB.out | apply below_alloc | apply pw_below_drewN | apply below_drew1) | exact HB.out)⟩⟩
     ·rw [if_neg c6] at H
      have c6b0 : ((rdOf ByteArray.empty l0 x5_1).toList == t219.toList) = false := beq_eq_false_iff_ne.mpr c6
      have c6b1 : ((rdOf ByteArray.empty l0 x5_1).toList != t219.toList) = true := bne_iff_ne.mpr c6
      obtain rfl := Option.some.inj H
      try go_wp2
      have n0_ := Aside0.mk (below_drew1 HB.out)
      clear HB
      have HB := n0_
      clear n0_
      have p218 : 0 ≤ (x5_1 : Int) := of_decide_eq_true (by first | (with_reducible assumption) | assumption)
      have q218 : x5_1 < (l0.length : Int) := of_decide_eq_true (by first | (with_reducible assumption) | assumption)
      obtain ⟨ad218, e218, hx218_0⟩ := Kd.at_string HR0.out x5_1 p218 q218
      have hw218_0 := hx218_0
      cases e218
      replace hx218_0 := (HB.out.cell (World.block_lt_of_cell? w _ hx218_0)).trans hx218_0
      replace p218 := eq_true p218
      replace q218 := eq_true q218
      refine start_ (n := 7) (S := fun w' => w'.cell? (ad218.add (x5_1).toNat) = some (.string (rdOf ByteArray.empty l0 x5_1))) (ds := []) #[false, false, false, false, false, false, false] (by kernel_rfl) rfl rfl (((HB.out.cell (World.block_lt_of_cell? w _ hw218_0)).trans hw218_0)) (fun hHeld => ?_)
      generalize wr.drew = w9 at HB hx218_0 hHeld ⊢
      refine pure_ (i := 0) (N := some 12) (v := ?_) (a' := ?_) #[true, false, false, false, false, false, false] rfl rfl (by kernel_rfl) (fun _ _ _ h => h) (Or.inl ⟨by rfl, ?_⟩) ?_ ?_
      rotate_left
      ·intro w'
       go_simp
       with_reducible rfl
      rotate_left
      ·simp only [Act.put, List.setIfInBounds_toArray, List.set_cons_zero, List.set_cons_succ, i64_w, i32_w]
       rfl
      refine pure_ (i := 1) (N := some 13) (v := ?_) (a' := ?_) #[true, true, false, false, false, false, false] rfl rfl (by kernel_rfl) (fun _ _ _ h => h) (Or.inl ⟨by rfl, ?_⟩) ?_ ?_
      rotate_left
      ·intro w'
       go_simp
       with_reducible rfl
      rotate_left
      ·simp only [Act.put, List.setIfInBounds_toArray, List.set_cons_zero, List.set_cons_succ, i64_w, i32_w]
       rfl
      refine pure_ (i := 2) (N := some 14) (v := ?_) (a' := ?_) #[true, true, true, false, false, false, false] rfl rfl (by kernel_rfl) (fun _ _ _ h => h) (Or.inl ⟨by rfl, ?_⟩) ?_ ?_
      rotate_left
      ·intro w'
       go_simp
       with_reducible rfl
      rotate_left
      ·simp only [Act.put, List.setIfInBounds_toArray, List.set_cons_zero, List.set_cons_succ, i64_w, i32_w]
       rfl
      refine pure_ (i := 4) (N := some 16) (v := ?_) (a' := ?_) #[true, true, true, false, true, false, false] rfl rfl (by kernel_rfl) (fun _ _ _ h => h) (Or.inl ⟨by rfl, ?_⟩) ?_ ?_
      rotate_left
      ·intro w'
       go_simp
       with_reducible rfl
      rotate_left
      ·simp only [Act.put, List.setIfInBounds_toArray, List.set_cons_zero, List.set_cons_succ, i64_w, i32_w]
       rfl
      refine take_ (i := 3) (N := some 15) (v := ?_) (a' := ?_) #[true, true, true, true, true, false, false] rfl rfl (by kernel_rfl) (fun _ _ _ h => h) (Or.inl ⟨by rfl, ?_⟩) hHeld ?_ ?_
      rotate_left
      ·intro w' s0
       go_simp
       with_reducible rfl
      rotate_left
      ·simp only [Act.put, List.setIfInBounds_toArray, List.set_cons_zero, List.set_cons_succ, i64_w, i32_w]
       rfl
      refine one_ (i := 5) (N := some 17) #[true, true, true, true, true, true, false] rfl rfl (by kernel_rfl) (by decide) (fun K hK => ?_)
      refine goes_ Tryd.func65 (by kernel_rfl) rfl #[.int .i64 x1_1] (by rfl) rfl rfl (by (try simp only [List.map_toArray, List.map_cons, List.map_nil]); first | done | rfl | (simp only [List.length_drop, List.length_take]; rfl)) ?_
      with_reducible refine (laws_markText.calls k1 x1_1 t219 _ A5.out).mono ?_
      rintro e w10 ⟨rfl, hb⟩
      refine ⟨_, rfl, ?_⟩
      have n0_ := Aside0.mk (below_step (by repeat (first | (with_reducible first | exact HB.out | apply below_alloc | apply pw_below_drewN | apply below_drew1) | exact HB.out)) hb)
      clear HB
      have HB := n0_
      clear n0_
      (try clear hb)
      (try clear hb2)
      (try clear hk)
      (try clear hi)
      refine hK.out _ _ (((HB.out.cell (World.block_lt_of_cell? w _ hw218_0)).trans hw218_0)) (fun hHeld => ?_)
      clear hK K
      refine norm_ (a' := ?_) ?_ ?_
      rotate_left
      ·show Act.put _ (some 17) _ = _
       simp only [Act.put, List.setIfInBounds_toArray, List.set_cons_zero, List.set_cons_succ, i64_w, i32_w]
       rfl
      refine pure_ (i := 6) (N := some 18) (v := ?_) (a' := ?_) #[true, true, true, true, true, true, true] rfl rfl (by kernel_rfl) (fun _ _ _ h => h) (Or.inl ⟨by rfl, ?_⟩) ?_ ?_
      rotate_left
      ·intro w'
       go_simp
       with_reducible rfl
      rotate_left
      ·simp only [Act.put, List.setIfInBounds_toArray, List.set_cons_zero, List.set_cons_succ, i64_w, i32_w]
       rfl
      refine done_ (by kernel_rfl) ?_
      try go_wp2
      go_ret
      exact ⟨by first | rfl | (simp [errW_none, errW_some] <;> rfl) | (simp [*, errW_none, errW_some] <;> rfl), by repeat (first | (with_reducible first | exact HB.out | apply below_alloc | apply pw_below_drewN | apply below_drew1) | exact HB.out)⟩
    ·rw [if_neg c4] at H
     exact absurd H (by simp)
   ·rw [if_neg c3] at H
    have c3b0 : decide (x5_1 < (l0.length : Int)) = false := decide_eq_false c3
    clear c3
    obtain rfl := Option.some.inj H
    go_wp2
    go_ret
    exact ⟨by first | rfl | (simp [errW_none, errW_some] <;> rfl) | (simp [*, errW_none, errW_some] <;> rfl), by repeat (first | (with_reducible first | exact HB.out | apply below_alloc | apply pw_below_drewN | apply below_drew1) | exact HB.out)⟩
def laws_heldBook.f (k : Nat) (a0_0 : Int) (a0_1 : Int) (a0_2 : Int) (l0_3 : List ByteArray) (a1 : Int) : Option (Int) := (laws_heldStringS.f k l0_3 a1).bind fun t221 => (if t221 < 0 then (some (-1)) else (some t221))
set_option maxHeartbeats 8000000 in
set_option maxRecDepth 100000 in
theorem laws_heldBook.calls (k : Nat) (a0_0 : Int) (a0_1 : Int) (a0_2 : Int) (A0_3 : Option Addr) (c0_3 : Nat) (l0_3 : List ByteArray) (a1 : Int) (r : Int) (w : World) (hr0_3 : Kd.C Kd.string w A0_3 l0_3.length l0_3) (hc0_3 : l0_3.length ≤ c0_3) (h : laws_heldBook.f k a0_0 a0_1 a0_2 l0_3 a1 = some r) :
  Calls Tryd.prog 19 #[.agg #[.int .i8 a0_0, .int .i8 a0_1, .int .i8 a0_2, .slice A0_3 l0_3.length c0_3], .int .i64 a1] w fun e w' => e = .returned (.int .i64 r) ∧ Below w.heap.size w w' := by
 have hu28 := Tryd.underlying28
 have HR0_3 := Aside0.mk hr0_3
 have HC0_3 := Aside0.mk hc0_3
 clear hr0_3 hc0_3
 have HB := Aside0.mk (Below.refl w.heap.size w)
 have H : ((laws_heldStringS.f k l0_3 a1).bind fun t221 => (if t221 < 0 then (some (-1)) else (some t221))) = some r := h
 clear h
 replace H := Option.bind_eq_some_iff.mp H
 obtain ⟨t221, A30, H⟩ := H
 replace H : (if t221 < 0 then (some (-1)) else (some t221)) = some r := H
 have A3 := Aside0.mk A30
 clear A30
 by_cases c4 : t221 < 0
 ·rw [if_pos c4] at H
  have c4b0 : decide (t221 < 0) = true := decide_eq_true c4
  clear c4
  obtain rfl := Option.some.inj H
  go_enter Tryd.func19, Tryd.ntmps19
  go_wp2_with (first | ((with_reducible refine gate_dst (N := 2) rfl ?_); refine box_event ?hg (N := 2) ?hd (cs := #[.int .i8 a0_0, .int .i8 a0_1, .int .i8 a0_2, .slice A0_3 l0_3.length c0_3]) (t := 28) ?hr ?_; (case hd => rfl); (case hg => rfl); (case hr => first | (go_simp; done) | (go_simp; rfl)); intro gb220 hg w5 hbox hb; have n0_ := Aside0.mk (below_step (by repeat (first | (with_reducible first | exact HB.out | apply below_alloc | apply pw_below_drewN | apply below_drew1) | exact HB.out)) hb); have n1_ := Aside0.mk (hbox); have n2_ := Aside0.mk ((by rw [hg]; exact (below_size (by repeat (first | (with_reducible first | exact HB.out | apply below_alloc | apply pw_below_drewN | apply below_drew1) | exact HB.out))) : w.heap.size ≤ gb220)); have n3_ := Aside0.mk ((by rw [hg]; exact (below_size (by repeat (first | (with_reducible first | exact HB.out | apply below_alloc | apply pw_below_drewN | apply below_drew1) | exact HB.out))) : w.heap.size ≤ gb220)); clear HB; have HB := n0_; have BK220 := n1_; have GW220 := n2_; have GE220 := n3_; clear n0_ n1_ n2_ n3_; clear hb hbox hg; have hcz6_0 : w5.cell? ⟨gb220, 0, none⟩ = some (.int .i8 a0_0) := (blk_cell BK220.out 0).trans rfl; have hcz6_1 : w5.cell? ⟨gb220, 1, none⟩ = some (.int .i8 a0_1) := (blk_cell BK220.out 1).trans rfl; have hcz6_2 : w5.cell? ⟨gb220, 2, none⟩ = some (.int .i8 a0_2) := (blk_cell BK220.out 2).trans rfl; have hcz6_3 : w5.cell? ⟨gb220, 3, none⟩ = some (.slice A0_3 l0_3.length c0_3) := (blk_cell BK220.out 3).trans rfl; have hfz6_0 := blk_frozen BK220.out 0; have hfz6_1 := blk_frozen BK220.out 1; have hfz6_2 := blk_frozen BK220.out 2; have hfz6_3 := blk_frozen BK220.out 3) | ((with_reducible refine gate_callee (f := 44) rfl ?_); refine goesL_ (some 8) rfl rfl Tryd.func44 (by kernel_rfl) rfl #[.slice A0_3 l0_3.length c0_3, .int .i64 a1] rfl (by (try simp only [List.map_toArray, List.map_cons, List.map_nil]); first | done | rfl | (simp only [List.length_drop, List.length_take]; rfl)) ?_; (with_reducible refine (laws_heldStringS.calls k _ _ l0_3 a1 t221 _ ?side1 ?side2 A3.out).mono ?_); (case side1 => repeat (first | exact (Kd.C_below HR0_3.out HB.out) | (with_reducible refine Kd.C_alloc ?_ _) | (with_reducible refine Kd.C_drewN ?_ _) | (with_reducible refine Kd.C_drew ?_))); (case side2 => exact HC0_3.out); rintro e w7 ⟨rfl, hb⟩; refine ⟨_, rfl, ?_⟩; have n0_ := Aside0.mk (blk_below (g := gb220) (o := .cells #[.int .i8 a0_0, .int .i8 a0_1, .int .i8 a0_2, .slice A0_3 l0_3.length c0_3] 28 (0, 0)) (by (with_reducible repeat (first | refine blk_drewN ?_ _ | refine blk_drew ?_ | refine blk_alloc ?_ _)); exact BK220.out) hb); have n1_ := Aside0.mk (below_step (by repeat (first | (with_reducible first | exact HB.out | apply below_alloc | apply pw_below_drewN | apply below_drew1 | refine below_set ?_ GE220.out) | exact HB.out)) hb); clear BK220; clear HB; have BK220 := n0_; have HB := n1_; clear n0_ n1_; (try clear hb); (try clear hb2); (try clear hk); (try clear hi)))
  go_ret
  exact ⟨by first | rfl | (simp [errW_none, errW_some] <;> rfl) | (simp [*, errW_none, errW_some] <;> rfl), by repeat (first | (with_reducible first | exact HB.out | apply below_alloc | apply pw_below_drewN | apply below_drew1 | refine below_set ?_ GE220.out) | exact HB.out)⟩
 ·rw [if_neg c4] at H
  have c4b0 : decide (t221 < 0) = false := decide_eq_false c4
  clear c4
  obtain rfl := Option.some.inj H
  go_enter Tryd.func19, Tryd.ntmps19
  go_wp2_with (first | ((with_reducible refine gate_dst (N := 2) rfl ?_); refine box_event ?hg (N := 2) ?hd (cs := #[.int .i8 a0_0, .int .i8 a0_1, .int .i8 a0_2, .slice A0_3 l0_3.length c0_3]) (t := 28) ?hr ?_; (case hd => rfl); (case hg => rfl); (case hr => first | (go_simp; done) | (go_simp; rfl)); intro gb220 hg w8 hbox hb; have n0_ := Aside0.mk (below_step (by repeat (first | (with_reducible first | exact HB.out | apply below_alloc | apply pw_below_drewN | apply below_drew1) | exact HB.out)) hb); have n1_ := Aside0.mk (hbox); have n2_ := Aside0.mk ((by rw [hg]; exact (below_size (by repeat (first | (with_reducible first | exact HB.out | apply below_alloc | apply pw_below_drewN | apply below_drew1) | exact HB.out))) : w.heap.size ≤ gb220)); have n3_ := Aside0.mk ((by rw [hg]; exact (below_size (by repeat (first | (with_reducible first | exact HB.out | apply below_alloc | apply pw_below_drewN | apply below_drew1) | exact HB.out))) : w.heap.size ≤ gb220)); clear HB; have HB := n0_; have BK220 := n1_; have GW220 := n2_; have GE220 := n3_; clear n0_ n1_ n2_ n3_; clear hb hbox hg; have hcz9_0 : w8.cell? ⟨gb220, 0, none⟩ = some (.int .i8 a0_0) := (blk_cell BK220.out 0).trans rfl; have hcz9_1 : w8.cell? ⟨gb220, 1, none⟩ = some (.int .i8 a0_1) := (blk_cell BK220.out 1).trans rfl; have hcz9_2 : w8.cell? ⟨gb220, 2, none⟩ = some (.int .i8 a0_2) := (blk_cell BK220.out 2).trans rfl; have hcz9_3 : w8.cell? ⟨gb220, 3, none⟩ = some (.slice A0_3 l0_3.length c0_3) := (blk_cell BK220.out 3).trans rfl; have hfz9_0 := blk_frozen BK220.out 0; have hfz9_1 := blk_frozen BK220.out 1; have hfz9_2 := blk_frozen BK220.out 2; have hfz9_3 := blk_frozen BK220.out 3) | ((with_reducible refine gate_callee (f := 44) rfl ?_); refine goesL_ (some 8) rfl rfl Tryd.func44 (by kernel_rfl) rfl #[.slice A0_3 l0_3.length c0_3, .int .i64 a1] rfl (by (try simp only [List.map_toArray, List.map_cons, List.map_nil]); first | done | rfl | (simp only [List.length_drop, List.length_take]; rfl)) ?_; (with_reducible refine (laws_heldStringS.calls k _ _ l0_3 a1 t221 _ ?side1 ?side2 A3.out).mono ?_); (case side1 => repeat (first | exact (Kd.C_below HR0_3.out HB.out) | (with_reducible refine Kd.C_alloc ?_ _) | (with_reducible refine Kd.C_drewN ?_ _) | (with_reducible refine Kd.C_drew ?_))); (case side2 => exact HC0_3.out); rintro e w10 ⟨rfl, hb⟩; refine ⟨_, rfl, ?_⟩; have n0_ := Aside0.mk (blk_below (g := gb220) (o := .cells #[.int .i8 a0_0, .int .i8 a0_1, .int .i8 a0_2, .slice A0_3 l0_3.length c0_3] 28 (0, 0)) (by (with_reducible repeat (first | refine blk_drewN ?_ _ | refine blk_drew ?_ | refine blk_alloc ?_ _)); exact BK220.out) hb); have n1_ := Aside0.mk (below_step (by repeat (first | (with_reducible first | exact HB.out | apply below_alloc | apply pw_below_drewN | apply below_drew1 | refine below_set ?_ GE220.out) | exact HB.out)) hb); clear BK220; clear HB; have BK220 := n0_; have HB := n1_; clear n0_ n1_; (try clear hb); (try clear hb2); (try clear hk); (try clear hi)))
  go_ret
  exact ⟨by first | rfl | (simp [errW_none, errW_some] <;> rfl) | (simp [*, errW_none, errW_some] <;> rfl), by repeat (first | (with_reducible first | exact HB.out | apply below_alloc | apply pw_below_drewN | apply below_drew1 | refine below_set ?_ GE220.out) | exact HB.out)⟩
end Go.Proofs.YtdgecgfgekmhcaaDoor.J
namespace Go.Proofs.YtdgecgfgekmhcaaDoor.J
open Go.RowKit Go.Proofs.YtdgecgfgekmhcaaDoorW.PrintWords Go.Proofs.YtdgecgfgekmhcaaDoorW.PrintLast Go.Proofs.YtdgecgfgekmhcaaDoor.U
set_option linter.unusedVariables false
set_option linter.unusedSimpArgs false
theorem heldStringS_l0 (n : Nat) (a : Int) (ha : 0 ≤ a) (hb : a + n ≤ 9223372036854775806) : ∀ (d i : Nat), i + d = n → Ev (fun k => laws_heldStringS.l0 k (marksT n a) (a + i) (i : Int)) (a + n) := by
 intro d
 induction d with
 | zero =>
  intro i hi
  obtain rfl : i = n := by omega
  exact Ev.step (f := fun _ => some (a + i)) (fun k => by simp only [laws_heldStringS.l0]; rw [marksT_length, if_neg (by omega)]) (cons rfl)
 | succ d ih =>
  intro i hi
  have hgo := ih (i + 1) (by omega)
  have hr : rdOf ByteArray.empty (marksT n a) (i : Int) = mT (a + i) := by
   unfold rdOf
   simp [marksT, List.getElem?_map, List.getElem?_range (show i < n by omega)]
  refine Ev.step (fun k => by rw [laws_heldStringS.l0]) ?_
  refine pos (by rw [marksT_length]; omega) (pos (by omega) (Ev.bind (mT_ev (a + i) (by omega)) (pos (by rw [hr]) ?_)))
  rw [w64 (by omega) (by omega), w64 (by omega) (by omega), show a + (i : Int) + 1 = a + ((i + 1 : Nat) : Int) by omega, show (i : Int) + 1 = ((i + 1 : Nat) : Int) by omega]
  exact hgo
theorem heldBook_ev (K L S : Int) (n : Nat) (a : Int) (ha : 0 ≤ a) (hb : a + n ≤ 9223372036854775806) : Ev (fun k => laws_heldBook.f k K L S (marksT n a) a) (a + n) := by
 unfold laws_heldBook.f laws_heldStringS.f
 exact Ev.bind (by simpa using heldStringS_l0 n a ha hb n 0 (by omega)) (neg (by omega) (cons rfl))
end Go.Proofs.YtdgecgfgekmhcaaDoor.J
namespace Go.Proofs.YtdgecgfgekmhcaaDoor.J
open Go.RowKit Go.Proofs.YtdgecgfgekmhcaaDoorW.PrintWords Go.Proofs.YtdgecgfgekmhcaaDoorW.PrintLast Go.Proofs.YtdgecgfgekmhcaaDoor.U
set_option linter.unusedVariables false
set_option linter.unusedSimpArgs false
theorem eqStringS_l0 (l : List ByteArray) (hn : l.length ≤ 9223372036854775806) : ∀ (d i : Nat), i + d = l.length → Ev (fun k => laws_eqStringS.l0 k l l (i : Int)) true := by
 intro d
 induction d with
 | zero =>
  intro i hi
  refine Ev.step (f := fun _ => some true) (fun k => ?_) (cons rfl)
  simp only [laws_eqStringS.l0]; rw [if_neg (by omega)]
 | succ d ih =>
  intro i hi
  refine Ev.step (f := fun k => laws_eqStringS.l0 k l l ((i + 1 : Nat) : Int)) (fun k => ?_) (ih (i + 1) (by omega))
  simp only [laws_eqStringS.l0]; rw [if_pos (by omega), if_pos (by omega), if_pos (by omega), if_pos trivial, w64 (by omega) (by omega)]; rfl
theorem eqStringS_refl (l : List ByteArray) (hn : l.length ≤ 9223372036854775806) : Ev (fun k => laws_eqStringS.f k l l) true := by
 unfold laws_eqStringS.f
 exact pos rfl (eqStringS_l0 l hn l.length 0 (by omega))
theorem eqBook_refl (K L S : Int) (l : List ByteArray) (hn : l.length ≤ 9223372036854775806) : Ev (fun k => laws_eqBook.f k K L S l K L S l) true := by
 unfold laws_eqBook.f
 exact pos rfl (pos rfl (pos rfl (Ev.bind (eqStringS_refl l hn) (pos rfl (cons rfl)))))
end Go.Proofs.YtdgecgfgekmhcaaDoor.J
namespace Go.Proofs.YtdgecgfgekmhcaaDoor.Arr
open Go.RowKit Go.Proofs.YtdgecgfgekmhcaaDoorW.PrintWords Go.Proofs.YtdgecgfgekmhcaaDoorW.PrintLast Go.Proofs.YtdgecgfgekmhcaaDoorW.PrintMore Go.Proofs.YtdgecgfgekmhcaaDoor.U Go.Proofs.YtdgecgfgekmhcaaDoor.J
set_option linter.unusedVariables false
set_option linter.unusedSimpArgs false
section
variable {P : Program} {ops : Array Oper} {rest : List Oper} {o : Oper} {a : Act} {w : World} {Q : Exit → Act → World → Prop}
theorem st_allocR (hgd : o.guard = none) (d : Nat) (hdst : o.dst = some d) (ty : TypeId) (ho : o.op = .alloc ty) {cs : Array Value} (hzt : ZeroTy P ty cs)
  (h : ∀ g w1, w1.heap[g]? = some (.cells cs ty (0, 0)) → w.heap.size ≤ g → Below w.heap.size w w1 → wpList P ops Q rest (a.put (some d) (.pointer (some ⟨g, 0, none⟩))) w1) : wpList P ops Q (o :: rest) a w := by
 obtain ⟨z, hz, rfl⟩ := hzt
 refine wpList_plain hgd fun K hK => ?_
 rw [← hdst] at h
 unfold Oper.wp execOp
 simp only [ho, Sem.run_bind, run_alloc hz, Sem.run_pure, Result.andThen_ok]
 exact hK _ _ (h _ _ (Go.heap_alloc_new w _) (Nat.le_refl _) (below_alloc (Below.refl _ _) _))
structure Stored (g : Nat) (cs : Array Value) (t : TypeId) (w w1 : World) : Prop where
 now : w1.heap[g]? = some (.cells cs t (0, 0))
 other : ∀ k, k ≠ g → w1.heap[k]? = w.heap[k]?
 size : w1.heap.size = w.heap.size
 below : ∀ B (w0 : World), Below B w0 w → B ≤ g → Below B w0 w1
theorem st_storeR (hgd : o.guard = none) (ty : TypeId) (x y : Operand) (ho : o.op = .store ty x y) (g : Nat) (cs : Array Value) (hx : a.eval x = .pointer (some ⟨g, 0, none⟩)) (hy : a.eval y = .agg cs) (t : TypeId) (old : Array Value)
  (hb : w.heap[g]? = some (.cells old t (0, 0))) (hi : (P.info? ty).map (·.size) = some cs.size) (hold : old.size = cs.size) (h1 : cs.all (·.oneCell') = true)
  (h : ∀ w1, Stored g cs t w w1 → wpList P ops Q rest (a.put o.dst undef) w1) : wpList P ops Q (o :: rest) a w :=
 wpList_store_row hgd ty x y ho g cs hx hy t old hb hi hold h1 (h _ ⟨setRow_heap _ _ _ _ _ _ hb, fun k hk => setRow_other _ g k _ hk, by
  have := (Below.refl 0 w); simp [World.setRow, hb], fun B w0 h hg => Go.below_setRow h hg _⟩)
end
structure LA (w : World) (S1 g3 : Nat) (v1 : Value) (c3 : Array Value) (Q : List ByteArray) (W : World) : Prop where
 bel : Below w.heap.size w W
 lo : w.heap.size ≤ S1
 hi : S1 ≤ W.heap.size
 row : Kd.R Kd.string 9 W w.heap.size (fun k => k < S1) v1 Q
 box : W.heap[g3]? = some (.cells c3 28 (0, 0))
 ge3 : S1 ≤ g3
theorem LA.below {w : World} {S1 g3 : Nat} {v1 : Value} {c3 : Array Value} {Q : List ByteArray} {W W1 : World} (h : LA w S1 g3 v1 c3 Q W) (hb : Below W.heap.size W W1) : LA w S1 g3 v1 c3 Q W1 :=
 ⟨h.bel.trans (hb.mono h.bel.size), h.lo, Nat.le_trans h.hi hb.size, Kd.R_below h.row hb, (hb.block _ (lt_of_some h.box)).trans h.box, h.ge3⟩
theorem LA.start {w w1 w3 : World} {g3 : Nat} {v1 : Value} {c3 : Array Value} {Q : List ByteArray} (hR : Kd.R Kd.string 9 w1 w.heap.size (fun _ => True) v1 Q) (hb1 : Below w.heap.size w w1) (h3 : w3.heap[g3]? = some (.cells c3 28 (0, 0))) (hge : w1.heap.size ≤ g3) (hb : Below w1.heap.size w1 w3) : LA w w1.heap.size g3 v1 c3 Q w3 :=
 ⟨hb1.trans (hb.mono hb1.size), hb1.size, hb.size, Kd.R_below (Kd.R_mono (Kd.R_bound hR) (fun k hk => hk.2.2.1)) hb, h3, hge⟩
theorem LA.stored {w : World} {S1 g3 : Nat} {v1 : Value} {c3 d3 : Array Value} {Q : List ByteArray} {W W1 : World} (h : LA w S1 g3 v1 c3 Q W) (hs : Stored g3 d3 28 W W1) : LA w S1 g3 v1 d3 Q W1 :=
 ⟨hs.below _ _ h.bel (Nat.le_trans h.lo h.ge3), h.lo, by rw [hs.size]; exact h.hi, Kd.R_step h.row (fun k hk _ => hs.other k (by have := h.ge3; omega)), hs.now, h.ge3⟩
structure LB (w : World) (S1 g3 g5 : Nat) (v1 v2 : Value) (c3 c5 : Array Value) (Q X : List ByteArray) (W : World) : Prop where
 one : LA w S1 g3 v1 c3 Q W
 row : Kd.R Kd.string 9 W w.heap.size (fun k => S1 ≤ k) v2 X
 box : W.heap[g5]? = some (.cells c5 28 (0, 0))
 ge5 : S1 ≤ g5
 ne : g3 ≠ g5
theorem LB.below {w : World} {S1 g3 g5 : Nat} {v1 v2 : Value} {c3 c5 : Array Value} {Q X : List ByteArray} {W W1 : World} (h : LB w S1 g3 g5 v1 v2 c3 c5 Q X W) (hb : Below W.heap.size W W1) : LB w S1 g3 g5 v1 v2 c3 c5 Q X W1 :=
 ⟨h.one.below hb, Kd.R_below h.row hb, (hb.block _ (lt_of_some h.box)).trans h.box, h.ge5, h.ne⟩
theorem LB.start {w W w5 w6 : World} {S1 g3 g5 : Nat} {v1 v2 : Value} {c3 c5 : Array Value} {Q X : List ByteArray} (h : LA w S1 g3 v1 c3 Q W) (hR : Kd.R Kd.string 9 w5 W.heap.size (fun _ => True) v2 X) (hb1 : Below W.heap.size W w5) (h5 : w6.heap[g5]? = some (.cells c5 28 (0, 0))) (hge : w5.heap.size ≤ g5) (hb : Below w5.heap.size w5 w6) : LB w S1 g3 g5 v1 v2 c3 c5 Q X w6 :=
 ⟨(h.below hb1).below hb, Kd.R_below (Kd.R_lower (Kd.R_mono (Kd.R_bound hR) (fun k hk => Nat.le_trans h.hi hk.2.1)) (Nat.le_trans h.lo h.hi)) hb, h5, Nat.le_trans h.hi (Nat.le_trans hb1.size hge), by have := lt_of_some h.box; have := hb1.size; omega⟩
theorem LB.stored {w : World} {S1 g3 g5 : Nat} {v1 v2 : Value} {c3 c5 d5 : Array Value} {Q X : List ByteArray} {W W1 : World} (h : LB w S1 g3 g5 v1 v2 c3 c5 Q X W) (hs : Stored g5 d5 28 W W1) : LB w S1 g3 g5 v1 v2 c3 d5 Q X W1 :=
 ⟨⟨hs.below _ _ h.one.bel (Nat.le_trans h.one.lo h.ge5), h.one.lo, by rw [hs.size]; exact h.one.hi, Kd.R_step h.one.row (fun k hk _ => hs.other k (by have := h.ge5; omega)), (hs.other _ h.ne).trans h.one.box, h.one.ge3⟩,
  Kd.R_step (Kd.R_types h.row h.box (fun q hq => by simp [Kd.string, Kd.scalar] at hq; omega)) (fun k hk _ => hs.other k hk.2) |> fun x => Kd.R_mono x (fun _ hk => hk.1), hs.now, h.ge5, h.ne⟩
theorem LB.far {w : World} {S1 g3 g5 g9 : Nat} {v1 v2 : Value} {c3 c5 d9 : Array Value} {Q X : List ByteArray} {t : TypeId} {W0 W W1 : World} (h : LB w S1 g3 g5 v1 v2 c3 c5 Q X W0) (hb : Below W0.heap.size W0 W) (hge : W0.heap.size ≤ g9) (hs : Stored g9 d9 t W W1) : LB w S1 g3 g5 v1 v2 c3 c5 Q X W1 :=
 h.below (hs.below _ _ hb hge)
theorem LB.mark {w : World} {S1 g3 g5 : Nat} {v1 v2 : Value} {c3 c5 : Array Value} {Q X Y : List ByteArray} {W W1 : World} (h : LB w S1 g3 g5 v1 v2 c3 c5 Q X W) {ok : Nat → Prop} (hR : Kd.R Kd.string 9 W1 w.heap.size ok v2 Y) (hb : Below w.heap.size w W1) (hk : Kept W W1 (fun k => some k = v2.ownBlock)) : LB w S1 g3 g5 v1 v2 c3 c5 Q Y W1 := by
 have hne : ∀ {g : Nat} {cs : Array Value}, W.heap[g]? = some (.cells cs 28 (0, 0)) → W1.heap[g]? = some (.cells cs 28 (0, 0)) := fun hg => (hk.2 _ (lt_of_some hg) (fun e => Kd.R_ne h.row hg (by decide : (9 : Nat) ≠ 28) e)).trans hg
 refine ⟨⟨hb, h.one.lo, Nat.le_trans h.one.hi hk.1, Kd.R_step h.one.row (fun k hk1 hk2 => hk.2 k hk2 (fun e => ?_)), hne h.one.box, h.one.ge3⟩, Kd.R_reok rfl hR (fun k hk1 => h.row.1 k hk1), hne h.box, h.ge5, h.ne⟩
 have := h.row.1 k e.symm
 omega
theorem lawReadBook_big (s : ByteArray) (hs : 1048576 < s.size) (w : World) :
  Calls Tryd.prog 5 #[.string s] w fun e w' => e = .returned (.bool true) ∧ Below w.heap.size w w' := by
 have hq : decide ((s.size : Int) > 1048576) = true := decide_eq_true (by omega)
 go_enter Tryd.func5, Tryd.ntmps5
 go_wp2_with fail
 ·go_ret
  exact ⟨rfl, Below.refl _ _⟩
theorem marksT_len (n : Nat) (a : Int) : (marksT n a).length = n := marksT_length ..
set_option maxHeartbeats 8000000 in
set_option maxRecDepth 100000 in
theorem lawReadBook_small (l : List UInt8) (hl : l.length ≤ 1048576) (w : World) (hD : Door w) :
  Calls Tryd.prog 5 #[.string ⟨l.toArray⟩] w fun e w' => e = .returned (.bool true) ∧ Below w.heap.size w w' := by
 have HD := Aside0.mk (fun W (hb : Below w.heap.size w W) => hD.below hb)
 have HSP : Aside0 (∀ W, Calls Tryd.prog 16 #[.string ⟨l.toArray⟩] W fun e w' => ∃ v, e = .returned (.tuple #[.agg #[.int .i8 (rdRes (rdS l)).1.1, .int .i8 (rdRes (rdS l)).1.2.1, .int .i8 (rdRes (rdS l)).1.2.2.1, v], .int .i64 (rdRes (rdS l)).2]) ∧ Kd.R Kd.string 9 w' W.heap.size (fun _ => True) v (txs (rdRes (rdS l)).1.2.2.2) ∧ Below W.heap.size W w') := ⟨fun W => specReadBook_calls l hl W⟩
 have HIM : Aside0 (∀ W, Door W → Calls Tryd.prog 17 #[.string ⟨l.toArray⟩] W fun e w' => ∃ v, e = .returned (.tuple #[.agg #[.int .i8 (rdRes (rdI l)).1.1, .int .i8 (rdRes (rdI l)).1.2.1, .int .i8 (rdRes (rdI l)).1.2.2.1, v], .int .i64 (rdRes (rdI l)).2]) ∧ Kd.R Kd.string 9 w' W.heap.size (fun _ => True) v (txs (rdRes (rdI l)).1.2.2.2) ∧ Below W.heap.size W w') := ⟨fun W hW => implReadBook_calls l hl W hW⟩
 rw [rd_eq] at HIM
 have hn : (txs (rdRes (rdS l)).1.2.2.2).length ≤ 1000000 := by
  rcases h : rdS l with _ | b
  ·simp [rdRes, txs]
  ·have := (ok_ranges (rdS_sound h).1).2
   simp only [rdRes, txs, List.length_map]
   omega
 have hsz : ¬ ((⟨l.toArray⟩ : ByteArray).size : Int) > 1048576 := by rw [bs_size]; omega
 have hsz2 := decide_eq_false hsz
 generalize (rdRes (rdS l)).1.1 = n1 at *
 generalize (rdRes (rdS l)).1.2.1 = n2 at *
 generalize (rdRes (rdS l)).1.2.2.1 = n3 at *
 generalize (rdRes (rdS l)).2 = cd at *
 generalize txs (rdRes (rdS l)).1.2.2.2 = Q at *
 obtain ⟨k1, hk1⟩ := (eqBook_refl n1 n2 n3 Q (by omega)).rounds
 have HEQ := Aside0.mk (fun A c A' c' W h1 h2 h3 h4 => laws_eqBook.calls k1 n1 n2 n3 A c Q n1 n2 n3 A' c' Q true W h1 h2 h3 h4 hk1)
 obtain ⟨k2, hk2⟩ := (markBook_ev n1 n2 n3 Q 1 (by omega) (by omega)).rounds
 have HMK := Aside0.mk (fun (P0 : Nat → Prop) v (w0 W : World) h1 h2 => laws_markBook.calls k2 n1 n2 n3 P0 v Q 1 _ _ w0 W h1 h2 hk2)
 obtain ⟨k3, hk3⟩ := (heldBook_ev n1 n2 n3 Q.length 1 (by omega) (by omega)).rounds
 have HHD : Aside0 (∀ A c W, Kd.C Kd.string W A (marksT Q.length 1).length (marksT Q.length 1) → Q.length ≤ c → Calls Tryd.prog 19 #[.agg #[.int .i8 n1, .int .i8 n2, .int .i8 n3, .slice A Q.length c], .int .i64 1] W fun e w' => e = .returned (.int .i64 (1 + (Q.length : Int))) ∧ Below W.heap.size W w') := ⟨fun A c W h1 h2 => by
  have := laws_heldBook.calls k3 n1 n2 n3 A c (marksT Q.length 1) 1 _ W h1 (by rw [marksT_len]; exact h2) hk3
  rw [marksT_len] at this
  exact this⟩
 have HML := Aside0.mk (marksT_len Q.length 1)
 clear hk1 hk2 hk3
 generalize marksT Q.length 1 = MQ at *
 have hge : ¬ ((1 : Int) + (Q.length : Int) < 0) := by omega
 have hge2 := decide_eq_false hge
 go_enter Tryd.func5, Tryd.ntmps5
 go_wp2_with (first
  | (go_at_call 16; refine (HSP.out _).mono ?_; rintro e w1 ⟨v1, rfl, hR1, hb1⟩; obtain ⟨A1, c1, rfl⟩ := Kd.R_slice hR1; have HR1 := Aside0.mk hR1; have HBA := Aside0.mk hb1; clear hR1 hb1)
  | ((with_reducible refine gt_alloc 3 28 ?_); refine st_allocR rfl 3 rfl 28 rfl zeroBook ?_; intro g3 w3 h3 hge3 hb3; have HA := Aside0.mk (LA.start HR1.out HBA.out h3 hge3 hb3); clear h3 hge3 hb3 HR1 HBA)
  | ((with_reducible refine gt_store 28 ?_); first
   | (refine st_storeR rfl 28 _ _ rfl g9 (bkC n1 n2 n3 A3 Q.length c3) rfl rfl _ _ H9.out infoBook rfl one4B ?_; intro wz hs; have HBX := Aside0.mk (HB2.out.far HBB9.out HG9.out hs); have H9' := Aside0.mk hs.now; have HR3' := Aside0.mk (Kd.R_mono (Kd.R_step (Kd.R_types HR3.out H9.out (fun q hq => by simp [Kd.string, Kd.scalar] at hq; omega)) (fun k hk _ => hs.other k hk.2)) (fun _ _ => trivial)); clear hs H9 HR3; have H9 := H9'; have HR3 := HR3'; clear H9' HR3')
   | (refine st_storeR rfl 28 _ _ rfl g5 (bkC n1 n2 n3 A2 Q.length c2) rfl rfl _ _ HB.out.box infoBook rfl one4B ?_; intro wy hs; replace HB := Aside0.mk (HB.out.stored hs); clear hs)
   | (refine st_storeR rfl 28 _ _ rfl g3 (bkC n1 n2 n3 A1 Q.length c1) rfl rfl _ _ HA.out.box infoBook rfl one4B ?_; intro wx hs; replace HA := Aside0.mk (HA.out.stored hs); clear hs))
  | (go_at_call 17; first
   | (refine (HIM.out _ (HD.out _ HB.out.one.bel)).mono ?_; rintro e w9 ⟨v3, rfl, hR3, hb3⟩; obtain ⟨A3, c3, rfl⟩ := Kd.R_slice hR3; have HR3 := Aside0.mk hR3; have HB2 := Aside0.mk (HB.out.below hb3); clear hR3 hb3 HB)
   | (refine (HIM.out _ (HD.out _ HA.out.bel)).mono ?_; rintro e w5 ⟨v2, rfl, hR2, hb2⟩; obtain ⟨A2, c2, rfl⟩ := Kd.R_slice hR2; have HR2 := Aside0.mk hR2; have HBB := Aside0.mk hb2; clear hR2 hb2))
  | ((with_reducible refine gt_alloc 5 28 ?_); refine st_allocR rfl 5 rfl 28 rfl zeroBook ?_; intro g5 w6 h5 hge5 hb5; have HB := Aside0.mk (LB.start HA.out HR2.out HBB.out h5 hge5 hb5); clear h5 hge5 hb5 HR2 HBB HA)
  | ((with_reducible refine gt_alloc 9 28 ?_); refine st_allocR rfl 9 rfl 28 rfl zeroBook ?_; intro g9 w10 h9 hge9 hb9; have H9 := Aside0.mk h9; have HG9 := Aside0.mk hge9; have HBB9 := Aside0.mk hb9; replace HR3 := Aside0.mk (Kd.R_below HR3.out hb9); clear h9 hge9 hb9)
  | ((with_reducible refine gt_load 28 ?_); first
   | (refine Kd.event_run rfl (y_row (by rfl) (by rfl) HA.out.box aggBook rfl) ?_)
   | (refine Kd.event_run rfl (y_row (by rfl) (by rfl) HB.out.box aggBook rfl) ?_)
   | (refine Kd.event_run rfl (y_row (by rfl) (by rfl) HB.out.one.box aggBook rfl) ?_)
   | (refine Kd.event_run rfl (y_row (by rfl) (by rfl) H9.out aggBook rfl) ?_)
   | (refine Kd.event_run rfl (y_row (by rfl) (by rfl) HBX.out.box aggBook rfl) ?_)
   | (refine Kd.event_run rfl (y_row (by rfl) (by rfl) HBX.out.one.box aggBook rfl) ?_))
  | (go_at_call 10; first
   | (refine (HEQ.out A3 c3 A1 c1 _ (Kd.R_reads' HR3.out).2.2 (Kd.R_reads' HR3.out).2.1 (Kd.R_reads' HBX.out.one.row).2.2 (Kd.R_reads' HBX.out.one.row).2.1).mono ?_; rintro e we ⟨rfl, hb⟩; replace HBX := Aside0.mk (HBX.out.below hb); clear hb)
   | (refine (HEQ.out A2 c2 A1 c1 _ (Kd.R_reads' HB.out.row).2.2 (Kd.R_reads' HB.out.row).2.1 (Kd.R_reads' HB.out.one.row).2.2 (Kd.R_reads' HB.out.one.row).2.1).mono ?_; rintro e we ⟨rfl, hb⟩; replace HB := Aside0.mk (HB.out.below hb); clear hb))
  | (go_at_call 18; refine (HMK.out (fun k => some k = (Value.slice A2 Q.length c2).ownBlock) (.slice A2 Q.length c2) w _ HB.out.one.bel (Kd.R_tight rfl HB.out.row)).mono ?_; rintro e wm ⟨rfl, hR, hb, hk⟩; replace HB := Aside0.mk (HB.out.mark hR hb hk); clear hR hb hk)
  | (go_at_call 19; first
   | (refine (HHD.out A2 c2 _ (Kd.R_reads' HBX.out.row).2.2 (Kd.R_reads' HBX.out.row).2.1).mono ?_; rintro e wh ⟨rfl, hb⟩; replace HBX := Aside0.mk (HBX.out.below hb); clear hb)
   | (refine (HHD.out A2 c2 _ (Kd.R_reads' HB.out.row).2.2 (Kd.R_reads' HB.out.row).2.1).mono ?_; rintro e wh ⟨rfl, hb⟩; replace HB := Aside0.mk (HB.out.below hb); clear hb)))
 go_ret
 exact ⟨rfl, HBX.out.one.bel⟩
theorem law_FnExactReadBook (s : ByteArray) (w : World) (hD : Door w) :
  Calls Tryd.prog 5 #[.string s] w fun e w' => e = .returned (.bool true) ∧ Below w.heap.size w w' := by
 by_cases h : s.size ≤ 1048576
 ·have hs : s = ⟨s.data.toList.toArray⟩ := by simp
  rw [hs]
  refine lawReadBook_small s.data.toList ?_ w hD
  have : s.data.toList.length = s.size := Array.length_toList
  omega
 ·exact lawReadBook_big s (by omega) w
end Go.Proofs.YtdgecgfgekmhcaaDoor.Arr
namespace Go.Proofs.YtdgecgfgekmhcaaDoor.fnExactReadBook
open Go.ChangeShapes Go.WideShapes Go.ChangeAt Go.RowKit Go.Proofs.YtdgecgfgekmhcaaDoor.U Go.Proofs.YtdgecgfgekmhcaaDoorW.PrintWords Go.Proofs.YtdgecgfgekmhcaaDoor.Arr
open Go.ChangeMaps (open_string shut_string)
set_option linter.unusedVariables false
theorem own : ownKnob Tryd.prog.godebug = none := by kernel_rfl
theorem wrap {H : Type} {enc : TypeId × Value → H} {a : Assume} {C : Checked} {os : Os} {f : FuncId} {fn : Func} {s : ChangeSpec} {conds : List PathCond} {apart fresh handsOn again : Bool} {X : World → Array Value → Prop}
  (hX : ∀ (w w' : World) (args : Array Value), w.heap = w'.heap → X w args → X w' args)
  (own : ownKnob C.prog.godebug = none) (started : os.Started) (noInit : C.prog.inits.idxOf? f = none) (hfn : C.prog.funcs[f]? = some fn)
  (witness : ∃ (w : World) (tape : Tape) (i : Input), w.os = os ∧ (w.forCall tape i).Shaped C.prog ∧ i.vars = [] ∧ Input.okWide C.prog (w.forCall tape i) .any w.heap.size f i ∧
   ((s.pre enc C.prog fn conds apart (w.forCall tape i).memory i.args ∧ X (w.forCall tape i).memory i.args) ∧ sizedMet enc C.prog fn (OpenSpec.ofChange s) apart (w.forCall tape i).memory i.args) ∧ a.holds C.prog (lone (Frame.enter C.prog f i.args .normal) [] (w.forCall tape i)))
  (contract : ∀ (W : World) (base : Nat) (args : Array Value) (ds gs : List (DataW H)) (before : List MemPlace),
   (∀ (j : Nat) t v, fn.params[j]? = some t → args[j]? = some v → Value.okWide C.prog W .any base t v) →
   DataW.Whole enc C.prog fn.params.toList s.vars apart W args.toList ds gs before → X W args → W.ShapedOpen C.prog →
   Calls C.prog f args W fun e W' => ∃ v, e = .returned v ∧ s.post enc C.prog fn apart fresh handsOn again W args v W') :
  ReturnsInHanded a C os f .any (fun w args => (s.pre enc C.prog fn conds apart w args ∧ X w args) ∧ sizedMet enc C.prog fn (OpenSpec.ofChange s) apart w args) (s.post enc C.prog fn apart fresh handsOn again) := by
 refine returnsInHanded_of_calls own started noInit witness ?_
 intro w tape i _ hsh _ hok hpre hholds
 obtain ⟨_, _, _, fn', hfn', _, _, _, _, hval⟩ := hok
 have e : fn' = fn := Option.some.inj (hfn'.symm.trans hfn)
 subst e
 obtain ⟨⟨⟨ds, gs, before, hw, hc⟩, hx⟩, hz⟩ := hpre
 have hw' := DataW.Whole.of_heap (w' := w.forCall tape i) (by rfl) hw
 refine (contract (w.forCall tape i) w.heap.size i.args ds gs before hval hw' (hX _ _ _ (by rfl) hx) hsh).mono fun e W' ⟨v, he, hp⟩ => ?_
 subst he
 exact ChangeSpec.post_blind hp
set_option maxRecDepth 100000 in
theorem rowOf (u : TypeId) (h : Tryd.prog.typeName? 3 u = some "*errors.errorString") : u = 173 := by
 have star : "*" ++ "errors.errorString" = "*errors.errorString" := by decide
 exact typeName_ptr_named (nm := "errors.errorString") (by rw [star]; kernel_rfl) (by kernel_rfl) (by decide) u (by rw [star]; exact h)
set_option maxRecDepth 100000 in
theorem door_of {W : World} (hL : laidMetH Tryd.prog Rows.fnExactReadBookRow.laid W) (hs : W.ShapedOpen Tryd.prog) : Door W := by
 rw [MakeChecks.laidMetH_plain _ _ _ (by kernel_rfl)] at hL
 have h4 := hL.tail.tail.tail.tail
 obtain ⟨a0, s0, hv0, _⟩ := laid_sentinel (g := 3) (ti := 92) (tp := 173) (te := 175) h4 (by kernel_rfl) (by kernel_rfl) Tryd.underlying92 rowOf Tryd.underlying173 Tryd.underlying175 rfl rfl Tryd.underlying9 (by kernel_rfl) (by kernel_rfl)
 obtain ⟨a1, s1, hv1, _⟩ := laid_sentinel (g := 2) (ti := 92) (tp := 173) (te := 175) h4.tail (by kernel_rfl) (by kernel_rfl) Tryd.underlying92 rowOf Tryd.underlying173 Tryd.underlying175 rfl rfl Tryd.underlying9 (by kernel_rfl) (by kernel_rfl)
 have c0 := World.var?_cell (g := 3) (by kernel_rfl) hv0 0
 have c1 := World.var?_cell (g := 2) (by kernel_rfl) hv1 0
 refine ⟨lay146.s1_3 W hs, ⟨_, _, show W.cell? ⟨2, 0, none⟩ = _ by simpa using c1⟩, ⟨_, _, show W.cell? ⟨3, 0, none⟩ = _ by simpa using c0⟩, ?_⟩
 exact Lib.tabIs_of_head (g := 0) (t := 142) (e := 115) (n := 20) (by kernel_rfl) (by kernel_rfl) (by kernel_rfl) (by kernel_rfl) (by kernel_rfl) (by kernel_rfl) (show laidMet Tryd.prog (("internal/strconv.uint64pow10", Lib.tabData .u64 Lib.pow10Tab) :: _) W from hL.tail.tail)
set_option maxRecDepth 100000 in
theorem door_met (os : Os) (args : Array Value) : laidMetH Tryd.prog Rows.fnExactReadBookRow.laid ((World.laidAll Tryd.prog os Rows.fnExactReadBookRow.laid).forCall (fun _ _ => 0) ⟨#[], args, []⟩).memory := by
 rw [MakeChecks.laidMetH_plain _ _ _ (by kernel_rfl)]
 exact laidMet_laidAll _ (by kernel_rfl) (by kernel_rfl)
set_option maxRecDepth 100000 in
theorem lifted (os : Os) (started : os.Started) (H : Type) (enc : TypeId × Value → H) :
  ReturnsInHanded {} Tryd.checked os 5 .any (fun w args => (Rows.fnExactReadBookSpec.pre enc Tryd.prog Tryd.f5 [] false w args ∧ laidMetH Tryd.prog Rows.fnExactReadBookRow.laid w) ∧ sizedMet enc Tryd.prog Tryd.f5 (OpenSpec.ofChange Rows.fnExactReadBookSpec) false w args)
   (Rows.fnExactReadBookSpec.post enc Tryd.prog Tryd.f5 false true false false) := by
 refine wrap (C := Tryd.checked) (X := fun w _ => laidMetH Tryd.prog Rows.fnExactReadBookRow.laid w) (fun _ _ _ hh h => h.of_heap hh) own started (by kernel_rfl) Tryd.func5
  (ChangeSpec.witness_shaped (enc := enc) (C := Tryd.checked) (os := os) (X := fun w _ => laidMetH Tryd.prog Rows.fnExactReadBookRow.laid w) false (World.laidAll Tryd.prog os Rows.fnExactReadBookRow.laid) #[.string ByteArray.empty] 8 (World.laidAll_os _ _ _) (World.shaped_of_ZipB (by kernel_rfl) (by kernel_rfl)) (by kernel_rfl) (by kernel_rfl) (by kernel_rfl) (door_met os _)) ?_
 intro W base args ds gs before hval0 hW hL hs
 have hval : ∀ (j : Nat) t v, Tryd.f5.params[j]? = some t → args[j]? = some v → Value.okWide Tryd.prog W .any base t v := hval0
 have hW' := hW
 obtain ⟨p, q, hA0, hV, rfl, hfz, hnd⟩ := hW
 have hA : DataW.TrodAll enc Tryd.prog W 0 (fun _ => true) true Tryd.f5.params.toList args.toList ds p := hA0
 rw [Tryd.params5] at hA hval
 obtain ⟨v0, d0, rfl, rfl, h0⟩ := trodAll_one hA
 obtain ⟨rfl, rfl⟩ := trodVars_none hV
 obtain ⟨a0, rfl, rfl, rfl, y0⟩ := open_string Tryd.underlying9 (hval 0 9 v0 rfl rfl) h0
 clear hA0 hval0
 simp only [List.append_nil] at hW'
 refine (Arr.law_FnExactReadBook a0 W (door_of hL hs)).mono ?_
 rintro e W' ⟨rfl, bel⟩
 exact ⟨_, rfl, _, _, _, [], [], [], hW', trodAll_mk1 (shut_bool Tryd.underlying4 _), trodAll_mk1 (shut_string Tryd.underlying9 y0), rfl, bel.frame _, fun h => by cases h⟩
theorem over : Rows.fnExactReadBookRow.holds Tryd.pinned (OpenSpec.ofChange Rows.fnExactReadBookSpec) :=
 OpenClaim.holds_of_wide 5 Tryd.f5 rfl rfl rfl rfl rfl rfl rfl ⟨rfl, rfl, rfl, rfl, rfl⟩ rfl rfl rfl rfl rfl (by kernel_rfl) Tryd.func5 (by kernel_rfl)
  (of_decide_eq_true (by kernel_rfl)) (by unfold Func.isWrapper; first | (rw [if_pos (by decide +kernel)]; kernel_rfl) | (rw [if_neg (by decide +kernel)]; exact ⟨rfl, rfl⟩))
  (fun os started H enc _ => lifted os started H enc)
theorem proved : Rows.FnExactReadBookSaid := over
end Go.Proofs.YtdgecgfgekmhcaaDoor.fnExactReadBook
