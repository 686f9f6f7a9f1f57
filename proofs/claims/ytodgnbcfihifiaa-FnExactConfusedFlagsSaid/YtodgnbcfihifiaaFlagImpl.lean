/- The program's setCode and the reference's l01Ok: which flags are valid. Condition: no list too long. -/
import Derived.Test.YtodgnbcfihifiaaSightImpl2
import Derived.BigQuiet
namespace Go.Proofs.Ytodgnbcfihifiaa.Arr
open Go.RowKit Go.Proofs.YtodgnbcfihifiaaW.PrintWords Go.Proofs.YtodgnbcfihifiaaW.PrintLast Go.Proofs.YtodgnbcfihifiaaW.PrintMore Go.Proofs.Ytodgnbcfihifiaa.U
set_option linter.unusedVariables false
set_option linter.unusedSimpArgs false

/-- Are the numbers of a flag colours? -/
def okF (x : List Int) : Bool := decide (∀ k : Nat, k < 24 → rd x (k : Int) ≤ 5)
def flagsB (l : List (List Int)) : Bool := decide (∀ j : Nat, j < l.length → okF (ra l j) = true)
theorem aggFlag : AggTy Try.prog 67 24 := ⟨by kernel_rfl, by kernel_rfl⟩
section
variable {P : Program} {o : Oper} {a : Act} {w : World}
/-- A load of a whole variable. -/
theorem y_rowA {ty : TypeId} {x : Operand} (ho : o.op = .load ty x) {g m : Nat} (hx : a.eval x = .pointer (some ⟨g, 0, none⟩)) {cs : Array Value} {t : TypeId} {w' : World} (hc : w'.heap[g]? = some (.cells cs t (0, 0))) (hi2 : AggTy P ty m) (hl : cs.size = m) : (execOp a.eval o).run P w' = .ok (.value (.agg cs)) w' := by
  obtain ⟨hd, hi0⟩ := hi2
  have hi : (P.info? ty).map (·.size) = some cs.size := by rw [hl]; exact hi0
  cases hu : P.underlying ty with
  | none => simp [hu] at hd
  | some d =>
    have h := run_loadVar_row (P := P) w' g t ty cs (0, 0) d hc hu (by cases d <;> simp_all) hi
    unfold execOp
    simp only [ho, hx, Instr.loadAt, Instr.sureAddr, Sem.run_bind, Sem.run_pure, Result.andThen_ok, h]
end
theorem vf1_enters (a : Array Value) (W : World) : (callFunc 69 a).run Try.prog W = .ok (.enter 69 a) W := by kernel_rfl
theorem sc1_enters (a : Array Value) (W : World) : (callFunc 57 a).run Try.prog W = .ok (.enter 57 a) W := by kernel_rfl
set_option maxHeartbeats 1000000 in
set_option maxRecDepth 100000 in
theorem vf1_calls (x : Int) (w : World) : Calls Try.prog 69 #[.int .u8 x] w fun e w' => e = .returned (.bool (decide (6 ≤ x))) ∧ Below w.heap.size w w' := by
  go_enter Try.func69, Try.ntmps69
  go_wp2_with fail
  go_ret
  exact ⟨rfl, Below.refl _ _⟩
set_option maxHeartbeats 1000000 in
set_option maxRecDepth 100000 in
theorem indexFunc_fb (A0 : Option Addr) (c0 : Nat) (x : List Int) (w : World) (hr0 : Kd.C (Kd.int .u8) w A0 x.length x) (hn : x.length ≤ 1000000) :
    Calls Try.prog 66 #[.slice A0 x.length c0, .func (.func 69) #[] #[]] w fun e w' => e = .returned (.int .i64 (ixn (fun j => decide (6 ≤ rd x (j : Int))) x.length)) ∧ Below w.heap.size w w' := by
  have hg := vf1_enters
  have HR0 := Aside0.mk hr0
  clear hr0
  go_enter Try.func66, Try.ntmps66
  go_wp2_with fail
  go_loopw [8, 5] (fun v8 v5 wr => ∃ i : Nat, i ≤ x.length ∧ v8 = .int .i64 i ∧ Aside0 (Below w.heap.size w wr) ∧ Aside0 (∀ j : Nat, j < i → decide (6 ≤ rd x (j : Int)) = false)) (fun v8 _ _ => x.length - (intOf v8).toNat)
  case atStart => exact ⟨0, Nat.zero_le _, rfl, ⟨Below.refl _ _⟩, ⟨fun j hj => absurd hj (by omega)⟩⟩
  case round =>
    obtain ⟨i, hi, rfl, HB, HP⟩ := hrel
    by_cases hlt : i < x.length
    · obtain ⟨ad, rfl, hcell⟩ := Kd.at_int (Kd.C_below HR0.out HB.out) (i : Int) (by omega) (by omega)
      rw [Int.toNat_natCast] at hcell
      have HM := Aside0.mk (vf1_calls (rd x (i : Int)) wr)
      cases hp : decide (6 ≤ rd x (i : Int)) with
      | true =>
        have HX := Aside0.mk (ixn_found (fun j => decide (6 ≤ rd x (j : Int))) x.length i hlt HP.out hp)
        rw [hp] at HM
        clear hp
        go_wp2_with (refine HM.out.mono ?_; rintro e w1 ⟨rfl, hb1⟩; have HB1 := Aside0.mk hb1; clear hb1)
        go_ret
        exact ⟨by rw [HX.out]; rfl, below_then HB.out HB1.out⟩
      | false =>
        have HPX := Aside0.mk hp
        rw [hp] at HM
        clear hp
        go_wp2_with (refine HM.out.mono ?_; rintro e w1 ⟨rfl, hb1⟩; have HB1 := Aside0.mk hb1; clear hb1)
        go_roundw
        case rel => exact ⟨i + 1, by omega, by go_num, ⟨below_then HB.out HB1.out⟩, ⟨fun j hj => by
          rcases Nat.lt_or_ge j i with h | h
          · exact HP.out j h
          · obtain rfl : j = i := by omega
            exact HPX.out⟩⟩
        case measure => simp [intOf]; omega
    · obtain rfl : i = x.length := by omega
      have HX := Aside0.mk (ixn_none (fun j => decide (6 ≤ rd x (j : Int))) x.length HP.out)
      go_wp2_with fail
      go_ret
      exact ⟨by rw [HX.out]; rfl, HB.out⟩
set_option maxHeartbeats 1000000 in
set_option maxRecDepth 100000 in
theorem containsFunc_fb (A0 : Option Addr) (c0 : Nat) (x : List Int) (w : World) (hr0 : Kd.C (Kd.int .u8) w A0 x.length x) (hx : x.length = 24) :
    Calls Try.prog 49 #[.slice A0 x.length c0, .func (.func 69) #[] #[]] w fun e w' => e = .returned (.bool (!okF x)) ∧ Below w.heap.size w w' := by
  have HM := Aside0.mk (indexFunc_fb A0 c0 x w hr0 (by omega))
  have HA := Aside0.mk (ixn_any (fun j => decide (6 ≤ rd x (j : Int))) x.length)
  have HO := Aside0.mk (show okF x = decide (∀ j : Nat, j < x.length → decide (6 ≤ rd x (j : Int)) = false) by
    unfold okF
    rw [hx]
    congr 1
    apply propext
    exact ⟨fun h j hj => decide_eq_false (by have := h j hj; omega), fun h j hj => by have := of_decide_eq_false (h j hj); omega⟩)
  clear hr0 hx
  rw [HO.out]
  generalize ixn (fun j => decide (6 ≤ rd x (j : Int))) x.length = n at *
  generalize decide (∀ j : Nat, j < x.length → decide (6 ≤ rd x (j : Int)) = false) = b at *
  go_enter Try.func49, Try.ntmps49
  go_wp2_with (go_at_call 66; refine HM.out.mono ?_; rintro e w1 ⟨rfl, hb1⟩; have HB1 := Aside0.mk hb1; clear hb1)
  go_ret
  exact ⟨by rw [← HA.out]; rfl, HB1.out⟩
set_option maxHeartbeats 1000000 in
set_option maxRecDepth 100000 in
theorem validFlag_calls (x : List Int) (w : World) (hx : x.length = 24) : Calls Try.prog 58 #[.agg (vals .u8 x)] w fun e w' => e = .returned (.bool (okF x)) ∧ Below w.heap.size w w' := by
  have hm := Mem.start w
  have HCF : Aside0 (∀ g W, W.heap[g]? = some (.cells (vals .u8 x) 67 (0, 0)) → Calls Try.prog 49 #[.slice (some ⟨g, 0, none⟩) 24 24, .func (.func 69) #[] #[]] W fun e w' => e = .returned (.bool (!okF x)) ∧ Below W.heap.size W w') := ⟨fun g W h => by
    have := containsFunc_fb (some ⟨g, 0, none⟩) 24 x W (C_of_cells (by omega) (cells_row h)) hx
    rw [hx] at this
    exact this⟩
  clear hx
  go_enter Try.func58, Try.ntmps58
  go_wp2_with (first
    | ((with_reducible refine gt_box 1 67 ?_); refine st_box rfl 1 rfl 67 _ rfl hm rfl (cs := vals .u8 x) rfl ?_; clear hm; intro g w1 hm; have HG := Aside0.mk (hm.mem (n := 0) rfl); have HB := Aside0.mk (hm.done rfl); clear hm)
    | (go_at_call 49; refine (HCF.out g _ HG.out).mono ?_; rintro e w2 ⟨rfl, hb2⟩; have HB2 := Aside0.mk hb2; clear hb2))
  go_ret
  exact ⟨by simp, below_then HB.out HB2.out⟩
set_option maxHeartbeats 1000000 in
set_option maxRecDepth 100000 in
theorem sc1_calls (x : List Int) (w : World) (hx : x.length = 24) : Calls Try.prog 57 #[.agg (vals .u8 x)] w fun e w' => e = .returned (.bool (!okF x)) ∧ Below w.heap.size w w' := by
  have hm := Mem.start w
  have HV := Aside0.mk (fun W => validFlag_calls x W hx)
  have HX := Aside0.mk (show (vals .u8 x).size = 24 by rw [vals_size]; exact hx)
  clear hx
  generalize okF x = b at *
  go_enter Try.func57, Try.ntmps57
  go_wp2_with (first
    | ((with_reducible refine gt_box 1 67 ?_); refine st_box rfl 1 rfl 67 _ rfl hm rfl (cs := vals .u8 x) rfl ?_; clear hm; intro g w1 hm; have HG := Aside0.mk (hm.mem (n := 0) rfl); have HB := Aside0.mk (hm.done rfl); clear hm)
    | ((with_reducible refine gt_load 67 ?_); refine Kd.event_run rfl (y_rowA (by rfl) (by rfl) HG.out aggFlag HX.out) ?_)
    | (go_at_call 58; refine (HV.out _).mono ?_; rintro e w2 ⟨rfl, hb2⟩; have HB2 := Aside0.mk hb2; clear hb2))
  go_ret
  exact ⟨rfl, below_then HB.out HB2.out⟩
set_option maxHeartbeats 1000000 in
set_option maxRecDepth 100000 in
theorem indexFunc_f (A0 : Option Addr) (c0 : Nat) (l : List (List Int)) (w : World) (hr0 : Kd.C (kA .u8 24) w A0 l.length l) (hn : l.length ≤ 1048576) :
    Calls Try.prog 68 #[.slice A0 l.length c0, .func (.func 57) #[] #[]] w fun e w' => e = .returned (.int .i64 (ixn (fun j => !okF (ra l j)) l.length)) ∧ Below w.heap.size w w' := by
  have hg := sc1_enters
  have HR0 := Aside0.mk hr0
  clear hr0
  go_enter Try.func68, Try.ntmps68
  go_wp2_with fail
  go_loopw [8, 5] (fun v8 v5 wr => ∃ i : Nat, i ≤ l.length ∧ v8 = .int .i64 i ∧ Aside0 (Below w.heap.size w wr) ∧ Aside0 (∀ j : Nat, j < i → (!okF (ra l j)) = false)) (fun v8 _ _ => l.length - (intOf v8).toNat)
  case atStart => exact ⟨0, Nat.zero_le _, rfl, ⟨Below.refl _ _⟩, ⟨fun j hj => absurd hj (by omega)⟩⟩
  case round =>
    obtain ⟨i, hi, rfl, HB, HP⟩ := hrel
    by_cases hlt : i < l.length
    · obtain ⟨ad, rfl, hx24, hcell⟩ := at_A (Kd.C_below HR0.out HB.out) i hlt
      have HC := Aside0.mk (cells_of (p := ad.add (i * 24)) (k := .u8) (x := ra l i) (by rw [hx24]; exact hcell))
      have HM := Aside0.mk (sc1_calls (ra l i) wr hx24)
      have HX6 := Aside0.mk (show ((ra l i).map (Value.int .u8)).length = 24 by rw [List.length_map]; exact hx24)
      have hv : ((ra l i).map (Value.int .u8)).toArray = vals .u8 (ra l i) := rfl
      have HV := Aside0.mk hv
      clear hcell hx24 hv
      cases hp : (!okF (ra l i)) with
      | true =>
        have HX := Aside0.mk (ixn_found (fun j => !okF (ra l j)) l.length i hlt HP.out hp)
        rw [hp] at HM
        clear hp
        go_wp2_with (first
          | ((with_reducible refine gt_load 67 ?_); refine Kd.event_run rfl (y_loadA (by rfl) (p := ad.add (i * 24)) (by rfl) HC.out aggFlag HX6.out) ?_)
          | (refine HM.out.mono ?_; rintro e w1 ⟨rfl, hb1⟩; have HB1 := Aside0.mk hb1; clear hb1))
        go_ret
        exact ⟨by rw [HX.out]; rfl, below_then HB.out HB1.out⟩
      | false =>
        have HPX := Aside0.mk hp
        rw [hp] at HM
        clear hp
        go_wp2_with (first
          | ((with_reducible refine gt_load 67 ?_); refine Kd.event_run rfl (y_loadA (by rfl) (p := ad.add (i * 24)) (by rfl) HC.out aggFlag HX6.out) ?_)
          | (refine HM.out.mono ?_; rintro e w1 ⟨rfl, hb1⟩; have HB1 := Aside0.mk hb1; clear hb1))
        go_roundw
        case rel => exact ⟨i + 1, by omega, by go_num, ⟨below_then HB.out HB1.out⟩, ⟨fun j hj => by
          rcases Nat.lt_or_ge j i with h | h
          · exact HP.out j h
          · obtain rfl : j = i := by omega
            exact HPX.out⟩⟩
        case measure => simp [intOf]; omega
    · obtain rfl : i = l.length := by omega
      have HX := Aside0.mk (ixn_none (fun j => !okF (ra l j)) l.length HP.out)
      go_wp2_with fail
      go_ret
      exact ⟨by rw [HX.out]; rfl, HB.out⟩
set_option maxHeartbeats 1000000 in
set_option maxRecDepth 100000 in
theorem containsFunc_f (A0 : Option Addr) (c0 : Nat) (l : List (List Int)) (w : World) (hr0 : Kd.C (kA .u8 24) w A0 l.length l) (hn : l.length ≤ 1048576) :
    Calls Try.prog 56 #[.slice A0 l.length c0, .func (.func 57) #[] #[]] w fun e w' => e = .returned (.bool (!flagsB l)) ∧ Below w.heap.size w w' := by
  have HM := Aside0.mk (indexFunc_f A0 c0 l w hr0 hn)
  have HA := Aside0.mk (ixn_any (fun j => !okF (ra l j)) l.length)
  have HO := Aside0.mk (show flagsB l = decide (∀ j : Nat, j < l.length → (!okF (ra l j)) = false) by
    unfold flagsB
    congr 1
    apply propext
    exact ⟨fun h j hj => by rw [h j hj]; rfl, fun h j hj => by have := h j hj; simpa using this⟩)
  clear hr0
  rw [HO.out]
  generalize ixn (fun j => !okF (ra l j)) l.length = n at *
  generalize decide (∀ j : Nat, j < l.length → (!okF (ra l j)) = false) = b at *
  go_enter Try.func56, Try.ntmps56
  go_wp2_with (go_at_call 68; refine HM.out.mono ?_; rintro e w1 ⟨rfl, hb1⟩; have HB1 := Aside0.mk hb1; clear hb1)
  go_ret
  exact ⟨by rw [← HA.out]; rfl, HB1.out⟩
/-- The code of a set of flags. -/
def setC (l : List (List Int)) : Int := if flagsB l = true then (if (l.length : Int) ≤ 40 then 0 else 3) else 1
theorem within0 (w : World) : Calls Try.prog 44 #[.int .i64 0, .int .i64 0, .int .i64 6] w fun e w' => e = .returned (.bool true) ∧ Below w.heap.size w w' := by
  go_enter Try.func44, Try.ntmps44
  go_wp2_with fail
  go_ret
  exact ⟨rfl, Below.refl _ _⟩
theorem unless0 (w : World) : Calls Try.prog 43 #[.bool true, .int .i64 2] w fun e w' => e = .returned (.int .i64 0) ∧ Below w.heap.size w w' := by
  go_enter Try.func43, Try.ntmps43
  go_wp2_with fail
  go_ret
  exact ⟨rfl, Below.refl _ _⟩
set_option maxHeartbeats 1000000 in
set_option maxRecDepth 100000 in
theorem setCode_calls (A0 : Option Addr) (c0 : Nat) (l : List (List Int)) (w : World) (hr0 : Kd.C (kA .u8 24) w A0 l.length l) (hn : l.length ≤ 1048576) :
    Calls Try.prog 34 #[.slice A0 l.length c0, .int .i64 0] w fun e w' => e = .returned (.int .i64 (setC l)) ∧ Below w.heap.size w w' := by
  have HM := Aside0.mk (containsFunc_f A0 c0 l w hr0 hn)
  have HW := Aside0.mk within0
  have HU := Aside0.mk unless0
  clear hr0
  unfold setC
  cases hf : flagsB l with
  | false =>
    rw [hf] at HM
    clear hf
    go_enter Try.func34, Try.ntmps34
    go_wp2_with (go_at_call 56; refine HM.out.mono ?_; rintro e w1 ⟨rfl, hb1⟩; have HB1 := Aside0.mk hb1; clear hb1)
    go_ret
    exact ⟨rfl, HB1.out⟩
  | true =>
    rw [hf] at HM
    clear hf
    simp only [if_true]
    by_cases h40 : (l.length : Int) ≤ 40
    · rw [if_pos h40]
      have hh : ¬ (40 : Int) < (l.length : Int) := by omega
      go_enter Try.func34, Try.ntmps34
      go_wp2_with (first
        | (go_at_call 56; refine HM.out.mono ?_; rintro e w1 ⟨rfl, hb1⟩; have HB1 := Aside0.mk hb1; clear hb1)
        | (go_at_call 44; refine (HW.out _).mono ?_; rintro e w2 ⟨rfl, hb2⟩; have HB2 := Aside0.mk (below_then HB1.out hb2); clear hb2)
        | (go_at_call 43; refine (HU.out _).mono ?_; rintro e w3 ⟨rfl, hb3⟩; have HB3 := Aside0.mk (below_then HB2.out hb3); clear hb3))
      go_ret
      exact ⟨rfl, HB3.out⟩
    · rw [if_neg h40]
      have hh : (40 : Int) < (l.length : Int) := by omega
      go_enter Try.func34, Try.ntmps34
      go_wp2_with (go_at_call 56; refine HM.out.mono ?_; rintro e w1 ⟨rfl, hb1⟩; have HB1 := Aside0.mk hb1; clear hb1)
      go_ret
      exact ⟨rfl, HB1.out⟩
set_option maxHeartbeats 1000000 in
set_option maxRecDepth 100000 in
/-- The reference on one flag, wherever it lies. -/
theorem l01Ok_calls (p : Addr) (x : List Int) (w : World) (h : ∀ j : Nat, j < 24 → w.cell? (p.add j) = some (.int .u8 (rd x (j : Int)))) :
    Calls Try.prog 54 #[.pointer (some p)] w fun e w' => e = .returned (.bool (okF x)) ∧ Below w.heap.size w w' := by
  have HC := Aside0.mk h
  clear h
  go_enter Try.func54, Try.ntmps54
  go_wp2_with fail
  go_loopw [3] (fun v3 wr => ∃ k : Nat, k ≤ 24 ∧ v3 = .int .i64 k ∧ Aside0 (Below w.heap.size w wr) ∧ Aside0 (∀ j : Nat, j < k → rd x (j : Int) ≤ 5)) (fun v3 _ => 24 - (intOf v3).toNat)
  case atStart => exact ⟨0, by omega, rfl, ⟨Below.refl _ _⟩, ⟨fun j hj => absurd hj (by omega)⟩⟩
  case round =>
    obtain ⟨k, hk, rfl, HB2, HQ⟩ := hrel
    by_cases hk6 : k < 24
    · have hc := pw_cell_below HB2.out (HC.out k hk6)
      by_cases h5 : rd x (k : Int) ≤ 5
      · have h5' : ¬ (5 < rd x (k : Int)) := by omega
        go_wp2_with fail
        go_roundw
        case rel => exact ⟨k + 1, by omega, by go_num, HB2, ⟨fun j hj => by
          rcases Nat.lt_or_ge j k with h | h
          · exact HQ.out j h
          · obtain rfl : j = k := by omega
            exact h5⟩⟩
        case measure => simp [intOf]; omega
      · have h5' : 5 < rd x (k : Int) := by omega
        have HF := Aside0.mk (show okF x = false from decide_eq_false (fun h => h5 (h k hk6)))
        go_wp2_with fail
        go_ret
        exact ⟨by rw [HF.out]; rfl, HB2.out⟩
    · have HI := Aside0.mk (show okF x = true from decide_eq_true (fun j hj => HQ.out j (by omega)))
      have hk6i : ¬ ((k : Int) < 24) := by omega
      go_wp2_with fail
      go_ret
      exact ⟨by rw [HI.out]; rfl, HB2.out⟩
end Go.Proofs.Ytodgnbcfihifiaa.Arr
