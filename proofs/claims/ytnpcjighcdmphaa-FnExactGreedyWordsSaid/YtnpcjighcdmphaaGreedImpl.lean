/- The program's greedy words. No condition. -/
import Derived.Test.YtnpcjighcdmphaaGreedA
import Derived.Test.YtnpcjighcdmphaaArrF
import Derived.Test.YtnpcjighcdmphaaArrO
import Derived.Test.YtnpcjighcdmphaaArrS
import Derived.BigQuiet
import Derived.Test.YtnpcjighcdmphaaPGx2
import Derived.Test.YtnpcjighcdmphaaPGx3
import Derived.Test.YtnpcjighcdmphaaPGx4
namespace Go.Proofs.Ytnpcjighcdmphaa.Arr
open Go.RowKit Go.Proofs.YtnpcjighcdmphaaW.PrintWords Go.Proofs.YtnpcjighcdmphaaW.PrintLast Go.Proofs.YtnpcjighcdmphaaW.PrintMore Go.Proofs.Ytnpcjighcdmphaa.U Go.Proofs.Ytnpcjighcdmphaa.G
set_option linter.unusedVariables false
set_option linter.unusedSimpArgs false

theorem C_ints2 {w : World} {g : Nat} {a b : Int} {t : TypeId} (h : w.heap[g]? = some (.cells (vals .i64 [a, b]) t (0, 0))) : Kd.C (Kd.int .i64) w (some ⟨g, 0, none⟩) 2 [a, b] := by
  refine ⟨rfl, by omega, fun _ => ⟨_, rfl, fun j y hj => ?_⟩⟩
  refine ⟨[.int .i64 y], rfl, rfl, fun i u hu => ?_⟩
  match i, hu with
  | 0, hu =>
    obtain rfl := Option.some.inj hu
    have hadd : (⟨g, 0, none⟩ : Addr).add (j * 1 + 0) = ⟨g, j, none⟩ := by unfold Addr.add; split <;> simp_all
    show w.cell? ((⟨g, 0, none⟩ : Addr).add (j * 1 + 0)) = _
    rw [hadd, cell_of_row w g j _ _ (0, 0) h]
    simp only [vals, List.getElem?_toArray, List.getElem?_map, hj]
    rfl
  | i + 1, hu => simp at hu
theorem below_then {w w1 w2 : World} (h1 : Below w.heap.size w w1) (h2 : Below w1.heap.size w1 w2) : Below w.heap.size w w2 := h1.trans (h2.mono h1.size)
theorem fill_int {k : IntKind} {z : Int} {cells : Array Value} {i : Nat} {place : Nat → Option (Nat × Nat)} {off : Nat} {rest : List (Nat × Value)} (hp : place i = some (off, 1)) (hc : off + 1 ≤ cells.size) :
    Instr.fill place cells ((i, .int k z) :: rest) = Instr.fill place (cells.setIfInBounds off (.int k z)) rest := by
  rw [Instr.fill, hp]
  have hs : (Value.int k z).cells.size = 1 := rfl
  simp only [hs]
  rw [if_neg (by simp; omega)]
  congr 1
section
variable {P : Program} {ops : Array Oper} {rest : List Oper} {o : Oper} {a : Act} {w0 w : World} {M : List Ent} {Q : Exit → Act → World → Prop}
theorem st_ints2 (hgd : o.guard = none) (d : Nat) (hdst : o.dst = some d) (t : TypeId) (x y : Operand) (ho : o.op = .buildSlice t 2 #[(0, x), (1, y)]) (hm : Mem w0 w M) {k : IntKind} {z z' : Int} {e : TypeId} (hx : a.eval x = .int k z) (hy : a.eval y = .int k z') (hu : P.underlying t = some (.slice e))
    (he : OneTy P e) (hz : ZeroTy P e (vals k [0]))
    (h : ∀ g w1, Mem w0 w1 (⟨g, vals k [z, z'], e, true⟩ :: M) → wpList P ops Q rest (a.put (some d) (.slice (some ⟨g, 0, none⟩) 2 2)) w1) : wpList P ops Q (o :: rest) a w := by
  obtain ⟨zz, hz, hzc⟩ := hz
  obtain ⟨_, hi⟩ := he
  refine wpList_plain hgd fun K hK => ?_
  rw [← hdst] at h
  unfold Oper.wp execOp
  cases hq : P.info? e with
  | none => simp [hq] at hi
  | some i =>
    have hs : i.size = 1 := by simpa [hq] using hi
    have hz' : i.zero = some zz := by simpa [hq] using hz
    have hf := fill_int (k := k) (z := z) (cells := (Array.range (2 * 1)).map (zz.cells[· % zz.cells.size]!)) (off := 0) (place := fun i => some (i * 1, 1)) (i := 0) (rest := [(1, .int k z')]) (by simp) (by simp)
    rw [fill_int (k := k) (z := z') (off := 1) (by simp) (by simp)] at hf
    have hc : (((Array.range (2 * 1)).map (zz.cells[· % zz.cells.size]!)).setIfInBounds 0 (.int k z)).setIfInBounds 1 (.int k z') = vals k [z, z'] := by
      rw [show Array.range (2 * 1) = #[0, 1] from rfl]
      generalize (fun x => zz.cells[x % zz.cells.size]!) = f
      simp [vals]
    rw [hc] at hf
    have hrun : (Instr.buildSlice t 2 #[(0, .int k z), (1, .int k z')]).run P w = .ok (.slice (some ⟨w.heap.size, 0, none⟩) 2 2) (w.alloc (.cells (vals k [z, z']) e)) := by
      simp only [Instr.buildSlice, Sem.run_bind, run_underlying hu w, Result.andThen_ok, sizeOf, typeInfo, run_program, hq, Sem.run_pure, hs, zeroValue, hz']
      rw [if_neg (by omega), if_neg (by omega)]
      simp only [Sem.run_bind, Sem.run_pure, Result.andThen_ok, hq, hz', hf, run_program]
      simp [Instr.fill, newRow, Sem.run_bind]
    simp only [ho, List.map_toArray, List.map_cons, List.map_nil, hx, hy, Sem.run_bind, hrun, Sem.run_pure, Result.andThen_ok]
    exact hK _ _ (h _ _ (hm.new _ _))
end
/-- The first code that is not zero. -/
def fst2 (a b : Int) : Int := if a = 0 then b else a
theorem firstOf_calls (g : Nat) (a b : Int) (w : World) (h : w.heap[g]? = some (.cells (vals .i64 [a, b]) 2 (0, 0))) :
    Calls Try.prog 14 #[.slice (some ⟨g, 0, none⟩) 2 2] w fun e w' => e = .returned (.int .i64 (fst2 a b)) ∧ Below w.heap.size w w' := by
  refine (impl_firstOf.calls 4 _ 2 [a, b] (fst2 a b) w (C_ints2 h) (by simp) ?_).mono ?_
  · unfold impl_firstOf.f fst2
    by_cases ha : a = 0
    · by_cases hb : b = 0
      · simp [impl_firstOf.l0, rd, ha, hb, wrap64]
      · simp [impl_firstOf.l0, rd, ha, hb, wrap64]
    · simp [impl_firstOf.l0, rd, ha, wrap64]
  · rintro e w' ⟨rfl, hb⟩
    exact ⟨rfl, by first | exact hb | exact hb.below⟩

section
variable {P : Program} {o : Oper} {a : Act} {w : World}
theorem y_store1F {ty : TypeId} {x y : Operand} (ho : o.op = .store ty x y) {g i : Nat} {v u : Value} {cs : Array Value} {t : TypeId} (hx : a.eval x = .pointer (some ⟨g, i, none⟩)) (hy : a.eval y = v) (hc : w.heap[g]? = some (.cells cs t (0, 0))) (hi : cs[i]? = some u) (h1 : OneTy P ty) (hv : v.cells = #[v]) (hv1 : v.oneCell' = true) : (execOp a.eval o).run P w = .ok .skip (w.setCell ⟨g, i, none⟩ v) := by
  have hst : (storeVar ty ⟨g, i, none⟩ v).run P w = .ok () (w.setCell ⟨g, i, none⟩ v) := run_store1 h1.2 hv ((cell_of_row w g i cs t (0, 0) hc).trans hi) (frozen_of_row w g i cs t hc) hv1
  unfold execOp
  simp only [ho, hx, hy, Instr.storeAt, Instr.sureAddr, Sem.run_bind, Sem.run_pure, Result.andThen_ok, hst]
end
section
variable {P : Program} {o : Oper} {a : Act} {w : World}
theorem y_cellG {ty : TypeId} {x : Operand} {p : Addr} {v : Value} (ho : o.op = .load ty x) (hx : a.eval x = .pointer (some p)) (h1 : OneTy P ty) (hc : w.cell? p = some v) : (execOp a.eval o).run P w = .ok (.value v) w := by
  have hd := h1.1
  unfold execOp
  have hagg : (isAgg ty).run P w = .ok false w := by
    unfold isAgg
    cases hu : P.underlying ty with
    | none => simp [hu] at hd
    | some d =>
      rw [Sem.run_bind, run_underlying hu w]
      cases d <;> simp_all
  simp only [ho, hx, Instr.loadAt, Instr.sureAddr, Sem.run_bind, Sem.run_pure, Result.andThen_ok, loadVar, hagg]
  simp [run_load, hc]
end
theorem far_setG {w : World} {g k i : Nat} {v : Value} {o : Obj} (h : w.heap[k]? = some o) (hne : k ≠ g) : (w.setCell ⟨g, i, none⟩ v).heap[k]? = some o := (Below.heap_setCell w ⟨g, i, none⟩ v k hne).trans h
theorem oneWd : OneTy Try.prog 32 := ⟨by kernel_rfl, by kernel_rfl⟩
theorem zeroWd : ZeroTy Try.prog 32 #[.slice none 0 0] := ⟨.slice none 0 0, by kernel_rfl, rfl⟩
theorem infoWd : (Try.prog.info? 32).map (fun i => (i.zero, i.size, i.bytes)) = some (some (.slice none 0 0), 1, 24) := by kernel_rfl
theorem within_calls (a lo hi : Int) (w : World) : Calls Try.prog 17 #[.int .i64 a, .int .i64 lo, .int .i64 hi] w fun e w' => e = .returned (.bool (decide (lo ≤ a ∧ a ≤ hi))) ∧ Below w.heap.size w w' := by
  refine (impl_within.calls a lo hi _ w (within_evG a lo hi)).mono ?_
  rintro e w' ⟨rfl, h⟩
  exact ⟨rfl, h.below⟩
def unl (b : Bool) (c : Int) : Int := if b = true then 0 else c
theorem unless_calls (b : Bool) (c : Int) (w : World) : Calls Try.prog 16 #[.bool b, .int .i64 c] w fun e w' => e = .returned (.int .i64 (unl b c)) ∧ Below w.heap.size w w' := by
  refine (impl_unless.calls b c (unl b c) w (by unfold impl_unless.f unl; cases b <;> rfl)).mono ?_
  rintro e w' ⟨rfl, h⟩
  exact ⟨rfl, h.below⟩
/-- The code of letters, a length and a distance. -/
def apartC (b len a : Int) : Int := if (2 ≤ b ∧ b ≤ 37) ∧ (1 ≤ len ∧ len ≤ 8) ∧ (1 ≤ a ∧ a ≤ len) then 0 else 2
theorem apartC_f (b len a : Int) : impl_apartCode.f b len a = some (apartC b len a) := by
  unfold impl_apartCode.f apartC
  rw [within_evG]
  by_cases h1 : 2 ≤ b ∧ b ≤ 37
  · rw [decide_eq_true h1, Option.bind_some, if_pos rfl, within_evG]
    by_cases h2 : 1 ≤ len ∧ len ≤ 8
    · rw [decide_eq_true h2, Option.bind_some, if_pos rfl, within_evG]
      by_cases h3 : 1 ≤ a ∧ a ≤ len
      · rw [decide_eq_true h3, if_pos ⟨h1, h2, h3⟩]; rfl
      · rw [decide_eq_false h3, if_neg (fun h => h3 h.2.2)]; rfl
    · rw [decide_eq_false h2, if_neg (fun h => h2 h.2.1)]; rfl
  · rw [decide_eq_false h1, if_neg (fun h => h1 h.1)]; rfl
theorem apartCode_calls (b len a : Int) (w : World) : Calls Try.prog 15 #[.int .i64 b, .int .i64 len, .int .i64 a] w fun e w' => e = .returned (.int .i64 (apartC b len a)) ∧ Below w.heap.size w w' := by
  refine (impl_apartCode.calls b len a _ w (apartC_f b len a)).mono ?_
  rintro e w' ⟨rfl, h⟩
  exact ⟨rfl, h.below⟩
theorem power_calls (b : Int) (n : Nat) (hn : n ≤ 8) (w : World) : Calls Try.prog 18 #[.int .i64 b, .int .i64 (n : Int)] w fun e w' => e = .returned (.int .i64 (pw b n 1)) ∧ Below w.heap.size w w' := by
  obtain ⟨k, hk⟩ := (show Ev (fun k => impl_power.f k b (n : Int)) (pw b n 1) by unfold impl_power.f; exact ipow b n 0 1 (by omega)).rounds
  refine (impl_power.calls k b n _ w hk).mono ?_
  rintro e w' ⟨rfl, h⟩
  exact ⟨rfl, h.below⟩
/-- A row of words. -/
abbrev kWd : Kd (List Int) := Kd.slice 5 (Kd.int .u8)
theorem sizeW_calls (A : Option Addr) (c : Nat) (l : List (List Int)) (w : World) (hr : Kd.C kWd w A l.length l) (hc : l.length ≤ c) (hn : l.length ≤ 5000) : Calls Try.prog 20 #[.slice A l.length c] w fun e w' => e = .returned (.int .i64 l.length) ∧ Below w.heap.size w w' := by
  refine (impl_Word_20.calls A c l (l.length : Int) w hr hc (by unfold impl_Word_20.f; first | rfl | (rw [w64 (by omega) (by omega)]))).mono ?_
  rintro e w' ⟨rfl, h⟩
  exact ⟨rfl, h.below⟩
theorem near_enters (a : Array Value) (W : World) : (callFunc 22 a).run Try.prog W = .ok (.enter 22 a) W := by kernel_rfl
set_option maxHeartbeats 4000000 in
set_option maxRecDepth 100000 in
theorem near_calls (y x : List Int) (a : Int) (A : Option Addr) (c : Nat) (Ax : Option Addr) (cx : Nat) (g14 g6 : Nat) (w : World) (hr : Kd.C (Kd.int .u8) w A y.length y) (hc : y.length ≤ c) (hrx : Kd.C (Kd.int .u8) w Ax x.length x) (hcx : x.length ≤ cx) (hl : y.length = x.length) (hn : y.length ≤ 8)
    (h14 : w.heap[g14]? = some (.cells #[.slice Ax x.length cx] 32 (0, 0))) (h6 : w.heap[g6]? = some (.cells #[.int .i64 a] 2 (0, 0))) :
    Calls Try.prog 22 (#[.slice A y.length c] ++ #[.pointer (some ⟨g14, 0, none⟩), .pointer (some ⟨g6, 0, none⟩)]) w fun e w' => e = .returned (.bool (nearB a x y)) ∧ Below w.heap.size w w' := by
  obtain ⟨k, hk⟩ := (unlike_ev y x hl (by omega)).rounds
  have HU := Aside0.mk (fun W (hW : Below w.heap.size w W) => impl_unlike.calls k A c y Ax cx x _ W (Kd.C_below hr hW) hc (Kd.C_below hrx hW) hcx hk)
  have H14 := Aside0.mk h14
  have H6 := Aside0.mk h6
  unfold nearB
  clear hr hrx hl hk h14 h6 hc hcx
  generalize apartTo y x y.length = q at *
  generalize y.length = ny at *
  generalize x.length = nx at *
  go_enter Try.func22, Try.ntmps22
  go_wp2_with fail
  refine start_ (n := 6) (S := fun w' => Below w.heap.size w w') (ds := []) #[false, false, false, false, false, false] (by kernel_rfl) rfl rfl (below_drew1 (Below.refl _ _)) (fun hHeld => ?_)
  refine pure_ (i := 0) (N := some 5) (v := ?_) (a' := ?_) #[true, false, false, false, false, false] rfl rfl (by kernel_rfl) (fun _ _ _ h => h) (Or.inl ⟨by rfl, ?_⟩) ?_ ?_
  rotate_left
  · intro w'
    go_simp
    with_reducible rfl
  rotate_left
  · simp only [Act.put, List.setIfInBounds_toArray, List.set_cons_zero, List.set_cons_succ, i64_w, i32_w]
    rfl
  refine take_ (i := 1) (N := some 6) (v := .slice Ax nx cx) (a' := ?_) #[true, true, false, false, false, false] rfl rfl (by kernel_rfl) (fun _ _ _ h => h) (Or.inl ⟨by rfl, ?_⟩) hHeld ?_ ?_
  · intro w' s0
    exact y_cellG (by rfl) (by rfl) oneWd ((blk_cell ((s0.block _ (lt_of_some H14.out)).trans H14.out) 0).trans rfl)
  rotate_left
  · simp only [Act.put, List.setIfInBounds_toArray, List.set_cons_zero, List.set_cons_succ, i64_w, i32_w]
    rfl
  refine take_ (i := 3) (N := some 8) (v := .int .i64 a) (a' := ?_) #[true, true, false, true, false, false] rfl rfl (by kernel_rfl) (fun _ _ _ h => h) (Or.inl ⟨by rfl, ?_⟩) hHeld ?_ ?_
  · intro w' s0
    exact y_cellG (by rfl) (by rfl) one2 ((blk_cell ((s0.block _ (lt_of_some H6.out)).trans H6.out) 0).trans rfl)
  rotate_left
  · simp only [Act.put, List.setIfInBounds_toArray, List.set_cons_zero, List.set_cons_succ, i64_w, i32_w]
    rfl
  refine one_ (i := 2) (N := some 7) #[true, true, true, true, false, false] rfl rfl (by kernel_rfl) (by decide) (fun K hK => ?_)
  refine goes_ Try.func23 (by kernel_rfl) rfl #[.slice A ny c, .slice Ax nx cx] (by rfl) rfl rfl (by simp only [List.map_toArray, List.map_cons, List.map_nil]; rfl) ?_
  refine (HU.out _ hHeld).mono ?_
  rintro e w5 ⟨rfl, h⟩
  refine ⟨_, rfl, ?_⟩
  refine hK.out _ _ (hHeld.trans (h.below.mono hHeld.size)) (fun hHeld => ?_)
  clear hK K
  refine norm_ (a' := ?_) ?_ ?_
  rotate_left
  · show Act.put _ (some 7) _ = _
    simp only [Act.put, List.setIfInBounds_toArray, List.set_cons_zero, List.set_cons_succ, i64_w, i32_w]
    rfl
  refine pure_ (i := 4) (N := some 9) (v := ?_) (a' := ?_) #[true, true, true, true, true, false] rfl rfl (by kernel_rfl) (fun _ _ _ h => h) (Or.inl ⟨by rfl, ?_⟩) ?_ ?_
  rotate_left
  · intro w'
    go_simp
    with_reducible rfl
  rotate_left
  · simp only [Act.put, List.setIfInBounds_toArray, List.set_cons_zero, List.set_cons_succ, i64_w, i32_w]
    rfl
  refine pure_ (i := 5) (N := some 4) (v := ?_) (a' := ?_) #[true, true, true, true, true, true] rfl rfl (by kernel_rfl) (fun _ _ _ h => h) (Or.inl ⟨by rfl, ?_⟩) ?_ ?_
  rotate_left
  · intro w'
    go_simp
    with_reducible rfl
  rotate_left
  · simp only [Act.put, List.setIfInBounds_toArray, List.set_cons_zero, List.set_cons_succ, i64_w, i32_w]
    rfl
  refine done_ (by kernel_rfl) ?_
  skip
  go_wp2_with fail
  go_ret
  exact ⟨rfl, hHeld⟩
end Go.Proofs.Ytnpcjighcdmphaa.Arr
